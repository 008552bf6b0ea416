import Derived.Test.YtfdgbghlanbddaaDoorAvK0
import Derived.Test.YtfdgbghlanbddaaDoorAvK1
set_option linter.unusedVariables false
set_option linter.unusedSimpArgs false
namespace Go.Proofs.YtfdgbghlanbddaaDoor.Av
set_option maxRecDepth 8000
section
open Go.RowKit Go.Proofs
theorem Rx.cells_eq (r : Rx) : r.cells = [.int .i64 r.kind, .int .u64 r.set.w0, .int .u64 r.set.w1, .int .u64 r.set.w2, .int .u64 r.set.w3, .list 6 (r.args.map Rx.cells)] := by simp only [Rx.cells, Rx.rows_eq]
theorem Rx.ok.set {r : Rx} (h : r.ok) : r.set.ok := by cases r; simp only [Rx.ok] at h; exact h.2.1
theorem Rx.ok.args {r : Rx} (h : r.ok) : ∀ a ∈ r.args, a.ok := by cases r; simp only [Rx.ok] at h; exact (Rx.oks_iff _).1 h.2.2
theorem Rx.ok.arg {r : Rx} (h : r.ok) {k : Nat} (hk : k < r.args.length) : (r.args[k]).ok := h.args _ (List.getElem_mem hk)
theorem Rx.nodes_eq (r : Rx) : r.nodes = 1 + Rx.nodesL r.args := by cases r; simp only [Rx.nodes, Rx.args]
theorem Rx.nodes_arg (r : Rx) {k : Nat} (hk : k < r.args.length) : (r.args[k]).nodes + 1 ≤ r.nodes := by
 have h1 := Rx.nodes_mem hk
 have h2 := r.nodes_eq
 omega
theorem wrap8 {n : Int} (h0 : 0 ≤ n) (h1 : n < 256) : IntKind.u8.wrap n = n := by
 have : IntKind.u8.wrap n = n % 256 := by simp [IntKind.wrap, IntKind.signed, IntKind.bits]
 omega
theorem eqA (a b : W4) : (a.row.map valOf == b.row.map valOf) = decide (a = b) := by
 cases a; cases b
 rw [Bool.eq_iff_iff]
 simp [W4.row, valOf]
theorem neA (a b : W4) : (!(a.row.map valOf == b.row.map valOf)) = !decide (a = b) := by rw [eqA]
theorem drop_cons {α : Type} {l : List α} {k : Nat} (h : k < l.length) : l.drop k = l[k] :: l.drop (k + 1) := List.drop_eq_getElem_cons h
theorem cmpL_next {l m : List Rx} {k : Nat} (h1 : k < l.length) (h2 : k < m.length) (e : Rx.cmpL l m = Rx.cmpL (l.drop k) (m.drop k)) (h0 : l[k].cmp m[k] = 0) : Rx.cmpL l m = Rx.cmpL (l.drop (k + 1)) (m.drop (k + 1)) := by
 rw [e, drop_cons h1, drop_cons h2, Rx.cmpL, if_pos h0]
theorem cmpL_hit {l m : List Rx} {k : Nat} (h1 : k < l.length) (h2 : k < m.length) (e : Rx.cmpL l m = Rx.cmpL (l.drop k) (m.drop k)) (h0 : ¬ l[k].cmp m[k] = 0) : Rx.cmpL l m = l[k].cmp m[k] := by
 rw [e, drop_cons h1, drop_cons h2, Rx.cmpL, if_neg h0]
theorem cmpL_long {l m : List Rx} {k : Nat} (h1 : k < l.length) (h2 : m.length ≤ k) (e : Rx.cmpL l m = Rx.cmpL (l.drop k) (m.drop k)) : Rx.cmpL l m = 1 := by
 rw [e, drop_cons h1, List.drop_eq_nil_of_le h2]
 simp only [Rx.cmpL]
theorem cmpL_end {l m : List Rx} {k : Nat} (h1 : k = l.length) (h2 : k ≤ m.length) (e : Rx.cmpL l m = Rx.cmpL (l.drop k) (m.drop k)) : Rx.cmpL l m = if l.length < m.length then -1 else 0 := by
 subst h1
 rw [e, List.drop_eq_nil_of_le (Nat.le_refl _)]
 by_cases h : l.length < m.length
 ·rw [if_pos h, drop_cons h]; simp only [Rx.cmpL]
 ·rw [if_neg h, List.drop_eq_nil_of_le (by omega)]; simp only [Rx.cmpL]
theorem cmpL_at {l m : List Rx} {k : Nat} (h1 : k ≤ l.length) (h2 : k ≤ m.length) (e : Rx.cmpL l m = Rx.cmpL (l.drop k) (m.drop k)) (h : ¬ (k < l.length ∧ k < m.length)) : Rx.cmpL l m = if l.length < m.length then -1 else if m.length < l.length then 1 else 0 := by
 by_cases h3 : k = l.length
 ·rw [cmpL_end h3 h2 e]
  split
  ·rfl
  ·rw [if_neg (by omega)]
 ·rw [cmpL_long (k := k) (by omega) (by omega) e, if_neg (by omega), if_pos (by omega)]
theorem cmp_def (a b : Rx) : a.cmp b = if a.kind < b.kind then -1 else if b.kind < a.kind then 1 else if a.kind = 3 ∧ a.set ≠ b.set then (if a.set.less b.set = true then -1 else 1) else Rx.cmpL a.args b.args := by
 cases a; cases b
 rw [Rx.cmp]
 rfl
theorem cmp_kind {a b : Rx} (h : ¬ (if a.kind < b.kind then (-1 : Int) else if b.kind < a.kind then 1 else 0) = 0) : a.cmp b = if a.kind < b.kind then -1 else if b.kind < a.kind then 1 else 0 := by
 rw [cmp_def]
 by_cases h1 : a.kind < b.kind
 ·rw [if_pos h1, if_pos h1]
 ·rw [if_neg h1, if_neg h1]
  by_cases h2 : b.kind < a.kind
  ·rw [if_pos h2, if_pos h2]
  ·rw [if_neg h1, if_neg h2] at h; exact absurd rfl h
theorem cmp_kind2 {a b : Rx} (h : ¬ a.kind = b.kind) : a.cmp b = if a.kind < b.kind then -1 else if b.kind < a.kind then 1 else 0 := cmp_kind (by split <;> first | omega | (split <;> omega))
theorem cmp_kind0 {a b : Rx} (h : (if a.kind < b.kind then (-1 : Int) else if b.kind < a.kind then 1 else 0) = 0) : a.kind = b.kind := by
 split at h
 ·omega
 ·split at h <;> omega
theorem cmp_set {a b : Rx} (h : a.kind = b.kind) (h3 : a.kind = 3) (hs : ¬ a.set = b.set) : a.cmp b = if a.set.less b.set = true then -1 else 1 := by
 rw [cmp_def, if_neg (by omega), if_neg (by omega), if_pos ⟨h3, hs⟩]
theorem cmp_args {a b : Rx} (h : a.kind = b.kind) (h3 : ¬ a.kind = 3 ∨ a.set = b.set) : a.cmp b = Rx.cmpL a.args b.args := by
 rw [cmp_def, if_neg (by omega), if_neg (by omega), if_neg (fun e => h3.elim (fun x => x e.1) (fun x => e.2 x))]
theorem isSet_walk {w0 : World} {es : List Ent} (r : Rx) : ACalls Tryd.prog w0 133 [.agg r.cells] es fun v es' => v = .bool (decide (r.kind = 3)) ∧ es' = es := by
 rw [Rx.cells_eq r]
 refine calls1 (N := 6) Tryd.func133 rfl rfl (by decide) ?_
 refine w_seq ?_
 refine w_region ?_
 refine l_cons rfl (p_box fun s1 => ?_)
 refine l_cons rfl (p_assign ?_)
 refine l_nil ?_
 refine k_seq_normal ?_
 refine w_seq ?_
 refine w_region ?_
 refine l_cons rfl (p_fap fa_29_0 ?_)
 refine l_cons rfl (p_loadp ty_3 ?_)
 refine l_cons rfl (p_cmp ?_)
 refine l_cons rfl (p_assign ?_)
 refine l_nil ?_
 refine k_seq_normal ?_
 refine w_ret ?_
 exact ret1 rfl ev1 subx ⟨rfl, rfl⟩
theorem isNone_walk {w0 : World} {es : List Ent} (r : Rx) : ACalls Tryd.prog w0 132 [.agg r.cells] es fun v es' => v = .bool (decide (r.kind = 1)) ∧ es' = es := by
 rw [Rx.cells_eq r]
 refine calls1 (N := 6) Tryd.func132 rfl rfl (by decide) ?_
 refine w_seq ?_
 refine w_region ?_
 refine l_cons rfl (p_box fun s1 => ?_)
 refine l_cons rfl (p_assign ?_)
 refine l_nil ?_
 refine k_seq_normal ?_
 refine w_seq ?_
 refine w_region ?_
 refine l_cons rfl (p_fap fa_29_0 ?_)
 refine l_cons rfl (p_loadp ty_3 ?_)
 refine l_cons rfl (p_cmp ?_)
 refine l_cons rfl (p_assign ?_)
 refine l_nil ?_
 refine k_seq_normal ?_
 refine w_ret ?_
 exact ret1 rfl ev1 subx ⟨rfl, rfl⟩
theorem isEmpty_walk {w0 : World} {es : List Ent} (r : Rx) : ACalls Tryd.prog w0 142 [.agg r.cells] es fun v es' => v = .bool (decide (r.kind = 2)) ∧ es' = es := by
 rw [Rx.cells_eq r]
 refine calls1 (N := 6) Tryd.func142 rfl rfl (by decide) ?_
 refine w_seq ?_
 refine w_region ?_
 refine l_cons rfl (p_box fun s1 => ?_)
 refine l_cons rfl (p_assign ?_)
 refine l_nil ?_
 refine k_seq_normal ?_
 refine w_seq ?_
 refine w_region ?_
 refine l_cons rfl (p_fap fa_29_0 ?_)
 refine l_cons rfl (p_loadp ty_3 ?_)
 refine l_cons rfl (p_cmp ?_)
 refine l_cons rfl (p_assign ?_)
 refine l_nil ?_
 refine k_seq_normal ?_
 refine w_ret ?_
 exact ret1 rfl ev1 subx ⟨rfl, rfl⟩
theorem compareFunc_walk {w0 : World} {es : List Ent} (l m : List Rx) (h : ∀ k (h1 : k < l.length) (h2 : k < m.length) es, ACalls Tryd.prog w0 136 [.agg l[k].cells, .agg m[k].cells] es fun v es' => v = .int .i64 (l[k].cmp m[k]) ∧ es' = es) : ACalls Tryd.prog w0 155 [.list 6 (l.map Rx.cells), .list 6 (m.map Rx.cells), .fn (.func 136) [] []] es fun v es' => v = .int .i64 (Rx.cmpL l m) ∧ es' = es := by
 refine calls3 (N := 39) Tryd.func155 rfl rfl (by decide) ?_
 refine w_seq ?_
 refine w_region ?_
 refine l_cons rfl (p_assign ?_)
 refine l_nil ?_
 refine k_seq_normal ?_
 refine w_seq ?_
 refine w_seq ?_
 refine w_len 0 fun hl => ?_
 rw [List.length_map] at hl
 refine w_len 1 fun hm => ?_
 rw [List.length_map] at hm
 simp only [most] at hl hm
 refine w_region ?_
 refine l_cons rfl (p_move ?_)
 refine l_cons rfl (p_lenl sl_27 ?_)
 refine l_cons rfl (p_move ?_)
 refine l_nil ?_
 refine k_seq_normal ?_
 refine w_block ?_
 refine w_loop (fun q f es' => ∃ k, q = l.length - k ∧ k ≤ l.length ∧ k ≤ m.length ∧ Rx.cmpL l m = Rx.cmpL (l.drop k) (m.drop k) ∧ Sub es es' ∧ Knows f [(0, .list 6 (l.map Rx.cells)), (1, .list 6 (m.map Rx.cells)), (2, .fn (.func 136) [] []), (11, .list 6 (l.map Rx.cells)), (12, .int .i64 l.length), (13, .int .i64 k)]) (l.length) (⟨0, rfl, Nat.zero_le _, Nat.zero_le _, rfl, Sub.refl _, kn⟩) ?_
 rintro q f es' ⟨k, rfl, hk1, hk2, hk3, hsub, hk⟩
 refine w_pins _ hsub (hk) ?_
 simp only [pins]
 refine w_seq ?_
 refine w_region ?_
 refine l_cons rfl (p_cmp ?_)
 refine l_nil ?_
 refine k_seq_normal ?_
 refine w_seq ?_
 refine w_b (fun h1 => ?_) (fun h1 => ?_)
 ·skip
  have h1' := h1; (try simp only [bb] at h1')
  refine w_skip ?_
  refine k_seq_normal ?_
  refine w_seq ?_
  refine w_block ?_
  refine w_seq ?_
  refine w_region ?_
  refine l_cons rfl (p_move ?_)
  refine l_cons rfl (p_ixl sl_27 ?_)
  refine l_cons rfl (p_loadf ty_29 ?_)
  refine l_cons rfl (p_alloc ze_29 fun s8 => ?_)
  refine l_cons rfl (p_assign ?_)
  refine l_cons rfl (p_store ty_29 ?_)
  refine l_nil ?_
  refine k_seq_normal ?_
  refine w_seq ?_
  refine w_seq ?_
  refine w_region ?_
  refine l_cons rfl (p_move ?_)
  refine l_cons rfl (p_move ?_)
  refine l_cons rfl (p_lenl sl_27 ?_)
  refine l_cons rfl (p_cmp ?_)
  refine l_nil ?_
  refine k_seq_normal ?_
  refine w_b (fun h2 => ?_) (fun h2 => ?_)
  ·skip
   have h2' := h2; (try simp only [bb] at h2')
   refine w_seq ?_
   refine w_region ?_
   refine l_cons rfl (p_assign ?_)
   refine l_nil ?_
   refine k_seq_normal ?_
   refine w_ret ?_
   refine k_seq_ret ?_
   refine k_blk_ret ?_
   refine k_seq_ret ?_
   refine k_seq_ret ?_
   refine k_blk_ret ?_
   refine k_seq_ret ?_
   exact ret1 rfl ev1 subx ⟨by rw [cmpL_long (k := k) (by omega) (by omega) hk3], rfl⟩
  ·skip
   have h2' := h2; (try simp only [bb] at h2')
   refine w_skip ?_
   refine k_seq_normal ?_
   refine w_seq ?_
   refine w_region ?_
   refine l_cons rfl (p_move ?_)
   refine l_cons rfl (p_move ?_)
   refine l_cons rfl (p_ixl sl_27 ?_)
   refine l_cons rfl (p_loadf ty_29 ?_)
   refine l_cons rfl (p_alloc ze_29 fun s9 => ?_)
   refine l_cons rfl (p_store ty_29 ?_)
   refine l_nil ?_
   refine k_seq_normal ?_
   refine w_seq ?_
   refine w_region ?_
   refine l_cons rfl (p_move ?_)
   refine l_cons rfl (p_loadp ty_29 ?_)
   refine l_cons rfl (p_loadp ty_29 ?_)
   refine l_cons rfl (p_callr en_136 (h k (by omega) (by omega) _) ?_)
   refine l_cons rfl (p_assign ?_)
   refine l_nil ?_
   refine k_seq_normal ?_
   refine w_seq ?_
   refine w_region ?_
   refine l_cons rfl (p_move ?_)
   refine l_cons rfl (p_cmp ?_)
   refine l_nil ?_
   refine k_seq_normal ?_
   refine w_b (fun h3 => ?_) (fun h3 => ?_)
   ·skip
    have h3' := h3; (try simp only [bb] at h3')
    refine w_seq ?_
    refine w_region ?_
    refine l_cons rfl (p_move ?_)
    refine l_cons rfl (p_assign ?_)
    refine l_nil ?_
    refine k_seq_normal ?_
    refine w_ret ?_
    refine k_blk_ret ?_
    refine k_seq_ret ?_
    refine k_seq_ret ?_
    refine k_blk_ret ?_
    refine k_seq_ret ?_
    exact ret1 rfl ev1 subx ⟨by rw [cmpL_hit (k := k) (by omega) (by omega) hk3 (by simpa using h3')], rfl⟩
   ·skip
    have h3' := h3; (try simp only [bb] at h3')
    refine w_skip ?_
    refine k_blk_normal ?_
    refine k_seq_normal ?_
    refine w_region ?_
    refine l_cons rfl (p_arith ?_)
    refine l_cons rfl (p_move ?_)
    refine l_nil ?_
    refine k_seq_normal ?_
    exact ⟨l.length - (k + 1), by omega, k + 1, rfl, by omega, by omega, cmpL_next (by omega) (by omega) hk3 (by simpa using h3'), (by first | exact sub2 _ _ _ | exact Sub.refl _), kn⟩
 ·skip
  have h1' := h1; (try simp only [bb] at h1')
  refine w_exit ?_
  refine k_seq_exit ?_
  refine k_seq_exit ?_
  refine k_blk_here ?_
  refine k_seq_normal ?_
  refine w_seq ?_
  refine w_seq ?_
  refine w_region ?_
  refine l_cons rfl (p_move ?_)
  refine l_cons rfl (p_lenl sl_27 ?_)
  refine l_cons rfl (p_move ?_)
  refine l_cons rfl (p_lenl sl_27 ?_)
  refine l_cons rfl (p_cmp ?_)
  refine l_nil ?_
  refine k_seq_normal ?_
  refine w_b (fun h4 => ?_) (fun h4 => ?_)
  ·skip
   have h4' := h4; (try simp only [bb] at h4')
   refine w_seq ?_
   refine w_region ?_
   refine l_cons rfl (p_assign ?_)
   refine l_nil ?_
   refine k_seq_normal ?_
   refine w_ret ?_
   refine k_seq_ret ?_
   exact ret1 rfl ev1 subx ⟨by rw [cmpL_end (k := k) (by omega) (by omega) hk3, if_pos (by omega)], rfl⟩
  ·skip
   have h4' := h4; (try simp only [bb] at h4')
   refine w_skip ?_
   refine k_seq_normal ?_
   refine w_seq ?_
   refine w_region ?_
   refine l_cons rfl (p_assign ?_)
   refine l_nil ?_
   refine k_seq_normal ?_
   refine w_ret ?_
   exact ret1 rfl ev1 subx ⟨by rw [cmpL_end (k := k) (by omega) (by omega) hk3, if_neg (by omega)], rfl⟩
theorem rxCompare {w0 : World} (hT : Tab w0) : ∀ (B : Nat) (a b : Rx) (es : List Ent), a.nodes ≤ B → a.ok → b.ok → ACalls Tryd.prog w0 136 [.agg a.cells, .agg b.cells] es fun v es' => v = .int .i64 (a.cmp b) ∧ es' = es := by
 intro B
 induction B using Nat.strongRecOn with
 | _ B ih => ?_
 intro a b es hB ha hb
 rw [Rx.cells_eq a, Rx.cells_eq b]
 refine calls2 (N := 34) Tryd.func136 rfl rfl (by decide) ?_
 refine w_seq ?_
 refine w_region ?_
 refine l_cons rfl (p_box fun s2 => ?_)
 refine l_cons rfl (p_box fun s3 => ?_)
 refine l_cons rfl (p_assign ?_)
 refine l_nil ?_
 refine k_seq_normal ?_
 refine w_seq ?_
 refine w_seq ?_
 refine w_region ?_
 refine l_cons rfl (p_fap fa_29_0 ?_)
 refine l_cons rfl (p_loadp ty_3 ?_)
 refine l_cons rfl (p_fap fa_29_0 ?_)
 refine l_cons rfl (p_loadp ty_3 ?_)
 refine l_cons rfl (p_callr en_153 (cmpInt_walk _ _) ?_)
 refine l_cons rfl (p_assign ?_)
 refine l_nil ?_
 refine k_seq_normal ?_
 refine w_seq ?_
 refine w_region ?_
 refine l_cons rfl (p_move ?_)
 refine l_cons rfl (p_cmp ?_)
 refine l_nil ?_
 refine k_seq_normal ?_
 refine w_b (fun h1 => ?_) (fun h1 => ?_)
 ·skip
  have h1' := h1; (try simp only [bb] at h1')
  refine w_seq ?_
  refine w_region ?_
  refine l_cons rfl (p_move ?_)
  refine l_cons rfl (p_assign ?_)
  refine l_nil ?_
  refine k_seq_normal ?_
  refine w_ret ?_
  refine k_seq_ret ?_
  exact ret1 rfl ev1 subx ⟨by rw [cmp_kind (by simpa using h1')], rfl⟩
 ·skip
  have h1' := h1; (try simp only [bb] at h1')
  refine w_skip ?_
  refine k_seq_normal ?_
  refine w_seq ?_
  refine w_seq ?_
  refine w_region ?_
  refine l_cons rfl (p_fap fa_29_0 ?_)
  refine l_cons rfl (p_loadp ty_3 ?_)
  refine l_cons rfl (p_cmp ?_)
  refine l_cons rfl (p_move ?_)
  refine g_b rfl (fun h2 => ?_) (fun h2 => ?_)
  ·skip
   have h2' := h2; (try simp only [bb] at h2')
   refine (p_fap fa_29_1 ?_)
   refine g_y rfl h2 (p_loadp ty_26 ?_)
   refine g_y rfl h2 (p_fap fa_29_1 ?_)
   refine g_y rfl h2 (p_loadp ty_26 ?_)
   refine g_y rfl h2 (p_nea ai_26 ?_ (hb := neA a.set b.set))
   refine l_cons rfl (p_pickt h2 ?_)
   refine l_nil ?_
   refine k_seq_normal ?_
   refine w_b (fun h3 => ?_) (fun h3 => ?_)
   ·skip
    have h3' := h3; (try simp only [bb] at h3')
    refine w_seq ?_
    refine w_seq ?_
    refine w_region ?_
    refine l_cons rfl (p_fap fa_29_1 ?_)
    refine l_cons rfl (p_loadp ty_26 ?_)
    refine l_cons rfl (p_fap fa_29_1 ?_)
    refine l_cons rfl (p_loadp ty_26 ?_)
    refine l_cons rfl (p_callr en_154 (setLess_walk hT a.set b.set ha.set hb.set) ?_)
    refine l_nil ?_
    refine k_seq_normal ?_
    refine w_b (fun h4 => ?_) (fun h4 => ?_)
    ·skip
     have h4' := h4; (try simp only [bb] at h4')
     refine w_seq ?_
     refine w_region ?_
     refine l_cons rfl (p_assign ?_)
     refine l_nil ?_
     refine k_seq_normal ?_
     refine w_ret ?_
     refine k_seq_ret ?_
     refine k_seq_ret ?_
     exact ret1 rfl ev1 subx ⟨by rw [cmp_set (cmp_kind0 (by simpa using h1')) (by omega) h3', if_pos (by assumption)], rfl⟩
    ·skip
     have h4' := h4; (try simp only [bb] at h4')
     refine w_skip ?_
     refine k_seq_normal ?_
     refine w_seq ?_
     refine w_region ?_
     refine l_cons rfl (p_assign ?_)
     refine l_nil ?_
     refine k_seq_normal ?_
     refine w_ret ?_
     refine k_seq_ret ?_
     exact ret1 rfl ev1 subx ⟨by rw [cmp_set (cmp_kind0 (by simpa using h1')) (by omega) h3', if_neg (by simp_all)], rfl⟩
   ·skip
    have h3' := h3; (try simp only [bb] at h3')
    refine w_skip ?_
    refine k_seq_normal ?_
    refine w_seq ?_
    refine w_region ?_
    refine l_cons rfl (p_fap fa_29_2 ?_)
    refine l_cons rfl (p_loadp ty_27 ?_)
    refine l_cons rfl (p_fap fa_29_2 ?_)
    refine l_cons rfl (p_loadp ty_27 ?_)
    refine l_cons rfl (p_callr en_155 (compareFunc_walk a.args b.args fun k h1 h2 es => ih (B - 1) (by have := a.nodes_pos; omega) _ _ es (by have := a.nodes_arg h1; omega) (ha.arg h1) (hb.arg h2)) ?_)
    refine l_cons rfl (p_assign ?_)
    refine l_nil ?_
    refine k_seq_normal ?_
    refine w_ret ?_
    exact ret1 rfl ev1 subx ⟨by rw [cmp_args (cmp_kind0 (by simpa using h1')) (by first | exact .inl (by omega) | exact .inr (by simp_all))], rfl⟩
  ·skip
   have h2' := h2; (try simp only [bb] at h2')
   refine g_n rfl h2 ?_
   refine g_n rfl h2 ?_
   refine g_n rfl h2 ?_
   refine g_n rfl h2 ?_
   refine l_cons rfl (p_pickf h2 ?_)
   refine l_nil ?_
   refine k_seq_normal ?_
   refine w_f rfl ?_
   refine w_skip ?_
   refine k_seq_normal ?_
   refine w_seq ?_
   refine w_region ?_
   refine l_cons rfl (p_fap fa_29_2 ?_)
   refine l_cons rfl (p_loadp ty_27 ?_)
   refine l_cons rfl (p_fap fa_29_2 ?_)
   refine l_cons rfl (p_loadp ty_27 ?_)
   refine l_cons rfl (p_callr en_155 (compareFunc_walk a.args b.args fun k h1 h2 es => ih (B - 1) (by have := a.nodes_pos; omega) _ _ es (by have := a.nodes_arg h1; omega) (ha.arg h1) (hb.arg h2)) ?_)
   refine l_cons rfl (p_assign ?_)
   refine l_nil ?_
   refine k_seq_normal ?_
   refine w_ret ?_
   exact ret1 rfl ev1 subx ⟨by rw [cmp_args (cmp_kind0 (by simpa using h1')) (by first | exact .inl (by omega) | exact .inr (by simp_all))], rfl⟩
theorem refLess_walk {w0 : World} {es : List Ent} (a b : W4) (ha : a.ok) (hb : b.ok) : ACalls Tryd.prog w0 148 [.agg a.row, .agg b.row] es fun v es' => v = .bool (a.less b) ∧ es' = es := by
 unfold W4.row
 refine calls2 (N := 23) Tryd.func148 rfl rfl (by decide) ?_
 refine w_seq ?_
 refine w_region ?_
 refine l_cons rfl (p_box fun s2 => ?_)
 refine l_cons rfl (p_box fun s3 => ?_)
 refine l_cons rfl (p_assign ?_)
 refine l_nil ?_
 refine k_seq_normal ?_
 refine w_seq ?_
 refine w_seq ?_
 refine w_region ?_
 refine l_cons rfl (p_assign ?_)
 refine l_nil ?_
 refine k_seq_normal ?_
 refine w_block ?_
 refine w_loop (fun m f es' => ∃ k, m = 256 - k ∧ k ≤ 256 ∧ (∀ j, j < k → a.has j = b.has j) ∧ es' = .row s3 26 4 [[.int .u64 b.w0, .int .u64 b.w1, .int .u64 b.w2, .int .u64 b.w3]] :: .row s2 26 4 [[.int .u64 a.w0, .int .u64 a.w1, .int .u64 a.w2, .int .u64 a.w3]] :: es ∧ Knows f [(2, .ptr es.length s2 0 0), (3, .ptr (es.length + 1) s3 0 0), (5, .int .i64 k)]) (256) (⟨0, rfl, Nat.zero_le _, fun j hj => absurd hj (Nat.not_lt_zero _), rfl, kn⟩) ?_
 rintro m f es' ⟨k, rfl, hk1, hk2, rfl, hk⟩
 refine w_pins _ (Sub.refl _) (hk) ?_
 simp only [pins]
 refine w_seq ?_
 refine w_seq ?_
 refine w_region ?_
 refine l_cons rfl (p_move ?_)
 refine l_cons rfl (p_cmp ?_)
 refine l_nil ?_
 refine k_seq_normal ?_
 refine w_b (fun h1 => ?_) (fun h1 => ?_)
 ·skip
  have h1' := h1; (try simp only [bb] at h1')
  refine w_skip ?_
  refine k_seq_normal ?_
  refine w_seq ?_
  refine w_block ?_
  refine w_seq ?_
  refine w_drawn 7 [] (fun e => e = _) mixed (by kernel_rfl) rfl ?_
  refine q1 2 (hg := rfl) (hu := rfl) (h := by rintro f _ rfl; exact p_loadp ty_26 ⟨rfl, rfl⟩) (k := ?_)
  refine q1 5 (hg := rfl) (hu := rfl) (h := by rintro f _ rfl; exact p_move ⟨rfl, rfl⟩) (k := ?_)
  refine q1 11 (hg := rfl) (hu := rfl) (h := by rintro f _ rfl; exact p_conv in_3 in_5 ⟨rfl, rfl⟩ (hb := wrap8 (n := (k : Int)) (by omega) (by omega))) (k := ?_)
  refine q2 10 12 (hg := rfl) (hu := rfl) (h := by rintro f _ rfl; exact p_callr en_55 (ref1Has a.w0 a.w1 a.w2 a.w3 (k : Int) (by omega) (by omega) ha.1 ha.2.1 ha.2.2.1 ha.2.2.2.1) ⟨rfl, rfl⟩) (k := ?_)
  refine q1 3 (hg := rfl) (hu := rfl) (h := by rintro f _ rfl; exact p_loadp ty_26 ⟨rfl, rfl⟩) (k := ?_)
  refine q1 5 (hg := rfl) (hu := rfl) (h := by rintro f _ rfl; exact p_move ⟨rfl, rfl⟩) (k := ?_)
  refine q1 15 (hg := rfl) (hu := rfl) (h := by rintro f _ rfl; exact p_conv in_3 in_5 ⟨rfl, rfl⟩ (hb := wrap8 (n := (k : Int)) (by omega) (by omega))) (k := ?_)
  refine q_end ?_
  refine m_end ?_
  refine l_cons rfl (p_callr en_55 (ref1Has b.w0 b.w1 b.w2 b.w3 (k : Int) (by omega) (by omega) hb.1 hb.2.1 hb.2.2.1 hb.2.2.2.1) ?_)
  refine l_cons rfl (p_neb ub_4 ?_)
  refine l_nil ?_
  refine k_seq_normal ?_
  refine w_b (fun h2 => ?_) (fun h2 => ?_)
  ·skip
   have h2' := h2; (try simp only [bb] at h2')
   refine w_seq ?_
   refine w_region ?_
   refine l_cons rfl (p_loadp ty_26 ?_)
   refine l_cons rfl (p_move ?_)
   refine l_cons rfl (p_conv in_3 in_5 ?_ (hb := wrap8 (n := (k : Int)) (by omega) (by omega)))
   refine l_cons rfl (p_callr en_55 (ref1Has a.w0 a.w1 a.w2 a.w3 (k : Int) (by omega) (by omega) ha.1 ha.2.1 ha.2.2.1 ha.2.2.2.1) ?_)
   refine l_cons rfl (p_assign ?_)
   refine l_nil ?_
   refine k_seq_normal ?_
   refine w_ret ?_
   refine k_blk_ret ?_
   refine k_seq_ret ?_
   refine k_seq_ret ?_
   refine k_blk_ret ?_
   refine k_seq_ret ?_
   exact ret1 rfl ev1 subx ⟨by rw [W4.less_at (by omega) hk2 (by unfold W4.has; simpa using h2')]; rfl, rfl⟩
  ·skip
   have h2' := h2; (try simp only [bb] at h2')
   refine w_skip ?_
   refine k_blk_normal ?_
   refine k_seq_normal ?_
   refine w_region ?_
   refine l_cons rfl (p_move ?_)
   refine l_cons rfl (p_arith ?_)
   refine l_cons rfl (p_assign ?_)
   refine l_nil ?_
   refine k_seq_normal ?_
   exact ⟨256 - (k + 1), by omega, k + 1, rfl, by omega, lt_succ_cases hk2 (by unfold W4.has; simpa using h2'), rfl, kn⟩
 ·skip
  have h1' := h1; (try simp only [bb] at h1')
  refine w_exit ?_
  refine k_seq_exit ?_
  refine k_seq_exit ?_
  refine k_blk_here ?_
  refine k_seq_normal ?_
  refine w_seq ?_
  refine w_region ?_
  refine l_cons rfl (p_assign ?_)
  refine l_nil ?_
  refine k_seq_normal ?_
  refine w_ret ?_
  exact ret1 rfl ev1 subx ⟨by rw [W4.less_no (fun j hj => hk2 j (by omega))], rfl⟩
theorem refCompare {w0 : World} : ∀ (B : Nat) (a b : Rx) (es : List Ent), a.nodes ≤ B → a.ok → b.ok → ACalls Tryd.prog w0 121 [.agg a.cells, .agg b.cells] es fun v es' => v = .int .i64 (a.cmp b) ∧ es' = es := by
 intro B
 induction B using Nat.strongRecOn with
 | _ B ih => ?_
 intro a b es hB ha hb
 rw [Rx.cells_eq a, Rx.cells_eq b]
 refine calls2 (N := 74) Tryd.func121 rfl rfl (by decide) ?_
 refine w_seq ?_
 refine w_region ?_
 refine l_cons rfl (p_box fun s2 => ?_)
 refine l_cons rfl (p_box fun s3 => ?_)
 refine l_cons rfl (p_assign ?_)
 refine l_nil ?_
 refine k_seq_normal ?_
 refine w_seq ?_
 refine w_seq ?_
 refine w_region ?_
 refine l_cons rfl (p_fap fa_29_0 ?_)
 refine l_cons rfl (p_loadp ty_3 ?_)
 refine l_cons rfl (p_fap fa_29_0 ?_)
 refine l_cons rfl (p_loadp ty_3 ?_)
 refine l_cons rfl (p_cmp ?_)
 refine l_nil ?_
 refine k_seq_normal ?_
 refine w_b (fun h1 => ?_) (fun h1 => ?_)
 ·skip
  have h1' := h1; (try simp only [bb] at h1')
  refine w_seq ?_
  refine w_seq ?_
  refine w_region ?_
  refine l_cons rfl (p_fap fa_29_0 ?_)
  refine l_cons rfl (p_loadp ty_3 ?_)
  refine l_cons rfl (p_fap fa_29_0 ?_)
  refine l_cons rfl (p_loadp ty_3 ?_)
  refine l_cons rfl (p_cmp ?_)
  refine l_nil ?_
  refine k_seq_normal ?_
  refine w_b (fun h2 => ?_) (fun h2 => ?_)
  ·skip
   have h2' := h2; (try simp only [bb] at h2')
   refine w_seq ?_
   refine w_region ?_
   refine l_cons rfl (p_assign ?_)
   refine l_nil ?_
   refine k_seq_normal ?_
   refine w_ret ?_
   refine k_seq_ret ?_
   refine k_seq_ret ?_
   exact ret1 rfl ev1 subx ⟨by rw [cmp_kind2 (by simpa using h1'), if_pos (by omega)], rfl⟩
  ·skip
   have h2' := h2; (try simp only [bb] at h2')
   refine w_skip ?_
   refine k_seq_normal ?_
   refine w_seq ?_
   refine w_region ?_
   refine l_cons rfl (p_assign ?_)
   refine l_nil ?_
   refine k_seq_normal ?_
   refine w_ret ?_
   refine k_seq_ret ?_
   exact ret1 rfl ev1 subx ⟨by rw [cmp_kind2 (by simpa using h1'), if_neg (by omega), if_pos (by omega)], rfl⟩
 ·skip
  have h1' := h1; (try simp only [bb] at h1')
  refine w_skip ?_
  refine k_seq_normal ?_
  refine w_seq ?_
  refine w_seq ?_
  refine w_region ?_
  refine l_cons rfl (p_fap fa_29_0 ?_)
  refine l_cons rfl (p_loadp ty_3 ?_)
  refine l_cons rfl (p_cmp ?_)
  refine l_cons rfl (p_move ?_)
  refine g_b rfl (fun h3 => ?_) (fun h3 => ?_)
  ·skip
   have h3' := h3; (try simp only [bb] at h3')
   refine (p_fap fa_29_1 ?_)
   refine g_y rfl h3 (p_loadp ty_26 ?_)
   refine g_y rfl h3 (p_fap fa_29_1 ?_)
   refine g_y rfl h3 (p_loadp ty_26 ?_)
   refine g_y rfl h3 (p_nea ai_26 ?_ (hb := neA a.set b.set))
   refine l_cons rfl (p_pickt h3 ?_)
   refine l_nil ?_
   refine k_seq_normal ?_
   refine w_b (fun h4 => ?_) (fun h4 => ?_)
   ·skip
    have h4' := h4; (try simp only [bb] at h4')
    refine w_seq ?_
    refine w_seq ?_
    refine w_region ?_
    refine l_cons rfl (p_fap fa_29_1 ?_)
    refine l_cons rfl (p_loadp ty_26 ?_)
    refine l_cons rfl (p_fap fa_29_1 ?_)
    refine l_cons rfl (p_loadp ty_26 ?_)
    refine l_cons rfl (p_callr en_148 (refLess_walk a.set b.set ha.set hb.set) ?_)
    refine l_nil ?_
    refine k_seq_normal ?_
    refine w_b (fun h5 => ?_) (fun h5 => ?_)
    ·skip
     have h5' := h5; (try simp only [bb] at h5')
     refine w_seq ?_
     refine w_region ?_
     refine l_cons rfl (p_assign ?_)
     refine l_nil ?_
     refine k_seq_normal ?_
     refine w_ret ?_
     refine k_seq_ret ?_
     refine k_seq_ret ?_
     exact ret1 rfl ev1 subx ⟨by rw [cmp_set (by simpa using h1') (by omega) h4', if_pos (by assumption)], rfl⟩
    ·skip
     have h5' := h5; (try simp only [bb] at h5')
     refine w_skip ?_
     refine k_seq_normal ?_
     refine w_seq ?_
     refine w_region ?_
     refine l_cons rfl (p_assign ?_)
     refine l_nil ?_
     refine k_seq_normal ?_
     refine w_ret ?_
     refine k_seq_ret ?_
     exact ret1 rfl ev1 subx ⟨by rw [cmp_set (by simpa using h1') (by omega) h4', if_neg (by simp_all)], rfl⟩
   ·skip
    have h4' := h4; (try simp only [bb] at h4')
    refine w_skip ?_
    refine k_seq_normal ?_
    refine w_seq ?_
    refine w_seq ?_
    have hargs : a.cmp b = Rx.cmpL a.args b.args := cmp_args (by simpa using h1') (by first | exact .inl (by omega) | exact .inr (by simp_all))
    refine w_region ?_
    refine l_cons rfl (p_assign ?_)
    refine l_nil ?_
    refine k_seq_normal ?_
    refine w_block ?_
    refine w_loop (fun q f es' => ∃ k, q = a.args.length - k ∧ k ≤ a.args.length ∧ k ≤ b.args.length ∧ Rx.cmpL a.args b.args = Rx.cmpL (a.args.drop k) (b.args.drop k) ∧ es' = .row s3 29 6 [[.int .i64 b.kind, .int .u64 b.set.w0, .int .u64 b.set.w1, .int .u64 b.set.w2, .int .u64 b.set.w3, .list 6 (b.args.map Rx.cells)]] :: .row s2 29 6 [[.int .i64 a.kind, .int .u64 a.set.w0, .int .u64 a.set.w1, .int .u64 a.set.w2, .int .u64 a.set.w3, .list 6 (a.args.map Rx.cells)]] :: es ∧ Knows f [(2, .ptr es.length s2 0 0), (3, .ptr (es.length + 1) s3 0 0), (5, .int .i64 k)]) (a.args.length) (⟨0, rfl, Nat.zero_le _, Nat.zero_le _, rfl, rfl, kn⟩) ?_
    rintro q f es' ⟨k, rfl, hk1, hk2, hk3, rfl, hk⟩
    refine w_pins _ (Sub.refl _) (hk) ?_
    simp only [pins]
    refine w_seq ?_
    refine w_seq ?_
    refine w_region ?_
    refine l_cons rfl (p_move ?_)
    refine l_cons rfl (p_fap fa_29_2 ?_)
    refine l_cons rfl (p_loadp ty_27 ?_)
    refine l_len 34 fun hl => ?_
    simp only [List.length_map, most] at hl
    first | refine l_cons rfl (p_lenl sl_27 ?_) | refine l_cons rfl (p_leno sl_27 ?_) | refine l_cons rfl (p_lenn sl_27 ?_)
    refine l_cons rfl (p_cmp ?_)
    refine l_cons rfl (p_move ?_)
    refine g_b rfl (fun h6 => ?_) (fun h6 => ?_)
    ·skip
     have h6' := h6; (try simp only [bb] at h6')
     refine (p_move ?_)
     refine g_y rfl h6 (p_fap fa_29_2 ?_)
     refine g_y rfl h6 (p_loadp ty_27 ?_)
     first | refine g_y rfl h6 (p_lenl sl_27 ?_) | refine g_y rfl h6 (p_leno sl_27 ?_) | refine g_y rfl h6 (p_lenn sl_27 ?_)
     refine g_y rfl h6 (p_cmp ?_)
     refine l_cons rfl (p_pickt h6 ?_)
     refine l_nil ?_
     refine k_seq_normal ?_
     refine w_b (fun h7 => ?_) (fun h7 => ?_)
     ·skip
      have h7' := h7; (try simp only [bb] at h7')
      refine w_skip ?_
      refine k_seq_normal ?_
      refine w_seq ?_
      refine w_block ?_
      refine w_seq ?_
      refine w_drawn 10 [] (fun e => e = _) mixed (by kernel_rfl) rfl ?_
      refine q1 2 (hg := rfl) (hu := rfl) (h := by rintro f _ rfl; exact p_fap fa_29_2 ⟨rfl, rfl⟩) (k := ?_)
      refine q1 46 (hg := rfl) (hu := rfl) (h := by rintro f _ rfl; exact p_loadp ty_27 ⟨rfl, rfl⟩) (k := ?_)
      refine q1 5 (hg := rfl) (hu := rfl) (h := by rintro f _ rfl; exact p_move ⟨rfl, rfl⟩) (k := ?_)
      first | refine q2 47 48 (hg := rfl) (hu := rfl) (h := by rintro f _ rfl; exact p_ixl sl_27 ⟨rfl, rfl⟩) (k := ?_) | refine q2 47 48 (hg := rfl) (hu := rfl) (h := by rintro f _ rfl; exact p_ixo sl_27 ⟨rfl, rfl⟩) (k := ?_)
      first | refine q1 49 (hg := rfl) (hu := rfl) (h := by rintro f _ rfl; exact p_loadf ty_29 ⟨rfl, rfl⟩) (k := ?_) | refine q1 49 (hg := rfl) (hu := rfl) (h := by rintro f _ rfl; exact p_loadp ty_29 ⟨rfl, rfl⟩) (k := ?_)
      refine q1 3 (hg := rfl) (hu := rfl) (h := by rintro f _ rfl; exact p_fap fa_29_2 ⟨rfl, rfl⟩) (k := ?_)
      refine q1 51 (hg := rfl) (hu := rfl) (h := by rintro f _ rfl; exact p_loadp ty_27 ⟨rfl, rfl⟩) (k := ?_)
      refine q1 5 (hg := rfl) (hu := rfl) (h := by rintro f _ rfl; exact p_move ⟨rfl, rfl⟩) (k := ?_)
      first | refine q2 52 53 (hg := rfl) (hu := rfl) (h := by rintro f _ rfl; exact p_ixl sl_27 ⟨rfl, rfl⟩) (k := ?_) | refine q2 52 53 (hg := rfl) (hu := rfl) (h := by rintro f _ rfl; exact p_ixo sl_27 ⟨rfl, rfl⟩) (k := ?_)
      first | refine q1 54 (hg := rfl) (hu := rfl) (h := by rintro f _ rfl; exact p_loadf ty_29 ⟨rfl, rfl⟩) (k := ?_) | refine q1 54 (hg := rfl) (hu := rfl) (h := by rintro f _ rfl; exact p_loadp ty_29 ⟨rfl, rfl⟩) (k := ?_)
      refine q_end ?_
      refine m_end ?_
      refine l_cons rfl (p_callr en_121 (ih (B - 1) (by have := a.nodes_pos; omega) (a.args[k]'(by omega)) (b.args[k]'(by omega)) _ (by have := a.nodes_arg (k := k) (by omega); omega) (ha.arg (by omega)) (hb.arg (by omega))) ?_)
      refine l_cons rfl (p_assign ?_)
      refine l_nil ?_
      refine k_seq_normal ?_
      refine w_seq ?_
      refine w_region ?_
      refine l_cons rfl (p_move ?_)
      refine l_cons rfl (p_cmp ?_)
      refine l_nil ?_
      refine k_seq_normal ?_
      refine w_b (fun h8 => ?_) (fun h8 => ?_)
      ·skip
       have h8' := h8; (try simp only [bb] at h8')
       refine w_seq ?_
       refine w_region ?_
       refine l_cons rfl (p_move ?_)
       refine l_cons rfl (p_assign ?_)
       refine l_nil ?_
       refine k_seq_normal ?_
       refine w_ret ?_
       refine k_blk_ret ?_
       refine k_seq_ret ?_
       refine k_seq_ret ?_
       refine k_blk_ret ?_
       refine k_seq_ret ?_
       exact ret1 rfl ev1 subx ⟨by rw [hargs, cmpL_hit (k := k) (by omega) (by omega) hk3 (by simp_all)], rfl⟩
      ·skip
       have h8' := h8; (try simp only [bb] at h8')
       refine w_skip ?_
       refine k_blk_normal ?_
       refine k_seq_normal ?_
       refine w_region ?_
       refine l_cons rfl (p_move ?_)
       refine l_cons rfl (p_arith ?_)
       refine l_cons rfl (p_assign ?_)
       refine l_nil ?_
       refine k_seq_normal ?_
       exact ⟨a.args.length - (k + 1), by omega, k + 1, rfl, by omega, by omega, cmpL_next (by omega) (by omega) hk3 (by simp_all), rfl, kn⟩
     ·skip
      have h7' := h7; (try simp only [bb] at h7')
      refine w_exit ?_
      refine k_seq_exit ?_
      refine k_seq_exit ?_
      refine k_blk_here ?_
      refine k_seq_normal ?_
      refine w_seq ?_
      refine w_seq ?_
      refine w_region ?_
      refine l_cons rfl (p_fap fa_29_2 ?_)
      refine l_cons rfl (p_loadp ty_27 ?_)
      first | refine l_cons rfl (p_lenl sl_27 ?_) | refine l_cons rfl (p_leno sl_27 ?_) | refine l_cons rfl (p_lenn sl_27 ?_)
      refine l_cons rfl (p_fap fa_29_2 ?_)
      refine l_cons rfl (p_loadp ty_27 ?_)
      first | refine l_cons rfl (p_lenl sl_27 ?_) | refine l_cons rfl (p_leno sl_27 ?_) | refine l_cons rfl (p_lenn sl_27 ?_)
      refine l_cons rfl (p_cmp ?_)
      refine l_nil ?_
      refine k_seq_normal ?_
      refine w_b (fun h9 => ?_) (fun h9 => ?_)
      ·skip
       have h9' := h9; (try simp only [bb] at h9')
       refine w_seq ?_
       refine w_region ?_
       refine l_cons rfl (p_assign ?_)
       refine l_nil ?_
       refine k_seq_normal ?_
       refine w_ret ?_
       refine k_seq_ret ?_
       exact ret1 rfl ev1 subx ⟨by rw [hargs, cmpL_at (k := k) hk1 hk2 hk3 (by omega), if_pos (by omega)], rfl⟩
      ·skip
       have h9' := h9; (try simp only [bb] at h9')
       refine w_skip ?_
       refine k_seq_normal ?_
       refine w_seq ?_
       refine w_seq ?_
       refine w_region ?_
       refine l_cons rfl (p_fap fa_29_2 ?_)
       refine l_cons rfl (p_loadp ty_27 ?_)
       first | refine l_cons rfl (p_lenl sl_27 ?_) | refine l_cons rfl (p_leno sl_27 ?_) | refine l_cons rfl (p_lenn sl_27 ?_)
       refine l_cons rfl (p_fap fa_29_2 ?_)
       refine l_cons rfl (p_loadp ty_27 ?_)
       first | refine l_cons rfl (p_lenl sl_27 ?_) | refine l_cons rfl (p_leno sl_27 ?_) | refine l_cons rfl (p_lenn sl_27 ?_)
       refine l_cons rfl (p_cmp ?_)
       refine l_nil ?_
       refine k_seq_normal ?_
       refine w_b (fun h10 => ?_) (fun h10 => ?_)
       ·skip
        have h10' := h10; (try simp only [bb] at h10')
        refine w_seq ?_
        refine w_region ?_
        refine l_cons rfl (p_assign ?_)
        refine l_nil ?_
        refine k_seq_normal ?_
        refine w_ret ?_
        refine k_seq_ret ?_
        exact ret1 rfl ev1 subx ⟨by rw [hargs, cmpL_at (k := k) hk1 hk2 hk3 (by omega), if_neg (by omega), if_pos (by omega)], rfl⟩
       ·skip
        have h10' := h10; (try simp only [bb] at h10')
        refine w_skip ?_
        refine k_seq_normal ?_
        refine w_seq ?_
        refine w_region ?_
        refine l_cons rfl (p_assign ?_)
        refine l_nil ?_
        refine k_seq_normal ?_
        refine w_ret ?_
        exact ret1 rfl ev1 subx ⟨by rw [hargs, cmpL_at (k := k) hk1 hk2 hk3 (by omega), if_neg (by omega), if_neg (by omega)], rfl⟩
    ·skip
     have h6' := h6; (try simp only [bb] at h6')
     refine g_n rfl h6 ?_
     refine g_n rfl h6 ?_
     refine g_n rfl h6 ?_
     refine g_n rfl h6 ?_
     refine l_cons rfl (p_pickf h6 ?_)
     refine l_nil ?_
     refine k_seq_normal ?_
     refine w_f rfl ?_
     refine w_exit ?_
     refine k_seq_exit ?_
     refine k_seq_exit ?_
     refine k_blk_here ?_
     refine k_seq_normal ?_
     refine w_seq ?_
     refine w_seq ?_
     refine w_region ?_
     refine l_cons rfl (p_fap fa_29_2 ?_)
     refine l_cons rfl (p_loadp ty_27 ?_)
     first | refine l_cons rfl (p_lenl sl_27 ?_) | refine l_cons rfl (p_leno sl_27 ?_) | refine l_cons rfl (p_lenn sl_27 ?_)
     refine l_cons rfl (p_fap fa_29_2 ?_)
     refine l_cons rfl (p_loadp ty_27 ?_)
     first | refine l_cons rfl (p_lenl sl_27 ?_) | refine l_cons rfl (p_leno sl_27 ?_) | refine l_cons rfl (p_lenn sl_27 ?_)
     refine l_cons rfl (p_cmp ?_)
     refine l_nil ?_
     refine k_seq_normal ?_
     refine w_b (fun h11 => ?_) (fun h11 => ?_)
     ·skip
      have h11' := h11; (try simp only [bb] at h11')
      refine w_seq ?_
      refine w_region ?_
      refine l_cons rfl (p_assign ?_)
      refine l_nil ?_
      refine k_seq_normal ?_
      refine w_ret ?_
      refine k_seq_ret ?_
      exact ret1 rfl ev1 subx ⟨by rw [hargs, cmpL_at (k := k) hk1 hk2 hk3 (by omega), if_pos (by omega)], rfl⟩
     ·skip
      have h11' := h11; (try simp only [bb] at h11')
      refine w_skip ?_
      refine k_seq_normal ?_
      refine w_seq ?_
      refine w_seq ?_
      refine w_region ?_
      refine l_cons rfl (p_fap fa_29_2 ?_)
      refine l_cons rfl (p_loadp ty_27 ?_)
      first | refine l_cons rfl (p_lenl sl_27 ?_) | refine l_cons rfl (p_leno sl_27 ?_) | refine l_cons rfl (p_lenn sl_27 ?_)
      refine l_cons rfl (p_fap fa_29_2 ?_)
      refine l_cons rfl (p_loadp ty_27 ?_)
      first | refine l_cons rfl (p_lenl sl_27 ?_) | refine l_cons rfl (p_leno sl_27 ?_) | refine l_cons rfl (p_lenn sl_27 ?_)
      refine l_cons rfl (p_cmp ?_)
      refine l_nil ?_
      refine k_seq_normal ?_
      refine w_b (fun h12 => ?_) (fun h12 => ?_)
      ·skip
       have h12' := h12; (try simp only [bb] at h12')
       refine w_seq ?_
       refine w_region ?_
       refine l_cons rfl (p_assign ?_)
       refine l_nil ?_
       refine k_seq_normal ?_
       refine w_ret ?_
       refine k_seq_ret ?_
       exact ret1 rfl ev1 subx ⟨by rw [hargs, cmpL_at (k := k) hk1 hk2 hk3 (by omega), if_neg (by omega), if_pos (by omega)], rfl⟩
      ·skip
       have h12' := h12; (try simp only [bb] at h12')
       refine w_skip ?_
       refine k_seq_normal ?_
       refine w_seq ?_
       refine w_region ?_
       refine l_cons rfl (p_assign ?_)
       refine l_nil ?_
       refine k_seq_normal ?_
       refine w_ret ?_
       exact ret1 rfl ev1 subx ⟨by rw [hargs, cmpL_at (k := k) hk1 hk2 hk3 (by omega), if_neg (by omega), if_neg (by omega)], rfl⟩
  ·skip
   have h3' := h3; (try simp only [bb] at h3')
   refine g_n rfl h3 ?_
   refine g_n rfl h3 ?_
   refine g_n rfl h3 ?_
   refine g_n rfl h3 ?_
   refine l_cons rfl (p_pickf h3 ?_)
   refine l_nil ?_
   refine k_seq_normal ?_
   refine w_f rfl ?_
   refine w_skip ?_
   refine k_seq_normal ?_
   refine w_seq ?_
   refine w_seq ?_
   have hargs : a.cmp b = Rx.cmpL a.args b.args := cmp_args (by simpa using h1') (by first | exact .inl (by omega) | exact .inr (by simp_all))
   refine w_region ?_
   refine l_cons rfl (p_assign ?_)
   refine l_nil ?_
   refine k_seq_normal ?_
   refine w_block ?_
   refine w_loop (fun q f es' => ∃ k, q = a.args.length - k ∧ k ≤ a.args.length ∧ k ≤ b.args.length ∧ Rx.cmpL a.args b.args = Rx.cmpL (a.args.drop k) (b.args.drop k) ∧ es' = .row s3 29 6 [[.int .i64 b.kind, .int .u64 b.set.w0, .int .u64 b.set.w1, .int .u64 b.set.w2, .int .u64 b.set.w3, .list 6 (b.args.map Rx.cells)]] :: .row s2 29 6 [[.int .i64 a.kind, .int .u64 a.set.w0, .int .u64 a.set.w1, .int .u64 a.set.w2, .int .u64 a.set.w3, .list 6 (a.args.map Rx.cells)]] :: es ∧ Knows f [(2, .ptr es.length s2 0 0), (3, .ptr (es.length + 1) s3 0 0), (5, .int .i64 k)]) (a.args.length) (⟨0, rfl, Nat.zero_le _, Nat.zero_le _, rfl, rfl, kn⟩) ?_
   rintro q f es' ⟨k, rfl, hk1, hk2, hk3, rfl, hk⟩
   refine w_pins _ (Sub.refl _) (hk) ?_
   simp only [pins]
   refine w_seq ?_
   refine w_seq ?_
   refine w_region ?_
   refine l_cons rfl (p_move ?_)
   refine l_cons rfl (p_fap fa_29_2 ?_)
   refine l_cons rfl (p_loadp ty_27 ?_)
   refine l_len 34 fun hl => ?_
   simp only [List.length_map, most] at hl
   first | refine l_cons rfl (p_lenl sl_27 ?_) | refine l_cons rfl (p_leno sl_27 ?_) | refine l_cons rfl (p_lenn sl_27 ?_)
   refine l_cons rfl (p_cmp ?_)
   refine l_cons rfl (p_move ?_)
   refine g_b rfl (fun h13 => ?_) (fun h13 => ?_)
   ·skip
    have h13' := h13; (try simp only [bb] at h13')
    refine (p_move ?_)
    refine g_y rfl h13 (p_fap fa_29_2 ?_)
    refine g_y rfl h13 (p_loadp ty_27 ?_)
    first | refine g_y rfl h13 (p_lenl sl_27 ?_) | refine g_y rfl h13 (p_leno sl_27 ?_) | refine g_y rfl h13 (p_lenn sl_27 ?_)
    refine g_y rfl h13 (p_cmp ?_)
    refine l_cons rfl (p_pickt h13 ?_)
    refine l_nil ?_
    refine k_seq_normal ?_
    refine w_b (fun h14 => ?_) (fun h14 => ?_)
    ·skip
     have h14' := h14; (try simp only [bb] at h14')
     refine w_skip ?_
     refine k_seq_normal ?_
     refine w_seq ?_
     refine w_block ?_
     refine w_seq ?_
     refine w_drawn 10 [] (fun e => e = _) mixed (by kernel_rfl) rfl ?_
     refine q1 2 (hg := rfl) (hu := rfl) (h := by rintro f _ rfl; exact p_fap fa_29_2 ⟨rfl, rfl⟩) (k := ?_)
     refine q1 46 (hg := rfl) (hu := rfl) (h := by rintro f _ rfl; exact p_loadp ty_27 ⟨rfl, rfl⟩) (k := ?_)
     refine q1 5 (hg := rfl) (hu := rfl) (h := by rintro f _ rfl; exact p_move ⟨rfl, rfl⟩) (k := ?_)
     first | refine q2 47 48 (hg := rfl) (hu := rfl) (h := by rintro f _ rfl; exact p_ixl sl_27 ⟨rfl, rfl⟩) (k := ?_) | refine q2 47 48 (hg := rfl) (hu := rfl) (h := by rintro f _ rfl; exact p_ixo sl_27 ⟨rfl, rfl⟩) (k := ?_)
     first | refine q1 49 (hg := rfl) (hu := rfl) (h := by rintro f _ rfl; exact p_loadf ty_29 ⟨rfl, rfl⟩) (k := ?_) | refine q1 49 (hg := rfl) (hu := rfl) (h := by rintro f _ rfl; exact p_loadp ty_29 ⟨rfl, rfl⟩) (k := ?_)
     refine q1 3 (hg := rfl) (hu := rfl) (h := by rintro f _ rfl; exact p_fap fa_29_2 ⟨rfl, rfl⟩) (k := ?_)
     refine q1 51 (hg := rfl) (hu := rfl) (h := by rintro f _ rfl; exact p_loadp ty_27 ⟨rfl, rfl⟩) (k := ?_)
     refine q1 5 (hg := rfl) (hu := rfl) (h := by rintro f _ rfl; exact p_move ⟨rfl, rfl⟩) (k := ?_)
     first | refine q2 52 53 (hg := rfl) (hu := rfl) (h := by rintro f _ rfl; exact p_ixl sl_27 ⟨rfl, rfl⟩) (k := ?_) | refine q2 52 53 (hg := rfl) (hu := rfl) (h := by rintro f _ rfl; exact p_ixo sl_27 ⟨rfl, rfl⟩) (k := ?_)
     first | refine q1 54 (hg := rfl) (hu := rfl) (h := by rintro f _ rfl; exact p_loadf ty_29 ⟨rfl, rfl⟩) (k := ?_) | refine q1 54 (hg := rfl) (hu := rfl) (h := by rintro f _ rfl; exact p_loadp ty_29 ⟨rfl, rfl⟩) (k := ?_)
     refine q_end ?_
     refine m_end ?_
     refine l_cons rfl (p_callr en_121 (ih (B - 1) (by have := a.nodes_pos; omega) (a.args[k]'(by omega)) (b.args[k]'(by omega)) _ (by have := a.nodes_arg (k := k) (by omega); omega) (ha.arg (by omega)) (hb.arg (by omega))) ?_)
     refine l_cons rfl (p_assign ?_)
     refine l_nil ?_
     refine k_seq_normal ?_
     refine w_seq ?_
     refine w_region ?_
     refine l_cons rfl (p_move ?_)
     refine l_cons rfl (p_cmp ?_)
     refine l_nil ?_
     refine k_seq_normal ?_
     refine w_b (fun h15 => ?_) (fun h15 => ?_)
     ·skip
      have h15' := h15; (try simp only [bb] at h15')
      refine w_seq ?_
      refine w_region ?_
      refine l_cons rfl (p_move ?_)
      refine l_cons rfl (p_assign ?_)
      refine l_nil ?_
      refine k_seq_normal ?_
      refine w_ret ?_
      refine k_blk_ret ?_
      refine k_seq_ret ?_
      refine k_seq_ret ?_
      refine k_blk_ret ?_
      refine k_seq_ret ?_
      exact ret1 rfl ev1 subx ⟨by rw [hargs, cmpL_hit (k := k) (by omega) (by omega) hk3 (by simp_all)], rfl⟩
     ·skip
      have h15' := h15; (try simp only [bb] at h15')
      refine w_skip ?_
      refine k_blk_normal ?_
      refine k_seq_normal ?_
      refine w_region ?_
      refine l_cons rfl (p_move ?_)
      refine l_cons rfl (p_arith ?_)
      refine l_cons rfl (p_assign ?_)
      refine l_nil ?_
      refine k_seq_normal ?_
      exact ⟨a.args.length - (k + 1), by omega, k + 1, rfl, by omega, by omega, cmpL_next (by omega) (by omega) hk3 (by simp_all), rfl, kn⟩
    ·skip
     have h14' := h14; (try simp only [bb] at h14')
     refine w_exit ?_
     refine k_seq_exit ?_
     refine k_seq_exit ?_
     refine k_blk_here ?_
     refine k_seq_normal ?_
     refine w_seq ?_
     refine w_seq ?_
     refine w_region ?_
     refine l_cons rfl (p_fap fa_29_2 ?_)
     refine l_cons rfl (p_loadp ty_27 ?_)
     first | refine l_cons rfl (p_lenl sl_27 ?_) | refine l_cons rfl (p_leno sl_27 ?_) | refine l_cons rfl (p_lenn sl_27 ?_)
     refine l_cons rfl (p_fap fa_29_2 ?_)
     refine l_cons rfl (p_loadp ty_27 ?_)
     first | refine l_cons rfl (p_lenl sl_27 ?_) | refine l_cons rfl (p_leno sl_27 ?_) | refine l_cons rfl (p_lenn sl_27 ?_)
     refine l_cons rfl (p_cmp ?_)
     refine l_nil ?_
     refine k_seq_normal ?_
     refine w_b (fun h16 => ?_) (fun h16 => ?_)
     ·skip
      have h16' := h16; (try simp only [bb] at h16')
      refine w_seq ?_
      refine w_region ?_
      refine l_cons rfl (p_assign ?_)
      refine l_nil ?_
      refine k_seq_normal ?_
      refine w_ret ?_
      refine k_seq_ret ?_
      exact ret1 rfl ev1 subx ⟨by rw [hargs, cmpL_at (k := k) hk1 hk2 hk3 (by omega), if_pos (by omega)], rfl⟩
     ·skip
      have h16' := h16; (try simp only [bb] at h16')
      refine w_skip ?_
      refine k_seq_normal ?_
      refine w_seq ?_
      refine w_seq ?_
      refine w_region ?_
      refine l_cons rfl (p_fap fa_29_2 ?_)
      refine l_cons rfl (p_loadp ty_27 ?_)
      first | refine l_cons rfl (p_lenl sl_27 ?_) | refine l_cons rfl (p_leno sl_27 ?_) | refine l_cons rfl (p_lenn sl_27 ?_)
      refine l_cons rfl (p_fap fa_29_2 ?_)
      refine l_cons rfl (p_loadp ty_27 ?_)
      first | refine l_cons rfl (p_lenl sl_27 ?_) | refine l_cons rfl (p_leno sl_27 ?_) | refine l_cons rfl (p_lenn sl_27 ?_)
      refine l_cons rfl (p_cmp ?_)
      refine l_nil ?_
      refine k_seq_normal ?_
      refine w_b (fun h17 => ?_) (fun h17 => ?_)
      ·skip
       have h17' := h17; (try simp only [bb] at h17')
       refine w_seq ?_
       refine w_region ?_
       refine l_cons rfl (p_assign ?_)
       refine l_nil ?_
       refine k_seq_normal ?_
       refine w_ret ?_
       refine k_seq_ret ?_
       exact ret1 rfl ev1 subx ⟨by rw [hargs, cmpL_at (k := k) hk1 hk2 hk3 (by omega), if_neg (by omega), if_pos (by omega)], rfl⟩
      ·skip
       have h17' := h17; (try simp only [bb] at h17')
       refine w_skip ?_
       refine k_seq_normal ?_
       refine w_seq ?_
       refine w_region ?_
       refine l_cons rfl (p_assign ?_)
       refine l_nil ?_
       refine k_seq_normal ?_
       refine w_ret ?_
       exact ret1 rfl ev1 subx ⟨by rw [hargs, cmpL_at (k := k) hk1 hk2 hk3 (by omega), if_neg (by omega), if_neg (by omega)], rfl⟩
   ·skip
    have h13' := h13; (try simp only [bb] at h13')
    refine g_n rfl h13 ?_
    refine g_n rfl h13 ?_
    refine g_n rfl h13 ?_
    refine g_n rfl h13 ?_
    refine l_cons rfl (p_pickf h13 ?_)
    refine l_nil ?_
    refine k_seq_normal ?_
    refine w_f rfl ?_
    refine w_exit ?_
    refine k_seq_exit ?_
    refine k_seq_exit ?_
    refine k_blk_here ?_
    refine k_seq_normal ?_
    refine w_seq ?_
    refine w_seq ?_
    refine w_region ?_
    refine l_cons rfl (p_fap fa_29_2 ?_)
    refine l_cons rfl (p_loadp ty_27 ?_)
    first | refine l_cons rfl (p_lenl sl_27 ?_) | refine l_cons rfl (p_leno sl_27 ?_) | refine l_cons rfl (p_lenn sl_27 ?_)
    refine l_cons rfl (p_fap fa_29_2 ?_)
    refine l_cons rfl (p_loadp ty_27 ?_)
    first | refine l_cons rfl (p_lenl sl_27 ?_) | refine l_cons rfl (p_leno sl_27 ?_) | refine l_cons rfl (p_lenn sl_27 ?_)
    refine l_cons rfl (p_cmp ?_)
    refine l_nil ?_
    refine k_seq_normal ?_
    refine w_b (fun h18 => ?_) (fun h18 => ?_)
    ·skip
     have h18' := h18; (try simp only [bb] at h18')
     refine w_seq ?_
     refine w_region ?_
     refine l_cons rfl (p_assign ?_)
     refine l_nil ?_
     refine k_seq_normal ?_
     refine w_ret ?_
     refine k_seq_ret ?_
     exact ret1 rfl ev1 subx ⟨by rw [hargs, cmpL_at (k := k) hk1 hk2 hk3 (by omega), if_pos (by omega)], rfl⟩
    ·skip
     have h18' := h18; (try simp only [bb] at h18')
     refine w_skip ?_
     refine k_seq_normal ?_
     refine w_seq ?_
     refine w_seq ?_
     refine w_region ?_
     refine l_cons rfl (p_fap fa_29_2 ?_)
     refine l_cons rfl (p_loadp ty_27 ?_)
     first | refine l_cons rfl (p_lenl sl_27 ?_) | refine l_cons rfl (p_leno sl_27 ?_) | refine l_cons rfl (p_lenn sl_27 ?_)
     refine l_cons rfl (p_fap fa_29_2 ?_)
     refine l_cons rfl (p_loadp ty_27 ?_)
     first | refine l_cons rfl (p_lenl sl_27 ?_) | refine l_cons rfl (p_leno sl_27 ?_) | refine l_cons rfl (p_lenn sl_27 ?_)
     refine l_cons rfl (p_cmp ?_)
     refine l_nil ?_
     refine k_seq_normal ?_
     refine w_b (fun h19 => ?_) (fun h19 => ?_)
     ·skip
      have h19' := h19; (try simp only [bb] at h19')
      refine w_seq ?_
      refine w_region ?_
      refine l_cons rfl (p_assign ?_)
      refine l_nil ?_
      refine k_seq_normal ?_
      refine w_ret ?_
      refine k_seq_ret ?_
      exact ret1 rfl ev1 subx ⟨by rw [hargs, cmpL_at (k := k) hk1 hk2 hk3 (by omega), if_neg (by omega), if_pos (by omega)], rfl⟩
     ·skip
      have h19' := h19; (try simp only [bb] at h19')
      refine w_skip ?_
      refine k_seq_normal ?_
      refine w_seq ?_
      refine w_region ?_
      refine l_cons rfl (p_assign ?_)
      refine l_nil ?_
      refine k_seq_normal ?_
      refine w_ret ?_
      exact ret1 rfl ev1 subx ⟨by rw [hargs, cmpL_at (k := k) hk1 hk2 hk3 (by omega), if_neg (by omega), if_neg (by omega)], rfl⟩
theorem refEqual {w0 : World} {es : List Ent} (a b : Rx) (ha : a.ok) (hb : b.ok) : ACalls Tryd.prog w0 122 [.agg a.cells, .agg b.cells] es fun v es' => v = .bool (decide (a.cmp b = 0)) ∧ es' = es := by
 refine calls2 (N := 9) Tryd.func122 rfl rfl (by decide) ?_
 refine w_seq ?_
 refine w_region ?_
 refine l_cons rfl (p_box fun s2 => ?_)
 refine l_cons rfl (p_box fun s3 => ?_)
 refine l_cons rfl (p_assign ?_)
 refine l_nil ?_
 refine k_seq_normal ?_
 refine w_seq ?_
 refine w_region ?_
 refine l_cons rfl (p_loadp ty_29 ?_)
 refine l_cons rfl (p_loadp ty_29 ?_)
 refine l_cons rfl (p_callr en_121 (refCompare _ a b _ (Nat.le_refl _) ha hb) ?_)
 refine l_cons rfl (p_cmp ?_)
 refine l_cons rfl (p_assign ?_)
 refine l_nil ?_
 refine k_seq_normal ?_
 refine w_ret ?_
 exact ret1 rfl ev1 subx ⟨rfl, rfl⟩
end
set_option maxRecDepth 8000
section
open Go.RowKit Go.Proofs
theorem rxrow_at {l : List Rx} {k : Nat} (h : k < l.length) : (l.map Rx.cells)[k]? = some (l[k]).cells := by simp [h]
theorem nodes_mem_lt {r x : Rx} (h : x ∈ r.args) : x.nodes + 1 ≤ r.nodes := by
 obtain ⟨k, hk, rfl⟩ := List.mem_iff_getElem.1 h
 exact r.nodes_arg hk
end
set_option maxRecDepth 8000
section
open Go.RowKit Go.Proofs
theorem ACalls.weak {P : Program} {w0 : World} {fid : FuncId} {args : List AV} {es : List Ent} {a b : AV} (hw : ∀ (c : Core) (m : Option (List Ent)) (v : Value), Rep c m a v → Rep c m b v) (h : ACalls P w0 fid args es fun v es' => v = a ∧ es' = es) : ACalls P w0 fid args es fun v es' => v = b ∧ es' = es := by
 intro c vs ok rs
 refine (h c vs ok rs).mono fun e w' => ?_
 rintro ⟨v, c', es', r, h1, h2, h3, h4, h5, rfl, rfl⟩
 exact ⟨v, c', _, b, h1, h2, h3, h4, hw _ _ _ h5, rfl, rfl⟩
theorem rep_aggNil (sz : Nat) {c : Core} {m : Option (List Ent)} {l : List AV} {v : Value} (h : Rep c m (.agg l) v) : Rep c m (.agg (l.map (nilTo sz))) v := by
 simp only [Rep] at h ⊢
 obtain ⟨cs, e, h1, h2⟩ := h
 exact ⟨cs, e, reps_nilTo sz h1, h2⟩
theorem Rx.depth_eq (r : Rx) : r.depth = Rx.depthL r.args + 1 := by cases r; simp only [Rx.depth, Rx.args]
theorem take_map_succ {α β : Type} {f : α → β} {l : List α} {k : Nat} (h : k < l.length) : (l.take (k + 1)).map f = (l.take k).map f ++ [f l[k]] := by
 rw [List.take_add_one, List.getElem?_eq_getElem h, List.map_append]; rfl
theorem cleans_cells (r : Rx) : cleans r.cells = true := by rw [Rx.cells_eq]; rfl
theorem cleans_rx (l : List Rx) : (l.map Rx.cells).all cleans = true := by
 rw [List.all_eq_true]
 intro x hx
 obtain ⟨r, _, rfl⟩ := List.mem_map.1 hx
 exact cleans_cells r
theorem args_load (r : Rx) : loadAV false 1 r.cells 5 = .list 6 (r.args.map Rx.cells) := by rw [Rx.cells_eq]; rfl
theorem flat_append (k : Int) (l m : List Rx) : flatR k (l ++ m) = flatR k l ++ flatR k m := by
 induction l with
 | nil => rfl
 | cons a t ih => simp only [List.cons_append, flatR, ih, List.append_assoc]
theorem flat_nodes (k : Int) : ∀ l : List Rx, Rx.nodesL (flatR k l) ≤ Rx.nodesL l
 | [] => by simp [flatR]
 | r :: t => by
  have ih := flat_nodes k t
  have happ : ∀ a b : List Rx, Rx.nodesL (a ++ b) = Rx.nodesL a + Rx.nodesL b := by
   intro a b
   induction a with
   | nil => simp [Rx.nodesL]
   | cons x y ih => simp only [List.cons_append, Rx.nodesL, ih]; omega
  simp only [flatR, happ, Rx.nodesL]
  have := r.nodes_eq
  split
  ·omega
  ·simp only [Rx.nodesL]; omega
theorem flat_take_nodes (k : Int) (l : List Rx) (j : Nat) : Rx.nodesL (flatR k (l.take j)) ≤ Rx.nodesL (l.take j) := flat_nodes k _
theorem flat_take_yes {kd : Int} {l : List Rx} {k : Nat} (h : k < l.length) (hk : (l[k]).kind = kd) : (flatR kd (l.take (k + 1))).map Rx.cells = (flatR kd (l.take k)).map Rx.cells ++ (l[k]).args.map Rx.cells := by
 rw [List.take_add_one, List.getElem?_eq_getElem h, flat_append, List.map_append]
 simp only [Option.toList_some, flatR, if_pos hk, List.append_nil]
theorem flat_take_no {kd : Int} {l : List Rx} {k : Nat} (h : k < l.length) (hk : ¬ (l[k]).kind = kd) : (flatR kd (l.take (k + 1))).map Rx.cells = (flatR kd (l.take k)).map Rx.cells ++ [(l[k]).cells] := by
 rw [List.take_add_one, List.getElem?_eq_getElem h, flat_append, List.map_append]
 simp only [Option.toList_some, flatR, if_neg hk, List.append_nil, List.map_cons, List.map_nil]
theorem same_no1 {a b : Rx} (h : a.kind ≠ b.kind ∨ a.set ≠ b.set ∨ a.args.length ≠ b.args.length) : a.same b = false := by
 rw [Bool.eq_false_iff]
 intro e
 have := (Rx.same_iff a b).1 e
 subst this
 rcases h with h | h | h <;> exact h rfl
theorem same_no2 {a b : Rx} {k : Nat} (h1 : k < a.args.length) (h2 : k < b.args.length) (h : (a.args[k]).same b.args[k] = false) : a.same b = false := by
 rw [Bool.eq_false_iff]
 intro e
 have := (Rx.same_iff a b).1 e
 subst this
 rw [(Rx.same_iff _ _).2 rfl] at h
 cases h
theorem same_all {a b : Rx} (h1 : a.kind = b.kind) (h2 : a.set = b.set) (h3 : a.args.length = b.args.length) (h : ∀ j (h1 : j < a.args.length) (h2 : j < b.args.length), a.args[j] = b.args[j]) : a.same b = true := by
 rw [Rx.same_iff]
 have : a.args = b.args := List.ext_getElem h3 h
 cases a; cases b
 simp_all [Rx.kind, Rx.set, Rx.args]
theorem none0_walk {w0 : World} {es : List Ent} : ACalls Tryd.prog w0 84 [] es fun v es' => v = .agg [.int .i64 1, .int .u64 0, .int .u64 0, .int .u64 0, .int .u64 0, .nil] ∧ es' = es := by
 refine calls0 (N := 2) Tryd.func84 rfl rfl ?_
 refine w_seq ?_
 refine w_region ?_
 refine l_cons rfl (p_alloc ze_29 fun s0 => ?_)
 refine l_nil ?_
 refine k_seq_normal ?_
 refine w_seq ?_
 refine w_region ?_
 refine l_cons rfl (p_build ze_29 pl_29 ?_)
 refine l_cons rfl (p_store ty_29 ?_)
 refine l_nil ?_
 refine k_seq_normal ?_
 refine w_ret ?_
 exact retc rfl ty_29 subx ⟨rfl, rfl⟩
theorem empty0_walk {w0 : World} {es : List Ent} : ACalls Tryd.prog w0 85 [] es fun v es' => v = .agg [.int .i64 2, .int .u64 0, .int .u64 0, .int .u64 0, .int .u64 0, .nil] ∧ es' = es := by
 refine calls0 (N := 2) Tryd.func85 rfl rfl ?_
 refine w_seq ?_
 refine w_region ?_
 refine l_cons rfl (p_alloc ze_29 fun s0 => ?_)
 refine l_nil ?_
 refine k_seq_normal ?_
 refine w_seq ?_
 refine w_region ?_
 refine l_cons rfl (p_build ze_29 pl_29 ?_)
 refine l_cons rfl (p_store ty_29 ?_)
 refine l_nil ?_
 refine k_seq_normal ?_
 refine w_ret ?_
 exact retc rfl ty_29 subx ⟨rfl, rfl⟩
theorem bytes0_walk {w0 : World} {es : List Ent} (s : W4) : ACalls Tryd.prog w0 67 [.agg s.row] es fun v es' => v = .agg (if s = noSet then [.int .i64 1, .int .u64 0, .int .u64 0, .int .u64 0, .int .u64 0, .nil] else [.int .i64 3, .int .u64 s.w0, .int .u64 s.w1, .int .u64 s.w2, .int .u64 s.w3, .nil]) ∧ es' = es := by
 unfold W4.row
 refine calls1 (N := 9) Tryd.func67 rfl rfl (by decide) ?_
 refine w_seq ?_
 refine w_region ?_
 refine l_cons rfl (p_box fun s1 => ?_)
 refine l_cons rfl (p_alloc ze_29 fun s2 => ?_)
 refine l_nil ?_
 refine k_seq_normal ?_
 refine w_seq ?_
 refine w_seq ?_
 refine w_region ?_
 refine l_cons rfl (p_loadp ty_26 ?_)
 refine l_cons rfl (p_buildArr ze_26 ar_26 ?_)
 refine l_cons rfl (p_eqa ai_26 ?_ (hb := eqA s noSet))
 refine l_nil ?_
 refine k_seq_normal ?_
 refine w_b (fun h1 => ?_) (fun h1 => ?_)
 ·skip
  have h1' := h1; (try simp only [bb] at h1')
  refine w_seq ?_
  refine w_region ?_
  refine l_cons rfl (p_callr en_84 (none0_walk) ?_)
  refine l_cons rfl (p_store ty_29 ?_)
  refine l_nil ?_
  refine k_seq_normal ?_
  refine w_ret ?_
  refine k_seq_ret ?_
  exact retc rfl ty_29 subx ⟨by rw [if_pos h1'], rfl⟩
 ·skip
  have h1' := h1; (try simp only [bb] at h1')
  refine w_skip ?_
  refine k_seq_normal ?_
  refine w_seq ?_
  refine w_region ?_
  refine l_cons rfl (p_loadp ty_26 ?_)
  refine l_cons rfl (p_build ze_29 pl_29 ?_)
  refine l_cons rfl (p_store ty_29 ?_)
  refine l_nil ?_
  refine k_seq_normal ?_
  refine w_ret ?_
  exact retc rfl ty_29 subx ⟨by rw [if_neg h1'], rfl⟩
theorem refNone {w0 : World} {es : List Ent} : ACalls Tryd.prog w0 84 [] es fun v es' => v = .agg noneR.cells ∧ es' = es := ACalls.weak (fun _ _ _ h => rep_aggNil 6 (l := [.int .i64 1, .int .u64 0, .int .u64 0, .int .u64 0, .int .u64 0, .nil]) h) none0_walk
theorem refEmpty {w0 : World} {es : List Ent} : ACalls Tryd.prog w0 85 [] es fun v es' => v = .agg emptyR.cells ∧ es' = es := ACalls.weak (fun _ _ _ h => rep_aggNil 6 (l := [.int .i64 2, .int .u64 0, .int .u64 0, .int .u64 0, .int .u64 0, .nil]) h) empty0_walk
theorem refBytes {w0 : World} {es : List Ent} (s : W4) : ACalls Tryd.prog w0 67 [.agg s.row] es fun v es' => v = .agg (bytesR s).cells ∧ es' = es := by
 refine ACalls.weak (fun _ _ _ h => ?_) (bytes0_walk s)
 have h2 := rep_aggNil 6 h
 unfold bytesR
 by_cases hs : s = noSet
 ·rw [if_pos hs] at h2 ⊢; exact h2
 ·rw [if_neg hs] at h2 ⊢; exact h2
theorem refNodes {w0 : World} : ∀ (B : Nat) (r : Rx) (es : List Ent), r.nodes ≤ B → B ≤ 1048576 → ACalls Tryd.prog w0 34 [.agg r.cells] es fun v es' => v = .int .i64 r.nodes ∧ es' = es := by
 intro B
 induction B using Nat.strongRecOn with
 | _ B ih => ?_
 intro r es hB hB2
 rw [Rx.cells_eq r]
 have hne := r.nodes_eq
 have hal := Rx.len_le r.args
 refine calls1 (N := 21) Tryd.func34 rfl rfl (by decide) ?_
 refine w_seq ?_
 refine w_region ?_
 refine l_cons rfl (p_box fun s1 => ?_)
 refine l_cons rfl (p_assign ?_)
 refine l_nil ?_
 refine k_seq_normal ?_
 refine w_seq ?_
 refine w_region ?_
 refine l_cons rfl (p_assign ?_)
 refine l_nil ?_
 refine k_seq_normal ?_
 refine w_seq ?_
 refine w_seq ?_
 refine w_region ?_
 refine l_cons rfl (p_assign ?_)
 refine l_nil ?_
 refine k_seq_normal ?_
 refine w_block ?_
 refine w_loop (fun m f es' => ∃ k, m = r.args.length - k ∧ k ≤ r.args.length ∧ es' = .row s1 29 6 [[.int .i64 r.kind, .int .u64 r.set.w0, .int .u64 r.set.w1, .int .u64 r.set.w2, .int .u64 r.set.w3, .list 6 (r.args.map Rx.cells)]] :: es ∧ Knows f [(1, .ptr es.length s1 0 0), (3, .int .i64 ((1 + Rx.nodesL (r.args.take k) : Nat) : Int)), (4, .int .i64 k)]) (r.args.length) (⟨0, rfl, Nat.zero_le _, rfl, kn⟩) ?_
 rintro m f es' ⟨k, rfl, hk1, rfl, hk⟩
 have hnl := Rx.nodesL_le r.args k
 refine w_pins _ (Sub.refl _) (hk) ?_
 simp only [pins]
 refine w_seq ?_
 refine w_seq ?_
 refine w_region ?_
 refine l_cons rfl (p_move ?_)
 refine l_cons rfl (p_fap fa_29_2 ?_)
 refine l_cons rfl (p_loadp ty_27 ?_)
 first | refine l_cons rfl (p_lenl sl_27 ?_) | refine l_cons rfl (p_leno sl_27 ?_) | refine l_cons rfl (p_lenn sl_27 ?_)
 refine l_cons rfl (p_cmp ?_)
 refine l_nil ?_
 refine k_seq_normal ?_
 refine w_b (fun h1 => ?_) (fun h1 => ?_)
 ·skip
  have h1' := h1; (try simp only [bb] at h1')
  refine w_skip ?_
  refine k_seq_normal ?_
  refine w_seq ?_
  refine w_block ?_
  have e := Rx.nodesL_take r.args k (by omega)
  have hnl2 := Rx.nodesL_le r.args (k + 1)
  refine w_region ?_
  refine l_cons rfl (p_move ?_)
  refine l_cons rfl (p_fap fa_29_2 ?_)
  refine l_cons rfl (p_loadp ty_27 ?_)
  refine l_cons rfl (p_move ?_)
  first | refine l_cons rfl (p_ixl sl_27 ?_) | refine l_cons rfl (p_ixo sl_27 ?_)
  first | refine l_cons rfl (p_loadf ty_29 ?_) | refine l_cons rfl (p_loadp ty_29 ?_)
  refine l_cons rfl (p_callr en_34 (ih (B - 1) (by omega) (r.args[k]'(by omega)) _ (by have := r.nodes_arg (k := k) (by omega); omega) (by omega)) ?_)
  refine l_cons rfl (p_arith ?_)
  refine l_cons rfl (p_assign ?_)
  refine l_nil ?_
  refine k_blk_normal ?_
  refine k_seq_normal ?_
  refine w_region ?_
  refine l_cons rfl (p_move ?_)
  refine l_cons rfl (p_arith ?_)
  refine l_cons rfl (p_assign ?_)
  refine l_nil ?_
  refine k_seq_normal ?_
  refine ⟨r.args.length - (k + 1), by omega, k + 1, rfl, by omega, rfl, ?_⟩
  simp only [Knows, put, upd_apply, Nat.reduceEqDiff, ↓reduceIte, and_true, true_and, eq_self, e]
  exact ⟨by congr 1; omega, rfl⟩
 ·skip
  have h1' := h1; (try simp only [bb] at h1')
  refine w_exit ?_
  refine k_seq_exit ?_
  refine k_seq_exit ?_
  refine k_blk_here ?_
  refine k_seq_normal ?_
  refine w_seq ?_
  refine w_region ?_
  refine l_cons rfl (p_move ?_)
  refine l_cons rfl (p_assign ?_)
  refine l_nil ?_
  refine k_seq_normal ?_
  refine w_ret ?_
  exact ret1 rfl ev1 subx ⟨by rw [List.take_of_length_le (by omega), hne], rfl⟩
theorem refDepth {w0 : World} : ∀ (B : Nat) (r : Rx) (es : List Ent), r.nodes ≤ B → B ≤ 1048576 → ACalls Tryd.prog w0 73 [.agg r.cells] es fun v es' => v = .int .i64 r.depth ∧ es' = es := by
 intro B
 induction B using Nat.strongRecOn with
 | _ B ih => ?_
 intro r es hB hB2
 rw [Rx.cells_eq r]
 have hne := r.nodes_eq
 have hal := Rx.len_le r.args
 refine calls1 (N := 22) Tryd.func73 rfl rfl (by decide) ?_
 refine w_seq ?_
 refine w_region ?_
 refine l_cons rfl (p_box fun s1 => ?_)
 refine l_cons rfl (p_assign ?_)
 refine l_nil ?_
 refine k_seq_normal ?_
 refine w_seq ?_
 refine w_region ?_
 refine l_cons rfl (p_assign ?_)
 refine l_nil ?_
 refine k_seq_normal ?_
 refine w_seq ?_
 refine w_seq ?_
 refine w_region ?_
 refine l_cons rfl (p_assign ?_)
 refine l_nil ?_
 refine k_seq_normal ?_
 refine w_block ?_
 refine w_loop (fun m f es' => ∃ k, m = r.args.length - k ∧ k ≤ r.args.length ∧ es' = .row s1 29 6 [[.int .i64 r.kind, .int .u64 r.set.w0, .int .u64 r.set.w1, .int .u64 r.set.w2, .int .u64 r.set.w3, .list 6 (r.args.map Rx.cells)]] :: es ∧ Knows f [(1, .ptr es.length s1 0 0), (3, .int .i64 (Rx.depthL (r.args.take k) : Int)), (4, .int .i64 k)]) (r.args.length) (⟨0, rfl, Nat.zero_le _, rfl, kn⟩) ?_
 rintro m f es' ⟨k, rfl, hk1, rfl, hk⟩
 have hnl := Rx.depthL_takele r.args k
 refine w_pins _ (Sub.refl _) (hk) ?_
 simp only [pins]
 refine w_seq ?_
 refine w_seq ?_
 refine w_region ?_
 refine l_cons rfl (p_move ?_)
 refine l_cons rfl (p_fap fa_29_2 ?_)
 refine l_cons rfl (p_loadp ty_27 ?_)
 first | refine l_cons rfl (p_lenl sl_27 ?_) | refine l_cons rfl (p_leno sl_27 ?_) | refine l_cons rfl (p_lenn sl_27 ?_)
 refine l_cons rfl (p_cmp ?_)
 refine l_nil ?_
 refine k_seq_normal ?_
 refine w_b (fun h1 => ?_) (fun h1 => ?_)
 ·skip
  have h1' := h1; (try simp only [bb] at h1')
  refine w_skip ?_
  refine k_seq_normal ?_
  refine w_seq ?_
  refine w_block ?_
  have e := Rx.depthL_take r.args k (by omega)
  refine w_region ?_
  refine l_cons rfl (p_move ?_)
  refine l_cons rfl (p_fap fa_29_2 ?_)
  refine l_cons rfl (p_loadp ty_27 ?_)
  refine l_cons rfl (p_move ?_)
  first | refine l_cons rfl (p_ixl sl_27 ?_) | refine l_cons rfl (p_ixo sl_27 ?_)
  first | refine l_cons rfl (p_loadf ty_29 ?_) | refine l_cons rfl (p_loadp ty_29 ?_)
  refine l_cons rfl (p_callr en_73 (ih (B - 1) (by omega) (r.args[k]'(by omega)) _ (by have := r.nodes_arg (k := k) (by omega); omega) (by omega)) ?_)
  refine l_cons rfl (p_max ?_)
  refine l_cons rfl (p_assign ?_)
  refine l_nil ?_
  refine k_blk_normal ?_
  refine k_seq_normal ?_
  refine w_region ?_
  refine l_cons rfl (p_move ?_)
  refine l_cons rfl (p_arith ?_)
  refine l_cons rfl (p_assign ?_)
  refine l_nil ?_
  refine k_seq_normal ?_
  refine ⟨r.args.length - (k + 1), by omega, k + 1, rfl, by omega, rfl, ?_⟩
  simp only [Knows, put, upd_apply, Nat.reduceEqDiff, ↓reduceIte, and_true, true_and, eq_self, e]
  exact ⟨by congr 1; split <;> omega, rfl⟩
 ·skip
  have h1' := h1; (try simp only [bb] at h1')
  refine w_exit ?_
  refine k_seq_exit ?_
  refine k_seq_exit ?_
  refine k_blk_here ?_
  refine k_seq_normal ?_
  refine w_seq ?_
  refine w_region ?_
  refine l_cons rfl (p_move ?_)
  refine l_cons rfl (p_arith ?_)
  refine l_cons rfl (p_assign ?_)
  refine l_nil ?_
  refine k_seq_normal ?_
  refine w_ret ?_
  exact ret1 rfl ev1 subx ⟨by rw [List.take_of_length_le (by omega), r.depth_eq]; rfl, rfl⟩
theorem refCopy {w0 : World} : ∀ (B : Nat) (r : Rx) (es : List Ent), r.nodes ≤ B → B ≤ 1048576 → ACalls Tryd.prog w0 63 [.agg r.cells] es fun v es' => v = .agg r.cells ∧ es' = es := by
 intro B
 induction B using Nat.strongRecOn with
 | _ B ih => ?_
 intro r es hB hB2
 rw [Rx.cells_eq r]
 have hne := r.nodes_eq
 have hal := Rx.len_le r.args
 refine calls1 (N := 24) Tryd.func63 rfl rfl (by decide) ?_
 refine w_seq ?_
 refine w_region ?_
 refine l_cons rfl (p_box fun s1 => ?_)
 refine l_cons rfl (p_alloc ze_29 fun s2 => ?_)
 refine l_nil ?_
 refine k_seq_normal ?_
 refine w_seq ?_
 refine w_region ?_
 refine l_cons rfl (p_assign ?_)
 refine l_nil ?_
 refine k_seq_normal ?_
 refine w_seq ?_
 refine w_seq ?_
 refine w_adopt 3 29 6 rfl fun s3 => ?_
 simp only [upd_upd]
 refine w_region ?_
 refine l_cons rfl (p_assign ?_)
 refine l_nil ?_
 refine k_seq_normal ?_
 refine w_block ?_
 refine w_loop (fun m f es' => ∃ k s3, m = r.args.length - k ∧ k ≤ r.args.length ∧ es' = .row s3 29 6 ((r.args.take k).map Rx.cells) :: .row s2 29 6 [[.int .i64 0, .int .u64 0, .int .u64 0, .int .u64 0, .int .u64 0, .nil]] :: .row s1 29 6 [[.int .i64 r.kind, .int .u64 r.set.w0, .int .u64 r.set.w1, .int .u64 r.set.w2, .int .u64 r.set.w3, .list 6 (r.args.map Rx.cells)]] :: es ∧ Knows f [(1, .ptr es.length s1 0 0), (2, .ptr (es.length + 1) s2 0 0), (3, .own (es.length + 2) s3), (4, .int .i64 k)]) (r.args.length) (⟨0, s3, rfl, Nat.zero_le _, rfl, kn⟩) ?_
 rintro m f es' ⟨k, s3, rfl, hk1, rfl, hk⟩
 refine w_pins _ (Sub.refl _) (hk) ?_
 simp only [pins]
 refine w_seq ?_
 refine w_seq ?_
 refine w_region ?_
 refine l_cons rfl (p_move ?_)
 refine l_cons rfl (p_fap fa_29_2 ?_)
 refine l_cons rfl (p_loadp ty_27 ?_)
 first | refine l_cons rfl (p_lenl sl_27 ?_) | refine l_cons rfl (p_leno sl_27 ?_) | refine l_cons rfl (p_lenn sl_27 ?_)
 refine l_cons rfl (p_cmp ?_)
 refine l_nil ?_
 refine k_seq_normal ?_
 refine w_b (fun h1 => ?_) (fun h1 => ?_)
 ·skip
  have h1' := h1; (try simp only [bb] at h1')
  refine w_skip ?_
  refine k_seq_normal ?_
  refine w_seq ?_
  refine w_block ?_
  refine w_region ?_
  refine l_cons rfl (p_move ?_)
  refine l_cons rfl (p_fap fa_29_2 ?_)
  refine l_cons rfl (p_loadp ty_27 ?_)
  refine l_cons rfl (p_move ?_)
  first | refine l_cons rfl (p_ixl sl_27 ?_) | refine l_cons rfl (p_ixo sl_27 ?_)
  first | refine l_cons rfl (p_loadf ty_29 ?_) | refine l_cons rfl (p_loadp ty_29 ?_)
  refine l_cons rfl (p_callr en_63 (ih (B - 1) (by omega) (r.args[k]'(by omega)) _ (by have := r.nodes_arg (k := k) (by omega); omega) (by omega)) ?_)
  refine l_cons rfl (p_buildList sl_27 ze_29 ?_)
  refine l_cons rfl (p_append sl_27 by_29 ze_29 (fun s20 => ?_) (hb := by simp only [List.length_map, List.length_take, List.length_append, List.length_cons, List.length_nil, most]; omega))
  refine l_cons rfl (p_assign ?_)
  refine l_nil ?_
  refine k_blk_normal ?_
  refine k_seq_normal ?_
  refine w_region ?_
  refine l_cons rfl (p_move ?_)
  refine l_cons rfl (p_arith ?_)
  refine l_cons rfl (p_assign ?_)
  refine l_nil ?_
  refine k_seq_normal ?_
  exact ⟨r.args.length - (k + 1), by omega, k + 1, s20, rfl, by omega, by rw [take_map_succ (by omega)]; rfl, kn⟩
 ·skip
  have h1' := h1; (try simp only [bb] at h1')
  refine w_exit ?_
  refine k_seq_exit ?_
  refine k_seq_exit ?_
  refine k_blk_here ?_
  refine k_seq_normal ?_
  refine w_seq ?_
  refine w_freezeTop 3 ?_ (hclean := cleans_rx _)
  rw [show k = r.args.length by omega, List.take_length]
  refine w_region ?_
  refine l_cons rfl (p_move ?_)
  refine l_cons rfl (p_fap fa_29_2 ?_)
  refine l_cons rfl (p_store ty_27 ?_)
  refine l_nil ?_
  refine k_seq_normal ?_
  refine w_seq ?_
  refine w_region ?_
  refine l_cons rfl (p_loadp ty_29 ?_)
  refine l_cons rfl (p_store ty_29 ?_)
  refine l_nil ?_
  refine k_seq_normal ?_
  refine w_ret ?_
  exact retc rfl ty_29 subx ⟨rfl, rfl⟩
theorem refFlat {w0 : World} {es : List Ent} (kd : Int) (l : List Rx) (hn : Rx.nodesL l ≤ 1048576) : ACalls Tryd.prog w0 83 [.int .i64 kd, .list 6 (l.map Rx.cells)] es fun v es' => v = .list 6 ((flatR kd l).map Rx.cells) ∧ es' = es := by
 refine calls2 (N := 35) Tryd.func83 rfl rfl (by decide) ?_
 refine w_seq ?_
 refine w_region ?_
 refine l_cons rfl (p_assign ?_)
 refine l_nil ?_
 refine k_seq_normal ?_
 refine w_seq ?_
 have hal := Rx.len_le l
 refine w_region ?_
 refine l_cons rfl (p_assign ?_)
 refine l_nil ?_
 refine k_seq_normal ?_
 refine w_seq ?_
 refine w_seq ?_
 refine w_adopt 5 29 6 rfl fun s5 => ?_
 simp only [upd_upd]
 refine w_region ?_
 refine l_cons rfl (p_assign ?_)
 refine l_nil ?_
 refine k_seq_normal ?_
 refine w_block ?_
 refine w_loop (fun m f es' => ∃ k s5, m = l.length - k ∧ k ≤ l.length ∧ es' = .row s5 29 6 ((flatR kd (l.take k)).map Rx.cells) :: es ∧ Knows f [(0, .int .i64 kd), (1, .list 6 (l.map Rx.cells)), (5, .own es.length s5), (6, .int .i64 k)]) (l.length) (⟨0, s5, rfl, Nat.zero_le _, rfl, kn⟩) ?_
 rintro m f es' ⟨k, s5, rfl, hk1, rfl, hk⟩
 refine w_pins _ (Sub.refl _) (hk) ?_
 simp only [pins]
 refine w_seq ?_
 refine w_seq ?_
 refine w_region ?_
 refine l_cons rfl (p_move ?_)
 refine l_cons rfl (p_move ?_)
 refine l_cons rfl (p_lenl sl_27 ?_)
 refine l_cons rfl (p_cmp ?_)
 refine l_nil ?_
 refine k_seq_normal ?_
 refine w_b (fun h1 => ?_) (fun h1 => ?_)
 ·skip
  have h1' := h1; (try simp only [bb] at h1')
  refine w_skip ?_
  refine k_seq_normal ?_
  refine w_seq ?_
  refine w_block ?_
  refine w_seq ?_
  have hx1 := flat_take_nodes kd l k
  have hx2 := Rx.nodesL_take l k (by omega)
  have hx3 := Rx.nodesL_le l (k + 1)
  have hx4 := Rx.len_le (flatR kd (l.take k))
  have hx5 := (l[k]'(by omega)).nodes_eq
  have hx6 := Rx.len_le (l[k]'(by omega)).args
  refine w_region ?_
  refine l_cons rfl (p_move ?_)
  refine l_cons rfl (p_move ?_)
  refine l_cons rfl (p_ixl sl_27 ?_)
  refine l_cons rfl (p_faf fa_29_0 ?_)
  refine l_cons rfl (p_loadf ty_3 ?_)
  refine l_cons rfl (p_move ?_)
  refine l_cons rfl (p_cmp ?_)
  refine l_nil ?_
  refine k_seq_normal ?_
  refine w_b (fun h2 => ?_) (fun h2 => ?_)
  ·skip
   have h2' := h2; (try simp only [bb] at h2')
   refine w_region ?_
   refine l_cons rfl (p_move ?_)
   refine l_cons rfl (p_move ?_)
   refine l_cons rfl (p_move ?_)
   refine l_cons rfl (p_ixl sl_27 ?_)
   refine l_cons rfl (p_faf fa_29_2 ?_)
   refine l_cons rfl (p_loadf ty_27 (a := .list 6 ((l[k]'(by omega)).args.map Rx.cells)) ?_ (ha := args_load _))
   refine l_cons rfl (p_append sl_27 by_29 ze_29 (fun s26 => ?_) (hb := by simp only [List.length_map, List.length_take, List.length_append, List.length_cons, List.length_nil, most]; omega))
   refine l_cons rfl (p_assign ?_)
   refine l_nil ?_
   refine k_blk_normal ?_
   refine k_seq_normal ?_
   refine w_region ?_
   refine l_cons rfl (p_move ?_)
   refine l_cons rfl (p_arith ?_)
   refine l_cons rfl (p_assign ?_)
   refine l_nil ?_
   refine k_seq_normal ?_
   first
   | exact ⟨l.length - (k + 1), by omega, k + 1, s26, rfl, by omega, by rw [flat_take_yes (by omega) h2'] <;> rfl, kn⟩
   | exact ⟨l.length - (k + 1), by omega, k + 1, s33, rfl, by omega, by rw [flat_take_no (by omega) h2'] <;> rfl, kn⟩
  ·skip
   have h2' := h2; (try simp only [bb] at h2')
   refine w_region ?_
   refine l_cons rfl (p_move ?_)
   refine l_cons rfl (p_move ?_)
   refine l_cons rfl (p_move ?_)
   refine l_cons rfl (p_ixl sl_27 ?_)
   refine l_cons rfl (p_loadf ty_29 ?_)
   refine l_cons rfl (p_buildList sl_27 ze_29 ?_)
   refine l_cons rfl (p_append sl_27 by_29 ze_29 (fun s33 => ?_) (hb := by simp only [List.length_map, List.length_take, List.length_append, List.length_cons, List.length_nil, most]; omega))
   refine l_cons rfl (p_assign ?_)
   refine l_nil ?_
   refine k_blk_normal ?_
   refine k_seq_normal ?_
   refine w_region ?_
   refine l_cons rfl (p_move ?_)
   refine l_cons rfl (p_arith ?_)
   refine l_cons rfl (p_assign ?_)
   refine l_nil ?_
   refine k_seq_normal ?_
   first
   | exact ⟨l.length - (k + 1), by omega, k + 1, s26, rfl, by omega, by rw [flat_take_yes (by omega) h2'] <;> rfl, kn⟩
   | exact ⟨l.length - (k + 1), by omega, k + 1, s33, rfl, by omega, by rw [flat_take_no (by omega) h2'] <;> rfl, kn⟩
 ·skip
  have h1' := h1; (try simp only [bb] at h1')
  refine w_exit ?_
  refine k_seq_exit ?_
  refine k_seq_exit ?_
  refine k_blk_here ?_
  refine k_seq_normal ?_
  refine w_seq ?_
  refine w_freezeTop 5 ?_ (hclean := cleans_rx _)
  rw [show k = l.length by omega, List.take_length]
  refine w_region ?_
  refine l_cons rfl (p_move ?_)
  refine l_cons rfl (p_assign ?_)
  refine l_nil ?_
  refine k_seq_normal ?_
  refine w_ret ?_
  exact ret1 rfl ev1 subx ⟨rfl, rfl⟩
theorem refSame {w0 : World} : ∀ (B : Nat) (a b : Rx) (es : List Ent), a.nodes ≤ B → ACalls Tryd.prog w0 64 [.agg a.cells, .agg b.cells] es fun v es' => v = .bool (a.same b) ∧ es' = es := by
 intro B
 induction B using Nat.strongRecOn with
 | _ B ih => ?_
 intro a b es hB
 rw [Rx.cells_eq a, Rx.cells_eq b]
 have hne := a.nodes_eq
 refine calls2 (N := 46) Tryd.func64 rfl rfl (by decide) ?_
 refine w_seq ?_
 refine w_region ?_
 refine l_cons rfl (p_box fun s2 => ?_)
 refine l_cons rfl (p_box fun s3 => ?_)
 refine l_cons rfl (p_assign ?_)
 refine l_nil ?_
 refine k_seq_normal ?_
 refine w_seq ?_
 refine w_seq ?_
 refine w_region ?_
 refine l_cons rfl (p_fap fa_29_0 ?_)
 refine l_cons rfl (p_loadp ty_3 ?_)
 refine l_cons rfl (p_fap fa_29_0 ?_)
 refine l_cons rfl (p_loadp ty_3 ?_)
 refine l_cons rfl (p_cmp ?_)
 refine l_cons rfl (p_move ?_)
 refine g_b rfl (fun h1 => ?_) (fun h1 => ?_)
 ·skip
  have h1' := h1; (try simp only [bb] at h1')
  refine (p_fap fa_29_1 ?_)
  refine g_y rfl h1 (p_loadp ty_26 ?_)
  refine g_y rfl h1 (p_fap fa_29_1 ?_)
  refine g_y rfl h1 (p_loadp ty_26 ?_)
  refine g_y rfl h1 (p_nea ai_26 ?_ (hb := neA a.set b.set))
  refine l_cons rfl (p_pickf h1 ?_)
  refine l_cons rfl (p_move ?_)
  refine g_b rfl (fun h2 => ?_) (fun h2 => ?_)
  ·skip
   have h2' := h2; (try simp only [bb] at h2')
   refine (p_fap fa_29_2 ?_)
   refine g_y rfl h2 (p_loadp ty_27 ?_)
   first | refine g_y rfl h2 (p_lenl sl_27 ?_) | refine g_y rfl h2 (p_leno sl_27 ?_) | refine g_y rfl h2 (p_lenn sl_27 ?_)
   refine g_y rfl h2 (p_fap fa_29_2 ?_)
   refine g_y rfl h2 (p_loadp ty_27 ?_)
   first | refine g_y rfl h2 (p_lenl sl_27 ?_) | refine g_y rfl h2 (p_leno sl_27 ?_) | refine g_y rfl h2 (p_lenn sl_27 ?_)
   refine g_y rfl h2 (p_cmp ?_)
   refine l_cons rfl (p_pickf h2 ?_)
   refine l_nil ?_
   refine k_seq_normal ?_
   refine w_b (fun h3 => ?_) (fun h3 => ?_)
   ·skip
    have h3' := h3; (try simp only [bb] at h3')
    refine w_seq ?_
    refine w_region ?_
    refine l_cons rfl (p_assign ?_)
    refine l_nil ?_
    refine k_seq_normal ?_
    refine w_ret ?_
    refine k_seq_ret ?_
    exact ret1 rfl ev1 subx ⟨by rw [same_no1 (by first | (left; simp_all; done) | (right; left; simp_all; done) | (right; right; simp_all; omega) | (right; right; simp_all))], rfl⟩
   ·skip
    have h3' := h3; (try simp only [bb] at h3')
    refine w_skip ?_
    refine k_seq_normal ?_
    refine w_seq ?_
    refine w_seq ?_
    have hab : a.kind = b.kind ∧ a.set = b.set ∧ a.args.length = b.args.length := by refine ⟨?_, ?_, ?_⟩ <;> first | (simp_all; done) | (simp_all; omega)
    refine w_region ?_
    refine l_cons rfl (p_assign ?_)
    refine l_nil ?_
    refine k_seq_normal ?_
    refine w_block ?_
    refine w_loop (fun q f es' => ∃ k, q = a.args.length - k ∧ k ≤ a.args.length ∧ (∀ j (hj : j < k) (h1 : j < a.args.length) (h2 : j < b.args.length), a.args[j] = b.args[j]) ∧ es' = .row s3 29 6 [[.int .i64 b.kind, .int .u64 b.set.w0, .int .u64 b.set.w1, .int .u64 b.set.w2, .int .u64 b.set.w3, .list 6 (b.args.map Rx.cells)]] :: .row s2 29 6 [[.int .i64 a.kind, .int .u64 a.set.w0, .int .u64 a.set.w1, .int .u64 a.set.w2, .int .u64 a.set.w3, .list 6 (a.args.map Rx.cells)]] :: es ∧ Knows f [(2, .ptr es.length s2 0 0), (3, .ptr (es.length + 1) s3 0 0), (5, .int .i64 k)]) (a.args.length) (⟨0, rfl, Nat.zero_le _, fun j hj => absurd hj (Nat.not_lt_zero _), rfl, kn⟩) ?_
    rintro q f es' ⟨k, rfl, hk1, hk2, rfl, hk⟩
    obtain ⟨hab1, hab2, hab3⟩ := hab
    refine w_pins _ (Sub.refl _) (hk) ?_
    simp only [pins]
    refine w_seq ?_
    refine w_seq ?_
    refine w_region ?_
    refine l_cons rfl (p_move ?_)
    refine l_cons rfl (p_fap fa_29_2 ?_)
    refine l_cons rfl (p_loadp ty_27 ?_)
    refine l_len 29 fun hl => ?_
    simp only [List.length_map, most] at hl
    first | refine l_cons rfl (p_lenl sl_27 ?_) | refine l_cons rfl (p_leno sl_27 ?_) | refine l_cons rfl (p_lenn sl_27 ?_)
    refine l_cons rfl (p_cmp ?_)
    refine l_nil ?_
    refine k_seq_normal ?_
    refine w_b (fun h4 => ?_) (fun h4 => ?_)
    ·skip
     have h4' := h4; (try simp only [bb] at h4')
     refine w_skip ?_
     refine k_seq_normal ?_
     refine w_seq ?_
     refine w_block ?_
     refine w_seq ?_
     refine w_drawn 10 [] (fun e => e = _) mixed (by kernel_rfl) rfl ?_
     refine q1 2 (hg := rfl) (hu := rfl) (h := by rintro f _ rfl; exact p_fap fa_29_2 ⟨rfl, rfl⟩) (k := ?_)
     refine q1 34 (hg := rfl) (hu := rfl) (h := by rintro f _ rfl; exact p_loadp ty_27 ⟨rfl, rfl⟩) (k := ?_)
     refine q1 5 (hg := rfl) (hu := rfl) (h := by rintro f _ rfl; exact p_move ⟨rfl, rfl⟩) (k := ?_)
     first | refine q2 35 36 (hg := rfl) (hu := rfl) (h := by rintro f _ rfl; exact p_ixl sl_27 ⟨rfl, rfl⟩) (k := ?_) | refine q2 35 36 (hg := rfl) (hu := rfl) (h := by rintro f _ rfl; exact p_ixo sl_27 ⟨rfl, rfl⟩) (k := ?_)
     first | refine q1 37 (hg := rfl) (hu := rfl) (h := by rintro f _ rfl; exact p_loadf ty_29 ⟨rfl, rfl⟩) (k := ?_) | refine q1 37 (hg := rfl) (hu := rfl) (h := by rintro f _ rfl; exact p_loadp ty_29 ⟨rfl, rfl⟩) (k := ?_)
     refine q1 3 (hg := rfl) (hu := rfl) (h := by rintro f _ rfl; exact p_fap fa_29_2 ⟨rfl, rfl⟩) (k := ?_)
     refine q1 39 (hg := rfl) (hu := rfl) (h := by rintro f _ rfl; exact p_loadp ty_27 ⟨rfl, rfl⟩) (k := ?_)
     refine q1 5 (hg := rfl) (hu := rfl) (h := by rintro f _ rfl; exact p_move ⟨rfl, rfl⟩) (k := ?_)
     first | refine q2 40 41 (hg := rfl) (hu := rfl) (h := by rintro f _ rfl; exact p_ixl sl_27 ⟨rfl, rfl⟩) (k := ?_) | refine q2 40 41 (hg := rfl) (hu := rfl) (h := by rintro f _ rfl; exact p_ixo sl_27 ⟨rfl, rfl⟩) (k := ?_)
     first | refine q1 42 (hg := rfl) (hu := rfl) (h := by rintro f _ rfl; exact p_loadf ty_29 ⟨rfl, rfl⟩) (k := ?_) | refine q1 42 (hg := rfl) (hu := rfl) (h := by rintro f _ rfl; exact p_loadp ty_29 ⟨rfl, rfl⟩) (k := ?_)
     refine q_end ?_
     refine m_end ?_
     refine l_cons rfl (p_callr en_64 (ih (B - 1) (by omega) (a.args[k]'(by omega)) (b.args[k]'(by omega)) _ (by have := a.nodes_arg (k := k) (by omega); omega)) ?_)
     refine l_cons rfl (p_not ?_)
     refine l_nil ?_
     refine k_seq_normal ?_
     refine w_b (fun h5 => ?_) (fun h5 => ?_)
     ·skip
      have h5' := h5; (try simp only [bb] at h5')
      refine w_seq ?_
      refine w_region ?_
      refine l_cons rfl (p_assign ?_)
      refine l_nil ?_
      refine k_seq_normal ?_
      refine w_ret ?_
      refine k_blk_ret ?_
      refine k_seq_ret ?_
      refine k_seq_ret ?_
      refine k_blk_ret ?_
      refine k_seq_ret ?_
      exact ret1 rfl ev1 subx ⟨by rw [same_no2 (k := k) (by omega) (by omega) (by simp_all)], rfl⟩
     ·skip
      have h5' := h5; (try simp only [bb] at h5')
      refine w_skip ?_
      refine k_blk_normal ?_
      refine k_seq_normal ?_
      refine w_region ?_
      refine l_cons rfl (p_move ?_)
      refine l_cons rfl (p_arith ?_)
      refine l_cons rfl (p_assign ?_)
      refine l_nil ?_
      refine k_seq_normal ?_
      exact ⟨a.args.length - (k + 1), by omega, k + 1, rfl, by omega, fun j hj h1 h2 => by
       rcases Nat.lt_or_eq_of_le (Nat.le_of_lt_succ hj) with h9 | h9
       ·exact hk2 j h9 h1 h2
       ·subst h9; exact (Rx.same_iff _ _).1 (by simp_all), rfl, kn⟩
    ·skip
     have h4' := h4; (try simp only [bb] at h4')
     refine w_exit ?_
     refine k_seq_exit ?_
     refine k_seq_exit ?_
     refine k_blk_here ?_
     refine k_seq_normal ?_
     refine w_seq ?_
     refine w_region ?_
     refine l_cons rfl (p_assign ?_)
     refine l_nil ?_
     refine k_seq_normal ?_
     refine w_ret ?_
     exact ret1 rfl ev1 subx ⟨by rw [same_all hab1 hab2 hab3 (fun j h1 h2 => hk2 j (by omega) h1 h2)], rfl⟩
  ·skip
   have h2' := h2; (try simp only [bb] at h2')
   refine g_n rfl h2 ?_
   refine g_n rfl h2 ?_
   refine g_n rfl h2 ?_
   refine g_n rfl h2 ?_
   refine g_n rfl h2 ?_
   refine g_n rfl h2 ?_
   refine l_cons rfl (p_pickt h2 ?_)
   refine l_nil ?_
   refine k_seq_normal ?_
   refine w_t rfl ?_
   refine w_seq ?_
   refine w_region ?_
   refine l_cons rfl (p_assign ?_)
   refine l_nil ?_
   refine k_seq_normal ?_
   refine w_ret ?_
   refine k_seq_ret ?_
   exact ret1 rfl ev1 subx ⟨by rw [same_no1 (by first | (left; simp_all; done) | (right; left; simp_all; done) | (right; right; simp_all; omega) | (right; right; simp_all))], rfl⟩
 ·skip
  have h1' := h1; (try simp only [bb] at h1')
  refine g_n rfl h1 ?_
  refine g_n rfl h1 ?_
  refine g_n rfl h1 ?_
  refine g_n rfl h1 ?_
  refine l_cons rfl (p_pickt h1 ?_)
  refine l_cons rfl (p_move ?_)
  refine g_n rfl rfl ?_
  refine g_n rfl rfl ?_
  refine g_n rfl rfl ?_
  refine g_n rfl rfl ?_
  refine g_n rfl rfl ?_
  refine g_n rfl rfl ?_
  refine g_n rfl rfl ?_
  refine l_cons rfl (p_pickt rfl ?_)
  refine l_nil ?_
  refine k_seq_normal ?_
  refine w_t rfl ?_
  refine w_seq ?_
  refine w_region ?_
  refine l_cons rfl (p_assign ?_)
  refine l_nil ?_
  refine k_seq_normal ?_
  refine w_ret ?_
  refine k_seq_ret ?_
  exact ret1 rfl ev1 subx ⟨by rw [same_no1 (by first | (left; simp_all; done) | (right; left; simp_all; done) | (right; right; simp_all; omega) | (right; right; simp_all))], rfl⟩
end
section
/-! ### sets, byte by byte -/
def listTo (s : W4) (k : Nat) : List Int := ((List.range k).filter s.has).map Int.ofNat
def listW (s : W4) : List Int := listTo s 256
def W4.setWd (s : W4) (q : Nat) (v : Int) : W4 := if q = 0 then { s with w0 := v } else if q = 1 then { s with w1 := v } else if q = 2 then { s with w2 := v } else { s with w3 := v }
def W4.add (s : W4) (b : Int) : W4 := s.setWd (b / 64).toNat (orI (s.wd (b / 64).toNat) (2 ^ (b % 64).toNat))
def ofW (l : List Int) : W4 := l.foldl W4.add noSet
theorem listTo_succ (s : W4) (k : Nat) : listTo s (k + 1) = listTo s k ++ (if s.has k = true then [(k : Int)] else []) := by
 unfold listTo
 rw [List.range_succ, List.filter_append, List.map_append]
 by_cases h : s.has k = true
 ·rw [if_pos h, List.filter_cons_of_pos (by simpa using h)]; rfl
 ·rw [if_neg h, List.filter_cons_of_neg (by simpa using h)]; rfl
theorem listTo_len (s : W4) (k : Nat) : (listTo s k).length ≤ k := by
 unfold listTo
 rw [List.length_map]
 have := List.length_filter_le s.has (List.range k)
 simpa using this
theorem listW_mem {s : W4} {n : Int} : n ∈ listW s ↔ ∃ i : Nat, n = i ∧ i < 256 ∧ s.has i = true := by
 unfold listW listTo
 simp only [List.mem_map, List.mem_filter, List.mem_range]
 constructor
 ·rintro ⟨i, ⟨h1, h2⟩, rfl⟩; exact ⟨i, rfl, h1, h2⟩
 ·rintro ⟨i, rfl, h1, h2⟩; exact ⟨i, ⟨h1, h2⟩, rfl⟩
theorem setWd_wd (s : W4) {q q' : Nat} (v : Int) (hq : q < 4) (hq' : q' < 4) : (s.setWd q v).wd q' = if q' = q then v else s.wd q' := by
 have h1 : q = 0 ∨ q = 1 ∨ q = 2 ∨ q = 3 := by omega
 have h2 : q' = 0 ∨ q' = 1 ∨ q' = 2 ∨ q' = 3 := by omega
 rcases h1 with rfl | rfl | rfl | rfl <;> rcases h2 with rfl | rfl | rfl | rfl <;> simp [W4.setWd, W4.wd]
theorem setWd_ok {s : W4} (h : s.ok) (q : Nat) {v : Int} (hv : 0 ≤ v ∧ v < 18446744073709551616) : (s.setWd q v).ok := by
 unfold W4.ok at *
 unfold W4.setWd
 split
 ·simp only; omega
 ·split
  ·simp only; omega
  ·split <;> simp only <;> omega
theorem two_lt {n : Nat} (h : n < 64) : (0 : Int) ≤ 2 ^ n ∧ (2 : Int) ^ n < 18446744073709551616 := by
 have e : ((2 : Int) ^ n) = ((2 ^ n : Nat) : Int) := by simp
 have : (2 : Nat) ^ n < 2 ^ 64 := Nat.pow_lt_pow_right (by omega) h
 rw [e]
 generalize (2 : Nat) ^ n = m at this
 omega
theorem add_ok {s : W4} (h : s.ok) {b : Int} (h0 : 0 ≤ b) (h1 : b < 256) : (s.add b).ok := by
 unfold W4.add
 exact setWd_ok h _ (or_lt (W4.wd_ok h _).2 (two_lt (by omega)).2)
theorem add_has {s : W4} (h : s.ok) {b : Int} (h0 : 0 ≤ b) (h1 : b < 256) {i : Nat} (hi : i < 256) : (s.add b).has i = (s.has i || decide ((i : Int) = b)) := by
 rw [W4.has_eq (add_ok h h0 h1) hi, W4.has_eq h hi]
 unfold W4.add
 rw [setWd_wd s _ (by omega) (by omega)]
 by_cases hq : i / 64 = (b / 64).toNat
 ·rw [if_pos hq, ← hq]
  unfold orI
  rw [Int.toNat_natCast, Nat.testBit_or]
  congr 1
  have e : ((2 : Int) ^ (b % 64).toNat).toNat = 2 ^ (b % 64).toNat := by
   have e : ((2 : Int) ^ (b % 64).toNat) = ((2 ^ (b % 64).toNat : Nat) : Int) := by simp
   rw [e, Int.toNat_natCast]
  rw [e, Nat.testBit_two_pow, decide_eq_decide]
  omega
 ·rw [if_neg hq, show decide ((i : Int) = b) = false from decide_eq_false (by omega)]
  simp
theorem ofW_from : ∀ {l : List Int} {s : W4}, s.ok → (∀ b ∈ l, 0 ≤ b ∧ b < 256) → (l.foldl W4.add s).ok ∧ ∀ i : Nat, i < 256 → (l.foldl W4.add s).has i = (s.has i || decide ((i : Int) ∈ l))
 | [], s, h, _ => ⟨h, fun i _ => by simp⟩
 | b :: t, s, h, hl => by
  have hb := hl b (by simp)
  obtain ⟨h1, h2⟩ := ofW_from (l := t) (add_ok h hb.1 hb.2) (fun x hx => hl x (by simp [hx]))
  refine ⟨h1, fun i hi => ?_⟩
  show (t.foldl W4.add (s.add b)).has i = _
  rw [h2 i hi, add_has h hb.1 hb.2 hi, Bool.or_assoc]
  congr 1
  rw [Bool.eq_iff_iff]
  simp
theorem noSet_has {i : Nat} (hi : i < 256) : noSet.has i = false := by
 rw [W4.has_eq noSet_ok hi]
 simp [noSet, W4.wd]
theorem ofW_ok {l : List Int} (h : ∀ b ∈ l, 0 ≤ b ∧ b < 256) : (ofW l).ok := (ofW_from noSet_ok h).1
theorem ofW_has {l : List Int} (h : ∀ b ∈ l, 0 ≤ b ∧ b < 256) {i : Nat} (hi : i < 256) : (ofW l).has i = decide ((i : Int) ∈ l) := by
 unfold ofW
 rw [(ofW_from noSet_ok h).2 i hi, noSet_has hi, Bool.false_or]
theorem or_has {a b : W4} (ha : a.ok) (hb : b.ok) {i : Nat} (hi : i < 256) : (a.or b).has i = (a.has i || b.has i) := by
 rw [W4.has_eq (or_ok ha hb) hi, W4.has_eq ha hi, W4.has_eq hb hi, ← Nat.testBit_or]
 congr 1
 have h4 : i / 64 = 0 ∨ i / 64 = 1 ∨ i / 64 = 2 ∨ i / 64 = 3 := by omega
 rcases h4 with h | h | h | h <;> rw [h] <;> simp [W4.or, W4.wd, orI]
theorem ofW_or {a b : W4} (ha : a.ok) (hb : b.ok) : ofW (listW a ++ listW b) = a.or b := by
 have hr : ∀ x ∈ listW a ++ listW b, 0 ≤ x ∧ x < 256 := by
  intro x hx
  rcases List.mem_append.1 hx with hx | hx <;> (obtain ⟨i, rfl, h1, _⟩ := listW_mem.1 hx; omega)
 refine W4.ext (ofW_ok hr) (or_ok ha hb) fun i hi => ?_
 rw [ofW_has hr hi, or_has ha hb hi, Bool.eq_iff_iff]
 simp only [decide_eq_true_eq, List.mem_append, Bool.or_eq_true]
 constructor
 ·rintro (h | h)
  ·obtain ⟨j, e, _, h2⟩ := listW_mem.1 h
   have : j = i := by omega
   exact .inl (this ▸ h2)
  ·obtain ⟨j, e, _, h2⟩ := listW_mem.1 h
   have : j = i := by omega
   exact .inr (this ▸ h2)
 ·rintro (h | h)
  ·exact .inl (listW_mem.2 ⟨i, rfl, hi, h⟩)
  ·exact .inr (listW_mem.2 ⟨i, rfl, hi, h⟩)
theorem ofW_take {l : List Int} {k : Nat} (h : k < l.length) : ofW (l.take (k + 1)) = (ofW (l.take k)).add l[k] := by
 unfold ofW
 rw [List.take_add_one, List.getElem?_eq_getElem h, List.foldl_append]
 rfl
theorem store_wd (s : W4) {q : Nat} (hq : q < 4) (v : Int) : [AV.int .u64 s.w0, .int .u64 s.w1, .int .u64 s.w2, .int .u64 s.w3].take q ++ [.int .u64 v] ++ [AV.int .u64 s.w0, .int .u64 s.w1, .int .u64 s.w2, .int .u64 s.w3].drop (q + 1) = [.int .u64 (s.setWd q v).w0, .int .u64 (s.setWd q v).w1, .int .u64 (s.setWd q v).w2, .int .u64 (s.setWd q v).w3] := by
 have h1 : q = 0 ∨ q = 1 ∨ q = 2 ∨ q = 3 := by omega
 rcases h1 with rfl | rfl | rfl | rfl <;> simp [W4.setWd]
theorem shl1 {b : Int} (h0 : 0 ≤ b) : IntKind.u64.wrap (1 * 2 ^ (min (b % 64).toNat IntKind.u64.bits)) = 2 ^ (b % 64).toNat := by
 have hb : (b % 64).toNat < 64 := by omega
 have : min (b % 64).toNat IntKind.u64.bits = (b % 64).toNat := by rw [show IntKind.u64.bits = 64 from rfl]; omega
 rw [this, Int.one_mul]
 exact wrap_u64_id (two_lt hb).1 (two_lt hb).2
/-! ### one more, in its order -/
theorem insR_at : ∀ {l : List Rx} {r : Rx} {k : Nat}, k ≤ l.length → (∀ j (hj : j < k) (h : j < l.length), l[j].cmp r = -1) → (∀ h : k < l.length, l[k].cmp r ≠ -1) →
  insR l r = if ∃ h : k < l.length, l[k].cmp r = 0 then l else l.take k ++ r :: l.drop k
 | [], r, k, hk, _, _ => by
  have : k = 0 := by simpa using hk
  subst this
  rw [if_neg (by rintro ⟨h, _⟩; simp at h)]
  simp [insR]
 | a :: t, r, 0, _, _, h2 => by
  have h2 := h2 (by simp)
  simp only [List.getElem_cons_zero] at h2
  simp only [insR]
  rw [if_neg h2]
  by_cases h0 : a.cmp r = 0
  ·rw [if_pos h0, if_pos ⟨by simp, by simpa using h0⟩]
  ·rw [if_neg h0, if_neg (by rintro ⟨_, h⟩; exact h0 (by simpa using h))]
   rfl
 | a :: t, r, k + 1, hk, h1, h2 => by
  have ha := h1 0 (by omega) (by simp)
  simp only [List.getElem_cons_zero] at ha
  simp only [insR]
  rw [if_pos ha, insR_at (l := t) (k := k) (by simpa using hk) (fun j hj h => h1 (j + 1) (by omega) (Nat.succ_lt_succ h)) (fun h => h2 (Nat.succ_lt_succ h))]
  by_cases h0 : ∃ h : k < t.length, t[k].cmp r = 0
  ·rw [if_pos h0, if_pos (by obtain ⟨h, e⟩ := h0; exact ⟨by simpa using h, by simpa using e⟩)]
  ·rw [if_neg h0, if_neg (by rintro ⟨h, e⟩; exact h0 ⟨by simpa using h, by simpa using e⟩)]
   rfl
theorem insR_nodes : ∀ (l : List Rx) (r : Rx), Rx.nodesL (insR l r) ≤ Rx.nodesL l + r.nodes
 | [], r => by simp [insR, Rx.nodesL]
 | a :: t, r => by
  have := insR_nodes t r
  simp only [insR]
  split
  ·simp only [Rx.nodesL]; omega
  ·split
   ·simp only [Rx.nodesL]; omega
   ·simp only [Rx.nodesL]; omega
theorem insR_ok {l : List Rx} {r : Rx} (h : ∀ x ∈ l, x.ok) (hr : r.ok) : ∀ x ∈ insR l r, x.ok := by
 induction l with
 | nil => intro x hx; simp [insR] at hx; exact hx ▸ hr
 | cons a t ih =>
  intro x hx
  simp only [insR] at hx
  split at hx
  ·rcases List.mem_cons.1 hx with rfl | hx
   ·exact h _ (by simp)
   ·exact ih (fun y hy => h y (by simp [hy])) x hx
  ·split at hx
   ·exact h x hx
   ·rcases List.mem_cons.1 hx with rfl | hx
    ·exact hr
    ·exact h x hx
theorem flat_ok {k : Int} {l : List Rx} (h : ∀ x ∈ l, x.ok) : ∀ x ∈ flatR k l, x.ok := by
 intro x hx
 rcases flat_mem hx with ⟨h1, _⟩ | ⟨r, h1, _, h3⟩
 ·exact h x h1
 ·exact (h r h1).args x h3
theorem nodesL_append (a b : List Rx) : Rx.nodesL (a ++ b) = Rx.nodesL a + Rx.nodesL b := by
 induction a with
 | nil => simp [Rx.nodesL]
 | cons x y ih => simp only [List.cons_append, Rx.nodesL, ih]; omega
theorem altOuts_succ (l : List Rx) {k : Nat} (h : k < l.length) : altOuts [] (l.take (k + 1)) = if (l[k]).kind = 1 ∨ (l[k]).kind = 3 then altOuts [] (l.take k) else insR (altOuts [] (l.take k)) l[k] := by
 unfold altOuts
 rw [List.take_add_one, List.getElem?_eq_getElem h, List.foldl_append]
 rfl
theorem altSet_succ (l : List Rx) {k : Nat} (h : k < l.length) : altSet noSet (l.take (k + 1)) = if (l[k]).kind = 3 then (altSet noSet (l.take k)).or (l[k]).set else altSet noSet (l.take k) := by
 unfold altSet
 rw [List.take_add_one, List.getElem?_eq_getElem h, List.foldl_append]
 rfl
theorem altOuts_inv (l : List Rx) (h : ∀ x ∈ l, x.ok) : ∀ k, k ≤ l.length → (∀ x ∈ altOuts [] (l.take k), x.ok) ∧ Rx.nodesL (altOuts [] (l.take k)) ≤ Rx.nodesL (l.take k) ∧ (altSet noSet (l.take k)).ok
 | 0, _ => by simp [altOuts, altSet, Rx.nodesL]; exact noSet_ok
 | k + 1, hk => by
  obtain ⟨h1, h2, h3⟩ := altOuts_inv l h k (by omega)
  rw [altOuts_succ l (by omega), altSet_succ l (by omega), Rx.nodesL_take l k (by omega)]
  have hx := h l[k] (List.getElem_mem _)
  refine ⟨?_, ?_, ?_⟩
  ·split
   ·exact h1
   ·exact insR_ok h1 hx
  ·split
   ·omega
   ·have := insR_nodes (altOuts [] (l.take k)) l[k]
    omega
  ·split
   ·exact or_ok h3 hx.set
   ·exact h3
def catOuts (l : List Rx) : List Rx := l.filter fun r => decide (r.kind ≠ 2)
theorem catOuts_succ (l : List Rx) {k : Nat} (h : k < l.length) : catOuts (l.take (k + 1)) = catOuts (l.take k) ++ (if (l[k]).kind = 2 then [] else [l[k]]) := by
 unfold catOuts
 rw [List.take_add_one, List.getElem?_eq_getElem h, List.filter_append]
 congr 1
 by_cases hk : (l[k]).kind = 2
 ·rw [if_pos hk]; simp [hk]
 ·rw [if_neg hk]; simp [hk]
theorem catOuts_nodes (l : List Rx) : Rx.nodesL (catOuts l) ≤ Rx.nodesL l := by
 unfold catOuts
 induction l with
 | nil => simp
 | cons a t ih =>
  rw [List.filter_cons]
  split
  ·simp only [Rx.nodesL]; omega
  ·simp only [Rx.nodesL]; omega
theorem cat_none {l : List Rx} {k : Nat} (h : k < (flatR 4 l).length) (hk : ((flatR 4 l)[k]).kind = 1) : catR l = noneR := by
 unfold catR
 rw [if_pos]
 rw [List.any_eq_true]
 exact ⟨_, List.getElem_mem h, by simpa using hk⟩
theorem cat_some {l : List Rx} (h : ∀ j (hj : j < (flatR 4 l).length), ((flatR 4 l)[j]).kind ≠ 1) : catR l = catOf (catOuts (flatR 4 l)) := by
 unfold catR
 rw [if_neg]
 ·rfl
 ·intro e
  rw [List.any_eq_true] at e
  obtain ⟨x, hx, hk⟩ := e
  obtain ⟨j, hj, rfl⟩ := List.mem_iff_getElem.1 hx
  exact h j hj (by simpa using hk)
theorem catOf_nil {l : List Rx} (h : l.length = 0) : catOf l = emptyR := by rw [List.eq_nil_of_length_eq_zero h]; rfl
theorem catOf_one {l : List Rx} (h : l.length = 1) : catOf l = l[0]'(by omega) := by
 match l, h with
 | [x], _ => rfl
theorem altOf_nil {l : List Rx} (h : l.length = 0) : altOf l = noneR := by rw [List.eq_nil_of_length_eq_zero h]; rfl
theorem altOf_one {l : List Rx} (h : l.length = 1) : altOf l = l[0]'(by omega) := by
 match l, h with
 | [x], _ => rfl
end
set_option maxRecDepth 8000
section
open Go.RowKit Go.Proofs
theorem take6 (r : Rx) : r.cells.take 6 = r.cells := rfl
theorem cleans_u8 (l : List Int) : (l.map fun n => [AV.int .u8 n]).all cleans = true := by
 rw [List.all_eq_true]
 intro x hx
 obtain ⟨r, _, rfl⟩ := List.mem_map.1 hx
 rfl
theorem add_at {s : W4} {b : Int} {q : Nat} (h : b / 64 = (q : Int)) : s.add b = s.setWd q (orI (s.wd q) (2 ^ (b % 64).toNat)) := by
 unfold W4.add
 rw [h, Int.toNat_natCast]
theorem listW_app (a b : W4) : ∀ x ∈ listW a ++ listW b, 0 ≤ x ∧ x < 256 := by
 intro x hx
 rcases List.mem_append.1 hx with hx | hx <;> (obtain ⟨i, rfl, h1, _⟩ := listW_mem.1 hx; omega)
theorem refList {w0 : World} {es : List Ent} (s : W4) (hs : s.ok) : ACalls Tryd.prog w0 120 [.agg s.row] es fun v es' => v = bytesAV (listW s) ∧ es' = es := by
 unfold W4.row bytesAV
 refine calls1 (N := 19) Tryd.func120 rfl rfl (by decide) ?_
 refine w_seq ?_
 refine w_region ?_
 refine l_cons rfl (p_box fun s1 => ?_)
 refine l_cons rfl (p_assign ?_)
 refine l_nil ?_
 refine k_seq_normal ?_
 refine w_seq ?_
 refine w_region ?_
 refine l_cons rfl (p_assign ?_)
 refine l_nil ?_
 refine k_seq_normal ?_
 refine w_seq ?_
 refine w_seq ?_
 refine w_adopt 3 5 1 rfl fun s3 => ?_
 simp only [upd_upd]
 refine w_region ?_
 refine l_cons rfl (p_assign ?_)
 refine l_nil ?_
 refine k_seq_normal ?_
 refine w_block ?_
 refine w_loop (fun m f es' => ∃ k s3, m = 256 - k ∧ k ≤ 256 ∧ es' = .row s3 5 1 ((listTo s k).map fun n => [.int .u8 n]) :: .row s1 26 4 [[.int .u64 s.w0, .int .u64 s.w1, .int .u64 s.w2, .int .u64 s.w3]] :: es ∧ Knows f [(1, .ptr es.length s1 0 0), (3, .own (es.length + 1) s3), (4, .int .i64 k)]) (256) (⟨0, s3, rfl, Nat.zero_le _, rfl, kn⟩) ?_
 rintro m f es' ⟨k, s3, rfl, hk1, rfl, hk⟩
 refine w_pins _ (Sub.refl _) (hk) ?_
 simp only [pins]
 refine w_seq ?_
 refine w_seq ?_
 refine w_region ?_
 refine l_cons rfl (p_move ?_)
 refine l_cons rfl (p_cmp ?_)
 refine l_nil ?_
 refine k_seq_normal ?_
 refine w_b (fun h1 => ?_) (fun h1 => ?_)
 ·skip
  have h1' := h1; (try simp only [bb] at h1')
  refine w_skip ?_
  refine k_seq_normal ?_
  refine w_seq ?_
  refine w_block ?_
  refine w_seq ?_
  refine w_region ?_
  refine l_cons rfl (p_loadp ty_26 ?_)
  refine l_cons rfl (p_move ?_)
  refine l_cons rfl (p_conv in_3 in_5 ?_ (hb := wrap8 (n := (k : Int)) (by omega) (by omega)))
  refine l_cons rfl (p_callr en_55 (ref1Has s.w0 s.w1 s.w2 s.w3 (k : Int) (by omega) (by omega) hs.1 hs.2.1 hs.2.2.1 hs.2.2.2.1) ?_)
  refine l_nil ?_
  refine k_seq_normal ?_
  refine w_b (fun h2 => ?_) (fun h2 => ?_)
  ·skip
   have h2' := h2; (try simp only [bb] at h2')
   have hll := listTo_len s k
   refine w_region ?_
   refine l_cons rfl (p_move ?_)
   refine l_cons rfl (p_move ?_)
   refine l_cons rfl (p_conv in_3 in_5 ?_ (hb := wrap8 (n := (k : Int)) (by omega) (by omega)))
   refine l_cons rfl (p_buildList sl_22 ze_5 ?_)
   refine l_cons rfl (p_append sl_22 by_5 ze_5 (fun s17 => ?_) (hb := by simp only [List.length_map, List.length_take, List.length_drop, List.length_append, List.length_cons, List.length_nil, most]; omega))
   refine l_cons rfl (p_assign ?_)
   refine l_nil ?_
   refine k_blk_normal ?_
   refine k_seq_normal ?_
   refine w_region ?_
   refine l_cons rfl (p_move ?_)
   refine l_cons rfl (p_arith ?_)
   refine l_cons rfl (p_assign ?_)
   refine l_nil ?_
   refine k_seq_normal ?_
   first
   | exact ⟨256 - (k + 1), by omega, k + 1, s17, rfl, by omega, by rw [listTo_succ, if_pos (show s.has k = true from h2'), List.map_append] <;> rfl, kn⟩
   | exact ⟨256 - (k + 1), by omega, k + 1, s3, rfl, by omega, by rw [listTo_succ, if_neg (show ¬ s.has k = true by unfold W4.has; rw [h2']; decide), List.append_nil] <;> rfl, kn⟩
  ·skip
   have h2' := h2; (try simp only [bb] at h2')
   refine w_skip ?_
   refine k_blk_normal ?_
   refine k_seq_normal ?_
   refine w_region ?_
   refine l_cons rfl (p_move ?_)
   refine l_cons rfl (p_arith ?_)
   refine l_cons rfl (p_assign ?_)
   refine l_nil ?_
   refine k_seq_normal ?_
   first
   | exact ⟨256 - (k + 1), by omega, k + 1, s17, rfl, by omega, by rw [listTo_succ, if_pos (show s.has k = true from h2'), List.map_append] <;> rfl, kn⟩
   | exact ⟨256 - (k + 1), by omega, k + 1, s3, rfl, by omega, by rw [listTo_succ, if_neg (show ¬ s.has k = true by unfold W4.has; rw [h2']; decide), List.append_nil] <;> rfl, kn⟩
 ·skip
  have h1' := h1; (try simp only [bb] at h1')
  refine w_exit ?_
  refine k_seq_exit ?_
  refine k_seq_exit ?_
  refine k_blk_here ?_
  refine k_seq_normal ?_
  refine w_seq ?_
  refine w_freezeTop 3 ?_ (hclean := cleans_u8 _)
  rw [show k = 256 by omega]
  refine w_region ?_
  refine l_cons rfl (p_move ?_)
  refine l_cons rfl (p_assign ?_)
  refine l_nil ?_
  refine k_seq_normal ?_
  refine w_ret ?_
  exact ret1 rfl ev1 subx ⟨rfl, rfl⟩
theorem refOf {w0 : World} {es : List Ent} (l : List Int) (hl : ∀ b ∈ l, 0 ≤ b ∧ b < 256) : ACalls Tryd.prog w0 68 [bytesAV l] es fun v es' => v = .agg (ofW l).row ∧ es' = es := by
 unfold bytesAV
 refine calls1 (N := 27) Tryd.func68 rfl rfl (by decide) ?_
 refine w_seq ?_
 refine w_region ?_
 refine l_cons rfl (p_alloc ze_26 fun s2 => ?_)
 refine l_nil ?_
 refine k_seq_normal ?_
 refine w_seq ?_
 refine w_len 0 fun hll => ?_
 rw [List.length_map] at hll
 simp only [most] at hll
 refine w_region ?_
 refine l_cons rfl (p_alloc ze_26 fun s3 => ?_)
 refine l_nil ?_
 refine k_seq_normal ?_
 refine w_seq ?_
 refine w_seq ?_
 refine w_region ?_
 refine l_cons rfl (p_assign ?_)
 refine l_nil ?_
 refine k_seq_normal ?_
 refine w_block ?_
 refine w_loop (fun m f es' => ∃ k, m = l.length - k ∧ k ≤ l.length ∧ es' = .row s3 26 4 [[.int .u64 (ofW (l.take k)).w0, .int .u64 (ofW (l.take k)).w1, .int .u64 (ofW (l.take k)).w2, .int .u64 (ofW (l.take k)).w3]] :: .row s2 26 4 [[.int .u64 0, .int .u64 0, .int .u64 0, .int .u64 0]] :: es ∧ Knows f [(0, .list 1 (l.map fun n => [.int .u8 n])), (2, .ptr es.length s2 0 0), (3, .ptr (es.length + 1) s3 0 0), (4, .int .i64 k)]) (l.length) (⟨0, rfl, Nat.zero_le _, rfl, kn⟩) ?_
 rintro m f es' ⟨k, rfl, hk1, rfl, hk⟩
 refine w_pins _ (Sub.refl _) (hk) ?_
 simp only [pins]
 refine w_seq ?_
 refine w_seq ?_
 refine w_region ?_
 refine l_cons rfl (p_move ?_)
 refine l_cons rfl (p_move ?_)
 refine l_cons rfl (p_lenl sl_22 ?_)
 refine l_cons rfl (p_cmp ?_)
 refine l_nil ?_
 refine k_seq_normal ?_
 refine w_b (fun h1 => ?_) (fun h1 => ?_)
 ·skip
  have h1' := h1; (try simp only [bb] at h1')
  refine w_skip ?_
  refine k_seq_normal ?_
  refine w_seq ?_
  refine w_block ?_
  have hb := hl (l[k]'(by omega)) (List.getElem_mem _)
  obtain ⟨q, hq4, hq⟩ : ∃ q : Nat, q < 4 ∧ (l[k]'(by omega)) / 64 = (q : Int) := ⟨((l[k]'(by omega)) / 64).toNat, by omega, by omega⟩
  have hsk : (ofW (l.take k)).ok := ofW_ok fun b hb => hl b (List.mem_of_mem_take hb)
  refine w_drawn 13 [] (fun e => e = _) mixed (by kernel_rfl) rfl ?_
  refine q1 0 (hg := rfl) (hu := rfl) (h := by rintro f _ rfl; exact p_move ⟨rfl, rfl⟩) (k := ?_)
  refine q1 4 (hg := rfl) (hu := rfl) (h := by rintro f _ rfl; exact p_move ⟨rfl, rfl⟩) (k := ?_)
  refine q2 11 12 (hg := rfl) (hu := rfl) (h := by rintro f _ rfl; exact p_ixl sl_22 ⟨rfl, rfl⟩) (k := ?_)
  refine q1 13 (hg := rfl) (hu := rfl) (h := by rintro f _ rfl; exact p_loadf ty_5 ⟨rfl, rfl⟩) (k := ?_)
  refine q1 14 (hg := rfl) (hu := rfl) (h := by rintro f _ rfl; exact p_arith ⟨rfl, rfl⟩ (hb := (quo64 hb.1 hb.2).trans (congrArg some hq))) (k := ?_)
  refine q2 3 15 (hg := rfl) (hu := rfl) (h := by rintro f _ rfl; exact p_ixa ar_26 (a := .ptr (es.length + 1) s3 0 q) ⟨rfl, rfl⟩ (h0 := by omega) (h1 := by omega) (ho := by simp)) (k := ?_)
  refine q1 16 (hg := rfl) (hu := rfl) (h := by rintro f _ rfl; exact p_loadp ty_24 (a := .int .u64 ((ofW (l.take k)).wd q)) ⟨rfl, rfl⟩ (hl := by simp only [List.length_cons, List.length_nil]; omega) (ha := wd_load (ofW (l.take k)) hq4)) (k := ?_)
  refine q1 0 (hg := rfl) (hu := rfl) (h := by rintro f _ rfl; exact p_move ⟨rfl, rfl⟩) (k := ?_)
  refine q1 4 (hg := rfl) (hu := rfl) (h := by rintro f _ rfl; exact p_move ⟨rfl, rfl⟩) (k := ?_)
  refine q2 18 19 (hg := rfl) (hu := rfl) (h := by rintro f _ rfl; exact p_ixl sl_22 ⟨rfl, rfl⟩) (k := ?_)
  refine q1 20 (hg := rfl) (hu := rfl) (h := by rintro f _ rfl; exact p_loadf ty_5 ⟨rfl, rfl⟩) (k := ?_)
  refine q1 21 (hg := rfl) (hu := rfl) (h := by rintro f _ rfl; exact p_arith ⟨rfl, rfl⟩ (hb := rem64 hb.1)) (k := ?_)
  refine q1 22 (hg := rfl) (hu := rfl) (h := by rintro f _ rfl; exact p_shl ⟨rfl, rfl⟩ (hb := shl1 hb.1)) (k := ?_)
  refine q_end ?_
  refine m_end ?_
  refine l_cons rfl (p_arith ?_ (hb := arith_or64 (W4.wd_ok hsk q) (two_lt (by omega))))
  refine l_cons rfl (p_ixa ar_26 (a := .ptr (es.length + 1) s3 0 q) ?_ (h0 := by omega) (h1 := by omega) (ho := by simp))
  refine l_cons rfl (p_store ty_24 (r' := [.int .u64 ((ofW (l.take k)).setWd q (orI ((ofW (l.take k)).wd q) (2 ^ ((l[k]'(by omega)) % 64).toNat))).w0, .int .u64 ((ofW (l.take k)).setWd q (orI ((ofW (l.take k)).wd q) (2 ^ ((l[k]'(by omega)) % 64).toNat))).w1, .int .u64 ((ofW (l.take k)).setWd q (orI ((ofW (l.take k)).wd q) (2 ^ ((l[k]'(by omega)) % 64).toNat))).w2, .int .u64 ((ofW (l.take k)).setWd q (orI ((ofW (l.take k)).wd q) (2 ^ ((l[k]'(by omega)) % 64).toNat))).w3]) ?_ (hl := by simp only [List.length_cons, List.length_nil]; omega) (hr' := store_wd (ofW (l.take k)) hq4 _))
  refine l_nil ?_
  refine k_blk_normal ?_
  refine k_seq_normal ?_
  refine w_region ?_
  refine l_cons rfl (p_move ?_)
  refine l_cons rfl (p_arith ?_)
  refine l_cons rfl (p_assign ?_)
  refine l_nil ?_
  refine k_seq_normal ?_
  exact ⟨l.length - (k + 1), by omega, k + 1, rfl, by omega, by rw [ofW_take (by omega), add_at hq] <;> rfl, kn⟩
 ·skip
  have h1' := h1; (try simp only [bb] at h1')
  refine w_exit ?_
  refine k_seq_exit ?_
  refine k_seq_exit ?_
  refine k_blk_here ?_
  refine k_seq_normal ?_
  refine w_seq ?_
  obtain rfl : k = l.length := by omega
  rw [List.take_length]
  refine w_region ?_
  refine l_cons rfl (p_loadp ty_26 ?_)
  refine l_cons rfl (p_store ty_26 ?_)
  refine l_nil ?_
  refine k_seq_normal ?_
  refine w_ret ?_
  exact retc rfl ty_26 subx ⟨rfl, rfl⟩
theorem refInsert {w0 : World} {es : List Ent} (l : List Rx) (r : Rx) (hl : ∀ x ∈ l, x.ok) (hr : r.ok) (hn : l.length ≤ 1048576) : ACalls Tryd.prog w0 87 [.list 6 (l.map Rx.cells), .agg r.cells] es fun v es' => v = .list 6 ((insR l r).map Rx.cells) ∧ es' = es := by
 have hcr : Rx.cells r = [.int .i64 r.kind, .int .u64 r.set.w0, .int .u64 r.set.w1, .int .u64 r.set.w2, .int .u64 r.set.w3, .list 6 (r.args.map Rx.cells)] := Rx.cells_eq r
 refine calls2 (N := 46) Tryd.func87 rfl rfl (by decide) ?_
 refine w_seq ?_
 refine w_region ?_
 refine l_cons rfl (p_box fun s3 => ?_)
 refine l_cons rfl (p_assign ?_)
 refine l_nil ?_
 refine k_seq_normal ?_
 refine w_seq ?_
 refine w_region ?_
 refine l_cons rfl (p_assign ?_)
 refine l_nil ?_
 refine k_seq_normal ?_
 refine w_seq ?_
 refine w_block ?_
 refine w_loop (fun m f es' => ∃ k, m = l.length - k ∧ k ≤ l.length ∧ (∀ j (hj : j < k) (h : j < l.length), l[j].cmp r = -1) ∧ es' = .row s3 29 6 [r.cells] :: es ∧ Knows f [(0, .list 6 (l.map Rx.cells)), (3, .ptr es.length s3 0 0), (5, .int .i64 k)]) (l.length) (⟨0, rfl, Nat.zero_le _, fun j hj => absurd hj (Nat.not_lt_zero _), rfl, kn⟩) ?_
 rintro m f es' ⟨k, rfl, hk1, hk2, rfl, hk⟩
 refine w_pins _ (Sub.refl _) (hk) ?_
 simp only [pins]
 refine w_seq ?_
 refine w_seq ?_
 refine w_drawn 10 [] (fun e => e = _) mixed (by kernel_rfl) rfl ?_
 refine q1 5 (hg := rfl) (hu := rfl) (h := by rintro f _ rfl; exact p_move ⟨rfl, rfl⟩) (k := ?_)
 refine q1 0 (hg := rfl) (hu := rfl) (h := by rintro f _ rfl; exact p_move ⟨rfl, rfl⟩) (k := ?_)
 refine q1 7 (hg := rfl) (hu := rfl) (h := by rintro f _ rfl; exact p_lenl sl_27 ⟨rfl, rfl⟩) (k := ?_)
 refine q2 6 8 (hg := rfl) (hu := rfl) (h := by rintro f _ rfl; exact p_cmp ⟨rfl, rfl⟩) (k := ?_)
 refine q1 9 (hg := rfl) (hu := rfl) (h := by rintro f _ rfl; exact p_move ⟨rfl, rfl⟩) (k := ?_)
 refine qsplit 10 (fun h1 => ?_) (fun h1 => ?_)
 ·skip
  have h1' := h1; (try simp only [bb] at h1')
  refine qy1 0 (hg := rfl) (hw := h1) (hu := rfl) (h := by rintro f _ rfl; exact p_move ⟨rfl, rfl⟩) (k := ?_)
  refine qy1 5 (hg := rfl) (hw := h1) (hu := rfl) (h := by rintro f _ rfl; exact p_move ⟨rfl, rfl⟩) (k := ?_)
  refine qy2 11 12 (hg := rfl) (hw := h1) (hu := rfl) (h := by rintro f _ rfl; exact p_ixl sl_27 ⟨rfl, rfl⟩) (k := ?_)
  refine qy1 13 (hg := rfl) (hw := h1) (hu := rfl) (h := by rintro f _ rfl; exact p_loadf ty_29 ⟨rfl, rfl⟩) (k := ?_)
  refine qy1 3 (hg := rfl) (hw := h1) (hu := rfl) (h := by rintro f _ rfl; exact p_loadp ty_29 ⟨rfl, rfl⟩) (k := ?_)
  refine q_end ?_
  refine m_end ?_
  refine g_y rfl h1 (p_callr en_121 (refCompare _ (l[k]'(by omega)) r _ (Nat.le_refl _) (hl _ (List.getElem_mem _)) hr) ?_)
  refine g_y rfl h1 (p_cmp ?_)
  refine l_cons rfl (p_pickt h1 ?_)
  refine l_nil ?_
  refine k_seq_normal ?_
  refine w_b (fun h2 => ?_) (fun h2 => ?_)
  ·skip
   have h2' := h2; (try simp only [bb] at h2')
   refine w_skip ?_
   refine k_seq_normal ?_
   refine w_block ?_
   refine w_region ?_
   refine l_cons rfl (p_move ?_)
   refine l_cons rfl (p_arith ?_)
   refine l_cons rfl (p_assign ?_)
   refine l_nil ?_
   refine k_blk_normal ?_
   refine k_seq_normal ?_
   exact ⟨l.length - (k + 1), by omega, k + 1, rfl, by omega, fun j hj h => by
    rcases Nat.lt_or_eq_of_le (Nat.le_of_lt_succ hj) with h9 | h9
    ·exact hk2 j h9 h
    ·subst h9; have := Rx.cmp_range (l[j]'(by omega)) r; omega, rfl, kn⟩
  ·skip
   have h2' := h2; (try simp only [bb] at h2')
   refine w_exit ?_
   refine k_seq_exit ?_
   refine k_seq_exit ?_
   refine k_blk_here ?_
   have hins := insR_at (l := l) (r := r) hk1 hk2 (by intro hx; first | omega | (have := Rx.cmp_range (l[k]'(by omega)) r; omega))
   refine k_seq_normal ?_
   refine w_seq ?_
   refine w_seq ?_
   refine w_drawn 10 [] (fun e => e = _) mixed (by kernel_rfl) rfl ?_
   refine q1 5 (hg := rfl) (hu := rfl) (h := by rintro f _ rfl; exact p_move ⟨rfl, rfl⟩) (k := ?_)
   refine q1 0 (hg := rfl) (hu := rfl) (h := by rintro f _ rfl; exact p_move ⟨rfl, rfl⟩) (k := ?_)
   refine q1 22 (hg := rfl) (hu := rfl) (h := by rintro f _ rfl; exact p_lenl sl_27 ⟨rfl, rfl⟩) (k := ?_)
   refine q2 21 23 (hg := rfl) (hu := rfl) (h := by rintro f _ rfl; exact p_cmp ⟨rfl, rfl⟩) (k := ?_)
   refine q1 24 (hg := rfl) (hu := rfl) (h := by rintro f _ rfl; exact p_move ⟨rfl, rfl⟩) (k := ?_)
   refine qsplit 25 (fun h3 => ?_) (fun h3 => ?_)
   ·skip
    have h3' := h3; (try simp only [bb] at h3')
    refine qy1 0 (hg := rfl) (hw := h3) (hu := rfl) (h := by rintro f _ rfl; exact p_move ⟨rfl, rfl⟩) (k := ?_)
    refine qy1 5 (hg := rfl) (hw := h3) (hu := rfl) (h := by rintro f _ rfl; exact p_move ⟨rfl, rfl⟩) (k := ?_)
    refine qy2 26 27 (hg := rfl) (hw := h3) (hu := rfl) (h := by rintro f _ rfl; exact p_ixl sl_27 ⟨rfl, rfl⟩) (k := ?_)
    refine qy1 28 (hg := rfl) (hw := h3) (hu := rfl) (h := by rintro f _ rfl; exact p_loadf ty_29 ⟨rfl, rfl⟩) (k := ?_)
    refine qy1 3 (hg := rfl) (hw := h3) (hu := rfl) (h := by rintro f _ rfl; exact p_loadp ty_29 ⟨rfl, rfl⟩) (k := ?_)
    refine q_end ?_
    refine m_end ?_
    refine g_y rfl h3 (p_callr en_122 (refEqual (l[k]'(by omega)) r (hl _ (List.getElem_mem _)) hr) ?_)
    refine l_cons rfl (p_pickt h3 ?_)
    refine l_nil ?_
    refine k_seq_normal ?_
    refine w_b (fun h4 => ?_) (fun h4 => ?_)
    ·skip
     have h4' := h4; (try simp only [bb] at h4')
     refine w_seq ?_
     refine w_region ?_
     refine l_cons rfl (p_move ?_)
     refine l_cons rfl (p_assign ?_)
     refine l_nil ?_
     refine k_seq_normal ?_
     refine w_ret ?_
     refine k_seq_ret ?_
     exact ret1 rfl ev1 subx ⟨by rw [hins, if_pos ⟨by omega, by assumption⟩] <;> rfl, rfl⟩
    ·skip
     have h4' := h4; (try simp only [bb] at h4')
     refine w_skip ?_
     refine k_seq_normal ?_
     refine w_seq ?_
     refine w_drawn 12 [0, 4, 7, 11] (fun e => at_ e es.length = some (.row s3 29 6 [r.cells])) mixed (by kernel_rfl) (at_hit _ _) ?_
     refine q1 0 (hg := rfl) (hu := rfl) (h := by rintro f _ hG; exact p_move ⟨rfl, rfl⟩) (k := ?_)
     refine q1 5 (hg := rfl) (hu := rfl) (h := by rintro f _ hG; exact p_move ⟨rfl, rfl⟩) (k := ?_)
     refine q2 35 36 (hg := rfl) (hu := rfl) (h := by rintro f _ hG; exact p_slicel (l := 0) (h := k) sl_27 ⟨rfl, rfl⟩) (k := ?_)
     refine q1 3 (hg := rfl) (hu := rfl) (h := by rintro f _ hG; exact p_loadp ty_29 ⟨rfl, rfl⟩) (k := ?_)
     refine q1 39 (hg := rfl) (hu := rfl) (h := by rintro f _ hG; exact p_buildList sl_27 ze_29 ⟨rfl, rfl⟩) (k := ?_)
     refine q1 0 (hg := rfl) (hu := rfl) (h := by rintro f _ hG; exact p_move ⟨rfl, rfl⟩) (k := ?_)
     refine q1 5 (hg := rfl) (hu := rfl) (h := by rintro f _ hG; exact p_move ⟨rfl, rfl⟩) (k := ?_)
     refine q2 42 43 (hg := rfl) (hu := rfl) (h := by rintro f _ hG; exact p_slicel (l := k) (h := (l.map Rx.cells).length) sl_27 ⟨rfl, rfl⟩ (hlh := by simp only [List.length_map]; omega)) (k := ?_)
     refine q_end ?_
     refine m0  (hu := rfl) (h := fun f => p_buildSlice sl_27 ze_29 fun s34 => ?_)
     refine ⟨_, rfl, at_miss _ (at_hit _ _), ?_⟩
     refine m2 34 37 (hu := rfl) (h := fun f => p_append sl_27 by_29 ze_29 (fun s38 => ?_) (hb := by simp only [List.length_map, List.length_take, List.length_drop, List.length_append, List.length_cons, List.length_nil, most]; omega))
     refine ⟨_, rfl, at_miss _ (at_hit _ _), ?_⟩
     refine m2 38 40 (hu := rfl) (h := fun f => p_append sl_27 by_29 ze_29 (fun s41 => ?_) (hb := by simp only [List.length_map, List.length_take, List.length_drop, List.length_append, List.length_cons, List.length_nil, most]; omega))
     refine ⟨_, rfl, at_miss _ (at_hit _ _), ?_⟩
     refine m2 41 44 (hu := rfl) (h := fun f => p_append sl_27 by_29 ze_29 (fun s45 => ?_) (hb := by simp only [List.length_map, List.length_take, List.length_drop, List.length_append, List.length_cons, List.length_nil, most]; omega))
     refine ⟨_, rfl, at_miss _ (at_hit _ _), ?_⟩
     refine m_end ?_
     refine l_cons rfl (p_assign ?_)
     refine l_nil ?_
     refine k_seq_normal ?_
     refine w_freezeTop 4 ?_ (hclean := by simp only [take6, List.take_length, List.nil_append, ← List.map_take, ← List.map_drop, ← List.map_append, ← List.map_cons, List.all_append, cleans_rx, cleans_cells, List.all_cons, List.all_nil, Bool.and_self, Bool.and_true])
     refine w_ret ?_
     exact ret1 rfl ev1 subx ⟨by rw [hins, if_neg (by rintro ⟨hx, hy⟩; first | omega | exact absurd hy (by simp_all))]; simp [take6, List.take_of_length_le], rfl⟩
   ·skip
    have h3' := h3; (try simp only [bb] at h3')
    refine qn rfl h3 ?_
    refine qn rfl h3 ?_
    refine qn rfl h3 ?_
    refine qn rfl h3 ?_
    refine qn rfl h3 ?_
    refine q_end ?_
    refine m_end ?_
    refine g_n rfl h3 ?_
    refine l_cons rfl (p_pickf h3 ?_)
    refine l_nil ?_
    refine k_seq_normal ?_
    refine w_f rfl ?_
    refine w_skip ?_
    refine k_seq_normal ?_
    refine w_seq ?_
    refine w_drawn 12 [0, 4, 7, 11] (fun e => at_ e es.length = some (.row s3 29 6 [r.cells])) mixed (by kernel_rfl) (at_hit _ _) ?_
    refine q1 0 (hg := rfl) (hu := rfl) (h := by rintro f _ hG; exact p_move ⟨rfl, rfl⟩) (k := ?_)
    refine q1 5 (hg := rfl) (hu := rfl) (h := by rintro f _ hG; exact p_move ⟨rfl, rfl⟩) (k := ?_)
    refine q2 35 36 (hg := rfl) (hu := rfl) (h := by rintro f _ hG; exact p_slicel (l := 0) (h := k) sl_27 ⟨rfl, rfl⟩) (k := ?_)
    refine q1 3 (hg := rfl) (hu := rfl) (h := by rintro f _ hG; exact p_loadp ty_29 ⟨rfl, rfl⟩) (k := ?_)
    refine q1 39 (hg := rfl) (hu := rfl) (h := by rintro f _ hG; exact p_buildList sl_27 ze_29 ⟨rfl, rfl⟩) (k := ?_)
    refine q1 0 (hg := rfl) (hu := rfl) (h := by rintro f _ hG; exact p_move ⟨rfl, rfl⟩) (k := ?_)
    refine q1 5 (hg := rfl) (hu := rfl) (h := by rintro f _ hG; exact p_move ⟨rfl, rfl⟩) (k := ?_)
    refine q2 42 43 (hg := rfl) (hu := rfl) (h := by rintro f _ hG; exact p_slicel (l := k) (h := (l.map Rx.cells).length) sl_27 ⟨rfl, rfl⟩ (hlh := by simp only [List.length_map]; omega)) (k := ?_)
    refine q_end ?_
    refine m0  (hu := rfl) (h := fun f => p_buildSlice sl_27 ze_29 fun s34 => ?_)
    refine ⟨_, rfl, at_miss _ (at_hit _ _), ?_⟩
    refine m2 34 37 (hu := rfl) (h := fun f => p_append sl_27 by_29 ze_29 (fun s38 => ?_) (hb := by simp only [List.length_map, List.length_take, List.length_drop, List.length_append, List.length_cons, List.length_nil, most]; omega))
    refine ⟨_, rfl, at_miss _ (at_hit _ _), ?_⟩
    refine m2 38 40 (hu := rfl) (h := fun f => p_append sl_27 by_29 ze_29 (fun s41 => ?_) (hb := by simp only [List.length_map, List.length_take, List.length_drop, List.length_append, List.length_cons, List.length_nil, most]; omega))
    refine ⟨_, rfl, at_miss _ (at_hit _ _), ?_⟩
    refine m2 41 44 (hu := rfl) (h := fun f => p_append sl_27 by_29 ze_29 (fun s45 => ?_) (hb := by simp only [List.length_map, List.length_take, List.length_drop, List.length_append, List.length_cons, List.length_nil, most]; omega))
    refine ⟨_, rfl, at_miss _ (at_hit _ _), ?_⟩
    refine m_end ?_
    refine l_cons rfl (p_assign ?_)
    refine l_nil ?_
    refine k_seq_normal ?_
    refine w_freezeTop 4 ?_ (hclean := by simp only [take6, List.take_length, List.nil_append, ← List.map_take, ← List.map_drop, ← List.map_append, ← List.map_cons, List.all_append, cleans_rx, cleans_cells, List.all_cons, List.all_nil, Bool.and_self, Bool.and_true])
    refine w_ret ?_
    exact ret1 rfl ev1 subx ⟨by rw [hins, if_neg (by rintro ⟨hx, hy⟩; first | omega | exact absurd hy (by simp_all))]; simp [take6, List.take_of_length_le], rfl⟩
 ·skip
  have h1' := h1; (try simp only [bb] at h1')
  refine qn rfl h1 ?_
  refine qn rfl h1 ?_
  refine qn rfl h1 ?_
  refine qn rfl h1 ?_
  refine qn rfl h1 ?_
  refine q_end ?_
  refine m_end ?_
  refine g_n rfl h1 ?_
  refine g_n rfl h1 ?_
  refine l_cons rfl (p_pickf h1 ?_)
  refine l_nil ?_
  refine k_seq_normal ?_
  refine w_f rfl ?_
  refine w_exit ?_
  refine k_seq_exit ?_
  refine k_seq_exit ?_
  refine k_blk_here ?_
  have hins := insR_at (l := l) (r := r) hk1 hk2 (by intro hx; first | omega | (have := Rx.cmp_range (l[k]'(by omega)) r; omega))
  refine k_seq_normal ?_
  refine w_seq ?_
  refine w_seq ?_
  refine w_drawn 10 [] (fun e => e = _) mixed (by kernel_rfl) rfl ?_
  refine q1 5 (hg := rfl) (hu := rfl) (h := by rintro f _ rfl; exact p_move ⟨rfl, rfl⟩) (k := ?_)
  refine q1 0 (hg := rfl) (hu := rfl) (h := by rintro f _ rfl; exact p_move ⟨rfl, rfl⟩) (k := ?_)
  refine q1 22 (hg := rfl) (hu := rfl) (h := by rintro f _ rfl; exact p_lenl sl_27 ⟨rfl, rfl⟩) (k := ?_)
  refine q2 21 23 (hg := rfl) (hu := rfl) (h := by rintro f _ rfl; exact p_cmp ⟨rfl, rfl⟩) (k := ?_)
  refine q1 24 (hg := rfl) (hu := rfl) (h := by rintro f _ rfl; exact p_move ⟨rfl, rfl⟩) (k := ?_)
  refine qsplit 25 (fun h5 => ?_) (fun h5 => ?_)
  ·skip
   have h5' := h5; (try simp only [bb] at h5')
   refine qy1 0 (hg := rfl) (hw := h5) (hu := rfl) (h := by rintro f _ rfl; exact p_move ⟨rfl, rfl⟩) (k := ?_)
   refine qy1 5 (hg := rfl) (hw := h5) (hu := rfl) (h := by rintro f _ rfl; exact p_move ⟨rfl, rfl⟩) (k := ?_)
   refine qy2 26 27 (hg := rfl) (hw := h5) (hu := rfl) (h := by rintro f _ rfl; exact p_ixl sl_27 ⟨rfl, rfl⟩) (k := ?_)
   refine qy1 28 (hg := rfl) (hw := h5) (hu := rfl) (h := by rintro f _ rfl; exact p_loadf ty_29 ⟨rfl, rfl⟩) (k := ?_)
   refine qy1 3 (hg := rfl) (hw := h5) (hu := rfl) (h := by rintro f _ rfl; exact p_loadp ty_29 ⟨rfl, rfl⟩) (k := ?_)
   refine q_end ?_
   refine m_end ?_
   refine g_y rfl h5 (p_callr en_122 (refEqual (l[k]'(by omega)) r (hl _ (List.getElem_mem _)) hr) ?_)
   refine l_cons rfl (p_pickt h5 ?_)
   refine l_nil ?_
   refine k_seq_normal ?_
   refine w_b (fun h6 => ?_) (fun h6 => ?_)
   ·skip
    have h6' := h6; (try simp only [bb] at h6')
    refine w_seq ?_
    refine w_region ?_
    refine l_cons rfl (p_move ?_)
    refine l_cons rfl (p_assign ?_)
    refine l_nil ?_
    refine k_seq_normal ?_
    refine w_ret ?_
    refine k_seq_ret ?_
    exact ret1 rfl ev1 subx ⟨by rw [hins, if_pos ⟨by omega, by assumption⟩] <;> rfl, rfl⟩
   ·skip
    have h6' := h6; (try simp only [bb] at h6')
    refine w_skip ?_
    refine k_seq_normal ?_
    refine w_seq ?_
    refine w_drawn 12 [0, 4, 7, 11] (fun e => at_ e es.length = some (.row s3 29 6 [r.cells])) mixed (by kernel_rfl) (at_hit _ _) ?_
    refine q1 0 (hg := rfl) (hu := rfl) (h := by rintro f _ hG; exact p_move ⟨rfl, rfl⟩) (k := ?_)
    refine q1 5 (hg := rfl) (hu := rfl) (h := by rintro f _ hG; exact p_move ⟨rfl, rfl⟩) (k := ?_)
    refine q2 35 36 (hg := rfl) (hu := rfl) (h := by rintro f _ hG; exact p_slicel (l := 0) (h := k) sl_27 ⟨rfl, rfl⟩) (k := ?_)
    refine q1 3 (hg := rfl) (hu := rfl) (h := by rintro f _ hG; exact p_loadp ty_29 ⟨rfl, rfl⟩) (k := ?_)
    refine q1 39 (hg := rfl) (hu := rfl) (h := by rintro f _ hG; exact p_buildList sl_27 ze_29 ⟨rfl, rfl⟩) (k := ?_)
    refine q1 0 (hg := rfl) (hu := rfl) (h := by rintro f _ hG; exact p_move ⟨rfl, rfl⟩) (k := ?_)
    refine q1 5 (hg := rfl) (hu := rfl) (h := by rintro f _ hG; exact p_move ⟨rfl, rfl⟩) (k := ?_)
    refine q2 42 43 (hg := rfl) (hu := rfl) (h := by rintro f _ hG; exact p_slicel (l := k) (h := (l.map Rx.cells).length) sl_27 ⟨rfl, rfl⟩ (hlh := by simp only [List.length_map]; omega)) (k := ?_)
    refine q_end ?_
    refine m0  (hu := rfl) (h := fun f => p_buildSlice sl_27 ze_29 fun s34 => ?_)
    refine ⟨_, rfl, at_miss _ (at_hit _ _), ?_⟩
    refine m2 34 37 (hu := rfl) (h := fun f => p_append sl_27 by_29 ze_29 (fun s38 => ?_) (hb := by simp only [List.length_map, List.length_take, List.length_drop, List.length_append, List.length_cons, List.length_nil, most]; omega))
    refine ⟨_, rfl, at_miss _ (at_hit _ _), ?_⟩
    refine m2 38 40 (hu := rfl) (h := fun f => p_append sl_27 by_29 ze_29 (fun s41 => ?_) (hb := by simp only [List.length_map, List.length_take, List.length_drop, List.length_append, List.length_cons, List.length_nil, most]; omega))
    refine ⟨_, rfl, at_miss _ (at_hit _ _), ?_⟩
    refine m2 41 44 (hu := rfl) (h := fun f => p_append sl_27 by_29 ze_29 (fun s45 => ?_) (hb := by simp only [List.length_map, List.length_take, List.length_drop, List.length_append, List.length_cons, List.length_nil, most]; omega))
    refine ⟨_, rfl, at_miss _ (at_hit _ _), ?_⟩
    refine m_end ?_
    refine l_cons rfl (p_assign ?_)
    refine l_nil ?_
    refine k_seq_normal ?_
    refine w_freezeTop 4 ?_ (hclean := by simp only [take6, List.take_length, List.nil_append, ← List.map_take, ← List.map_drop, ← List.map_append, ← List.map_cons, List.all_append, cleans_rx, cleans_cells, List.all_cons, List.all_nil, Bool.and_self, Bool.and_true])
    refine w_ret ?_
    exact ret1 rfl ev1 subx ⟨by rw [hins, if_neg (by rintro ⟨hx, hy⟩; first | omega | exact absurd hy (by simp_all))]; simp [take6, List.take_of_length_le], rfl⟩
  ·skip
   have h5' := h5; (try simp only [bb] at h5')
   refine qn rfl h5 ?_
   refine qn rfl h5 ?_
   refine qn rfl h5 ?_
   refine qn rfl h5 ?_
   refine qn rfl h5 ?_
   refine q_end ?_
   refine m_end ?_
   refine g_n rfl h5 ?_
   refine l_cons rfl (p_pickf h5 ?_)
   refine l_nil ?_
   refine k_seq_normal ?_
   refine w_f rfl ?_
   refine w_skip ?_
   refine k_seq_normal ?_
   refine w_seq ?_
   refine w_drawn 12 [0, 4, 7, 11] (fun e => at_ e es.length = some (.row s3 29 6 [r.cells])) mixed (by kernel_rfl) (at_hit _ _) ?_
   refine q1 0 (hg := rfl) (hu := rfl) (h := by rintro f _ hG; exact p_move ⟨rfl, rfl⟩) (k := ?_)
   refine q1 5 (hg := rfl) (hu := rfl) (h := by rintro f _ hG; exact p_move ⟨rfl, rfl⟩) (k := ?_)
   refine q2 35 36 (hg := rfl) (hu := rfl) (h := by rintro f _ hG; exact p_slicel (l := 0) (h := k) sl_27 ⟨rfl, rfl⟩) (k := ?_)
   refine q1 3 (hg := rfl) (hu := rfl) (h := by rintro f _ hG; exact p_loadp ty_29 ⟨rfl, rfl⟩) (k := ?_)
   refine q1 39 (hg := rfl) (hu := rfl) (h := by rintro f _ hG; exact p_buildList sl_27 ze_29 ⟨rfl, rfl⟩) (k := ?_)
   refine q1 0 (hg := rfl) (hu := rfl) (h := by rintro f _ hG; exact p_move ⟨rfl, rfl⟩) (k := ?_)
   refine q1 5 (hg := rfl) (hu := rfl) (h := by rintro f _ hG; exact p_move ⟨rfl, rfl⟩) (k := ?_)
   refine q2 42 43 (hg := rfl) (hu := rfl) (h := by rintro f _ hG; exact p_slicel (l := k) (h := (l.map Rx.cells).length) sl_27 ⟨rfl, rfl⟩ (hlh := by simp only [List.length_map]; omega)) (k := ?_)
   refine q_end ?_
   refine m0  (hu := rfl) (h := fun f => p_buildSlice sl_27 ze_29 fun s34 => ?_)
   refine ⟨_, rfl, at_miss _ (at_hit _ _), ?_⟩
   refine m2 34 37 (hu := rfl) (h := fun f => p_append sl_27 by_29 ze_29 (fun s38 => ?_) (hb := by simp only [List.length_map, List.length_take, List.length_drop, List.length_append, List.length_cons, List.length_nil, most]; omega))
   refine ⟨_, rfl, at_miss _ (at_hit _ _), ?_⟩
   refine m2 38 40 (hu := rfl) (h := fun f => p_append sl_27 by_29 ze_29 (fun s41 => ?_) (hb := by simp only [List.length_map, List.length_take, List.length_drop, List.length_append, List.length_cons, List.length_nil, most]; omega))
   refine ⟨_, rfl, at_miss _ (at_hit _ _), ?_⟩
   refine m2 41 44 (hu := rfl) (h := fun f => p_append sl_27 by_29 ze_29 (fun s45 => ?_) (hb := by simp only [List.length_map, List.length_take, List.length_drop, List.length_append, List.length_cons, List.length_nil, most]; omega))
   refine ⟨_, rfl, at_miss _ (at_hit _ _), ?_⟩
   refine m_end ?_
   refine l_cons rfl (p_assign ?_)
   refine l_nil ?_
   refine k_seq_normal ?_
   refine w_freezeTop 4 ?_ (hclean := by simp only [take6, List.take_length, List.nil_append, ← List.map_take, ← List.map_drop, ← List.map_append, ← List.map_cons, List.all_append, cleans_rx, cleans_cells, List.all_cons, List.all_nil, Bool.and_self, Bool.and_true])
   refine w_ret ?_
   exact ret1 rfl ev1 subx ⟨by rw [hins, if_neg (by rintro ⟨hx, hy⟩; first | omega | exact absurd hy (by simp_all))]; simp [take6, List.take_of_length_le], rfl⟩
end
set_option maxRecDepth 8000
section
open Go.RowKit Go.Proofs
theorem alt_res_yes {l : List Rx} (h : ¬ altSet noSet ((flatR 5 l).take (flatR 5 l).length) = noSet) : altR l = altOf (insR (altOuts [] ((flatR 5 l).take (flatR 5 l).length)) (bytesR (altSet noSet ((flatR 5 l).take (flatR 5 l).length)))) := by
 rw [List.take_length] at h ⊢
 unfold altR altFin bytesR
 rw [if_neg h, if_neg h]
theorem alt_res_no {l : List Rx} (h : altSet noSet ((flatR 5 l).take (flatR 5 l).length) = noSet) : altR l = altOf (altOuts [] ((flatR 5 l).take (flatR 5 l).length)) := by
 rw [List.take_length] at h ⊢
 unfold altR altFin
 rw [if_pos h]
theorem sub_dead2 (a b : Ent) (es : List Ent) : Sub (a :: .dead :: es) (a :: b :: es) := by
 intro id x hx h
 simp only [at_, List.length_cons] at h ⊢
 by_cases h1 : id = es.length + 1
 ·rw [if_pos h1] at h ⊢; exact h
 ·rw [if_neg h1] at h ⊢
  by_cases h2 : id = es.length
  ·rw [if_pos h2] at h
   injection h with h
   exact absurd h.symm hx
  ·rw [if_neg h2] at h ⊢; exact h
theorem bytesR_ok {s : W4} (h : s.ok) : (bytesR s).ok := by
 unfold bytesR
 split
 ·simp [noneR, Rx.ok, Rx.oks, noSet_ok]
 ·simp [Rx.ok, Rx.oks, h]
theorem set_load (r : Rx) : loadAV true 4 r.cells 1 = .agg r.set.row := by rw [Rx.cells_eq]; rfl
theorem refListOwn {w0 : World} {es : List Ent} (s : W4) (hs : s.ok) : ACalls Tryd.prog w0 120 [.agg s.row] es fun v es' => ∃ t, v = .own (es.length + 1) t ∧ es' = .row t 5 1 ((listW s).map fun n => [.int .u8 n]) :: .dead :: es := by
 unfold W4.row
 refine calls1 (N := 19) Tryd.func120 rfl rfl (by decide) ?_
 refine w_seq ?_
 refine w_region ?_
 refine l_cons rfl (p_box fun s1 => ?_)
 refine l_cons rfl (p_assign ?_)
 refine l_nil ?_
 refine k_seq_normal ?_
 refine w_seq ?_
 refine w_region ?_
 refine l_cons rfl (p_assign ?_)
 refine l_nil ?_
 refine k_seq_normal ?_
 refine w_seq ?_
 refine w_seq ?_
 refine w_adopt 3 5 1 rfl fun s3 => ?_
 simp only [upd_upd]
 refine w_region ?_
 refine l_cons rfl (p_assign ?_)
 refine l_nil ?_
 refine k_seq_normal ?_
 refine w_block ?_
 refine w_loop (fun m f es' => ∃ k s3, m = 256 - k ∧ k ≤ 256 ∧ es' = .row s3 5 1 ((listTo s k).map fun n => [.int .u8 n]) :: .row s1 26 4 [[.int .u64 s.w0, .int .u64 s.w1, .int .u64 s.w2, .int .u64 s.w3]] :: es ∧ Knows f [(1, .ptr es.length s1 0 0), (3, .own (es.length + 1) s3), (4, .int .i64 k)]) (256) (⟨0, s3, rfl, Nat.zero_le _, rfl, kn⟩) ?_
 rintro m f es' ⟨k, s3, rfl, hk1, rfl, hk⟩
 refine w_pins _ (Sub.refl _) (hk) ?_
 simp only [pins]
 refine w_seq ?_
 refine w_seq ?_
 refine w_region ?_
 refine l_cons rfl (p_move ?_)
 refine l_cons rfl (p_cmp ?_)
 refine l_nil ?_
 refine k_seq_normal ?_
 refine w_b (fun h1 => ?_) (fun h1 => ?_)
 ·skip
  have h1' := h1; (try simp only [bb] at h1')
  refine w_skip ?_
  refine k_seq_normal ?_
  refine w_seq ?_
  refine w_block ?_
  refine w_seq ?_
  refine w_region ?_
  refine l_cons rfl (p_loadp ty_26 ?_)
  refine l_cons rfl (p_move ?_)
  refine l_cons rfl (p_conv in_3 in_5 ?_ (hb := wrap8 (n := (k : Int)) (by omega) (by omega)))
  refine l_cons rfl (p_callr en_55 (ref1Has s.w0 s.w1 s.w2 s.w3 (k : Int) (by omega) (by omega) hs.1 hs.2.1 hs.2.2.1 hs.2.2.2.1) ?_)
  refine l_nil ?_
  refine k_seq_normal ?_
  refine w_b (fun h2 => ?_) (fun h2 => ?_)
  ·skip
   have h2' := h2; (try simp only [bb] at h2')
   have hll := listTo_len s k
   refine w_region ?_
   refine l_cons rfl (p_move ?_)
   refine l_cons rfl (p_move ?_)
   refine l_cons rfl (p_conv in_3 in_5 ?_ (hb := wrap8 (n := (k : Int)) (by omega) (by omega)))
   refine l_cons rfl (p_buildList sl_22 ze_5 ?_)
   refine l_cons rfl (p_append sl_22 by_5 ze_5 (fun s17 => ?_) (hb := by simp only [List.length_map, List.length_take, List.length_drop, List.length_append, List.length_cons, List.length_nil, most]; omega))
   refine l_cons rfl (p_assign ?_)
   refine l_nil ?_
   refine k_blk_normal ?_
   refine k_seq_normal ?_
   refine w_region ?_
   refine l_cons rfl (p_move ?_)
   refine l_cons rfl (p_arith ?_)
   refine l_cons rfl (p_assign ?_)
   refine l_nil ?_
   refine k_seq_normal ?_
   first
   | exact ⟨256 - (k + 1), by omega, k + 1, s17, rfl, by omega, by rw [listTo_succ, if_pos (show s.has k = true from h2'), List.map_append] <;> rfl, kn⟩
   | exact ⟨256 - (k + 1), by omega, k + 1, s3, rfl, by omega, by rw [listTo_succ, if_neg (show ¬ s.has k = true by unfold W4.has; rw [h2']; decide), List.append_nil] <;> rfl, kn⟩
  ·skip
   have h2' := h2; (try simp only [bb] at h2')
   refine w_skip ?_
   refine k_blk_normal ?_
   refine k_seq_normal ?_
   refine w_region ?_
   refine l_cons rfl (p_move ?_)
   refine l_cons rfl (p_arith ?_)
   refine l_cons rfl (p_assign ?_)
   refine l_nil ?_
   refine k_seq_normal ?_
   first
   | exact ⟨256 - (k + 1), by omega, k + 1, s17, rfl, by omega, by rw [listTo_succ, if_pos (show s.has k = true from h2'), List.map_append] <;> rfl, kn⟩
   | exact ⟨256 - (k + 1), by omega, k + 1, s3, rfl, by omega, by rw [listTo_succ, if_neg (show ¬ s.has k = true by unfold W4.has; rw [h2']; decide), List.append_nil] <;> rfl, kn⟩
 ·skip
  have h1' := h1; (try simp only [bb] at h1')
  refine w_exit ?_
  refine k_seq_exit ?_
  refine k_seq_exit ?_
  refine k_blk_here ?_
  refine k_seq_normal ?_
  refine w_seq ?_
  refine w_region ?_
  refine l_cons rfl (p_move ?_)
  refine l_cons rfl (p_assign ?_)
  refine l_nil ?_
  refine k_seq_normal ?_
  refine w_ret ?_
  obtain rfl : k = 256 := by omega
  exact ret1 rfl ev1 (sub_dead2 _ _ _) ⟨_, rfl, rfl⟩
theorem refOr {w0 : World} {es : List Ent} (a b : W4) (ha : a.ok) (hb : b.ok) : ACalls Tryd.prog w0 86 [.agg a.row, .agg b.row] es fun v es' => v = .agg (a.or b).row ∧ es' = es := by
 unfold W4.row
 have hx1 := listTo_len a 256
 have hx2 := listTo_len b 256
 refine calls2 (N := 11) Tryd.func86 rfl rfl (by decide) ?_
 refine w_seq ?_
 refine w_region ?_
 refine l_cons rfl (p_box fun s2 => ?_)
 refine l_cons rfl (p_box fun s3 => ?_)
 refine l_cons rfl (p_alloc ze_26 fun s4 => ?_)
 refine l_nil ?_
 refine k_seq_normal ?_
 refine w_seq ?_
 refine w_drawn 4 [1] (fun e => at_ e es.length = some (.row s2 26 4 [[.int .u64 a.w0, .int .u64 a.w1, .int .u64 a.w2, .int .u64 a.w3]]) ∧ at_ e (es.length + 1) = some (.row s3 26 4 [[.int .u64 b.w0, .int .u64 b.w1, .int .u64 b.w2, .int .u64 b.w3]])) mixed (by kernel_rfl) ⟨at_miss _ (at_miss _ (at_hit _ _)), at_miss _ (at_hit _ _)⟩ ?_
 refine q1 2 (hg := rfl) (hu := rfl) (h := by rintro f _ ⟨hG, hG'⟩; exact p_loadp ty_26 ⟨rfl, rfl⟩) (k := ?_)
 refine q1 3 (hg := rfl) (hu := rfl) (h := by rintro f _ ⟨hG, hG'⟩; exact p_loadp ty_26 ⟨rfl, rfl⟩) (k := ?_)
 refine q1 7 (hg := rfl) (hu := rfl) (h := by rintro f _ ⟨hG, hG'⟩; exact p_callr en_120 (refList b hb) ⟨rfl, rfl⟩) (k := ?_)
 refine q_end ?_
 refine m1 5 (hu := rfl) (h := fun f => p_call en_120 ((refListOwn a ha).mono fun v es' hv => ?_))
 obtain ⟨s6, rfl, rfl⟩ := hv
 refine ⟨_, rfl, ⟨at_miss _ (at_miss _ (at_miss _ (at_miss _ (at_hit _ _)))), at_miss _ (at_miss _ (at_miss _ (at_hit _ _)))⟩, ?_⟩
 refine m_end ?_
 refine l_cons rfl (p_append sl_22 by_5 ze_5 (fun s9 => ?_) (hb := by simp only [List.length_map, most]; unfold listW; omega))
 refine l_freeze 9 rfl loc_hit (by rw [List.all_append, cleans_u8, cleans_u8]; rfl) ?_
 refine l_retell 9 (b := bytesAV (listW a ++ listW b)) (fun c m' v h => by simpa [bytesAV] using h) ?_
 refine l_cons rfl (p_callr en_68 (refOf (listW a ++ listW b) (listW_app a b)) ?_)
 refine l_cons rfl (p_store ty_26 ?_)
 refine l_nil ?_
 refine k_seq_normal ?_
 refine w_ret ?_
 rw [ofW_or ha hb]
 exact retc rfl ty_26 subx ⟨rfl, rfl⟩
theorem refCat {w0 : World} {es : List Ent} (l : List Rx) (hn : Rx.nodesL l ≤ 1048576) : ACalls Tryd.prog w0 39 [.list 6 (l.map Rx.cells)] es fun v es' => v = .agg (catR l).cells ∧ es' = es := by
 refine calls1 (N := 47) Tryd.func39 rfl rfl (by decide) ?_
 refine w_seq ?_
 refine w_region ?_
 refine l_cons rfl (p_alloc ze_29 fun s2 => ?_)
 refine l_nil ?_
 refine k_seq_normal ?_
 refine w_seq ?_
 have hfn := flat_nodes 4 l
 have hfl := Rx.len_le (flatR 4 l)
 refine w_region ?_
 refine l_cons rfl (p_assign ?_)
 refine l_nil ?_
 refine k_seq_normal ?_
 refine w_seq ?_
 refine w_adopt 3 29 6 rfl fun s3 => ?_
 simp only [upd_upd]
 refine w_region ?_
 refine l_cons rfl (p_move ?_)
 refine l_cons rfl (p_callr en_83 (refFlat 4 l hn) ?_)
 refine l_cons rfl (p_assign ?_)
 refine l_nil ?_
 refine k_seq_normal ?_
 refine w_seq ?_
 refine w_seq ?_
 refine w_region ?_
 refine l_cons rfl (p_assign ?_)
 refine l_nil ?_
 refine k_seq_normal ?_
 refine w_block ?_
 refine w_loop (fun m f es' => ∃ k s3, m = (flatR 4 l).length - k ∧ k ≤ (flatR 4 l).length ∧ (∀ j (hj : j < k) (h : j < (flatR 4 l).length), ((flatR 4 l)[j]).kind ≠ 1) ∧ es' = .row s3 29 6 ((catOuts ((flatR 4 l).take k)).map Rx.cells) :: .row s2 29 6 [[.int .i64 0, .int .u64 0, .int .u64 0, .int .u64 0, .int .u64 0, .nil]] :: es ∧ Knows f [(2, .ptr es.length s2 0 0), (3, .own (es.length + 1) s3), (4, .list 6 ((flatR 4 l).map Rx.cells)), (5, .int .i64 k)]) ((flatR 4 l).length) (⟨0, s3, rfl, Nat.zero_le _, fun j hj => absurd hj (Nat.not_lt_zero _), rfl, kn⟩) ?_
 rintro m f es' ⟨k, s3, rfl, hk1, hk2, rfl, hk⟩
 refine w_pins _ (Sub.refl _) (hk) ?_
 simp only [pins]
 refine w_seq ?_
 refine w_seq ?_
 refine w_region ?_
 refine l_cons rfl (p_move ?_)
 refine l_cons rfl (p_move ?_)
 refine l_cons rfl (p_lenl sl_27 ?_)
 refine l_cons rfl (p_cmp ?_)
 refine l_nil ?_
 refine k_seq_normal ?_
 refine w_b (fun h1 => ?_) (fun h1 => ?_)
 ·skip
  have h1' := h1; (try simp only [bb] at h1')
  refine w_skip ?_
  refine k_seq_normal ?_
  refine w_seq ?_
  refine w_block ?_
  refine w_seq ?_
  refine w_seq ?_
  refine w_region ?_
  refine l_cons rfl (p_move ?_)
  refine l_cons rfl (p_move ?_)
  refine l_cons rfl (p_ixl sl_27 ?_)
  refine l_cons rfl (p_faf fa_29_0 ?_)
  refine l_cons rfl (p_loadf ty_3 ?_)
  refine l_cons rfl (p_cmp ?_)
  refine l_nil ?_
  refine k_seq_normal ?_
  refine w_b (fun h2 => ?_) (fun h2 => ?_)
  ·skip
   have h2' := h2; (try simp only [bb] at h2')
   refine w_seq ?_
   refine w_region ?_
   refine l_cons rfl (p_callr en_84 (refNone) ?_)
   refine l_cons rfl (p_store ty_29 ?_)
   refine l_nil ?_
   refine k_seq_normal ?_
   refine w_ret ?_
   refine k_seq_ret ?_
   refine k_blk_ret ?_
   refine k_seq_ret ?_
   refine k_seq_ret ?_
   refine k_blk_ret ?_
   refine k_seq_ret ?_
   rw [← cat_none (l := l) (k := k) (by omega) h2']
   exact retc rfl ty_29 subx ⟨rfl, rfl⟩
  ·skip
   have h2' := h2; (try simp only [bb] at h2')
   refine w_skip ?_
   refine k_seq_normal ?_
   refine w_seq ?_
   refine w_region ?_
   refine l_cons rfl (p_move ?_)
   refine l_cons rfl (p_move ?_)
   refine l_cons rfl (p_ixl sl_27 ?_)
   refine l_cons rfl (p_faf fa_29_0 ?_)
   refine l_cons rfl (p_loadf ty_3 ?_)
   refine l_cons rfl (p_cmp ?_)
   refine l_nil ?_
   refine k_seq_normal ?_
   refine w_b (fun h3 => ?_) (fun h3 => ?_)
   ·skip
    have h3' := h3; (try simp only [bb] at h3')
    have hcl := catOuts_nodes ((flatR 4 l).take k)
    have hcl2 := Rx.len_le (catOuts ((flatR 4 l).take k))
    have hcl3 := Rx.nodesL_le (flatR 4 l) k
    refine w_region ?_
    refine l_cons rfl (p_move ?_)
    refine l_cons rfl (p_move ?_)
    refine l_cons rfl (p_move ?_)
    refine l_cons rfl (p_ixl sl_27 ?_)
    refine l_cons rfl (p_loadf ty_29 ?_)
    refine l_cons rfl (p_callr en_63 (refCopy _ ((flatR 4 l)[k]'(by omega)) _ (Nat.le_refl _) (by have := Rx.nodes_mem (l := (flatR 4 l)) (k := k) (by omega); omega)) ?_)
    refine l_cons rfl (p_buildList sl_27 ze_29 ?_)
    refine l_cons rfl (p_append sl_27 by_29 ze_29 (fun s34 => ?_) (hb := by simp only [List.length_map, List.length_take, List.length_drop, List.length_append, List.length_cons, List.length_nil, most]; omega))
    refine l_cons rfl (p_assign ?_)
    refine l_nil ?_
    refine k_blk_normal ?_
    refine k_seq_normal ?_
    refine w_region ?_
    refine l_cons rfl (p_move ?_)
    refine l_cons rfl (p_arith ?_)
    refine l_cons rfl (p_assign ?_)
    refine l_nil ?_
    refine k_seq_normal ?_
    have hk2' : ∀ j (hj : j < k + 1) (h : j < (flatR 4 l).length), ((flatR 4 l)[j]).kind ≠ 1 := fun j hj h => by
     rcases Nat.lt_or_eq_of_le (Nat.le_of_lt_succ hj) with h9 | h9
     ·exact hk2 j h9 h
     ·subst h9; assumption
    first
    | exact ⟨(flatR 4 l).length - (k + 1), by omega, k + 1, s34, rfl, by omega, hk2', by rw [catOuts_succ _ (by omega), if_neg h3', List.map_append] <;> rfl, kn⟩
    | exact ⟨(flatR 4 l).length - (k + 1), by omega, k + 1, s3, rfl, by omega, hk2', by rw [catOuts_succ _ (by omega), if_pos h3', List.append_nil] <;> rfl, kn⟩
   ·skip
    have h3' := h3; (try simp only [bb] at h3')
    refine w_skip ?_
    refine k_blk_normal ?_
    refine k_seq_normal ?_
    refine w_region ?_
    refine l_cons rfl (p_move ?_)
    refine l_cons rfl (p_arith ?_)
    refine l_cons rfl (p_assign ?_)
    refine l_nil ?_
    refine k_seq_normal ?_
    have hk2' : ∀ j (hj : j < k + 1) (h : j < (flatR 4 l).length), ((flatR 4 l)[j]).kind ≠ 1 := fun j hj h => by
     rcases Nat.lt_or_eq_of_le (Nat.le_of_lt_succ hj) with h9 | h9
     ·exact hk2 j h9 h
     ·subst h9; assumption
    first
    | exact ⟨(flatR 4 l).length - (k + 1), by omega, k + 1, s34, rfl, by omega, hk2', by rw [catOuts_succ _ (by omega), if_neg h3', List.map_append] <;> rfl, kn⟩
    | exact ⟨(flatR 4 l).length - (k + 1), by omega, k + 1, s3, rfl, by omega, hk2', by rw [catOuts_succ _ (by omega), if_pos h3', List.append_nil] <;> rfl, kn⟩
 ·skip
  have h1' := h1; (try simp only [bb] at h1')
  refine w_exit ?_
  refine k_seq_exit ?_
  refine k_seq_exit ?_
  refine k_blk_here ?_
  refine k_seq_normal ?_
  refine w_seq ?_
  refine w_seq ?_
  refine w_freezeTop 3 ?_ (hclean := cleans_rx _)
  obtain rfl : k = (flatR 4 l).length := by omega
  rw [List.take_length]
  have hcs := cat_some (l := l) (fun j hj => hk2 j hj hj)
  refine w_region ?_
  refine l_cons rfl (p_move ?_)
  refine l_cons rfl (p_lenl sl_27 ?_)
  refine l_cons rfl (p_cmp ?_)
  refine l_nil ?_
  refine k_seq_normal ?_
  refine w_b (fun h4 => ?_) (fun h4 => ?_)
  ·skip
   have h4' := h4; (try simp only [bb] at h4')
   refine w_seq ?_
   refine w_region ?_
   refine l_cons rfl (p_callr en_85 (refEmpty) ?_)
   refine l_cons rfl (p_store ty_29 ?_)
   refine l_nil ?_
   refine k_seq_normal ?_
   refine w_ret ?_
   refine k_seq_ret ?_
   rw [← catOf_nil (l := catOuts (flatR 4 l)) (by omega), ← hcs]
   exact retc rfl ty_29 subx ⟨rfl, rfl⟩
  ·skip
   have h4' := h4; (try simp only [bb] at h4')
   refine w_skip ?_
   refine k_seq_normal ?_
   refine w_seq ?_
   refine w_seq ?_
   refine w_region ?_
   refine l_cons rfl (p_move ?_)
   refine l_cons rfl (p_lenl sl_27 ?_)
   refine l_cons rfl (p_cmp ?_)
   refine l_nil ?_
   refine k_seq_normal ?_
   refine w_b (fun h5 => ?_) (fun h5 => ?_)
   ·skip
    have h5' := h5; (try simp only [bb] at h5')
    refine w_seq ?_
    refine w_region ?_
    refine l_cons rfl (p_move ?_)
    refine l_cons rfl (p_ixl sl_27 ?_)
    refine l_cons rfl (p_loadf ty_29 ?_)
    refine l_cons rfl (p_store ty_29 ?_)
    refine l_nil ?_
    refine k_seq_normal ?_
    refine w_ret ?_
    refine k_seq_ret ?_
    rw [hcs, catOf_one (by omega)]
    exact retc rfl ty_29 subx ⟨rfl, rfl⟩
   ·skip
    have h5' := h5; (try simp only [bb] at h5')
    refine w_skip ?_
    refine k_seq_normal ?_
    refine w_seq ?_
    refine w_region ?_
    refine l_cons rfl (p_move ?_)
    refine l_cons rfl (p_build ze_29 pl_29 ?_)
    refine l_cons rfl (p_store ty_29 ?_)
    refine l_nil ?_
    refine k_seq_normal ?_
    refine w_ret ?_
    rw [hcs, catOf_two (by omega), Rx.cells_eq]
    exact retc rfl ty_29 subx ⟨rfl, rfl⟩
theorem refAlt {w0 : World} {es : List Ent} (l : List Rx) (ho : ∀ r ∈ l, r.ok) (hn : Rx.nodesL l ≤ 1048000) : ACalls Tryd.prog w0 40 [.list 6 (l.map Rx.cells)] es fun v es' => v = .agg (altR l).cells ∧ es' = es := by
 refine calls1 (N := 57) Tryd.func40 rfl rfl (by decide) ?_
 refine w_seq ?_
 refine w_region ?_
 refine l_cons rfl (p_alloc ze_29 fun s2 => ?_)
 refine l_nil ?_
 refine k_seq_normal ?_
 refine w_seq ?_
 have hfn := flat_nodes 5 l
 have hfl := Rx.len_le (flatR 5 l)
 have hfo := flat_ok (k := 5) ho
 refine w_region ?_
 refine l_cons rfl (p_assign ?_)
 refine l_nil ?_
 refine k_seq_normal ?_
 refine w_seq ?_
 refine w_nilList 3 6 ?_
 simp only [upd_upd]
 refine w_region ?_
 refine l_cons rfl (p_alloc ze_26 fun s4 => ?_)
 refine l_nil ?_
 refine k_seq_normal ?_
 refine w_seq ?_
 refine w_region ?_
 refine l_cons rfl (p_move ?_)
 refine l_cons rfl (p_callr en_83 (refFlat 5 l (by omega)) ?_)
 refine l_cons rfl (p_assign ?_)
 refine l_nil ?_
 refine k_seq_normal ?_
 refine w_seq ?_
 refine w_seq ?_
 refine w_region ?_
 refine l_cons rfl (p_assign ?_)
 refine l_nil ?_
 refine k_seq_normal ?_
 refine w_block ?_
 refine w_loop (fun m f es' => ∃ k, m = (flatR 5 l).length - k ∧ k ≤ (flatR 5 l).length ∧ es' = .row s4 26 4 [[.int .u64 (altSet noSet ((flatR 5 l).take k)).w0, .int .u64 (altSet noSet ((flatR 5 l).take k)).w1, .int .u64 (altSet noSet ((flatR 5 l).take k)).w2, .int .u64 (altSet noSet ((flatR 5 l).take k)).w3]] :: .row s2 29 6 [[.int .i64 0, .int .u64 0, .int .u64 0, .int .u64 0, .int .u64 0, .nil]] :: es ∧ Knows f [(2, .ptr es.length s2 0 0), (3, .list 6 ((altOuts [] ((flatR 5 l).take k)).map Rx.cells)), (4, .ptr (es.length + 1) s4 0 0), (5, .list 6 ((flatR 5 l).map Rx.cells)), (6, .int .i64 k)]) ((flatR 5 l).length) (⟨0, rfl, Nat.zero_le _, rfl, kn⟩) ?_
 rintro m f es' ⟨k, rfl, hk1, rfl, hk⟩
 obtain ⟨hi1, hi2, hi3⟩ := altOuts_inv (flatR 5 l) hfo k hk1
 have hi4 := Rx.nodesL_le (flatR 5 l) k
 have hi5 := Rx.len_le (altOuts [] ((flatR 5 l).take k))
 refine w_pins _ (Sub.refl _) (hk) ?_
 simp only [pins]
 refine w_seq ?_
 refine w_seq ?_
 refine w_region ?_
 refine l_cons rfl (p_move ?_)
 refine l_cons rfl (p_move ?_)
 refine l_cons rfl (p_lenl sl_27 ?_)
 refine l_cons rfl (p_cmp ?_)
 refine l_nil ?_
 refine k_seq_normal ?_
 refine w_b (fun h1 => ?_) (fun h1 => ?_)
 ·skip
  have h1' := h1; (try simp only [bb] at h1')
  refine w_skip ?_
  refine k_seq_normal ?_
  refine w_seq ?_
  refine w_block ?_
  refine w_seq ?_
  refine w_region ?_
  refine l_cons rfl (p_move ?_)
  refine l_cons rfl (p_move ?_)
  refine l_cons rfl (p_ixl sl_27 ?_)
  refine l_cons rfl (p_faf fa_29_0 ?_)
  refine l_cons rfl (p_loadf ty_3 ?_)
  refine l_nil ?_
  refine k_seq_normal ?_
  refine w_block ?_
  refine w_seq ?_
  refine w_region ?_
  refine l_cons rfl (p_cmp ?_)
  refine l_cons rfl (p_assign ?_)
  refine l_nil ?_
  refine k_seq_normal ?_
  refine w_b (fun h2 => ?_) (fun h2 => ?_)
  ·skip
   have h2' := h2; (try simp only [bb] at h2')
   refine w_skip ?_
   refine k_blk_normal ?_
   refine k_blk_normal ?_
   refine k_seq_normal ?_
   refine w_region ?_
   refine l_cons rfl (p_move ?_)
   refine l_cons rfl (p_arith ?_)
   refine l_cons rfl (p_assign ?_)
   refine l_nil ?_
   refine k_seq_normal ?_
   refine ⟨(flatR 5 l).length - (k + 1), by omega, k + 1, rfl, by omega, ?_, ?_⟩
   ·rw [altSet_succ _ (by omega)]
    first | rw [if_neg (by omega)] | (rw [if_pos (by omega)] <;> rfl)
   ·rw [altOuts_succ _ (by omega)]
    first
    | (rw [if_pos (by omega)]; exact kn)
    | (rw [if_neg (by omega)]; exact kn)
  ·skip
   have h2' := h2; (try simp only [bb] at h2')
   refine w_seq ?_
   refine w_region ?_
   refine l_cons rfl (p_cmp ?_)
   refine l_cons rfl (p_assign ?_)
   refine l_nil ?_
   refine k_seq_normal ?_
   refine w_b (fun h3 => ?_) (fun h3 => ?_)
   ·skip
    have h3' := h3; (try simp only [bb] at h3')
    refine w_drawn 6 [] (fun e => e = _) mixed (by kernel_rfl) rfl ?_
    refine q1 4 (hg := rfl) (hu := rfl) (h := by rintro f _ rfl; exact p_loadp ty_26 ⟨rfl, rfl⟩) (k := ?_)
    refine q1 5 (hg := rfl) (hu := rfl) (h := by rintro f _ rfl; exact p_move ⟨rfl, rfl⟩) (k := ?_)
    refine q1 6 (hg := rfl) (hu := rfl) (h := by rintro f _ rfl; exact p_move ⟨rfl, rfl⟩) (k := ?_)
    refine q2 32 33 (hg := rfl) (hu := rfl) (h := by rintro f _ rfl; exact p_ixl sl_27 ⟨rfl, rfl⟩) (k := ?_)
    refine q1 34 (hg := rfl) (hu := rfl) (h := by rintro f _ rfl; exact p_faf fa_29_1 ⟨rfl, rfl⟩) (k := ?_)
    refine q1 35 (hg := rfl) (hu := rfl) (h := by rintro f _ rfl; exact p_loadf ty_26 (a := .agg ((flatR 5 l)[k]'(by omega)).set.row) ⟨rfl, rfl⟩ (ha := set_load _)) (k := ?_)
    refine q_end ?_
    refine m_end ?_
    refine l_cons rfl (p_callr en_86 (refOr (altSet noSet ((flatR 5 l).take k)) ((flatR 5 l)[k]'(by omega)).set hi3 (hfo _ (List.getElem_mem _)).set) ?_)
    refine l_cons rfl (p_store ty_26 ?_)
    refine l_nil ?_
    refine k_blk_normal ?_
    refine k_blk_normal ?_
    refine k_seq_normal ?_
    refine w_region ?_
    refine l_cons rfl (p_move ?_)
    refine l_cons rfl (p_arith ?_)
    refine l_cons rfl (p_assign ?_)
    refine l_nil ?_
    refine k_seq_normal ?_
    refine ⟨(flatR 5 l).length - (k + 1), by omega, k + 1, rfl, by omega, ?_, ?_⟩
    ·rw [altSet_succ _ (by omega)]
     first | rw [if_neg (by omega)] | (rw [if_pos (by omega)] <;> rfl)
    ·rw [altOuts_succ _ (by omega)]
     first
     | (rw [if_pos (by omega)]; exact kn)
     | (rw [if_neg (by omega)]; exact kn)
   ·skip
    have h3' := h3; (try simp only [bb] at h3')
    refine w_region ?_
    refine l_cons rfl (p_move ?_)
    refine l_cons rfl (p_move ?_)
    refine l_cons rfl (p_move ?_)
    refine l_cons rfl (p_ixl sl_27 ?_)
    refine l_cons rfl (p_loadf ty_29 ?_)
    refine l_cons rfl (p_callr en_63 (refCopy _ ((flatR 5 l)[k]'(by omega)) _ (Nat.le_refl _) (by have := Rx.nodes_mem (l := (flatR 5 l)) (k := k) (by omega); omega)) ?_)
    refine l_cons rfl (p_callr en_87 (refInsert (altOuts [] ((flatR 5 l).take k)) ((flatR 5 l)[k]'(by omega)) hi1 (hfo _ (List.getElem_mem _)) (by omega)) ?_)
    refine l_cons rfl (p_assign ?_)
    refine l_nil ?_
    refine k_blk_normal ?_
    refine k_blk_normal ?_
    refine k_seq_normal ?_
    refine w_region ?_
    refine l_cons rfl (p_move ?_)
    refine l_cons rfl (p_arith ?_)
    refine l_cons rfl (p_assign ?_)
    refine l_nil ?_
    refine k_seq_normal ?_
    refine ⟨(flatR 5 l).length - (k + 1), by omega, k + 1, rfl, by omega, ?_, ?_⟩
    ·rw [altSet_succ _ (by omega)]
     first | rw [if_neg (by omega)] | (rw [if_pos (by omega)] <;> rfl)
    ·rw [altOuts_succ _ (by omega)]
     first
     | (rw [if_pos (by omega)]; exact kn)
     | (rw [if_neg (by omega)]; exact kn)
 ·skip
  have h1' := h1; (try simp only [bb] at h1')
  refine w_exit ?_
  refine k_seq_exit ?_
  refine k_seq_exit ?_
  refine k_blk_here ?_
  refine k_seq_normal ?_
  refine w_seq ?_
  refine w_seq ?_
  obtain rfl : k = (flatR 5 l).length := by omega
  refine w_region ?_
  refine l_cons rfl (p_loadp ty_26 ?_)
  refine l_cons rfl (p_buildArr ze_26 ar_26 ?_)
  refine l_cons rfl (p_nea ai_26 ?_ (hb := neA (altSet noSet ((flatR 5 l).take (flatR 5 l).length)) noSet))
  refine l_nil ?_
  refine k_seq_normal ?_
  refine w_b (fun h4 => ?_) (fun h4 => ?_)
  ·skip
   have h4' := h4; (try simp only [bb] at h4')
   have hfin := alt_res_yes (l := l) h4'
   refine w_region ?_
   refine l_cons rfl (p_move ?_)
   refine l_cons rfl (p_loadp ty_26 ?_)
   refine l_cons rfl (p_callr en_67 (refBytes (altSet noSet ((flatR 5 l).take (flatR 5 l).length))) ?_)
   refine l_cons rfl (p_callr en_87 (refInsert (altOuts [] ((flatR 5 l).take (flatR 5 l).length)) (bytesR (altSet noSet ((flatR 5 l).take (flatR 5 l).length))) hi1 (bytesR_ok hi3) (by omega)) ?_)
   refine l_cons rfl (p_assign ?_)
   refine l_nil ?_
   refine k_seq_normal ?_
   refine w_seq ?_
   refine w_seq ?_
   refine w_region ?_
   refine l_cons rfl (p_move ?_)
   refine l_cons rfl (p_lenl sl_27 ?_)
   refine l_cons rfl (p_cmp ?_)
   refine l_nil ?_
   refine k_seq_normal ?_
   refine w_b (fun h5 => ?_) (fun h5 => ?_)
   ·skip
    have h5' := h5; (try simp only [bb] at h5')
    refine w_seq ?_
    refine w_region ?_
    refine l_cons rfl (p_callr en_84 (refNone) ?_)
    refine l_cons rfl (p_store ty_29 ?_)
    refine l_nil ?_
    refine k_seq_normal ?_
    refine w_ret ?_
    refine k_seq_ret ?_
    rw [hfin, altOf_nil (by omega)]
    exact retc rfl ty_29 subx ⟨rfl, rfl⟩
   ·skip
    have h5' := h5; (try simp only [bb] at h5')
    refine w_skip ?_
    refine k_seq_normal ?_
    refine w_seq ?_
    refine w_seq ?_
    refine w_region ?_
    refine l_cons rfl (p_move ?_)
    refine l_cons rfl (p_lenl sl_27 ?_)
    refine l_cons rfl (p_cmp ?_)
    refine l_nil ?_
    refine k_seq_normal ?_
    refine w_b (fun h6 => ?_) (fun h6 => ?_)
    ·skip
     have h6' := h6; (try simp only [bb] at h6')
     refine w_seq ?_
     refine w_region ?_
     refine l_cons rfl (p_move ?_)
     refine l_cons rfl (p_ixl sl_27 ?_)
     refine l_cons rfl (p_loadf ty_29 ?_)
     refine l_cons rfl (p_store ty_29 ?_)
     refine l_nil ?_
     refine k_seq_normal ?_
     refine w_ret ?_
     refine k_seq_ret ?_
     rw [hfin, altOf_one (by omega)]
     exact retc rfl ty_29 subx ⟨rfl, rfl⟩
    ·skip
     have h6' := h6; (try simp only [bb] at h6')
     refine w_skip ?_
     refine k_seq_normal ?_
     refine w_seq ?_
     refine w_region ?_
     refine l_cons rfl (p_move ?_)
     refine l_cons rfl (p_build ze_29 pl_29 ?_)
     refine l_cons rfl (p_store ty_29 ?_)
     refine l_nil ?_
     refine k_seq_normal ?_
     refine w_ret ?_
     rw [hfin, altOf_two (by omega), Rx.cells_eq]
     exact retc rfl ty_29 subx ⟨rfl, rfl⟩
  ·skip
   have h4' := h4; (try simp only [bb] at h4')
   have hfin := alt_res_no (l := l) h4'
   refine w_skip ?_
   refine k_seq_normal ?_
   refine w_seq ?_
   refine w_seq ?_
   refine w_region ?_
   refine l_cons rfl (p_move ?_)
   refine l_cons rfl (p_lenl sl_27 ?_)
   refine l_cons rfl (p_cmp ?_)
   refine l_nil ?_
   refine k_seq_normal ?_
   refine w_b (fun h7 => ?_) (fun h7 => ?_)
   ·skip
    have h7' := h7; (try simp only [bb] at h7')
    refine w_seq ?_
    refine w_region ?_
    refine l_cons rfl (p_callr en_84 (refNone) ?_)
    refine l_cons rfl (p_store ty_29 ?_)
    refine l_nil ?_
    refine k_seq_normal ?_
    refine w_ret ?_
    refine k_seq_ret ?_
    rw [hfin, altOf_nil (by omega)]
    exact retc rfl ty_29 subx ⟨rfl, rfl⟩
   ·skip
    have h7' := h7; (try simp only [bb] at h7')
    refine w_skip ?_
    refine k_seq_normal ?_
    refine w_seq ?_
    refine w_seq ?_
    refine w_region ?_
    refine l_cons rfl (p_move ?_)
    refine l_cons rfl (p_lenl sl_27 ?_)
    refine l_cons rfl (p_cmp ?_)
    refine l_nil ?_
    refine k_seq_normal ?_
    refine w_b (fun h8 => ?_) (fun h8 => ?_)
    ·skip
     have h8' := h8; (try simp only [bb] at h8')
     refine w_seq ?_
     refine w_region ?_
     refine l_cons rfl (p_move ?_)
     refine l_cons rfl (p_ixl sl_27 ?_)
     refine l_cons rfl (p_loadf ty_29 ?_)
     refine l_cons rfl (p_store ty_29 ?_)
     refine l_nil ?_
     refine k_seq_normal ?_
     refine w_ret ?_
     refine k_seq_ret ?_
     rw [hfin, altOf_one (by omega)]
     exact retc rfl ty_29 subx ⟨rfl, rfl⟩
    ·skip
     have h8' := h8; (try simp only [bb] at h8')
     refine w_skip ?_
     refine k_seq_normal ?_
     refine w_seq ?_
     refine w_region ?_
     refine l_cons rfl (p_move ?_)
     refine l_cons rfl (p_build ze_29 pl_29 ?_)
     refine l_cons rfl (p_store ty_29 ?_)
     refine l_nil ?_
     refine k_seq_normal ?_
     refine w_ret ?_
     rw [hfin, altOf_two (by omega), Rx.cells_eq]
     exact retc rfl ty_29 subx ⟨rfl, rfl⟩
end
set_option maxRecDepth 8000
section
open Go.RowKit Go.Proofs
theorem cells2 {P : Program} {w0 : World} {fid : FuncId} {x : AV} {r : Rx} {es : List Ent} {R : AV → List Ent → Prop} (h : ACalls P w0 fid [x, .agg r.cells] es R) : ACalls P w0 fid [x, .agg [.int .i64 r.kind, .int .u64 r.set.w0, .int .u64 r.set.w1, .int .u64 r.set.w2, .int .u64 r.set.w3, .list 6 (r.args.map Rx.cells)]] es R := by
 rw [← Rx.cells_eq r]; exact h
theorem cells1 {P : Program} {w0 : World} {fid : FuncId} {r : Rx} {es : List Ent} {R : AV → List Ent → Prop} (h : ACalls P w0 fid [.agg r.cells] es R) : ACalls P w0 fid [.agg [.int .i64 r.kind, .int .u64 r.set.w0, .int .u64 r.set.w1, .int .u64 r.set.w2, .int .u64 r.set.w3, .list 6 (r.args.map Rx.cells)]] es R := by
 rw [← Rx.cells_eq r]; exact h
theorem Rx.eta (r : Rx) : Rx.mk r.kind r.set r.args = r := by cases r; rfl
theorem plainL5_iff : ∀ l : List Rx, Rx.plainL5 l = true ↔ ∀ r ∈ l, r.plain5 = true
 | [] => by simp [Rx.plainL5]
 | r :: t => by simp [Rx.plainL5, plainL5_iff t]
theorem plain5_of {r : Rx} (h : ∀ j (hj : j < r.args.length), (r.args[j]).plain5 = true) : r.plain5 = right5 r.kind r.set r.args := by
 have : Rx.plainL5 r.args = true := (plainL5_iff _).2 fun x hx => by
  obtain ⟨j, hj, rfl⟩ := List.mem_iff_getElem.1 hx
  exact h j hj
 cases r
 simp only [Rx.args] at this
 rw [Rx.plain5, this]
 rfl
theorem plain5_no {r : Rx} {k : Nat} (hk : k < r.args.length) (h : (r.args[k]).plain5 = false) : r.plain5 = false := by
 have : ¬ Rx.plainL5 r.args = true := fun e => by
  have := (plainL5_iff _).1 e _ (List.getElem_mem hk)
  rw [h] at this
  cases this
 cases r
 simp only [Rx.args] at this
 rw [Rx.plain5, Bool.eq_false_iff.2 this]
 rfl
theorem right5_12 {r : Rx} (h : r.kind = 1 ∨ r.kind = 2) : right5 r.kind r.set r.args = (decide (r.set = noSet) && decide (r.args.length = 0)) := by unfold right5; rw [if_pos h]
theorem right5_3 {r : Rx} (h : r.kind = 3) : right5 r.kind r.set r.args = (!decide (r.set = noSet) && decide (r.args.length = 0)) := by unfold right5; rw [if_neg (by omega), if_pos h]
theorem right5_4 {r : Rx} (h : r.kind = 4) : right5 r.kind r.set r.args = (decide (r.set = noSet) && decide (1 < r.args.length) && (catR r.args).same r) := by unfold right5; rw [if_neg (by omega), if_neg (by omega), if_pos h, r.eta]
theorem right5_5 {r : Rx} (h : r.kind = 5) : right5 r.kind r.set r.args = (decide (r.set = noSet) && decide (1 < r.args.length) && (altR r.args).same r) := by unfold right5; rw [if_neg (by omega), if_neg (by omega), if_neg (by omega), if_pos h, r.eta]
theorem right5_6 {r : Rx} (h : r.kind = 6) : right5 r.kind r.set r.args = (decide (r.set = noSet) && decide (r.args.length = 1) && notIn [6, 1, 2] r.args) := by unfold right5; rw [if_neg (by omega), if_neg (by omega), if_neg (by omega), if_neg (by omega), if_pos h]
theorem right5_0 {r : Rx} (h : ¬ r.kind = 1 ∧ ¬ r.kind = 2 ∧ ¬ r.kind = 3 ∧ ¬ r.kind = 4 ∧ ¬ r.kind = 5 ∧ ¬ r.kind = 6) : right5 r.kind r.set r.args = false := by unfold right5; rw [if_neg (by omega), if_neg (by omega), if_neg (by omega), if_neg (by omega), if_neg (by omega)]
theorem notIn_one {l : List Rx} {ks : List Int} (h : l.length = 1) : notIn ks l = !(ks.contains (l[0]'(by omega)).kind) := by
 match l, h with
 | [x], _ => simp [notIn]
theorem refPlain {w0 : World} : ∀ (B : Nat) (r : Rx) (es : List Ent), r.nodes ≤ B → B ≤ 1048000 → r.ok → ACalls Tryd.prog w0 74 [.agg r.cells] es fun v es' => v = .bool r.plain5 ∧ es' = es := by
 intro B
 induction B using Nat.strongRecOn with
 | _ B ih => ?_
 intro r es hB hB2 ho
 rw [Rx.cells_eq r]
 have hne := r.nodes_eq
 have hal := Rx.len_le r.args
 refine calls1 (N := 119) Tryd.func74 rfl rfl (by decide) ?_
 refine w_seq ?_
 refine w_region ?_
 refine l_cons rfl (p_box fun s1 => ?_)
 refine l_cons rfl (p_assign ?_)
 refine l_nil ?_
 refine k_seq_normal ?_
 refine w_seq ?_
 refine w_seq ?_
 refine w_region ?_
 refine l_cons rfl (p_assign ?_)
 refine l_nil ?_
 refine k_seq_normal ?_
 refine w_block ?_
 refine w_loop (fun m f es' => ∃ k, m = r.args.length - k ∧ k ≤ r.args.length ∧ (∀ j (hj : j < k) (h : j < r.args.length), (r.args[j]).plain5 = true) ∧ es' = .row s1 29 6 [[.int .i64 r.kind, .int .u64 r.set.w0, .int .u64 r.set.w1, .int .u64 r.set.w2, .int .u64 r.set.w3, .list 6 (r.args.map Rx.cells)]] :: es ∧ Knows f [(1, .ptr es.length s1 0 0), (3, .int .i64 k)]) (r.args.length) (⟨0, rfl, Nat.zero_le _, fun j hj => absurd hj (Nat.not_lt_zero _), rfl, kn⟩) ?_
 rintro m f es' ⟨k, rfl, hk1, hk2, rfl, hk⟩
 refine w_pins _ (Sub.refl _) (hk) ?_
 simp only [pins]
 refine w_seq ?_
 refine w_seq ?_
 refine w_region ?_
 refine l_cons rfl (p_move ?_)
 refine l_cons rfl (p_fap fa_29_2 ?_)
 refine l_cons rfl (p_loadp ty_27 ?_)
 first | refine l_cons rfl (p_lenl sl_27 ?_) | refine l_cons rfl (p_leno sl_27 ?_) | refine l_cons rfl (p_lenn sl_27 ?_)
 refine l_cons rfl (p_cmp ?_)
 refine l_nil ?_
 refine k_seq_normal ?_
 refine w_b (fun h1 => ?_) (fun h1 => ?_)
 ·skip
  have h1' := h1; (try simp only [bb] at h1')
  refine w_skip ?_
  refine k_seq_normal ?_
  refine w_seq ?_
  refine w_block ?_
  refine w_seq ?_
  refine w_region ?_
  refine l_cons rfl (p_fap fa_29_2 ?_)
  refine l_cons rfl (p_loadp ty_27 ?_)
  refine l_cons rfl (p_move ?_)
  first | refine l_cons rfl (p_ixl sl_27 ?_) | refine l_cons rfl (p_ixo sl_27 ?_)
  first | refine l_cons rfl (p_loadf ty_29 ?_) | refine l_cons rfl (p_loadp ty_29 ?_)
  refine l_cons rfl (p_callr en_74 (ih (B - 1) (by omega) (r.args[k]'(by omega)) _ (by have := r.nodes_arg (k := k) (by omega); omega) (by omega) (ho.arg (by omega))) ?_)
  refine l_cons rfl (p_not ?_)
  refine l_nil ?_
  refine k_seq_normal ?_
  refine w_b (fun h2 => ?_) (fun h2 => ?_)
  ·skip
   have h2' := h2; (try simp only [bb] at h2')
   refine w_seq ?_
   refine w_region ?_
   refine l_cons rfl (p_assign ?_)
   refine l_nil ?_
   refine k_seq_normal ?_
   refine w_ret ?_
   refine k_blk_ret ?_
   refine k_seq_ret ?_
   refine k_seq_ret ?_
   refine k_blk_ret ?_
   refine k_seq_ret ?_
   exact ret1 rfl ev1 subx ⟨by rw [plain5_no (k := k) (by omega) (by simp_all)], rfl⟩
  ·skip
   have h2' := h2; (try simp only [bb] at h2')
   refine w_skip ?_
   refine k_blk_normal ?_
   refine k_seq_normal ?_
   refine w_region ?_
   refine l_cons rfl (p_move ?_)
   refine l_cons rfl (p_arith ?_)
   refine l_cons rfl (p_assign ?_)
   refine l_nil ?_
   refine k_seq_normal ?_
   exact ⟨r.args.length - (k + 1), by omega, k + 1, rfl, by omega, fun j hj h => by
    rcases Nat.lt_or_eq_of_le (Nat.le_of_lt_succ hj) with h9 | h9
    ·exact hk2 j h9 h
    ·subst h9; simp_all, rfl, kn⟩
 ·skip
  have h1' := h1; (try simp only [bb] at h1')
  refine w_exit ?_
  refine k_seq_exit ?_
  refine k_seq_exit ?_
  refine k_blk_here ?_
  refine k_seq_normal ?_
  refine w_seq ?_
  refine w_seq ?_
  obtain rfl : k = r.args.length := by omega
  have hp5 := plain5_of (r := r) (fun j hj => hk2 j hj hj)
  refine w_region ?_
  refine l_cons rfl (p_fap fa_29_0 ?_)
  refine l_cons rfl (p_loadp ty_3 ?_)
  refine l_nil ?_
  refine k_seq_normal ?_
  refine w_block ?_
  refine w_seq ?_
  refine w_seq ?_
  refine w_region ?_
  refine l_cons rfl (p_cmp ?_)
  refine l_cons rfl (p_assign ?_)
  refine l_nil ?_
  refine k_seq_normal ?_
  refine w_b (fun h3 => ?_) (fun h3 => ?_)
  ·skip
   have h3' := h3; (try simp only [bb] at h3')
   refine w_skip ?_
   refine k_seq_normal ?_
   refine w_t h3 ?_
   refine w_seq ?_
   refine w_region ?_
   refine l_cons rfl (p_fap fa_29_2 ?_)
   refine l_cons rfl (p_loadp ty_27 ?_)
   first | refine l_cons rfl (p_lenl sl_27 ?_) | refine l_cons rfl (p_leno sl_27 ?_) | refine l_cons rfl (p_lenn sl_27 ?_)
   refine l_cons rfl (p_cmp ?_)
   refine l_cons rfl (p_move ?_)
   refine g_b rfl (fun h4 => ?_) (fun h4 => ?_)
   ·skip
    have h4' := h4; (try simp only [bb] at h4')
    refine (p_fap fa_29_1 ?_)
    refine g_y rfl h4 (p_loadp ty_26 ?_)
    refine g_y rfl h4 (p_buildArr ze_26 ar_26 ?_)
    refine g_y rfl h4 (p_eqa ai_26 ?_ (hb := eqA r.set noSet))
    refine l_cons rfl (p_pickt h4 ?_)
    refine l_cons rfl (p_assign ?_)
    refine l_nil ?_
    refine k_seq_normal ?_
    refine w_ret ?_
    refine k_blk_ret ?_
    refine k_seq_ret ?_
    rw [hp5, right5_12 (by omega)]
    exact ret1 rfl ev1 subx ⟨by first | (simp_all; done) | (simp_all; omega) | (simp_all <;> intros <;> omega), rfl⟩
   ·skip
    have h4' := h4; (try simp only [bb] at h4')
    refine g_n rfl h4 ?_
    refine g_n rfl h4 ?_
    refine g_n rfl h4 ?_
    refine l_cons rfl (p_pickf h4 ?_)
    refine l_cons rfl (p_assign ?_)
    refine l_nil ?_
    refine k_seq_normal ?_
    refine w_ret ?_
    refine k_blk_ret ?_
    refine k_seq_ret ?_
    rw [hp5, right5_12 (by omega)]
    exact ret1 rfl ev1 subx ⟨by first | (simp_all; done) | (simp_all; omega) | (simp_all <;> intros <;> omega), rfl⟩
  ·skip
   have h3' := h3; (try simp only [bb] at h3')
   refine w_region ?_
   refine l_cons rfl (p_cmp ?_)
   refine l_cons rfl (p_assign ?_)
   refine l_nil ?_
   refine k_seq_normal ?_
   refine w_b (fun h5 => ?_) (fun h5 => ?_)
   ·skip
    have h5' := h5; (try simp only [bb] at h5')
    refine w_seq ?_
    refine w_region ?_
    refine l_cons rfl (p_fap fa_29_2 ?_)
    refine l_cons rfl (p_loadp ty_27 ?_)
    first | refine l_cons rfl (p_lenl sl_27 ?_) | refine l_cons rfl (p_leno sl_27 ?_) | refine l_cons rfl (p_lenn sl_27 ?_)
    refine l_cons rfl (p_cmp ?_)
    refine l_cons rfl (p_move ?_)
    refine g_b rfl (fun h6 => ?_) (fun h6 => ?_)
    ·skip
     have h6' := h6; (try simp only [bb] at h6')
     refine (p_fap fa_29_1 ?_)
     refine g_y rfl h6 (p_loadp ty_26 ?_)
     refine g_y rfl h6 (p_buildArr ze_26 ar_26 ?_)
     refine g_y rfl h6 (p_eqa ai_26 ?_ (hb := eqA r.set noSet))
     refine l_cons rfl (p_pickt h6 ?_)
     refine l_cons rfl (p_assign ?_)
     refine l_nil ?_
     refine k_seq_normal ?_
     refine w_ret ?_
     refine k_blk_ret ?_
     refine k_seq_ret ?_
     rw [hp5, right5_12 (by omega)]
     exact ret1 rfl ev1 subx ⟨by first | (simp_all; done) | (simp_all; omega) | (simp_all <;> intros <;> omega), rfl⟩
    ·skip
     have h6' := h6; (try simp only [bb] at h6')
     refine g_n rfl h6 ?_
     refine g_n rfl h6 ?_
     refine g_n rfl h6 ?_
     refine l_cons rfl (p_pickf h6 ?_)
     refine l_cons rfl (p_assign ?_)
     refine l_nil ?_
     refine k_seq_normal ?_
     refine w_ret ?_
     refine k_blk_ret ?_
     refine k_seq_ret ?_
     rw [hp5, right5_12 (by omega)]
     exact ret1 rfl ev1 subx ⟨by first | (simp_all; done) | (simp_all; omega) | (simp_all <;> intros <;> omega), rfl⟩
   ·skip
    have h5' := h5; (try simp only [bb] at h5')
    refine w_seq ?_
    refine w_region ?_
    refine l_cons rfl (p_cmp ?_)
    refine l_cons rfl (p_assign ?_)
    refine l_nil ?_
    refine k_seq_normal ?_
    refine w_b (fun h7 => ?_) (fun h7 => ?_)
    ·skip
     have h7' := h7; (try simp only [bb] at h7')
     refine w_seq ?_
     refine w_region ?_
     refine l_cons rfl (p_fap fa_29_2 ?_)
     refine l_cons rfl (p_loadp ty_27 ?_)
     first | refine l_cons rfl (p_lenl sl_27 ?_) | refine l_cons rfl (p_leno sl_27 ?_) | refine l_cons rfl (p_lenn sl_27 ?_)
     refine l_cons rfl (p_cmp ?_)
     refine l_cons rfl (p_move ?_)
     refine g_b rfl (fun h8 => ?_) (fun h8 => ?_)
     ·skip
      have h8' := h8; (try simp only [bb] at h8')
      refine (p_fap fa_29_1 ?_)
      refine g_y rfl h8 (p_loadp ty_26 ?_)
      refine g_y rfl h8 (p_buildArr ze_26 ar_26 ?_)
      refine g_y rfl h8 (p_nea ai_26 ?_ (hb := neA r.set noSet))
      refine l_cons rfl (p_pickt h8 ?_)
      refine l_cons rfl (p_assign ?_)
      refine l_nil ?_
      refine k_seq_normal ?_
      refine w_ret ?_
      refine k_blk_ret ?_
      refine k_seq_ret ?_
      rw [hp5, right5_3 (by omega)]
      exact ret1 rfl ev1 subx ⟨by first | (simp_all; done) | (simp_all; omega) | (simp_all <;> intros <;> omega), rfl⟩
     ·skip
      have h8' := h8; (try simp only [bb] at h8')
      refine g_n rfl h8 ?_
      refine g_n rfl h8 ?_
      refine g_n rfl h8 ?_
      refine l_cons rfl (p_pickf h8 ?_)
      refine l_cons rfl (p_assign ?_)
      refine l_nil ?_
      refine k_seq_normal ?_
      refine w_ret ?_
      refine k_blk_ret ?_
      refine k_seq_ret ?_
      rw [hp5, right5_3 (by omega)]
      exact ret1 rfl ev1 subx ⟨by first | (simp_all; done) | (simp_all; omega) | (simp_all <;> intros <;> omega), rfl⟩
    ·skip
     have h7' := h7; (try simp only [bb] at h7')
     refine w_seq ?_
     refine w_region ?_
     refine l_cons rfl (p_cmp ?_)
     refine l_cons rfl (p_assign ?_)
     refine l_nil ?_
     refine k_seq_normal ?_
     refine w_b (fun h9 => ?_) (fun h9 => ?_)
     ·skip
      have h9' := h9; (try simp only [bb] at h9')
      refine w_seq ?_
      refine w_drawn 15 [] (fun e => e = _) mixed (by kernel_rfl) rfl ?_
      refine q1 1 (hg := rfl) (hu := rfl) (h := by rintro f _ rfl; exact p_fap fa_29_1 ⟨rfl, rfl⟩) (k := ?_)
      refine q1 47 (hg := rfl) (hu := rfl) (h := by rintro f _ rfl; exact p_loadp ty_26 ⟨rfl, rfl⟩) (k := ?_)
      refine q0  (hg := rfl) (hu := rfl) (h := by rintro f _ rfl; exact p_buildArr ze_26 ar_26 ⟨rfl, rfl⟩) (k := ?_)
      refine q2 48 49 (hg := rfl) (hu := rfl) (h := by rintro f _ rfl; exact p_eqa ai_26 ⟨rfl, rfl⟩ (hb := eqA r.set noSet)) (k := ?_)
      refine q1 50 (hg := rfl) (hu := rfl) (h := by rintro f _ rfl; exact p_move ⟨rfl, rfl⟩) (k := ?_)
      refine qsplit 51 (fun h10 => ?_) (fun h10 => ?_)
      ·skip
       have h10' := h10; (try simp only [bb] at h10')
       refine qy1 1 (hg := rfl) (hw := h10) (hu := rfl) (h := by rintro f _ rfl; exact p_fap fa_29_2 ⟨rfl, rfl⟩) (k := ?_)
       refine qy1 52 (hg := rfl) (hw := h10) (hu := rfl) (h := by rintro f _ rfl; exact p_loadp ty_27 ⟨rfl, rfl⟩) (k := ?_)
       first | refine qy1 53 (hg := rfl) (hw := h10) (hu := rfl) (h := by rintro f _ rfl; exact p_lenl sl_27 ⟨rfl, rfl⟩) (k := ?_) | refine qy1 53 (hg := rfl) (hw := h10) (hu := rfl) (h := by rintro f _ rfl; exact p_leno sl_27 ⟨rfl, rfl⟩) (k := ?_) | refine qy1 53 (hg := rfl) (hw := h10) (hu := rfl) (h := by rintro f _ rfl; exact p_lenn sl_27 ⟨rfl, rfl⟩) (k := ?_)
       refine qy1 54 (hg := rfl) (hw := h10) (hu := rfl) (h := by rintro f _ rfl; exact p_cmp ⟨rfl, rfl⟩) (k := ?_)
       refine q2 51 55 (hg := rfl) (hu := rfl) (h := by rintro f _ rfl; exact p_pickt h10 ⟨rfl, rfl⟩) (k := ?_)
       refine q1 56 (hg := rfl) (hu := rfl) (h := by rintro f _ rfl; exact p_move ⟨rfl, rfl⟩) (k := ?_)
       refine qsplit 57 (fun h11 => ?_) (fun h11 => ?_)
       ·skip
        have h11' := h11; (try simp only [bb] at h11')
        refine qy1 1 (hg := rfl) (hw := h11) (hu := rfl) (h := by rintro f _ rfl; exact p_fap fa_29_2 ⟨rfl, rfl⟩) (k := ?_)
        refine qy1 58 (hg := rfl) (hw := h11) (hu := rfl) (h := by rintro f _ rfl; exact p_loadp ty_27 ⟨rfl, rfl⟩) (k := ?_)
        refine qy1 59 (hg := rfl) (hw := h11) (hu := rfl) (h := by rintro f _ rfl; exact p_callr en_39 (refCat r.args (by omega)) ⟨rfl, rfl⟩) (k := ?_)
        refine qy1 1 (hg := rfl) (hw := h11) (hu := rfl) (h := by rintro f _ rfl; exact p_loadp ty_29 ⟨rfl, rfl⟩) (k := ?_)
        refine q_end ?_
        refine m_end ?_
        refine g_y rfl h11 (p_callr en_64 (cells2 (refSame _ (catR r.args) r _ (Nat.le_refl _))) ?_)
        refine l_cons rfl (p_pickt h11 ?_)
        refine l_cons rfl (p_assign ?_)
        refine l_nil ?_
        refine k_seq_normal ?_
        refine w_ret ?_
        refine k_blk_ret ?_
        refine k_seq_ret ?_
        rw [hp5, right5_4 (by omega)]
        exact ret1 rfl ev1 subx ⟨by first | (simp_all; done) | (simp_all; omega) | (simp_all <;> intros <;> omega), rfl⟩
       ·skip
        have h11' := h11; (try simp only [bb] at h11')
        refine qn rfl h11 ?_
        refine qn rfl h11 ?_
        refine qn rfl h11 ?_
        refine qn rfl h11 ?_
        refine q_end ?_
        refine m_end ?_
        refine g_n rfl h11 ?_
        refine l_cons rfl (p_pickf h11 ?_)
        refine l_cons rfl (p_assign ?_)
        refine l_nil ?_
        refine k_seq_normal ?_
        refine w_ret ?_
        refine k_blk_ret ?_
        refine k_seq_ret ?_
        rw [hp5, right5_4 (by omega)]
        exact ret1 rfl ev1 subx ⟨by first | (simp_all; done) | (simp_all; omega) | (simp_all <;> intros <;> omega), rfl⟩
      ·skip
       have h10' := h10; (try simp only [bb] at h10')
       refine qn rfl h10 ?_
       refine qn rfl h10 ?_
       refine qn rfl h10 ?_
       refine qn rfl h10 ?_
       refine q2 51 55 (hg := rfl) (hu := rfl) (h := by rintro f _ rfl; exact p_pickf h10 ⟨rfl, rfl⟩) (k := ?_)
       refine q1 56 (hg := rfl) (hu := rfl) (h := by rintro f _ rfl; exact p_move ⟨rfl, rfl⟩) (k := ?_)
       refine qn rfl rfl ?_
       refine qn rfl rfl ?_
       refine qn rfl rfl ?_
       refine qn rfl rfl ?_
       refine q_end ?_
       refine m_end ?_
       refine g_n rfl rfl ?_
       refine l_cons rfl (p_pickf rfl ?_)
       refine l_cons rfl (p_assign ?_)
       refine l_nil ?_
       refine k_seq_normal ?_
       refine w_ret ?_
       refine k_blk_ret ?_
       refine k_seq_ret ?_
       rw [hp5, right5_4 (by omega)]
       exact ret1 rfl ev1 subx ⟨by first | (simp_all; done) | (simp_all; omega) | (simp_all <;> intros <;> omega), rfl⟩
     ·skip
      have h9' := h9; (try simp only [bb] at h9')
      refine w_seq ?_
      refine w_region ?_
      refine l_cons rfl (p_cmp ?_)
      refine l_cons rfl (p_assign ?_)
      refine l_nil ?_
      refine k_seq_normal ?_
      refine w_b (fun h12 => ?_) (fun h12 => ?_)
      ·skip
       have h12' := h12; (try simp only [bb] at h12')
       refine w_seq ?_
       refine w_drawn 15 [] (fun e => e = _) mixed (by kernel_rfl) rfl ?_
       refine q1 1 (hg := rfl) (hu := rfl) (h := by rintro f _ rfl; exact p_fap fa_29_1 ⟨rfl, rfl⟩) (k := ?_)
       refine q1 66 (hg := rfl) (hu := rfl) (h := by rintro f _ rfl; exact p_loadp ty_26 ⟨rfl, rfl⟩) (k := ?_)
       refine q0  (hg := rfl) (hu := rfl) (h := by rintro f _ rfl; exact p_buildArr ze_26 ar_26 ⟨rfl, rfl⟩) (k := ?_)
       refine q2 67 68 (hg := rfl) (hu := rfl) (h := by rintro f _ rfl; exact p_eqa ai_26 ⟨rfl, rfl⟩ (hb := eqA r.set noSet)) (k := ?_)
       refine q1 69 (hg := rfl) (hu := rfl) (h := by rintro f _ rfl; exact p_move ⟨rfl, rfl⟩) (k := ?_)
       refine qsplit 70 (fun h13 => ?_) (fun h13 => ?_)
       ·skip
        have h13' := h13; (try simp only [bb] at h13')
        refine qy1 1 (hg := rfl) (hw := h13) (hu := rfl) (h := by rintro f _ rfl; exact p_fap fa_29_2 ⟨rfl, rfl⟩) (k := ?_)
        refine qy1 71 (hg := rfl) (hw := h13) (hu := rfl) (h := by rintro f _ rfl; exact p_loadp ty_27 ⟨rfl, rfl⟩) (k := ?_)
        first | refine qy1 72 (hg := rfl) (hw := h13) (hu := rfl) (h := by rintro f _ rfl; exact p_lenl sl_27 ⟨rfl, rfl⟩) (k := ?_) | refine qy1 72 (hg := rfl) (hw := h13) (hu := rfl) (h := by rintro f _ rfl; exact p_leno sl_27 ⟨rfl, rfl⟩) (k := ?_) | refine qy1 72 (hg := rfl) (hw := h13) (hu := rfl) (h := by rintro f _ rfl; exact p_lenn sl_27 ⟨rfl, rfl⟩) (k := ?_)
        refine qy1 73 (hg := rfl) (hw := h13) (hu := rfl) (h := by rintro f _ rfl; exact p_cmp ⟨rfl, rfl⟩) (k := ?_)
        refine q2 70 74 (hg := rfl) (hu := rfl) (h := by rintro f _ rfl; exact p_pickt h13 ⟨rfl, rfl⟩) (k := ?_)
        refine q1 75 (hg := rfl) (hu := rfl) (h := by rintro f _ rfl; exact p_move ⟨rfl, rfl⟩) (k := ?_)
        refine qsplit 76 (fun h14 => ?_) (fun h14 => ?_)
        ·skip
         have h14' := h14; (try simp only [bb] at h14')
         refine qy1 1 (hg := rfl) (hw := h14) (hu := rfl) (h := by rintro f _ rfl; exact p_fap fa_29_2 ⟨rfl, rfl⟩) (k := ?_)
         refine qy1 77 (hg := rfl) (hw := h14) (hu := rfl) (h := by rintro f _ rfl; exact p_loadp ty_27 ⟨rfl, rfl⟩) (k := ?_)
         refine qy1 78 (hg := rfl) (hw := h14) (hu := rfl) (h := by rintro f _ rfl; exact p_callr en_40 (refAlt r.args ho.args (by omega)) ⟨rfl, rfl⟩) (k := ?_)
         refine qy1 1 (hg := rfl) (hw := h14) (hu := rfl) (h := by rintro f _ rfl; exact p_loadp ty_29 ⟨rfl, rfl⟩) (k := ?_)
         refine q_end ?_
         refine m_end ?_
         refine g_y rfl h14 (p_callr en_64 (cells2 (refSame _ (altR r.args) r _ (Nat.le_refl _))) ?_)
         refine l_cons rfl (p_pickt h14 ?_)
         refine l_cons rfl (p_assign ?_)
         refine l_nil ?_
         refine k_seq_normal ?_
         refine w_ret ?_
         refine k_blk_ret ?_
         refine k_seq_ret ?_
         rw [hp5, right5_5 (by omega)]
         exact ret1 rfl ev1 subx ⟨by first | (simp_all; done) | (simp_all; omega) | (simp_all <;> intros <;> omega), rfl⟩
        ·skip
         have h14' := h14; (try simp only [bb] at h14')
         refine qn rfl h14 ?_
         refine qn rfl h14 ?_
         refine qn rfl h14 ?_
         refine qn rfl h14 ?_
         refine q_end ?_
         refine m_end ?_
         refine g_n rfl h14 ?_
         refine l_cons rfl (p_pickf h14 ?_)
         refine l_cons rfl (p_assign ?_)
         refine l_nil ?_
         refine k_seq_normal ?_
         refine w_ret ?_
         refine k_blk_ret ?_
         refine k_seq_ret ?_
         rw [hp5, right5_5 (by omega)]
         exact ret1 rfl ev1 subx ⟨by first | (simp_all; done) | (simp_all; omega) | (simp_all <;> intros <;> omega), rfl⟩
       ·skip
        have h13' := h13; (try simp only [bb] at h13')
        refine qn rfl h13 ?_
        refine qn rfl h13 ?_
        refine qn rfl h13 ?_
        refine qn rfl h13 ?_
        refine q2 70 74 (hg := rfl) (hu := rfl) (h := by rintro f _ rfl; exact p_pickf h13 ⟨rfl, rfl⟩) (k := ?_)
        refine q1 75 (hg := rfl) (hu := rfl) (h := by rintro f _ rfl; exact p_move ⟨rfl, rfl⟩) (k := ?_)
        refine qn rfl rfl ?_
        refine qn rfl rfl ?_
        refine qn rfl rfl ?_
        refine qn rfl rfl ?_
        refine q_end ?_
        refine m_end ?_
        refine g_n rfl rfl ?_
        refine l_cons rfl (p_pickf rfl ?_)
        refine l_cons rfl (p_assign ?_)
        refine l_nil ?_
        refine k_seq_normal ?_
        refine w_ret ?_
        refine k_blk_ret ?_
        refine k_seq_ret ?_
        rw [hp5, right5_5 (by omega)]
        exact ret1 rfl ev1 subx ⟨by first | (simp_all; done) | (simp_all; omega) | (simp_all <;> intros <;> omega), rfl⟩
      ·skip
       have h12' := h12; (try simp only [bb] at h12')
       refine w_seq ?_
       refine w_region ?_
       refine l_cons rfl (p_cmp ?_)
       refine l_cons rfl (p_assign ?_)
       refine l_nil ?_
       refine k_seq_normal ?_
       refine w_b (fun h15 => ?_) (fun h15 => ?_)
       ·skip
        have h15' := h15; (try simp only [bb] at h15')
        refine w_seq ?_
        refine w_region ?_
        refine l_cons rfl (p_fap fa_29_1 ?_)
        refine l_cons rfl (p_loadp ty_26 ?_)
        refine l_cons rfl (p_buildArr ze_26 ar_26 ?_)
        refine l_cons rfl (p_eqa ai_26 ?_ (hb := eqA r.set noSet))
        refine l_cons rfl (p_move ?_)
        refine g_b rfl (fun h16 => ?_) (fun h16 => ?_)
        ·skip
         have h16' := h16; (try simp only [bb] at h16')
         refine (p_fap fa_29_2 ?_)
         refine g_y rfl h16 (p_loadp ty_27 ?_)
         first | refine g_y rfl h16 (p_lenl sl_27 ?_) | refine g_y rfl h16 (p_leno sl_27 ?_) | refine g_y rfl h16 (p_lenn sl_27 ?_)
         refine g_y rfl h16 (p_cmp ?_)
         refine l_cons rfl (p_pickt h16 ?_)
         refine l_cons rfl (p_move ?_)
         refine g_b rfl (fun h17 => ?_) (fun h17 => ?_)
         ·skip
          have h17' := h17; (try simp only [bb] at h17')
          refine (p_fap fa_29_2 ?_)
          refine g_y rfl h17 (p_loadp ty_27 ?_)
          refine g_y rfl h17 (p_ixl sl_27 (a := .fptr 6 (r.args.map Rx.cells) 0 0) ?_ (h1 := by simp only [List.length_map]; omega))
          refine g_y rfl h17 (p_faf fa_29_0 ?_)
          refine g_y rfl h17 (p_loadf ty_3 (a := .int .i64 (r.args[0]'(by omega)).kind) ?_ (hr := rxrow_at (l := r.args) (k := 0) (by omega)) (ha := rfl))
          refine g_y rfl h17 (p_cmp ?_)
          refine l_cons rfl (p_pickt h17 ?_)
          refine l_cons rfl (p_move ?_)
          refine g_b rfl (fun h18 => ?_) (fun h18 => ?_)
          ·skip
           have h18' := h18; (try simp only [bb] at h18')
           refine (p_fap fa_29_2 ?_)
           refine g_y rfl h18 (p_loadp ty_27 ?_)
           refine g_y rfl h18 (p_ixl sl_27 (a := .fptr 6 (r.args.map Rx.cells) 0 0) ?_ (h1 := by simp only [List.length_map]; omega))
           refine g_y rfl h18 (p_faf fa_29_0 ?_)
           refine g_y rfl h18 (p_loadf ty_3 (a := .int .i64 (r.args[0]'(by omega)).kind) ?_ (hr := rxrow_at (l := r.args) (k := 0) (by omega)) (ha := rfl))
           refine g_y rfl h18 (p_cmp ?_)
           refine l_cons rfl (p_pickt h18 ?_)
           refine l_cons rfl (p_move ?_)
           refine g_b rfl (fun h19 => ?_) (fun h19 => ?_)
           ·skip
            have h19' := h19; (try simp only [bb] at h19')
            refine (p_fap fa_29_2 ?_)
            refine g_y rfl h19 (p_loadp ty_27 ?_)
            refine g_y rfl h19 (p_ixl sl_27 (a := .fptr 6 (r.args.map Rx.cells) 0 0) ?_ (h1 := by simp only [List.length_map]; omega))
            refine g_y rfl h19 (p_faf fa_29_0 ?_)
            refine g_y rfl h19 (p_loadf ty_3 (a := .int .i64 (r.args[0]'(by omega)).kind) ?_ (hr := rxrow_at (l := r.args) (k := 0) (by omega)) (ha := rfl))
            refine g_y rfl h19 (p_cmp ?_)
            refine l_cons rfl (p_pickt h19 ?_)
            refine l_cons rfl (p_assign ?_)
            refine l_nil ?_
            refine k_seq_normal ?_
            refine w_ret ?_
            refine k_blk_ret ?_
            refine k_seq_ret ?_
            rw [hp5, right5_6 (by omega)]
            exact ret1 rfl ev1 subx ⟨by first | (simp_all; done) | (rw [notIn_one (by omega)]; simp_all; done) | (rw [notIn_one (by omega)]; simp_all; omega) | (simp_all; omega), rfl⟩
           ·skip
            have h19' := h19; (try simp only [bb] at h19')
            refine g_n rfl h19 ?_
            refine g_n rfl h19 ?_
            refine g_n rfl h19 ?_
            refine g_n rfl h19 ?_
            refine g_n rfl h19 ?_
            refine l_cons rfl (p_pickf h19 ?_)
            refine l_cons rfl (p_assign ?_)
            refine l_nil ?_
            refine k_seq_normal ?_
            refine w_ret ?_
            refine k_blk_ret ?_
            refine k_seq_ret ?_
            rw [hp5, right5_6 (by omega)]
            exact ret1 rfl ev1 subx ⟨by first | (simp_all; done) | (rw [notIn_one (by omega)]; simp_all; done) | (rw [notIn_one (by omega)]; simp_all; omega) | (simp_all; omega), rfl⟩
          ·skip
           have h18' := h18; (try simp only [bb] at h18')
           refine g_n rfl h18 ?_
           refine g_n rfl h18 ?_
           refine g_n rfl h18 ?_
           refine g_n rfl h18 ?_
           refine g_n rfl h18 ?_
           refine l_cons rfl (p_pickf h18 ?_)
           refine l_cons rfl (p_move ?_)
           refine g_n rfl rfl ?_
           refine g_n rfl rfl ?_
           refine g_n rfl rfl ?_
           refine g_n rfl rfl ?_
           refine g_n rfl rfl ?_
           refine g_n rfl rfl ?_
           refine l_cons rfl (p_pickf rfl ?_)
           refine l_cons rfl (p_assign ?_)
           refine l_nil ?_
           refine k_seq_normal ?_
           refine w_ret ?_
           refine k_blk_ret ?_
           refine k_seq_ret ?_
           rw [hp5, right5_6 (by omega)]
           exact ret1 rfl ev1 subx ⟨by first | (simp_all; done) | (rw [notIn_one (by omega)]; simp_all; done) | (rw [notIn_one (by omega)]; simp_all; omega) | (simp_all; omega), rfl⟩
         ·skip
          have h17' := h17; (try simp only [bb] at h17')
          refine g_n rfl h17 ?_
          refine g_n rfl h17 ?_
          refine g_n rfl h17 ?_
          refine g_n rfl h17 ?_
          refine g_n rfl h17 ?_
          refine l_cons rfl (p_pickf h17 ?_)
          refine l_cons rfl (p_move ?_)
          refine g_n rfl rfl ?_
          refine g_n rfl rfl ?_
          refine g_n rfl rfl ?_
          refine g_n rfl rfl ?_
          refine g_n rfl rfl ?_
          refine g_n rfl rfl ?_
          refine l_cons rfl (p_pickf rfl ?_)
          refine l_cons rfl (p_move ?_)
          refine g_n rfl rfl ?_
          refine g_n rfl rfl ?_
          refine g_n rfl rfl ?_
          refine g_n rfl rfl ?_
          refine g_n rfl rfl ?_
          refine g_n rfl rfl ?_
          refine l_cons rfl (p_pickf rfl ?_)
          refine l_cons rfl (p_assign ?_)
          refine l_nil ?_
          refine k_seq_normal ?_
          refine w_ret ?_
          refine k_blk_ret ?_
          refine k_seq_ret ?_
          rw [hp5, right5_6 (by omega)]
          exact ret1 rfl ev1 subx ⟨by first | (simp_all; done) | (rw [notIn_one (by omega)]; simp_all; done) | (rw [notIn_one (by omega)]; simp_all; omega) | (simp_all; omega), rfl⟩
        ·skip
         have h16' := h16; (try simp only [bb] at h16')
         refine g_n rfl h16 ?_
         refine g_n rfl h16 ?_
         refine g_n rfl h16 ?_
         refine l_cons rfl (p_pickf h16 ?_)
         refine l_cons rfl (p_move ?_)
         refine g_n rfl rfl ?_
         refine g_n rfl rfl ?_
         refine g_n rfl rfl ?_
         refine g_n rfl rfl ?_
         refine g_n rfl rfl ?_
         refine g_n rfl rfl ?_
         refine l_cons rfl (p_pickf rfl ?_)
         refine l_cons rfl (p_move ?_)
         refine g_n rfl rfl ?_
         refine g_n rfl rfl ?_
         refine g_n rfl rfl ?_
         refine g_n rfl rfl ?_
         refine g_n rfl rfl ?_
         refine g_n rfl rfl ?_
         refine l_cons rfl (p_pickf rfl ?_)
         refine l_cons rfl (p_move ?_)
         refine g_n rfl rfl ?_
         refine g_n rfl rfl ?_
         refine g_n rfl rfl ?_
         refine g_n rfl rfl ?_
         refine g_n rfl rfl ?_
         refine g_n rfl rfl ?_
         refine l_cons rfl (p_pickf rfl ?_)
         refine l_cons rfl (p_assign ?_)
         refine l_nil ?_
         refine k_seq_normal ?_
         refine w_ret ?_
         refine k_blk_ret ?_
         refine k_seq_ret ?_
         rw [hp5, right5_6 (by omega)]
         exact ret1 rfl ev1 subx ⟨by first | (simp_all; done) | (rw [notIn_one (by omega)]; simp_all; done) | (rw [notIn_one (by omega)]; simp_all; omega) | (simp_all; omega), rfl⟩
       ·skip
        have h15' := h15; (try simp only [bb] at h15')
        refine w_skip ?_
        refine k_blk_normal ?_
        refine k_seq_normal ?_
        refine w_seq ?_
        refine w_region ?_
        refine l_cons rfl (p_assign ?_)
        refine l_nil ?_
        refine k_seq_normal ?_
        refine w_ret ?_
        rw [hp5, right5_0 (by omega)]
        exact ret1 rfl ev1 subx ⟨rfl, rfl⟩
theorem refMayR {w0 : World} {es : List Ent} (r : Rx) (hn : r.nodes ≤ 1048000) (ho : r.ok) : ACalls Tryd.prog w0 28 [.agg r.cells] es fun v es' => v = .int .i64 (mayR r) ∧ es' = es := by
 refine calls1 (N := 15) Tryd.func28 rfl rfl (by decide) ?_
 refine w_seq ?_
 refine w_region ?_
 refine l_cons rfl (p_box fun s1 => ?_)
 refine l_cons rfl (p_assign ?_)
 refine l_nil ?_
 refine k_seq_normal ?_
 refine w_seq ?_
 refine w_block ?_
 refine w_seq ?_
 refine w_region ?_
 refine l_cons rfl (p_loadp ty_29 ?_)
 refine l_cons rfl (p_callr en_34 (refNodes _ r _ (Nat.le_refl _) (by omega)) ?_)
 refine l_cons rfl (p_cmp ?_)
 refine l_cons rfl (p_assign ?_)
 refine l_nil ?_
 refine k_seq_normal ?_
 refine w_b (fun h1 => ?_) (fun h1 => ?_)
 ·skip
  have h1' := h1; (try simp only [bb] at h1')
  refine w_seq ?_
  refine w_region ?_
  refine l_cons rfl (p_assign ?_)
  refine l_nil ?_
  refine k_seq_normal ?_
  refine w_ret ?_
  refine k_blk_ret ?_
  refine k_seq_ret ?_
  exact ret1 rfl ev1 subx ⟨by unfold mayR; rw [if_pos (by omega)], rfl⟩
 ·skip
  have h1' := h1; (try simp only [bb] at h1')
  refine w_seq ?_
  refine w_region ?_
  refine l_cons rfl (p_loadp ty_29 ?_)
  refine l_cons rfl (p_callr en_73 (refDepth _ r _ (Nat.le_refl _) (by omega)) ?_)
  refine l_cons rfl (p_cmp ?_)
  refine l_cons rfl (p_assign ?_)
  refine l_nil ?_
  refine k_seq_normal ?_
  refine w_b (fun h2 => ?_) (fun h2 => ?_)
  ·skip
   have h2' := h2; (try simp only [bb] at h2')
   refine w_seq ?_
   refine w_region ?_
   refine l_cons rfl (p_assign ?_)
   refine l_nil ?_
   refine k_seq_normal ?_
   refine w_ret ?_
   refine k_blk_ret ?_
   refine k_seq_ret ?_
   exact ret1 rfl ev1 subx ⟨by unfold mayR; rw [if_neg (by omega), if_pos (by omega)], rfl⟩
  ·skip
   have h2' := h2; (try simp only [bb] at h2')
   refine w_seq ?_
   refine w_region ?_
   refine l_cons rfl (p_loadp ty_29 ?_)
   refine l_cons rfl (p_callr en_74 (refPlain _ r _ (Nat.le_refl _) hn ho) ?_)
   refine l_cons rfl (p_not ?_)
   refine l_cons rfl (p_assign ?_)
   refine l_nil ?_
   refine k_seq_normal ?_
   refine w_b (fun h3 => ?_) (fun h3 => ?_)
   ·skip
    have h3' := h3; (try simp only [bb] at h3')
    refine w_seq ?_
    refine w_region ?_
    refine l_cons rfl (p_assign ?_)
    refine l_nil ?_
    refine k_seq_normal ?_
    refine w_ret ?_
    refine k_blk_ret ?_
    refine k_seq_ret ?_
    exact ret1 rfl ev1 subx ⟨by unfold mayR; rw [if_neg (by omega), if_neg (by omega), if_neg (by rw [← r.plain_same ho]; simp_all)], rfl⟩
   ·skip
    have h3' := h3; (try simp only [bb] at h3')
    refine w_skip ?_
    refine k_blk_normal ?_
    refine k_seq_normal ?_
    refine w_seq ?_
    refine w_region ?_
    refine l_cons rfl (p_assign ?_)
    refine l_nil ?_
    refine k_seq_normal ?_
    refine w_ret ?_
    exact ret1 rfl ev1 subx ⟨by unfold mayR; rw [if_neg (by omega), if_neg (by omega), if_pos (by rw [← r.plain_same ho]; simp_all)], rfl⟩
end
section
/-! ### the machine of an expression -/
def stF (l : List Int) : St := ⟨0, 0, 0, 0, -1, l⟩
def st0 : St := stF []
def addFree (s : St) (j : Nat) : St := ⟨s.w0, s.w1, s.w2, s.w3, s.to, s.free ++ [(j : Int)]⟩
def bFree (ns : List St) (i j : Nat) : List St := match ns[i]? with
 | some s => ns.set i (addFree s j)
 | none => ns
theorem bFree_len (ns : List St) (i j : Nat) : (bFree ns i j).length = ns.length := by
 unfold bFree
 split
 ·rw [List.length_set]
 ·rfl
theorem bFree_eq {ns : List St} {i : Nat} (h : i < ns.length) (j : Nat) : bFree ns i j = ns.set i (addFree ns[i] j) := by
 unfold bFree
 rw [List.getElem?_eq_getElem h]
mutual
def bPart : Rx → List St → List St × Nat × Nat
 | .mk k s l, ns =>
  if k = 3 then (ns ++ [st0, ⟨s.w0, s.w1, s.w2, s.w3, (ns.length : Int), []⟩], ns.length + 1, ns.length)
  else if k = 4 then bCat l ns
  else if k = 5 then bAltGo l (ns ++ [st0]) none ns.length
  else if k = 6 then bStar l ns
  else if k = 2 then (bFree (ns ++ [st0, st0]) ns.length (ns.length + 1), ns.length, ns.length + 1)
  else (ns ++ [st0, st0], ns.length, ns.length + 1)
def bStar : List Rx → List St → List St × Nat × Nat
 | [], ns => (ns, 0, 0)
 | a :: _, ns => (bFree (bFree (bFree (bPart a (ns ++ [st0, st0])).1 ns.length (bPart a (ns ++ [st0, st0])).2.1) (bPart a (ns ++ [st0, st0])).2.2 ns.length) ns.length (ns.length + 1), ns.length, ns.length + 1)
def bCat : List Rx → List St → List St × Nat × Nat
 | [], ns => (ns, 0, 0)
 | a :: t, ns => bCatGo t (bPart a ns).1 (bPart a ns).2.1 (bPart a ns).2.2
def bCatGo : List Rx → List St → Nat → Nat → List St × Nat × Nat
 | [], ns, f, t => (ns, f, t)
 | a :: r, ns, f, t => bCatGo r (bFree (bPart a ns).1 t (bPart a ns).2.1) f (bPart a ns).2.2
def bAltGo : List Rx → List St → Option (Nat × Nat) → Nat → List St × Nat × Nat
 | [], ns, fl, t => (ns, (fl.getD (0, 0)).1, t)
 | a :: r, ns, none, t => bAltGo r (bFree (bPart a ns).1 (bPart a ns).2.2 t ++ [stF [((bPart a ns).2.1 : Int)]]) (some ((bPart a ns).1.length, (bPart a ns).1.length)) t
 | a :: r, ns, some (f, l), t => bAltGo r (bFree (bFree (bPart a ns).1 (bPart a ns).2.2 t ++ [stF [((bPart a ns).2.1 : Int)]]) l (bPart a ns).1.length) (some (f, (bPart a ns).1.length)) t
end
/-- How great a machine is: its states, and their ways. -/
def wt (ns : List St) : Nat := ns.length + (ns.map fun s => s.free.length).sum
theorem wt_append (a b : List St) : wt (a ++ b) = wt a + wt b := by
 unfold wt
 rw [List.length_append, List.map_append, List.sum_append]
 omega
theorem wt_free (ns : List St) (i j : Nat) : wt (bFree ns i j) ≤ wt ns + 1 := by
 by_cases h : i < ns.length
 ·rw [bFree_eq h]
  unfold wt
  rw [List.length_set]
  have : ∀ (l : List St) (i : Nat) (h : i < l.length) (s : St), ((l.set i s).map fun s => s.free.length).sum + l[i].free.length = (l.map fun s => s.free.length).sum + s.free.length := by
   intro l
   induction l with
   | nil => intro i h; simp at h
   | cons a t ih =>
    intro i h s
    cases i with
    | zero => simp; omega
    | succ i =>
     have := ih i (by simpa using h) s
     simp only [List.set_cons_succ, List.map_cons, List.sum_cons, List.getElem_cons_succ]
     omega
  have h2 := this ns i h (addFree ns[i] j)
  simp only [addFree, List.length_append, List.length_cons, List.length_nil] at h2
  simp only [addFree]
  omega
 ·unfold bFree
  rw [List.getElem?_eq_none (by omega)]
  simp only
  omega
theorem wt_st0 : wt [st0] = 1 := rfl
theorem wt_st00 : wt [st0, st0] = 2 := rfl
/-- Whatever must have a part has one. -/
def okArgs (k : Int) (l : List Rx) : Prop := (k = 4 → l ≠ []) ∧ (k = 5 → l ≠ []) ∧ (k = 6 → l ≠ [])
mutual
def Rx.fit : Rx → Prop
 | .mk k _ l => okArgs k l ∧ Rx.fitL l
def Rx.fitL : List Rx → Prop
 | [] => True
 | r :: t => r.fit ∧ Rx.fitL t
end
/-- What is so of each step of the building. -/
structure Built (ns : List St) (B : Nat) (p : List St × Nat × Nat) : Prop where
 len : ns.length ≤ p.1.length
 f : p.2.1 < p.1.length
 t : p.2.2 < p.1.length
 wt : wt p.1 ≤ wt ns + B
mutual
theorem built_part : ∀ (r : Rx) (ns : List St), r.fit → Built ns (8 * r.nodes - 4) (bPart r ns)
 | .mk k s l, ns, h => by
  simp only [Rx.fit] at h
  simp only [bPart, Rx.nodes]
  split
  ·refine ⟨by simp, by simp, by simp, ?_⟩
   rw [wt_append]
   have : wt [st0, ⟨s.w0, s.w1, s.w2, s.w3, (ns.length : Int), []⟩] = 2 := rfl
   omega
  ·split
   ·rename_i hk
    have := built_cat l ns h.2 (h.1.1 hk)
    exact ⟨this.len, this.f, this.t, by have := this.wt; omega⟩
   ·split
    ·rename_i hk
     have := built_alt l (ns ++ [st0]) none ns.length h.2 (by simp) (.inl (h.1.2.1 hk)) (fun f l e => by cases e)
     have h2 := this.len
     rw [List.length_append] at h2
     refine ⟨by simp at h2; omega, this.f, this.t, ?_⟩
     have h3 := this.wt
     rw [wt_append, wt_st0] at h3
     omega
    ·split
     ·rename_i hk
      have := built_star l ns h.2 (h.1.2.2 hk)
      exact ⟨this.len, this.f, this.t, by have := this.wt; omega⟩
     ·split
      ·refine ⟨by simp [bFree_len], by simp [bFree_len], by simp [bFree_len], ?_⟩
       have := wt_free (ns ++ [st0, st0]) ns.length (ns.length + 1)
       rw [wt_append, wt_st00] at this
       simp only
       omega
      ·refine ⟨by simp, by simp, by simp, ?_⟩
       rw [wt_append, wt_st00]
       omega
theorem built_star : ∀ (l : List Rx) (ns : List St), Rx.fitL l → l ≠ [] → Built ns (8 * Rx.nodesL l + 4) (bStar l ns)
 | [], ns, _, h => absurd rfl h
 | a :: t, ns, h, _ => by
  simp only [Rx.fitL] at h
  have p := built_part a (ns ++ [st0, st0]) h.1
  have hnp := a.nodes_pos
  have h1 := p.len
  have h2 := p.wt
  rw [wt_append, wt_st00] at h2
  simp only [List.length_append, List.length_cons, List.length_nil] at h1
  simp only [bStar, Rx.nodesL]
  refine ⟨by simp only [bFree_len]; omega, by simp only [bFree_len]; omega, by simp only [bFree_len]; omega, ?_⟩
  simp only
  have w1 := wt_free (bPart a (ns ++ [st0, st0])).1 ns.length (bPart a (ns ++ [st0, st0])).2.1
  have w2 := wt_free (bFree (bPart a (ns ++ [st0, st0])).1 ns.length (bPart a (ns ++ [st0, st0])).2.1) (bPart a (ns ++ [st0, st0])).2.2 ns.length
  have w3 := wt_free (bFree (bFree (bPart a (ns ++ [st0, st0])).1 ns.length (bPart a (ns ++ [st0, st0])).2.1) (bPart a (ns ++ [st0, st0])).2.2 ns.length) ns.length (ns.length + 1)
  omega
theorem built_cat : ∀ (l : List Rx) (ns : List St), Rx.fitL l → l ≠ [] → Built ns (8 * Rx.nodesL l) (bCat l ns)
 | [], ns, _, h => absurd rfl h
 | a :: t, ns, h, _ => by
  simp only [Rx.fitL] at h
  have p := built_part a ns h.1
  have hnp := a.nodes_pos
  have q := built_catGo t (bPart a ns).1 (bPart a ns).2.1 (bPart a ns).2.2 h.2 p.f p.t
  simp only [bCat, Rx.nodesL, List.length_cons]
  exact ⟨Nat.le_trans p.len q.len, q.f, q.t, by have := p.wt; have := q.wt; omega⟩
theorem built_catGo : ∀ (l : List Rx) (ns : List St) (f t : Nat), Rx.fitL l → f < ns.length → t < ns.length → Built ns (8 * Rx.nodesL l) (bCatGo l ns f t)
 | [], ns, f, t, _, hf, ht => by simp only [bCatGo]; exact ⟨Nat.le_refl _, hf, ht, Nat.le_add_right _ _⟩
 | a :: r, ns, f, t, h, hf, ht => by
  simp only [Rx.fitL] at h
  have p := built_part a ns h.1
  have hnp := a.nodes_pos
  have h1 := p.len
  have h2 := p.f
  have h3 := p.t
  have q := built_catGo r (bFree (bPart a ns).1 t (bPart a ns).2.1) f (bPart a ns).2.2 h.2 (by rw [bFree_len]; omega) (by rw [bFree_len]; omega)
  simp only [bCatGo, Rx.nodesL, List.length_cons]
  have h4 := q.len
  rw [bFree_len] at h4
  have w1 := wt_free (bPart a ns).1 t (bPart a ns).2.1
  exact ⟨by omega, q.f, q.t, by have := p.wt; have := q.wt; omega⟩
theorem built_alt : ∀ (l : List Rx) (ns : List St) (fl : Option (Nat × Nat)) (t : Nat), Rx.fitL l → t < ns.length → (l ≠ [] ∨ fl ≠ none) → (∀ f l, fl = some (f, l) → f < ns.length ∧ l < ns.length) → Built ns (8 * Rx.nodesL l) (bAltGo l ns fl t)
 | [], ns, fl, t, _, ht, he, hfl => by
  simp only [bAltGo]
  match fl, he, hfl with
  | none, he, _ => simp at he
  | some (f, l), _, hfl => exact ⟨Nat.le_refl _, (hfl f l rfl).1, ht, Nat.le_add_right _ _⟩
 | a :: r, ns, none, t, h, ht, _, _ => by
  simp only [Rx.fitL] at h
  have p := built_part a ns h.1
  have hnp := a.nodes_pos
  have h1 := p.len
  have q := built_alt r (bFree (bPart a ns).1 (bPart a ns).2.2 t ++ [stF [((bPart a ns).2.1 : Int)]]) (some ((bPart a ns).1.length, (bPart a ns).1.length)) t h.2 (by simp [bFree_len]; omega) (.inr (by simp)) (fun f l e => by
   simp only [Option.some.injEq, Prod.mk.injEq] at e
   obtain ⟨rfl, rfl⟩ := e
   simp [bFree_len])
  simp only [bAltGo, Rx.nodesL, List.length_cons]
  have h4 := q.len
  simp only [List.length_append, bFree_len, List.length_cons, List.length_nil] at h4
  have h5 := q.wt
  rw [wt_append] at h5
  have w1 := wt_free (bPart a ns).1 (bPart a ns).2.2 t
  have w2 : wt [stF [((bPart a ns).2.1 : Int)]] = 2 := rfl
  exact ⟨by omega, q.f, q.t, by have := p.wt; omega⟩
 | a :: r, ns, some (f0, l0), t, h, ht, _, hfl => by
  simp only [Rx.fitL] at h
  have p := built_part a ns h.1
  have hnp := a.nodes_pos
  have h1 := p.len
  obtain ⟨g1, g2⟩ := hfl f0 l0 rfl
  have q := built_alt r (bFree (bFree (bPart a ns).1 (bPart a ns).2.2 t ++ [stF [((bPart a ns).2.1 : Int)]]) l0 (bPart a ns).1.length) (some (f0, (bPart a ns).1.length)) t h.2 (by simp [bFree_len]; omega) (.inr (by simp)) (fun f l e => by
   simp only [Option.some.injEq, Prod.mk.injEq] at e
   obtain ⟨rfl, rfl⟩ := e
   simp [bFree_len]; omega)
  simp only [bAltGo, Rx.nodesL, List.length_cons]
  have h4 := q.len
  simp only [List.length_append, bFree_len, List.length_cons, List.length_nil] at h4
  have h5 := q.wt
  have w0 := wt_free (bFree (bPart a ns).1 (bPart a ns).2.2 t ++ [stF [((bPart a ns).2.1 : Int)]]) l0 (bPart a ns).1.length
  rw [wt_append] at w0
  have w1 := wt_free (bPart a ns).1 (bPart a ns).2.2 t
  have w2 : wt [stF [((bPart a ns).2.1 : Int)]] = 2 := rfl
  exact ⟨by omega, q.f, q.t, by have := p.wt; omega⟩
end
mutual
theorem plain_fit : ∀ r : Rx, r.plain = true → r.fit
 | .mk k s l, h => by
  simp only [Rx.plain, Bool.and_eq_true] at h
  simp only [Rx.fit]
  refine ⟨⟨fun hk => ?_, fun hk => ?_, fun hk => ?_⟩, plain_fitL l h.2⟩
  ·subst hk; have := h.1; simp [right] at this; intro e; simp [e] at this
  ·subst hk; have := h.1; simp [right] at this; intro e; simp [e] at this
  ·subst hk; have := h.1; simp [right] at this; intro e; simp [e] at this
theorem plain_fitL : ∀ l : List Rx, Rx.plainL l = true → Rx.fitL l
 | [], _ => by simp [Rx.fitL]
 | r :: t, h => by
  simp only [Rx.plainL, Bool.and_eq_true] at h
  simp only [Rx.fitL]
  exact ⟨plain_fit r h.1, plain_fitL t h.2⟩
end
end
section
open Go.RowKit
/-! ### the builder's rows -/
def bRow (s : St) (m : Nat × Nat) : List AV := [.int .u64 s.w0, .int .u64 s.w1, .int .u64 s.w2, .int .u64 s.w3, .int .i64 s.to, .own m.1 m.2]
def bRows (ns : List St) (ms : List (Nat × Nat)) : List (List AV) := List.zipWith bRow ns ms
def frow (l : List Int) : List (List AV) := l.map fun n => [.int .i64 n]
def ids (ib iS : Nat) (ms : List (Nat × Nat)) : List Nat := ib :: iS :: ms.map Prod.fst
structure BI (es : List Ent) (ib sb iS sS : Nat) (ms : List (Nat × Nat)) (ns : List St) : Prop where
 b : at_ es ib = some (.row sb 94 1 [[.own iS sS]])
 s : at_ es iS = some (.row sS 75 6 (bRows ns ms))
 len : ms.length = ns.length
 f : ∀ k (h1 : k < ns.length) (h2 : k < ms.length), at_ es ms[k].1 = some (.row ms[k].2 3 1 (frow ns[k].free))
 nd : (ids ib iS ms).Nodup
def BF (es : List Ent) (ib sb : Nat) (F : List Nat) (ns : List St) : Prop := ∃ iS sS ms, BI es ib sb iS sS ms ns ∧ F = ids ib iS ms
/-- From es on to es', where the builder has ns: its rows were F, are F'. -/
structure BG (es es' : List Ent) (ib sb : Nat) (F F' : List Nat) (ns : List St) : Prop where
 bf : BF es' ib sb F' ns
 keep : ∀ id, id ∉ F → id < es.length → at_ es' id = at_ es id ∧ id ∉ F'
 len : es.length ≤ es'.length
theorem BF.lt {es : List Ent} {ib sb : Nat} {F : List Nat} {ns : List St} (h : BF es ib sb F ns) : ∀ id ∈ F, id < es.length := by
 obtain ⟨iS, sS, ms, hb, rfl⟩ := h
 intro id hid
 simp only [ids, List.mem_cons, List.mem_map] at hid
 rcases hid with rfl | rfl | ⟨m, hm, rfl⟩
 ·exact at_lt hb.b
 ·exact at_lt hb.s
 ·obtain ⟨k, hk, rfl⟩ := List.mem_iff_getElem.1 hm
  exact at_lt (hb.f k (by have := hb.len; omega) hk)
theorem BI.push {es : List Ent} {ib sb iS sS : Nat} {ms : List (Nat × Nat)} {ns : List St} (x : Ent) (h : BI es ib sb iS sS ms ns) : BI (x :: es) ib sb iS sS ms ns :=
 ⟨at_miss _ h.b, at_miss _ h.s, h.len, fun k h1 h2 => at_miss _ (h.f k h1 h2), h.nd⟩
theorem BF.push {es : List Ent} {ib sb : Nat} {F : List Nat} {ns : List St} (x : Ent) (h : BF es ib sb F ns) : BF (x :: es) ib sb F ns := by
 obtain ⟨iS, sS, ms, hb, rfl⟩ := h
 exact ⟨iS, sS, ms, hb.push x, rfl⟩
theorem at_push {es : List Ent} {id : Nat} (x : Ent) (h : id < es.length) : at_ (x :: es) id = at_ es id := by
 simp only [at_]
 rw [if_neg (by omega)]
theorem BG.refl {es : List Ent} {ib sb : Nat} {F : List Nat} {ns : List St} (h : BF es ib sb F ns) : BG es es ib sb F F ns := ⟨h, fun _ hid _ => ⟨rfl, hid⟩, Nat.le_refl _⟩
theorem BG.trans {es1 es2 es3 : List Ent} {ib sb : Nat} {F1 F2 F3 : List Nat} {n2 n3 : List St} (h : BG es1 es2 ib sb F1 F2 n2) (k : BG es2 es3 ib sb F2 F3 n3) : BG es1 es3 ib sb F1 F3 n3 := by
 refine ⟨k.bf, fun id hid hl => ?_, Nat.le_trans h.len k.len⟩
 obtain ⟨a1, a2⟩ := h.keep id hid hl
 obtain ⟨b1, b2⟩ := k.keep id a2 (Nat.lt_of_lt_of_le hl h.len)
 exact ⟨b1.trans a1, b2⟩
/-- The same, seen from below. -/
theorem BG.pop {x : Ent} {es es' : List Ent} {ib sb : Nat} {F F' : List Nat} {ns : List St} (h : BG (x :: es) es' ib sb F F' ns) : BG es es' ib sb F F' ns := by
 refine ⟨h.bf, fun id hid hl => ?_, by have := h.len; simp only [List.length_cons] at this; omega⟩
 obtain ⟨a1, a2⟩ := h.keep id hid (by simp only [List.length_cons]; omega)
 exact ⟨a1.trans (at_push x hl), a2⟩
theorem BG.top {x : Ent} {es es' : List Ent} {ib sb : Nat} {F F' : List Nat} {ns n0 : List St} (h0 : BF es ib sb F n0) (h : BG (x :: es) es' ib sb F F' ns) : at_ es' es.length = some x ∧ es.length ∉ F' := by
 obtain ⟨a1, a2⟩ := h.keep es.length (fun hm => absurd (h0.lt _ hm) (Nat.lt_irrefl _)) (by simp)
 exact ⟨a1.trans (at_hit _ _), a2⟩
/-- What is pushed on top is not the builder's. -/
theorem BG.up {es es' : List Ent} {ib sb : Nat} {F F' : List Nat} {ns : List St} (x : Ent) (h : BG es es' ib sb F F' ns) : BG es (x :: es') ib sb F F' ns := by
 refine ⟨h.bf.push x, fun id hid hl => ?_, by have := h.len; simp only [List.length_cons]; omega⟩
 obtain ⟨a1, a2⟩ := h.keep id hid hl
 exact ⟨(at_push x (Nat.lt_of_lt_of_le hl h.len)).trans a1, a2⟩
end
section
open Go.RowKit
/-! ### all of the builder's rows are written no more -/
def killAll : List Nat → List Ent → List Ent
 | [], es => es
 | id :: t, es => killAll t (setAt es id .dead)
def freezeAll : List Nat → Core → Core
 | [], c => c
 | id :: t, c => freezeAll t (c.freeze id)
theorem killAll_at : ∀ {F : List Nat} {es : List Ent} {id : Nat}, id ∉ F → at_ (killAll F es) id = at_ es id
 | [], _, _, _ => rfl
 | x :: t, es, id, h => by
  simp only [List.mem_cons, not_or] at h
  simp only [killAll]
  rw [killAll_at h.2, at_setAt_ne _ h.1]
theorem freezeAll_same : ∀ (F : List Nat) (c : Core), (freezeAll F c).w = c.w ∧ (freezeAll F c).phi = c.phi ∧ (freezeAll F c).now = c.now ∧ (∀ b, c.fro b → (freezeAll F c).fro b) ∧ ∀ id ∈ F, ∀ b cap, c.phi id = some (b, cap) → (freezeAll F c).fro b
 | [], c => ⟨rfl, rfl, rfl, fun _ h => h, fun _ h => by simp at h⟩
 | x :: t, c => by
  obtain ⟨h1, h2, h3, h4, h5⟩ := freezeAll_same t (c.freeze x)
  refine ⟨h1, h2, h3, fun b hb => h4 b (.inl hb), fun id hid b cap hp => ?_⟩
  rcases List.mem_cons.1 hid with rfl | hid
  ·exact h4 b (.inr ⟨cap, hp⟩)
  ·exact h5 id hid b cap hp
theorem ok_freezeAll {w0 : World} : ∀ {F : List Nat} {c : Core} {es : List Ent}, Ok w0 c es → F.Nodup → (∀ id ∈ F, ∃ s e sz rows, at_ es id = some (.row s e sz rows)) → Ok w0 (freezeAll F c) (killAll F es) ∧ Ext c es (freezeAll F c) (killAll F es)
 | [], c, es, h, _, _ => ⟨h, Ext.refl c es⟩
 | x :: t, c, es, h, hn, hr => by
  rw [List.nodup_cons] at hn
  obtain ⟨s, e, sz, rows, hx⟩ := hr x (by simp)
  have ok1 := ok_freeze h hx
  obtain ⟨h1, h2⟩ := ok_freezeAll (F := t) ok1 hn.2 (fun id hid => by
   obtain ⟨s2, e2, sz2, r2, h3⟩ := hr id (by simp [hid])
   exact ⟨s2, e2, sz2, r2, by rw [at_setAt_ne _ (fun (e : id = x) => hn.1 (e ▸ hid))]; exact h3⟩)
  exact ⟨h1, (ext_freeze x).trans h2⟩
/-- A row that is written no more, told al' a list. -/
theorem rep_listOf {w0 : World} {c c' : Core} {es : List Ent} (k : Ok w0 c es) {id s e sz : Nat} {rows rows' : List (List AV)} (hid : at_ es id = some (.row s e sz rows)) (hl : rows'.length = rows.length)
  (hw : c'.w = c.w) (hf : ∀ b cap, c.phi id = some (b, cap) → c'.fro b) (hr : ∀ xs, RepRows c (some es) sz rows xs → RepRows c' none sz rows' xs) (m : Option (List Ent)) : Rep c' m (.list sz rows') (ownVal (c.phi id) rows.length) := by
 obtain ⟨_, hm, _, xs, h4, h5⟩ := k.ent id _ hid
 have h4' := hr xs h4
 simp only [Rep]
 cases hp : c.phi id with
 | none =>
  rw [hp] at h5
  rcases h5.2 with ⟨_, h6⟩ | ⟨g, cap, cur, h6, _⟩
  ·have hr0 : rows = [] := List.eq_nil_of_length_eq_zero h6
   have hr1 : rows' = [] := List.eq_nil_of_length_eq_zero (by omega)
   subst hr0
   subst hr1
   refine ⟨none, 0, [], rfl, Nat.le_refl _, Nat.zero_le _, by simp only [RepRows], fun hv => absurd rfl hv⟩
  ·cases h6
 | some y =>
  obtain ⟨g, cap⟩ := y
  rw [hp] at h5
  rcases h5.2 with ⟨h6, _⟩ | ⟨g', cap', cur, h6, _, h7, h8, _, _, _⟩
  ·cases h6
  ·injection h6 with h6 h6' h6''
   injection h6 with h6
   injection h6 with h6
   subst h6 h6''
   refine ⟨some ⟨g, 0, none⟩, cap, xs, by rw [hl]; rfl, by omega, by omega, h4', fun hv => ⟨g, 0, rfl, hf g cap hp, fun j hj => ?_⟩⟩
   have := h5.cells (g := g) rfl j _ (List.getElem?_eq_getElem hj)
   rw [Nat.zero_add, List.getElem?_eq_getElem hj, ← this, hw]
   show c.w.cell? _ = c.w.cell? _
   congr 1
   unfold Addr.add
   split <;> simp_all
section
variable {P : Program} {w0 : World} {N : Nat} {ops : Array Oper} {rest : List Oper} {f : Frame} {es : List Ent} {K : Frame → List Ent → Prop}
theorem BI.rows {ib sb iS sS : Nat} {ms : List (Nat × Nat)} {ns : List St} (h : BI es ib sb iS sS ms ns) : ∀ id ∈ ids ib iS ms, ∃ s e sz rows, at_ es id = some (.row s e sz rows) := by
 intro id hid
 simp only [ids, List.mem_cons, List.mem_map] at hid
 rcases hid with rfl | rfl | ⟨m, hm, rfl⟩
 ·exact ⟨_, _, _, _, h.b⟩
 ·exact ⟨_, _, _, _, h.s⟩
 ·obtain ⟨k, hk, rfl⟩ := List.mem_iff_getElem.1 hm
  exact ⟨_, _, _, _, h.f k (by have := h.len; omega) hk⟩
theorem sub_of {es es' : List Ent} (h : ∀ id, id < es.length → at_ es' id = at_ es id) : Sub es es' := fun id x _ hr => by rw [h id (at_lt hr)]; exact hr
end
end
set_option maxRecDepth 8000
section
open Go.RowKit Go.Proofs
end
set_option maxRecDepth 8000
section
open Go.RowKit Go.Proofs
/-- What part answers, of expressions that are not greater than B. -/
def PartOk (w0 : World) (B : Nat) : Prop := ∀ (r : Rx) (es : List Ent) (ib sb : Nat) (F : List Nat) (ns : List St), r.nodes ≤ B → r.fit → BF es ib sb F ns → wt ns + 8 * r.nodes ≤ 1000000000 →
 ACalls Tryd.prog w0 72 [.ptr ib sb 0 0, .agg r.cells] es fun v es' => v = .tup [.int .i64 ((bPart r ns).2.1 : Int), .int .i64 ((bPart r ns).2.2 : Int)] ∧ ∃ F', BG es es' ib sb F F' (bPart r ns).1
def lastOf : Option (Nat × Nat) → Int
 | none => -1
 | some p => p.2
end
set_option maxRecDepth 8000
section
open Go.RowKit Go.Proofs
end
set_option maxRecDepth 8000
section
open Go.RowKit Go.Proofs
/-- The machine of an expression, if it may be. -/
def buildN (r : Rx) : Nf := if mayR r = 0 then ⟨(bPart r []).1, ((bPart r []).2.1 : Int), ((bPart r []).2.2 : Int)⟩ else ⟨[], 0, 0⟩
end
section
/-! ### expressions out of numbers -/
theorem mem_filt {α : Type} {p : α → Bool} {l : List α} {x : α} (h : x ∈ l.filter p) : x ∈ l := (List.mem_filter.1 h).1
def starN : Nat → Rx → Rx
 | 0, r => r
 | n + 1, r => if r.kind = 6 then r else if r.kind = 1 ∨ r.kind = 2 then emptyR else if r.kind = 5 ∧ (catOuts r.args).length < r.args.length then starN n (altR (catOuts r.args)) else .mk 6 noSet [r]
def starR (r : Rx) : Rx := starN 2000 r
/-- The next number, and what is left. -/
def num (m : Int) (q : List Int) : Int := (q.headD 0) % m
def rangeW (a b : Int) : W4 := ofW (((List.range 256).filter fun i : Nat => decide (a ≤ (i : Int)) && decide ((i : Int) ≤ b)).map Int.ofNat)
def notW (s : W4) : W4 := ofW (((List.range 256).filter fun i => !(s.has i)).map Int.ofNat)
def pSet (q : List Int) : W4 × List Int :=
 if num 8 q = 0 then (rangeW 97 100, q.tail)
 else if num 8 q = 1 then (rangeW (num 256 q.tail) (num 256 q.tail.tail), q.tail.tail.tail)
 else if num 8 q = 2 then (notW (ofW [97 + num 4 q.tail]), q.tail.tail)
 else if num 8 q = 3 then (ofW [97 + num 4 q.tail, 97 + num 4 q.tail.tail, num 256 q.tail.tail.tail], q.tail.tail.tail.tail)
 else if num 8 q = 4 then (rangeW 0 255, q.tail)
 else (ofW [97 + num 4 q.tail], q.tail.tail)
def pLeaf (k : Int) (q : List Int) : Rx × List Int :=
 if q = [] ∨ 0 < k then (bytesR (pSet q).1, (pSet q).2) else (if num 3 q = 0 then noneR else emptyR, q.tail)
def pRx : Nat → List Int → Rx × List Int
 | 0, q => pLeaf (num 9 q) q.tail
 | f + 1, q =>
  if q.tail = [] ∨ num 9 q < 3 then pLeaf (num 9 q) q.tail
  else if num 9 q = 3 ∨ num 9 q = 4 ∨ num 9 q = 5 then (catR [(pRx f q.tail).1, (pRx f (pRx f q.tail).2).1], (pRx f (pRx f q.tail).2).2)
  else if num 9 q = 6 ∨ num 9 q = 7 then (altR [(pRx f q.tail).1, (pRx f (pRx f q.tail).2).1], (pRx f (pRx f q.tail).2).2)
  else (starR (pRx f q.tail).1, (pRx f q.tail).2)
def pByte (q : List Int) : Int × List Int := if num 8 q = 0 then (num 256 q.tail, q.tail.tail) else (97 + num 4 q.tail, q.tail.tail)
def pWordGo : Nat → List Int → List Int
 | 0, _ => []
 | n + 1, q => (pByte q).1 :: pWordGo n (pByte q).2
def pWordQ : Nat → List Int → List Int
 | 0, q => q
 | n + 1, q => pWordQ n (pByte q).2
def pWord (most : Nat) (q : List Int) : List Int := pWordGo (num (most + 1) q).toNat q.tail
def bytesOk (l : List Int) : Prop := ∀ b ∈ l, 0 ≤ b ∧ b < 256
theorem num_range {q : List Int} {m : Int} (hm : 0 < m) : 0 ≤ num m q ∧ num m q < m := ⟨Int.emod_nonneg _ (by omega), Int.emod_lt_of_pos _ hm⟩
theorem bytesOk.tail {q : List Int} (h : bytesOk q) : bytesOk q.tail := fun b hb => h b (List.mem_of_mem_tail hb)
theorem ok_mkset {s : W4} (h : s.ok) : (Rx.mk 3 s []).ok := by simp [Rx.ok, Rx.oks, h]
theorem ok_none : noneR.ok := by simp [noneR, Rx.ok, Rx.oks, noSet_ok]
theorem ok_empty : emptyR.ok := by simp [emptyR, Rx.ok, Rx.oks, noSet_ok]
theorem ok_mk {k : Int} (hk : -9223372036854775808 ≤ k ∧ k < 9223372036854775808) {l : List Rx} (h : ∀ x ∈ l, x.ok) : (Rx.mk k noSet l).ok := by
 simp only [Rx.ok, Rx.oks_iff]
 exact ⟨hk, noSet_ok, h⟩
theorem catOf_ok {l : List Rx} (h : ∀ x ∈ l, x.ok) : (catOf l).ok := by
 match l, h with
 | [], _ => exact ok_empty
 | [x], h => exact h x (by simp)
 | x :: y :: t, h => exact ok_mk (by omega) h
theorem altOf_ok {l : List Rx} (h : ∀ x ∈ l, x.ok) : (altOf l).ok := by
 match l, h with
 | [], _ => exact ok_none
 | [x], h => exact h x (by simp)
 | x :: y :: t, h => exact ok_mk (by omega) h
theorem catR_ok {l : List Rx} (h : ∀ x ∈ l, x.ok) : (catR l).ok := by
 unfold catR
 split
 ·exact ok_none
 ·exact catOf_ok fun x hx => flat_ok h x (mem_filt hx)
theorem altFin_ok {o : List Rx} {s : W4} (h : ∀ x ∈ o, x.ok) (hs : s.ok) : ∀ x ∈ altFin o s, x.ok := by
 unfold altFin
 split
 ·exact h
 ·exact insR_ok h (ok_mkset hs)
theorem altR_ok {l : List Rx} (h : ∀ x ∈ l, x.ok) : (altR l).ok := by
 obtain ⟨h1, h2, h3⟩ := altOuts_inv (flatR 5 l) (flat_ok h) (flatR 5 l).length (Nat.le_refl _)
 rw [List.take_length] at h1 h3
 exact altOf_ok (altFin_ok h1 h3)
theorem catOf_nodes (l : List Rx) : (catOf l).nodes ≤ 1 + Rx.nodesL l := by
 match l with
 | [] => simp [catOf, emptyR, Rx.nodes, Rx.nodesL]
 | [x] => simp [catOf, Rx.nodesL]
 | x :: y :: t => simp only [catOf, Rx.nodes]; omega
theorem altOf_nodes (l : List Rx) : (altOf l).nodes ≤ 1 + Rx.nodesL l := by
 match l with
 | [] => simp [altOf, noneR, Rx.nodes, Rx.nodesL]
 | [x] => simp [altOf, Rx.nodesL]
 | x :: y :: t => simp only [altOf, Rx.nodes]; omega
theorem catR_nodes (l : List Rx) : (catR l).nodes ≤ 1 + Rx.nodesL l := by
 unfold catR
 split
 ·simp [noneR, Rx.nodes, Rx.nodesL]
 ·have h1 := catOf_nodes (catOuts (flatR 4 l))
  have h2 := catOuts_nodes (flatR 4 l)
  have h3 := flat_nodes 4 l
  unfold catOuts at h1 h2
  omega
/-- The sets that are laid together were there. -/
theorem altAll_nodes : ∀ (l : List Rx) (o : List Rx) (s : W4), Rx.nodesL (altOuts o l) + (if altSet s l = noSet then 0 else 1) ≤ Rx.nodesL o + (if s = noSet then 0 else 1) + Rx.nodesL l
 | [], o, s => by
  simp [altOuts, altSet, Rx.nodesL]
  exact Nat.le_refl _
 | r :: t, o, s => by
  have e1 : altOuts o (r :: t) = altOuts (if r.kind = 1 ∨ r.kind = 3 then o else insR o r) t := rfl
  have e2 : altSet s (r :: t) = altSet (if r.kind = 3 then s.or r.set else s) t := rfl
  have ih := altAll_nodes t (if r.kind = 1 ∨ r.kind = 3 then o else insR o r) (if r.kind = 3 then s.or r.set else s)
  have h1 := insR_nodes o r
  have h2 := r.nodes_pos
  rw [e1, e2]
  simp only [Rx.nodesL]
  by_cases h3 : r.kind = 3
  ·rw [if_pos (.inr h3), if_pos h3] at ih ⊢
   have : (if s.or r.set = noSet then 0 else 1) ≤ 1 := by split <;> omega
   omega
  ·rw [if_neg h3] at ih ⊢
   by_cases h4 : r.kind = 1 ∨ r.kind = 3
   ·rw [if_pos h4] at ih ⊢; omega
   ·rw [if_neg h4] at ih ⊢; omega
theorem altR_nodes (l : List Rx) : (altR l).nodes ≤ 1 + Rx.nodesL l := by
 unfold altR
 have h1 := altOf_nodes (altFin (altOuts [] (flatR 5 l)) (altSet noSet (flatR 5 l)))
 have h2 := altAll_nodes (flatR 5 l) [] noSet
 have h3 := flat_nodes 5 l
 simp only [if_true, Rx.nodesL] at h2
 unfold altFin at h1 ⊢
 split at h1
 ·rename_i h
  rw [if_pos h] at h2 ⊢
  omega
 ·rename_i h
  rw [if_neg h] at h2 ⊢
  have h4 := insR_nodes (altOuts [] (flatR 5 l)) (.mk 3 (altSet noSet (flatR 5 l)) [])
  simp only [Rx.nodes, Rx.nodesL] at h4
  omega
theorem catOuts_mem {l : List Rx} {x : Rx} (h : x ∈ catOuts l) : x ∈ l := mem_filt h
theorem catOuts_less : ∀ {l : List Rx}, (catOuts l).length < l.length → Rx.nodesL (catOuts l) < Rx.nodesL l
 | [], h => by simp [catOuts] at h
 | a :: t, h => by
  unfold catOuts at h ⊢
  rw [List.filter_cons] at h ⊢
  have ha := a.nodes_pos
  have hle := catOuts_nodes t
  unfold catOuts at hle
  split
  ·rename_i hk
   rw [if_pos hk] at h
   have := catOuts_less (l := t) (by unfold catOuts; simpa using h)
   unfold catOuts at this
   simp only [Rx.nodesL]
   omega
  ·simp only [Rx.nodesL]
   omega
theorem starN_ok : ∀ (n : Nat) {r : Rx}, r.ok → (starN n r).ok
 | 0, r, h => h
 | n + 1, r, h => by
  simp only [starN]
  split
  ·exact h
  ·split
   ·exact ok_empty
   ·split
    ·exact starN_ok n (altR_ok fun x hx => h.args x (catOuts_mem hx))
    ·exact ok_mk (by omega) (by simpa using h)
theorem starN_nodes : ∀ (n : Nat) (r : Rx), (starN n r).nodes ≤ r.nodes + 1
 | 0, r => by simp [starN]
 | n + 1, r => by
  simp only [starN]
  split
  ·omega
  ·split
   ·simp [emptyR, Rx.nodes, Rx.nodesL]
   ·split
    ·rename_i h
     have h1 := starN_nodes n (altR (catOuts r.args))
     have h2 := altR_nodes (catOuts r.args)
     have h3 := catOuts_less h.2
     have h4 := r.nodes_eq
     omega
    ·simp [Rx.nodes, Rx.nodesL]; omega
theorem starR_ok {r : Rx} (h : r.ok) : (starR r).ok := starN_ok 2000 h
theorem starR_nodes (r : Rx) : (starR r).nodes ≤ r.nodes + 1 := starN_nodes 2000 r
theorem filt_ok (p : Nat → Bool) : ∀ b ∈ ((List.range 256).filter p).map Int.ofNat, 0 ≤ b ∧ b < 256 := by
 intro b hb
 obtain ⟨i, hi, rfl⟩ := List.mem_map.1 hb
 have := List.mem_range.1 (mem_filt hi)
 exact ⟨Int.natCast_nonneg _, by show (i : Int) < 256; omega⟩
theorem rangeW_ok (a b : Int) : (rangeW a b).ok := ofW_ok (filt_ok _)
theorem notW_ok (s : W4) : (notW s).ok := ofW_ok (filt_ok _)
theorem ofW_one {b : Int} (h0 : 0 ≤ b) (h1 : b < 256) : (ofW [b]).ok := ofW_ok fun x hx => by
 simp only [List.mem_cons, List.not_mem_nil, or_false] at hx
 omega
theorem ofW_three {a b c : Int} (h0 : 0 ≤ a ∧ a < 256) (h1 : 0 ≤ b ∧ b < 256) (h2 : 0 ≤ c ∧ c < 256) : (ofW [a, b, c]).ok := ofW_ok fun x hx => by
 simp only [List.mem_cons, List.not_mem_nil, or_false] at hx
 omega
theorem pSet_ok {q : List Int} (hq : bytesOk q) : (pSet q).1.ok ∧ bytesOk (pSet q).2 := by
 have n4 : ∀ q : List Int, 0 ≤ num 4 q ∧ num 4 q < 4 := fun q => num_range (by omega)
 have n256 : ∀ q : List Int, 0 ≤ num 256 q ∧ num 256 q < 256 := fun q => num_range (by omega)
 have h1 := n4 q.tail
 have h2 := n4 q.tail.tail
 have h3 := n256 q.tail.tail.tail
 unfold pSet
 split
 ·exact And.intro (rangeW_ok 97 100) hq.tail
 ·split
  ·exact And.intro (rangeW_ok (num 256 q.tail) (num 256 q.tail.tail)) hq.tail.tail.tail
  ·split
   ·exact And.intro (notW_ok (ofW [97 + num 4 q.tail])) hq.tail.tail
   ·split
    ·exact And.intro (ofW_three (a := 97 + num 4 q.tail) (b := 97 + num 4 q.tail.tail) (c := num 256 q.tail.tail.tail) (by omega) (by omega) h3) hq.tail.tail.tail.tail
    ·split
     ·dsimp only
      have h9 := rangeW_ok 0 255
      generalize rangeW 0 255 = z at h9 ⊢
      exact ⟨h9, hq.tail⟩
     ·exact And.intro (ofW_one (b := 97 + num 4 q.tail) (by omega) (by omega)) hq.tail.tail
theorem bytesR_nodes (s : W4) : (bytesR s).nodes = 1 := by
 unfold bytesR
 split <;> simp [noneR, Rx.nodes, Rx.nodesL]
theorem pLeaf_ok {k : Int} {q : List Int} (hq : bytesOk q) : (pLeaf k q).1.ok ∧ bytesOk (pLeaf k q).2 ∧ (pLeaf k q).1.nodes = 1 := by
 obtain ⟨h1, h2⟩ := pSet_ok hq
 unfold pLeaf
 split
 ·exact ⟨bytesR_ok h1, h2, bytesR_nodes _⟩
 ·refine ⟨?_, hq.tail, ?_⟩
  ·simp only; split
   ·exact ok_none
   ·exact ok_empty
  ·simp only; split <;> simp [noneR, emptyR, Rx.nodes, Rx.nodesL]
theorem pRx_ok : ∀ (f : Nat) {q : List Int}, bytesOk q → (pRx f q).1.ok ∧ bytesOk (pRx f q).2 ∧ (pRx f q).1.nodes + 1 ≤ 2 ^ (f + 1)
 | 0, q, hq => by
  obtain ⟨h1, h2, h3⟩ := pLeaf_ok (k := num 9 q) hq.tail
  simp only [pRx]
  exact ⟨h1, h2, by omega⟩
 | f + 1, q, hq => by
  obtain ⟨h1, h2, h3⟩ := pLeaf_ok (k := num 9 q) hq.tail
  obtain ⟨a1, a2, a3⟩ := pRx_ok f hq.tail
  obtain ⟨b1, b2, b3⟩ := pRx_ok f a2
  have e : 2 ^ (f + 1 + 1) = 2 * 2 ^ (f + 1) := by rw [Nat.pow_succ]; omega
  have hp : 2 ≤ 2 ^ (f + 1) := by rw [Nat.pow_succ]; have := Nat.pos_of_ne_zero (show 2 ^ f ≠ 0 by simp); omega
  have hl : ∀ x ∈ [(pRx f q.tail).1, (pRx f (pRx f q.tail).2).1], x.ok := by
   intro x hx
   simp only [List.mem_cons, List.not_mem_nil, or_false] at hx
   rcases hx with rfl | rfl
   ·exact a1
   ·exact b1
  simp only [pRx]
  split
  ·exact ⟨h1, h2, by omega⟩
  ·split
   ·refine ⟨catR_ok hl, b2, ?_⟩
    have := catR_nodes [(pRx f q.tail).1, (pRx f (pRx f q.tail).2).1]
    simp only [Rx.nodesL] at this
    simp only
    omega
   ·split
    ·refine ⟨altR_ok hl, b2, ?_⟩
     have := altR_nodes [(pRx f q.tail).1, (pRx f (pRx f q.tail).2).1]
     simp only [Rx.nodesL] at this
     simp only
     omega
    ·dsimp only
     have h8 := starR_ok a1
     have h9 := starR_nodes (pRx f q.tail).1
     generalize starR (pRx f q.tail).1 = z at h8 h9 ⊢
     exact ⟨h8, a2, by omega⟩
theorem pByte_ok {q : List Int} (hq : bytesOk q) : 0 ≤ (pByte q).1 ∧ (pByte q).1 < 256 ∧ bytesOk (pByte q).2 := by
 have h1 := num_range (q := q.tail) (m := 4) (by omega)
 have h2 := num_range (q := q.tail) (m := 256) (by omega)
 unfold pByte
 split
 ·exact ⟨h2.1, h2.2, hq.tail.tail⟩
 ·exact ⟨by simp only; omega, by simp only; omega, hq.tail.tail⟩
theorem pWordGo_ok : ∀ (n : Nat) {q : List Int}, bytesOk q → bytesOk (pWordGo n q) ∧ (pWordGo n q).length = n
 | 0, _, _ => ⟨fun b hb => by simp [pWordGo] at hb, rfl⟩
 | n + 1, q, hq => by
  obtain ⟨h1, h2, h3⟩ := pByte_ok hq
  obtain ⟨h4, h5⟩ := pWordGo_ok n h3
  refine ⟨fun b hb => ?_, by simp [pWordGo, h5]⟩
  simp only [pWordGo, List.mem_cons] at hb
  rcases hb with rfl | hb
  ·exact ⟨h1, h2⟩
  ·exact h4 b hb
theorem pWord_ok {most : Nat} {q : List Int} (hq : bytesOk q) : bytesOk (pWord most q) ∧ (pWord most q).length ≤ most := by
 obtain ⟨h1, h2⟩ := pWordGo_ok (num (most + 1) q).toNat hq.tail
 have := num_range (q := q) (m := (most : Int) + 1) (by omega)
 refine ⟨h1, ?_⟩
 unfold pWord
 omega
end
end Go.Proofs.YtfdgbghlanbddaaDoor.Av
