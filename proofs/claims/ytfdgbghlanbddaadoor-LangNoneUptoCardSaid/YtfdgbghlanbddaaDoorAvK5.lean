import Derived.Test.YtfdgbghlanbddaaDoorAvK0
import Derived.Test.YtfdgbghlanbddaaDoorAvK1
import Derived.Test.YtfdgbghlanbddaaDoorAvK2
import Derived.Test.YtfdgbghlanbddaaDoorAvK3
import Derived.Test.YtfdgbghlanbddaaDoorAvK4
import Derived.Test.YtfdgbghlanbddaaDoorRows
import Derived.OpenVars
import Derived.Deep.Slices
import Derived.Deep.Strs
import Derived.OpenShut
set_option linter.unusedVariables false
set_option linter.unusedSimpArgs false
set_option maxRecDepth 8000
namespace Go.Proofs.YtfdgbghlanbddaaDoor.Av
open Go.RowKit Go.Proofs
theorem loc_top {x : Ent} {es : List Ent} {id : Nat} (h : id = es.length) : Loc (x :: es) id x (fun y => y :: es) := by
  subst h
  exact loc_hit

theorem First_walk {w0 : World} : ∀ (B : Nat) (r : Rx) (es : List Ent), r.nodes ≤ B → B ≤ 1048576 → r.ok → ACalls Tryd.prog w0 61 [.agg r.cells] es fun v es' => v = .agg r.first.row ∧ es' = es := by
  intro B
  induction B using Nat.strongRecOn with
  | _ B ih => ?_
  intro r es hB hB2 ho
  rw [Rx.cells_eq r]
  have hne := r.nodes_eq
  have hal := Rx.len_le r.args
  refine calls1 (N := 58) Tryd.func61 rfl rfl (by decide) ?_
  refine w_seq ?_
  refine w_region ?_
  refine l_cons rfl (p_box fun s1 => ?_)
  refine l_cons rfl (p_alloc ze_26 fun s2 => ?_)
  refine l_nil ?_
  refine k_seq_normal ?_
  refine w_seq ?_
  refine w_region ?_
  refine l_cons rfl (p_alloc ze_26 fun s3 => ?_)
  refine l_nil ?_
  refine k_seq_normal ?_
  refine w_seq ?_
  refine w_seq ?_
  refine w_region ?_
  refine l_cons rfl (p_fap fa_29_0 ?_)
  refine l_cons rfl (p_loadp ty_3 ?_)
  refine l_nil ?_
  refine k_seq_normal ?_
  refine w_block ?_
  refine w_seq ?_
  refine w_block ?_
  refine w_cut (fun f es' => (r.kind = 5 ∨ r.kind = 6 ∧ r.args.length = 1) ∧ es' = .row s3 26 4 [[.int .u64 0, .int .u64 0, .int .u64 0, .int .u64 0]] :: .row s2 26 4 [[.int .u64 0, .int .u64 0, .int .u64 0, .int .u64 0]] :: .row s1 29 6 [[.int .i64 r.kind, .int .u64 r.set.w0, .int .u64 r.set.w1, .int .u64 r.set.w2, .int .u64 r.set.w3, .list 6 (r.args.map Rx.cells)]] :: es ∧ Knows f [(1, .ptr es.length s1 0 0), (2, .ptr (es.length + 1) s2 0 0), (3, .ptr (es.length + 2) s3 0 0)]) ?_ ?_
  · skip
    refine w_block ?_
    refine w_seq ?_
    refine w_block ?_
    refine w_seq ?_
    refine w_block ?_
    refine w_seq ?_
    refine w_seq ?_
    refine w_seq ?_
    refine w_region ?_
    refine l_cons rfl (p_cmp ?_)
    refine l_cons rfl (p_assign ?_)
    refine l_nil ?_
    refine k_seq_normal ?_
    refine w_b (fun h1 => ?_) (fun h1 => ?_)
    · skip
      have h1' := h1; (try simp only [decide_eq_true_eq, decide_eq_false_iff_not, Bool.not_eq_true', Bool.not_false, Bool.not_true, Bool.not_eq_false'] at h1')
      refine w_exit ?_
      refine k_seq_exit ?_
      refine k_seq_exit ?_
      refine k_blk_here ?_
      refine k_seq_normal ?_
      refine w_seq ?_
      refine w_seq ?_
      refine w_region ?_
      refine l_cons rfl (p_fap fa_29_1 ?_)
      refine l_cons rfl (p_loadp ty_26 (a := .agg r.set.row) ?_ (hl := Nat.le_of_ble_eq_true rfl) (ha := rfl))
      refine l_cons rfl (p_store ty_26 ?_)
      refine l_nil ?_
      refine k_seq_normal ?_
      refine w_ret ?_
      refine k_seq_ret ?_
      refine k_blk_ret ?_
      refine k_seq_ret ?_
      refine k_blk_ret ?_
      refine k_seq_ret ?_
      refine k_blk_ret ?_
      refine k_seq_ret ?_
      refine k_blk_ret ?_
      refine k_seq_ret ?_
      rw [first_3 (by omega)]
      exact retc rfl ty_26 (sub3 _ _ _ _) ⟨rfl, rfl⟩
    · skip
      have h1' := h1; (try simp only [decide_eq_true_eq, decide_eq_false_iff_not, Bool.not_eq_true', Bool.not_false, Bool.not_true, Bool.not_eq_false'] at h1')
      refine w_skip ?_
      refine k_seq_normal ?_
      refine w_seq ?_
      refine w_seq ?_
      refine w_region ?_
      refine l_cons rfl (p_cmp ?_)
      refine l_cons rfl (p_assign ?_)
      refine l_nil ?_
      refine k_seq_normal ?_
      refine w_b (fun h2 => ?_) (fun h2 => ?_)
      · skip
        have h2' := h2; (try simp only [decide_eq_true_eq, decide_eq_false_iff_not, Bool.not_eq_true', Bool.not_false, Bool.not_true, Bool.not_eq_false'] at h2')
        refine w_exit ?_
        refine k_seq_exit ?_
        refine k_seq_exit ?_
        refine k_blk_there (by decide) ?_
        refine k_seq_exit ?_
        refine k_blk_here ?_
        refine k_seq_normal ?_
        refine w_seq ?_
        refine w_region ?_
        refine l_cons rfl (p_fap fa_29_2 ?_)
        refine l_cons rfl (p_loadp ty_27 ?_)
        first | refine l_cons rfl (p_lenl sl_27 ?_) | refine l_cons rfl (p_leno sl_27 ?_) | refine l_cons rfl (p_lenn sl_27 ?_)
        refine l_cons rfl (p_cmp ?_)
        refine l_nil ?_
        refine k_seq_normal ?_
        refine w_b (fun h3 => ?_) (fun h3 => ?_)
        · skip
          have h3' := h3; (try simp only [decide_eq_true_eq, decide_eq_false_iff_not, Bool.not_eq_true', Bool.not_false, Bool.not_true, Bool.not_eq_false'] at h3')
          refine w_seq ?_
          refine w_region ?_
          refine l_cons rfl (p_loadp ty_26 ?_)
          refine l_cons rfl (p_store ty_26 ?_)
          refine l_nil ?_
          refine k_seq_normal ?_
          refine w_ret ?_
          refine k_blk_ret ?_
          refine k_seq_ret ?_
          refine k_blk_ret ?_
          refine k_seq_ret ?_
          refine k_blk_ret ?_
          refine k_seq_ret ?_
          rw [first_no (by omega) (by omega) (by omega)]
          exact retc rfl ty_26 (sub3 _ _ _ _) ⟨rfl, rfl⟩
        · skip
          have h3' := h3; (try simp only [decide_eq_true_eq, decide_eq_false_iff_not, Bool.not_eq_true', Bool.not_false, Bool.not_true, Bool.not_eq_false'] at h3')
          refine w_skip ?_
          refine k_blk_normal ?_
          refine k_seq_normal ?_
          exact ⟨by first | (left; omega) | (right; omega), rfl, by simp only [Knows, put, upd_apply, Nat.reduceEqDiff, ↓reduceIte, and_true, true_and, eq_self] <;> and_intros <;> rfl⟩
      · skip
        have h2' := h2; (try simp only [decide_eq_true_eq, decide_eq_false_iff_not, Bool.not_eq_true', Bool.not_false, Bool.not_true, Bool.not_eq_false'] at h2')
        refine w_skip ?_
        refine k_seq_normal ?_
        refine w_seq ?_
        refine w_seq ?_
        refine w_region ?_
        refine l_cons rfl (p_cmp ?_)
        refine l_cons rfl (p_assign ?_)
        refine l_nil ?_
        refine k_seq_normal ?_
        refine w_b (fun h4 => ?_) (fun h4 => ?_)
        · skip
          have h4' := h4; (try simp only [decide_eq_true_eq, decide_eq_false_iff_not, Bool.not_eq_true', Bool.not_false, Bool.not_true, Bool.not_eq_false'] at h4')
          refine w_exit ?_
          refine k_seq_exit ?_
          refine k_seq_exit ?_
          refine k_blk_there (by decide) ?_
          refine k_seq_exit ?_
          refine k_blk_there (by decide) ?_
          refine k_seq_exit ?_
          refine k_blk_here ?_
          refine k_seq_normal ?_
          exact ⟨by first | (left; omega) | (right; omega), rfl, by simp only [Knows, put, upd_apply, Nat.reduceEqDiff, ↓reduceIte, and_true, true_and, eq_self] <;> and_intros <;> rfl⟩
        · skip
          have h4' := h4; (try simp only [decide_eq_true_eq, decide_eq_false_iff_not, Bool.not_eq_true', Bool.not_false, Bool.not_true, Bool.not_eq_false'] at h4')
          refine w_skip ?_
          refine k_seq_normal ?_
          refine w_seq ?_
          refine w_region ?_
          refine l_cons rfl (p_cmp ?_)
          refine l_cons rfl (p_assign ?_)
          refine l_nil ?_
          refine k_seq_normal ?_
          refine w_b (fun h5 => ?_) (fun h5 => ?_)
          · skip
            have h5' := h5; (try simp only [decide_eq_true_eq, decide_eq_false_iff_not, Bool.not_eq_true', Bool.not_false, Bool.not_true, Bool.not_eq_false'] at h5')
            refine w_exit ?_
            refine k_seq_exit ?_
            refine k_blk_there (by decide) ?_
            refine k_seq_exit ?_
            refine k_blk_there (by decide) ?_
            refine k_seq_exit ?_
            refine k_blk_there (by decide) ?_
            refine k_seq_exit ?_
            refine k_blk_here ?_
            refine k_seq_normal ?_
            refine w_seq ?_
            refine w_seq ?_
            refine w_seq ?_
            refine w_region ?_
            refine l_cons rfl (p_loadp ty_29 ?_)
            refine l_cons rfl (p_callr en_98 (cells1 (r := r) (some_walk _ r _ (Nat.le_refl _) (by omega))) ?_)
            refine l_cons rfl (p_not ?_)
            refine l_nil ?_
            refine k_seq_normal ?_
            refine w_b (fun h6 => ?_) (fun h6 => ?_)
            · skip
              have h6' := h6; (try simp only [decide_eq_true_eq, decide_eq_false_iff_not, Bool.not_eq_true', Bool.not_false, Bool.not_true, Bool.not_eq_false'] at h6')
              refine w_seq ?_
              refine w_region ?_
              refine l_cons rfl (p_loadp ty_26 ?_)
              refine l_cons rfl (p_store ty_26 ?_)
              refine l_nil ?_
              refine k_seq_normal ?_
              refine w_ret ?_
              refine k_seq_ret ?_
              refine k_seq_ret ?_
              refine k_blk_ret ?_
              refine k_seq_ret ?_
              rw [first_no (by omega) (by omega) (fun _ => by assumption)]
              exact retc rfl ty_26 (sub3 _ _ _ _) ⟨rfl, rfl⟩
            · skip
              have h6' := h6; (try simp only [decide_eq_true_eq, decide_eq_false_iff_not, Bool.not_eq_true', Bool.not_false, Bool.not_true, Bool.not_eq_false'] at h6')
              refine w_skip ?_
              refine k_seq_normal ?_
              refine w_seq ?_
              refine w_region ?_
              refine l_cons rfl (p_fap fa_29_2 ?_)
              refine l_cons rfl (p_loadp ty_27 ?_)
              first | refine l_cons rfl (p_lenl sl_27 ?_) | refine l_cons rfl (p_leno sl_27 ?_) | refine l_cons rfl (p_lenn sl_27 ?_)
              refine l_len 42 fun hl2 => ?_
              simp only [List.length_map, most] at hl2
              refine l_cons rfl (p_move ?_)
              refine l_nil ?_
              refine k_seq_normal ?_
              refine w_block ?_
              refine w_loop (fun m f es2 => ∃ k, m = r.args.length - k ∧ k ≤ r.args.length ∧ (∀ j (hj : j < k) (h : j < r.args.length), (r.args[j]).null = true) ∧ at_ es2 (es.length + 2) = some (.row s3 26 4 [[.int .u64 (Rx.firstE noSet (r.args.take k)).w0, .int .u64 (Rx.firstE noSet (r.args.take k)).w1, .int .u64 (Rx.firstE noSet (r.args.take k)).w2, .int .u64 (Rx.firstE noSet (r.args.take k)).w3]]) ∧ KB (.row s2 26 4 [[.int .u64 0, .int .u64 0, .int .u64 0, .int .u64 0]] :: .row s1 29 6 [[.int .i64 r.kind, .int .u64 r.set.w0, .int .u64 r.set.w1, .int .u64 r.set.w2, .int .u64 r.set.w3, .list 6 (r.args.map Rx.cells)]] :: es) es2 ∧ Knows f [(1, .ptr es.length s1 0 0), (2, .ptr (es.length + 1) s2 0 0), (3, .ptr (es.length + 2) s3 0 0), (42, .list 6 (r.args.map Rx.cells)), (43, .int .i64 (r.args.length : Int)), (44, .int .i64 (k : Int))]) (r.args.length) (⟨0, rfl, Nat.zero_le _, fun j hj => absurd hj (Nat.not_lt_zero _), at_hit _ _, (KB.refl _).push _, by simp only [List.length_map, Knows, put, upd_apply, Nat.reduceEqDiff, ↓reduceIte, and_true, true_and, eq_self] <;> and_intros <;> rfl⟩) ?_
              rintro m f es2 ⟨k, rfl, hk1, hk2, h3, kb, hk⟩
              have h2 := (kb.1 (es.length + 1) (by simp only [List.length_cons]; omega)).trans (at_hit _ _)
              have h1x := (kb.1 es.length (by simp only [List.length_cons]; omega)).trans (at_miss _ (at_hit _ _))
              have hel := kb.2
              simp only [List.length_cons] at hel
              have hacc := firstE_ok _ noSet noSet_ok (oks_take (fun x hx => ho.args x hx) k)
              refine w_pins _ (Sub.refl _) (hk) ?_
              simp only [pins]
              refine w_seq ?_
              refine w_region ?_
              refine l_cons rfl (p_cmp ?_)
              refine l_nil ?_
              refine k_seq_normal ?_
              refine w_seq ?_
              refine w_b (fun h7 => ?_) (fun h7 => ?_)
              · skip
                have h7' := h7; (try simp only [decide_eq_true_eq, decide_eq_false_iff_not, Bool.not_eq_true', Bool.not_false, Bool.not_true, Bool.not_eq_false'] at h7')
                refine w_skip ?_
                refine k_seq_normal ?_
                refine w_seq ?_
                refine w_block ?_
                refine w_seq ?_
                refine w_region ?_
                refine l_cons rfl (p_ixl sl_27 (a := .fptr 6 (r.args.map Rx.cells) k 0) ?_ (h0 := by omega) (h1 := by simp only [List.length_map]; omega))
                refine l_cons rfl (p_loadf ty_29 (a := .agg (r.args[k]'(by omega)).cells) ?_ (hr := rxrow_at (l := r.args) (k := k) (by omega)) (hl := Nat.le_refl 6) (ha := rfl))
                refine l_cons rfl (p_alloc ze_29 fun s7 => ?_)
                refine l_cons rfl (p_store ty_29 ?_)
                refine l_nil ?_
                refine k_seq_normal ?_
                refine w_seq ?_
                refine w_drawn 3 [] (fun e => at_ e (es.length + 2) = some (.row s3 26 4 [[.int .u64 (Rx.firstE noSet (r.args.take k)).w0, .int .u64 (Rx.firstE noSet (r.args.take k)).w1, .int .u64 (Rx.firstE noSet (r.args.take k)).w2, .int .u64 (Rx.firstE noSet (r.args.take k)).w3]]) ∧ at_ e es2.length = some (.row s7 29 6 [(r.args[k]'(by omega)).cells])) mixed (by kernel_rfl) ⟨at_miss _ h3, at_hit _ _⟩ ?_
                refine q1 3 (hg := rfl) (hu := rfl) (h := by rintro f _ ⟨hG1, hG2⟩; exact p_loadp ty_26 (a := .agg (Rx.firstE noSet (r.args.take k)).row) ⟨rfl, rfl⟩ (hl := Nat.le_of_ble_eq_true rfl) (ha := rfl)) (k := ?_)
                refine q1 7 (hg := rfl) (hu := rfl) (h := by rintro f _ ⟨hG1, hG2⟩; exact p_loadp ty_29 ⟨rfl, rfl⟩) (k := ?_)
                refine q1 49 (hg := rfl) (hu := rfl) (h := by rintro f _ ⟨hG1, hG2⟩; exact p_callr en_61 (ih (B - 1) (by omega) (r.args[k]'(by omega)) _ (by have := r.nodes_arg (k := k) (by omega); omega) (by omega) (ho.arg (by omega))) ⟨rfl, rfl⟩) (k := ?_)
                refine q_end ?_
                refine m_end ?_
                refine l_cons rfl (p_callr en_97 (or_set (Rx.firstE noSet (r.args.take k)) (r.args[k]'(by omega)).first hacc (first_ok _ (ho.arg (by omega)))) ?_)
                refine l_cons rfl (p_store ty_26 (r' := [.int .u64 (Rx.firstE noSet (r.args.take (k + 1))).w0, .int .u64 (Rx.firstE noSet (r.args.take (k + 1))).w1, .int .u64 (Rx.firstE noSet (r.args.take (k + 1))).w2, .int .u64 (Rx.firstE noSet (r.args.take (k + 1))).w3]) ?_ (hr' := by rw [firstE_succ (by omega)]; rfl))
                refine l_nil ?_
                refine k_seq_normal ?_
                refine w_seq ?_
                refine w_region ?_
                refine l_cons rfl (p_loadp ty_29 (a := .agg (r.args[k]'(by omega)).cells) (he := loc_top (by rw [setAt_len])) ?_ (hr := rfl) (hl := Nat.le_refl 6) (ha := rfl))
                refine l_cons rfl (p_callr en_59 (Null_walk _ (r.args[k]'(by omega)) _ (Nat.le_refl _) (by have := r.nodes_arg (k := k) (by omega); omega)) ?_)
                refine l_cons rfl (p_not ?_)
                refine l_nil ?_
                refine k_seq_normal ?_
                refine w_b (fun h8 => ?_) (fun h8 => ?_)
                · skip
                  have h8' := h8; (try simp only [decide_eq_true_eq, decide_eq_false_iff_not, Bool.not_eq_true', Bool.not_false, Bool.not_true, Bool.not_eq_false'] at h8')
                  refine w_seq ?_
                  have h2' : at_ (Ent.row s7 29 6 [(r.args[k]'(by omega)).cells] :: setAt es2 (es.length + 2) (.row s3 26 4 [[.int .u64 (Rx.firstE noSet (r.args.take (k + 1))).w0, .int .u64 (Rx.firstE noSet (r.args.take (k + 1))).w1, .int .u64 (Rx.firstE noSet (r.args.take (k + 1))).w2, .int .u64 (Rx.firstE noSet (r.args.take (k + 1))).w3]])) (es.length + 1) = some (.row s2 26 4 [[.int .u64 0, .int .u64 0, .int .u64 0, .int .u64 0]]) := at_miss _ ((at_setAt_ne _ (by omega)).trans h2)
                  have h3' : at_ (Ent.row s7 29 6 [(r.args[k]'(by omega)).cells] :: setAt es2 (es.length + 2) (.row s3 26 4 [[.int .u64 (Rx.firstE noSet (r.args.take (k + 1))).w0, .int .u64 (Rx.firstE noSet (r.args.take (k + 1))).w1, .int .u64 (Rx.firstE noSet (r.args.take (k + 1))).w2, .int .u64 (Rx.firstE noSet (r.args.take (k + 1))).w3]])) (es.length + 2) = some (.row s3 26 4 [[.int .u64 (Rx.firstE noSet (r.args.take (k + 1))).w0, .int .u64 (Rx.firstE noSet (r.args.take (k + 1))).w1, .int .u64 (Rx.firstE noSet (r.args.take (k + 1))).w2, .int .u64 (Rx.firstE noSet (r.args.take (k + 1))).w3]]) := at_miss _ (at_setAt_same _ h3)
                  refine w_region ?_
                  refine l_cons rfl (p_loadp ty_26 (a := .agg (Rx.firstE noSet (r.args.take (k + 1))).row) ?_ (hl := Nat.le_of_ble_eq_true rfl) (ha := rfl))
                  refine l_cons rfl (p_store ty_26 ?_)
                  refine l_nil ?_
                  refine k_seq_normal ?_
                  refine w_ret ?_
                  refine k_blk_ret ?_
                  refine k_seq_ret ?_
                  refine k_seq_ret ?_
                  refine k_blk_ret ?_
                  refine k_seq_ret ?_
                  refine k_blk_ret ?_
                  refine k_seq_ret ?_
                  rw [first_4 (by omega) (by assumption), firstC_at (k := k) (by omega) hk2 (by assumption)]
                  exact retc (he := loc_base (at_setAt_same _ h2')) rfl ty_26 ((((kb.put (by simp only [List.length_cons]; omega) _).push _).pop.pop).put (by omega) _).sub ⟨rfl, rfl⟩
                · skip
                  have h8' := h8; (try simp only [decide_eq_true_eq, decide_eq_false_iff_not, Bool.not_eq_true', Bool.not_false, Bool.not_true, Bool.not_eq_false'] at h8')
                  refine w_skip ?_
                  refine k_blk_normal ?_
                  refine k_seq_normal ?_
                  refine w_region ?_
                  refine l_cons rfl (p_arith ?_)
                  refine l_cons rfl (p_move ?_)
                  refine l_nil ?_
                  refine k_seq_normal ?_
                  exact ⟨r.args.length - (k + 1), by omega, k + 1, rfl, by omega, next_true (p := Rx.null) (by omega) hk2 (by assumption), at_miss _ (at_setAt_same _ h3), (kb.put (by simp only [List.length_cons]; omega) _).push _, by simp only [Knows, put, upd_apply, Nat.reduceEqDiff, ↓reduceIte, and_true, true_and, eq_self] <;> and_intros <;> rfl⟩
              · skip
                have h7' := h7; (try simp only [decide_eq_true_eq, decide_eq_false_iff_not, Bool.not_eq_true', Bool.not_false, Bool.not_true, Bool.not_eq_false'] at h7')
                refine w_exit ?_
                refine k_seq_exit ?_
                refine k_seq_exit ?_
                refine k_blk_here ?_
                refine k_seq_normal ?_
                refine w_exit ?_
                refine k_blk_here ?_
                refine k_seq_normal ?_
                refine w_seq ?_
                refine w_region ?_
                refine l_cons rfl (p_loadp ty_26 ?_)
                refine l_cons rfl (p_store ty_26 ?_)
                refine l_nil ?_
                refine k_seq_normal ?_
                refine w_ret ?_
                first
                | (have hkl : k = r.args.length := by omega
                   rw [hkl, List.take_length] at h3 ⊢
                   rw [first_5 (by assumption)]
                   exact retc (he := loc_base (at_setAt_same _ h2)) rfl ty_26 ((kb.pop.pop).put (by omega) _).sub ⟨rfl, rfl⟩)
                | (have hkl : k = r.args.length := by omega
                   rw [hkl, List.take_length] at h3 ⊢
                   rw [first_4 (by omega) (by assumption), firstC_all (fun j hj h => hk2 j (by omega) h)]
                   exact retc (he := loc_base (at_setAt_same _ h2)) rfl ty_26 ((kb.pop.pop).put (by omega) _).sub ⟨rfl, rfl⟩)
                | (rw [first_no (by omega) (by omega) (by omega)]
                   exact retc rfl ty_26 (sub3 _ _ _ _) ⟨rfl, rfl⟩)
          · skip
            have h5' := h5; (try simp only [decide_eq_true_eq, decide_eq_false_iff_not, Bool.not_eq_true', Bool.not_false, Bool.not_true, Bool.not_eq_false'] at h5')
            refine w_skip ?_
            refine k_seq_normal ?_
            refine w_exit ?_
            refine k_blk_there (by decide) ?_
            refine k_seq_exit ?_
            refine k_blk_there (by decide) ?_
            refine k_seq_exit ?_
            refine k_blk_there (by decide) ?_
            refine k_seq_exit ?_
            refine k_blk_there (by decide) ?_
            refine k_seq_exit ?_
            refine k_blk_here ?_
            refine k_seq_normal ?_
            refine w_seq ?_
            refine w_region ?_
            refine l_cons rfl (p_loadp ty_26 ?_)
            refine l_cons rfl (p_store ty_26 ?_)
            refine l_nil ?_
            refine k_seq_normal ?_
            refine w_ret ?_
            first
            | (have hkl : k = r.args.length := by omega
               rw [hkl, List.take_length] at h3 ⊢
               rw [first_5 (by assumption)]
               exact retc (he := loc_base (at_setAt_same _ h2)) rfl ty_26 ((kb.pop.pop).put (by omega) _).sub ⟨rfl, rfl⟩)
            | (have hkl : k = r.args.length := by omega
               rw [hkl, List.take_length] at h3 ⊢
               rw [first_4 (by omega) (by assumption), firstC_all (fun j hj h => hk2 j (by omega) h)]
               exact retc (he := loc_base (at_setAt_same _ h2)) rfl ty_26 ((kb.pop.pop).put (by omega) _).sub ⟨rfl, rfl⟩)
            | (rw [first_no (by omega) (by omega) (by omega)]
               exact retc rfl ty_26 (sub3 _ _ _ _) ⟨rfl, rfl⟩)
  · skip
    rintro f es' ⟨hkd, rfl, hk⟩
    refine w_pins _ (Sub.refl _) (hk) ?_
    simp only [pins]
    refine w_seq ?_
    refine w_seq ?_
    refine w_region ?_
    refine l_cons rfl (p_fap fa_29_2 ?_)
    refine l_cons rfl (p_loadp ty_27 ?_)
    first | refine l_cons rfl (p_lenl sl_27 ?_) | refine l_cons rfl (p_leno sl_27 ?_) | refine l_cons rfl (p_lenn sl_27 ?_)
    refine l_len 26 fun hl2 => ?_
    simp only [List.length_map, most] at hl2
    refine l_cons rfl (p_move ?_)
    refine l_nil ?_
    refine k_seq_normal ?_
    refine w_block ?_
    refine w_loop (fun m f es2 => ∃ k, m = r.args.length - k ∧ k ≤ r.args.length ∧ at_ es2 (es.length + 2) = some (.row s3 26 4 [[.int .u64 (Rx.firstE noSet (r.args.take k)).w0, .int .u64 (Rx.firstE noSet (r.args.take k)).w1, .int .u64 (Rx.firstE noSet (r.args.take k)).w2, .int .u64 (Rx.firstE noSet (r.args.take k)).w3]]) ∧ KB (.row s2 26 4 [[.int .u64 0, .int .u64 0, .int .u64 0, .int .u64 0]] :: .row s1 29 6 [[.int .i64 r.kind, .int .u64 r.set.w0, .int .u64 r.set.w1, .int .u64 r.set.w2, .int .u64 r.set.w3, .list 6 (r.args.map Rx.cells)]] :: es) es2 ∧ Knows f [(1, .ptr es.length s1 0 0), (2, .ptr (es.length + 1) s2 0 0), (3, .ptr (es.length + 2) s3 0 0), (26, .list 6 (r.args.map Rx.cells)), (27, .int .i64 (r.args.length : Int)), (28, .int .i64 (k : Int))]) (r.args.length) (⟨0, rfl, Nat.zero_le _, at_hit _ _, (KB.refl _).push _, by simp only [List.length_map, Knows, put, upd_apply, Nat.reduceEqDiff, ↓reduceIte, and_true, true_and, eq_self] <;> and_intros <;> rfl⟩) ?_
    rintro m f es2 ⟨k, rfl, hk1, h3, kb, hk⟩
    have h2 := (kb.1 (es.length + 1) (by simp only [List.length_cons]; omega)).trans (at_hit _ _)
    have h1x := (kb.1 es.length (by simp only [List.length_cons]; omega)).trans (at_miss _ (at_hit _ _))
    have hel := kb.2
    simp only [List.length_cons] at hel
    have hacc := firstE_ok _ noSet noSet_ok (oks_take (fun x hx => ho.args x hx) k)
    refine w_pins _ (Sub.refl _) (hk) ?_
    simp only [pins]
    refine w_seq ?_
    refine w_region ?_
    refine l_cons rfl (p_cmp ?_)
    refine l_nil ?_
    refine k_seq_normal ?_
    refine w_seq ?_
    refine w_b (fun h9 => ?_) (fun h9 => ?_)
    · skip
      have h9' := h9; (try simp only [decide_eq_true_eq, decide_eq_false_iff_not, Bool.not_eq_true', Bool.not_false, Bool.not_true, Bool.not_eq_false'] at h9')
      refine w_skip ?_
      refine k_seq_normal ?_
      refine w_seq ?_
      refine w_block ?_
      refine w_seq ?_
      refine w_region ?_
      refine l_cons rfl (p_ixl sl_27 (a := .fptr 6 (r.args.map Rx.cells) k 0) ?_ (h0 := by omega) (h1 := by simp only [List.length_map]; omega))
      refine l_cons rfl (p_loadf ty_29 (a := .agg (r.args[k]'(by omega)).cells) ?_ (hr := rxrow_at (l := r.args) (k := k) (by omega)) (hl := Nat.le_refl 6) (ha := rfl))
      refine l_cons rfl (p_alloc ze_29 fun s5 => ?_)
      refine l_cons rfl (p_store ty_29 ?_)
      refine l_nil ?_
      refine k_seq_normal ?_
      refine w_drawn 3 [] (fun e => at_ e (es.length + 2) = some (.row s3 26 4 [[.int .u64 (Rx.firstE noSet (r.args.take k)).w0, .int .u64 (Rx.firstE noSet (r.args.take k)).w1, .int .u64 (Rx.firstE noSet (r.args.take k)).w2, .int .u64 (Rx.firstE noSet (r.args.take k)).w3]]) ∧ at_ e es2.length = some (.row s5 29 6 [(r.args[k]'(by omega)).cells])) mixed (by kernel_rfl) ⟨at_miss _ h3, at_hit _ _⟩ ?_
      refine q1 3 (hg := rfl) (hu := rfl) (h := by rintro f _ ⟨hG1, hG2⟩; exact p_loadp ty_26 (a := .agg (Rx.firstE noSet (r.args.take k)).row) ⟨rfl, rfl⟩ (hl := Nat.le_of_ble_eq_true rfl) (ha := rfl)) (k := ?_)
      refine q1 5 (hg := rfl) (hu := rfl) (h := by rintro f _ ⟨hG1, hG2⟩; exact p_loadp ty_29 ⟨rfl, rfl⟩) (k := ?_)
      refine q1 33 (hg := rfl) (hu := rfl) (h := by rintro f _ ⟨hG1, hG2⟩; exact p_callr en_61 (ih (B - 1) (by omega) (r.args[k]'(by omega)) _ (by have := r.nodes_arg (k := k) (by omega); omega) (by omega) (ho.arg (by omega))) ⟨rfl, rfl⟩) (k := ?_)
      refine q_end ?_
      refine m_end ?_
      refine l_cons rfl (p_callr en_97 (or_set (Rx.firstE noSet (r.args.take k)) (r.args[k]'(by omega)).first hacc (first_ok _ (ho.arg (by omega)))) ?_)
      refine l_cons rfl (p_store ty_26 (r' := [.int .u64 (Rx.firstE noSet (r.args.take (k + 1))).w0, .int .u64 (Rx.firstE noSet (r.args.take (k + 1))).w1, .int .u64 (Rx.firstE noSet (r.args.take (k + 1))).w2, .int .u64 (Rx.firstE noSet (r.args.take (k + 1))).w3]) ?_ (hr' := by rw [firstE_succ (by omega)]; rfl))
      refine l_nil ?_
      refine k_blk_normal ?_
      refine k_seq_normal ?_
      refine w_region ?_
      refine l_cons rfl (p_arith ?_)
      refine l_cons rfl (p_move ?_)
      refine l_nil ?_
      refine k_seq_normal ?_
      exact ⟨r.args.length - (k + 1), by omega, k + 1, rfl, by omega, at_miss _ (at_setAt_same _ h3), (kb.put (by simp only [List.length_cons]; omega) _).push _, by simp only [Knows, put, upd_apply, Nat.reduceEqDiff, ↓reduceIte, and_true, true_and, eq_self] <;> and_intros <;> rfl⟩
    · skip
      have h9' := h9; (try simp only [decide_eq_true_eq, decide_eq_false_iff_not, Bool.not_eq_true', Bool.not_false, Bool.not_true, Bool.not_eq_false'] at h9')
      refine w_exit ?_
      refine k_seq_exit ?_
      refine k_seq_exit ?_
      refine k_blk_here ?_
      refine k_seq_normal ?_
      refine w_exit ?_
      refine k_blk_there (by decide) ?_
      refine k_seq_exit ?_
      refine k_blk_here ?_
      refine k_seq_normal ?_
      refine w_seq ?_
      refine w_region ?_
      refine l_cons rfl (p_loadp ty_26 ?_)
      refine l_cons rfl (p_store ty_26 ?_)
      refine l_nil ?_
      refine k_seq_normal ?_
      refine w_ret ?_
      first
      | (have hkl : k = r.args.length := by omega
         rw [hkl, List.take_length] at h3 ⊢
         rw [first_5 (by assumption)]
         exact retc (he := loc_base (at_setAt_same _ h2)) rfl ty_26 ((kb.pop.pop).put (by omega) _).sub ⟨rfl, rfl⟩)
      | (have hkl : k = r.args.length := by omega
         rw [hkl, List.take_length] at h3 ⊢
         rw [first_4 (by omega) (by assumption), firstC_all (fun j hj h => hk2 j (by omega) h)]
         exact retc (he := loc_base (at_setAt_same _ h2)) rfl ty_26 ((kb.pop.pop).put (by omega) _).sub ⟨rfl, rfl⟩)
      | (rw [first_no (by omega) (by omega) (by omega)]
         exact retc rfl ty_26 (sub3 _ _ _ _) ⟨rfl, rfl⟩)
theorem refFirst {w0 : World} : ∀ (B : Nat) (r : Rx) (es : List Ent), r.nodes ≤ B → B ≤ 1048576 → r.ok → ACalls Tryd.prog w0 62 [.agg r.cells] es fun v es' => v = .agg r.first.row ∧ es' = es := by
  intro B
  induction B using Nat.strongRecOn with
  | _ B ih => ?_
  intro r es hB hB2 ho
  rw [Rx.cells_eq r]
  have hne := r.nodes_eq
  have hal := Rx.len_le r.args
  refine calls1 (N := 71) Tryd.func62 rfl rfl (by decide) ?_
  refine w_seq ?_
  refine w_region ?_
  refine l_cons rfl (p_box fun s1 => ?_)
  refine l_cons rfl (p_alloc ze_26 fun s2 => ?_)
  refine l_nil ?_
  refine k_seq_normal ?_
  refine w_seq ?_
  refine w_region ?_
  refine l_cons rfl (p_alloc ze_26 fun s3 => ?_)
  refine l_nil ?_
  refine k_seq_normal ?_
  refine w_seq ?_
  refine w_seq ?_
  refine w_region ?_
  refine l_cons rfl (p_fap fa_29_0 ?_)
  refine l_cons rfl (p_loadp ty_3 ?_)
  refine l_nil ?_
  refine k_seq_normal ?_
  refine w_block ?_
  refine w_seq ?_
  refine w_region ?_
  refine l_cons rfl (p_cmp ?_)
  refine l_cons rfl (p_assign ?_)
  refine l_nil ?_
  refine k_seq_normal ?_
  refine w_b (fun h1 => ?_) (fun h1 => ?_)
  · skip
    have h1' := h1; (try simp only [decide_eq_true_eq, decide_eq_false_iff_not, Bool.not_eq_true', Bool.not_false, Bool.not_true, Bool.not_eq_false'] at h1')
    refine w_seq ?_
    refine w_region ?_
    refine l_cons rfl (p_fap fa_29_1 ?_)
    refine l_cons rfl (p_loadp ty_26 (a := .agg r.set.row) ?_ (hl := Nat.le_of_ble_eq_true rfl) (ha := rfl))
    refine l_cons rfl (p_store ty_26 ?_)
    refine l_nil ?_
    refine k_seq_normal ?_
    refine w_ret ?_
    refine k_blk_ret ?_
    refine k_seq_ret ?_
    rw [first_3 (by omega)]
    exact retc rfl ty_26 (sub3 _ _ _ _) ⟨rfl, rfl⟩
  · skip
    have h1' := h1; (try simp only [decide_eq_true_eq, decide_eq_false_iff_not, Bool.not_eq_true', Bool.not_false, Bool.not_true, Bool.not_eq_false'] at h1')
    refine w_seq ?_
    refine w_seq ?_
    refine w_region ?_
    refine l_cons rfl (p_cmp ?_)
    refine l_cons rfl (p_assign ?_)
    refine l_nil ?_
    refine k_seq_normal ?_
    refine w_b (fun h2 => ?_) (fun h2 => ?_)
    · skip
      have h2' := h2; (try simp only [decide_eq_true_eq, decide_eq_false_iff_not, Bool.not_eq_true', Bool.not_false, Bool.not_true, Bool.not_eq_false'] at h2')
      refine w_skip ?_
      refine k_seq_normal ?_
      refine w_t h2 ?_
      refine w_seq ?_
      refine w_region ?_
      refine l_cons rfl (p_assign ?_)
      refine l_nil ?_
      refine k_seq_normal ?_
      refine w_block ?_
      refine w_loop (fun m f es2 => ∃ k, m = r.args.length - k ∧ k ≤ r.args.length ∧ (k = 0 ∨ r.kind = 5 ∨ r.args.length = 1) ∧ es2 = .row s3 26 4 [[.int .u64 (Rx.firstE noSet (r.args.take k)).w0, .int .u64 (Rx.firstE noSet (r.args.take k)).w1, .int .u64 (Rx.firstE noSet (r.args.take k)).w2, .int .u64 (Rx.firstE noSet (r.args.take k)).w3]] :: .row s2 26 4 [[.int .u64 0, .int .u64 0, .int .u64 0, .int .u64 0]] :: .row s1 29 6 [[.int .i64 r.kind, .int .u64 r.set.w0, .int .u64 r.set.w1, .int .u64 r.set.w2, .int .u64 r.set.w3, .list 6 (r.args.map Rx.cells)]] :: es ∧ Knows f [(1, .ptr es.length s1 0 0), (2, .ptr (es.length + 1) s2 0 0), (3, .ptr (es.length + 2) s3 0 0), (4, .int .i64 (k : Int))]) (r.args.length) (⟨0, rfl, Nat.zero_le _, .inl rfl, rfl, by simp only [Knows, put, upd_apply, Nat.reduceEqDiff, ↓reduceIte, and_true, true_and, eq_self] <;> and_intros <;> rfl⟩) ?_
      rintro m f es2 ⟨k, rfl, hk1, hk3, rfl, hk⟩
      have hacc := firstE_ok _ noSet noSet_ok (oks_take (fun x hx => ho.args x hx) k)
      refine w_pins _ (Sub.refl _) (hk) ?_
      simp only [pins]
      refine w_seq ?_
      refine w_seq ?_
      refine w_region ?_
      refine l_cons rfl (p_move ?_)
      refine l_cons rfl (p_fap fa_29_2 ?_)
      refine l_cons rfl (p_loadp ty_27 ?_)
      refine l_len 17 fun hl2 => ?_
      simp only [List.length_map, most] at hl2
      first | refine l_cons rfl (p_lenl sl_27 ?_) | refine l_cons rfl (p_leno sl_27 ?_) | refine l_cons rfl (p_lenn sl_27 ?_)
      refine l_cons rfl (p_cmp ?_)
      refine l_cons rfl (p_move ?_)
      refine g_b rfl (fun h3 => ?_) (fun h3 => ?_)
      · skip
        have h3' := h3; (try simp only [decide_eq_true_eq, decide_eq_false_iff_not, Bool.not_eq_true', Bool.not_false, Bool.not_true, Bool.not_eq_false'] at h3')
        refine (p_fap fa_29_0 ?_)
        refine g_y rfl h3 (p_loadp ty_3 ?_)
        refine g_y rfl h3 (p_cmp ?_)
        refine g_y rfl h3 (p_move ?_)
        refine g_b rfl (fun h4 => ?_) (fun h4 => ?_)
        · skip
          have h4' := h4; (try simp only [decide_eq_true_eq, decide_eq_false_iff_not, Bool.not_eq_true', Bool.not_false, Bool.not_true, Bool.not_eq_false'] at h4')
          refine (p_fap fa_29_2 ?_)
          refine g_y rfl h4 (p_loadp ty_27 ?_)
          first | refine g_y rfl h4 (p_lenl sl_27 ?_) | refine g_y rfl h4 (p_leno sl_27 ?_) | refine g_y rfl h4 (p_lenn sl_27 ?_)
          refine g_y rfl h4 (p_cmp ?_)
          refine g_y rfl h3 (p_pickf h4 ?_)
          refine l_cons rfl (p_pickt h3 ?_)
          refine l_nil ?_
          refine k_seq_normal ?_
          refine w_b (fun h5 => ?_) (fun h5 => ?_)
          · skip
            have h5' := h5; (try simp only [decide_eq_true_eq, decide_eq_false_iff_not, Bool.not_eq_true', Bool.not_false, Bool.not_true, Bool.not_eq_false'] at h5')
            refine w_skip ?_
            refine k_seq_normal ?_
            refine w_seq ?_
            refine w_block ?_
            refine w_drawn 7 [] (fun e => e = _) mixed (by kernel_rfl) rfl ?_
            refine q1 3 (hg := rfl) (hu := rfl) (h := by rintro f _ rfl; exact p_loadp ty_26 (a := .agg (Rx.firstE noSet (r.args.take k)).row) ⟨rfl, rfl⟩ (hl := Nat.le_of_ble_eq_true rfl) (ha := rfl)) (k := ?_)
            refine q1 1 (hg := rfl) (hu := rfl) (h := by rintro f _ rfl; exact p_fap fa_29_2 ⟨rfl, rfl⟩) (k := ?_)
            refine q1 34 (hg := rfl) (hu := rfl) (h := by rintro f _ rfl; exact p_loadp ty_27 ⟨rfl, rfl⟩) (k := ?_)
            refine q1 4 (hg := rfl) (hu := rfl) (h := by rintro f _ rfl; exact p_move ⟨rfl, rfl⟩) (k := ?_)
            refine q2 35 36 (hg := rfl) (hu := rfl) (h := by rintro f _ rfl; exact p_ixl sl_27 (a := .fptr 6 (r.args.map Rx.cells) k 0) ⟨rfl, rfl⟩ (h0 := by omega) (h1 := by simp only [List.length_map]; omega)) (k := ?_)
            refine q1 37 (hg := rfl) (hu := rfl) (h := by rintro f _ rfl; exact p_loadf ty_29 (a := .agg (r.args[k]'(by omega)).cells) ⟨rfl, rfl⟩ (hr := rxrow_at (l := r.args) (k := k) (by omega)) (hl := Nat.le_refl 6) (ha := rfl)) (k := ?_)
            refine q1 38 (hg := rfl) (hu := rfl) (h := by rintro f _ rfl; exact p_callr en_62 (ih (B - 1) (by omega) (r.args[k]'(by omega)) _ (by have := r.nodes_arg (k := k) (by omega); omega) (by omega) (ho.arg (by omega))) ⟨rfl, rfl⟩) (k := ?_)
            refine q_end ?_
            refine m_end ?_
            refine l_cons rfl (p_callr en_86 (refOr (Rx.firstE noSet (r.args.take k)) (r.args[k]'(by omega)).first hacc (first_ok _ (ho.arg (by omega)))) ?_)
            refine l_cons rfl (p_store ty_26 (r' := [.int .u64 (Rx.firstE noSet (r.args.take (k + 1))).w0, .int .u64 (Rx.firstE noSet (r.args.take (k + 1))).w1, .int .u64 (Rx.firstE noSet (r.args.take (k + 1))).w2, .int .u64 (Rx.firstE noSet (r.args.take (k + 1))).w3]) ?_ (hr' := by rw [firstE_succ (by omega)]; rfl))
            refine l_nil ?_
            refine k_blk_normal ?_
            refine k_seq_normal ?_
            refine w_region ?_
            refine l_cons rfl (p_move ?_)
            refine l_cons rfl (p_arith ?_)
            refine l_cons rfl (p_assign ?_)
            refine l_nil ?_
            refine k_seq_normal ?_
            exact ⟨r.args.length - (k + 1), by omega, k + 1, rfl, by omega, by first | (right; left; omega) | (right; right; omega), rfl, by simp only [Knows, put, upd_apply, Nat.reduceEqDiff, ↓reduceIte, and_true, true_and, eq_self] <;> and_intros <;> rfl⟩
          · skip
            have h5' := h5; (try simp only [decide_eq_true_eq, decide_eq_false_iff_not, Bool.not_eq_true', Bool.not_false, Bool.not_true, Bool.not_eq_false'] at h5')
            refine w_exit ?_
            refine k_seq_exit ?_
            refine k_seq_exit ?_
            refine k_blk_here ?_
            refine k_blk_normal ?_
            refine k_seq_normal ?_
            refine w_seq ?_
            refine w_region ?_
            refine l_cons rfl (p_loadp ty_26 ?_)
            refine l_cons rfl (p_store ty_26 ?_)
            refine l_nil ?_
            refine k_seq_normal ?_
            refine w_ret ?_
            first
            | (rw [first_no (by omega) (by omega) (by omega)]
               exact retc rfl ty_26 (sub3 _ _ _ _) ⟨rfl, rfl⟩)
            | (have hk0 : k = 0 := by omega
               subst hk0
               rw [first_no (by omega) (by omega) (by omega)]
               exact retc rfl ty_26 (sub3 _ _ _ _) ⟨rfl, rfl⟩)
            | (rcases Nat.eq_zero_or_pos k with hk0 | hk0
               · subst hk0
                 rw [first_no (by omega) (by omega) (by omega)]
                 exact retc rfl ty_26 (sub3 _ _ _ _) ⟨rfl, rfl⟩
               · have hkl : k = r.args.length := by omega
                 rw [first_5 (by omega), show Rx.firstE noSet r.args = Rx.firstE noSet (r.args.take k) by rw [hkl, List.take_length]]
                 exact retc rfl ty_26 (sub3 _ _ _ _) ⟨rfl, rfl⟩)
            | (have hkl : k = r.args.length := by omega
               rw [first_5 (by omega), show Rx.firstE noSet r.args = Rx.firstE noSet (r.args.take k) by rw [hkl, List.take_length]]
               exact retc rfl ty_26 (sub3 _ _ _ _) ⟨rfl, rfl⟩)
            | (have hkl : k = r.args.length := by omega
               rw [first_4 (by omega) (by assumption), firstC_all (fun j hj h => hk2 j (by omega) h), show Rx.firstE noSet r.args = Rx.firstE noSet (r.args.take k) by rw [hkl, List.take_length]]
               exact retc rfl ty_26 (sub3 _ _ _ _) ⟨rfl, rfl⟩)
        · skip
          have h4' := h4; (try simp only [decide_eq_true_eq, decide_eq_false_iff_not, Bool.not_eq_true', Bool.not_false, Bool.not_true, Bool.not_eq_false'] at h4')
          refine g_n rfl h4 ?_
          refine g_n rfl h4 ?_
          refine g_n rfl h4 ?_
          refine g_y rfl h3 (p_pickt h4 ?_)
          refine l_cons rfl (p_pickt h3 ?_)
          refine l_nil ?_
          refine k_seq_normal ?_
          refine w_t rfl ?_
          refine w_skip ?_
          refine k_seq_normal ?_
          refine w_seq ?_
          refine w_block ?_
          refine w_drawn 7 [] (fun e => e = _) mixed (by kernel_rfl) rfl ?_
          refine q1 3 (hg := rfl) (hu := rfl) (h := by rintro f _ rfl; exact p_loadp ty_26 (a := .agg (Rx.firstE noSet (r.args.take k)).row) ⟨rfl, rfl⟩ (hl := Nat.le_of_ble_eq_true rfl) (ha := rfl)) (k := ?_)
          refine q1 1 (hg := rfl) (hu := rfl) (h := by rintro f _ rfl; exact p_fap fa_29_2 ⟨rfl, rfl⟩) (k := ?_)
          refine q1 34 (hg := rfl) (hu := rfl) (h := by rintro f _ rfl; exact p_loadp ty_27 ⟨rfl, rfl⟩) (k := ?_)
          refine q1 4 (hg := rfl) (hu := rfl) (h := by rintro f _ rfl; exact p_move ⟨rfl, rfl⟩) (k := ?_)
          refine q2 35 36 (hg := rfl) (hu := rfl) (h := by rintro f _ rfl; exact p_ixl sl_27 (a := .fptr 6 (r.args.map Rx.cells) k 0) ⟨rfl, rfl⟩ (h0 := by omega) (h1 := by simp only [List.length_map]; omega)) (k := ?_)
          refine q1 37 (hg := rfl) (hu := rfl) (h := by rintro f _ rfl; exact p_loadf ty_29 (a := .agg (r.args[k]'(by omega)).cells) ⟨rfl, rfl⟩ (hr := rxrow_at (l := r.args) (k := k) (by omega)) (hl := Nat.le_refl 6) (ha := rfl)) (k := ?_)
          refine q1 38 (hg := rfl) (hu := rfl) (h := by rintro f _ rfl; exact p_callr en_62 (ih (B - 1) (by omega) (r.args[k]'(by omega)) _ (by have := r.nodes_arg (k := k) (by omega); omega) (by omega) (ho.arg (by omega))) ⟨rfl, rfl⟩) (k := ?_)
          refine q_end ?_
          refine m_end ?_
          refine l_cons rfl (p_callr en_86 (refOr (Rx.firstE noSet (r.args.take k)) (r.args[k]'(by omega)).first hacc (first_ok _ (ho.arg (by omega)))) ?_)
          refine l_cons rfl (p_store ty_26 (r' := [.int .u64 (Rx.firstE noSet (r.args.take (k + 1))).w0, .int .u64 (Rx.firstE noSet (r.args.take (k + 1))).w1, .int .u64 (Rx.firstE noSet (r.args.take (k + 1))).w2, .int .u64 (Rx.firstE noSet (r.args.take (k + 1))).w3]) ?_ (hr' := by rw [firstE_succ (by omega)]; rfl))
          refine l_nil ?_
          refine k_blk_normal ?_
          refine k_seq_normal ?_
          refine w_region ?_
          refine l_cons rfl (p_move ?_)
          refine l_cons rfl (p_arith ?_)
          refine l_cons rfl (p_assign ?_)
          refine l_nil ?_
          refine k_seq_normal ?_
          exact ⟨r.args.length - (k + 1), by omega, k + 1, rfl, by omega, by first | (right; left; omega) | (right; right; omega), rfl, by simp only [Knows, put, upd_apply, Nat.reduceEqDiff, ↓reduceIte, and_true, true_and, eq_self] <;> and_intros <;> rfl⟩
      · skip
        have h3' := h3; (try simp only [decide_eq_true_eq, decide_eq_false_iff_not, Bool.not_eq_true', Bool.not_false, Bool.not_true, Bool.not_eq_false'] at h3')
        refine g_n rfl h3 ?_
        refine g_n rfl h3 ?_
        refine g_n rfl h3 ?_
        refine g_u rfl ?_
        refine g_u rfl ?_
        refine g_u rfl ?_
        refine g_u rfl ?_
        refine g_n rfl h3 ?_
        refine l_cons rfl (p_pickf h3 ?_)
        refine l_nil ?_
        refine k_seq_normal ?_
        refine w_f rfl ?_
        refine w_exit ?_
        refine k_seq_exit ?_
        refine k_seq_exit ?_
        refine k_blk_here ?_
        refine k_blk_normal ?_
        refine k_seq_normal ?_
        refine w_seq ?_
        refine w_region ?_
        refine l_cons rfl (p_loadp ty_26 ?_)
        refine l_cons rfl (p_store ty_26 ?_)
        refine l_nil ?_
        refine k_seq_normal ?_
        refine w_ret ?_
        first
        | (rw [first_no (by omega) (by omega) (by omega)]
           exact retc rfl ty_26 (sub3 _ _ _ _) ⟨rfl, rfl⟩)
        | (have hk0 : k = 0 := by omega
           subst hk0
           rw [first_no (by omega) (by omega) (by omega)]
           exact retc rfl ty_26 (sub3 _ _ _ _) ⟨rfl, rfl⟩)
        | (rcases Nat.eq_zero_or_pos k with hk0 | hk0
           · subst hk0
             rw [first_no (by omega) (by omega) (by omega)]
             exact retc rfl ty_26 (sub3 _ _ _ _) ⟨rfl, rfl⟩
           · have hkl : k = r.args.length := by omega
             rw [first_5 (by omega), show Rx.firstE noSet r.args = Rx.firstE noSet (r.args.take k) by rw [hkl, List.take_length]]
             exact retc rfl ty_26 (sub3 _ _ _ _) ⟨rfl, rfl⟩)
        | (have hkl : k = r.args.length := by omega
           rw [first_5 (by omega), show Rx.firstE noSet r.args = Rx.firstE noSet (r.args.take k) by rw [hkl, List.take_length]]
           exact retc rfl ty_26 (sub3 _ _ _ _) ⟨rfl, rfl⟩)
        | (have hkl : k = r.args.length := by omega
           rw [first_4 (by omega) (by assumption), firstC_all (fun j hj h => hk2 j (by omega) h), show Rx.firstE noSet r.args = Rx.firstE noSet (r.args.take k) by rw [hkl, List.take_length]]
           exact retc rfl ty_26 (sub3 _ _ _ _) ⟨rfl, rfl⟩)
    · skip
      have h2' := h2; (try simp only [decide_eq_true_eq, decide_eq_false_iff_not, Bool.not_eq_true', Bool.not_false, Bool.not_true, Bool.not_eq_false'] at h2')
      refine w_region ?_
      refine l_cons rfl (p_cmp ?_)
      refine l_cons rfl (p_assign ?_)
      refine l_nil ?_
      refine k_seq_normal ?_
      refine w_b (fun h6 => ?_) (fun h6 => ?_)
      · skip
        have h6' := h6; (try simp only [decide_eq_true_eq, decide_eq_false_iff_not, Bool.not_eq_true', Bool.not_false, Bool.not_true, Bool.not_eq_false'] at h6')
        refine w_seq ?_
        refine w_region ?_
        refine l_cons rfl (p_assign ?_)
        refine l_nil ?_
        refine k_seq_normal ?_
        refine w_block ?_
        refine w_loop (fun m f es2 => ∃ k, m = r.args.length - k ∧ k ≤ r.args.length ∧ (k = 0 ∨ r.kind = 5 ∨ r.args.length = 1) ∧ es2 = .row s3 26 4 [[.int .u64 (Rx.firstE noSet (r.args.take k)).w0, .int .u64 (Rx.firstE noSet (r.args.take k)).w1, .int .u64 (Rx.firstE noSet (r.args.take k)).w2, .int .u64 (Rx.firstE noSet (r.args.take k)).w3]] :: .row s2 26 4 [[.int .u64 0, .int .u64 0, .int .u64 0, .int .u64 0]] :: .row s1 29 6 [[.int .i64 r.kind, .int .u64 r.set.w0, .int .u64 r.set.w1, .int .u64 r.set.w2, .int .u64 r.set.w3, .list 6 (r.args.map Rx.cells)]] :: es ∧ Knows f [(1, .ptr es.length s1 0 0), (2, .ptr (es.length + 1) s2 0 0), (3, .ptr (es.length + 2) s3 0 0), (4, .int .i64 (k : Int))]) (r.args.length) (⟨0, rfl, Nat.zero_le _, .inl rfl, rfl, by simp only [Knows, put, upd_apply, Nat.reduceEqDiff, ↓reduceIte, and_true, true_and, eq_self] <;> and_intros <;> rfl⟩) ?_
        rintro m f es2 ⟨k, rfl, hk1, hk3, rfl, hk⟩
        have hacc := firstE_ok _ noSet noSet_ok (oks_take (fun x hx => ho.args x hx) k)
        refine w_pins _ (Sub.refl _) (hk) ?_
        simp only [pins]
        refine w_seq ?_
        refine w_seq ?_
        refine w_region ?_
        refine l_cons rfl (p_move ?_)
        refine l_cons rfl (p_fap fa_29_2 ?_)
        refine l_cons rfl (p_loadp ty_27 ?_)
        refine l_len 17 fun hl2 => ?_
        simp only [List.length_map, most] at hl2
        first | refine l_cons rfl (p_lenl sl_27 ?_) | refine l_cons rfl (p_leno sl_27 ?_) | refine l_cons rfl (p_lenn sl_27 ?_)
        refine l_cons rfl (p_cmp ?_)
        refine l_cons rfl (p_move ?_)
        refine g_b rfl (fun h7 => ?_) (fun h7 => ?_)
        · skip
          have h7' := h7; (try simp only [decide_eq_true_eq, decide_eq_false_iff_not, Bool.not_eq_true', Bool.not_false, Bool.not_true, Bool.not_eq_false'] at h7')
          refine (p_fap fa_29_0 ?_)
          refine g_y rfl h7 (p_loadp ty_3 ?_)
          refine g_y rfl h7 (p_cmp ?_)
          refine g_y rfl h7 (p_move ?_)
          refine g_b rfl (fun h8 => ?_) (fun h8 => ?_)
          · skip
            have h8' := h8; (try simp only [decide_eq_true_eq, decide_eq_false_iff_not, Bool.not_eq_true', Bool.not_false, Bool.not_true, Bool.not_eq_false'] at h8')
            refine (p_fap fa_29_2 ?_)
            refine g_y rfl h8 (p_loadp ty_27 ?_)
            first | refine g_y rfl h8 (p_lenl sl_27 ?_) | refine g_y rfl h8 (p_leno sl_27 ?_) | refine g_y rfl h8 (p_lenn sl_27 ?_)
            refine g_y rfl h8 (p_cmp ?_)
            refine g_y rfl h7 (p_pickf h8 ?_)
            refine l_cons rfl (p_pickt h7 ?_)
            refine l_nil ?_
            refine k_seq_normal ?_
            refine w_b (fun h9 => ?_) (fun h9 => ?_)
            · skip
              have h9' := h9; (try simp only [decide_eq_true_eq, decide_eq_false_iff_not, Bool.not_eq_true', Bool.not_false, Bool.not_true, Bool.not_eq_false'] at h9')
              refine w_skip ?_
              refine k_seq_normal ?_
              refine w_seq ?_
              refine w_block ?_
              refine w_drawn 7 [] (fun e => e = _) mixed (by kernel_rfl) rfl ?_
              refine q1 3 (hg := rfl) (hu := rfl) (h := by rintro f _ rfl; exact p_loadp ty_26 (a := .agg (Rx.firstE noSet (r.args.take k)).row) ⟨rfl, rfl⟩ (hl := Nat.le_of_ble_eq_true rfl) (ha := rfl)) (k := ?_)
              refine q1 1 (hg := rfl) (hu := rfl) (h := by rintro f _ rfl; exact p_fap fa_29_2 ⟨rfl, rfl⟩) (k := ?_)
              refine q1 34 (hg := rfl) (hu := rfl) (h := by rintro f _ rfl; exact p_loadp ty_27 ⟨rfl, rfl⟩) (k := ?_)
              refine q1 4 (hg := rfl) (hu := rfl) (h := by rintro f _ rfl; exact p_move ⟨rfl, rfl⟩) (k := ?_)
              refine q2 35 36 (hg := rfl) (hu := rfl) (h := by rintro f _ rfl; exact p_ixl sl_27 (a := .fptr 6 (r.args.map Rx.cells) k 0) ⟨rfl, rfl⟩ (h0 := by omega) (h1 := by simp only [List.length_map]; omega)) (k := ?_)
              refine q1 37 (hg := rfl) (hu := rfl) (h := by rintro f _ rfl; exact p_loadf ty_29 (a := .agg (r.args[k]'(by omega)).cells) ⟨rfl, rfl⟩ (hr := rxrow_at (l := r.args) (k := k) (by omega)) (hl := Nat.le_refl 6) (ha := rfl)) (k := ?_)
              refine q1 38 (hg := rfl) (hu := rfl) (h := by rintro f _ rfl; exact p_callr en_62 (ih (B - 1) (by omega) (r.args[k]'(by omega)) _ (by have := r.nodes_arg (k := k) (by omega); omega) (by omega) (ho.arg (by omega))) ⟨rfl, rfl⟩) (k := ?_)
              refine q_end ?_
              refine m_end ?_
              refine l_cons rfl (p_callr en_86 (refOr (Rx.firstE noSet (r.args.take k)) (r.args[k]'(by omega)).first hacc (first_ok _ (ho.arg (by omega)))) ?_)
              refine l_cons rfl (p_store ty_26 (r' := [.int .u64 (Rx.firstE noSet (r.args.take (k + 1))).w0, .int .u64 (Rx.firstE noSet (r.args.take (k + 1))).w1, .int .u64 (Rx.firstE noSet (r.args.take (k + 1))).w2, .int .u64 (Rx.firstE noSet (r.args.take (k + 1))).w3]) ?_ (hr' := by rw [firstE_succ (by omega)]; rfl))
              refine l_nil ?_
              refine k_blk_normal ?_
              refine k_seq_normal ?_
              refine w_region ?_
              refine l_cons rfl (p_move ?_)
              refine l_cons rfl (p_arith ?_)
              refine l_cons rfl (p_assign ?_)
              refine l_nil ?_
              refine k_seq_normal ?_
              exact ⟨r.args.length - (k + 1), by omega, k + 1, rfl, by omega, by first | (right; left; omega) | (right; right; omega), rfl, by simp only [Knows, put, upd_apply, Nat.reduceEqDiff, ↓reduceIte, and_true, true_and, eq_self] <;> and_intros <;> rfl⟩
            · skip
              have h9' := h9; (try simp only [decide_eq_true_eq, decide_eq_false_iff_not, Bool.not_eq_true', Bool.not_false, Bool.not_true, Bool.not_eq_false'] at h9')
              refine w_exit ?_
              refine k_seq_exit ?_
              refine k_seq_exit ?_
              refine k_blk_here ?_
              refine k_blk_normal ?_
              refine k_seq_normal ?_
              refine w_seq ?_
              refine w_region ?_
              refine l_cons rfl (p_loadp ty_26 ?_)
              refine l_cons rfl (p_store ty_26 ?_)
              refine l_nil ?_
              refine k_seq_normal ?_
              refine w_ret ?_
              first
              | (rw [first_no (by omega) (by omega) (by omega)]
                 exact retc rfl ty_26 (sub3 _ _ _ _) ⟨rfl, rfl⟩)
              | (have hk0 : k = 0 := by omega
                 subst hk0
                 rw [first_no (by omega) (by omega) (by omega)]
                 exact retc rfl ty_26 (sub3 _ _ _ _) ⟨rfl, rfl⟩)
              | (rcases Nat.eq_zero_or_pos k with hk0 | hk0
                 · subst hk0
                   rw [first_no (by omega) (by omega) (by omega)]
                   exact retc rfl ty_26 (sub3 _ _ _ _) ⟨rfl, rfl⟩
                 · have hkl : k = r.args.length := by omega
                   rw [first_5 (by omega), show Rx.firstE noSet r.args = Rx.firstE noSet (r.args.take k) by rw [hkl, List.take_length]]
                   exact retc rfl ty_26 (sub3 _ _ _ _) ⟨rfl, rfl⟩)
              | (have hkl : k = r.args.length := by omega
                 rw [first_5 (by omega), show Rx.firstE noSet r.args = Rx.firstE noSet (r.args.take k) by rw [hkl, List.take_length]]
                 exact retc rfl ty_26 (sub3 _ _ _ _) ⟨rfl, rfl⟩)
              | (have hkl : k = r.args.length := by omega
                 rw [first_4 (by omega) (by assumption), firstC_all (fun j hj h => hk2 j (by omega) h), show Rx.firstE noSet r.args = Rx.firstE noSet (r.args.take k) by rw [hkl, List.take_length]]
                 exact retc rfl ty_26 (sub3 _ _ _ _) ⟨rfl, rfl⟩)
          · skip
            have h8' := h8; (try simp only [decide_eq_true_eq, decide_eq_false_iff_not, Bool.not_eq_true', Bool.not_false, Bool.not_true, Bool.not_eq_false'] at h8')
            refine g_n rfl h8 ?_
            refine g_n rfl h8 ?_
            refine g_n rfl h8 ?_
            refine g_y rfl h7 (p_pickt h8 ?_)
            refine l_cons rfl (p_pickt h7 ?_)
            refine l_nil ?_
            refine k_seq_normal ?_
            refine w_t rfl ?_
            refine w_skip ?_
            refine k_seq_normal ?_
            refine w_seq ?_
            refine w_block ?_
            refine w_drawn 7 [] (fun e => e = _) mixed (by kernel_rfl) rfl ?_
            refine q1 3 (hg := rfl) (hu := rfl) (h := by rintro f _ rfl; exact p_loadp ty_26 (a := .agg (Rx.firstE noSet (r.args.take k)).row) ⟨rfl, rfl⟩ (hl := Nat.le_of_ble_eq_true rfl) (ha := rfl)) (k := ?_)
            refine q1 1 (hg := rfl) (hu := rfl) (h := by rintro f _ rfl; exact p_fap fa_29_2 ⟨rfl, rfl⟩) (k := ?_)
            refine q1 34 (hg := rfl) (hu := rfl) (h := by rintro f _ rfl; exact p_loadp ty_27 ⟨rfl, rfl⟩) (k := ?_)
            refine q1 4 (hg := rfl) (hu := rfl) (h := by rintro f _ rfl; exact p_move ⟨rfl, rfl⟩) (k := ?_)
            refine q2 35 36 (hg := rfl) (hu := rfl) (h := by rintro f _ rfl; exact p_ixl sl_27 (a := .fptr 6 (r.args.map Rx.cells) k 0) ⟨rfl, rfl⟩ (h0 := by omega) (h1 := by simp only [List.length_map]; omega)) (k := ?_)
            refine q1 37 (hg := rfl) (hu := rfl) (h := by rintro f _ rfl; exact p_loadf ty_29 (a := .agg (r.args[k]'(by omega)).cells) ⟨rfl, rfl⟩ (hr := rxrow_at (l := r.args) (k := k) (by omega)) (hl := Nat.le_refl 6) (ha := rfl)) (k := ?_)
            refine q1 38 (hg := rfl) (hu := rfl) (h := by rintro f _ rfl; exact p_callr en_62 (ih (B - 1) (by omega) (r.args[k]'(by omega)) _ (by have := r.nodes_arg (k := k) (by omega); omega) (by omega) (ho.arg (by omega))) ⟨rfl, rfl⟩) (k := ?_)
            refine q_end ?_
            refine m_end ?_
            refine l_cons rfl (p_callr en_86 (refOr (Rx.firstE noSet (r.args.take k)) (r.args[k]'(by omega)).first hacc (first_ok _ (ho.arg (by omega)))) ?_)
            refine l_cons rfl (p_store ty_26 (r' := [.int .u64 (Rx.firstE noSet (r.args.take (k + 1))).w0, .int .u64 (Rx.firstE noSet (r.args.take (k + 1))).w1, .int .u64 (Rx.firstE noSet (r.args.take (k + 1))).w2, .int .u64 (Rx.firstE noSet (r.args.take (k + 1))).w3]) ?_ (hr' := by rw [firstE_succ (by omega)]; rfl))
            refine l_nil ?_
            refine k_blk_normal ?_
            refine k_seq_normal ?_
            refine w_region ?_
            refine l_cons rfl (p_move ?_)
            refine l_cons rfl (p_arith ?_)
            refine l_cons rfl (p_assign ?_)
            refine l_nil ?_
            refine k_seq_normal ?_
            exact ⟨r.args.length - (k + 1), by omega, k + 1, rfl, by omega, by first | (right; left; omega) | (right; right; omega), rfl, by simp only [Knows, put, upd_apply, Nat.reduceEqDiff, ↓reduceIte, and_true, true_and, eq_self] <;> and_intros <;> rfl⟩
        · skip
          have h7' := h7; (try simp only [decide_eq_true_eq, decide_eq_false_iff_not, Bool.not_eq_true', Bool.not_false, Bool.not_true, Bool.not_eq_false'] at h7')
          refine g_n rfl h7 ?_
          refine g_n rfl h7 ?_
          refine g_n rfl h7 ?_
          refine g_u rfl ?_
          refine g_u rfl ?_
          refine g_u rfl ?_
          refine g_u rfl ?_
          refine g_n rfl h7 ?_
          refine l_cons rfl (p_pickf h7 ?_)
          refine l_nil ?_
          refine k_seq_normal ?_
          refine w_f rfl ?_
          refine w_exit ?_
          refine k_seq_exit ?_
          refine k_seq_exit ?_
          refine k_blk_here ?_
          refine k_blk_normal ?_
          refine k_seq_normal ?_
          refine w_seq ?_
          refine w_region ?_
          refine l_cons rfl (p_loadp ty_26 ?_)
          refine l_cons rfl (p_store ty_26 ?_)
          refine l_nil ?_
          refine k_seq_normal ?_
          refine w_ret ?_
          first
          | (rw [first_no (by omega) (by omega) (by omega)]
             exact retc rfl ty_26 (sub3 _ _ _ _) ⟨rfl, rfl⟩)
          | (have hk0 : k = 0 := by omega
             subst hk0
             rw [first_no (by omega) (by omega) (by omega)]
             exact retc rfl ty_26 (sub3 _ _ _ _) ⟨rfl, rfl⟩)
          | (rcases Nat.eq_zero_or_pos k with hk0 | hk0
             · subst hk0
               rw [first_no (by omega) (by omega) (by omega)]
               exact retc rfl ty_26 (sub3 _ _ _ _) ⟨rfl, rfl⟩
             · have hkl : k = r.args.length := by omega
               rw [first_5 (by omega), show Rx.firstE noSet r.args = Rx.firstE noSet (r.args.take k) by rw [hkl, List.take_length]]
               exact retc rfl ty_26 (sub3 _ _ _ _) ⟨rfl, rfl⟩)
          | (have hkl : k = r.args.length := by omega
             rw [first_5 (by omega), show Rx.firstE noSet r.args = Rx.firstE noSet (r.args.take k) by rw [hkl, List.take_length]]
             exact retc rfl ty_26 (sub3 _ _ _ _) ⟨rfl, rfl⟩)
          | (have hkl : k = r.args.length := by omega
             rw [first_4 (by omega) (by assumption), firstC_all (fun j hj h => hk2 j (by omega) h), show Rx.firstE noSet r.args = Rx.firstE noSet (r.args.take k) by rw [hkl, List.take_length]]
             exact retc rfl ty_26 (sub3 _ _ _ _) ⟨rfl, rfl⟩)
      · skip
        have h6' := h6; (try simp only [decide_eq_true_eq, decide_eq_false_iff_not, Bool.not_eq_true', Bool.not_false, Bool.not_true, Bool.not_eq_false'] at h6')
        refine w_seq ?_
        refine w_region ?_
        refine l_cons rfl (p_cmp ?_)
        refine l_cons rfl (p_assign ?_)
        refine l_nil ?_
        refine k_seq_normal ?_
        refine w_b (fun h10 => ?_) (fun h10 => ?_)
        · skip
          have h10' := h10; (try simp only [decide_eq_true_eq, decide_eq_false_iff_not, Bool.not_eq_true', Bool.not_false, Bool.not_true, Bool.not_eq_false'] at h10')
          refine w_seq ?_
          refine w_seq ?_
          refine w_region ?_
          refine l_cons rfl (p_loadp ty_29 ?_)
          refine l_cons rfl (p_callr en_99 (cells1 (r := r) (refSome _ r _ (Nat.le_refl _) (by omega))) ?_)
          refine l_cons rfl (p_not ?_)
          refine l_nil ?_
          refine k_seq_normal ?_
          refine w_b (fun h11 => ?_) (fun h11 => ?_)
          · skip
            have h11' := h11; (try simp only [decide_eq_true_eq, decide_eq_false_iff_not, Bool.not_eq_true', Bool.not_false, Bool.not_true, Bool.not_eq_false'] at h11')
            refine w_seq ?_
            refine w_region ?_
            refine l_cons rfl (p_loadp ty_26 ?_)
            refine l_cons rfl (p_store ty_26 ?_)
            refine l_nil ?_
            refine k_seq_normal ?_
            refine w_ret ?_
            refine k_seq_ret ?_
            refine k_blk_ret ?_
            refine k_seq_ret ?_
            rw [first_no (by omega) (by omega) (fun _ => by assumption)]
            exact retc rfl ty_26 (sub3 _ _ _ _) ⟨rfl, rfl⟩
          · skip
            have h11' := h11; (try simp only [decide_eq_true_eq, decide_eq_false_iff_not, Bool.not_eq_true', Bool.not_false, Bool.not_true, Bool.not_eq_false'] at h11')
            refine w_skip ?_
            refine k_seq_normal ?_
            refine w_seq ?_
            refine w_region ?_
            refine l_cons rfl (p_assign ?_)
            refine l_nil ?_
            refine k_seq_normal ?_
            refine w_block ?_
            refine w_loop (fun m f es2 => ∃ k, m = r.args.length - k ∧ k ≤ r.args.length ∧ (∀ j (hj : j < k) (h : j < r.args.length), (r.args[j]).null = true) ∧ es2 = .row s3 26 4 [[.int .u64 (Rx.firstE noSet (r.args.take k)).w0, .int .u64 (Rx.firstE noSet (r.args.take k)).w1, .int .u64 (Rx.firstE noSet (r.args.take k)).w2, .int .u64 (Rx.firstE noSet (r.args.take k)).w3]] :: .row s2 26 4 [[.int .u64 0, .int .u64 0, .int .u64 0, .int .u64 0]] :: .row s1 29 6 [[.int .i64 r.kind, .int .u64 r.set.w0, .int .u64 r.set.w1, .int .u64 r.set.w2, .int .u64 r.set.w3, .list 6 (r.args.map Rx.cells)]] :: es ∧ Knows f [(1, .ptr es.length s1 0 0), (2, .ptr (es.length + 1) s2 0 0), (3, .ptr (es.length + 2) s3 0 0), (5, .int .i64 (k : Int))]) (r.args.length) (⟨0, rfl, Nat.zero_le _, fun j hj => absurd hj (Nat.not_lt_zero _), rfl, by simp only [Knows, put, upd_apply, Nat.reduceEqDiff, ↓reduceIte, and_true, true_and, eq_self] <;> and_intros <;> rfl⟩) ?_
            rintro m f es2 ⟨k, rfl, hk1, hk2, rfl, hk⟩
            have hacc := firstE_ok _ noSet noSet_ok (oks_take (fun x hx => ho.args x hx) k)
            refine w_pins _ (Sub.refl _) (hk) ?_
            simp only [pins]
            refine w_seq ?_
            refine w_seq ?_
            refine w_region ?_
            refine l_cons rfl (p_move ?_)
            refine l_cons rfl (p_fap fa_29_2 ?_)
            refine l_cons rfl (p_loadp ty_27 ?_)
            refine l_len 49 fun hl2 => ?_
            simp only [List.length_map, most] at hl2
            first | refine l_cons rfl (p_lenl sl_27 ?_) | refine l_cons rfl (p_leno sl_27 ?_) | refine l_cons rfl (p_lenn sl_27 ?_)
            refine l_cons rfl (p_cmp ?_)
            refine l_nil ?_
            refine k_seq_normal ?_
            refine w_b (fun h12 => ?_) (fun h12 => ?_)
            · skip
              have h12' := h12; (try simp only [decide_eq_true_eq, decide_eq_false_iff_not, Bool.not_eq_true', Bool.not_false, Bool.not_true, Bool.not_eq_false'] at h12')
              refine w_skip ?_
              refine k_seq_normal ?_
              refine w_seq ?_
              refine w_block ?_
              refine w_seq ?_
              refine w_drawn 7 [] (fun e => e = _) mixed (by kernel_rfl) rfl ?_
              refine q1 3 (hg := rfl) (hu := rfl) (h := by rintro f _ rfl; exact p_loadp ty_26 (a := .agg (Rx.firstE noSet (r.args.take k)).row) ⟨rfl, rfl⟩ (hl := Nat.le_of_ble_eq_true rfl) (ha := rfl)) (k := ?_)
              refine q1 1 (hg := rfl) (hu := rfl) (h := by rintro f _ rfl; exact p_fap fa_29_2 ⟨rfl, rfl⟩) (k := ?_)
              refine q1 55 (hg := rfl) (hu := rfl) (h := by rintro f _ rfl; exact p_loadp ty_27 ⟨rfl, rfl⟩) (k := ?_)
              refine q1 5 (hg := rfl) (hu := rfl) (h := by rintro f _ rfl; exact p_move ⟨rfl, rfl⟩) (k := ?_)
              refine q2 56 57 (hg := rfl) (hu := rfl) (h := by rintro f _ rfl; exact p_ixl sl_27 (a := .fptr 6 (r.args.map Rx.cells) k 0) ⟨rfl, rfl⟩ (h0 := by omega) (h1 := by simp only [List.length_map]; omega)) (k := ?_)
              refine q1 58 (hg := rfl) (hu := rfl) (h := by rintro f _ rfl; exact p_loadf ty_29 (a := .agg (r.args[k]'(by omega)).cells) ⟨rfl, rfl⟩ (hr := rxrow_at (l := r.args) (k := k) (by omega)) (hl := Nat.le_refl 6) (ha := rfl)) (k := ?_)
              refine q1 59 (hg := rfl) (hu := rfl) (h := by rintro f _ rfl; exact p_callr en_62 (ih (B - 1) (by omega) (r.args[k]'(by omega)) _ (by have := r.nodes_arg (k := k) (by omega); omega) (by omega) (ho.arg (by omega))) ⟨rfl, rfl⟩) (k := ?_)
              refine q_end ?_
              refine m_end ?_
              refine l_cons rfl (p_callr en_86 (refOr (Rx.firstE noSet (r.args.take k)) (r.args[k]'(by omega)).first hacc (first_ok _ (ho.arg (by omega)))) ?_)
              refine l_cons rfl (p_store ty_26 (r' := [.int .u64 (Rx.firstE noSet (r.args.take (k + 1))).w0, .int .u64 (Rx.firstE noSet (r.args.take (k + 1))).w1, .int .u64 (Rx.firstE noSet (r.args.take (k + 1))).w2, .int .u64 (Rx.firstE noSet (r.args.take (k + 1))).w3]) ?_ (hr' := by rw [firstE_succ (by omega)]; rfl))
              refine l_nil ?_
              refine k_seq_normal ?_
              refine w_seq ?_
              refine w_region ?_
              refine l_cons rfl (p_fap fa_29_2 ?_)
              refine l_cons rfl (p_loadp ty_27 ?_)
              refine l_cons rfl (p_move ?_)
              refine l_cons rfl (p_ixl sl_27 (a := .fptr 6 (r.args.map Rx.cells) k 0) ?_ (h0 := by omega) (h1 := by simp only [List.length_map]; omega))
              refine l_cons rfl (p_loadf ty_29 (a := .agg (r.args[k]'(by omega)).cells) ?_ (hr := rxrow_at (l := r.args) (k := k) (by omega)) (hl := Nat.le_refl 6) (ha := rfl))
              refine l_cons rfl (p_callr en_60 (refNull _ (r.args[k]'(by omega)) _ (Nat.le_refl _) (by have := r.nodes_arg (k := k) (by omega); omega)) ?_)
              refine l_cons rfl (p_not ?_)
              refine l_nil ?_
              refine k_seq_normal ?_
              refine w_b (fun h13 => ?_) (fun h13 => ?_)
              · skip
                have h13' := h13; (try simp only [decide_eq_true_eq, decide_eq_false_iff_not, Bool.not_eq_true', Bool.not_false, Bool.not_true, Bool.not_eq_false'] at h13')
                refine w_seq ?_
                refine w_region ?_
                refine l_cons rfl (p_loadp ty_26 ?_)
                refine l_cons rfl (p_store ty_26 ?_)
                refine l_nil ?_
                refine k_seq_normal ?_
                refine w_ret ?_
                refine k_blk_ret ?_
                refine k_seq_ret ?_
                refine k_seq_ret ?_
                refine k_blk_ret ?_
                refine k_blk_ret ?_
                refine k_seq_ret ?_
                rw [first_4 (by omega) (by assumption), firstC_at (k := k) (by omega) hk2 (by assumption)]
                exact retc rfl ty_26 (sub3 _ _ _ _) ⟨rfl, rfl⟩
              · skip
                have h13' := h13; (try simp only [decide_eq_true_eq, decide_eq_false_iff_not, Bool.not_eq_true', Bool.not_false, Bool.not_true, Bool.not_eq_false'] at h13')
                refine w_skip ?_
                refine k_blk_normal ?_
                refine k_seq_normal ?_
                refine w_region ?_
                refine l_cons rfl (p_move ?_)
                refine l_cons rfl (p_arith ?_)
                refine l_cons rfl (p_assign ?_)
                refine l_nil ?_
                refine k_seq_normal ?_
                exact ⟨r.args.length - (k + 1), by omega, k + 1, rfl, by omega, next_true (p := Rx.null) (by omega) hk2 (by assumption), rfl, by simp only [Knows, put, upd_apply, Nat.reduceEqDiff, ↓reduceIte, and_true, true_and, eq_self] <;> and_intros <;> rfl⟩
            · skip
              have h12' := h12; (try simp only [decide_eq_true_eq, decide_eq_false_iff_not, Bool.not_eq_true', Bool.not_false, Bool.not_true, Bool.not_eq_false'] at h12')
              refine w_exit ?_
              refine k_seq_exit ?_
              refine k_seq_exit ?_
              refine k_blk_here ?_
              refine k_blk_normal ?_
              refine k_seq_normal ?_
              refine w_seq ?_
              refine w_region ?_
              refine l_cons rfl (p_loadp ty_26 ?_)
              refine l_cons rfl (p_store ty_26 ?_)
              refine l_nil ?_
              refine k_seq_normal ?_
              refine w_ret ?_
              first
              | (rw [first_no (by omega) (by omega) (by omega)]
                 exact retc rfl ty_26 (sub3 _ _ _ _) ⟨rfl, rfl⟩)
              | (have hk0 : k = 0 := by omega
                 subst hk0
                 rw [first_no (by omega) (by omega) (by omega)]
                 exact retc rfl ty_26 (sub3 _ _ _ _) ⟨rfl, rfl⟩)
              | (rcases Nat.eq_zero_or_pos k with hk0 | hk0
                 · subst hk0
                   rw [first_no (by omega) (by omega) (by omega)]
                   exact retc rfl ty_26 (sub3 _ _ _ _) ⟨rfl, rfl⟩
                 · have hkl : k = r.args.length := by omega
                   rw [first_5 (by omega), show Rx.firstE noSet r.args = Rx.firstE noSet (r.args.take k) by rw [hkl, List.take_length]]
                   exact retc rfl ty_26 (sub3 _ _ _ _) ⟨rfl, rfl⟩)
              | (have hkl : k = r.args.length := by omega
                 rw [first_5 (by omega), show Rx.firstE noSet r.args = Rx.firstE noSet (r.args.take k) by rw [hkl, List.take_length]]
                 exact retc rfl ty_26 (sub3 _ _ _ _) ⟨rfl, rfl⟩)
              | (have hkl : k = r.args.length := by omega
                 rw [first_4 (by omega) (by assumption), firstC_all (fun j hj h => hk2 j (by omega) h), show Rx.firstE noSet r.args = Rx.firstE noSet (r.args.take k) by rw [hkl, List.take_length]]
                 exact retc rfl ty_26 (sub3 _ _ _ _) ⟨rfl, rfl⟩)
        · skip
          have h10' := h10; (try simp only [decide_eq_true_eq, decide_eq_false_iff_not, Bool.not_eq_true', Bool.not_false, Bool.not_true, Bool.not_eq_false'] at h10')
          refine w_skip ?_
          refine k_blk_normal ?_
          refine k_seq_normal ?_
          refine w_seq ?_
          refine w_region ?_
          refine l_cons rfl (p_loadp ty_26 ?_)
          refine l_cons rfl (p_store ty_26 ?_)
          refine l_nil ?_
          refine k_seq_normal ?_
          refine w_ret ?_
          first
          | (rw [first_no (by omega) (by omega) (by omega)]
             exact retc rfl ty_26 (sub3 _ _ _ _) ⟨rfl, rfl⟩)
          | (have hk0 : k = 0 := by omega
             subst hk0
             rw [first_no (by omega) (by omega) (by omega)]
             exact retc rfl ty_26 (sub3 _ _ _ _) ⟨rfl, rfl⟩)
          | (rcases Nat.eq_zero_or_pos k with hk0 | hk0
             · subst hk0
               rw [first_no (by omega) (by omega) (by omega)]
               exact retc rfl ty_26 (sub3 _ _ _ _) ⟨rfl, rfl⟩
             · have hkl : k = r.args.length := by omega
               rw [first_5 (by omega), show Rx.firstE noSet r.args = Rx.firstE noSet (r.args.take k) by rw [hkl, List.take_length]]
               exact retc rfl ty_26 (sub3 _ _ _ _) ⟨rfl, rfl⟩)
          | (have hkl : k = r.args.length := by omega
             rw [first_5 (by omega), show Rx.firstE noSet r.args = Rx.firstE noSet (r.args.take k) by rw [hkl, List.take_length]]
             exact retc rfl ty_26 (sub3 _ _ _ _) ⟨rfl, rfl⟩)
          | (have hkl : k = r.args.length := by omega
             rw [first_4 (by omega) (by assumption), firstC_all (fun j hj h => hk2 j (by omega) h), show Rx.firstE noSet r.args = Rx.firstE noSet (r.args.take k) by rw [hkl, List.take_length]]
             exact retc rfl ty_26 (sub3 _ _ _ _) ⟨rfl, rfl⟩)
end Go.Proofs.YtfdgbghlanbddaaDoor.Av
set_option linter.unusedVariables false
set_option linter.unusedSimpArgs false
namespace Go.Proofs.YtfdgbghlanbddaaDoor.Av
open Go.RowKit
/-! ### regions that draw, each order walked by itself -/
section
variable {P : Program} {w0 : World} {N : Nat} {f : Frame} {es : List Ent} {K : Frame → List Ent → Prop} {ops : Array Oper} {o : Oper}
def AAny (P : Program) (w0 : World) (N : Nat) (ops : Array Oper) (fuel : Nat) (ls : Array Bool) (f : Frame) (es : List Ent) (K : Frame → List Ent → Prop) : Prop :=
  ∀ (c : Core) (A : Act) (Q : Exit → Act → World → Prop), Ok w0 c es → RepF N c es f A →
    (∀ c' es' f' A', Ext c es c' es' → Ok w0 c' es' → RepF N c' es' f' A' → K f' es' → Q .normal A' c'.w) → wpAny P .any ops Q fuel ls A c.w
/-- One operation, be it skipped or not. -/
def AStep (P : Program) (w0 : World) (N : Nat) (ops : Array Oper) (i : Nat) (f : Frame) (es : List Ent) (K : Frame → List Ent → Prop) : Prop :=
  ∀ (c : Core) (A : Act) (next : Act → World → Prop) (Q : Exit → Act → World → Prop), Ok w0 c es → RepF N c es f A →
    (∀ c' es' f' A', Ext c es c' es' → Ok w0 c' es' → RepF N c' es' f' A' → K f' es' → next A' c'.w) → wpOp P ops Q i next A c.w
/-- What came up. -/
def Lst (n : Nat) (l : List Nat) : Array Bool := ((List.range n).map fun i => l.contains i).toArray
theorem w_any {id : Nat} {l : List Oper} {K : Exit → Frame → List Ent → Prop} (n : Nat) (hm : P.follows .mixedOrders = true) (h0 : Array.replicate l.toArray.size false = Lst n []) (hn : l.toArray.size = n)
    (h : AAny P w0 N l.toArray n (Lst n []) f es (K .normal)) : AWp P w0 N (.region id l.toArray true) f es K := by
  intro c A Q ok rf hk
  obtain ⟨x0, ok0⟩ := ok_drew ok
  refine wp_region_any hm ?_
  rw [h0, hn]
  exact h { c with w := { c.w with drawn := c.w.drawn + 1 } } A Q ok0 (rf.ext x0) fun c' es' f' A' x ok' rf' k => hk .normal c' es' f' A' (x0.trans x) ok' rf' k
theorem a_done {fuel : Nat} {ls : Array Bool} (hr : Region.ready .any ops ls = []) (h : K f es) : AAny P w0 N ops fuel ls f es K := by
  intro c A Q ok rf hk
  have hq := hk c es f A (Ext.refl _ _) ok rf h
  cases fuel with
  | zero => exact ⟨hr, hq⟩
  | succ n => exact ⟨fun _ => hq, fun i hi => by rw [hr] at hi; cases hi⟩
theorem a_step {fuel : Nat} {ls : Array Bool} (hne : Region.ready .any ops ls ≠ []) (h : ∀ i ∈ Region.ready .any ops ls, AStep P w0 N ops i f es fun f' es' => AAny P w0 N ops fuel (ls.setIfInBounds i true) f' es' K) : AAny P w0 N ops (fuel + 1) ls f es K := by
  intro c A Q ok rf hk
  refine ⟨fun e => absurd e hne, fun i hi => ?_⟩
  exact h i hi c A _ Q ok rf fun c' es' f' A' x ok' rf' k => k c' A' Q ok' rf' fun c2 es2 f2 A2 x2 ok2 rf2 k2 => hk c2 es2 f2 A2 (x.trans x2) ok2 rf2 k2
theorem a_one (i : Nat) {fuel : Nat} {ls : Array Bool} (ls' : Array Bool) (hr : Region.ready .any ops ls = [i]) (hl : ls.setIfInBounds i true = ls') (h : AStep P w0 N ops i f es fun f' es' => AAny P w0 N ops fuel ls' f' es' K) : AAny P w0 N ops (fuel + 1) ls f es K := by
  refine a_step (by rw [hr]; simp) fun k hk => ?_
  rw [hr] at hk
  simp only [List.mem_cons, List.not_mem_nil, or_false] at hk
  subst hk
  rw [hl]
  exact h
theorem a_two (i j : Nat) {fuel : Nat} {ls : Array Bool} (l1 l2 : Array Bool) (hr : Region.ready .any ops ls = [i, j]) (hl1 : ls.setIfInBounds i true = l1) (hl2 : ls.setIfInBounds j true = l2)
    (h1 : AStep P w0 N ops i f es fun f' es' => AAny P w0 N ops fuel l1 f' es' K) (h2 : AStep P w0 N ops j f es fun f' es' => AAny P w0 N ops fuel l2 f' es' K) : AAny P w0 N ops (fuel + 1) ls f es K := by
  refine a_step (by rw [hr]; simp) fun k hk => ?_
  rw [hr] at hk
  simp only [List.mem_cons, List.not_mem_nil, or_false] at hk
  rcases hk with rfl | rfl
  · rw [hl1]; exact h1
  · rw [hl2]; exact h2
/-- From here on once, whatever the order before it. -/
theorem a_cut {fuel : Nat} {ls : Array Bool} (fuel2 : Nat) (ls2 : Array Bool) (Post : Frame → List Ent → Prop) (h2 : ∀ f es, Post f es → AAny P w0 N ops fuel2 ls2 f es K) (h1 : (∀ f es, Post f es → AAny P w0 N ops fuel2 ls2 f es K) → AAny P w0 N ops fuel ls f es K) : AAny P w0 N ops fuel ls f es K := h1 h2
theorem a_less {fuel : Nat} {ls : Array Bool} {f' : Frame} {es' : List Ent} (l : Less f' f) (s : Sub es' es) (h : AAny P w0 N ops fuel ls f' es' K) : AAny P w0 N ops fuel ls f es K :=
  fun c A Q ok rf hk => h c A Q (s.ok ok) ((rf.less l).ext (s.ext c)) fun c' es2 f2 A2 x ok2 rf2 k => hk c' es2 f2 A2 ((s.ext c).trans x) ok2 rf2 k
theorem a_pins (l : List (Nat × AV)) {fuel : Nat} {ls : Array Bool} {es' : List Ent} (hs : Sub es' es) (hk : Knows f l) (h : AAny P w0 N ops fuel ls (pins l) es' K) : AAny P w0 N ops fuel ls f es K := a_less (less_pins hk) hs h
theorem st_p {i : Nat} (hi : ops[i]? = some o) (hg : o.guard = none) (h : AOp P w0 N o f es K) : AStep P w0 N ops i f es K := by
  intro c A next Q ok rf hk
  simp only [wpOp, hi]
  rw [if_pos (by simp [Region.wanted, hg])]
  exact .inl (h c A next Q ok rf hk)
theorem st_y {i j d : Nat} {want b : Bool} (hi : ops[i]? = some o) (hg : o.guard = some (j, want)) (hw : b = want) (h : AOp P w0 N o f es K)
    (hd : (ops[j]?).bind (·.dst) = some d := by exact rfl) (hN : Nat.blt d N = true := by exact rfl) (hb : f d = .bool b := by simp only [ofConst_int, ofConst_bool, ofConst_str, ofConst_nil, upd_apply, Nat.reduceEqDiff, ↓reduceIte] <;> exact rfl) : AStep P w0 N ops i f es K := by
  intro c A next Q ok rf hk
  have hy := yielded_of (ops := ops) rf hd hN hb
  simp only [wpOp, hi]
  rw [if_pos (by simp [Region.wanted, hg, hy, hw])]
  exact .inl (h c A next Q ok rf hk)
end
end Go.Proofs.YtfdgbghlanbddaaDoor.Av
set_option linter.unusedVariables false
set_option linter.unusedSimpArgs false
set_option maxRecDepth 8000
namespace Go.Proofs.YtfdgbghlanbddaaDoor.Av
open Go.RowKit Go.Proofs
def aSet : W4 := ⟨0, 8589934592, 0, 0⟩
def aR : Rx := .mk 3 aSet []
def starA : Rx := .mk 6 noSet [aR]
theorem aR_cells : aR.cells = [.int .i64 3, .int .u64 0, .int .u64 8589934592, .int .u64 0, .int .u64 0, .list 6 []] := by rw [Rx.cells_eq]; rfl
theorem aSet_ok : aSet.ok := by unfold W4.ok aSet; simp
theorem aR_ok : aR.ok := ok_mkset aSet_ok
theorem aR_nodes : aR.nodes = 1 := by simp [aR, Rx.nodes, Rx.nodesL]
theorem starA_ok : starA.ok := ok_mk (by omega) (by simpa using aR_ok)
theorem starA_nodes : starA.nodes = 2 := by simp [starA, Rx.nodes, Rx.nodesL, aR_nodes]
theorem star_aR : starR aR = starA := by
  unfold starR
  rw [show (2000 : Nat) = 1999 + 1 from rfl, starN]
  rfl
theorem aSet_has : aSet.hasI 97 = true := by decide
theorem aa_ok : bytesOk [97, 97] := fun b hb => by
  simp only [List.mem_cons, List.not_mem_nil, or_false] at hb
  omega
theorem in_starA : inR starA [97, 97] = true := by
  rw [inR_iff, kind_6 (r := starA) rfl]
  have h : Rx.langOne starA.args [97] := langOne_iff.2 ⟨aR, rfl, (kind_3 (r := aR) rfl _).2 ⟨97, rfl, aSet_has⟩⟩
  exact Star.cons h (Star.cons h .nil)
theorem in_aR : inR aR [97, 97] = false := by
  rw [Bool.eq_false_iff, ne_eq, inR_iff, kind_3 (r := aR) rfl]
  rintro ⟨c, h, _⟩
  simp at h
theorem hasA_walk {w0 : World} {es : List Ent} : ACalls Tryd.prog w0 100 [.agg [.int .u64 0, .int .u64 8589934592, .int .u64 0, .int .u64 0], .int .u8 97] es fun v es' => v = .bool true ∧ es' = es := by
  have := bytesetHas (w0 := w0) (es := es) 0 8589934592 0 0 97 (by omega) (by omega)
  rwa [show hasW 0 8589934592 0 0 97 = true from aSet_has] at this
theorem setA_walk {w0 : World} {es : List Ent} : ACalls Tryd.prog w0 67 [.agg [.int .u64 0, .int .u64 8589934592, .int .u64 0, .int .u64 0]] es fun v es' => v = .agg [.int .i64 3, .int .u64 0, .int .u64 8589934592, .int .u64 0, .int .u64 0, .list 6 []] ∧ es' = es := by
  have := refBytes (w0 := w0) (es := es) aSet
  rwa [show bytesR aSet = aR from rfl, aR_cells] at this
theorem starA_walk {w0 : World} {es : List Ent} : ACalls Tryd.prog w0 41 [.agg [.int .i64 3, .int .u64 0, .int .u64 8589934592, .int .u64 0, .int .u64 0, .list 6 []]] es fun v es' => v = .agg starA.cells ∧ es' = es := by
  have := refStarR (w0 := w0) (es := es) aR (by rw [aR_nodes]; omega) aR_ok
  rwa [star_aR, aR_cells] at this
theorem inStarA {w0 : World} {es : List Ent} : ACalls Tryd.prog w0 58 [.agg starA.cells, .list 1 [[.int .u8 97], [.int .u8 97]]] es fun v es' => v = .bool true ∧ es' = es := by
  have := In_walk (w0 := w0) (es := es) starA [97, 97] starA_ok aa_ok (by simp)
  rwa [in_starA] at this
theorem inA {w0 : World} {es : List Ent} : ACalls Tryd.prog w0 58 [.agg [.int .i64 3, .int .u64 0, .int .u64 8589934592, .int .u64 0, .int .u64 0, .list 6 []], .list 1 [[.int .u8 97], [.int .u8 97]]] es fun v es' => v = .bool false ∧ es' = es := by
  have := In_walk (w0 := w0) (es := es) aR [97, 97] aR_ok aa_ok (by simp)
  rwa [in_aR, aR_cells] at this
theorem nullStarA {w0 : World} {es : List Ent} : ACalls Tryd.prog w0 59 [.agg starA.cells] es fun v es' => v = .bool true ∧ es' = es := by
  have := Null_walk (w0 := w0) 2 starA es (by rw [starA_nodes]; omega) (by omega)
  rwa [show starA.null = true by rw [null_eq]; rfl] at this
theorem firstA {w0 : World} {es : List Ent} : ACalls Tryd.prog w0 61 [.agg [.int .i64 3, .int .u64 0, .int .u64 8589934592, .int .u64 0, .int .u64 0, .list 6 []]] es fun v es' => v = .agg aSet.row ∧ es' = es := by
  have := First_walk (w0 := w0) 2 aR es (by rw [aR_nodes]; omega) (by omega) aR_ok
  rwa [first_3 (r := aR) rfl, aR_cells] at this
theorem empty1_walk {w0 : World} {es : List Ent} : ACalls Tryd.prog w0 101 [] es fun v es' => v = .agg [.int .i64 2, .int .u64 0, .int .u64 0, .int .u64 0, .int .u64 0, .nil] ∧ es' = es := by
  refine calls0 (N := 2) Tryd.func101 rfl rfl ?_
  refine w_seq ?_
  refine w_region ?_
  refine l_cons rfl (p_alloc ze_29 fun s0 => ?_)
  refine l_nil ?_
  refine k_seq_normal ?_
  refine w_seq ?_
  refine w_region ?_
  refine l_cons rfl (p_build ze_29 pl_29 ?_)
  refine l_cons rfl (p_store ty_29 ?_)
  refine l_nil ?_
  refine k_seq_normal ?_
  refine w_ret ?_
  exact retc rfl ty_29 (by first | exact Sub.refl _ | exact sub1 _ _ | exact sub2 _ _ _ | exact sub3 _ _ _ _ | exact sub4 _ _ _ _ _ | exact sub5 _ _ _ _ _ _) ⟨rfl, rfl⟩
theorem stepA_walk {w0 : World} {es : List Ent} : ACalls Tryd.prog w0 65 [.agg [.int .i64 3, .int .u64 0, .int .u64 8589934592, .int .u64 0, .int .u64 0, .list 6 []], .int .u8 97] es fun v es' => v = .agg [.int .i64 2, .int .u64 0, .int .u64 0, .int .u64 0, .int .u64 0, .nil] ∧ es' = es := by
  refine calls2 (N := 57) Tryd.func65 rfl rfl (by decide) ?_
  refine w_seq ?_
  refine w_region ?_
  refine l_cons rfl (p_box fun s2 => ?_)
  refine l_cons rfl (p_alloc ze_29 fun s4 => ?_)
  refine l_nil ?_
  refine k_seq_normal ?_
  refine w_seq ?_
  refine w_seq ?_
  refine w_region ?_
  refine l_cons rfl (p_fap fa_29_0 ?_)
  refine l_cons rfl (p_loadp ty_3 ?_)
  refine l_nil ?_
  refine k_seq_normal ?_
  refine w_block ?_
  refine w_seq ?_
  refine w_region ?_
  refine l_cons rfl (p_cmpl true ?_)
  refine l_cons rfl (p_assign ?_)
  refine l_nil ?_
  refine k_seq_normal ?_
  refine w_t rfl ?_
  refine w_seq ?_
  refine w_region ?_
  refine l_cons rfl (p_fap fa_29_1 ?_)
  refine l_cons rfl (p_loadp ty_26 ?_)
  refine l_cons rfl (p_move ?_)
  refine l_cons rfl (p_callr en_100 (hasA_walk) ?_)
  refine l_nil ?_
  refine k_seq_normal ?_
  refine w_t rfl ?_
  refine w_seq ?_
  refine w_region ?_
  refine l_cons rfl (p_callr en_101 (empty1_walk) ?_)
  refine l_cons rfl (p_store ty_29 ?_)
  refine l_nil ?_
  refine k_seq_normal ?_
  refine w_ret ?_
  refine k_blk_ret ?_
  refine k_seq_ret ?_
  exact retc rfl ty_29 (by first | exact Sub.refl _ | exact sub1 _ _ | exact sub2 _ _ _ | exact sub3 _ _ _ _ | exact sub4 _ _ _ _ _ | exact sub5 _ _ _ _ _ _) ⟨rfl, rfl⟩
theorem begun8_walk {w0 : World} {es : List Ent} : ACalls Tryd.prog w0 57 [] es fun v es' => v = .bool true ∧ es' = es := by
  refine calls0 (N := 36) Tryd.func57 rfl rfl ?_
  refine w_seq ?_
  refine w_region ?_
  refine l_cons rfl (p_assign ?_)
  refine l_nil ?_
  refine k_seq_normal ?_
  refine w_seq ?_
  refine w_region ?_
  refine l_cons rfl (p_buildSlice sl_22 ze_5 fun s2 => ?_)
  refine l_cons rfl (p_convBytes sl_22 in_5 ?_)
  refine l_cons rfl (p_callr en_68 (of_a) ?_)
  refine l_cons rfl (p_callr en_67 (setA_walk) ?_)
  refine l_cons rfl (p_alloc ze_29 fun s1 => ?_)
  refine l_cons rfl (p_store ty_29 ?_)
  refine l_nil ?_
  refine k_seq_normal ?_
  refine w_seq ?_
  refine w_any 31 mixed (by kernel_rfl) rfl ?_
  refine a_cut 27 (Lst 31 [0, 1, 2, 3]) (fun f es2 => es2 = .row s1 29 6 [[.int .i64 3, .int .u64 0, .int .u64 8589934592, .int .u64 0, .int .u64 0, .list 6 []]] :: es ∧ Knows f [(1, .ptr es.length s1 0 0), (7, .agg starA.cells), (9, .list 1 [[.int .u8 97], [.int .u8 97]])]) (fun f es2 hpost => ?_) (fun ph4 => ?_)
  · skip
    obtain ⟨rfl, hk⟩ := hpost
    refine a_pins _ (Sub.refl _) hk ?_
    simp only [pins]
    refine a_one 4 (Lst 31 [0, 1, 2, 3, 4]) (by kernel_rfl) (by kernel_rfl) (st_p rfl rfl (p_callr en_58 (inStarA) ?_))
    refine a_one 5 (Lst 31 [0, 1, 2, 3, 4, 5]) (by kernel_rfl) (by kernel_rfl) (st_p rfl rfl (p_move ?_))
    refine a_cut 22 (Lst 31 [0, 1, 2, 3, 4, 5, 6, 7, 8]) (fun f es2 => es2 = .row s1 29 6 [[.int .i64 3, .int .u64 0, .int .u64 8589934592, .int .u64 0, .int .u64 0, .list 6 []]] :: es ∧ Knows f [(1, .ptr es.length s1 0 0), (11, .bool true), (12, .agg [.int .i64 3, .int .u64 0, .int .u64 8589934592, .int .u64 0, .int .u64 0, .list 6 []]), (14, .list 1 [[.int .u8 97], [.int .u8 97]])]) (fun f es2 hpost => ?_) (fun ph9 => ?_)
    · skip
      obtain ⟨rfl, hk⟩ := hpost
      refine a_pins _ (Sub.refl _) hk ?_
      simp only [pins]
      refine a_one 9 (Lst 31 [0, 1, 2, 3, 4, 5, 6, 7, 8, 9]) (by kernel_rfl) (by kernel_rfl) (st_y rfl rfl rfl (p_callr en_58 (inA) ?_))
      refine a_one 10 (Lst 31 [0, 1, 2, 3, 4, 5, 6, 7, 8, 9, 10]) (by kernel_rfl) (by kernel_rfl) (st_y rfl rfl rfl (p_not ?_))
      refine a_one 11 (Lst 31 [0, 1, 2, 3, 4, 5, 6, 7, 8, 9, 10, 11]) (by kernel_rfl) (by kernel_rfl) (st_p rfl rfl (p_pickt rfl ?_))
      refine a_one 12 (Lst 31 [0, 1, 2, 3, 4, 5, 6, 7, 8, 9, 10, 11, 12]) (by kernel_rfl) (by kernel_rfl) (st_p rfl rfl (p_move ?_))
      refine a_one 13 (Lst 31 [0, 1, 2, 3, 4, 5, 6, 7, 8, 9, 10, 11, 12, 13]) (by kernel_rfl) (by kernel_rfl) (st_y rfl rfl rfl (p_loadp ty_29 ?_))
      refine a_one 14 (Lst 31 [0, 1, 2, 3, 4, 5, 6, 7, 8, 9, 10, 11, 12, 13, 14]) (by kernel_rfl) (by kernel_rfl) (st_y rfl rfl rfl (p_callr en_41 (starA_walk) ?_))
      refine a_one 15 (Lst 31 [0, 1, 2, 3, 4, 5, 6, 7, 8, 9, 10, 11, 12, 13, 14, 15]) (by kernel_rfl) (by kernel_rfl) (st_y rfl rfl rfl (p_callr en_59 (nullStarA) ?_))
      refine a_one 16 (Lst 31 [0, 1, 2, 3, 4, 5, 6, 7, 8, 9, 10, 11, 12, 13, 14, 15, 16]) (by kernel_rfl) (by kernel_rfl) (st_p rfl rfl (p_pickt rfl ?_))
      refine a_one 17 (Lst 31 [0, 1, 2, 3, 4, 5, 6, 7, 8, 9, 10, 11, 12, 13, 14, 15, 16, 17]) (by kernel_rfl) (by kernel_rfl) (st_p rfl rfl (p_move ?_))
      refine a_one 18 (Lst 31 [0, 1, 2, 3, 4, 5, 6, 7, 8, 9, 10, 11, 12, 13, 14, 15, 16, 17, 18]) (by kernel_rfl) (by kernel_rfl) (st_y rfl rfl rfl (p_loadp ty_29 ?_))
      refine a_one 19 (Lst 31 [0, 1, 2, 3, 4, 5, 6, 7, 8, 9, 10, 11, 12, 13, 14, 15, 16, 17, 18, 19]) (by kernel_rfl) (by kernel_rfl) (st_y rfl rfl rfl (p_callr en_65 (stepA_walk) ?_))
      refine a_one 20 (Lst 31 [0, 1, 2, 3, 4, 5, 6, 7, 8, 9, 10, 11, 12, 13, 14, 15, 16, 17, 18, 19, 20]) (by kernel_rfl) (by kernel_rfl) (st_y rfl rfl rfl (p_field fv_29_0 ?_))
      refine a_one 21 (Lst 31 [0, 1, 2, 3, 4, 5, 6, 7, 8, 9, 10, 11, 12, 13, 14, 15, 16, 17, 18, 19, 20, 21]) (by kernel_rfl) (by kernel_rfl) (st_y rfl rfl rfl (p_cmpl true ?_))
      refine a_one 22 (Lst 31 [0, 1, 2, 3, 4, 5, 6, 7, 8, 9, 10, 11, 12, 13, 14, 15, 16, 17, 18, 19, 20, 21, 22]) (by kernel_rfl) (by kernel_rfl) (st_p rfl rfl (p_pickt rfl ?_))
      refine a_one 23 (Lst 31 [0, 1, 2, 3, 4, 5, 6, 7, 8, 9, 10, 11, 12, 13, 14, 15, 16, 17, 18, 19, 20, 21, 22, 23]) (by kernel_rfl) (by kernel_rfl) (st_p rfl rfl (p_move ?_))
      refine a_cut 3 (Lst 31 [0, 1, 2, 3, 4, 5, 6, 7, 8, 9, 10, 11, 12, 13, 14, 15, 16, 17, 18, 19, 20, 21, 22, 23, 24, 25, 26, 27]) (fun f es2 => es2 = .row s1 29 6 [[.int .i64 3, .int .u64 0, .int .u64 8589934592, .int .u64 0, .int .u64 0, .list 6 []]] :: es ∧ Knows f [(1, .ptr es.length s1 0 0), (29, .bool true), (31, .agg aSet.row), (33, .agg aSet.row)]) (fun f es2 hpost => ?_) (fun ph28 => ?_)
      · skip
        obtain ⟨rfl, hk⟩ := hpost
        refine a_pins _ (Sub.refl _) hk ?_
        simp only [pins]
        refine a_one 28 (Lst 31 [0, 1, 2, 3, 4, 5, 6, 7, 8, 9, 10, 11, 12, 13, 14, 15, 16, 17, 18, 19, 20, 21, 22, 23, 24, 25, 26, 27, 28]) (by kernel_rfl) (by kernel_rfl) (st_y rfl rfl rfl (p_eqa ai_26 (b := true) ?_))
        refine a_one 29 (Lst 31 [0, 1, 2, 3, 4, 5, 6, 7, 8, 9, 10, 11, 12, 13, 14, 15, 16, 17, 18, 19, 20, 21, 22, 23, 24, 25, 26, 27, 28, 29]) (by kernel_rfl) (by kernel_rfl) (st_p rfl rfl (p_pickt rfl ?_))
        refine a_one 30 (Lst 31 [0, 1, 2, 3, 4, 5, 6, 7, 8, 9, 10, 11, 12, 13, 14, 15, 16, 17, 18, 19, 20, 21, 22, 23, 24, 25, 26, 27, 28, 29, 30]) (by kernel_rfl) (by kernel_rfl) (st_p rfl rfl (p_assign ?_))
        refine a_done (by kernel_rfl) ?_
        refine k_seq_normal ?_
        refine w_ret ?_
        exact ret1 rfl (by simp only [ev_tmp, ev_const, ev_func, ofConst_int, ofConst_bool, ofConst_str, ofConst_nil, upd_apply, Nat.reduceEqDiff, ↓reduceIte] <;> exact rfl) (by first | exact Sub.refl _ | exact sub1 _ _ | exact sub2 _ _ _ | exact sub3 _ _ _ _ | exact sub4 _ _ _ _ _ | exact sub5 _ _ _ _ _ _) ⟨rfl, rfl⟩
      · skip
        refine a_two 24 26 (Lst 31 [0, 1, 2, 3, 4, 5, 6, 7, 8, 9, 10, 11, 12, 13, 14, 15, 16, 17, 18, 19, 20, 21, 22, 23, 24]) (Lst 31 [0, 1, 2, 3, 4, 5, 6, 7, 8, 9, 10, 11, 12, 13, 14, 15, 16, 17, 18, 19, 20, 21, 22, 23, 26]) (by kernel_rfl) (by kernel_rfl) (by kernel_rfl) ?_ ?_
        · skip
          refine st_y rfl rfl rfl (p_loadp ty_29 ?_)
          refine a_two 25 26 (Lst 31 [0, 1, 2, 3, 4, 5, 6, 7, 8, 9, 10, 11, 12, 13, 14, 15, 16, 17, 18, 19, 20, 21, 22, 23, 24, 25]) (Lst 31 [0, 1, 2, 3, 4, 5, 6, 7, 8, 9, 10, 11, 12, 13, 14, 15, 16, 17, 18, 19, 20, 21, 22, 23, 24, 26]) (by kernel_rfl) (by kernel_rfl) (by kernel_rfl) ?_ ?_
          · skip
            refine st_y rfl rfl rfl (p_callr en_61 (firstA) ?_)
            refine a_one 26 (Lst 31 [0, 1, 2, 3, 4, 5, 6, 7, 8, 9, 10, 11, 12, 13, 14, 15, 16, 17, 18, 19, 20, 21, 22, 23, 24, 25, 26]) (by kernel_rfl) (by kernel_rfl) (st_y rfl rfl rfl (p_fap fa_29_1 ?_))
            refine a_one 27 (Lst 31 [0, 1, 2, 3, 4, 5, 6, 7, 8, 9, 10, 11, 12, 13, 14, 15, 16, 17, 18, 19, 20, 21, 22, 23, 24, 25, 26, 27]) (by kernel_rfl) (by kernel_rfl) (st_y rfl rfl rfl (p_loadp ty_26 (a := .agg aSet.row) ?_ (hl := Nat.le_of_ble_eq_true rfl) (ha := rfl)))
            exact ph28 _ _ (⟨rfl, by simp only [Knows, put, upd_apply, Nat.reduceEqDiff, ↓reduceIte, and_true, true_and, eq_self] <;> and_intros <;> rfl⟩)
          · skip
            refine st_y rfl rfl rfl (p_fap fa_29_1 ?_)
            refine a_two 25 27 (Lst 31 [0, 1, 2, 3, 4, 5, 6, 7, 8, 9, 10, 11, 12, 13, 14, 15, 16, 17, 18, 19, 20, 21, 22, 23, 24, 25, 26]) (Lst 31 [0, 1, 2, 3, 4, 5, 6, 7, 8, 9, 10, 11, 12, 13, 14, 15, 16, 17, 18, 19, 20, 21, 22, 23, 24, 26, 27]) (by kernel_rfl) (by kernel_rfl) (by kernel_rfl) ?_ ?_
            · skip
              refine st_y rfl rfl rfl (p_callr en_61 (firstA) ?_)
              refine a_one 27 (Lst 31 [0, 1, 2, 3, 4, 5, 6, 7, 8, 9, 10, 11, 12, 13, 14, 15, 16, 17, 18, 19, 20, 21, 22, 23, 24, 25, 26, 27]) (by kernel_rfl) (by kernel_rfl) (st_y rfl rfl rfl (p_loadp ty_26 (a := .agg aSet.row) ?_ (hl := Nat.le_of_ble_eq_true rfl) (ha := rfl)))
              exact ph28 _ _ (⟨rfl, by simp only [Knows, put, upd_apply, Nat.reduceEqDiff, ↓reduceIte, and_true, true_and, eq_self] <;> and_intros <;> rfl⟩)
            · skip
              refine st_y rfl rfl rfl (p_loadp ty_26 (a := .agg aSet.row) ?_ (hl := Nat.le_of_ble_eq_true rfl) (ha := rfl))
              refine a_one 25 (Lst 31 [0, 1, 2, 3, 4, 5, 6, 7, 8, 9, 10, 11, 12, 13, 14, 15, 16, 17, 18, 19, 20, 21, 22, 23, 24, 25, 26, 27]) (by kernel_rfl) (by kernel_rfl) (st_y rfl rfl rfl (p_callr en_61 (firstA) ?_))
              exact ph28 _ _ (⟨rfl, by simp only [Knows, put, upd_apply, Nat.reduceEqDiff, ↓reduceIte, and_true, true_and, eq_self] <;> and_intros <;> rfl⟩)
        · skip
          refine st_y rfl rfl rfl (p_fap fa_29_1 ?_)
          refine a_two 24 27 (Lst 31 [0, 1, 2, 3, 4, 5, 6, 7, 8, 9, 10, 11, 12, 13, 14, 15, 16, 17, 18, 19, 20, 21, 22, 23, 24, 26]) (Lst 31 [0, 1, 2, 3, 4, 5, 6, 7, 8, 9, 10, 11, 12, 13, 14, 15, 16, 17, 18, 19, 20, 21, 22, 23, 26, 27]) (by kernel_rfl) (by kernel_rfl) (by kernel_rfl) ?_ ?_
          · skip
            refine st_y rfl rfl rfl (p_loadp ty_29 ?_)
            refine a_two 25 27 (Lst 31 [0, 1, 2, 3, 4, 5, 6, 7, 8, 9, 10, 11, 12, 13, 14, 15, 16, 17, 18, 19, 20, 21, 22, 23, 24, 25, 26]) (Lst 31 [0, 1, 2, 3, 4, 5, 6, 7, 8, 9, 10, 11, 12, 13, 14, 15, 16, 17, 18, 19, 20, 21, 22, 23, 24, 26, 27]) (by kernel_rfl) (by kernel_rfl) (by kernel_rfl) ?_ ?_
            · skip
              refine st_y rfl rfl rfl (p_callr en_61 (firstA) ?_)
              refine a_one 27 (Lst 31 [0, 1, 2, 3, 4, 5, 6, 7, 8, 9, 10, 11, 12, 13, 14, 15, 16, 17, 18, 19, 20, 21, 22, 23, 24, 25, 26, 27]) (by kernel_rfl) (by kernel_rfl) (st_y rfl rfl rfl (p_loadp ty_26 (a := .agg aSet.row) ?_ (hl := Nat.le_of_ble_eq_true rfl) (ha := rfl)))
              exact ph28 _ _ (⟨rfl, by simp only [Knows, put, upd_apply, Nat.reduceEqDiff, ↓reduceIte, and_true, true_and, eq_self] <;> and_intros <;> rfl⟩)
            · skip
              refine st_y rfl rfl rfl (p_loadp ty_26 (a := .agg aSet.row) ?_ (hl := Nat.le_of_ble_eq_true rfl) (ha := rfl))
              refine a_one 25 (Lst 31 [0, 1, 2, 3, 4, 5, 6, 7, 8, 9, 10, 11, 12, 13, 14, 15, 16, 17, 18, 19, 20, 21, 22, 23, 24, 25, 26, 27]) (by kernel_rfl) (by kernel_rfl) (st_y rfl rfl rfl (p_callr en_61 (firstA) ?_))
              exact ph28 _ _ (⟨rfl, by simp only [Knows, put, upd_apply, Nat.reduceEqDiff, ↓reduceIte, and_true, true_and, eq_self] <;> and_intros <;> rfl⟩)
          · skip
            refine st_y rfl rfl rfl (p_loadp ty_26 (a := .agg aSet.row) ?_ (hl := Nat.le_of_ble_eq_true rfl) (ha := rfl))
            refine a_one 24 (Lst 31 [0, 1, 2, 3, 4, 5, 6, 7, 8, 9, 10, 11, 12, 13, 14, 15, 16, 17, 18, 19, 20, 21, 22, 23, 24, 26, 27]) (by kernel_rfl) (by kernel_rfl) (st_y rfl rfl rfl (p_loadp ty_29 ?_))
            refine a_one 25 (Lst 31 [0, 1, 2, 3, 4, 5, 6, 7, 8, 9, 10, 11, 12, 13, 14, 15, 16, 17, 18, 19, 20, 21, 22, 23, 24, 25, 26, 27]) (by kernel_rfl) (by kernel_rfl) (st_y rfl rfl rfl (p_callr en_61 (firstA) ?_))
            exact ph28 _ _ (⟨rfl, by simp only [Knows, put, upd_apply, Nat.reduceEqDiff, ↓reduceIte, and_true, true_and, eq_self] <;> and_intros <;> rfl⟩)
    · skip
      refine a_two 6 7 (Lst 31 [0, 1, 2, 3, 4, 5, 6]) (Lst 31 [0, 1, 2, 3, 4, 5, 7]) (by kernel_rfl) (by kernel_rfl) (by kernel_rfl) ?_ ?_
      · skip
        refine st_y rfl rfl rfl (p_loadp ty_29 ?_)
        refine a_one 7 (Lst 31 [0, 1, 2, 3, 4, 5, 6, 7]) (by kernel_rfl) (by kernel_rfl) (st_y rfl rfl rfl (p_buildSlice sl_22 ze_5 fun s13 => ?_))
        refine a_one 8 (Lst 31 [0, 1, 2, 3, 4, 5, 6, 7, 8]) (by kernel_rfl) (by kernel_rfl) (st_y rfl rfl rfl (p_convBytes sl_22 in_5 ?_))
        exact ph9 _ _ (⟨rfl, by simp only [Knows, put, upd_apply, Nat.reduceEqDiff, ↓reduceIte, and_true, true_and, eq_self] <;> and_intros <;> rfl⟩)
      · skip
        refine st_y rfl rfl rfl (p_buildSlice sl_22 ze_5 fun s13 => ?_)
        refine a_two 6 8 (Lst 31 [0, 1, 2, 3, 4, 5, 6, 7]) (Lst 31 [0, 1, 2, 3, 4, 5, 7, 8]) (by kernel_rfl) (by kernel_rfl) (by kernel_rfl) ?_ ?_
        · skip
          refine st_y rfl rfl rfl (p_loadp ty_29 ?_)
          refine a_one 8 (Lst 31 [0, 1, 2, 3, 4, 5, 6, 7, 8]) (by kernel_rfl) (by kernel_rfl) (st_y rfl rfl rfl (p_convBytes sl_22 in_5 ?_))
          exact ph9 _ _ (⟨rfl, by simp only [Knows, put, upd_apply, Nat.reduceEqDiff, ↓reduceIte, and_true, true_and, eq_self] <;> and_intros <;> rfl⟩)
        · skip
          refine st_y rfl rfl rfl (p_convBytes sl_22 in_5 ?_)
          refine a_one 6 (Lst 31 [0, 1, 2, 3, 4, 5, 6, 7, 8]) (by kernel_rfl) (by kernel_rfl) (st_y rfl rfl rfl (p_loadp ty_29 ?_))
          exact ph9 _ _ (⟨rfl, by simp only [Knows, put, upd_apply, Nat.reduceEqDiff, ↓reduceIte, and_true, true_and, eq_self] <;> and_intros <;> rfl⟩)
  · skip
    refine a_two 0 2 (Lst 31 [0]) (Lst 31 [2]) (by kernel_rfl) (by kernel_rfl) (by kernel_rfl) ?_ ?_
    · skip
      refine st_p rfl rfl (p_loadp ty_29 ?_)
      refine a_two 1 2 (Lst 31 [0, 1]) (Lst 31 [0, 2]) (by kernel_rfl) (by kernel_rfl) (by kernel_rfl) ?_ ?_
      · skip
        refine st_p rfl rfl (p_callr en_41 (starA_walk) ?_)
        refine a_one 2 (Lst 31 [0, 1, 2]) (by kernel_rfl) (by kernel_rfl) (st_p rfl rfl (p_buildSlice sl_22 ze_5 fun s8 => ?_))
        refine a_one 3 (Lst 31 [0, 1, 2, 3]) (by kernel_rfl) (by kernel_rfl) (st_p rfl rfl (p_convBytes sl_22 in_5 ?_))
        exact ph4 _ _ (⟨rfl, by simp only [Knows, put, upd_apply, Nat.reduceEqDiff, ↓reduceIte, and_true, true_and, eq_self] <;> and_intros <;> rfl⟩)
      · skip
        refine st_p rfl rfl (p_buildSlice sl_22 ze_5 fun s8 => ?_)
        refine a_two 1 3 (Lst 31 [0, 1, 2]) (Lst 31 [0, 2, 3]) (by kernel_rfl) (by kernel_rfl) (by kernel_rfl) ?_ ?_
        · skip
          refine st_p rfl rfl (p_callr en_41 (starA_walk) ?_)
          refine a_one 3 (Lst 31 [0, 1, 2, 3]) (by kernel_rfl) (by kernel_rfl) (st_p rfl rfl (p_convBytes sl_22 in_5 ?_))
          exact ph4 _ _ (⟨rfl, by simp only [Knows, put, upd_apply, Nat.reduceEqDiff, ↓reduceIte, and_true, true_and, eq_self] <;> and_intros <;> rfl⟩)
        · skip
          refine st_p rfl rfl (p_convBytes sl_22 in_5 ?_)
          refine a_one 1 (Lst 31 [0, 1, 2, 3]) (by kernel_rfl) (by kernel_rfl) (st_p rfl rfl (p_callr en_41 (starA_walk) ?_))
          exact ph4 _ _ (⟨rfl, by simp only [Knows, put, upd_apply, Nat.reduceEqDiff, ↓reduceIte, and_true, true_and, eq_self] <;> and_intros <;> rfl⟩)
    · skip
      refine st_p rfl rfl (p_buildSlice sl_22 ze_5 fun s8 => ?_)
      refine a_two 0 3 (Lst 31 [0, 2]) (Lst 31 [2, 3]) (by kernel_rfl) (by kernel_rfl) (by kernel_rfl) ?_ ?_
      · skip
        refine st_p rfl rfl (p_loadp ty_29 ?_)
        refine a_two 1 3 (Lst 31 [0, 1, 2]) (Lst 31 [0, 2, 3]) (by kernel_rfl) (by kernel_rfl) (by kernel_rfl) ?_ ?_
        · skip
          refine st_p rfl rfl (p_callr en_41 (starA_walk) ?_)
          refine a_one 3 (Lst 31 [0, 1, 2, 3]) (by kernel_rfl) (by kernel_rfl) (st_p rfl rfl (p_convBytes sl_22 in_5 ?_))
          exact ph4 _ _ (⟨rfl, by simp only [Knows, put, upd_apply, Nat.reduceEqDiff, ↓reduceIte, and_true, true_and, eq_self] <;> and_intros <;> rfl⟩)
        · skip
          refine st_p rfl rfl (p_convBytes sl_22 in_5 ?_)
          refine a_one 1 (Lst 31 [0, 1, 2, 3]) (by kernel_rfl) (by kernel_rfl) (st_p rfl rfl (p_callr en_41 (starA_walk) ?_))
          exact ph4 _ _ (⟨rfl, by simp only [Knows, put, upd_apply, Nat.reduceEqDiff, ↓reduceIte, and_true, true_and, eq_self] <;> and_intros <;> rfl⟩)
      · skip
        refine st_p rfl rfl (p_convBytes sl_22 in_5 ?_)
        refine a_one 0 (Lst 31 [0, 2, 3]) (by kernel_rfl) (by kernel_rfl) (st_p rfl rfl (p_loadp ty_29 ?_))
        refine a_one 1 (Lst 31 [0, 1, 2, 3]) (by kernel_rfl) (by kernel_rfl) (st_p rfl rfl (p_callr en_41 (starA_walk) ?_))
        exact ph4 _ _ (⟨rfl, by simp only [Knows, put, upd_apply, Nat.reduceEqDiff, ↓reduceIte, and_true, true_and, eq_self] <;> and_intros <;> rfl⟩)
end Go.Proofs.YtfdgbghlanbddaaDoor.Av
set_option linter.unusedVariables false
set_option linter.unusedSimpArgs false
set_option maxRecDepth 8000
namespace Go.Proofs.YtfdgbghlanbddaaDoor.Av
open Go.RowKit Go.Proofs
theorem langAll_walk {w0 : World} (r : Rx) (w : List Int) (hn : r.nodes ≤ 1000000) (ho : r.ok) (hw : bytesOk w) : ACalls Tryd.prog w0 15 [.agg r.cells, bytesAV w] [] fun v es' => v = .bool true := by
  unfold bytesAV
  refine calls2 (N := 36) Tryd.func15 rfl rfl (by decide) ?_
  refine w_seq ?_
  refine w_region ?_
  refine l_cons rfl (p_box fun s2 => ?_)
  refine l_cons rfl (p_assign ?_)
  refine l_nil ?_
  refine k_seq_normal ?_
  refine w_seq ?_
  refine w_seq ?_
  refine w_region ?_
  refine l_cons rfl (p_callr en_57 (begun8_walk) ?_)
  refine l_cons rfl (p_not ?_)
  refine l_nil ?_
  refine k_seq_normal ?_
  refine w_f rfl ?_
  refine w_skip ?_
  refine k_seq_normal ?_
  refine w_seq ?_
  refine w_seq ?_
  refine w_region ?_
  refine l_cons rfl (p_loadp ty_29 ?_)
  refine l_cons rfl (p_callr en_35 (lightR_walk r 200 (by omega)) ?_)
  refine l_cons rfl (p_not ?_)
  refine l_cons rfl (p_move ?_)
  refine g_b rfl (fun h1 => ?_) (fun h1 => ?_)
  · skip
    have h1' := h1; (try simp only [decide_eq_true_eq, decide_eq_false_iff_not, Bool.not_eq_true', Bool.not_false, Bool.not_true, Bool.not_eq_false'] at h1')
    refine (p_move ?_)
    refine g_y rfl h1 (p_lenl sl_22 ?_)
    refine g_y rfl h1 (p_cmp ?_)
    refine l_cons rfl (p_pickf h1 ?_)
    refine l_nil ?_
    refine k_seq_normal ?_
    refine w_b (fun h2 => ?_) (fun h2 => ?_)
    · skip
      have h2' := h2; (try simp only [decide_eq_true_eq, decide_eq_false_iff_not, Bool.not_eq_true', Bool.not_false, Bool.not_true, Bool.not_eq_false'] at h2')
      refine w_seq ?_
      refine w_region ?_
      refine l_cons rfl (p_assign ?_)
      refine l_nil ?_
      refine k_seq_normal ?_
      refine w_ret ?_
      refine k_seq_ret ?_
      exact ret1 rfl (by simp only [ev_tmp, ev_const, ev_func, ofConst_int, ofConst_bool, ofConst_str, ofConst_nil, upd_apply, Nat.reduceEqDiff, ↓reduceIte] <;> exact rfl) (sub_of (es := []) fun _ h => absurd h (Nat.not_lt_zero _)) (by first | rfl | (simp_all; done))
    · skip
      have h2' := h2; (try simp only [decide_eq_true_eq, decide_eq_false_iff_not, Bool.not_eq_true', Bool.not_false, Bool.not_true, Bool.not_eq_false'] at h2')
      refine w_skip ?_
      refine k_seq_normal ?_
      refine w_seq ?_
      refine w_drawn 18 [] (fun e => e = _) mixed (by kernel_rfl) rfl ?_
      refine q1 2 (hg := rfl) (hu := rfl) (h := by rintro f _ rfl; exact p_loadp ty_29 ⟨rfl, rfl⟩) (k := ?_)
      refine q1 1 (hg := rfl) (hu := rfl) (h := by rintro f _ rfl; exact p_move ⟨rfl, rfl⟩) (k := ?_)
      refine q2 15 16 (hg := rfl) (hu := rfl) (h := by rintro f _ rfl; exact p_callr en_58 (In_walk r w ho hw (by omega)) ⟨rfl, rfl⟩) (k := ?_)
      refine q1 2 (hg := rfl) (hu := rfl) (h := by rintro f _ rfl; exact p_loadp ty_29 ⟨rfl, rfl⟩) (k := ?_)
      refine q1 1 (hg := rfl) (hu := rfl) (h := by rintro f _ rfl; exact p_move ⟨rfl, rfl⟩) (k := ?_)
      refine q2 18 19 (hg := rfl) (hu := rfl) (h := by rintro f _ rfl; exact p_callr en_32 (refIn r w ho hw (by omega)) ⟨rfl, rfl⟩) (k := ?_)
      refine q2 17 20 (hg := rfl) (hu := rfl) (h := by rintro f _ rfl; exact p_eqb ub_4 ⟨rfl, rfl⟩) (k := ?_)
      refine q1 21 (hg := rfl) (hu := rfl) (h := by rintro f _ rfl; exact p_move ⟨rfl, rfl⟩) (k := ?_)
      refine qsplit 22 (fun h3 => ?_) (fun h3 => ?_)
      · skip
        have h3' := h3; (try simp only [decide_eq_true_eq, decide_eq_false_iff_not, Bool.not_eq_true', Bool.not_false, Bool.not_true, Bool.not_eq_false'] at h3')
        refine qy1 2 (hg := rfl) (hw := h3) (hu := rfl) (h := by rintro f _ rfl; exact p_loadp ty_29 ⟨rfl, rfl⟩) (k := ?_)
        refine qy1 23 (hg := rfl) (hw := h3) (hu := rfl) (h := by rintro f _ rfl; exact p_callr en_59 (Null_walk _ r _ (Nat.le_refl _) (by omega)) ⟨rfl, rfl⟩) (k := ?_)
        refine qy1 2 (hg := rfl) (hw := h3) (hu := rfl) (h := by rintro f _ rfl; exact p_loadp ty_29 ⟨rfl, rfl⟩) (k := ?_)
        refine qy1 25 (hg := rfl) (hw := h3) (hu := rfl) (h := by rintro f _ rfl; exact p_callr en_60 (refNull _ r _ (Nat.le_refl _) (by omega)) ⟨rfl, rfl⟩) (k := ?_)
        refine qy2 24 26 (hg := rfl) (hw := h3) (hu := rfl) (h := by rintro f _ rfl; exact p_eqb ub_4 ⟨rfl, rfl⟩) (k := ?_)
        refine q2 22 27 (hg := rfl) (hu := rfl) (h := by rintro f _ rfl; exact p_pickt h3 ⟨rfl, rfl⟩) (k := ?_)
        refine q1 28 (hg := rfl) (hu := rfl) (h := by rintro f _ rfl; exact p_move ⟨rfl, rfl⟩) (k := ?_)
        refine qsplit 29 (fun h4 => ?_) (fun h4 => ?_)
        · skip
          have h4' := h4; (try simp only [decide_eq_true_eq, decide_eq_false_iff_not, Bool.not_eq_true', Bool.not_false, Bool.not_true, Bool.not_eq_false'] at h4')
          refine qy1 2 (hg := rfl) (hw := h4) (hu := rfl) (h := by rintro f _ rfl; exact p_loadp ty_29 ⟨rfl, rfl⟩) (k := ?_)
          refine qy1 30 (hg := rfl) (hw := h4) (hu := rfl) (h := by rintro f _ rfl; exact p_callr en_61 (First_walk _ r _ (Nat.le_refl _) (by omega) ho) ⟨rfl, rfl⟩) (k := ?_)
          refine qy1 2 (hg := rfl) (hw := h4) (hu := rfl) (h := by rintro f _ rfl; exact p_loadp ty_29 ⟨rfl, rfl⟩) (k := ?_)
          refine q_end ?_
          refine m_end ?_
          refine g_y rfl h4 (p_callr en_62 (refFirst _ r _ (Nat.le_refl _) (by omega) ho) ?_)
          refine g_y rfl h4 (p_eqa ai_26 ?_ (hb := eqA r.first r.first))
          refine l_cons rfl (p_pickt h4 ?_)
          refine l_cons rfl (p_assign ?_)
          refine l_nil ?_
          refine k_seq_normal ?_
          refine w_ret ?_
          exact ret1 rfl (by simp only [ev_tmp, ev_const, ev_func, ofConst_int, ofConst_bool, ofConst_str, ofConst_nil, upd_apply, Nat.reduceEqDiff, ↓reduceIte] <;> exact rfl) (sub_of (es := []) fun _ h => absurd h (Nat.not_lt_zero _)) (by first | rfl | (simp_all; done))
        · skip
          have h4' := h4; (try simp only [decide_eq_true_eq, decide_eq_false_iff_not, Bool.not_eq_true', Bool.not_false, Bool.not_true, Bool.not_eq_false'] at h4')
          refine qn rfl h4 ?_
          refine qn rfl h4 ?_
          refine qn rfl h4 ?_
          refine q_end ?_
          refine m_end ?_
          refine g_n rfl h4 ?_
          refine g_n rfl h4 ?_
          refine l_cons rfl (p_pickf h4 ?_)
          refine l_cons rfl (p_assign ?_)
          refine l_nil ?_
          refine k_seq_normal ?_
          refine w_ret ?_
          exact ret1 rfl (by simp only [ev_tmp, ev_const, ev_func, ofConst_int, ofConst_bool, ofConst_str, ofConst_nil, upd_apply, Nat.reduceEqDiff, ↓reduceIte] <;> exact rfl) (sub_of (es := []) fun _ h => absurd h (Nat.not_lt_zero _)) (by first | rfl | (simp_all; done))
      · skip
        have h3' := h3; (try simp only [decide_eq_true_eq, decide_eq_false_iff_not, Bool.not_eq_true', Bool.not_false, Bool.not_true, Bool.not_eq_false'] at h3')
        refine qn rfl h3 ?_
        refine qn rfl h3 ?_
        refine qn rfl h3 ?_
        refine qn rfl h3 ?_
        refine qn rfl h3 ?_
        refine q2 22 27 (hg := rfl) (hu := rfl) (h := by rintro f _ rfl; exact p_pickf h3 ⟨rfl, rfl⟩) (k := ?_)
        refine q1 28 (hg := rfl) (hu := rfl) (h := by rintro f _ rfl; exact p_move ⟨rfl, rfl⟩) (k := ?_)
        refine qn rfl rfl ?_
        refine qn rfl rfl ?_
        refine qn rfl rfl ?_
        refine q_end ?_
        refine m_end ?_
        refine g_n rfl rfl ?_
        refine g_n rfl rfl ?_
        refine l_cons rfl (p_pickf rfl ?_)
        refine l_cons rfl (p_assign ?_)
        refine l_nil ?_
        refine k_seq_normal ?_
        refine w_ret ?_
        exact ret1 rfl (by simp only [ev_tmp, ev_const, ev_func, ofConst_int, ofConst_bool, ofConst_str, ofConst_nil, upd_apply, Nat.reduceEqDiff, ↓reduceIte] <;> exact rfl) (sub_of (es := []) fun _ h => absurd h (Nat.not_lt_zero _)) (by first | rfl | (simp_all; done))
  · skip
    have h1' := h1; (try simp only [decide_eq_true_eq, decide_eq_false_iff_not, Bool.not_eq_true', Bool.not_false, Bool.not_true, Bool.not_eq_false'] at h1')
    refine g_n rfl h1 ?_
    refine g_n rfl h1 ?_
    refine l_cons rfl (p_pickt h1 ?_)
    refine l_nil ?_
    refine k_seq_normal ?_
    refine w_t rfl ?_
    refine w_seq ?_
    refine w_region ?_
    refine l_cons rfl (p_assign ?_)
    refine l_nil ?_
    refine k_seq_normal ?_
    refine w_ret ?_
    refine k_seq_ret ?_
    exact ret1 rfl (by simp only [ev_tmp, ev_const, ev_func, ofConst_int, ofConst_bool, ofConst_str, ofConst_nil, upd_apply, Nat.reduceEqDiff, ↓reduceIte] <;> exact rfl) (sub_of (es := []) fun _ h => absurd h (Nat.not_lt_zero _)) (by first | rfl | (simp_all; done))
end Go.Proofs.YtfdgbghlanbddaaDoor.Av
set_option linter.unusedVariables false
set_option linter.unusedSimpArgs false
namespace Go.Proofs.YtfdgbghlanbddaaDoor.Av
/-! ### the same of the words themselves -/
theorem in_cat {r a b : Rx} (h : ∀ w, r.lang w ↔ Rx.langCat [a, b] w) (w : List Int) : inR r w = joinB (inR a) (inR b) w (w.length + 1) := by
  rw [Bool.eq_iff_iff, inR_iff, h, joinB_iff, langCat_cons]
  simp only [langCat_one, inR_iff]
theorem in_alt {r a b : Rx} (h : ∀ w, r.lang w ↔ Rx.langAlt [a, b] w) (w : List Int) : inR r w = (inR a w || inR b w) := by
  rw [Bool.eq_iff_iff, inR_iff, h, Bool.or_eq_true, inR_iff, inR_iff, langAlt_iff]
  simp
theorem in_star {r a : Rx} (h : ∀ w, r.lang w ↔ Star a.lang w) (w : List Int) : inR r w = manyB (inR a) (inR r) w (w.length + 1) := by
  rw [Bool.eq_iff_iff, inR_iff, h, manyB_iff, star_first]
  simp only [inR_iff, h]
end Go.Proofs.YtfdgbghlanbddaaDoor.Av
set_option linter.unusedVariables false
set_option linter.unusedSimpArgs false
set_option maxRecDepth 8000
namespace Go.Proofs.YtfdgbghlanbddaaDoor.Av
open Go.RowKit Go.Proofs
theorem starZ {w0 : World} {es : List Ent} {x z : Rx} (hz : z = starR x) (hn : x.nodes ≤ 2000) (ho : x.ok) : ACalls Tryd.prog w0 41 [.agg x.cells] es fun v es' => v = .agg z.cells ∧ es' = es := by
  subst hz
  exact refStarR x hn ho
theorem in_pre {w0 : World} {es : List Ent} (r : Rx) (w : List Int) (ho : r.ok) (hw : bytesOk w) (hl : w.length ≤ 1000) (k : Nat) : ACalls Tryd.prog w0 58 [.agg r.cells, .list 1 (((w.map fun n => [AV.int .u8 n]).take k).drop 0)] es fun v es' => v = .bool (inR r (w.take k)) ∧ es' = es := by
  rw [List.drop_zero, ← List.map_take]
  exact In_walk r (w.take k) ho (fun b hb => hw b (List.mem_of_mem_take hb)) (by rw [List.length_take]; omega)
theorem in_suf {w0 : World} {es : List Ent} (r : Rx) (w : List Int) (ho : r.ok) (hw : bytesOk w) (hl : w.length ≤ 1000) (k : Nat) : ACalls Tryd.prog w0 58 [.agg r.cells, .list 1 (((w.map fun n => [AV.int .u8 n]).take (w.map fun n => [AV.int .u8 n]).length).drop k)] es fun v es' => v = .bool (inR r (w.drop k)) ∧ es' = es := by
  rw [List.take_length, ← List.map_drop]
  exact In_walk r (w.drop k) ho (fun b hb => hw b (List.mem_of_mem_drop hb)) (by rw [List.length_drop]; omega)
theorem langMeans_walk {w0 : World} (a b c : List Int) (ha : bytesOk a) (hb : bytesOk b) (hc : bytesOk c) : ACalls Tryd.prog w0 18 [bytesAV a, bytesAV b, bytesAV c] [] fun v es' => v = .bool true := by
  unfold bytesAV
  refine calls3 (N := 114) Tryd.func18 rfl rfl (by decide) ?_
  refine w_seq ?_
  refine w_region ?_
  refine l_cons rfl (p_assign ?_)
  refine l_nil ?_
  refine k_seq_normal ?_
  refine w_seq ?_
  refine w_seq ?_
  refine w_region ?_
  refine l_cons rfl (p_callr en_57 (begun8_walk) ?_)
  refine l_cons rfl (p_not ?_)
  refine l_nil ?_
  refine k_seq_normal ?_
  refine w_f rfl ?_
  refine w_skip ?_
  refine k_seq_normal ?_
  refine w_seq ?_
  refine w_seq ?_
  refine w_region ?_
  refine l_cons rfl (p_move ?_)
  refine l_cons rfl (p_lenl sl_22 ?_)
  refine l_cons rfl (p_cmp ?_)
  refine l_cons rfl (p_move ?_)
  refine g_b rfl (fun h1 => ?_) (fun h1 => ?_)
  · skip
    have h1' := h1; (try simp only [decide_eq_true_eq, decide_eq_false_iff_not, Bool.not_eq_true', Bool.not_false, Bool.not_true, Bool.not_eq_false'] at h1')
    refine (p_move ?_)
    refine g_y rfl h1 (p_lenl sl_22 ?_)
    refine g_y rfl h1 (p_cmp ?_)
    refine l_cons rfl (p_pickf h1 ?_)
    refine l_cons rfl (p_move ?_)
    refine g_b rfl (fun h2 => ?_) (fun h2 => ?_)
    · skip
      have h2' := h2; (try simp only [decide_eq_true_eq, decide_eq_false_iff_not, Bool.not_eq_true', Bool.not_false, Bool.not_true, Bool.not_eq_false'] at h2')
      refine (p_move ?_)
      refine g_y rfl h2 (p_lenl sl_22 ?_)
      refine g_y rfl h2 (p_cmp ?_)
      refine l_cons rfl (p_pickf h2 ?_)
      refine l_nil ?_
      refine k_seq_normal ?_
      refine w_b (fun h3 => ?_) (fun h3 => ?_)
      · skip
        have h3' := h3; (try simp only [decide_eq_true_eq, decide_eq_false_iff_not, Bool.not_eq_true', Bool.not_false, Bool.not_true, Bool.not_eq_false'] at h3')
        refine w_seq ?_
        refine w_region ?_
        refine l_cons rfl (p_assign ?_)
        refine l_nil ?_
        refine k_seq_normal ?_
        refine w_ret ?_
        refine k_seq_ret ?_
        exact ret1 rfl (by simp only [ev_tmp, ev_const, ev_func, ofConst_int, ofConst_bool, ofConst_str, ofConst_nil, upd_apply, Nat.reduceEqDiff, ↓reduceIte] <;> exact rfl) (sub_of (es := []) fun _ h => absurd h (Nat.not_lt_zero _)) (rfl)
      · skip
        have h3' := h3; (try simp only [decide_eq_true_eq, decide_eq_false_iff_not, Bool.not_eq_true', Bool.not_false, Bool.not_true, Bool.not_eq_false'] at h3')
        refine w_skip ?_
        refine k_seq_normal ?_
        refine w_seq ?_
        refine w_region ?_
        refine l_cons rfl (p_move ?_)
        refine l_cons rfl (p_call en_24 ((made_walk a (by omega) ha).mono ?_))
        rintro _ es1 ⟨s40, rfl, rfl⟩
        refine l_cons rfl (p_call en_25 ((Rx_walk (PK.mk' (n := 0) (Nat.zero_le _) ha (by omega) (at_hit _ _))).mono ?_))
        rintro _ es2 ⟨rfl, hgx⟩
        obtain ⟨ox, -, nx⟩ := pRx_ok 9 (q := a.drop 0) (fun e he => ha e (List.mem_of_mem_drop he))
        have tx := pRx_tidy 9 (q := a.drop 0) (fun e he => ha e (List.mem_of_mem_drop he))
        generalize (pRx 9 (a.drop 0)).1 = x at ox nx tx ⊢
        refine l_cons rfl (p_move ?_)
        refine l_cons rfl (p_call en_24 ((made_walk b (by omega) hb).mono ?_))
        rintro _ es3 ⟨s43, rfl, rfl⟩
        refine l_cons rfl (p_call en_25 ((Rx_walk (PK.mk' (n := 0) (Nat.zero_le _) hb (by omega) (at_hit _ _))).mono ?_))
        rintro _ es4 ⟨rfl, hgy⟩
        obtain ⟨oy, -, ny⟩ := pRx_ok 9 (q := b.drop 0) (fun e he => hb e (List.mem_of_mem_drop he))
        have ty := pRx_tidy 9 (q := b.drop 0) (fun e he => hb e (List.mem_of_mem_drop he))
        generalize (pRx 9 (b.drop 0)).1 = y at oy ny ty ⊢
        refine l_cons rfl (p_move ?_)
        refine l_cons rfl (p_call en_24 ((made_walk c (by omega) hc).mono ?_))
        rintro _ es5 ⟨s46, rfl, rfl⟩
        refine l_cons rfl (p_call en_26 ((word_walk 8 (by omega) (PK.mk' (n := 0) (Nat.zero_le _) hc (by omega) (at_hit _ _))).mono ?_))
        rintro _ es6 ⟨rfl, q4, hg6⟩
        obtain ⟨hw, hwl⟩ := pWord_ok (most := 8) (q := c.drop 0) (fun x hx => hc x (List.mem_of_mem_drop hx))
        generalize pWord 8 (c.drop 0) = w at hw hwl ⊢
        have hok : ∀ r ∈ [x, y], r.ok := fun r hr => by
          simp only [List.mem_cons, List.not_mem_nil, or_false] at hr
          rcases hr with rfl | rfl
          · exact ox
          · exact oy
        have hnl : Rx.nodesL [x, y] = x.nodes + y.nodes := by simp only [Rx.nodesL]; omega
        have htl : Rx.tidyL [x, y] := ⟨tx, ty, trivial⟩
        have kc := catR_ok hok
        have nc := catR_nodes [x, y]
        have ka := altR_ok hok
        have na := altR_nodes [x, y]
        have e10 : 2 ^ (9 + 1) = 1024 := rfl
        obtain ⟨z, hz⟩ : ∃ z, z = starR x := ⟨_, rfl⟩
        have oz : z.ok := by rw [hz]; exact starR_ok ox
        have lz : ∀ w, z.lang w ↔ Star x.lang w := by rw [hz]; exact starR_lang (by omega) tx
        refine l_cons rfl (p_alloc ze_29 fun s7 => ?_)
        refine l_cons rfl (p_alloc ze_29 fun s8 => ?_)
        refine l_cons rfl (p_store ty_29 ?_)
        refine l_cons rfl (p_store ty_29 ?_)
        refine l_cons rfl (p_assign ?_)
        refine l_nil ?_
        refine k_seq_normal ?_
        refine w_seq ?_
        refine w_region ?_
        refine l_cons rfl (p_move ?_)
        first | refine l_cons rfl (p_lenl sl_22 ?_) | refine l_cons rfl (p_leno sl_22 ?_) | refine l_cons rfl (p_lenn sl_22 ?_)
        refine l_cons rfl (p_cmp ?_)
        refine l_cons rfl (p_assign ?_)
        refine l_cons rfl (p_assign ?_)
        refine l_nil ?_
        refine k_seq_normal ?_
        refine w_seq ?_
        refine w_seq ?_
        refine w_region ?_
        refine l_cons rfl (p_assign ?_)
        refine l_nil ?_
        refine k_seq_normal ?_
        refine w_block ?_
        refine w_loop (fun m f es' => ∃ k, m = w.length + 1 - k ∧ k ≤ w.length + 1 ∧ es' = .row s8 29 6 [y.cells] :: .row s7 29 6 [x.cells] :: es6 ∧ Knows f [(7, .ptr es6.length s7 0 0), (8, .ptr (es6.length + 1) s8 0 0), (9, .list 1 (w.map fun n => [.int .u8 n])), (10, .bool (joinB (inR x) (inR y) w k)), (11, .bool (manyB (inR x) (inR z) w k)), (12, .int .i64 (k : Int))]) (w.length + 1) (⟨0, rfl, by omega, rfl, by simp only [Knows, put, upd_apply, Nat.reduceEqDiff, ↓reduceIte, and_true, true_and, eq_self, joinB, manyB, List.range_zero, List.any_nil, Bool.or_false, List.length_map]; and_intros <;> first | rfl | (simp; done)⟩) ?_
        rintro m f es' ⟨k, rfl, hk1, rfl, hk⟩
        refine w_pins _ (Sub.refl _) (hk) ?_
        simp only [pins]
        refine w_seq ?_
        refine w_seq ?_
        refine w_region ?_
        refine l_cons rfl (p_move ?_)
        refine l_cons rfl (p_move ?_)
        refine l_cons rfl (p_lenl sl_22 ?_)
        refine l_cons rfl (p_cmp ?_)
        refine l_nil ?_
        refine k_seq_normal ?_
        refine w_b (fun h4 => ?_) (fun h4 => ?_)
        · skip
          have h4' := h4; (try simp only [decide_eq_true_eq, decide_eq_false_iff_not, Bool.not_eq_true', Bool.not_false, Bool.not_true, Bool.not_eq_false'] at h4')
          refine w_skip ?_
          refine k_seq_normal ?_
          refine w_seq ?_
          refine w_block ?_
          refine w_seq ?_
          refine w_drawn 12 [] (fun e => e = _) mixed (by kernel_rfl) rfl ?_
          refine q1 10 (hg := rfl) (hu := rfl) (h := by rintro f _ rfl; exact p_move ⟨rfl, rfl⟩) (k := ?_)
          refine q1 47 (hg := rfl) (hu := rfl) (h := by rintro f _ rfl; exact p_move ⟨rfl, rfl⟩) (k := ?_)
          refine qsplit 48 (fun h5 => ?_) (fun h5 => ?_)
          · skip
            have h5' := h5; (try simp only [decide_eq_true_eq, decide_eq_false_iff_not, Bool.not_eq_true', Bool.not_false, Bool.not_true, Bool.not_eq_false'] at h5')
            refine qn rfl h5 ?_
            refine qn rfl h5 ?_
            refine qn rfl h5 ?_
            refine qn rfl h5 ?_
            refine qn rfl h5 ?_
            refine qn rfl h5 ?_
            refine qu rfl ?_
            refine qu rfl ?_
            refine qu rfl ?_
            refine qu rfl ?_
            refine q_end ?_
            refine m_end ?_
            refine g_u rfl ?_
            refine g_n rfl h5 ?_
            refine l_cons rfl (p_pickt h5 ?_)
            refine l_cons rfl (p_assign ?_)
            refine l_nil ?_
            refine k_seq_normal ?_
            refine w_drawn 17 [] (fun e => e = _) mixed (by kernel_rfl) rfl ?_
            refine q1 11 (hg := rfl) (hu := rfl) (h := by rintro f _ rfl; exact p_move ⟨rfl, rfl⟩) (k := ?_)
            refine q1 62 (hg := rfl) (hu := rfl) (h := by rintro f _ rfl; exact p_move ⟨rfl, rfl⟩) (k := ?_)
            refine qsplit 63 (fun h6 => ?_) (fun h6 => ?_)
            · skip
              have h6' := h6; (try simp only [decide_eq_true_eq, decide_eq_false_iff_not, Bool.not_eq_true', Bool.not_false, Bool.not_true, Bool.not_eq_false'] at h6')
              refine qn rfl h6 ?_
              refine qn rfl h6 ?_
              refine qn rfl h6 ?_
              refine qu rfl ?_
              refine qu rfl ?_
              refine qu rfl ?_
              refine qu rfl ?_
              refine qu rfl ?_
              refine qn rfl h6 ?_
              refine qn rfl h6 ?_
              refine qu rfl ?_
              refine qu rfl ?_
              refine qu rfl ?_
              refine qu rfl ?_
              refine qu rfl ?_
              refine q_end ?_
              refine m_end ?_
              refine g_u rfl ?_
              refine g_n rfl h6 ?_
              refine l_cons rfl (p_pickt h6 ?_)
              refine l_cons rfl (p_assign ?_)
              refine l_nil ?_
              refine k_blk_normal ?_
              refine k_seq_normal ?_
              refine w_region ?_
              refine l_cons rfl (p_move ?_)
              refine l_cons rfl (p_arith ?_)
              refine l_cons rfl (p_assign ?_)
              refine l_nil ?_
              refine k_seq_normal ?_
              refine ⟨w.length + 1 - (k + 1), by omega, k + 1, rfl, by omega, rfl, ?_⟩
              simp only [Knows, put, upd_apply, Nat.reduceEqDiff, ↓reduceIte, and_true, true_and, eq_self, joinB_succ, manyB_succ, show decide (0 < k) = decide ((k : Int) > 0) by simp]
              and_intros <;> first | rfl | (simp only [*, Bool.and_false, Bool.false_and, Bool.and_true, Bool.true_and, Bool.or_false, Bool.or_true, Bool.false_or, Bool.true_or, Bool.and_self]; done) | (simp_all; done) | (simp_all; omega)
            · skip
              have h6' := h6; (try simp only [decide_eq_true_eq, decide_eq_false_iff_not, Bool.not_eq_true', Bool.not_false, Bool.not_true, Bool.not_eq_false'] at h6')
              refine qy1 12 (hg := rfl) (hw := h6) (hu := rfl) (h := by rintro f _ rfl; exact p_move ⟨rfl, rfl⟩) (k := ?_)
              refine qy1 64 (hg := rfl) (hw := h6) (hu := rfl) (h := by rintro f _ rfl; exact p_cmp ⟨rfl, rfl⟩) (k := ?_)
              refine qy1 65 (hg := rfl) (hw := h6) (hu := rfl) (h := by rintro f _ rfl; exact p_move ⟨rfl, rfl⟩) (k := ?_)
              refine qsplit 66 (fun h7 => ?_) (fun h7 => ?_)
              · skip
                have h7' := h7; (try simp only [decide_eq_true_eq, decide_eq_false_iff_not, Bool.not_eq_true', Bool.not_false, Bool.not_true, Bool.not_eq_false'] at h7')
                refine qy1 7 (hg := rfl) (hw := h7) (hu := rfl) (h := by rintro f _ rfl; exact p_loadp ty_29 ⟨rfl, rfl⟩) (k := ?_)
                refine qy1 9 (hg := rfl) (hw := h7) (hu := rfl) (h := by rintro f _ rfl; exact p_move ⟨rfl, rfl⟩) (k := ?_)
                refine qy1 12 (hg := rfl) (hw := h7) (hu := rfl) (h := by rintro f _ rfl; exact p_move ⟨rfl, rfl⟩) (k := ?_)
                refine qy2 68 69 (hg := rfl) (hw := h7) (hu := rfl) (h := by rintro f _ rfl; exact p_slicel (l := _) (h := k) sl_22 ⟨rfl, rfl⟩) (k := ?_)
                refine qy2 67 70 (hg := rfl) (hw := h7) (hu := rfl) (h := by rintro f _ rfl; exact p_callr en_58 (in_pre x w ox hw (by omega) k) ⟨rfl, rfl⟩) (k := ?_)
                refine qy2 66 71 (hg := rfl) (hw := h6) (hu := rfl) (h := by rintro f _ rfl; exact p_pickt h7 ⟨rfl, rfl⟩) (k := ?_)
                refine qy1 72 (hg := rfl) (hw := h6) (hu := rfl) (h := by rintro f _ rfl; exact p_move ⟨rfl, rfl⟩) (k := ?_)
                refine qsplit 73 (fun h8 => ?_) (fun h8 => ?_)
                · skip
                  have h8' := h8; (try simp only [decide_eq_true_eq, decide_eq_false_iff_not, Bool.not_eq_true', Bool.not_false, Bool.not_true, Bool.not_eq_false'] at h8')
                  refine qy1 7 (hg := rfl) (hw := h8) (hu := rfl) (h := by rintro f _ rfl; exact p_loadp ty_29 ⟨rfl, rfl⟩) (k := ?_)
                  refine qy1 74 (hg := rfl) (hw := h8) (hu := rfl) (h := by rintro f _ rfl; exact p_callr en_41 (starZ hz (by omega) ox) ⟨rfl, rfl⟩) (k := ?_)
                  refine qy1 9 (hg := rfl) (hw := h8) (hu := rfl) (h := by rintro f _ rfl; exact p_move ⟨rfl, rfl⟩) (k := ?_)
                  refine qy1 12 (hg := rfl) (hw := h8) (hu := rfl) (h := by rintro f _ rfl; exact p_move ⟨rfl, rfl⟩) (k := ?_)
                  refine qy2 76 77 (hg := rfl) (hw := h8) (hu := rfl) (h := by rintro f _ rfl; exact p_slicel (l := k) (h := _) sl_22 ⟨rfl, rfl⟩ (hlh := by simp only [List.length_map]; omega)) (k := ?_)
                  refine q_end ?_
                  refine m_end ?_
                  refine g_y rfl h8 (p_callr en_58 (in_suf z w oz hw (by omega) k) ?_)
                  refine g_y rfl h6 (p_pickt h8 ?_)
                  refine l_cons rfl (p_pickf h6 ?_)
                  refine l_cons rfl (p_assign ?_)
                  refine l_nil ?_
                  refine k_blk_normal ?_
                  refine k_seq_normal ?_
                  refine w_region ?_
                  refine l_cons rfl (p_move ?_)
                  refine l_cons rfl (p_arith ?_)
                  refine l_cons rfl (p_assign ?_)
                  refine l_nil ?_
                  refine k_seq_normal ?_
                  refine ⟨w.length + 1 - (k + 1), by omega, k + 1, rfl, by omega, rfl, ?_⟩
                  simp only [Knows, put, upd_apply, Nat.reduceEqDiff, ↓reduceIte, and_true, true_and, eq_self, joinB_succ, manyB_succ, show decide (0 < k) = decide ((k : Int) > 0) by simp]
                  and_intros <;> first | rfl | (simp only [*, Bool.and_false, Bool.false_and, Bool.and_true, Bool.true_and, Bool.or_false, Bool.or_true, Bool.false_or, Bool.true_or, Bool.and_self]; done) | (simp_all; done) | (simp_all; omega)
                · skip
                  have h8' := h8; (try simp only [decide_eq_true_eq, decide_eq_false_iff_not, Bool.not_eq_true', Bool.not_false, Bool.not_true, Bool.not_eq_false'] at h8')
                  refine qn rfl h8 ?_
                  refine qn rfl h8 ?_
                  refine qn rfl h8 ?_
                  refine qn rfl h8 ?_
                  refine qn rfl h8 ?_
                  refine q_end ?_
                  refine m_end ?_
                  refine g_n rfl h8 ?_
                  refine g_y rfl h6 (p_pickf h8 ?_)
                  refine l_cons rfl (p_pickf h6 ?_)
                  refine l_cons rfl (p_assign ?_)
                  refine l_nil ?_
                  refine k_blk_normal ?_
                  refine k_seq_normal ?_
                  refine w_region ?_
                  refine l_cons rfl (p_move ?_)
                  refine l_cons rfl (p_arith ?_)
                  refine l_cons rfl (p_assign ?_)
                  refine l_nil ?_
                  refine k_seq_normal ?_
                  refine ⟨w.length + 1 - (k + 1), by omega, k + 1, rfl, by omega, rfl, ?_⟩
                  simp only [Knows, put, upd_apply, Nat.reduceEqDiff, ↓reduceIte, and_true, true_and, eq_self, joinB_succ, manyB_succ, show decide (0 < k) = decide ((k : Int) > 0) by simp]
                  and_intros <;> first | rfl | (simp only [*, Bool.and_false, Bool.false_and, Bool.and_true, Bool.true_and, Bool.or_false, Bool.or_true, Bool.false_or, Bool.true_or, Bool.and_self]; done) | (simp_all; done) | (simp_all; omega)
              · skip
                have h7' := h7; (try simp only [decide_eq_true_eq, decide_eq_false_iff_not, Bool.not_eq_true', Bool.not_false, Bool.not_true, Bool.not_eq_false'] at h7')
                refine qn rfl h7 ?_
                refine qn rfl h7 ?_
                refine qn rfl h7 ?_
                refine qn rfl h7 ?_
                refine qn rfl h7 ?_
                refine qy2 66 71 (hg := rfl) (hw := h6) (hu := rfl) (h := by rintro f _ rfl; exact p_pickf h7 ⟨rfl, rfl⟩) (k := ?_)
                refine qy1 72 (hg := rfl) (hw := h6) (hu := rfl) (h := by rintro f _ rfl; exact p_move ⟨rfl, rfl⟩) (k := ?_)
                refine qn rfl rfl ?_
                refine qn rfl rfl ?_
                refine qn rfl rfl ?_
                refine qn rfl rfl ?_
                refine qn rfl rfl ?_
                refine q_end ?_
                refine m_end ?_
                refine g_n rfl rfl ?_
                refine g_y rfl h6 (p_pickf rfl ?_)
                refine l_cons rfl (p_pickf h6 ?_)
                refine l_cons rfl (p_assign ?_)
                refine l_nil ?_
                refine k_blk_normal ?_
                refine k_seq_normal ?_
                refine w_region ?_
                refine l_cons rfl (p_move ?_)
                refine l_cons rfl (p_arith ?_)
                refine l_cons rfl (p_assign ?_)
                refine l_nil ?_
                refine k_seq_normal ?_
                refine ⟨w.length + 1 - (k + 1), by omega, k + 1, rfl, by omega, rfl, ?_⟩
                simp only [Knows, put, upd_apply, Nat.reduceEqDiff, ↓reduceIte, and_true, true_and, eq_self, joinB_succ, manyB_succ, show decide (0 < k) = decide ((k : Int) > 0) by simp]
                and_intros <;> first | rfl | (simp only [*, Bool.and_false, Bool.false_and, Bool.and_true, Bool.true_and, Bool.or_false, Bool.or_true, Bool.false_or, Bool.true_or, Bool.and_self]; done) | (simp_all; done) | (simp_all; omega)
          · skip
            have h5' := h5; (try simp only [decide_eq_true_eq, decide_eq_false_iff_not, Bool.not_eq_true', Bool.not_false, Bool.not_true, Bool.not_eq_false'] at h5')
            refine qy1 7 (hg := rfl) (hw := h5) (hu := rfl) (h := by rintro f _ rfl; exact p_loadp ty_29 ⟨rfl, rfl⟩) (k := ?_)
            refine qy1 9 (hg := rfl) (hw := h5) (hu := rfl) (h := by rintro f _ rfl; exact p_move ⟨rfl, rfl⟩) (k := ?_)
            refine qy1 12 (hg := rfl) (hw := h5) (hu := rfl) (h := by rintro f _ rfl; exact p_move ⟨rfl, rfl⟩) (k := ?_)
            refine qy2 50 51 (hg := rfl) (hw := h5) (hu := rfl) (h := by rintro f _ rfl; exact p_slicel (l := _) (h := k) sl_22 ⟨rfl, rfl⟩) (k := ?_)
            refine qy2 49 52 (hg := rfl) (hw := h5) (hu := rfl) (h := by rintro f _ rfl; exact p_callr en_58 (in_pre x w ox hw (by omega) k) ⟨rfl, rfl⟩) (k := ?_)
            refine qy1 53 (hg := rfl) (hw := h5) (hu := rfl) (h := by rintro f _ rfl; exact p_move ⟨rfl, rfl⟩) (k := ?_)
            refine qsplit 54 (fun h9 => ?_) (fun h9 => ?_)
            · skip
              have h9' := h9; (try simp only [decide_eq_true_eq, decide_eq_false_iff_not, Bool.not_eq_true', Bool.not_false, Bool.not_true, Bool.not_eq_false'] at h9')
              refine qy1 8 (hg := rfl) (hw := h9) (hu := rfl) (h := by rintro f _ rfl; exact p_loadp ty_29 ⟨rfl, rfl⟩) (k := ?_)
              refine qy1 9 (hg := rfl) (hw := h9) (hu := rfl) (h := by rintro f _ rfl; exact p_move ⟨rfl, rfl⟩) (k := ?_)
              refine qy1 12 (hg := rfl) (hw := h9) (hu := rfl) (h := by rintro f _ rfl; exact p_move ⟨rfl, rfl⟩) (k := ?_)
              refine qy2 56 57 (hg := rfl) (hw := h9) (hu := rfl) (h := by rintro f _ rfl; exact p_slicel (l := k) (h := _) sl_22 ⟨rfl, rfl⟩ (hlh := by simp only [List.length_map]; omega)) (k := ?_)
              refine q_end ?_
              refine m_end ?_
              refine g_y rfl h9 (p_callr en_58 (in_suf y w oy hw (by omega) k) ?_)
              refine g_y rfl h5 (p_pickt h9 ?_)
              refine l_cons rfl (p_pickf h5 ?_)
              refine l_cons rfl (p_assign ?_)
              refine l_nil ?_
              refine k_seq_normal ?_
              refine w_drawn 17 [] (fun e => e = _) mixed (by kernel_rfl) rfl ?_
              refine q1 11 (hg := rfl) (hu := rfl) (h := by rintro f _ rfl; exact p_move ⟨rfl, rfl⟩) (k := ?_)
              refine q1 62 (hg := rfl) (hu := rfl) (h := by rintro f _ rfl; exact p_move ⟨rfl, rfl⟩) (k := ?_)
              refine qsplit 63 (fun h10 => ?_) (fun h10 => ?_)
              · skip
                have h10' := h10; (try simp only [decide_eq_true_eq, decide_eq_false_iff_not, Bool.not_eq_true', Bool.not_false, Bool.not_true, Bool.not_eq_false'] at h10')
                refine qn rfl h10 ?_
                refine qn rfl h10 ?_
                refine qn rfl h10 ?_
                refine qu rfl ?_
                refine qu rfl ?_
                refine qu rfl ?_
                refine qu rfl ?_
                refine qu rfl ?_
                refine qn rfl h10 ?_
                refine qn rfl h10 ?_
                refine qu rfl ?_
                refine qu rfl ?_
                refine qu rfl ?_
                refine qu rfl ?_
                refine qu rfl ?_
                refine q_end ?_
                refine m_end ?_
                refine g_u rfl ?_
                refine g_n rfl h10 ?_
                refine l_cons rfl (p_pickt h10 ?_)
                refine l_cons rfl (p_assign ?_)
                refine l_nil ?_
                refine k_blk_normal ?_
                refine k_seq_normal ?_
                refine w_region ?_
                refine l_cons rfl (p_move ?_)
                refine l_cons rfl (p_arith ?_)
                refine l_cons rfl (p_assign ?_)
                refine l_nil ?_
                refine k_seq_normal ?_
                refine ⟨w.length + 1 - (k + 1), by omega, k + 1, rfl, by omega, rfl, ?_⟩
                simp only [Knows, put, upd_apply, Nat.reduceEqDiff, ↓reduceIte, and_true, true_and, eq_self, joinB_succ, manyB_succ, show decide (0 < k) = decide ((k : Int) > 0) by simp]
                and_intros <;> first | rfl | (simp only [*, Bool.and_false, Bool.false_and, Bool.and_true, Bool.true_and, Bool.or_false, Bool.or_true, Bool.false_or, Bool.true_or, Bool.and_self]; done) | (simp_all; done) | (simp_all; omega)
              · skip
                have h10' := h10; (try simp only [decide_eq_true_eq, decide_eq_false_iff_not, Bool.not_eq_true', Bool.not_false, Bool.not_true, Bool.not_eq_false'] at h10')
                refine qy1 12 (hg := rfl) (hw := h10) (hu := rfl) (h := by rintro f _ rfl; exact p_move ⟨rfl, rfl⟩) (k := ?_)
                refine qy1 64 (hg := rfl) (hw := h10) (hu := rfl) (h := by rintro f _ rfl; exact p_cmp ⟨rfl, rfl⟩) (k := ?_)
                refine qy1 65 (hg := rfl) (hw := h10) (hu := rfl) (h := by rintro f _ rfl; exact p_move ⟨rfl, rfl⟩) (k := ?_)
                refine qsplit 66 (fun h11 => ?_) (fun h11 => ?_)
                · skip
                  have h11' := h11; (try simp only [decide_eq_true_eq, decide_eq_false_iff_not, Bool.not_eq_true', Bool.not_false, Bool.not_true, Bool.not_eq_false'] at h11')
                  refine qy1 7 (hg := rfl) (hw := h11) (hu := rfl) (h := by rintro f _ rfl; exact p_loadp ty_29 ⟨rfl, rfl⟩) (k := ?_)
                  refine qy1 9 (hg := rfl) (hw := h11) (hu := rfl) (h := by rintro f _ rfl; exact p_move ⟨rfl, rfl⟩) (k := ?_)
                  refine qy1 12 (hg := rfl) (hw := h11) (hu := rfl) (h := by rintro f _ rfl; exact p_move ⟨rfl, rfl⟩) (k := ?_)
                  refine qy2 68 69 (hg := rfl) (hw := h11) (hu := rfl) (h := by rintro f _ rfl; exact p_slicel (l := _) (h := k) sl_22 ⟨rfl, rfl⟩) (k := ?_)
                  refine qy2 67 70 (hg := rfl) (hw := h11) (hu := rfl) (h := by rintro f _ rfl; exact p_callr en_58 (in_pre x w ox hw (by omega) k) ⟨rfl, rfl⟩) (k := ?_)
                  refine qy2 66 71 (hg := rfl) (hw := h10) (hu := rfl) (h := by rintro f _ rfl; exact p_pickt h11 ⟨rfl, rfl⟩) (k := ?_)
                  refine qy1 72 (hg := rfl) (hw := h10) (hu := rfl) (h := by rintro f _ rfl; exact p_move ⟨rfl, rfl⟩) (k := ?_)
                  refine qsplit 73 (fun h12 => ?_) (fun h12 => ?_)
                  · skip
                    have h12' := h12; (try simp only [decide_eq_true_eq, decide_eq_false_iff_not, Bool.not_eq_true', Bool.not_false, Bool.not_true, Bool.not_eq_false'] at h12')
                    refine qy1 7 (hg := rfl) (hw := h12) (hu := rfl) (h := by rintro f _ rfl; exact p_loadp ty_29 ⟨rfl, rfl⟩) (k := ?_)
                    refine qy1 74 (hg := rfl) (hw := h12) (hu := rfl) (h := by rintro f _ rfl; exact p_callr en_41 (starZ hz (by omega) ox) ⟨rfl, rfl⟩) (k := ?_)
                    refine qy1 9 (hg := rfl) (hw := h12) (hu := rfl) (h := by rintro f _ rfl; exact p_move ⟨rfl, rfl⟩) (k := ?_)
                    refine qy1 12 (hg := rfl) (hw := h12) (hu := rfl) (h := by rintro f _ rfl; exact p_move ⟨rfl, rfl⟩) (k := ?_)
                    refine qy2 76 77 (hg := rfl) (hw := h12) (hu := rfl) (h := by rintro f _ rfl; exact p_slicel (l := k) (h := _) sl_22 ⟨rfl, rfl⟩ (hlh := by simp only [List.length_map]; omega)) (k := ?_)
                    refine q_end ?_
                    refine m_end ?_
                    refine g_y rfl h12 (p_callr en_58 (in_suf z w oz hw (by omega) k) ?_)
                    refine g_y rfl h10 (p_pickt h12 ?_)
                    refine l_cons rfl (p_pickf h10 ?_)
                    refine l_cons rfl (p_assign ?_)
                    refine l_nil ?_
                    refine k_blk_normal ?_
                    refine k_seq_normal ?_
                    refine w_region ?_
                    refine l_cons rfl (p_move ?_)
                    refine l_cons rfl (p_arith ?_)
                    refine l_cons rfl (p_assign ?_)
                    refine l_nil ?_
                    refine k_seq_normal ?_
                    refine ⟨w.length + 1 - (k + 1), by omega, k + 1, rfl, by omega, rfl, ?_⟩
                    simp only [Knows, put, upd_apply, Nat.reduceEqDiff, ↓reduceIte, and_true, true_and, eq_self, joinB_succ, manyB_succ, show decide (0 < k) = decide ((k : Int) > 0) by simp]
                    and_intros <;> first | rfl | (simp only [*, Bool.and_false, Bool.false_and, Bool.and_true, Bool.true_and, Bool.or_false, Bool.or_true, Bool.false_or, Bool.true_or, Bool.and_self]; done) | (simp_all; done) | (simp_all; omega)
                  · skip
                    have h12' := h12; (try simp only [decide_eq_true_eq, decide_eq_false_iff_not, Bool.not_eq_true', Bool.not_false, Bool.not_true, Bool.not_eq_false'] at h12')
                    refine qn rfl h12 ?_
                    refine qn rfl h12 ?_
                    refine qn rfl h12 ?_
                    refine qn rfl h12 ?_
                    refine qn rfl h12 ?_
                    refine q_end ?_
                    refine m_end ?_
                    refine g_n rfl h12 ?_
                    refine g_y rfl h10 (p_pickf h12 ?_)
                    refine l_cons rfl (p_pickf h10 ?_)
                    refine l_cons rfl (p_assign ?_)
                    refine l_nil ?_
                    refine k_blk_normal ?_
                    refine k_seq_normal ?_
                    refine w_region ?_
                    refine l_cons rfl (p_move ?_)
                    refine l_cons rfl (p_arith ?_)
                    refine l_cons rfl (p_assign ?_)
                    refine l_nil ?_
                    refine k_seq_normal ?_
                    refine ⟨w.length + 1 - (k + 1), by omega, k + 1, rfl, by omega, rfl, ?_⟩
                    simp only [Knows, put, upd_apply, Nat.reduceEqDiff, ↓reduceIte, and_true, true_and, eq_self, joinB_succ, manyB_succ, show decide (0 < k) = decide ((k : Int) > 0) by simp]
                    and_intros <;> first | rfl | (simp only [*, Bool.and_false, Bool.false_and, Bool.and_true, Bool.true_and, Bool.or_false, Bool.or_true, Bool.false_or, Bool.true_or, Bool.and_self]; done) | (simp_all; done) | (simp_all; omega)
                · skip
                  have h11' := h11; (try simp only [decide_eq_true_eq, decide_eq_false_iff_not, Bool.not_eq_true', Bool.not_false, Bool.not_true, Bool.not_eq_false'] at h11')
                  refine qn rfl h11 ?_
                  refine qn rfl h11 ?_
                  refine qn rfl h11 ?_
                  refine qn rfl h11 ?_
                  refine qn rfl h11 ?_
                  refine qy2 66 71 (hg := rfl) (hw := h10) (hu := rfl) (h := by rintro f _ rfl; exact p_pickf h11 ⟨rfl, rfl⟩) (k := ?_)
                  refine qy1 72 (hg := rfl) (hw := h10) (hu := rfl) (h := by rintro f _ rfl; exact p_move ⟨rfl, rfl⟩) (k := ?_)
                  refine qn rfl rfl ?_
                  refine qn rfl rfl ?_
                  refine qn rfl rfl ?_
                  refine qn rfl rfl ?_
                  refine qn rfl rfl ?_
                  refine q_end ?_
                  refine m_end ?_
                  refine g_n rfl rfl ?_
                  refine g_y rfl h10 (p_pickf rfl ?_)
                  refine l_cons rfl (p_pickf h10 ?_)
                  refine l_cons rfl (p_assign ?_)
                  refine l_nil ?_
                  refine k_blk_normal ?_
                  refine k_seq_normal ?_
                  refine w_region ?_
                  refine l_cons rfl (p_move ?_)
                  refine l_cons rfl (p_arith ?_)
                  refine l_cons rfl (p_assign ?_)
                  refine l_nil ?_
                  refine k_seq_normal ?_
                  refine ⟨w.length + 1 - (k + 1), by omega, k + 1, rfl, by omega, rfl, ?_⟩
                  simp only [Knows, put, upd_apply, Nat.reduceEqDiff, ↓reduceIte, and_true, true_and, eq_self, joinB_succ, manyB_succ, show decide (0 < k) = decide ((k : Int) > 0) by simp]
                  and_intros <;> first | rfl | (simp only [*, Bool.and_false, Bool.false_and, Bool.and_true, Bool.true_and, Bool.or_false, Bool.or_true, Bool.false_or, Bool.true_or, Bool.and_self]; done) | (simp_all; done) | (simp_all; omega)
            · skip
              have h9' := h9; (try simp only [decide_eq_true_eq, decide_eq_false_iff_not, Bool.not_eq_true', Bool.not_false, Bool.not_true, Bool.not_eq_false'] at h9')
              refine qn rfl h9 ?_
              refine qn rfl h9 ?_
              refine qn rfl h9 ?_
              refine qn rfl h9 ?_
              refine q_end ?_
              refine m_end ?_
              refine g_n rfl h9 ?_
              refine g_y rfl h5 (p_pickf h9 ?_)
              refine l_cons rfl (p_pickf h5 ?_)
              refine l_cons rfl (p_assign ?_)
              refine l_nil ?_
              refine k_seq_normal ?_
              refine w_drawn 17 [] (fun e => e = _) mixed (by kernel_rfl) rfl ?_
              refine q1 11 (hg := rfl) (hu := rfl) (h := by rintro f _ rfl; exact p_move ⟨rfl, rfl⟩) (k := ?_)
              refine q1 62 (hg := rfl) (hu := rfl) (h := by rintro f _ rfl; exact p_move ⟨rfl, rfl⟩) (k := ?_)
              refine qsplit 63 (fun h13 => ?_) (fun h13 => ?_)
              · skip
                have h13' := h13; (try simp only [decide_eq_true_eq, decide_eq_false_iff_not, Bool.not_eq_true', Bool.not_false, Bool.not_true, Bool.not_eq_false'] at h13')
                refine qn rfl h13 ?_
                refine qn rfl h13 ?_
                refine qn rfl h13 ?_
                refine qu rfl ?_
                refine qu rfl ?_
                refine qu rfl ?_
                refine qu rfl ?_
                refine qu rfl ?_
                refine qn rfl h13 ?_
                refine qn rfl h13 ?_
                refine qu rfl ?_
                refine qu rfl ?_
                refine qu rfl ?_
                refine qu rfl ?_
                refine qu rfl ?_
                refine q_end ?_
                refine m_end ?_
                refine g_u rfl ?_
                refine g_n rfl h13 ?_
                refine l_cons rfl (p_pickt h13 ?_)
                refine l_cons rfl (p_assign ?_)
                refine l_nil ?_
                refine k_blk_normal ?_
                refine k_seq_normal ?_
                refine w_region ?_
                refine l_cons rfl (p_move ?_)
                refine l_cons rfl (p_arith ?_)
                refine l_cons rfl (p_assign ?_)
                refine l_nil ?_
                refine k_seq_normal ?_
                refine ⟨w.length + 1 - (k + 1), by omega, k + 1, rfl, by omega, rfl, ?_⟩
                simp only [Knows, put, upd_apply, Nat.reduceEqDiff, ↓reduceIte, and_true, true_and, eq_self, joinB_succ, manyB_succ, show decide (0 < k) = decide ((k : Int) > 0) by simp]
                and_intros <;> first | rfl | (simp only [*, Bool.and_false, Bool.false_and, Bool.and_true, Bool.true_and, Bool.or_false, Bool.or_true, Bool.false_or, Bool.true_or, Bool.and_self]; done) | (simp_all; done) | (simp_all; omega)
              · skip
                have h13' := h13; (try simp only [decide_eq_true_eq, decide_eq_false_iff_not, Bool.not_eq_true', Bool.not_false, Bool.not_true, Bool.not_eq_false'] at h13')
                refine qy1 12 (hg := rfl) (hw := h13) (hu := rfl) (h := by rintro f _ rfl; exact p_move ⟨rfl, rfl⟩) (k := ?_)
                refine qy1 64 (hg := rfl) (hw := h13) (hu := rfl) (h := by rintro f _ rfl; exact p_cmp ⟨rfl, rfl⟩) (k := ?_)
                refine qy1 65 (hg := rfl) (hw := h13) (hu := rfl) (h := by rintro f _ rfl; exact p_move ⟨rfl, rfl⟩) (k := ?_)
                refine qsplit 66 (fun h14 => ?_) (fun h14 => ?_)
                · skip
                  have h14' := h14; (try simp only [decide_eq_true_eq, decide_eq_false_iff_not, Bool.not_eq_true', Bool.not_false, Bool.not_true, Bool.not_eq_false'] at h14')
                  refine qy1 7 (hg := rfl) (hw := h14) (hu := rfl) (h := by rintro f _ rfl; exact p_loadp ty_29 ⟨rfl, rfl⟩) (k := ?_)
                  refine qy1 9 (hg := rfl) (hw := h14) (hu := rfl) (h := by rintro f _ rfl; exact p_move ⟨rfl, rfl⟩) (k := ?_)
                  refine qy1 12 (hg := rfl) (hw := h14) (hu := rfl) (h := by rintro f _ rfl; exact p_move ⟨rfl, rfl⟩) (k := ?_)
                  refine qy2 68 69 (hg := rfl) (hw := h14) (hu := rfl) (h := by rintro f _ rfl; exact p_slicel (l := _) (h := k) sl_22 ⟨rfl, rfl⟩) (k := ?_)
                  refine qy2 67 70 (hg := rfl) (hw := h14) (hu := rfl) (h := by rintro f _ rfl; exact p_callr en_58 (in_pre x w ox hw (by omega) k) ⟨rfl, rfl⟩) (k := ?_)
                  refine qy2 66 71 (hg := rfl) (hw := h13) (hu := rfl) (h := by rintro f _ rfl; exact p_pickt h14 ⟨rfl, rfl⟩) (k := ?_)
                  refine qy1 72 (hg := rfl) (hw := h13) (hu := rfl) (h := by rintro f _ rfl; exact p_move ⟨rfl, rfl⟩) (k := ?_)
                  refine qsplit 73 (fun h15 => ?_) (fun h15 => ?_)
                  · skip
                    have h15' := h15; (try simp only [decide_eq_true_eq, decide_eq_false_iff_not, Bool.not_eq_true', Bool.not_false, Bool.not_true, Bool.not_eq_false'] at h15')
                    refine qy1 7 (hg := rfl) (hw := h15) (hu := rfl) (h := by rintro f _ rfl; exact p_loadp ty_29 ⟨rfl, rfl⟩) (k := ?_)
                    refine qy1 74 (hg := rfl) (hw := h15) (hu := rfl) (h := by rintro f _ rfl; exact p_callr en_41 (starZ hz (by omega) ox) ⟨rfl, rfl⟩) (k := ?_)
                    refine qy1 9 (hg := rfl) (hw := h15) (hu := rfl) (h := by rintro f _ rfl; exact p_move ⟨rfl, rfl⟩) (k := ?_)
                    refine qy1 12 (hg := rfl) (hw := h15) (hu := rfl) (h := by rintro f _ rfl; exact p_move ⟨rfl, rfl⟩) (k := ?_)
                    refine qy2 76 77 (hg := rfl) (hw := h15) (hu := rfl) (h := by rintro f _ rfl; exact p_slicel (l := k) (h := _) sl_22 ⟨rfl, rfl⟩ (hlh := by simp only [List.length_map]; omega)) (k := ?_)
                    refine q_end ?_
                    refine m_end ?_
                    refine g_y rfl h15 (p_callr en_58 (in_suf z w oz hw (by omega) k) ?_)
                    refine g_y rfl h13 (p_pickt h15 ?_)
                    refine l_cons rfl (p_pickf h13 ?_)
                    refine l_cons rfl (p_assign ?_)
                    refine l_nil ?_
                    refine k_blk_normal ?_
                    refine k_seq_normal ?_
                    refine w_region ?_
                    refine l_cons rfl (p_move ?_)
                    refine l_cons rfl (p_arith ?_)
                    refine l_cons rfl (p_assign ?_)
                    refine l_nil ?_
                    refine k_seq_normal ?_
                    refine ⟨w.length + 1 - (k + 1), by omega, k + 1, rfl, by omega, rfl, ?_⟩
                    simp only [Knows, put, upd_apply, Nat.reduceEqDiff, ↓reduceIte, and_true, true_and, eq_self, joinB_succ, manyB_succ, show decide (0 < k) = decide ((k : Int) > 0) by simp]
                    and_intros <;> first | rfl | (simp only [*, Bool.and_false, Bool.false_and, Bool.and_true, Bool.true_and, Bool.or_false, Bool.or_true, Bool.false_or, Bool.true_or, Bool.and_self]; done) | (simp_all; done) | (simp_all; omega)
                  · skip
                    have h15' := h15; (try simp only [decide_eq_true_eq, decide_eq_false_iff_not, Bool.not_eq_true', Bool.not_false, Bool.not_true, Bool.not_eq_false'] at h15')
                    refine qn rfl h15 ?_
                    refine qn rfl h15 ?_
                    refine qn rfl h15 ?_
                    refine qn rfl h15 ?_
                    refine qn rfl h15 ?_
                    refine q_end ?_
                    refine m_end ?_
                    refine g_n rfl h15 ?_
                    refine g_y rfl h13 (p_pickf h15 ?_)
                    refine l_cons rfl (p_pickf h13 ?_)
                    refine l_cons rfl (p_assign ?_)
                    refine l_nil ?_
                    refine k_blk_normal ?_
                    refine k_seq_normal ?_
                    refine w_region ?_
                    refine l_cons rfl (p_move ?_)
                    refine l_cons rfl (p_arith ?_)
                    refine l_cons rfl (p_assign ?_)
                    refine l_nil ?_
                    refine k_seq_normal ?_
                    refine ⟨w.length + 1 - (k + 1), by omega, k + 1, rfl, by omega, rfl, ?_⟩
                    simp only [Knows, put, upd_apply, Nat.reduceEqDiff, ↓reduceIte, and_true, true_and, eq_self, joinB_succ, manyB_succ, show decide (0 < k) = decide ((k : Int) > 0) by simp]
                    and_intros <;> first | rfl | (simp only [*, Bool.and_false, Bool.false_and, Bool.and_true, Bool.true_and, Bool.or_false, Bool.or_true, Bool.false_or, Bool.true_or, Bool.and_self]; done) | (simp_all; done) | (simp_all; omega)
                · skip
                  have h14' := h14; (try simp only [decide_eq_true_eq, decide_eq_false_iff_not, Bool.not_eq_true', Bool.not_false, Bool.not_true, Bool.not_eq_false'] at h14')
                  refine qn rfl h14 ?_
                  refine qn rfl h14 ?_
                  refine qn rfl h14 ?_
                  refine qn rfl h14 ?_
                  refine qn rfl h14 ?_
                  refine qy2 66 71 (hg := rfl) (hw := h13) (hu := rfl) (h := by rintro f _ rfl; exact p_pickf h14 ⟨rfl, rfl⟩) (k := ?_)
                  refine qy1 72 (hg := rfl) (hw := h13) (hu := rfl) (h := by rintro f _ rfl; exact p_move ⟨rfl, rfl⟩) (k := ?_)
                  refine qn rfl rfl ?_
                  refine qn rfl rfl ?_
                  refine qn rfl rfl ?_
                  refine qn rfl rfl ?_
                  refine qn rfl rfl ?_
                  refine q_end ?_
                  refine m_end ?_
                  refine g_n rfl rfl ?_
                  refine g_y rfl h13 (p_pickf rfl ?_)
                  refine l_cons rfl (p_pickf h13 ?_)
                  refine l_cons rfl (p_assign ?_)
                  refine l_nil ?_
                  refine k_blk_normal ?_
                  refine k_seq_normal ?_
                  refine w_region ?_
                  refine l_cons rfl (p_move ?_)
                  refine l_cons rfl (p_arith ?_)
                  refine l_cons rfl (p_assign ?_)
                  refine l_nil ?_
                  refine k_seq_normal ?_
                  refine ⟨w.length + 1 - (k + 1), by omega, k + 1, rfl, by omega, rfl, ?_⟩
                  simp only [Knows, put, upd_apply, Nat.reduceEqDiff, ↓reduceIte, and_true, true_and, eq_self, joinB_succ, manyB_succ, show decide (0 < k) = decide ((k : Int) > 0) by simp]
                  and_intros <;> first | rfl | (simp only [*, Bool.and_false, Bool.false_and, Bool.and_true, Bool.true_and, Bool.or_false, Bool.or_true, Bool.false_or, Bool.true_or, Bool.and_self]; done) | (simp_all; done) | (simp_all; omega)
        · skip
          have h4' := h4; (try simp only [decide_eq_true_eq, decide_eq_false_iff_not, Bool.not_eq_true', Bool.not_false, Bool.not_true, Bool.not_eq_false'] at h4')
          refine w_exit ?_
          refine k_seq_exit ?_
          refine k_seq_exit ?_
          refine k_blk_here ?_
          refine k_seq_normal ?_
          refine w_seq ?_
          refine w_region ?_
          refine l_cons rfl (p_loadp ty_29 ?_)
          refine l_cons rfl (p_loadp ty_29 ?_)
          refine l_cons rfl (p_buildList sl_27 ze_29 (rows := [x.cells, y.cells]) ?_ (hr := rfl))
          refine l_cons rfl (p_assign ?_)
          refine l_nil ?_
          refine k_seq_normal ?_
          refine w_seq ?_
          have hkn : k = w.length + 1 := by clear hw; omega
          have j3 := in_cat (catR_lang [x, y]) w
          have j4 := in_alt (altR_lang htl) w
          have j5 := in_star lz w
          rw [← hkn] at j3 j5
          clear hk hgx hgy hg6 lz htl tx ty nc na
          refine w_drawn 27 [] (fun e => e = _) mixed (by kernel_rfl) rfl ?_
          refine q1 13 (hg := rfl) (hu := rfl) (h := by rintro f _ rfl; exact p_move ⟨rfl, rfl⟩) (k := ?_)
          refine q1 85 (hg := rfl) (hu := rfl) (h := by rintro f _ rfl; exact p_callr en_39 (refCat [x, y] (by omega)) ⟨rfl, rfl⟩) (k := ?_)
          refine q1 9 (hg := rfl) (hu := rfl) (h := by rintro f _ rfl; exact p_move ⟨rfl, rfl⟩) (k := ?_)
          refine q2 86 87 (hg := rfl) (hu := rfl) (h := by rintro f _ rfl; exact p_callr en_58 (In_walk (catR [x, y]) w kc hw (by omega)) ⟨rfl, rfl⟩) (k := ?_)
          refine q1 10 (hg := rfl) (hu := rfl) (h := by rintro f _ rfl; exact p_move ⟨rfl, rfl⟩) (k := ?_)
          refine q2 88 89 (hg := rfl) (hu := rfl) (h := by rintro f _ rfl; exact p_eqb ub_4 ⟨rfl, rfl⟩) (k := ?_)
          refine q1 90 (hg := rfl) (hu := rfl) (h := by rintro f _ rfl; exact p_move ⟨rfl, rfl⟩) (k := ?_)
          refine qsplit 91 (fun h16 => ?_) (fun h16 => ?_)
          · skip
            have h16' := h16; (try simp only [decide_eq_true_eq, decide_eq_false_iff_not, Bool.not_eq_true', Bool.not_false, Bool.not_true, Bool.not_eq_false'] at h16')
            refine qy1 13 (hg := rfl) (hw := h16) (hu := rfl) (h := by rintro f _ rfl; exact p_move ⟨rfl, rfl⟩) (k := ?_)
            refine qy1 92 (hg := rfl) (hw := h16) (hu := rfl) (h := by rintro f _ rfl; exact p_callr en_40 (refAlt [x, y] hok (by omega)) ⟨rfl, rfl⟩) (k := ?_)
            refine qy1 9 (hg := rfl) (hw := h16) (hu := rfl) (h := by rintro f _ rfl; exact p_move ⟨rfl, rfl⟩) (k := ?_)
            refine qy2 93 94 (hg := rfl) (hw := h16) (hu := rfl) (h := by rintro f _ rfl; exact p_callr en_58 (In_walk (altR [x, y]) w ka hw (by omega)) ⟨rfl, rfl⟩) (k := ?_)
            refine qy1 7 (hg := rfl) (hw := h16) (hu := rfl) (h := by rintro f _ rfl; exact p_loadp ty_29 ⟨rfl, rfl⟩) (k := ?_)
            refine qy1 9 (hg := rfl) (hw := h16) (hu := rfl) (h := by rintro f _ rfl; exact p_move ⟨rfl, rfl⟩) (k := ?_)
            refine qy2 96 97 (hg := rfl) (hw := h16) (hu := rfl) (h := by rintro f _ rfl; exact p_callr en_58 (In_walk x w ox hw (by omega)) ⟨rfl, rfl⟩) (k := ?_)
            refine qy1 98 (hg := rfl) (hw := h16) (hu := rfl) (h := by rintro f _ rfl; exact p_move ⟨rfl, rfl⟩) (k := ?_)
            refine qsplit 99 (fun h17 => ?_) (fun h17 => ?_)
            · skip
              have h17' := h17; (try simp only [decide_eq_true_eq, decide_eq_false_iff_not, Bool.not_eq_true', Bool.not_false, Bool.not_true, Bool.not_eq_false'] at h17')
              refine qn rfl h17 ?_
              refine qn rfl h17 ?_
              refine qn rfl h17 ?_
              refine qy2 99 102 (hg := rfl) (hw := h16) (hu := rfl) (h := by rintro f _ rfl; exact p_pickt h17 ⟨rfl, rfl⟩) (k := ?_)
              refine qy2 95 103 (hg := rfl) (hw := h16) (hu := rfl) (h := by rintro f _ rfl; exact p_eqb ub_4 ⟨rfl, rfl⟩) (k := ?_)
              refine q2 91 104 (hg := rfl) (hu := rfl) (h := by rintro f _ rfl; exact p_pickt h16 ⟨rfl, rfl⟩) (k := ?_)
              refine q1 105 (hg := rfl) (hu := rfl) (h := by rintro f _ rfl; exact p_move ⟨rfl, rfl⟩) (k := ?_)
              refine qsplit 106 (fun h18 => ?_) (fun h18 => ?_)
              · skip
                have h18' := h18; (try simp only [decide_eq_true_eq, decide_eq_false_iff_not, Bool.not_eq_true', Bool.not_false, Bool.not_true, Bool.not_eq_false'] at h18')
                refine qy1 7 (hg := rfl) (hw := h18) (hu := rfl) (h := by rintro f _ rfl; exact p_loadp ty_29 ⟨rfl, rfl⟩) (k := ?_)
                refine qy1 107 (hg := rfl) (hw := h18) (hu := rfl) (h := by rintro f _ rfl; exact p_callr en_41 (starZ hz (by omega) ox) ⟨rfl, rfl⟩) (k := ?_)
                refine qy1 9 (hg := rfl) (hw := h18) (hu := rfl) (h := by rintro f _ rfl; exact p_move ⟨rfl, rfl⟩) (k := ?_)
                refine qy2 108 109 (hg := rfl) (hw := h18) (hu := rfl) (h := by rintro f _ rfl; exact p_callr en_58 (In_walk z w oz hw (by omega)) ⟨rfl, rfl⟩) (k := ?_)
                refine qy1 11 (hg := rfl) (hw := h18) (hu := rfl) (h := by rintro f _ rfl; exact p_move ⟨rfl, rfl⟩) (k := ?_)
                refine q_end ?_
                refine m_end ?_
                refine g_y rfl h18 (p_eqb ub_4 ?_)
                refine l_cons rfl (p_pickt h18 ?_)
                refine l_cons rfl (p_assign ?_)
                refine l_nil ?_
                refine k_seq_normal ?_
                refine w_ret ?_
                exact ret1 rfl (by simp only [ev_tmp, ev_const, ev_func, ofConst_int, ofConst_bool, ofConst_str, ofConst_nil, upd_apply, Nat.reduceEqDiff, ↓reduceIte] <;> exact rfl) (sub_of (es := []) fun _ h => absurd h (Nat.not_lt_zero _)) (by first | rfl | (simp_all; done))
              · skip
                have h18' := h18; (try simp only [decide_eq_true_eq, decide_eq_false_iff_not, Bool.not_eq_true', Bool.not_false, Bool.not_true, Bool.not_eq_false'] at h18')
                refine qn rfl h18 ?_
                refine qn rfl h18 ?_
                refine qn rfl h18 ?_
                refine qn rfl h18 ?_
                refine qn rfl h18 ?_
                refine q_end ?_
                refine m_end ?_
                refine g_n rfl h18 ?_
                refine l_cons rfl (p_pickf h18 ?_)
                refine l_cons rfl (p_assign ?_)
                refine l_nil ?_
                refine k_seq_normal ?_
                refine w_ret ?_
                exact ret1 rfl (by simp only [ev_tmp, ev_const, ev_func, ofConst_int, ofConst_bool, ofConst_str, ofConst_nil, upd_apply, Nat.reduceEqDiff, ↓reduceIte] <;> exact rfl) (sub_of (es := []) fun _ h => absurd h (Nat.not_lt_zero _)) (by first | rfl | (simp_all; done))
            · skip
              have h17' := h17; (try simp only [decide_eq_true_eq, decide_eq_false_iff_not, Bool.not_eq_true', Bool.not_false, Bool.not_true, Bool.not_eq_false'] at h17')
              refine qy1 8 (hg := rfl) (hw := h17) (hu := rfl) (h := by rintro f _ rfl; exact p_loadp ty_29 ⟨rfl, rfl⟩) (k := ?_)
              refine qy1 9 (hg := rfl) (hw := h17) (hu := rfl) (h := by rintro f _ rfl; exact p_move ⟨rfl, rfl⟩) (k := ?_)
              refine qy2 100 101 (hg := rfl) (hw := h17) (hu := rfl) (h := by rintro f _ rfl; exact p_callr en_58 (In_walk y w oy hw (by omega)) ⟨rfl, rfl⟩) (k := ?_)
              refine qy2 99 102 (hg := rfl) (hw := h16) (hu := rfl) (h := by rintro f _ rfl; exact p_pickf h17 ⟨rfl, rfl⟩) (k := ?_)
              refine qy2 95 103 (hg := rfl) (hw := h16) (hu := rfl) (h := by rintro f _ rfl; exact p_eqb ub_4 ⟨rfl, rfl⟩) (k := ?_)
              refine q2 91 104 (hg := rfl) (hu := rfl) (h := by rintro f _ rfl; exact p_pickt h16 ⟨rfl, rfl⟩) (k := ?_)
              refine q1 105 (hg := rfl) (hu := rfl) (h := by rintro f _ rfl; exact p_move ⟨rfl, rfl⟩) (k := ?_)
              refine qsplit 106 (fun h19 => ?_) (fun h19 => ?_)
              · skip
                have h19' := h19; (try simp only [decide_eq_true_eq, decide_eq_false_iff_not, Bool.not_eq_true', Bool.not_false, Bool.not_true, Bool.not_eq_false'] at h19')
                refine qy1 7 (hg := rfl) (hw := h19) (hu := rfl) (h := by rintro f _ rfl; exact p_loadp ty_29 ⟨rfl, rfl⟩) (k := ?_)
                refine qy1 107 (hg := rfl) (hw := h19) (hu := rfl) (h := by rintro f _ rfl; exact p_callr en_41 (starZ hz (by omega) ox) ⟨rfl, rfl⟩) (k := ?_)
                refine qy1 9 (hg := rfl) (hw := h19) (hu := rfl) (h := by rintro f _ rfl; exact p_move ⟨rfl, rfl⟩) (k := ?_)
                refine qy2 108 109 (hg := rfl) (hw := h19) (hu := rfl) (h := by rintro f _ rfl; exact p_callr en_58 (In_walk z w oz hw (by omega)) ⟨rfl, rfl⟩) (k := ?_)
                refine qy1 11 (hg := rfl) (hw := h19) (hu := rfl) (h := by rintro f _ rfl; exact p_move ⟨rfl, rfl⟩) (k := ?_)
                refine q_end ?_
                refine m_end ?_
                refine g_y rfl h19 (p_eqb ub_4 ?_)
                refine l_cons rfl (p_pickt h19 ?_)
                refine l_cons rfl (p_assign ?_)
                refine l_nil ?_
                refine k_seq_normal ?_
                refine w_ret ?_
                exact ret1 rfl (by simp only [ev_tmp, ev_const, ev_func, ofConst_int, ofConst_bool, ofConst_str, ofConst_nil, upd_apply, Nat.reduceEqDiff, ↓reduceIte] <;> exact rfl) (sub_of (es := []) fun _ h => absurd h (Nat.not_lt_zero _)) (by first | rfl | (simp_all; done))
              · skip
                have h19' := h19; (try simp only [decide_eq_true_eq, decide_eq_false_iff_not, Bool.not_eq_true', Bool.not_false, Bool.not_true, Bool.not_eq_false'] at h19')
                refine qn rfl h19 ?_
                refine qn rfl h19 ?_
                refine qn rfl h19 ?_
                refine qn rfl h19 ?_
                refine qn rfl h19 ?_
                refine q_end ?_
                refine m_end ?_
                refine g_n rfl h19 ?_
                refine l_cons rfl (p_pickf h19 ?_)
                refine l_cons rfl (p_assign ?_)
                refine l_nil ?_
                refine k_seq_normal ?_
                refine w_ret ?_
                exact ret1 rfl (by simp only [ev_tmp, ev_const, ev_func, ofConst_int, ofConst_bool, ofConst_str, ofConst_nil, upd_apply, Nat.reduceEqDiff, ↓reduceIte] <;> exact rfl) (sub_of (es := []) fun _ h => absurd h (Nat.not_lt_zero _)) (by first | rfl | (simp_all; done))
          · skip
            have h16' := h16; (try simp only [decide_eq_true_eq, decide_eq_false_iff_not, Bool.not_eq_true', Bool.not_false, Bool.not_true, Bool.not_eq_false'] at h16')
            refine qn rfl h16 ?_
            refine qn rfl h16 ?_
            refine qn rfl h16 ?_
            refine qn rfl h16 ?_
            refine qn rfl h16 ?_
            refine qn rfl h16 ?_
            refine qn rfl h16 ?_
            refine qn rfl h16 ?_
            refine qu rfl ?_
            refine qu rfl ?_
            refine qu rfl ?_
            refine qn rfl h16 ?_
            refine qn rfl h16 ?_
            refine q2 91 104 (hg := rfl) (hu := rfl) (h := by rintro f _ rfl; exact p_pickf h16 ⟨rfl, rfl⟩) (k := ?_)
            refine q1 105 (hg := rfl) (hu := rfl) (h := by rintro f _ rfl; exact p_move ⟨rfl, rfl⟩) (k := ?_)
            refine qn rfl rfl ?_
            refine qn rfl rfl ?_
            refine qn rfl rfl ?_
            refine qn rfl rfl ?_
            refine qn rfl rfl ?_
            refine q_end ?_
            refine m_end ?_
            refine g_n rfl rfl ?_
            refine l_cons rfl (p_pickf rfl ?_)
            refine l_cons rfl (p_assign ?_)
            refine l_nil ?_
            refine k_seq_normal ?_
            refine w_ret ?_
            exact ret1 rfl (by simp only [ev_tmp, ev_const, ev_func, ofConst_int, ofConst_bool, ofConst_str, ofConst_nil, upd_apply, Nat.reduceEqDiff, ↓reduceIte] <;> exact rfl) (sub_of (es := []) fun _ h => absurd h (Nat.not_lt_zero _)) (by first | rfl | (simp_all; done))
    · skip
      have h2' := h2; (try simp only [decide_eq_true_eq, decide_eq_false_iff_not, Bool.not_eq_true', Bool.not_false, Bool.not_true, Bool.not_eq_false'] at h2')
      refine g_n rfl h2 ?_
      refine g_n rfl h2 ?_
      refine l_cons rfl (p_pickt h2 ?_)
      refine l_nil ?_
      refine k_seq_normal ?_
      refine w_t rfl ?_
      refine w_seq ?_
      refine w_region ?_
      refine l_cons rfl (p_assign ?_)
      refine l_nil ?_
      refine k_seq_normal ?_
      refine w_ret ?_
      refine k_seq_ret ?_
      exact ret1 rfl (by simp only [ev_tmp, ev_const, ev_func, ofConst_int, ofConst_bool, ofConst_str, ofConst_nil, upd_apply, Nat.reduceEqDiff, ↓reduceIte] <;> exact rfl) (sub_of (es := []) fun _ h => absurd h (Nat.not_lt_zero _)) (rfl)
  · skip
    have h1' := h1; (try simp only [decide_eq_true_eq, decide_eq_false_iff_not, Bool.not_eq_true', Bool.not_false, Bool.not_true, Bool.not_eq_false'] at h1')
    refine g_n rfl h1 ?_
    refine g_n rfl h1 ?_
    refine l_cons rfl (p_pickt h1 ?_)
    refine l_cons rfl (p_move ?_)
    refine g_n rfl rfl ?_
    refine g_n rfl rfl ?_
    refine g_n rfl rfl ?_
    refine l_cons rfl (p_pickt rfl ?_)
    refine l_nil ?_
    refine k_seq_normal ?_
    refine w_t rfl ?_
    refine w_seq ?_
    refine w_region ?_
    refine l_cons rfl (p_assign ?_)
    refine l_nil ?_
    refine k_seq_normal ?_
    refine w_ret ?_
    refine k_seq_ret ?_
    exact ret1 rfl (by simp only [ev_tmp, ev_const, ev_func, ofConst_int, ofConst_bool, ofConst_str, ofConst_nil, upd_apply, Nat.reduceEqDiff, ↓reduceIte] <;> exact rfl) (sub_of (es := []) fun _ h => absurd h (Nat.not_lt_zero _)) (rfl)
end Go.Proofs.YtfdgbghlanbddaaDoor.Av
set_option linter.unusedVariables false
set_option linter.unusedSimpArgs false
namespace Go.Proofs.YtfdgbghlanbddaaDoor.Av
/-! ### what the constructors make is plain -/
theorem plain_none : noneR.plain = true := by simp [noneR, Rx.plain, Rx.plainL, right]
theorem plain_empty : emptyR.plain = true := by simp [emptyR, Rx.plain, Rx.plainL, right]
theorem plain_mkset {s : W4} (h : s ≠ noSet) : (Rx.mk 3 s []).plain = true := by simp [Rx.plain, Rx.plainL, right, h]
theorem plain_bytes (s : W4) : (bytesR s).plain = true := by
  unfold bytesR
  split
  · exact plain_none
  · rename_i h; exact plain_mkset h
theorem catOf_plain {l : List Rx} (h : ∀ a ∈ l, a.plain = true ∧ a.kind ∉ [(4 : Int), 1, 2]) : (catOf l).plain = true := by
  match l, h with
  | [], _ => exact plain_empty
  | [x], h => exact (h x (by simp)).1
  | x :: y :: t, h =>
    rw [catOf, Rx.plain, Bool.and_eq_true, Rx.plainL_iff]
    refine ⟨?_, fun a ha => (h a ha).1⟩
    have hn : notIn [4, 1, 2] (x :: y :: t) = true := notIn_iff.2 fun a ha => (h a ha).2
    unfold right
    rw [hn]
    simp
theorem altOf_plain {l : List Rx} (h : ∀ a ∈ l, a.plain = true ∧ a.kind ∉ [(5 : Int), 1]) (hc : chainR l = true) (hs : setsR l ≤ 1) : (altOf l).plain = true := by
  match l, h, hc, hs with
  | [], _, _, _ => exact plain_none
  | [x], h, _, _ => exact (h x (by simp)).1
  | x :: y :: t, h, hc, hs =>
    rw [altOf, Rx.plain, Bool.and_eq_true, Rx.plainL_iff]
    refine ⟨?_, fun a ha => (h a ha).1⟩
    have hn : notIn [5, 1] (x :: y :: t) = true := notIn_iff.2 fun a ha => (h a ha).2
    unfold right
    rw [hn, hc]
    simp
    exact hs
theorem flat4_plain {l : List Rx} (h : Rx.plainL l = true) : ∀ x ∈ flatR 4 l, x.plain = true ∧ x.kind ≠ 4 := by
  rw [Rx.plainL_iff] at h
  intro x hx
  rcases flat_mem hx with ⟨h1, h2⟩ | ⟨r, h1, h2, h3⟩
  · exact ⟨h x h1, h2⟩
  · refine ⟨plain_args (h r h1) x h3, fun e => (plain_cat (h r h1) h2).2 x h3 ?_⟩
    simp [e]
theorem flat5_plain {l : List Rx} (h : Rx.plainL l = true) : ∀ x ∈ flatR 5 l, x.plain = true ∧ x.kind ≠ 5 := by
  rw [Rx.plainL_iff] at h
  intro x hx
  rcases flat_mem hx with ⟨h1, h2⟩ | ⟨r, h1, h2, h3⟩
  · exact ⟨h x h1, h2⟩
  · refine ⟨plain_args (h r h1) x h3, fun e => (plain_alt (h r h1) h2).2.1 x h3 ?_⟩
    simp [e]
theorem catR_plain {l : List Rx} (h : Rx.plainL l = true) : (catR l).plain = true := by
  unfold catR
  split
  · exact plain_none
  · rename_i hn
    refine catOf_plain fun a ha => ?_
    obtain ⟨h1, h2⟩ := List.mem_filter.1 ha
    obtain ⟨h3, h4⟩ := flat4_plain h a h1
    refine ⟨h3, ?_⟩
    have h5 : a.kind ≠ 1 := fun e => hn (List.any_eq_true.2 ⟨a, h1, by simp [e]⟩)
    simp only [decide_eq_true_eq] at h2
    simp [h2, h4, h5]
theorem altR_plain {l : List Rx} (ht : Rx.tidyL l) (h : Rx.plainL l = true) : (altR l).plain = true := by
  have hf := flat_tidy (k := 5) ht
  obtain ⟨o1, o2, o3⟩ := altOuts_props (o := []) hf (by simp [Rx.tidyL]) (by simp [SortedR])
  obtain ⟨p1, p2, p3⟩ := altFin_props o1 o2 (altSet_ok noSet_ok (tidy_set' hf))
  unfold altR
  refine altOf_plain (fun a ha => ?_) ((chain_sorted p1).2 p2) ?_
  · rcases (p3 a).1 ha with ha | ⟨h1, rfl⟩
    · rcases (o3 a).1 ha with ha | ⟨ha, h1, h3⟩
      · simp at ha
      · obtain ⟨h4, h5⟩ := flat5_plain h a ha
        exact ⟨h4, by simp [h1, h5]⟩
    · exact ⟨plain_mkset h1, by simp [Rx.kind]⟩
  · have h0 : setsR (altOuts [] (flatR 5 l)) = 0 := sets_zero fun x hx => by
      rcases (o3 x).1 hx with hx | ⟨_, _, h3⟩
      · simp at hx
      · exact h3
    unfold altFin
    split
    · omega
    · have := insR_sets (altOuts [] (flatR 5 l)) (.mk 3 (altSet noSet (flatR 5 l)) [])
      omega
theorem starN_plain : ∀ (n : Nat) {r : Rx}, r.tidy → r.plain = true → (starN n r).plain = true
  | 0, r, _, h => h
  | n + 1, r, ht, h => by
    simp only [starN]
    split
    · exact h
    · split
      · exact plain_empty
      · split
        · have h1 : Rx.tidyL (catOuts r.args) := filter_tidy (tidy_args ht)
          exact starN_plain n (altR_tidy h1) (altR_plain h1 ((Rx.plainL_iff _).2 fun a ha => plain_args h a (catOuts_mem ha)))
        · rename_i h6 h12 _
          rw [Rx.plain, Bool.and_eq_true, Rx.plainL_iff]
          refine ⟨?_, fun a ha => by simp at ha; exact ha ▸ h⟩
          have hn : notIn [6, 1, 2] [r] = true := notIn_iff.2 fun a ha => by
            simp at ha
            subst ha
            simp only [not_or] at h12
            simp [h6, h12]
          unfold right
          rw [hn]
          simp
theorem starR_plain {r : Rx} (ht : r.tidy) (h : r.plain = true) : (starR r).plain = true := starN_plain 2000 ht h
theorem pLeaf_plain (k : Int) (q : List Int) : (pLeaf k q).1.plain = true := by
  unfold pLeaf
  split
  · exact plain_bytes _
  · dsimp only
    split
    · exact plain_none
    · exact plain_empty
theorem pRx_plain : ∀ (f : Nat) {q : List Int}, bytesOk q → (pRx f q).1.plain = true
  | 0, q, hq => pLeaf_plain _ _
  | f + 1, q, hq => by
    have a1 := pRx_plain f hq.tail
    have a2 := pRx_plain f (pRx_ok f hq.tail).2.1
    have t1 := pRx_tidy f hq.tail
    have t2 := pRx_tidy f (pRx_ok f hq.tail).2.1
    have hl : Rx.plainL [(pRx f q.tail).1, (pRx f (pRx f q.tail).2).1] = true := by simp [Rx.plainL, a1, a2]
    have htl : Rx.tidyL [(pRx f q.tail).1, (pRx f (pRx f q.tail).2).1] := ⟨t1, t2, trivial⟩
    simp only [pRx]
    split
    · exact pLeaf_plain _ _
    · split
      · exact catR_plain hl
      · split
        · exact altR_plain htl hl
        · have h8 := starR_plain t1 a1
          dsimp only
          generalize starR (pRx f q.tail).1 = z at h8 ⊢
          exact h8
/-! ### the empty word -/
mutual
theorem null_lang : ∀ r : Rx, r.null = true ↔ r.lang []
  | .mk k s l => by
    have ha := nullA_lang l
    have he := nullE_lang l
    rw [Rx.null, Rx.lang]
    by_cases h2 : k = 2
    · simp [h2]
    · by_cases h6 : k = 6
      · simp [h6, Star.nil]
      · by_cases h4 : k = 4
        · simp [h4, ha]
        · by_cases h5 : k = 5
          · simp [h5, he]
          · simp [h2, h6, h4, h5]
theorem nullA_lang : ∀ l : List Rx, Rx.nullA l = true ↔ Rx.langCat l []
  | [] => by rw [Rx.nullA, langCat_nil]; simp
  | a :: t => by
    rw [Rx.nullA, Bool.and_eq_true, null_lang a, nullA_lang t, langCat_cons]
    constructor
    · rintro ⟨h1, h2⟩; exact ⟨[], [], rfl, h1, h2⟩
    · rintro ⟨u, v, h, h1, h2⟩
      obtain ⟨rfl, rfl⟩ := List.append_eq_nil_iff.1 h.symm
      exact ⟨h1, h2⟩
theorem nullE_lang : ∀ l : List Rx, Rx.nullE l = true ↔ Rx.langAlt l []
  | [] => by rw [Rx.nullE]; simp [langAlt_nil]
  | a :: t => by rw [Rx.nullE, Bool.or_eq_true, null_lang a, nullE_lang t, langAlt_cons]
end
/-! ### a plain one that is not none speaks -/
mutual
theorem some_plain : ∀ r : Rx, r.plain = true → r.kind ≠ 1 → r.some = true
  | .mk k s l, h, hk => by
    have hr := plain_right h
    have hp : Rx.plainL l = true := (Rx.plainL_iff _).2 (plain_args h)
    have hkk := right_kinds hr
    simp only [Rx.kind, Rx.set, Rx.args] at hr hk hkk
    rw [Rx.some]
    by_cases h26 : k = 2 ∨ k = 6
    · rw [if_pos h26]
    · rw [if_neg h26]
      by_cases h3 : k = 3
      · rw [if_pos h3]
        have := (plain_setR h h3).2
        simp only [Rx.set] at this
        simp [this]
      · rw [if_neg h3]
        by_cases h4 : k = 4
        · rw [if_pos h4]
          exact someA_plain l hp fun a ha e => (plain_cat h h4).2 a ha (by simp [e])
        · rw [if_neg h4, if_pos (by omega)]
          have := plain_alt h (show (Rx.mk k s l).kind = 5 by show k = 5; omega)
          simp only [Rx.args] at this
          exact someE_plain l hp (fun a ha e => this.2.1 a ha (by simp [e])) (by intro e; rw [e] at this; simp at this)
theorem someA_plain : ∀ l : List Rx, Rx.plainL l = true → (∀ a ∈ l, a.kind ≠ 1) → Rx.someA l = true
  | [], _, _ => rfl
  | a :: t, h, hk => by
    simp only [Rx.plainL, Bool.and_eq_true] at h
    rw [Rx.someA, some_plain a h.1 (hk a (by simp)), someA_plain t h.2 fun x hx => hk x (by simp [hx])]
    rfl
theorem someE_plain : ∀ l : List Rx, Rx.plainL l = true → (∀ a ∈ l, a.kind ≠ 1) → l ≠ [] → Rx.someE l = true
  | [], _, _, hne => absurd rfl hne
  | a :: t, h, hk, _ => by
    simp only [Rx.plainL, Bool.and_eq_true] at h
    rw [Rx.someE, some_plain a h.1 (hk a (by simp))]
    rfl
end
theorem orI_zero {x y : Int} (hx : 0 ≤ x) (hy : 0 ≤ y) (h : orI x y = 0) : x = 0 ∧ y = 0 := by
  unfold orI at h
  have h1 : x.toNat ||| y.toNat = 0 := by exact_mod_cast h
  rw [Nat.or_eq_zero_iff] at h1
  omega
theorem or_zero {a b : W4} (ha : a.ok) (hb : b.ok) (h : a.or b = noSet) : a = noSet ∧ b = noSet := by
  obtain ⟨a0, a1, a2, a3, _⟩ := ha
  obtain ⟨b0, b1, b2, b3, _⟩ := hb
  unfold W4.or noSet at h
  injection h with e0 e1 e2 e3
  have h0 := orI_zero a0 b0 e0
  have h1 := orI_zero a1 b1 e1
  have h2 := orI_zero a2 b2 e2
  have h3 := orI_zero a3 b3 e3
  cases a; cases b
  simp only at h0 h1 h2 h3
  obtain ⟨rfl, rfl⟩ := h0
  obtain ⟨rfl, rfl⟩ := h1
  obtain ⟨rfl, rfl⟩ := h2
  obtain ⟨rfl, rfl⟩ := h3
  exact ⟨rfl, rfl⟩
theorem firstE_ne : ∀ {l : List Rx} {s : W4}, s.ok → Rx.oks l → (s ≠ noSet ∨ ∃ a ∈ l, a.first ≠ noSet) → Rx.firstE s l ≠ noSet
  | [], s, hs, _, h => by
    rw [Rx.firstE]
    rcases h with h | ⟨a, ha, _⟩
    · exact h
    · simp at ha
  | a :: t, s, hs, ho, h => by
    rw [Rx.firstE]
    refine firstE_ne (or_ok hs (first_ok a ho.1)) ho.2 ?_
    rcases h with h | ⟨b, hb, h⟩
    · exact .inl fun e => h (or_zero hs (first_ok a ho.1) e).1
    · rcases List.mem_cons.1 hb with rfl | hb
      · exact .inl fun e => h (or_zero hs (first_ok b ho.1) e).2
      · exact .inr ⟨b, hb, h⟩
theorem firstC_ne : ∀ {l : List Rx} {s : W4}, s.ok → Rx.oks l → s ≠ noSet → Rx.firstC s l ≠ noSet
  | [], s, hs, _, h => by rw [Rx.firstC]; exact h
  | a :: t, s, hs, ho, h => by
    rw [Rx.firstC]
    have h2 : s.or a.first ≠ noSet := fun e => h (or_zero hs (first_ok a ho.1) e).1
    split
    · exact firstC_ne (or_ok hs (first_ok a ho.1)) ho.2 h2
    · exact h2
theorem plain_two {r : Rx} (h : r.plain = true) (hk : r.kind = 2) : r = emptyR := by
  have hr := plain_right h
  cases r with
  | mk k s l =>
    simp only [Rx.kind, Rx.set, Rx.args] at hr hk
    subst hk
    unfold right at hr
    simp at hr
    rw [hr.1, hr.2]
    rfl
theorem first_plain : ∀ (B : Nat) (r : Rx), r.nodes ≤ B → r.ok → r.plain = true → r.kind ≠ 1 → r.kind ≠ 2 → r.first ≠ noSet := by
  intro B
  induction B using Nat.strongRecOn with
  | _ B ih =>
    intro r hB ho hp h1 h2
    have hkk := right_kinds (plain_right hp)
    have harg : ∀ a ∈ r.args, a.kind ≠ 1 → a.kind ≠ 2 → a.first ≠ noSet := fun a ha g1 g2 => by
      obtain ⟨k, hk, rfl⟩ := List.mem_iff_getElem.1 ha
      have := r.nodes_arg (k := k) hk
      have hn := r.nodes_pos
      exact ih (B - 1) (by omega) _ (by omega) (ho.arg hk) (plain_args hp _ ha) g1 g2
    have hoks : Rx.oks r.args := (Rx.oks_iff _).2 fun x hx => ho.args x hx
    by_cases h3 : r.kind = 3
    · rw [first_3 h3]
      exact (plain_setR hp h3).2
    · by_cases h4 : r.kind = 4
      · rw [first_4 h4 (some_plain r hp h1)]
        obtain ⟨g1, g2⟩ := plain_cat hp h4
        revert g1 g2 harg hoks
        generalize r.args = l
        intro harg hoks g1 g2
        match l, g1 with
        | a :: t, _ =>
          have ha := g2 a (by simp)
          simp only [List.mem_cons, List.not_mem_nil, or_false, not_or] at ha
          have hf := harg a (by simp) ha.2.1 ha.2.2
          rw [Rx.firstC]
          have h5 : noSet.or a.first ≠ noSet := fun e => hf (or_zero noSet_ok (first_ok a hoks.1) e).2
          split
          · exact firstC_ne (or_ok noSet_ok (first_ok a hoks.1)) hoks.2 h5
          · exact h5
      · by_cases h5 : r.kind = 5
        · rw [first_5 (.inl h5)]
          obtain ⟨g1, g2, g3, _⟩ := plain_alt hp h5
          refine firstE_ne noSet_ok hoks (.inr ?_)
          have hpl : Rx.plainL r.args = true := (Rx.plainL_iff _).2 (plain_args hp)
          have htl := Rx.plain_tidyL r.args hoks hpl
          revert g1 g2 g3 harg hoks hpl htl
          generalize r.args = l
          intro harg hoks g1 g2 g3 hpl htl
          match l, g1 with
          | a :: b :: t, _ =>
            have k1 := g2 a (by simp)
            have k2 := g2 b (by simp)
            simp only [List.mem_cons, List.not_mem_nil, or_false, not_or] at k1 k2
            by_cases ha : a.kind = 2
            · by_cases hb : b.kind = 2
              · exfalso
                rw [Rx.plainL_iff] at hpl
                have e1 := plain_two (hpl a (by simp)) ha
                have e2 := plain_two (hpl b (by simp)) hb
                subst e1
                simp only [chainR, Bool.and_eq_true, decide_eq_true_eq] at g3
                have := Rx.cmp_swap emptyR emptyR htl.1 htl.1
                rw [e2] at g3
                omega
              · exact ⟨b, by simp, harg b (by simp) k2.2 hb⟩
            · exact ⟨a, by simp, harg a (by simp) k1.2 ha⟩
        · have h6 : r.kind = 6 := by omega
          have hr := plain_right hp
          unfold right at hr
          rw [if_neg (by omega), if_neg h3, if_neg h4, if_neg h5, if_pos h6] at hr
          simp only [Bool.and_eq_true, decide_eq_true_eq, notIn_iff] at hr
          rw [first_5 (.inr ⟨h6, hr.1.2⟩)]
          refine firstE_ne noSet_ok hoks (.inr ?_)
          have hl := hr.1.2
          have hm : r.args[0]'(by omega) ∈ r.args := List.getElem_mem _
          have hn := hr.2 _ hm
          simp only [List.mem_cons, List.not_mem_nil, or_false, not_or] at hn
          exact ⟨_, hm, harg _ hm hn.2.1 hn.2.2⟩
theorem plain_one {r : Rx} (h : r.plain = true) (hk : r.kind = 1) : r = noneR := by
  have hr := plain_right h
  cases r with
  | mk k s l =>
    simp only [Rx.kind, Rx.set, Rx.args] at hr hk
    subst hk
    unfold right at hr
    simp at hr
    rw [hr.1, hr.2]
    rfl
/-- A plain one is none, or else it has the empty word or a first byte. -/
theorem none_iff {r : Rx} (ho : r.ok) (hp : r.plain = true) : (r.null || !decide (r.first = noSet)) = !decide (r.kind = 1) := by
  by_cases h1 : r.kind = 1
  · rw [plain_one hp h1]
    rfl
  · by_cases h2 : r.kind = 2
    · rw [null_eq, if_pos (.inl h2)]
      simp [h1]
    · simp [h1, first_plain _ r (Nat.le_refl _) ho hp h1 h2]
end Go.Proofs.YtfdgbghlanbddaaDoor.Av
set_option linter.unusedVariables false
set_option linter.unusedSimpArgs false
set_option maxRecDepth 8000
namespace Go.Proofs.YtfdgbghlanbddaaDoor.Av
open Go.RowKit Go.Proofs
theorem in_nil {w0 : World} {es : List Ent} (r : Rx) (ho : r.ok) : ACalls Tryd.prog w0 58 [.agg [.int .i64 r.kind, .int .u64 r.set.w0, .int .u64 r.set.w1, .int .u64 r.set.w2, .int .u64 r.set.w3, .list 6 (r.args.map Rx.cells)], .nil] es fun v es' => v = .bool r.null ∧ es' = es := by
  intro c vs ok rs
  have h := In_walk (w0 := w0) (es := es) r [] ho (fun b hb => by simp at hb) (by simp)
  rw [show inR r [] = r.null by rw [Bool.eq_iff_iff, inR_iff, null_lang]] at h
  refine h c vs ok ?_
  rw [← Rx.cells_eq r] at rs
  simp only [Reps] at rs ⊢
  obtain ⟨v, vs', e, h1, v2, vs2, e2, h2, h3⟩ := rs
  refine ⟨v, vs', e, h1, v2, vs2, e2, ?_, h3⟩
  simp only [Rep] at h2
  subst h2
  simp only [bytesAV, List.map_nil, Rep]
  exact ⟨none, 0, [], rfl, Nat.le_refl _, Nat.zero_le _, by simp only [RepRows], fun e => absurd rfl e⟩
theorem raw24 (x y : Rx) : (Rx.mk 4 noSet [x, y]).cells = [.int .i64 4, .int .u64 0, .int .u64 0, .int .u64 0, .int .u64 0, .list 6 [x.cells, y.cells]] := by rw [Rx.cells_eq]; rfl
theorem raw25 (x y : Rx) : (Rx.mk 5 noSet [x, y]).cells = [.int .i64 5, .int .u64 0, .int .u64 0, .int .u64 0, .int .u64 0, .list 6 [x.cells, y.cells]] := by rw [Rx.cells_eq]; rfl
theorem raw35 (x y z : Rx) : (Rx.mk 5 noSet [x, y, z]).cells = [.int .i64 5, .int .u64 0, .int .u64 0, .int .u64 0, .int .u64 0, .list 6 [x.cells, y.cells, z.cells]] := by rw [Rx.cells_eq]; rfl
theorem two_of {P : Rx → Prop} {x y : Rx} (h : P x) (g : P y) : ∀ r ∈ [x, y], P r := fun r hr => by
  simp only [List.mem_cons, List.not_mem_nil, or_false] at hr
  rcases hr with rfl | rfl
  · exact h
  · exact g
theorem okL3 {x y z : Rx} (h : x.ok) (g : y.ok) (k : z.ok) : ∀ r ∈ [x, y, z], r.ok := fun r hr => by
  simp only [List.mem_cons, List.not_mem_nil, or_false] at hr
  rcases hr with rfl | rfl | rfl
  · exact h
  · exact g
  · exact k
theorem ok4 {x y : Rx} (h : x.ok) (g : y.ok) : (Rx.mk 4 noSet [x, y]).ok := ok_mk (by omega) (two_of h g)
theorem ok5 {x y : Rx} (h : x.ok) (g : y.ok) : (Rx.mk 5 noSet [x, y]).ok := ok_mk (by omega) (two_of h g)
theorem ok53 {x y z : Rx} (h : x.ok) (g : y.ok) (k : z.ok) : (Rx.mk 5 noSet [x, y, z]).ok := ok_mk (by omega) (okL3 h g k)
theorem lang4 (x y : Rx) (w : List Int) : (Rx.mk 4 noSet [x, y]).lang w ↔ ∃ u v, w = u ++ v ∧ x.lang u ∧ y.lang v := by
  rw [kind_4 rfl]
  show Rx.langCat [x, y] w ↔ _
  rw [langCat_cons]
  simp only [langCat_one]
theorem in_same {r q : Rx} {w : List Int} (h : r.lang w ↔ q.lang w) : inR r w = inR q w := by rw [Bool.eq_iff_iff, inR_iff, inR_iff, h]
theorem same_assoc (x y z : Rx) (w : List Int) : inR (Rx.mk 4 noSet [Rx.mk 4 noSet [x, y], z]) w = inR (Rx.mk 4 noSet [x, Rx.mk 4 noSet [y, z]]) w := by
  refine in_same ?_
  rw [lang4, lang4]
  simp only [lang4]
  constructor
  · rintro ⟨_, v, rfl, ⟨u1, u2, rfl, h1, h2⟩, h3⟩
    exact ⟨u1, u2 ++ v, by rw [List.append_assoc], h1, u2, v, rfl, h2, h3⟩
  · rintro ⟨u, _, rfl, h1, v1, v2, rfl, h2, h3⟩
    exact ⟨u ++ v1, v2, by rw [List.append_assoc], ⟨u, v1, rfl, h1, h2⟩, h3⟩
theorem same_flat (x y z : Rx) (w : List Int) : inR (Rx.mk 4 noSet [Rx.mk 4 noSet [x, y], z]) w = inR (catR [x, y, z]) w := by
  rw [same_assoc]
  refine in_same ?_
  rw [lang4, catR_lang, langCat_cons]
  simp only [lang4, langCat_cons y, langCat_one]
theorem lang5 (x y : Rx) (w : List Int) : (Rx.mk 5 noSet [x, y]).lang w ↔ x.lang w ∨ y.lang w := by
  rw [← kind_5 rfl, langAlt_iff]
  simp [Rx.args]
theorem lang53 (x y z : Rx) (w : List Int) : (Rx.mk 5 noSet [x, y, z]).lang w ↔ x.lang w ∨ y.lang w ∨ z.lang w := by
  rw [← kind_5 rfl, langAlt_iff]
  simp [Rx.args]
theorem same_dist (x y z : Rx) (w : List Int) : inR (Rx.mk 4 noSet [x, Rx.mk 5 noSet [y, z]]) w = inR (Rx.mk 5 noSet [Rx.mk 4 noSet [x, z], Rx.mk 4 noSet [x, y], Rx.mk 4 noSet [x, y]]) w := by
  refine in_same ?_
  rw [lang4, lang53, lang4, lang4]
  simp only [lang5]
  constructor
  · rintro ⟨u, v, rfl, h1, h2 | h2⟩
    · exact .inr (.inl ⟨u, v, rfl, h1, h2⟩)
    · exact .inl ⟨u, v, rfl, h1, h2⟩
  · rintro (⟨u, v, rfl, h1, h2⟩ | ⟨u, v, rfl, h1, h2⟩ | ⟨u, v, rfl, h1, h2⟩)
    · exact ⟨u, v, rfl, h1, .inr h2⟩
    · exact ⟨u, v, rfl, h1, .inl h2⟩
    · exact ⟨u, v, rfl, h1, .inl h2⟩
theorem langNone_walk {w0 : World} (a : List Int) (ha : bytesOk a) : ACalls Tryd.prog w0 22 [bytesAV a] [] fun v es' => v = .bool true := by
  unfold bytesAV
  refine calls1 (N := 33) Tryd.func22 rfl rfl (by decide) ?_
  refine w_seq ?_
  refine w_region ?_
  refine l_cons rfl (p_assign ?_)
  refine l_nil ?_
  refine k_seq_normal ?_
  refine w_seq ?_
  refine w_seq ?_
  refine w_region ?_
  refine l_cons rfl (p_callr en_57 (begun8_walk) ?_)
  refine l_cons rfl (p_not ?_)
  refine l_nil ?_
  refine k_seq_normal ?_
  refine w_f rfl ?_
  refine w_skip ?_
  refine k_seq_normal ?_
  refine w_seq ?_
  refine w_seq ?_
  refine w_region ?_
  refine l_cons rfl (p_move ?_)
  refine l_cons rfl (p_lenl sl_22 ?_)
  refine l_cons rfl (p_cmp ?_)
  refine l_nil ?_
  refine k_seq_normal ?_
  refine w_b (fun h1 => ?_) (fun h1 => ?_)
  · skip
    have h1' := h1; (try simp only [decide_eq_true_eq, decide_eq_false_iff_not, Bool.not_eq_true', Bool.not_false, Bool.not_true, Bool.not_eq_false'] at h1')
    refine w_seq ?_
    refine w_region ?_
    refine l_cons rfl (p_assign ?_)
    refine l_nil ?_
    refine k_seq_normal ?_
    refine w_ret ?_
    refine k_seq_ret ?_
    exact ret1 rfl (by simp only [ev_tmp, ev_const, ev_func, ofConst_int, ofConst_bool, ofConst_str, ofConst_nil, upd_apply, Nat.reduceEqDiff, ↓reduceIte] <;> exact rfl) (sub_of (es := []) fun _ h => absurd h (Nat.not_lt_zero _)) (rfl)
  · skip
    have h1' := h1; (try simp only [decide_eq_true_eq, decide_eq_false_iff_not, Bool.not_eq_true', Bool.not_false, Bool.not_true, Bool.not_eq_false'] at h1')
    refine w_skip ?_
    refine k_seq_normal ?_
    refine w_seq ?_
    refine w_region ?_
    refine l_cons rfl (p_move ?_)
    refine l_cons rfl (p_call en_24 ((made_walk a (by omega) ha).mono ?_))
    rintro _ es1 ⟨s40, rfl, rfl⟩
    refine l_cons rfl (p_call en_25 ((Rx_walk (PK.mk' (n := 0) (Nat.zero_le _) ha (by omega) (at_hit _ _))).mono ?_))
    rintro _ es2 ⟨rfl, hgx⟩
    obtain ⟨ox, -, nx⟩ := pRx_ok 9 (q := a.drop 0) (fun e he => ha e (List.mem_of_mem_drop he))
    have tx := pRx_tidy 9 (q := a.drop 0) (fun e he => ha e (List.mem_of_mem_drop he))
    have px := pRx_plain 9 (q := a.drop 0) (fun e he => ha e (List.mem_of_mem_drop he))
    generalize (pRx 9 (a.drop 0)).1 = x at ox nx tx px ⊢
    have hnone := none_iff ox px
    have e10 : 2 ^ (9 + 1) = 1024 := rfl
    rw [Rx.cells_eq x]
    refine l_cons rfl (p_alloc ze_29 fun s3 => ?_)
    refine l_cons rfl (p_store ty_29 ?_)
    refine l_nil ?_
    refine k_seq_normal ?_
    refine w_seq ?_
    refine w_region ?_
    refine l_cons rfl (p_loadp ty_29 ?_)
    refine l_cons rfl (p_callr en_59 (cells1 (r := x) (Null_walk _ x _ (Nat.le_refl _) (by omega))) ?_)
    refine l_cons rfl (p_move ?_)
    refine g_b rfl (fun h2 => ?_) (fun h2 => ?_)
    · skip
      have h2' := h2; (try simp only [decide_eq_true_eq, decide_eq_false_iff_not, Bool.not_eq_true', Bool.not_false, Bool.not_true, Bool.not_eq_false'] at h2')
      refine (p_loadp ty_29 ?_)
      refine g_y rfl h2 (p_callr en_61 (cells1 (r := x) (First_walk _ x _ (Nat.le_refl _) (by omega) ox)) ?_)
      refine g_y rfl h2 (p_buildArr ze_26 ar_26 ?_)
      refine g_y rfl h2 (p_nea ai_26 ?_ (hb := neA x.first noSet))
      refine l_cons rfl (p_pickf h2 ?_)
      refine l_cons rfl (p_assign ?_)
      refine l_nil ?_
      refine k_seq_normal ?_
      refine w_seq ?_
      refine w_drawn 9 [] (fun e => e = _) mixed (by kernel_rfl) rfl ?_
      refine q1 4 (hg := rfl) (hu := rfl) (h := by rintro f _ rfl; exact p_move ⟨rfl, rfl⟩) (k := ?_)
      refine q1 3 (hg := rfl) (hu := rfl) (h := by rintro f _ rfl; exact p_fap fa_29_0 ⟨rfl, rfl⟩) (k := ?_)
      refine q1 22 (hg := rfl) (hu := rfl) (h := by rintro f _ rfl; exact p_loadp ty_3 ⟨rfl, rfl⟩) (k := ?_)
      refine q1 23 (hg := rfl) (hu := rfl) (h := by rintro f _ rfl; exact p_cmp ⟨rfl, rfl⟩) (k := ?_)
      refine q2 21 24 (hg := rfl) (hu := rfl) (h := by rintro f _ rfl; exact p_eqb ub_4 ⟨rfl, rfl⟩) (k := ?_)
      refine q1 25 (hg := rfl) (hu := rfl) (h := by rintro f _ rfl; exact p_move ⟨rfl, rfl⟩) (k := ?_)
      refine qsplit 26 (fun h3 => ?_) (fun h3 => ?_)
      · skip
        have h3' := h3; (try simp only [decide_eq_true_eq, decide_eq_false_iff_not, Bool.not_eq_true', Bool.not_false, Bool.not_true, Bool.not_eq_false'] at h3')
        refine qy1 3 (hg := rfl) (hw := h3) (hu := rfl) (h := by rintro f _ rfl; exact p_loadp ty_29 ⟨rfl, rfl⟩) (k := ?_)
        refine qy1 27 (hg := rfl) (hw := h3) (hu := rfl) (h := by rintro f _ rfl; exact p_callr en_58 (in_nil x ox) ⟨rfl, rfl⟩) (k := ?_)
        refine qy1 3 (hg := rfl) (hw := h3) (hu := rfl) (h := by rintro f _ rfl; exact p_loadp ty_29 ⟨rfl, rfl⟩) (k := ?_)
        refine q_end ?_
        refine m_end ?_
        refine g_y rfl h3 (p_callr en_59 (cells1 (r := x) (Null_walk _ x _ (Nat.le_refl _) (by omega))) ?_)
        refine g_y rfl h3 (p_eqb ub_4 ?_)
        refine l_cons rfl (p_pickt h3 ?_)
        refine l_cons rfl (p_assign ?_)
        refine l_nil ?_
        refine k_seq_normal ?_
        refine w_ret ?_
        exact ret1 rfl (by simp only [ev_tmp, ev_const, ev_func, ofConst_int, ofConst_bool, ofConst_str, ofConst_nil, upd_apply, Nat.reduceEqDiff, ↓reduceIte] <;> exact rfl) (sub_of (es := []) fun _ h => absurd h (Nat.not_lt_zero _)) (by first | rfl | (simp_all; done))
      · skip
        have h3' := h3; (try simp only [decide_eq_true_eq, decide_eq_false_iff_not, Bool.not_eq_true', Bool.not_false, Bool.not_true, Bool.not_eq_false'] at h3')
        refine qn rfl h3 ?_
        refine qn rfl h3 ?_
        refine qn rfl h3 ?_
        refine q_end ?_
        refine m_end ?_
        refine g_n rfl h3 ?_
        refine g_n rfl h3 ?_
        refine l_cons rfl (p_pickf h3 ?_)
        refine l_cons rfl (p_assign ?_)
        refine l_nil ?_
        refine k_seq_normal ?_
        refine w_ret ?_
        exact ret1 rfl (by simp only [ev_tmp, ev_const, ev_func, ofConst_int, ofConst_bool, ofConst_str, ofConst_nil, upd_apply, Nat.reduceEqDiff, ↓reduceIte] <;> exact rfl) (sub_of (es := []) fun _ h => absurd h (Nat.not_lt_zero _)) (by first | rfl | (simp_all; done))
    · skip
      have h2' := h2; (try simp only [decide_eq_true_eq, decide_eq_false_iff_not, Bool.not_eq_true', Bool.not_false, Bool.not_true, Bool.not_eq_false'] at h2')
      refine g_n rfl h2 ?_
      refine g_n rfl h2 ?_
      refine g_n rfl h2 ?_
      refine l_cons rfl (p_pickt h2 ?_)
      refine l_cons rfl (p_assign ?_)
      refine l_nil ?_
      refine k_seq_normal ?_
      refine w_seq ?_
      refine w_drawn 9 [] (fun e => e = _) mixed (by kernel_rfl) rfl ?_
      refine q1 4 (hg := rfl) (hu := rfl) (h := by rintro f _ rfl; exact p_move ⟨rfl, rfl⟩) (k := ?_)
      refine q1 3 (hg := rfl) (hu := rfl) (h := by rintro f _ rfl; exact p_fap fa_29_0 ⟨rfl, rfl⟩) (k := ?_)
      refine q1 22 (hg := rfl) (hu := rfl) (h := by rintro f _ rfl; exact p_loadp ty_3 ⟨rfl, rfl⟩) (k := ?_)
      refine q1 23 (hg := rfl) (hu := rfl) (h := by rintro f _ rfl; exact p_cmp ⟨rfl, rfl⟩) (k := ?_)
      refine q2 21 24 (hg := rfl) (hu := rfl) (h := by rintro f _ rfl; exact p_eqb ub_4 ⟨rfl, rfl⟩) (k := ?_)
      refine q1 25 (hg := rfl) (hu := rfl) (h := by rintro f _ rfl; exact p_move ⟨rfl, rfl⟩) (k := ?_)
      refine qsplit 26 (fun h4 => ?_) (fun h4 => ?_)
      · skip
        have h4' := h4; (try simp only [decide_eq_true_eq, decide_eq_false_iff_not, Bool.not_eq_true', Bool.not_false, Bool.not_true, Bool.not_eq_false'] at h4')
        refine qy1 3 (hg := rfl) (hw := h4) (hu := rfl) (h := by rintro f _ rfl; exact p_loadp ty_29 ⟨rfl, rfl⟩) (k := ?_)
        refine qy1 27 (hg := rfl) (hw := h4) (hu := rfl) (h := by rintro f _ rfl; exact p_callr en_58 (in_nil x ox) ⟨rfl, rfl⟩) (k := ?_)
        refine qy1 3 (hg := rfl) (hw := h4) (hu := rfl) (h := by rintro f _ rfl; exact p_loadp ty_29 ⟨rfl, rfl⟩) (k := ?_)
        refine q_end ?_
        refine m_end ?_
        refine g_y rfl h4 (p_callr en_59 (cells1 (r := x) (Null_walk _ x _ (Nat.le_refl _) (by omega))) ?_)
        refine g_y rfl h4 (p_eqb ub_4 ?_)
        refine l_cons rfl (p_pickt h4 ?_)
        refine l_cons rfl (p_assign ?_)
        refine l_nil ?_
        refine k_seq_normal ?_
        refine w_ret ?_
        exact ret1 rfl (by simp only [ev_tmp, ev_const, ev_func, ofConst_int, ofConst_bool, ofConst_str, ofConst_nil, upd_apply, Nat.reduceEqDiff, ↓reduceIte] <;> exact rfl) (sub_of (es := []) fun _ h => absurd h (Nat.not_lt_zero _)) (by first | rfl | (simp_all; done))
      · skip
        have h4' := h4; (try simp only [decide_eq_true_eq, decide_eq_false_iff_not, Bool.not_eq_true', Bool.not_false, Bool.not_true, Bool.not_eq_false'] at h4')
        refine qn rfl h4 ?_
        refine qn rfl h4 ?_
        refine qn rfl h4 ?_
        refine q_end ?_
        refine m_end ?_
        refine g_n rfl h4 ?_
        refine g_n rfl h4 ?_
        refine l_cons rfl (p_pickf h4 ?_)
        refine l_cons rfl (p_assign ?_)
        refine l_nil ?_
        refine k_seq_normal ?_
        refine w_ret ?_
        exact ret1 rfl (by simp only [ev_tmp, ev_const, ev_func, ofConst_int, ofConst_bool, ofConst_str, ofConst_nil, upd_apply, Nat.reduceEqDiff, ↓reduceIte] <;> exact rfl) (sub_of (es := []) fun _ h => absurd h (Nat.not_lt_zero _)) (by first | rfl | (simp_all; done))
theorem langSame_walk {w0 : World} (a b d c : List Int) (ha : bytesOk a) (hb : bytesOk b) (hd : bytesOk d) (hc : bytesOk c) : ACalls Tryd.prog w0 21 [bytesAV a, bytesAV b, bytesAV d, bytesAV c] [] fun v es' => v = .bool true := by
  unfold bytesAV
  refine calls4 (N := 113) Tryd.func21 rfl rfl (by decide) ?_
  refine w_seq ?_
  refine w_region ?_
  refine l_cons rfl (p_assign ?_)
  refine l_nil ?_
  refine k_seq_normal ?_
  refine w_seq ?_
  refine w_seq ?_
  refine w_region ?_
  refine l_cons rfl (p_callr en_57 (begun8_walk) ?_)
  refine l_cons rfl (p_not ?_)
  refine l_nil ?_
  refine k_seq_normal ?_
  refine w_f rfl ?_
  refine w_skip ?_
  refine k_seq_normal ?_
  refine w_seq ?_
  refine w_seq ?_
  refine w_region ?_
  refine l_cons rfl (p_move ?_)
  refine l_cons rfl (p_lenl sl_22 ?_)
  refine l_cons rfl (p_cmp ?_)
  refine l_cons rfl (p_move ?_)
  refine g_b rfl (fun h1 => ?_) (fun h1 => ?_)
  · skip
    have h1' := h1; (try simp only [decide_eq_true_eq, decide_eq_false_iff_not, Bool.not_eq_true', Bool.not_false, Bool.not_true, Bool.not_eq_false'] at h1')
    refine (p_move ?_)
    refine g_y rfl h1 (p_lenl sl_22 ?_)
    refine g_y rfl h1 (p_cmp ?_)
    refine l_cons rfl (p_pickf h1 ?_)
    refine l_cons rfl (p_move ?_)
    refine g_b rfl (fun h2 => ?_) (fun h2 => ?_)
    · skip
      have h2' := h2; (try simp only [decide_eq_true_eq, decide_eq_false_iff_not, Bool.not_eq_true', Bool.not_false, Bool.not_true, Bool.not_eq_false'] at h2')
      refine (p_move ?_)
      refine g_y rfl h2 (p_lenl sl_22 ?_)
      refine g_y rfl h2 (p_cmp ?_)
      refine l_cons rfl (p_pickf h2 ?_)
      refine l_cons rfl (p_move ?_)
      refine g_b rfl (fun h3 => ?_) (fun h3 => ?_)
      · skip
        have h3' := h3; (try simp only [decide_eq_true_eq, decide_eq_false_iff_not, Bool.not_eq_true', Bool.not_false, Bool.not_true, Bool.not_eq_false'] at h3')
        refine (p_move ?_)
        refine g_y rfl h3 (p_lenl sl_22 ?_)
        refine g_y rfl h3 (p_cmp ?_)
        refine l_cons rfl (p_pickf h3 ?_)
        refine l_nil ?_
        refine k_seq_normal ?_
        refine w_b (fun h4 => ?_) (fun h4 => ?_)
        · skip
          have h4' := h4; (try simp only [decide_eq_true_eq, decide_eq_false_iff_not, Bool.not_eq_true', Bool.not_false, Bool.not_true, Bool.not_eq_false'] at h4')
          refine w_seq ?_
          refine w_region ?_
          refine l_cons rfl (p_assign ?_)
          refine l_nil ?_
          refine k_seq_normal ?_
          refine w_ret ?_
          refine k_seq_ret ?_
          exact ret1 rfl (by simp only [ev_tmp, ev_const, ev_func, ofConst_int, ofConst_bool, ofConst_str, ofConst_nil, upd_apply, Nat.reduceEqDiff, ↓reduceIte] <;> exact rfl) (sub_of (es := []) fun _ h => absurd h (Nat.not_lt_zero _)) (rfl)
        · skip
          have h4' := h4; (try simp only [decide_eq_true_eq, decide_eq_false_iff_not, Bool.not_eq_true', Bool.not_false, Bool.not_true, Bool.not_eq_false'] at h4')
          refine w_skip ?_
          refine k_seq_normal ?_
          refine w_seq ?_
          refine w_region ?_
          refine l_cons rfl (p_move ?_)
          refine l_cons rfl (p_call en_24 ((made_walk a (by omega) ha).mono ?_))
          rintro _ es1 ⟨s40, rfl, rfl⟩
          refine l_cons rfl (p_call en_25 ((Rx_walk (PK.mk' (n := 0) (Nat.zero_le _) ha (by omega) (at_hit _ _))).mono ?_))
          rintro _ es2 ⟨rfl, hgx⟩
          obtain ⟨ox, -, nx⟩ := pRx_ok 9 (q := a.drop 0) (fun e he => ha e (List.mem_of_mem_drop he))
          have tx := pRx_tidy 9 (q := a.drop 0) (fun e he => ha e (List.mem_of_mem_drop he))
          generalize (pRx 9 (a.drop 0)).1 = x at ox nx tx ⊢
          refine l_cons rfl (p_move ?_)
          refine l_cons rfl (p_call en_24 ((made_walk b (by omega) hb).mono ?_))
          rintro _ es3 ⟨s43, rfl, rfl⟩
          refine l_cons rfl (p_call en_25 ((Rx_walk (PK.mk' (n := 0) (Nat.zero_le _) hb (by omega) (at_hit _ _))).mono ?_))
          rintro _ es4 ⟨rfl, hgy⟩
          obtain ⟨oy, -, ny⟩ := pRx_ok 9 (q := b.drop 0) (fun e he => hb e (List.mem_of_mem_drop he))
          have ty := pRx_tidy 9 (q := b.drop 0) (fun e he => hb e (List.mem_of_mem_drop he))
          generalize (pRx 9 (b.drop 0)).1 = y at oy ny ty ⊢
          refine l_cons rfl (p_move ?_)
          refine l_cons rfl (p_call en_24 ((made_walk d (by omega) hd).mono ?_))
          rintro _ es5 ⟨s46, rfl, rfl⟩
          refine l_cons rfl (p_call en_25 ((Rx_walk (PK.mk' (n := 0) (Nat.zero_le _) hd (by omega) (at_hit _ _))).mono ?_))
          rintro _ es6 ⟨rfl, hgz⟩
          obtain ⟨oz, -, nz⟩ := pRx_ok 9 (q := d.drop 0) (fun e he => hd e (List.mem_of_mem_drop he))
          have tz := pRx_tidy 9 (q := d.drop 0) (fun e he => hd e (List.mem_of_mem_drop he))
          generalize (pRx 9 (d.drop 0)).1 = z at oz nz tz ⊢
          refine l_cons rfl (p_alloc ze_29 fun s9 => ?_)
          refine l_cons rfl (p_alloc ze_29 fun s10 => ?_)
          refine l_cons rfl (p_alloc ze_29 fun s11 => ?_)
          refine l_cons rfl (p_store ty_29 ?_)
          refine l_cons rfl (p_store ty_29 ?_)
          refine l_cons rfl (p_store ty_29 ?_)
          refine l_nil ?_
          refine k_seq_normal ?_
          refine w_seq ?_
          refine w_region ?_
          refine l_cons rfl (p_move ?_)
          refine l_cons rfl (p_call en_24 ((made_walk c (by omega) hc).mono ?_))
          rintro _ es7 ⟨s47, rfl, rfl⟩
          refine l_cons rfl (p_call en_26 ((word_walk 8 (by omega) (PK.mk' (n := 0) (Nat.zero_le _) hc (by omega) (at_hit _ _))).mono ?_))
          rintro _ es8 ⟨rfl, q4, hg8⟩
          obtain ⟨hw, hwl⟩ := pWord_ok (most := 8) (q := c.drop 0) (fun x hx => hc x (List.mem_of_mem_drop hx))
          generalize pWord 8 (c.drop 0) = w at hw hwl ⊢
          have hx9 : at_ es8 es6.length = some (.row s9 29 6 [x.cells]) := (hg8.2.1 es6.length (by simp only [List.length_cons]; omega) (by simp only [List.length_cons]; omega)).trans (at_miss _ (at_miss _ (at_miss _ (at_hit _ _))))
          have hx10 : at_ es8 (es6.length + 1) = some (.row s10 29 6 [y.cells]) := (hg8.2.1 (es6.length + 1) (by simp only [List.length_cons]; omega) (by simp only [List.length_cons]; omega)).trans (at_miss _ (at_miss _ (at_hit _ _)))
          have hx11 : at_ es8 (es6.length + 2) = some (.row s11 29 6 [z.cells]) := (hg8.2.1 (es6.length + 2) (by simp only [List.length_cons]; omega) (by simp only [List.length_cons]; omega)).trans (at_miss _ (at_hit _ _))
          have k1 := ok4 (ok4 ox oy) oz
          have k2 := ok4 ox (ok4 oy oz)
          have k3 := catR_ok (okL3 ox oy oz)
          have k4 := ok4 ox (ok5 oy oz)
          have k5 := ok53 (ok4 ox oz) (ok4 ox oy) (ok4 ox oy)
          have e1 := same_assoc x y z w
          have e2 := same_flat x y z w
          have e3 := same_dist x y z w
          have e10 : 2 ^ (9 + 1) = 1024 := rfl
          refine l_cons rfl (p_assign ?_)
          refine l_nil ?_
          refine k_seq_normal ?_
          refine w_seq ?_
          refine w_region ?_
          refine l_cons rfl (p_loadp ty_29 ?_)
          refine l_cons rfl (p_loadp ty_29 ?_)
          refine l_cons rfl (p_buildList sl_27 ze_29 (rows := [(x).cells, (y).cells]) ?_ (hr := rfl))
          refine l_cons rfl (p_build ze_29 pl_29 (l := (Rx.mk 4 noSet [x, y]).cells) ?_ (hl := by rw [raw24 x y]; simp only [List.map_cons, List.map_nil, List.nil_append, List.append_nil, List.cons_append, ev_tmp, ev_const, ev_func, ofConst_int, ofConst_bool, ofConst_str, ofConst_nil, upd_apply, Nat.reduceEqDiff, ↓reduceIte] <;> exact rfl))
          refine l_cons rfl (p_loadp ty_29 ?_)
          refine l_cons rfl (p_buildList sl_27 ze_29 (rows := [(Rx.mk 4 noSet [x, y]).cells, (z).cells]) ?_ (hr := rfl))
          refine l_cons rfl (p_build ze_29 pl_29 (l := (Rx.mk 4 noSet [Rx.mk 4 noSet [x, y], z]).cells) ?_ (hl := by rw [raw24 (Rx.mk 4 noSet [x, y]) z]; simp only [List.map_cons, List.map_nil, List.nil_append, List.append_nil, List.cons_append, ev_tmp, ev_const, ev_func, ofConst_int, ofConst_bool, ofConst_str, ofConst_nil, upd_apply, Nat.reduceEqDiff, ↓reduceIte] <;> exact rfl))
          refine l_cons rfl (p_alloc ze_29 fun s13 => ?_)
          refine l_cons rfl (p_store ty_29 ?_)
          refine l_nil ?_
          refine k_seq_normal ?_
          refine w_seq ?_
          refine w_region ?_
          refine l_cons rfl (p_loadp ty_29 ?_)
          refine l_cons rfl (p_loadp ty_29 ?_)
          refine l_cons rfl (p_loadp ty_29 ?_)
          refine l_cons rfl (p_buildList sl_27 ze_29 (rows := [(y).cells, (z).cells]) ?_ (hr := rfl))
          refine l_cons rfl (p_build ze_29 pl_29 (l := (Rx.mk 4 noSet [y, z]).cells) ?_ (hl := by rw [raw24 y z]; simp only [List.map_cons, List.map_nil, List.nil_append, List.append_nil, List.cons_append, ev_tmp, ev_const, ev_func, ofConst_int, ofConst_bool, ofConst_str, ofConst_nil, upd_apply, Nat.reduceEqDiff, ↓reduceIte] <;> exact rfl))
          refine l_cons rfl (p_buildList sl_27 ze_29 (rows := [(x).cells, (Rx.mk 4 noSet [y, z]).cells]) ?_ (hr := rfl))
          refine l_cons rfl (p_build ze_29 pl_29 (l := (Rx.mk 4 noSet [x, Rx.mk 4 noSet [y, z]]).cells) ?_ (hl := by rw [raw24 x (Rx.mk 4 noSet [y, z])]; simp only [List.map_cons, List.map_nil, List.nil_append, List.append_nil, List.cons_append, ev_tmp, ev_const, ev_func, ofConst_int, ofConst_bool, ofConst_str, ofConst_nil, upd_apply, Nat.reduceEqDiff, ↓reduceIte] <;> exact rfl))
          refine l_cons rfl (p_alloc ze_29 fun s14 => ?_)
          refine l_cons rfl (p_store ty_29 ?_)
          refine l_nil ?_
          refine k_seq_normal ?_
          refine w_seq ?_
          refine w_region ?_
          refine l_cons rfl (p_loadp ty_29 ?_)
          refine l_cons rfl (p_loadp ty_29 ?_)
          refine l_cons rfl (p_loadp ty_29 ?_)
          refine l_cons rfl (p_buildList sl_27 ze_29 (rows := [(y).cells, (z).cells]) ?_ (hr := rfl))
          refine l_cons rfl (p_build ze_29 pl_29 (l := (Rx.mk 5 noSet [y, z]).cells) ?_ (hl := by rw [raw25 y z]; simp only [List.map_cons, List.map_nil, List.nil_append, List.append_nil, List.cons_append, ev_tmp, ev_const, ev_func, ofConst_int, ofConst_bool, ofConst_str, ofConst_nil, upd_apply, Nat.reduceEqDiff, ↓reduceIte] <;> exact rfl))
          refine l_cons rfl (p_buildList sl_27 ze_29 (rows := [(x).cells, (Rx.mk 5 noSet [y, z]).cells]) ?_ (hr := rfl))
          refine l_cons rfl (p_build ze_29 pl_29 (l := (Rx.mk 4 noSet [x, Rx.mk 5 noSet [y, z]]).cells) ?_ (hl := by rw [raw24 x (Rx.mk 5 noSet [y, z])]; simp only [List.map_cons, List.map_nil, List.nil_append, List.append_nil, List.cons_append, ev_tmp, ev_const, ev_func, ofConst_int, ofConst_bool, ofConst_str, ofConst_nil, upd_apply, Nat.reduceEqDiff, ↓reduceIte] <;> exact rfl))
          refine l_cons rfl (p_alloc ze_29 fun s15 => ?_)
          refine l_cons rfl (p_store ty_29 ?_)
          refine l_nil ?_
          refine k_seq_normal ?_
          refine w_seq ?_
          refine w_region ?_
          refine l_cons rfl (p_loadp ty_29 ?_)
          refine l_cons rfl (p_loadp ty_29 ?_)
          refine l_cons rfl (p_buildList sl_27 ze_29 (rows := [(x).cells, (z).cells]) ?_ (hr := rfl))
          refine l_cons rfl (p_build ze_29 pl_29 (l := (Rx.mk 4 noSet [x, z]).cells) ?_ (hl := by rw [raw24 x z]; simp only [List.map_cons, List.map_nil, List.nil_append, List.append_nil, List.cons_append, ev_tmp, ev_const, ev_func, ofConst_int, ofConst_bool, ofConst_str, ofConst_nil, upd_apply, Nat.reduceEqDiff, ↓reduceIte] <;> exact rfl))
          refine l_cons rfl (p_loadp ty_29 ?_)
          refine l_cons rfl (p_loadp ty_29 ?_)
          refine l_cons rfl (p_buildList sl_27 ze_29 (rows := [(x).cells, (y).cells]) ?_ (hr := rfl))
          refine l_cons rfl (p_build ze_29 pl_29 (l := (Rx.mk 4 noSet [x, y]).cells) ?_ (hl := by rw [raw24 x y]; simp only [List.map_cons, List.map_nil, List.nil_append, List.append_nil, List.cons_append, ev_tmp, ev_const, ev_func, ofConst_int, ofConst_bool, ofConst_str, ofConst_nil, upd_apply, Nat.reduceEqDiff, ↓reduceIte] <;> exact rfl))
          refine l_cons rfl (p_loadp ty_29 ?_)
          refine l_cons rfl (p_loadp ty_29 ?_)
          refine l_cons rfl (p_buildList sl_27 ze_29 (rows := [(x).cells, (y).cells]) ?_ (hr := rfl))
          refine l_cons rfl (p_build ze_29 pl_29 (l := (Rx.mk 4 noSet [x, y]).cells) ?_ (hl := by rw [raw24 x y]; simp only [List.map_cons, List.map_nil, List.nil_append, List.append_nil, List.cons_append, ev_tmp, ev_const, ev_func, ofConst_int, ofConst_bool, ofConst_str, ofConst_nil, upd_apply, Nat.reduceEqDiff, ↓reduceIte] <;> exact rfl))
          refine l_cons rfl (p_buildList sl_27 ze_29 (rows := [(Rx.mk 4 noSet [x, z]).cells, (Rx.mk 4 noSet [x, y]).cells, (Rx.mk 4 noSet [x, y]).cells]) ?_ (hr := rfl))
          refine l_cons rfl (p_build ze_29 pl_29 (l := (Rx.mk 5 noSet [Rx.mk 4 noSet [x, z], Rx.mk 4 noSet [x, y], Rx.mk 4 noSet [x, y]]).cells) ?_ (hl := by rw [raw35 (Rx.mk 4 noSet [x, z]) (Rx.mk 4 noSet [x, y]) (Rx.mk 4 noSet [x, y])]; simp only [List.map_cons, List.map_nil, List.nil_append, List.append_nil, List.cons_append, ev_tmp, ev_const, ev_func, ofConst_int, ofConst_bool, ofConst_str, ofConst_nil, upd_apply, Nat.reduceEqDiff, ↓reduceIte] <;> exact rfl))
          refine l_cons rfl (p_alloc ze_29 fun s16 => ?_)
          refine l_cons rfl (p_store ty_29 ?_)
          refine l_nil ?_
          refine k_seq_normal ?_
          refine w_seq ?_
          refine w_drawn 26 [] (fun e => e = _) mixed (by kernel_rfl) rfl ?_
          refine q1 13 (hg := rfl) (hu := rfl) (h := by rintro f _ rfl; exact p_loadp ty_29 ⟨rfl, rfl⟩) (k := ?_)
          refine q1 12 (hg := rfl) (hu := rfl) (h := by rintro f _ rfl; exact p_move ⟨rfl, rfl⟩) (k := ?_)
          refine q2 84 85 (hg := rfl) (hu := rfl) (h := by rintro f _ rfl; exact p_callr en_58 (In_walk (Rx.mk 4 noSet [Rx.mk 4 noSet [x, y], z]) w (k1) hw (by omega)) ⟨rfl, rfl⟩) (k := ?_)
          refine q1 14 (hg := rfl) (hu := rfl) (h := by rintro f _ rfl; exact p_loadp ty_29 ⟨rfl, rfl⟩) (k := ?_)
          refine q1 12 (hg := rfl) (hu := rfl) (h := by rintro f _ rfl; exact p_move ⟨rfl, rfl⟩) (k := ?_)
          refine q2 87 88 (hg := rfl) (hu := rfl) (h := by rintro f _ rfl; exact p_callr en_58 (In_walk (Rx.mk 4 noSet [x, Rx.mk 4 noSet [y, z]]) w (k2) hw (by omega)) ⟨rfl, rfl⟩) (k := ?_)
          refine q2 86 89 (hg := rfl) (hu := rfl) (h := by rintro f _ rfl; exact p_eqb ub_4 ⟨rfl, rfl⟩) (k := ?_)
          refine q1 90 (hg := rfl) (hu := rfl) (h := by rintro f _ rfl; exact p_move ⟨rfl, rfl⟩) (k := ?_)
          refine qsplit 91 (fun h5 => ?_) (fun h5 => ?_)
          · skip
            have h5' := h5; (try simp only [decide_eq_true_eq, decide_eq_false_iff_not, Bool.not_eq_true', Bool.not_false, Bool.not_true, Bool.not_eq_false'] at h5')
            refine qy1 13 (hg := rfl) (hw := h5) (hu := rfl) (h := by rintro f _ rfl; exact p_loadp ty_29 ⟨rfl, rfl⟩) (k := ?_)
            refine qy1 12 (hg := rfl) (hw := h5) (hu := rfl) (h := by rintro f _ rfl; exact p_move ⟨rfl, rfl⟩) (k := ?_)
            refine qy2 92 93 (hg := rfl) (hw := h5) (hu := rfl) (h := by rintro f _ rfl; exact p_callr en_58 (In_walk (Rx.mk 4 noSet [Rx.mk 4 noSet [x, y], z]) w (k1) hw (by omega)) ⟨rfl, rfl⟩) (k := ?_)
            refine qy1 9 (hg := rfl) (hw := h5) (hu := rfl) (h := by rintro f _ rfl; exact p_loadp ty_29 ⟨rfl, rfl⟩) (k := ?_)
            refine qy1 10 (hg := rfl) (hw := h5) (hu := rfl) (h := by rintro f _ rfl; exact p_loadp ty_29 ⟨rfl, rfl⟩) (k := ?_)
            refine qy1 11 (hg := rfl) (hw := h5) (hu := rfl) (h := by rintro f _ rfl; exact p_loadp ty_29 ⟨rfl, rfl⟩) (k := ?_)
            refine qy3 95 96 97 (hg := rfl) (hw := h5) (hu := rfl) (h := by rintro f _ rfl; exact p_buildList sl_27 ze_29 (rows := [(x).cells, (y).cells, (z).cells]) ⟨rfl, rfl⟩ (hr := rfl)) (k := ?_)
            refine qy1 98 (hg := rfl) (hw := h5) (hu := rfl) (h := by rintro f _ rfl; exact p_callr en_39 (refCat [x, y, z] (by simp only [Rx.nodesL]; omega)) ⟨rfl, rfl⟩) (k := ?_)
            refine qy1 12 (hg := rfl) (hw := h5) (hu := rfl) (h := by rintro f _ rfl; exact p_move ⟨rfl, rfl⟩) (k := ?_)
            refine qy2 99 100 (hg := rfl) (hw := h5) (hu := rfl) (h := by rintro f _ rfl; exact p_callr en_58 (In_walk (catR [x, y, z]) w (k3) hw (by omega)) ⟨rfl, rfl⟩) (k := ?_)
            refine qy2 94 101 (hg := rfl) (hw := h5) (hu := rfl) (h := by rintro f _ rfl; exact p_eqb ub_4 ⟨rfl, rfl⟩) (k := ?_)
            refine q2 91 102 (hg := rfl) (hu := rfl) (h := by rintro f _ rfl; exact p_pickt h5 ⟨rfl, rfl⟩) (k := ?_)
            refine q1 103 (hg := rfl) (hu := rfl) (h := by rintro f _ rfl; exact p_move ⟨rfl, rfl⟩) (k := ?_)
            refine qsplit 104 (fun h6 => ?_) (fun h6 => ?_)
            · skip
              have h6' := h6; (try simp only [decide_eq_true_eq, decide_eq_false_iff_not, Bool.not_eq_true', Bool.not_false, Bool.not_true, Bool.not_eq_false'] at h6')
              refine qy1 15 (hg := rfl) (hw := h6) (hu := rfl) (h := by rintro f _ rfl; exact p_loadp ty_29 ⟨rfl, rfl⟩) (k := ?_)
              refine qy1 12 (hg := rfl) (hw := h6) (hu := rfl) (h := by rintro f _ rfl; exact p_move ⟨rfl, rfl⟩) (k := ?_)
              refine qy2 105 106 (hg := rfl) (hw := h6) (hu := rfl) (h := by rintro f _ rfl; exact p_callr en_58 (In_walk (Rx.mk 4 noSet [x, Rx.mk 5 noSet [y, z]]) w (k4) hw (by omega)) ⟨rfl, rfl⟩) (k := ?_)
              refine qy1 16 (hg := rfl) (hw := h6) (hu := rfl) (h := by rintro f _ rfl; exact p_loadp ty_29 ⟨rfl, rfl⟩) (k := ?_)
              refine qy1 12 (hg := rfl) (hw := h6) (hu := rfl) (h := by rintro f _ rfl; exact p_move ⟨rfl, rfl⟩) (k := ?_)
              refine q_end ?_
              refine m_end ?_
              refine g_y rfl h6 (p_callr en_58 (In_walk (Rx.mk 5 noSet [Rx.mk 4 noSet [x, z], Rx.mk 4 noSet [x, y], Rx.mk 4 noSet [x, y]]) w (k5) hw (by omega)) ?_)
              refine g_y rfl h6 (p_eqb ub_4 ?_)
              refine l_cons rfl (p_pickt h6 ?_)
              refine l_cons rfl (p_assign ?_)
              refine l_nil ?_
              refine k_seq_normal ?_
              refine w_ret ?_
              exact ret1 rfl (by simp only [ev_tmp, ev_const, ev_func, ofConst_int, ofConst_bool, ofConst_str, ofConst_nil, upd_apply, Nat.reduceEqDiff, ↓reduceIte] <;> exact rfl) (sub_of (es := []) fun _ h => absurd h (Nat.not_lt_zero _)) (by first | rfl | (simp_all; done))
            · skip
              have h6' := h6; (try simp only [decide_eq_true_eq, decide_eq_false_iff_not, Bool.not_eq_true', Bool.not_false, Bool.not_true, Bool.not_eq_false'] at h6')
              refine qn rfl h6 ?_
              refine qn rfl h6 ?_
              refine qn rfl h6 ?_
              refine qn rfl h6 ?_
              refine qn rfl h6 ?_
              refine q_end ?_
              refine m_end ?_
              refine g_n rfl h6 ?_
              refine g_n rfl h6 ?_
              refine l_cons rfl (p_pickf h6 ?_)
              refine l_cons rfl (p_assign ?_)
              refine l_nil ?_
              refine k_seq_normal ?_
              refine w_ret ?_
              exact ret1 rfl (by simp only [ev_tmp, ev_const, ev_func, ofConst_int, ofConst_bool, ofConst_str, ofConst_nil, upd_apply, Nat.reduceEqDiff, ↓reduceIte] <;> exact rfl) (sub_of (es := []) fun _ h => absurd h (Nat.not_lt_zero _)) (by first | rfl | (simp_all; done))
          · skip
            have h5' := h5; (try simp only [decide_eq_true_eq, decide_eq_false_iff_not, Bool.not_eq_true', Bool.not_false, Bool.not_true, Bool.not_eq_false'] at h5')
            refine qn rfl h5 ?_
            refine qn rfl h5 ?_
            refine qn rfl h5 ?_
            refine qn rfl h5 ?_
            refine qn rfl h5 ?_
            refine qn rfl h5 ?_
            refine qn rfl h5 ?_
            refine qn rfl h5 ?_
            refine qn rfl h5 ?_
            refine qn rfl h5 ?_
            refine qn rfl h5 ?_
            refine q2 91 102 (hg := rfl) (hu := rfl) (h := by rintro f _ rfl; exact p_pickf h5 ⟨rfl, rfl⟩) (k := ?_)
            refine q1 103 (hg := rfl) (hu := rfl) (h := by rintro f _ rfl; exact p_move ⟨rfl, rfl⟩) (k := ?_)
            refine qn rfl rfl ?_
            refine qn rfl rfl ?_
            refine qn rfl rfl ?_
            refine qn rfl rfl ?_
            refine qn rfl rfl ?_
            refine q_end ?_
            refine m_end ?_
            refine g_n rfl rfl ?_
            refine g_n rfl rfl ?_
            refine l_cons rfl (p_pickf rfl ?_)
            refine l_cons rfl (p_assign ?_)
            refine l_nil ?_
            refine k_seq_normal ?_
            refine w_ret ?_
            exact ret1 rfl (by simp only [ev_tmp, ev_const, ev_func, ofConst_int, ofConst_bool, ofConst_str, ofConst_nil, upd_apply, Nat.reduceEqDiff, ↓reduceIte] <;> exact rfl) (sub_of (es := []) fun _ h => absurd h (Nat.not_lt_zero _)) (by first | rfl | (simp_all; done))
      · skip
        have h3' := h3; (try simp only [decide_eq_true_eq, decide_eq_false_iff_not, Bool.not_eq_true', Bool.not_false, Bool.not_true, Bool.not_eq_false'] at h3')
        refine g_n rfl h3 ?_
        refine g_n rfl h3 ?_
        refine l_cons rfl (p_pickt h3 ?_)
        refine l_nil ?_
        refine k_seq_normal ?_
        refine w_t rfl ?_
        refine w_seq ?_
        refine w_region ?_
        refine l_cons rfl (p_assign ?_)
        refine l_nil ?_
        refine k_seq_normal ?_
        refine w_ret ?_
        refine k_seq_ret ?_
        exact ret1 rfl (by simp only [ev_tmp, ev_const, ev_func, ofConst_int, ofConst_bool, ofConst_str, ofConst_nil, upd_apply, Nat.reduceEqDiff, ↓reduceIte] <;> exact rfl) (sub_of (es := []) fun _ h => absurd h (Nat.not_lt_zero _)) (rfl)
    · skip
      have h2' := h2; (try simp only [decide_eq_true_eq, decide_eq_false_iff_not, Bool.not_eq_true', Bool.not_false, Bool.not_true, Bool.not_eq_false'] at h2')
      refine g_n rfl h2 ?_
      refine g_n rfl h2 ?_
      refine l_cons rfl (p_pickt h2 ?_)
      refine l_cons rfl (p_move ?_)
      refine g_n rfl rfl ?_
      refine g_n rfl rfl ?_
      refine g_n rfl rfl ?_
      refine l_cons rfl (p_pickt rfl ?_)
      refine l_nil ?_
      refine k_seq_normal ?_
      refine w_t rfl ?_
      refine w_seq ?_
      refine w_region ?_
      refine l_cons rfl (p_assign ?_)
      refine l_nil ?_
      refine k_seq_normal ?_
      refine w_ret ?_
      refine k_seq_ret ?_
      exact ret1 rfl (by simp only [ev_tmp, ev_const, ev_func, ofConst_int, ofConst_bool, ofConst_str, ofConst_nil, upd_apply, Nat.reduceEqDiff, ↓reduceIte] <;> exact rfl) (sub_of (es := []) fun _ h => absurd h (Nat.not_lt_zero _)) (rfl)
  · skip
    have h1' := h1; (try simp only [decide_eq_true_eq, decide_eq_false_iff_not, Bool.not_eq_true', Bool.not_false, Bool.not_true, Bool.not_eq_false'] at h1')
    refine g_n rfl h1 ?_
    refine g_n rfl h1 ?_
    refine l_cons rfl (p_pickt h1 ?_)
    refine l_cons rfl (p_move ?_)
    refine g_n rfl rfl ?_
    refine g_n rfl rfl ?_
    refine g_n rfl rfl ?_
    refine l_cons rfl (p_pickt rfl ?_)
    refine l_cons rfl (p_move ?_)
    refine g_n rfl rfl ?_
    refine g_n rfl rfl ?_
    refine g_n rfl rfl ?_
    refine l_cons rfl (p_pickt rfl ?_)
    refine l_nil ?_
    refine k_seq_normal ?_
    refine w_t rfl ?_
    refine w_seq ?_
    refine w_region ?_
    refine l_cons rfl (p_assign ?_)
    refine l_nil ?_
    refine k_seq_normal ?_
    refine w_ret ?_
    refine k_seq_ret ?_
    exact ret1 rfl (by simp only [ev_tmp, ev_const, ev_func, ofConst_int, ofConst_bool, ofConst_str, ofConst_nil, upd_apply, Nat.reduceEqDiff, ↓reduceIte] <;> exact rfl) (sub_of (es := []) fun _ h => absurd h (Nat.not_lt_zero _)) (rfl)
end Go.Proofs.YtfdgbghlanbddaaDoor.Av
set_option linter.unusedVariables false
set_option linter.unusedSimpArgs false
namespace Go.Proofs.YtfdgbghlanbddaaDoor.Av
open Go.RowKit Go.Proofs Go.Proofs.YtfdgbghlanbddaaDoor Go.Deep
/-! ### what comes in -/
def start (W : World) : Core := ⟨W, fun _ => none, 0, fun b => b < W.heap.size⟩
theorem ok_start (W : World) : Ok W (start W) [] :=
  ⟨Below.refl _ _, fun b hb => hb, fun b hb => hb, fun id x h => by simp [at_] at h, fun i j s e sz rows s' e' sz' rows' g cap cap' h => by simp [at_] at h⟩
theorem bulk_one {H : Type} (d : DataW H) : 1 ≤ Rows.uptoBulk d := by
  cases d with
  | lit l => cases l <;> simp [Rows.uptoBulk]
  | nil => simp [Rows.uptoBulk]
  | ptr d => simp [Rows.uptoBulk]
  | slice elems spare => simp [Rows.uptoBulk]
  | agg parts => simp [Rows.uptoBulk]
  | iface t d => simp [Rows.uptoBulk]
  | map entries => simp [Rows.uptoBulk]
  | held h => simp [Rows.uptoBulk]
theorem bulk_part {H : Type} {d : DataW H} {l : List (DataW H)} (h : d ∈ l) : Rows.uptoBulk d ≤ Rows.uptoBulkAll l := by
  induction l with
  | nil => cases h
  | cons x r ih =>
    simp only [Rows.uptoBulkAll]
    cases List.mem_cons.1 h with
    | inl e => subst e; omega
    | inr e => have := ih e; omega
theorem bulk_len {H : Type} (l : List (DataW H)) : l.length ≤ Rows.uptoBulkAll l := by
  induction l with
  | nil => simp [Rows.uptoBulkAll]
  | cons x r ih => have := bulk_one x; simp only [Rows.uptoBulkAll, List.length_cons]; omega

theorem repRows_of {c : Core} {m : Option (List Ent)} {sz : Nat} : ∀ {rows : List (List AV)} {vs : List Value}, vs.length = rows.length * sz → (∀ i r, rows[i]? = some r → r.length = sz ∧ Reps c m r ((vs.drop (i * sz)).take sz)) → (∀ v ∈ vs, v.oneCell' = true) → RepRows c m sz rows vs
  | [], vs, hl, _, _ => by
    simp only [List.length_nil, Nat.zero_mul] at hl
    simp only [RepRows]
    exact List.length_eq_zero_iff.1 hl
  | r :: rs, vs, hl, h, ho => by
    simp only [RepRows]
    have h0 := h 0 r rfl
    simp only [Nat.zero_mul, List.drop_zero] at h0
    refine ⟨vs.take sz, vs.drop sz, (List.take_append_drop _ _).symm, h0.1, h0.2, fun v hv => ho v (List.mem_of_mem_take hv), repRows_of ?_ (fun i r' hr => ?_) fun v hv => ho v (List.mem_of_mem_drop hv)⟩
    · rw [List.length_drop, hl, List.length_cons, Nat.succ_mul]
      omega
    · have := h (i + 1) r' (by simpa using hr)
      rw [List.drop_drop]
      rw [show sz + i * sz = (i + 1) * sz by rw [Nat.succ_mul]; omega]
      exact this

/-- What a type's data are told al'. -/
def RDB {α : Type} (B : Nat) (P : Program) (W : World) (t : TypeId) (sz : Nat) (en : α → List AV) (Q : α → Prop) : Prop :=
  ∀ (H : Type) (enc : TypeId × Value → H) (n : Nat) (cs : List Value) (x : DataW H × List MemPlace), DataW.trod enc P W 0 (fun _ => true) true n t cs = some x → Rows.uptoBulk x.1 ≤ B →
    ∃ a : α, Q a ∧ Reps (start W) none (en a) cs ∧ (en a).length = sz ∧ ∀ v ∈ cs, v.oneCell' = true
def RD {α : Type} (P : Program) (W : World) (t : TypeId) (sz : Nat) (en : α → List AV) (Q : α → Prop) : Prop := RDB 1048576 P W t sz en Q
theorem RDB.mono {α : Type} {B B' : Nat} {P : Program} {W : World} {t : TypeId} {sz : Nat} {en : α → List AV} {Q : α → Prop} (h : RDB B P W t sz en Q) (hB : B' ≤ B) : RDB B' P W t sz en Q := fun H enc n cs x hx hb => h H enc n cs x hx (Nat.le_trans hb hB)
theorem addr_add (a : Addr) (p q : Nat) : (a.add p).add q = a.add (p + q) := by
  unfold Addr.add
  by_cases hp : p = 0
  · subst hp; simp
  · by_cases hq : q = 0
    · subst hq; simp [hp]
    · simp [hp, hq, Nat.add_assoc]
theorem cell_at {W : World} {a : Addr} {v : Value} (h : W.cell? a = some v) : a.spot = none ∧ a.block < W.heap.size := by
  unfold World.cell? at h
  split at h
  · rename_i hb
    constructor
    · cases hs : a.spot with
      | none => rfl
      | some k => rw [hs] at h; simp at h
    · exact (Array.getElem?_eq_some_iff.1 hb).1
  · cases h
theorem rd_int {P : Program} {W : World} {t : TypeId} {k : IntKind} (ht : P.underlying t = some (.int k)) : RD P W t 1 (fun n : Int => [AV.int k n]) (fun n => (Lit.int k n).wf = true) := by
  intro H enc n cs x h hb
  obtain ⟨m, rfl, rfl, hw⟩ := DataW.trod_int ht h
  exact ⟨m, hw, by simp only [Reps, Rep]; exact ⟨_, _, rfl, rfl, rfl⟩, rfl, by simp [Value.oneCell']⟩
theorem rd_sliceB {α : Type} [Inhabited α] {B : Nat} (hB : B ≤ 1048575) {P : Program} {W : World} {t e : TypeId} {sz : Nat} {en : α → List AV} {Q : α → Prop} (ht : P.underlying t = some (.slice e)) (hc : P.cellsOf e = sz) (hsz : 0 < sz) (he : RDB B P W e sz en Q) :
    RDB (B + 1) P W t 1 (fun l : List α => [AV.list sz (l.map en)]) (fun l => ∀ a ∈ l, Q a) := by
  intro H enc n cs x h hb
  rcases open_slice ht h with ⟨rfl, rfl⟩ | ⟨a, len, cap, m, n', D, Pl, rfl, _, hlc, _, hm, rfl, hi⟩
  · refine ⟨[], by simp, ?_, rfl, by simp [Value.oneCell']⟩
    simp only [Reps, Rep, List.map_nil]
    exact ⟨_, _, rfl, ⟨none, 0, [], rfl, Nat.le_refl _, Nat.zero_le _, by simp only [RepRows], fun e => absurd rfl e⟩, rfl⟩
  · simp only [if_true] at hm
    subst hm
    simp only [Rows.uptoBulk] at hb
    have hlen : len ≤ 1048576 := by
      have := bulk_len ((List.range len).map D)
      simp only [List.length_map, List.length_range] at this
      omega
    rw [hc] at hi
    have hA : ∀ i, i < len → ∃ b : α, Q b ∧ (en b).length = sz ∧ ∃ cs', W.cells? 0 (a.add (i * sz)) sz = some cs' ∧ Reps (start W) none (en b) cs' ∧ ∀ v ∈ cs', v.oneCell' = true := by
      intro i hil
      obtain ⟨cs', h1, h2⟩ := hi i (by omega)
      have hbi : Rows.uptoBulk (D i) ≤ B := by
        have := bulk_part (l := (List.range len).map D) (List.mem_map.2 ⟨i, List.mem_range.2 hil, rfl⟩)
        omega
      obtain ⟨b, hQ, hr, hl, ho⟩ := he H enc n' cs' (D i, Pl i) h2 hbi
      exact ⟨b, hQ, hl, cs', h1, hr, ho⟩
    obtain ⟨A, hA⟩ := choose_lt hA
    have hsome : ∀ i j, i < len → j < sz → ∃ v, W.cell? (a.add (i * sz + j)) = some v := by
      intro i j hil hj
      obtain ⟨_, _, cs', h1, _, _⟩ := hA i hil
      obtain ⟨_, hl, hcell⟩ := World.cells?_some h1
      have := hcell j hj
      rw [addr_add, List.getElem?_eq_getElem (by omega)] at this
      exact ⟨_, this⟩
    refine ⟨(List.range len).map A, fun b hb => ?_, ?_, rfl, by simp [Value.oneCell']⟩
    · obtain ⟨i, hil, rfl⟩ := List.mem_map.1 hb
      exact (hA i (List.mem_range.1 hil)).1
    · let vs : List Value := (List.range (len * sz)).map fun j => (W.cell? (a.add j)).getD undef
      have hget : ∀ j, j < len * sz → W.cell? (a.add j) = vs[j]? := by
        intro j hj
        have hdm := Nat.div_add_mod j sz
        obtain ⟨v, hv⟩ := hsome (j / sz) (j % sz) (by rw [Nat.div_lt_iff_lt_mul hsz]; exact hj) (Nat.mod_lt _ hsz)
        rw [show j / sz * sz + j % sz = j by rw [Nat.mul_comm]; exact hdm] at hv
        simp only [vs, List.getElem?_map, List.getElem?_range hj, Option.map_some, hv, Option.getD_some]
      have hrow : ∀ i, i < len → ∃ cs', (vs.drop (i * sz)).take sz = cs' ∧ Reps (start W) none (en (A i)) cs' ∧ ∀ v ∈ cs', v.oneCell' = true := by
        intro i hil
        obtain ⟨_, _, cs', h1, h2, h3⟩ := hA i hil
        obtain ⟨_, hl, hcell⟩ := World.cells?_some h1
        refine ⟨cs', ?_, h2, h3⟩
        refine List.ext_getElem? fun j => ?_
        rw [List.getElem?_take]
        by_cases hj : j < sz
        · rw [if_pos hj, List.getElem?_drop, ← hcell j hj, addr_add]
          have : i * sz + j < len * sz := by
            have : (i + 1) * sz ≤ len * sz := Nat.mul_le_mul_right _ hil
            rw [Nat.succ_mul] at this
            omega
          exact (hget _ this).symm
        · rw [if_neg hj, List.getElem?_eq_none (by omega)]
      have hone : ∀ v ∈ vs, v.oneCell' = true := by
        intro v hv
        obtain ⟨j, hj⟩ := List.mem_iff_getElem?.1 hv
        have hjl : j < len * sz := by
          have := (List.getElem?_eq_some_iff.1 hj).1
          simpa [vs] using this
        have hdm := Nat.div_add_mod j sz
        have hil : j / sz < len := by rw [Nat.div_lt_iff_lt_mul hsz]; exact hjl
        obtain ⟨cs', h1, _, h3⟩ := hrow (j / sz) hil
        refine h3 v (List.mem_of_getElem? (i := j % sz) ?_)
        rw [← h1, List.getElem?_take, if_pos (Nat.mod_lt _ hsz), List.getElem?_drop, show j / sz * sz + j % sz = j by rw [Nat.mul_comm]; exact hdm]
        exact hj
      have hrr : RepRows (start W) none sz (((List.range len).map A).map en) vs := by
        refine repRows_of (by simp [vs]) (fun i r hr => ?_) hone
        simp only [List.getElem?_map] at hr
        by_cases hil : i < len
        · rw [List.getElem?_range hil] at hr
          simp only [Option.map_some, Option.some.injEq] at hr
          subst hr
          obtain ⟨cs', h1, h2, _⟩ := hrow i hil
          rw [h1]
          exact ⟨(hA i hil).2.1, h2⟩
        · rw [List.getElem?_eq_none (by simpa using hil)] at hr
          cases hr
      simp only [Reps, Rep]
      refine ⟨_, _, rfl, ⟨some a, m, vs, by simp, by simpa using hlc, by simp [most]; omega, hrr, fun hne => ?_⟩, rfl⟩
      have hpos : 0 < len * sz := by
        rcases Nat.eq_zero_or_pos (len * sz) with h0 | h0
        · exact absurd (List.length_eq_zero_iff.1 (by simp [vs, h0])) hne
        · exact h0
      have hlen0 : 0 < len := Nat.pos_of_mul_pos_right hpos
      obtain ⟨v, hv⟩ := hsome 0 0 hlen0 hsz
      have hat := cell_at hv
      have ha0 : a.add (0 * sz + 0) = a := by simp [Addr.add]
      rw [ha0] at hat
      obtain ⟨b, o, sp⟩ := a
      simp only at hat
      obtain ⟨rfl, hbl⟩ := hat
      refine ⟨b, o, rfl, hbl, fun j hj => ?_⟩
      have := hget j (by simpa [vs] using hj)
      rw [← this]
      show W.cell? _ = W.cell? _
      congr 1
      unfold Addr.add
      split
      · rename_i h0; subst h0; rfl
      · rfl
theorem rd_slice {α : Type} [Inhabited α] {P : Program} {W : World} {t e : TypeId} {sz : Nat} {en : α → List AV} {Q : α → Prop} (ht : P.underlying t = some (.slice e)) (hc : P.cellsOf e = sz) (hsz : 0 < sz) (he : RD P W e sz en Q) :
    RD P W t 1 (fun l : List α => [AV.list sz (l.map en)]) (fun l => ∀ a ∈ l, Q a) := rd_sliceB (B := 1048575) (Nat.le_refl _) ht hc hsz (RDB.mono he (by omega))
end Go.Proofs.YtfdgbghlanbddaaDoor.Av
