import Derived.Test.YtfdgbghlanbddaaDoorAvK0
import Derived.Test.YtfdgbghlanbddaaDoorAvK1
import Derived.Test.YtfdgbghlanbddaaDoorAvK2
import Derived.Test.YtfdgbghlanbddaaDoorAvK3
import Derived.Test.YtfdgbghlanbddaaDoorAvK4
import Derived.BigFrame
import Derived.Shelf.SlSortCmp.NoneTotal
import Derived.Test.YtfdgbghlanbddaaDoorProg
import Derived.KernelRfl
set_option linter.unusedVariables false
set_option linter.unusedSimpArgs false
namespace Go.Proofs.YtfdgbghlanbddaaDoor.Av
set_option maxRecDepth 8000
section
open Go.RowKit Go.Proofs
theorem loc_top {x : Ent} {es : List Ent} {id : Nat} (h : id = es.length) : Loc (x :: es) id x (fun y => y :: es) := by
 subst h
 exact loc_hit

theorem First_walk {w0 : World} : ∀ (B : Nat) (r : Rx) (es : List Ent), r.nodes ≤ B → B ≤ 1048576 → r.ok → ACalls Tryd.prog w0 61 [.agg r.cells] es fun v es' => v = .agg r.first.row ∧ es' = es := by
  intro B
  induction B using Nat.strongRecOn with
  | _ B ih => ?_
  intro r es hB hB2 ho
  rw [Rx.cells_eq r]
  have hne := r.nodes_eq
  have hal := Rx.len_le r.args
  refine calls1 (N := 58) Tryd.func61 rfl rfl (by decide) ?_
  refine w_seq ?_
  refine w_region ?_
  refine l_cons rfl (p_box fun s1 => ?_)
  refine l_cons rfl (p_alloc ze_26 fun s2 => ?_)
  refine l_nil ?_
  refine k_seq_normal ?_
  refine w_seq ?_
  refine w_region ?_
  refine l_cons rfl (p_alloc ze_26 fun s3 => ?_)
  refine l_nil ?_
  refine k_seq_normal ?_
  refine w_seq ?_
  refine w_seq ?_
  refine w_region ?_
  refine l_cons rfl (p_fap fa_29_0 ?_)
  refine l_cons rfl (p_loadp ty_3 ?_)
  refine l_nil ?_
  refine k_seq_normal ?_
  refine w_block ?_
  refine w_seq ?_
  refine w_block ?_
  refine w_cut (fun f es' => (r.kind = 5 ∨ r.kind = 6 ∧ r.args.length = 1) ∧ es' = .row s3 26 4 [[.int .u64 0, .int .u64 0, .int .u64 0, .int .u64 0]] :: .row s2 26 4 [[.int .u64 0, .int .u64 0, .int .u64 0, .int .u64 0]] :: .row s1 29 6 [[.int .i64 r.kind, .int .u64 r.set.w0, .int .u64 r.set.w1, .int .u64 r.set.w2, .int .u64 r.set.w3, .list 6 (r.args.map Rx.cells)]] :: es ∧ Knows f [(1, .ptr es.length s1 0 0), (2, .ptr (es.length + 1) s2 0 0), (3, .ptr (es.length + 2) s3 0 0)]) ?_ ?_
  · skip
    refine w_block ?_
    refine w_seq ?_
    refine w_block ?_
    refine w_seq ?_
    refine w_block ?_
    refine w_seq ?_
    refine w_seq ?_
    refine w_seq ?_
    refine w_region ?_
    refine l_cons rfl (p_cmp ?_)
    refine l_cons rfl (p_assign ?_)
    refine l_nil ?_
    refine k_seq_normal ?_
    refine w_b (fun h1 => ?_) (fun h1 => ?_)
    · skip
      have h1' := h1; (try simp only [bb] at h1')
      refine w_exit ?_
      refine k_seq_exit ?_
      refine k_seq_exit ?_
      refine k_blk_here ?_
      refine k_seq_normal ?_
      refine w_seq ?_
      refine w_seq ?_
      refine w_region ?_
      refine l_cons rfl (p_fap fa_29_1 ?_)
      refine l_cons rfl (p_loadp ty_26 (a := .agg r.set.row) ?_ (hl := Nat.le_of_ble_eq_true rfl) (ha := rfl))
      refine l_cons rfl (p_store ty_26 ?_)
      refine l_nil ?_
      refine k_seq_normal ?_
      refine w_ret ?_
      refine k_seq_ret ?_
      refine k_blk_ret ?_
      refine k_seq_ret ?_
      refine k_blk_ret ?_
      refine k_seq_ret ?_
      refine k_blk_ret ?_
      refine k_seq_ret ?_
      refine k_blk_ret ?_
      refine k_seq_ret ?_
      rw [first_3 (by omega)]
      exact retc rfl ty_26 (sub3 _ _ _ _) ⟨rfl, rfl⟩
    · skip
      have h1' := h1; (try simp only [bb] at h1')
      refine w_skip ?_
      refine k_seq_normal ?_
      refine w_seq ?_
      refine w_seq ?_
      refine w_region ?_
      refine l_cons rfl (p_cmp ?_)
      refine l_cons rfl (p_assign ?_)
      refine l_nil ?_
      refine k_seq_normal ?_
      refine w_b (fun h2 => ?_) (fun h2 => ?_)
      · skip
        have h2' := h2; (try simp only [bb] at h2')
        refine w_exit ?_
        refine k_seq_exit ?_
        refine k_seq_exit ?_
        refine k_blk_there (by decide) ?_
        refine k_seq_exit ?_
        refine k_blk_here ?_
        refine k_seq_normal ?_
        refine w_seq ?_
        refine w_region ?_
        refine l_cons rfl (p_fap fa_29_2 ?_)
        refine l_cons rfl (p_loadp ty_27 ?_)
        first | refine l_cons rfl (p_lenl sl_27 ?_) | refine l_cons rfl (p_leno sl_27 ?_) | refine l_cons rfl (p_lenn sl_27 ?_)
        refine l_cons rfl (p_cmp ?_)
        refine l_nil ?_
        refine k_seq_normal ?_
        refine w_b (fun h3 => ?_) (fun h3 => ?_)
        · skip
          have h3' := h3; (try simp only [bb] at h3')
          refine w_seq ?_
          refine w_region ?_
          refine l_cons rfl (p_loadp ty_26 ?_)
          refine l_cons rfl (p_store ty_26 ?_)
          refine l_nil ?_
          refine k_seq_normal ?_
          refine w_ret ?_
          refine k_blk_ret ?_
          refine k_seq_ret ?_
          refine k_blk_ret ?_
          refine k_seq_ret ?_
          refine k_blk_ret ?_
          refine k_seq_ret ?_
          rw [first_no (by omega) (by omega) (by omega)]
          exact retc rfl ty_26 (sub3 _ _ _ _) ⟨rfl, rfl⟩
        · skip
          have h3' := h3; (try simp only [bb] at h3')
          refine w_skip ?_
          refine k_blk_normal ?_
          refine k_seq_normal ?_
          exact ⟨by first | (left; omega) | (right; omega), rfl, kn⟩
      · skip
        have h2' := h2; (try simp only [bb] at h2')
        refine w_skip ?_
        refine k_seq_normal ?_
        refine w_seq ?_
        refine w_seq ?_
        refine w_region ?_
        refine l_cons rfl (p_cmp ?_)
        refine l_cons rfl (p_assign ?_)
        refine l_nil ?_
        refine k_seq_normal ?_
        refine w_b (fun h4 => ?_) (fun h4 => ?_)
        · skip
          have h4' := h4; (try simp only [bb] at h4')
          refine w_exit ?_
          refine k_seq_exit ?_
          refine k_seq_exit ?_
          refine k_blk_there (by decide) ?_
          refine k_seq_exit ?_
          refine k_blk_there (by decide) ?_
          refine k_seq_exit ?_
          refine k_blk_here ?_
          refine k_seq_normal ?_
          exact ⟨by first | (left; omega) | (right; omega), rfl, kn⟩
        · skip
          have h4' := h4; (try simp only [bb] at h4')
          refine w_skip ?_
          refine k_seq_normal ?_
          refine w_seq ?_
          refine w_region ?_
          refine l_cons rfl (p_cmp ?_)
          refine l_cons rfl (p_assign ?_)
          refine l_nil ?_
          refine k_seq_normal ?_
          refine w_b (fun h5 => ?_) (fun h5 => ?_)
          · skip
            have h5' := h5; (try simp only [bb] at h5')
            refine w_exit ?_
            refine k_seq_exit ?_
            refine k_blk_there (by decide) ?_
            refine k_seq_exit ?_
            refine k_blk_there (by decide) ?_
            refine k_seq_exit ?_
            refine k_blk_there (by decide) ?_
            refine k_seq_exit ?_
            refine k_blk_here ?_
            refine k_seq_normal ?_
            refine w_seq ?_
            refine w_seq ?_
            refine w_seq ?_
            refine w_region ?_
            refine l_cons rfl (p_loadp ty_29 ?_)
            refine l_cons rfl (p_callr en_98 (cells1 (r := r) (some_walk _ r _ (Nat.le_refl _) (by omega))) ?_)
            refine l_cons rfl (p_not ?_)
            refine l_nil ?_
            refine k_seq_normal ?_
            refine w_b (fun h6 => ?_) (fun h6 => ?_)
            · skip
              have h6' := h6; (try simp only [bb] at h6')
              refine w_seq ?_
              refine w_region ?_
              refine l_cons rfl (p_loadp ty_26 ?_)
              refine l_cons rfl (p_store ty_26 ?_)
              refine l_nil ?_
              refine k_seq_normal ?_
              refine w_ret ?_
              refine k_seq_ret ?_
              refine k_seq_ret ?_
              refine k_blk_ret ?_
              refine k_seq_ret ?_
              rw [first_no (by omega) (by omega) (fun _ => by assumption)]
              exact retc rfl ty_26 (sub3 _ _ _ _) ⟨rfl, rfl⟩
            · skip
              have h6' := h6; (try simp only [bb] at h6')
              refine w_skip ?_
              refine k_seq_normal ?_
              refine w_seq ?_
              refine w_region ?_
              refine l_cons rfl (p_fap fa_29_2 ?_)
              refine l_cons rfl (p_loadp ty_27 ?_)
              first | refine l_cons rfl (p_lenl sl_27 ?_) | refine l_cons rfl (p_leno sl_27 ?_) | refine l_cons rfl (p_lenn sl_27 ?_)
              refine l_len 42 fun hl2 => ?_
              simp only [List.length_map, most] at hl2
              refine l_cons rfl (p_move ?_)
              refine l_nil ?_
              refine k_seq_normal ?_
              refine w_block ?_
              refine w_loop (fun m f es2 => ∃ k, m = r.args.length - k ∧ k ≤ r.args.length ∧ (∀ j (hj : j < k) (h : j < r.args.length), (r.args[j]).null = true) ∧ at_ es2 (es.length + 2) = some (.row s3 26 4 [[.int .u64 (Rx.firstE noSet (r.args.take k)).w0, .int .u64 (Rx.firstE noSet (r.args.take k)).w1, .int .u64 (Rx.firstE noSet (r.args.take k)).w2, .int .u64 (Rx.firstE noSet (r.args.take k)).w3]]) ∧ KB (.row s2 26 4 [[.int .u64 0, .int .u64 0, .int .u64 0, .int .u64 0]] :: .row s1 29 6 [[.int .i64 r.kind, .int .u64 r.set.w0, .int .u64 r.set.w1, .int .u64 r.set.w2, .int .u64 r.set.w3, .list 6 (r.args.map Rx.cells)]] :: es) es2 ∧ Knows f [(1, .ptr es.length s1 0 0), (2, .ptr (es.length + 1) s2 0 0), (3, .ptr (es.length + 2) s3 0 0), (42, .list 6 (r.args.map Rx.cells)), (43, .int .i64 (r.args.length : Int)), (44, .int .i64 (k : Int))]) (r.args.length) (⟨0, rfl, Nat.zero_le _, fun j hj => absurd hj (Nat.not_lt_zero _), at_hit _ _, (KB.refl _).push _, by simp only [List.length_map, Knows, put, upd_apply, Nat.reduceEqDiff, ↓reduceIte, and_true, true_and, eq_self] <;> and_intros <;> rfl⟩) ?_
              rintro m f es2 ⟨k, rfl, hk1, hk2, h3, kb, hk⟩
              have h2 := (kb.1 (es.length + 1) (by simp only [List.length_cons]; omega)).trans (at_hit _ _)
              have h1x := (kb.1 es.length (by simp only [List.length_cons]; omega)).trans (at_miss _ (at_hit _ _))
              have hel := kb.2
              simp only [List.length_cons] at hel
              have hacc := firstE_ok _ noSet noSet_ok (oks_take (fun x hx => ho.args x hx) k)
              refine w_pins _ (Sub.refl _) (hk) ?_
              simp only [pins]
              refine w_seq ?_
              refine w_region ?_
              refine l_cons rfl (p_cmp ?_)
              refine l_nil ?_
              refine k_seq_normal ?_
              refine w_seq ?_
              refine w_b (fun h7 => ?_) (fun h7 => ?_)
              · skip
                have h7' := h7; (try simp only [bb] at h7')
                refine w_skip ?_
                refine k_seq_normal ?_
                refine w_seq ?_
                refine w_block ?_
                refine w_seq ?_
                refine w_region ?_
                refine l_cons rfl (p_ixl sl_27 (a := .fptr 6 (r.args.map Rx.cells) k 0) ?_ (h0 := by omega) (h1 := by simp only [List.length_map]; omega))
                refine l_cons rfl (p_loadf ty_29 (a := .agg (r.args[k]'(by omega)).cells) ?_ (hr := rxrow_at (l := r.args) (k := k) (by omega)) (hl := Nat.le_refl 6) (ha := rfl))
                refine l_cons rfl (p_alloc ze_29 fun s7 => ?_)
                refine l_cons rfl (p_store ty_29 ?_)
                refine l_nil ?_
                refine k_seq_normal ?_
                refine w_seq ?_
                refine w_drawn 3 [] (fun e => at_ e (es.length + 2) = some (.row s3 26 4 [[.int .u64 (Rx.firstE noSet (r.args.take k)).w0, .int .u64 (Rx.firstE noSet (r.args.take k)).w1, .int .u64 (Rx.firstE noSet (r.args.take k)).w2, .int .u64 (Rx.firstE noSet (r.args.take k)).w3]]) ∧ at_ e es2.length = some (.row s7 29 6 [(r.args[k]'(by omega)).cells])) mixed (by kernel_rfl) ⟨at_miss _ h3, at_hit _ _⟩ ?_
                refine q1 3 (hg := rfl) (hu := rfl) (h := by rintro f _ ⟨hG1, hG2⟩; exact p_loadp ty_26 (a := .agg (Rx.firstE noSet (r.args.take k)).row) ⟨rfl, rfl⟩ (hl := Nat.le_of_ble_eq_true rfl) (ha := rfl)) (k := ?_)
                refine q1 7 (hg := rfl) (hu := rfl) (h := by rintro f _ ⟨hG1, hG2⟩; exact p_loadp ty_29 ⟨rfl, rfl⟩) (k := ?_)
                refine q1 49 (hg := rfl) (hu := rfl) (h := by rintro f _ ⟨hG1, hG2⟩; exact p_callr en_61 (ih (B - 1) (by omega) (r.args[k]'(by omega)) _ (by have := r.nodes_arg (k := k) (by omega); omega) (by omega) (ho.arg (by omega))) ⟨rfl, rfl⟩) (k := ?_)
                refine q_end ?_
                refine m_end ?_
                refine l_cons rfl (p_callr en_97 (or_set (Rx.firstE noSet (r.args.take k)) (r.args[k]'(by omega)).first hacc (first_ok _ (ho.arg (by omega)))) ?_)
                refine l_cons rfl (p_store ty_26 (r' := [.int .u64 (Rx.firstE noSet (r.args.take (k + 1))).w0, .int .u64 (Rx.firstE noSet (r.args.take (k + 1))).w1, .int .u64 (Rx.firstE noSet (r.args.take (k + 1))).w2, .int .u64 (Rx.firstE noSet (r.args.take (k + 1))).w3]) ?_ (hr' := by rw [firstE_succ (by omega)]; rfl))
                refine l_nil ?_
                refine k_seq_normal ?_
                refine w_seq ?_
                refine w_region ?_
                refine l_cons rfl (p_loadp ty_29 (a := .agg (r.args[k]'(by omega)).cells) (he := loc_top (by rw [setAt_len])) ?_ (hr := rfl) (hl := Nat.le_refl 6) (ha := rfl))
                refine l_cons rfl (p_callr en_59 (Null_walk _ (r.args[k]'(by omega)) _ (Nat.le_refl _) (by have := r.nodes_arg (k := k) (by omega); omega)) ?_)
                refine l_cons rfl (p_not ?_)
                refine l_nil ?_
                refine k_seq_normal ?_
                refine w_b (fun h8 => ?_) (fun h8 => ?_)
                · skip
                  have h8' := h8; (try simp only [bb] at h8')
                  refine w_seq ?_
                  have h2' : at_ (Ent.row s7 29 6 [(r.args[k]'(by omega)).cells] :: setAt es2 (es.length + 2) (.row s3 26 4 [[.int .u64 (Rx.firstE noSet (r.args.take (k + 1))).w0, .int .u64 (Rx.firstE noSet (r.args.take (k + 1))).w1, .int .u64 (Rx.firstE noSet (r.args.take (k + 1))).w2, .int .u64 (Rx.firstE noSet (r.args.take (k + 1))).w3]])) (es.length + 1) = some (.row s2 26 4 [[.int .u64 0, .int .u64 0, .int .u64 0, .int .u64 0]]) := at_miss _ ((at_setAt_ne _ (by omega)).trans h2)
                  have h3' : at_ (Ent.row s7 29 6 [(r.args[k]'(by omega)).cells] :: setAt es2 (es.length + 2) (.row s3 26 4 [[.int .u64 (Rx.firstE noSet (r.args.take (k + 1))).w0, .int .u64 (Rx.firstE noSet (r.args.take (k + 1))).w1, .int .u64 (Rx.firstE noSet (r.args.take (k + 1))).w2, .int .u64 (Rx.firstE noSet (r.args.take (k + 1))).w3]])) (es.length + 2) = some (.row s3 26 4 [[.int .u64 (Rx.firstE noSet (r.args.take (k + 1))).w0, .int .u64 (Rx.firstE noSet (r.args.take (k + 1))).w1, .int .u64 (Rx.firstE noSet (r.args.take (k + 1))).w2, .int .u64 (Rx.firstE noSet (r.args.take (k + 1))).w3]]) := at_miss _ (at_setAt_same _ h3)
                  refine w_region ?_
                  refine l_cons rfl (p_loadp ty_26 (a := .agg (Rx.firstE noSet (r.args.take (k + 1))).row) ?_ (hl := Nat.le_of_ble_eq_true rfl) (ha := rfl))
                  refine l_cons rfl (p_store ty_26 ?_)
                  refine l_nil ?_
                  refine k_seq_normal ?_
                  refine w_ret ?_
                  refine k_blk_ret ?_
                  refine k_seq_ret ?_
                  refine k_seq_ret ?_
                  refine k_blk_ret ?_
                  refine k_seq_ret ?_
                  refine k_blk_ret ?_
                  refine k_seq_ret ?_
                  rw [first_4 (by omega) (by assumption), firstC_at (k := k) (by omega) hk2 (by assumption)]
                  exact retc (he := loc_base (at_setAt_same _ h2')) rfl ty_26 ((((kb.put (by simp only [List.length_cons]; omega) _).push _).pop.pop).put (by omega) _).sub ⟨rfl, rfl⟩
                · skip
                  have h8' := h8; (try simp only [bb] at h8')
                  refine w_skip ?_
                  refine k_blk_normal ?_
                  refine k_seq_normal ?_
                  refine w_region ?_
                  refine l_cons rfl (p_arith ?_)
                  refine l_cons rfl (p_move ?_)
                  refine l_nil ?_
                  refine k_seq_normal ?_
                  exact ⟨r.args.length - (k + 1), by omega, k + 1, rfl, by omega, next_true (p := Rx.null) (by omega) hk2 (by assumption), at_miss _ (at_setAt_same _ h3), (kb.put (by simp only [List.length_cons]; omega) _).push _, kn⟩
              · skip
                have h7' := h7; (try simp only [bb] at h7')
                refine w_exit ?_
                refine k_seq_exit ?_
                refine k_seq_exit ?_
                refine k_blk_here ?_
                refine k_seq_normal ?_
                refine w_exit ?_
                refine k_blk_here ?_
                refine k_seq_normal ?_
                refine w_seq ?_
                refine w_region ?_
                refine l_cons rfl (p_loadp ty_26 ?_)
                refine l_cons rfl (p_store ty_26 ?_)
                refine l_nil ?_
                refine k_seq_normal ?_
                refine w_ret ?_
                first
                | (have hkl : k = r.args.length := by omega
                   rw [hkl, List.take_length] at h3 ⊢
                   rw [first_5 (by assumption)]
                   exact retc (he := loc_base (at_setAt_same _ h2)) rfl ty_26 ((kb.pop.pop).put (by omega) _).sub ⟨rfl, rfl⟩)
                | (have hkl : k = r.args.length := by omega
                   rw [hkl, List.take_length] at h3 ⊢
                   rw [first_4 (by omega) (by assumption), firstC_all (fun j hj h => hk2 j (by omega) h)]
                   exact retc (he := loc_base (at_setAt_same _ h2)) rfl ty_26 ((kb.pop.pop).put (by omega) _).sub ⟨rfl, rfl⟩)
                | (rw [first_no (by omega) (by omega) (by omega)]
                   exact retc rfl ty_26 (sub3 _ _ _ _) ⟨rfl, rfl⟩)
          · skip
            have h5' := h5; (try simp only [bb] at h5')
            refine w_skip ?_
            refine k_seq_normal ?_
            refine w_exit ?_
            refine k_blk_there (by decide) ?_
            refine k_seq_exit ?_
            refine k_blk_there (by decide) ?_
            refine k_seq_exit ?_
            refine k_blk_there (by decide) ?_
            refine k_seq_exit ?_
            refine k_blk_there (by decide) ?_
            refine k_seq_exit ?_
            refine k_blk_here ?_
            refine k_seq_normal ?_
            refine w_seq ?_
            refine w_region ?_
            refine l_cons rfl (p_loadp ty_26 ?_)
            refine l_cons rfl (p_store ty_26 ?_)
            refine l_nil ?_
            refine k_seq_normal ?_
            refine w_ret ?_
            first
            | (have hkl : k = r.args.length := by omega
               rw [hkl, List.take_length] at h3 ⊢
               rw [first_5 (by assumption)]
               exact retc (he := loc_base (at_setAt_same _ h2)) rfl ty_26 ((kb.pop.pop).put (by omega) _).sub ⟨rfl, rfl⟩)
            | (have hkl : k = r.args.length := by omega
               rw [hkl, List.take_length] at h3 ⊢
               rw [first_4 (by omega) (by assumption), firstC_all (fun j hj h => hk2 j (by omega) h)]
               exact retc (he := loc_base (at_setAt_same _ h2)) rfl ty_26 ((kb.pop.pop).put (by omega) _).sub ⟨rfl, rfl⟩)
            | (rw [first_no (by omega) (by omega) (by omega)]
               exact retc rfl ty_26 (sub3 _ _ _ _) ⟨rfl, rfl⟩)
  · skip
    rintro f es' ⟨hkd, rfl, hk⟩
    refine w_pins _ (Sub.refl _) (hk) ?_
    simp only [pins]
    refine w_seq ?_
    refine w_seq ?_
    refine w_region ?_
    refine l_cons rfl (p_fap fa_29_2 ?_)
    refine l_cons rfl (p_loadp ty_27 ?_)
    first | refine l_cons rfl (p_lenl sl_27 ?_) | refine l_cons rfl (p_leno sl_27 ?_) | refine l_cons rfl (p_lenn sl_27 ?_)
    refine l_len 26 fun hl2 => ?_
    simp only [List.length_map, most] at hl2
    refine l_cons rfl (p_move ?_)
    refine l_nil ?_
    refine k_seq_normal ?_
    refine w_block ?_
    refine w_loop (fun m f es2 => ∃ k, m = r.args.length - k ∧ k ≤ r.args.length ∧ at_ es2 (es.length + 2) = some (.row s3 26 4 [[.int .u64 (Rx.firstE noSet (r.args.take k)).w0, .int .u64 (Rx.firstE noSet (r.args.take k)).w1, .int .u64 (Rx.firstE noSet (r.args.take k)).w2, .int .u64 (Rx.firstE noSet (r.args.take k)).w3]]) ∧ KB (.row s2 26 4 [[.int .u64 0, .int .u64 0, .int .u64 0, .int .u64 0]] :: .row s1 29 6 [[.int .i64 r.kind, .int .u64 r.set.w0, .int .u64 r.set.w1, .int .u64 r.set.w2, .int .u64 r.set.w3, .list 6 (r.args.map Rx.cells)]] :: es) es2 ∧ Knows f [(1, .ptr es.length s1 0 0), (2, .ptr (es.length + 1) s2 0 0), (3, .ptr (es.length + 2) s3 0 0), (26, .list 6 (r.args.map Rx.cells)), (27, .int .i64 (r.args.length : Int)), (28, .int .i64 (k : Int))]) (r.args.length) (⟨0, rfl, Nat.zero_le _, at_hit _ _, (KB.refl _).push _, by simp only [List.length_map, Knows, put, upd_apply, Nat.reduceEqDiff, ↓reduceIte, and_true, true_and, eq_self] <;> and_intros <;> rfl⟩) ?_
    rintro m f es2 ⟨k, rfl, hk1, h3, kb, hk⟩
    have h2 := (kb.1 (es.length + 1) (by simp only [List.length_cons]; omega)).trans (at_hit _ _)
    have h1x := (kb.1 es.length (by simp only [List.length_cons]; omega)).trans (at_miss _ (at_hit _ _))
    have hel := kb.2
    simp only [List.length_cons] at hel
    have hacc := firstE_ok _ noSet noSet_ok (oks_take (fun x hx => ho.args x hx) k)
    refine w_pins _ (Sub.refl _) (hk) ?_
    simp only [pins]
    refine w_seq ?_
    refine w_region ?_
    refine l_cons rfl (p_cmp ?_)
    refine l_nil ?_
    refine k_seq_normal ?_
    refine w_seq ?_
    refine w_b (fun h9 => ?_) (fun h9 => ?_)
    · skip
      have h9' := h9; (try simp only [bb] at h9')
      refine w_skip ?_
      refine k_seq_normal ?_
      refine w_seq ?_
      refine w_block ?_
      refine w_seq ?_
      refine w_region ?_
      refine l_cons rfl (p_ixl sl_27 (a := .fptr 6 (r.args.map Rx.cells) k 0) ?_ (h0 := by omega) (h1 := by simp only [List.length_map]; omega))
      refine l_cons rfl (p_loadf ty_29 (a := .agg (r.args[k]'(by omega)).cells) ?_ (hr := rxrow_at (l := r.args) (k := k) (by omega)) (hl := Nat.le_refl 6) (ha := rfl))
      refine l_cons rfl (p_alloc ze_29 fun s5 => ?_)
      refine l_cons rfl (p_store ty_29 ?_)
      refine l_nil ?_
      refine k_seq_normal ?_
      refine w_drawn 3 [] (fun e => at_ e (es.length + 2) = some (.row s3 26 4 [[.int .u64 (Rx.firstE noSet (r.args.take k)).w0, .int .u64 (Rx.firstE noSet (r.args.take k)).w1, .int .u64 (Rx.firstE noSet (r.args.take k)).w2, .int .u64 (Rx.firstE noSet (r.args.take k)).w3]]) ∧ at_ e es2.length = some (.row s5 29 6 [(r.args[k]'(by omega)).cells])) mixed (by kernel_rfl) ⟨at_miss _ h3, at_hit _ _⟩ ?_
      refine q1 3 (hg := rfl) (hu := rfl) (h := by rintro f _ ⟨hG1, hG2⟩; exact p_loadp ty_26 (a := .agg (Rx.firstE noSet (r.args.take k)).row) ⟨rfl, rfl⟩ (hl := Nat.le_of_ble_eq_true rfl) (ha := rfl)) (k := ?_)
      refine q1 5 (hg := rfl) (hu := rfl) (h := by rintro f _ ⟨hG1, hG2⟩; exact p_loadp ty_29 ⟨rfl, rfl⟩) (k := ?_)
      refine q1 33 (hg := rfl) (hu := rfl) (h := by rintro f _ ⟨hG1, hG2⟩; exact p_callr en_61 (ih (B - 1) (by omega) (r.args[k]'(by omega)) _ (by have := r.nodes_arg (k := k) (by omega); omega) (by omega) (ho.arg (by omega))) ⟨rfl, rfl⟩) (k := ?_)
      refine q_end ?_
      refine m_end ?_
      refine l_cons rfl (p_callr en_97 (or_set (Rx.firstE noSet (r.args.take k)) (r.args[k]'(by omega)).first hacc (first_ok _ (ho.arg (by omega)))) ?_)
      refine l_cons rfl (p_store ty_26 (r' := [.int .u64 (Rx.firstE noSet (r.args.take (k + 1))).w0, .int .u64 (Rx.firstE noSet (r.args.take (k + 1))).w1, .int .u64 (Rx.firstE noSet (r.args.take (k + 1))).w2, .int .u64 (Rx.firstE noSet (r.args.take (k + 1))).w3]) ?_ (hr' := by rw [firstE_succ (by omega)]; rfl))
      refine l_nil ?_
      refine k_blk_normal ?_
      refine k_seq_normal ?_
      refine w_region ?_
      refine l_cons rfl (p_arith ?_)
      refine l_cons rfl (p_move ?_)
      refine l_nil ?_
      refine k_seq_normal ?_
      exact ⟨r.args.length - (k + 1), by omega, k + 1, rfl, by omega, at_miss _ (at_setAt_same _ h3), (kb.put (by simp only [List.length_cons]; omega) _).push _, kn⟩
    · skip
      have h9' := h9; (try simp only [bb] at h9')
      refine w_exit ?_
      refine k_seq_exit ?_
      refine k_seq_exit ?_
      refine k_blk_here ?_
      refine k_seq_normal ?_
      refine w_exit ?_
      refine k_blk_there (by decide) ?_
      refine k_seq_exit ?_
      refine k_blk_here ?_
      refine k_seq_normal ?_
      refine w_seq ?_
      refine w_region ?_
      refine l_cons rfl (p_loadp ty_26 ?_)
      refine l_cons rfl (p_store ty_26 ?_)
      refine l_nil ?_
      refine k_seq_normal ?_
      refine w_ret ?_
      first
      | (have hkl : k = r.args.length := by omega
         rw [hkl, List.take_length] at h3 ⊢
         rw [first_5 (by assumption)]
         exact retc (he := loc_base (at_setAt_same _ h2)) rfl ty_26 ((kb.pop.pop).put (by omega) _).sub ⟨rfl, rfl⟩)
      | (have hkl : k = r.args.length := by omega
         rw [hkl, List.take_length] at h3 ⊢
         rw [first_4 (by omega) (by assumption), firstC_all (fun j hj h => hk2 j (by omega) h)]
         exact retc (he := loc_base (at_setAt_same _ h2)) rfl ty_26 ((kb.pop.pop).put (by omega) _).sub ⟨rfl, rfl⟩)
      | (rw [first_no (by omega) (by omega) (by omega)]
         exact retc rfl ty_26 (sub3 _ _ _ _) ⟨rfl, rfl⟩)
theorem refFirst {w0 : World} : ∀ (B : Nat) (r : Rx) (es : List Ent), r.nodes ≤ B → B ≤ 1048576 → r.ok → ACalls Tryd.prog w0 62 [.agg r.cells] es fun v es' => v = .agg r.first.row ∧ es' = es := by
  intro B
  induction B using Nat.strongRecOn with
  | _ B ih => ?_
  intro r es hB hB2 ho
  rw [Rx.cells_eq r]
  have hne := r.nodes_eq
  have hal := Rx.len_le r.args
  refine calls1 (N := 71) Tryd.func62 rfl rfl (by decide) ?_
  refine w_seq ?_
  refine w_region ?_
  refine l_cons rfl (p_box fun s1 => ?_)
  refine l_cons rfl (p_alloc ze_26 fun s2 => ?_)
  refine l_nil ?_
  refine k_seq_normal ?_
  refine w_seq ?_
  refine w_region ?_
  refine l_cons rfl (p_alloc ze_26 fun s3 => ?_)
  refine l_nil ?_
  refine k_seq_normal ?_
  refine w_seq ?_
  refine w_seq ?_
  refine w_region ?_
  refine l_cons rfl (p_fap fa_29_0 ?_)
  refine l_cons rfl (p_loadp ty_3 ?_)
  refine l_nil ?_
  refine k_seq_normal ?_
  refine w_block ?_
  refine w_seq ?_
  refine w_region ?_
  refine l_cons rfl (p_cmp ?_)
  refine l_cons rfl (p_assign ?_)
  refine l_nil ?_
  refine k_seq_normal ?_
  refine w_b (fun h1 => ?_) (fun h1 => ?_)
  · skip
    have h1' := h1; (try simp only [bb] at h1')
    refine w_seq ?_
    refine w_region ?_
    refine l_cons rfl (p_fap fa_29_1 ?_)
    refine l_cons rfl (p_loadp ty_26 (a := .agg r.set.row) ?_ (hl := Nat.le_of_ble_eq_true rfl) (ha := rfl))
    refine l_cons rfl (p_store ty_26 ?_)
    refine l_nil ?_
    refine k_seq_normal ?_
    refine w_ret ?_
    refine k_blk_ret ?_
    refine k_seq_ret ?_
    rw [first_3 (by omega)]
    exact retc rfl ty_26 (sub3 _ _ _ _) ⟨rfl, rfl⟩
  · skip
    have h1' := h1; (try simp only [bb] at h1')
    refine w_seq ?_
    refine w_seq ?_
    refine w_region ?_
    refine l_cons rfl (p_cmp ?_)
    refine l_cons rfl (p_assign ?_)
    refine l_nil ?_
    refine k_seq_normal ?_
    refine w_b (fun h2 => ?_) (fun h2 => ?_)
    · skip
      have h2' := h2; (try simp only [bb] at h2')
      refine w_skip ?_
      refine k_seq_normal ?_
      refine w_t h2 ?_
      refine w_seq ?_
      refine w_region ?_
      refine l_cons rfl (p_assign ?_)
      refine l_nil ?_
      refine k_seq_normal ?_
      refine w_block ?_
      refine w_loop (fun m f es2 => ∃ k, m = r.args.length - k ∧ k ≤ r.args.length ∧ (k = 0 ∨ r.kind = 5 ∨ r.args.length = 1) ∧ es2 = .row s3 26 4 [[.int .u64 (Rx.firstE noSet (r.args.take k)).w0, .int .u64 (Rx.firstE noSet (r.args.take k)).w1, .int .u64 (Rx.firstE noSet (r.args.take k)).w2, .int .u64 (Rx.firstE noSet (r.args.take k)).w3]] :: .row s2 26 4 [[.int .u64 0, .int .u64 0, .int .u64 0, .int .u64 0]] :: .row s1 29 6 [[.int .i64 r.kind, .int .u64 r.set.w0, .int .u64 r.set.w1, .int .u64 r.set.w2, .int .u64 r.set.w3, .list 6 (r.args.map Rx.cells)]] :: es ∧ Knows f [(1, .ptr es.length s1 0 0), (2, .ptr (es.length + 1) s2 0 0), (3, .ptr (es.length + 2) s3 0 0), (4, .int .i64 (k : Int))]) (r.args.length) (⟨0, rfl, Nat.zero_le _, .inl rfl, rfl, kn⟩) ?_
      rintro m f es2 ⟨k, rfl, hk1, hk3, rfl, hk⟩
      have hacc := firstE_ok _ noSet noSet_ok (oks_take (fun x hx => ho.args x hx) k)
      refine w_pins _ (Sub.refl _) (hk) ?_
      simp only [pins]
      refine w_seq ?_
      refine w_seq ?_
      refine w_region ?_
      refine l_cons rfl (p_move ?_)
      refine l_cons rfl (p_fap fa_29_2 ?_)
      refine l_cons rfl (p_loadp ty_27 ?_)
      refine l_len 17 fun hl2 => ?_
      simp only [List.length_map, most] at hl2
      first | refine l_cons rfl (p_lenl sl_27 ?_) | refine l_cons rfl (p_leno sl_27 ?_) | refine l_cons rfl (p_lenn sl_27 ?_)
      refine l_cons rfl (p_cmp ?_)
      refine l_cons rfl (p_move ?_)
      refine g_b rfl (fun h3 => ?_) (fun h3 => ?_)
      · skip
        have h3' := h3; (try simp only [bb] at h3')
        refine (p_fap fa_29_0 ?_)
        refine g_y rfl h3 (p_loadp ty_3 ?_)
        refine g_y rfl h3 (p_cmp ?_)
        refine g_y rfl h3 (p_move ?_)
        refine g_b rfl (fun h4 => ?_) (fun h4 => ?_)
        · skip
          have h4' := h4; (try simp only [bb] at h4')
          refine (p_fap fa_29_2 ?_)
          refine g_y rfl h4 (p_loadp ty_27 ?_)
          first | refine g_y rfl h4 (p_lenl sl_27 ?_) | refine g_y rfl h4 (p_leno sl_27 ?_) | refine g_y rfl h4 (p_lenn sl_27 ?_)
          refine g_y rfl h4 (p_cmp ?_)
          refine g_y rfl h3 (p_pickf h4 ?_)
          refine l_cons rfl (p_pickt h3 ?_)
          refine l_nil ?_
          refine k_seq_normal ?_
          refine w_b (fun h5 => ?_) (fun h5 => ?_)
          · skip
            have h5' := h5; (try simp only [bb] at h5')
            refine w_skip ?_
            refine k_seq_normal ?_
            refine w_seq ?_
            refine w_block ?_
            refine w_drawn 7 [] (fun e => e = _) mixed (by kernel_rfl) rfl ?_
            refine q1 3 (hg := rfl) (hu := rfl) (h := by rintro f _ rfl; exact p_loadp ty_26 (a := .agg (Rx.firstE noSet (r.args.take k)).row) ⟨rfl, rfl⟩ (hl := Nat.le_of_ble_eq_true rfl) (ha := rfl)) (k := ?_)
            refine q1 1 (hg := rfl) (hu := rfl) (h := by rintro f _ rfl; exact p_fap fa_29_2 ⟨rfl, rfl⟩) (k := ?_)
            refine q1 34 (hg := rfl) (hu := rfl) (h := by rintro f _ rfl; exact p_loadp ty_27 ⟨rfl, rfl⟩) (k := ?_)
            refine q1 4 (hg := rfl) (hu := rfl) (h := by rintro f _ rfl; exact p_move ⟨rfl, rfl⟩) (k := ?_)
            refine q2 35 36 (hg := rfl) (hu := rfl) (h := by rintro f _ rfl; exact p_ixl sl_27 (a := .fptr 6 (r.args.map Rx.cells) k 0) ⟨rfl, rfl⟩ (h0 := by omega) (h1 := by simp only [List.length_map]; omega)) (k := ?_)
            refine q1 37 (hg := rfl) (hu := rfl) (h := by rintro f _ rfl; exact p_loadf ty_29 (a := .agg (r.args[k]'(by omega)).cells) ⟨rfl, rfl⟩ (hr := rxrow_at (l := r.args) (k := k) (by omega)) (hl := Nat.le_refl 6) (ha := rfl)) (k := ?_)
            refine q1 38 (hg := rfl) (hu := rfl) (h := by rintro f _ rfl; exact p_callr en_62 (ih (B - 1) (by omega) (r.args[k]'(by omega)) _ (by have := r.nodes_arg (k := k) (by omega); omega) (by omega) (ho.arg (by omega))) ⟨rfl, rfl⟩) (k := ?_)
            refine q_end ?_
            refine m_end ?_
            refine l_cons rfl (p_callr en_86 (refOr (Rx.firstE noSet (r.args.take k)) (r.args[k]'(by omega)).first hacc (first_ok _ (ho.arg (by omega)))) ?_)
            refine l_cons rfl (p_store ty_26 (r' := [.int .u64 (Rx.firstE noSet (r.args.take (k + 1))).w0, .int .u64 (Rx.firstE noSet (r.args.take (k + 1))).w1, .int .u64 (Rx.firstE noSet (r.args.take (k + 1))).w2, .int .u64 (Rx.firstE noSet (r.args.take (k + 1))).w3]) ?_ (hr' := by rw [firstE_succ (by omega)]; rfl))
            refine l_nil ?_
            refine k_blk_normal ?_
            refine k_seq_normal ?_
            refine w_region ?_
            refine l_cons rfl (p_move ?_)
            refine l_cons rfl (p_arith ?_)
            refine l_cons rfl (p_assign ?_)
            refine l_nil ?_
            refine k_seq_normal ?_
            exact ⟨r.args.length - (k + 1), by omega, k + 1, rfl, by omega, by first | (right; left; omega) | (right; right; omega), rfl, kn⟩
          · skip
            have h5' := h5; (try simp only [bb] at h5')
            refine w_exit ?_
            refine k_seq_exit ?_
            refine k_seq_exit ?_
            refine k_blk_here ?_
            refine k_blk_normal ?_
            refine k_seq_normal ?_
            refine w_seq ?_
            refine w_region ?_
            refine l_cons rfl (p_loadp ty_26 ?_)
            refine l_cons rfl (p_store ty_26 ?_)
            refine l_nil ?_
            refine k_seq_normal ?_
            refine w_ret ?_
            first
            | (rw [first_no (by omega) (by omega) (by omega)]
               exact retc rfl ty_26 (sub3 _ _ _ _) ⟨rfl, rfl⟩)
            | (have hk0 : k = 0 := by omega
               subst hk0
               rw [first_no (by omega) (by omega) (by omega)]
               exact retc rfl ty_26 (sub3 _ _ _ _) ⟨rfl, rfl⟩)
            | (rcases Nat.eq_zero_or_pos k with hk0 | hk0
               · subst hk0
                 rw [first_no (by omega) (by omega) (by omega)]
                 exact retc rfl ty_26 (sub3 _ _ _ _) ⟨rfl, rfl⟩
               · have hkl : k = r.args.length := by omega
                 rw [first_5 (by omega), show Rx.firstE noSet r.args = Rx.firstE noSet (r.args.take k) by rw [hkl, List.take_length]]
                 exact retc rfl ty_26 (sub3 _ _ _ _) ⟨rfl, rfl⟩)
            | (have hkl : k = r.args.length := by omega
               rw [first_5 (by omega), show Rx.firstE noSet r.args = Rx.firstE noSet (r.args.take k) by rw [hkl, List.take_length]]
               exact retc rfl ty_26 (sub3 _ _ _ _) ⟨rfl, rfl⟩)
            | (have hkl : k = r.args.length := by omega
               rw [first_4 (by omega) (by assumption), firstC_all (fun j hj h => hk2 j (by omega) h), show Rx.firstE noSet r.args = Rx.firstE noSet (r.args.take k) by rw [hkl, List.take_length]]
               exact retc rfl ty_26 (sub3 _ _ _ _) ⟨rfl, rfl⟩)
        · skip
          have h4' := h4; (try simp only [bb] at h4')
          refine g_n rfl h4 ?_
          refine g_n rfl h4 ?_
          refine g_n rfl h4 ?_
          refine g_y rfl h3 (p_pickt h4 ?_)
          refine l_cons rfl (p_pickt h3 ?_)
          refine l_nil ?_
          refine k_seq_normal ?_
          refine w_t rfl ?_
          refine w_skip ?_
          refine k_seq_normal ?_
          refine w_seq ?_
          refine w_block ?_
          refine w_drawn 7 [] (fun e => e = _) mixed (by kernel_rfl) rfl ?_
          refine q1 3 (hg := rfl) (hu := rfl) (h := by rintro f _ rfl; exact p_loadp ty_26 (a := .agg (Rx.firstE noSet (r.args.take k)).row) ⟨rfl, rfl⟩ (hl := Nat.le_of_ble_eq_true rfl) (ha := rfl)) (k := ?_)
          refine q1 1 (hg := rfl) (hu := rfl) (h := by rintro f _ rfl; exact p_fap fa_29_2 ⟨rfl, rfl⟩) (k := ?_)
          refine q1 34 (hg := rfl) (hu := rfl) (h := by rintro f _ rfl; exact p_loadp ty_27 ⟨rfl, rfl⟩) (k := ?_)
          refine q1 4 (hg := rfl) (hu := rfl) (h := by rintro f _ rfl; exact p_move ⟨rfl, rfl⟩) (k := ?_)
          refine q2 35 36 (hg := rfl) (hu := rfl) (h := by rintro f _ rfl; exact p_ixl sl_27 (a := .fptr 6 (r.args.map Rx.cells) k 0) ⟨rfl, rfl⟩ (h0 := by omega) (h1 := by simp only [List.length_map]; omega)) (k := ?_)
          refine q1 37 (hg := rfl) (hu := rfl) (h := by rintro f _ rfl; exact p_loadf ty_29 (a := .agg (r.args[k]'(by omega)).cells) ⟨rfl, rfl⟩ (hr := rxrow_at (l := r.args) (k := k) (by omega)) (hl := Nat.le_refl 6) (ha := rfl)) (k := ?_)
          refine q1 38 (hg := rfl) (hu := rfl) (h := by rintro f _ rfl; exact p_callr en_62 (ih (B - 1) (by omega) (r.args[k]'(by omega)) _ (by have := r.nodes_arg (k := k) (by omega); omega) (by omega) (ho.arg (by omega))) ⟨rfl, rfl⟩) (k := ?_)
          refine q_end ?_
          refine m_end ?_
          refine l_cons rfl (p_callr en_86 (refOr (Rx.firstE noSet (r.args.take k)) (r.args[k]'(by omega)).first hacc (first_ok _ (ho.arg (by omega)))) ?_)
          refine l_cons rfl (p_store ty_26 (r' := [.int .u64 (Rx.firstE noSet (r.args.take (k + 1))).w0, .int .u64 (Rx.firstE noSet (r.args.take (k + 1))).w1, .int .u64 (Rx.firstE noSet (r.args.take (k + 1))).w2, .int .u64 (Rx.firstE noSet (r.args.take (k + 1))).w3]) ?_ (hr' := by rw [firstE_succ (by omega)]; rfl))
          refine l_nil ?_
          refine k_blk_normal ?_
          refine k_seq_normal ?_
          refine w_region ?_
          refine l_cons rfl (p_move ?_)
          refine l_cons rfl (p_arith ?_)
          refine l_cons rfl (p_assign ?_)
          refine l_nil ?_
          refine k_seq_normal ?_
          exact ⟨r.args.length - (k + 1), by omega, k + 1, rfl, by omega, by first | (right; left; omega) | (right; right; omega), rfl, kn⟩
      · skip
        have h3' := h3; (try simp only [bb] at h3')
        refine g_n rfl h3 ?_
        refine g_n rfl h3 ?_
        refine g_n rfl h3 ?_
        refine g_u rfl ?_
        refine g_u rfl ?_
        refine g_u rfl ?_
        refine g_u rfl ?_
        refine g_n rfl h3 ?_
        refine l_cons rfl (p_pickf h3 ?_)
        refine l_nil ?_
        refine k_seq_normal ?_
        refine w_f rfl ?_
        refine w_exit ?_
        refine k_seq_exit ?_
        refine k_seq_exit ?_
        refine k_blk_here ?_
        refine k_blk_normal ?_
        refine k_seq_normal ?_
        refine w_seq ?_
        refine w_region ?_
        refine l_cons rfl (p_loadp ty_26 ?_)
        refine l_cons rfl (p_store ty_26 ?_)
        refine l_nil ?_
        refine k_seq_normal ?_
        refine w_ret ?_
        first
        | (rw [first_no (by omega) (by omega) (by omega)]
           exact retc rfl ty_26 (sub3 _ _ _ _) ⟨rfl, rfl⟩)
        | (have hk0 : k = 0 := by omega
           subst hk0
           rw [first_no (by omega) (by omega) (by omega)]
           exact retc rfl ty_26 (sub3 _ _ _ _) ⟨rfl, rfl⟩)
        | (rcases Nat.eq_zero_or_pos k with hk0 | hk0
           · subst hk0
             rw [first_no (by omega) (by omega) (by omega)]
             exact retc rfl ty_26 (sub3 _ _ _ _) ⟨rfl, rfl⟩
           · have hkl : k = r.args.length := by omega
             rw [first_5 (by omega), show Rx.firstE noSet r.args = Rx.firstE noSet (r.args.take k) by rw [hkl, List.take_length]]
             exact retc rfl ty_26 (sub3 _ _ _ _) ⟨rfl, rfl⟩)
        | (have hkl : k = r.args.length := by omega
           rw [first_5 (by omega), show Rx.firstE noSet r.args = Rx.firstE noSet (r.args.take k) by rw [hkl, List.take_length]]
           exact retc rfl ty_26 (sub3 _ _ _ _) ⟨rfl, rfl⟩)
        | (have hkl : k = r.args.length := by omega
           rw [first_4 (by omega) (by assumption), firstC_all (fun j hj h => hk2 j (by omega) h), show Rx.firstE noSet r.args = Rx.firstE noSet (r.args.take k) by rw [hkl, List.take_length]]
           exact retc rfl ty_26 (sub3 _ _ _ _) ⟨rfl, rfl⟩)
    · skip
      have h2' := h2; (try simp only [bb] at h2')
      refine w_region ?_
      refine l_cons rfl (p_cmp ?_)
      refine l_cons rfl (p_assign ?_)
      refine l_nil ?_
      refine k_seq_normal ?_
      refine w_b (fun h6 => ?_) (fun h6 => ?_)
      · skip
        have h6' := h6; (try simp only [bb] at h6')
        refine w_seq ?_
        refine w_region ?_
        refine l_cons rfl (p_assign ?_)
        refine l_nil ?_
        refine k_seq_normal ?_
        refine w_block ?_
        refine w_loop (fun m f es2 => ∃ k, m = r.args.length - k ∧ k ≤ r.args.length ∧ (k = 0 ∨ r.kind = 5 ∨ r.args.length = 1) ∧ es2 = .row s3 26 4 [[.int .u64 (Rx.firstE noSet (r.args.take k)).w0, .int .u64 (Rx.firstE noSet (r.args.take k)).w1, .int .u64 (Rx.firstE noSet (r.args.take k)).w2, .int .u64 (Rx.firstE noSet (r.args.take k)).w3]] :: .row s2 26 4 [[.int .u64 0, .int .u64 0, .int .u64 0, .int .u64 0]] :: .row s1 29 6 [[.int .i64 r.kind, .int .u64 r.set.w0, .int .u64 r.set.w1, .int .u64 r.set.w2, .int .u64 r.set.w3, .list 6 (r.args.map Rx.cells)]] :: es ∧ Knows f [(1, .ptr es.length s1 0 0), (2, .ptr (es.length + 1) s2 0 0), (3, .ptr (es.length + 2) s3 0 0), (4, .int .i64 (k : Int))]) (r.args.length) (⟨0, rfl, Nat.zero_le _, .inl rfl, rfl, kn⟩) ?_
        rintro m f es2 ⟨k, rfl, hk1, hk3, rfl, hk⟩
        have hacc := firstE_ok _ noSet noSet_ok (oks_take (fun x hx => ho.args x hx) k)
        refine w_pins _ (Sub.refl _) (hk) ?_
        simp only [pins]
        refine w_seq ?_
        refine w_seq ?_
        refine w_region ?_
        refine l_cons rfl (p_move ?_)
        refine l_cons rfl (p_fap fa_29_2 ?_)
        refine l_cons rfl (p_loadp ty_27 ?_)
        refine l_len 17 fun hl2 => ?_
        simp only [List.length_map, most] at hl2
        first | refine l_cons rfl (p_lenl sl_27 ?_) | refine l_cons rfl (p_leno sl_27 ?_) | refine l_cons rfl (p_lenn sl_27 ?_)
        refine l_cons rfl (p_cmp ?_)
        refine l_cons rfl (p_move ?_)
        refine g_b rfl (fun h7 => ?_) (fun h7 => ?_)
        · skip
          have h7' := h7; (try simp only [bb] at h7')
          refine (p_fap fa_29_0 ?_)
          refine g_y rfl h7 (p_loadp ty_3 ?_)
          refine g_y rfl h7 (p_cmp ?_)
          refine g_y rfl h7 (p_move ?_)
          refine g_b rfl (fun h8 => ?_) (fun h8 => ?_)
          · skip
            have h8' := h8; (try simp only [bb] at h8')
            refine (p_fap fa_29_2 ?_)
            refine g_y rfl h8 (p_loadp ty_27 ?_)
            first | refine g_y rfl h8 (p_lenl sl_27 ?_) | refine g_y rfl h8 (p_leno sl_27 ?_) | refine g_y rfl h8 (p_lenn sl_27 ?_)
            refine g_y rfl h8 (p_cmp ?_)
            refine g_y rfl h7 (p_pickf h8 ?_)
            refine l_cons rfl (p_pickt h7 ?_)
            refine l_nil ?_
            refine k_seq_normal ?_
            refine w_b (fun h9 => ?_) (fun h9 => ?_)
            · skip
              have h9' := h9; (try simp only [bb] at h9')
              refine w_skip ?_
              refine k_seq_normal ?_
              refine w_seq ?_
              refine w_block ?_
              refine w_drawn 7 [] (fun e => e = _) mixed (by kernel_rfl) rfl ?_
              refine q1 3 (hg := rfl) (hu := rfl) (h := by rintro f _ rfl; exact p_loadp ty_26 (a := .agg (Rx.firstE noSet (r.args.take k)).row) ⟨rfl, rfl⟩ (hl := Nat.le_of_ble_eq_true rfl) (ha := rfl)) (k := ?_)
              refine q1 1 (hg := rfl) (hu := rfl) (h := by rintro f _ rfl; exact p_fap fa_29_2 ⟨rfl, rfl⟩) (k := ?_)
              refine q1 34 (hg := rfl) (hu := rfl) (h := by rintro f _ rfl; exact p_loadp ty_27 ⟨rfl, rfl⟩) (k := ?_)
              refine q1 4 (hg := rfl) (hu := rfl) (h := by rintro f _ rfl; exact p_move ⟨rfl, rfl⟩) (k := ?_)
              refine q2 35 36 (hg := rfl) (hu := rfl) (h := by rintro f _ rfl; exact p_ixl sl_27 (a := .fptr 6 (r.args.map Rx.cells) k 0) ⟨rfl, rfl⟩ (h0 := by omega) (h1 := by simp only [List.length_map]; omega)) (k := ?_)
              refine q1 37 (hg := rfl) (hu := rfl) (h := by rintro f _ rfl; exact p_loadf ty_29 (a := .agg (r.args[k]'(by omega)).cells) ⟨rfl, rfl⟩ (hr := rxrow_at (l := r.args) (k := k) (by omega)) (hl := Nat.le_refl 6) (ha := rfl)) (k := ?_)
              refine q1 38 (hg := rfl) (hu := rfl) (h := by rintro f _ rfl; exact p_callr en_62 (ih (B - 1) (by omega) (r.args[k]'(by omega)) _ (by have := r.nodes_arg (k := k) (by omega); omega) (by omega) (ho.arg (by omega))) ⟨rfl, rfl⟩) (k := ?_)
              refine q_end ?_
              refine m_end ?_
              refine l_cons rfl (p_callr en_86 (refOr (Rx.firstE noSet (r.args.take k)) (r.args[k]'(by omega)).first hacc (first_ok _ (ho.arg (by omega)))) ?_)
              refine l_cons rfl (p_store ty_26 (r' := [.int .u64 (Rx.firstE noSet (r.args.take (k + 1))).w0, .int .u64 (Rx.firstE noSet (r.args.take (k + 1))).w1, .int .u64 (Rx.firstE noSet (r.args.take (k + 1))).w2, .int .u64 (Rx.firstE noSet (r.args.take (k + 1))).w3]) ?_ (hr' := by rw [firstE_succ (by omega)]; rfl))
              refine l_nil ?_
              refine k_blk_normal ?_
              refine k_seq_normal ?_
              refine w_region ?_
              refine l_cons rfl (p_move ?_)
              refine l_cons rfl (p_arith ?_)
              refine l_cons rfl (p_assign ?_)
              refine l_nil ?_
              refine k_seq_normal ?_
              exact ⟨r.args.length - (k + 1), by omega, k + 1, rfl, by omega, by first | (right; left; omega) | (right; right; omega), rfl, kn⟩
            · skip
              have h9' := h9; (try simp only [bb] at h9')
              refine w_exit ?_
              refine k_seq_exit ?_
              refine k_seq_exit ?_
              refine k_blk_here ?_
              refine k_blk_normal ?_
              refine k_seq_normal ?_
              refine w_seq ?_
              refine w_region ?_
              refine l_cons rfl (p_loadp ty_26 ?_)
              refine l_cons rfl (p_store ty_26 ?_)
              refine l_nil ?_
              refine k_seq_normal ?_
              refine w_ret ?_
              first
              | (rw [first_no (by omega) (by omega) (by omega)]
                 exact retc rfl ty_26 (sub3 _ _ _ _) ⟨rfl, rfl⟩)
              | (have hk0 : k = 0 := by omega
                 subst hk0
                 rw [first_no (by omega) (by omega) (by omega)]
                 exact retc rfl ty_26 (sub3 _ _ _ _) ⟨rfl, rfl⟩)
              | (rcases Nat.eq_zero_or_pos k with hk0 | hk0
                 · subst hk0
                   rw [first_no (by omega) (by omega) (by omega)]
                   exact retc rfl ty_26 (sub3 _ _ _ _) ⟨rfl, rfl⟩
                 · have hkl : k = r.args.length := by omega
                   rw [first_5 (by omega), show Rx.firstE noSet r.args = Rx.firstE noSet (r.args.take k) by rw [hkl, List.take_length]]
                   exact retc rfl ty_26 (sub3 _ _ _ _) ⟨rfl, rfl⟩)
              | (have hkl : k = r.args.length := by omega
                 rw [first_5 (by omega), show Rx.firstE noSet r.args = Rx.firstE noSet (r.args.take k) by rw [hkl, List.take_length]]
                 exact retc rfl ty_26 (sub3 _ _ _ _) ⟨rfl, rfl⟩)
              | (have hkl : k = r.args.length := by omega
                 rw [first_4 (by omega) (by assumption), firstC_all (fun j hj h => hk2 j (by omega) h), show Rx.firstE noSet r.args = Rx.firstE noSet (r.args.take k) by rw [hkl, List.take_length]]
                 exact retc rfl ty_26 (sub3 _ _ _ _) ⟨rfl, rfl⟩)
          · skip
            have h8' := h8; (try simp only [bb] at h8')
            refine g_n rfl h8 ?_
            refine g_n rfl h8 ?_
            refine g_n rfl h8 ?_
            refine g_y rfl h7 (p_pickt h8 ?_)
            refine l_cons rfl (p_pickt h7 ?_)
            refine l_nil ?_
            refine k_seq_normal ?_
            refine w_t rfl ?_
            refine w_skip ?_
            refine k_seq_normal ?_
            refine w_seq ?_
            refine w_block ?_
            refine w_drawn 7 [] (fun e => e = _) mixed (by kernel_rfl) rfl ?_
            refine q1 3 (hg := rfl) (hu := rfl) (h := by rintro f _ rfl; exact p_loadp ty_26 (a := .agg (Rx.firstE noSet (r.args.take k)).row) ⟨rfl, rfl⟩ (hl := Nat.le_of_ble_eq_true rfl) (ha := rfl)) (k := ?_)
            refine q1 1 (hg := rfl) (hu := rfl) (h := by rintro f _ rfl; exact p_fap fa_29_2 ⟨rfl, rfl⟩) (k := ?_)
            refine q1 34 (hg := rfl) (hu := rfl) (h := by rintro f _ rfl; exact p_loadp ty_27 ⟨rfl, rfl⟩) (k := ?_)
            refine q1 4 (hg := rfl) (hu := rfl) (h := by rintro f _ rfl; exact p_move ⟨rfl, rfl⟩) (k := ?_)
            refine q2 35 36 (hg := rfl) (hu := rfl) (h := by rintro f _ rfl; exact p_ixl sl_27 (a := .fptr 6 (r.args.map Rx.cells) k 0) ⟨rfl, rfl⟩ (h0 := by omega) (h1 := by simp only [List.length_map]; omega)) (k := ?_)
            refine q1 37 (hg := rfl) (hu := rfl) (h := by rintro f _ rfl; exact p_loadf ty_29 (a := .agg (r.args[k]'(by omega)).cells) ⟨rfl, rfl⟩ (hr := rxrow_at (l := r.args) (k := k) (by omega)) (hl := Nat.le_refl 6) (ha := rfl)) (k := ?_)
            refine q1 38 (hg := rfl) (hu := rfl) (h := by rintro f _ rfl; exact p_callr en_62 (ih (B - 1) (by omega) (r.args[k]'(by omega)) _ (by have := r.nodes_arg (k := k) (by omega); omega) (by omega) (ho.arg (by omega))) ⟨rfl, rfl⟩) (k := ?_)
            refine q_end ?_
            refine m_end ?_
            refine l_cons rfl (p_callr en_86 (refOr (Rx.firstE noSet (r.args.take k)) (r.args[k]'(by omega)).first hacc (first_ok _ (ho.arg (by omega)))) ?_)
            refine l_cons rfl (p_store ty_26 (r' := [.int .u64 (Rx.firstE noSet (r.args.take (k + 1))).w0, .int .u64 (Rx.firstE noSet (r.args.take (k + 1))).w1, .int .u64 (Rx.firstE noSet (r.args.take (k + 1))).w2, .int .u64 (Rx.firstE noSet (r.args.take (k + 1))).w3]) ?_ (hr' := by rw [firstE_succ (by omega)]; rfl))
            refine l_nil ?_
            refine k_blk_normal ?_
            refine k_seq_normal ?_
            refine w_region ?_
            refine l_cons rfl (p_move ?_)
            refine l_cons rfl (p_arith ?_)
            refine l_cons rfl (p_assign ?_)
            refine l_nil ?_
            refine k_seq_normal ?_
            exact ⟨r.args.length - (k + 1), by omega, k + 1, rfl, by omega, by first | (right; left; omega) | (right; right; omega), rfl, kn⟩
        · skip
          have h7' := h7; (try simp only [bb] at h7')
          refine g_n rfl h7 ?_
          refine g_n rfl h7 ?_
          refine g_n rfl h7 ?_
          refine g_u rfl ?_
          refine g_u rfl ?_
          refine g_u rfl ?_
          refine g_u rfl ?_
          refine g_n rfl h7 ?_
          refine l_cons rfl (p_pickf h7 ?_)
          refine l_nil ?_
          refine k_seq_normal ?_
          refine w_f rfl ?_
          refine w_exit ?_
          refine k_seq_exit ?_
          refine k_seq_exit ?_
          refine k_blk_here ?_
          refine k_blk_normal ?_
          refine k_seq_normal ?_
          refine w_seq ?_
          refine w_region ?_
          refine l_cons rfl (p_loadp ty_26 ?_)
          refine l_cons rfl (p_store ty_26 ?_)
          refine l_nil ?_
          refine k_seq_normal ?_
          refine w_ret ?_
          first
          | (rw [first_no (by omega) (by omega) (by omega)]
             exact retc rfl ty_26 (sub3 _ _ _ _) ⟨rfl, rfl⟩)
          | (have hk0 : k = 0 := by omega
             subst hk0
             rw [first_no (by omega) (by omega) (by omega)]
             exact retc rfl ty_26 (sub3 _ _ _ _) ⟨rfl, rfl⟩)
          | (rcases Nat.eq_zero_or_pos k with hk0 | hk0
             · subst hk0
               rw [first_no (by omega) (by omega) (by omega)]
               exact retc rfl ty_26 (sub3 _ _ _ _) ⟨rfl, rfl⟩
             · have hkl : k = r.args.length := by omega
               rw [first_5 (by omega), show Rx.firstE noSet r.args = Rx.firstE noSet (r.args.take k) by rw [hkl, List.take_length]]
               exact retc rfl ty_26 (sub3 _ _ _ _) ⟨rfl, rfl⟩)
          | (have hkl : k = r.args.length := by omega
             rw [first_5 (by omega), show Rx.firstE noSet r.args = Rx.firstE noSet (r.args.take k) by rw [hkl, List.take_length]]
             exact retc rfl ty_26 (sub3 _ _ _ _) ⟨rfl, rfl⟩)
          | (have hkl : k = r.args.length := by omega
             rw [first_4 (by omega) (by assumption), firstC_all (fun j hj h => hk2 j (by omega) h), show Rx.firstE noSet r.args = Rx.firstE noSet (r.args.take k) by rw [hkl, List.take_length]]
             exact retc rfl ty_26 (sub3 _ _ _ _) ⟨rfl, rfl⟩)
      · skip
        have h6' := h6; (try simp only [bb] at h6')
        refine w_seq ?_
        refine w_region ?_
        refine l_cons rfl (p_cmp ?_)
        refine l_cons rfl (p_assign ?_)
        refine l_nil ?_
        refine k_seq_normal ?_
        refine w_b (fun h10 => ?_) (fun h10 => ?_)
        · skip
          have h10' := h10; (try simp only [bb] at h10')
          refine w_seq ?_
          refine w_seq ?_
          refine w_region ?_
          refine l_cons rfl (p_loadp ty_29 ?_)
          refine l_cons rfl (p_callr en_99 (cells1 (r := r) (refSome _ r _ (Nat.le_refl _) (by omega))) ?_)
          refine l_cons rfl (p_not ?_)
          refine l_nil ?_
          refine k_seq_normal ?_
          refine w_b (fun h11 => ?_) (fun h11 => ?_)
          · skip
            have h11' := h11; (try simp only [bb] at h11')
            refine w_seq ?_
            refine w_region ?_
            refine l_cons rfl (p_loadp ty_26 ?_)
            refine l_cons rfl (p_store ty_26 ?_)
            refine l_nil ?_
            refine k_seq_normal ?_
            refine w_ret ?_
            refine k_seq_ret ?_
            refine k_blk_ret ?_
            refine k_seq_ret ?_
            rw [first_no (by omega) (by omega) (fun _ => by assumption)]
            exact retc rfl ty_26 (sub3 _ _ _ _) ⟨rfl, rfl⟩
          · skip
            have h11' := h11; (try simp only [bb] at h11')
            refine w_skip ?_
            refine k_seq_normal ?_
            refine w_seq ?_
            refine w_region ?_
            refine l_cons rfl (p_assign ?_)
            refine l_nil ?_
            refine k_seq_normal ?_
            refine w_block ?_
            refine w_loop (fun m f es2 => ∃ k, m = r.args.length - k ∧ k ≤ r.args.length ∧ (∀ j (hj : j < k) (h : j < r.args.length), (r.args[j]).null = true) ∧ es2 = .row s3 26 4 [[.int .u64 (Rx.firstE noSet (r.args.take k)).w0, .int .u64 (Rx.firstE noSet (r.args.take k)).w1, .int .u64 (Rx.firstE noSet (r.args.take k)).w2, .int .u64 (Rx.firstE noSet (r.args.take k)).w3]] :: .row s2 26 4 [[.int .u64 0, .int .u64 0, .int .u64 0, .int .u64 0]] :: .row s1 29 6 [[.int .i64 r.kind, .int .u64 r.set.w0, .int .u64 r.set.w1, .int .u64 r.set.w2, .int .u64 r.set.w3, .list 6 (r.args.map Rx.cells)]] :: es ∧ Knows f [(1, .ptr es.length s1 0 0), (2, .ptr (es.length + 1) s2 0 0), (3, .ptr (es.length + 2) s3 0 0), (5, .int .i64 (k : Int))]) (r.args.length) (⟨0, rfl, Nat.zero_le _, fun j hj => absurd hj (Nat.not_lt_zero _), rfl, kn⟩) ?_
            rintro m f es2 ⟨k, rfl, hk1, hk2, rfl, hk⟩
            have hacc := firstE_ok _ noSet noSet_ok (oks_take (fun x hx => ho.args x hx) k)
            refine w_pins _ (Sub.refl _) (hk) ?_
            simp only [pins]
            refine w_seq ?_
            refine w_seq ?_
            refine w_region ?_
            refine l_cons rfl (p_move ?_)
            refine l_cons rfl (p_fap fa_29_2 ?_)
            refine l_cons rfl (p_loadp ty_27 ?_)
            refine l_len 49 fun hl2 => ?_
            simp only [List.length_map, most] at hl2
            first | refine l_cons rfl (p_lenl sl_27 ?_) | refine l_cons rfl (p_leno sl_27 ?_) | refine l_cons rfl (p_lenn sl_27 ?_)
            refine l_cons rfl (p_cmp ?_)
            refine l_nil ?_
            refine k_seq_normal ?_
            refine w_b (fun h12 => ?_) (fun h12 => ?_)
            · skip
              have h12' := h12; (try simp only [bb] at h12')
              refine w_skip ?_
              refine k_seq_normal ?_
              refine w_seq ?_
              refine w_block ?_
              refine w_seq ?_
              refine w_drawn 7 [] (fun e => e = _) mixed (by kernel_rfl) rfl ?_
              refine q1 3 (hg := rfl) (hu := rfl) (h := by rintro f _ rfl; exact p_loadp ty_26 (a := .agg (Rx.firstE noSet (r.args.take k)).row) ⟨rfl, rfl⟩ (hl := Nat.le_of_ble_eq_true rfl) (ha := rfl)) (k := ?_)
              refine q1 1 (hg := rfl) (hu := rfl) (h := by rintro f _ rfl; exact p_fap fa_29_2 ⟨rfl, rfl⟩) (k := ?_)
              refine q1 55 (hg := rfl) (hu := rfl) (h := by rintro f _ rfl; exact p_loadp ty_27 ⟨rfl, rfl⟩) (k := ?_)
              refine q1 5 (hg := rfl) (hu := rfl) (h := by rintro f _ rfl; exact p_move ⟨rfl, rfl⟩) (k := ?_)
              refine q2 56 57 (hg := rfl) (hu := rfl) (h := by rintro f _ rfl; exact p_ixl sl_27 (a := .fptr 6 (r.args.map Rx.cells) k 0) ⟨rfl, rfl⟩ (h0 := by omega) (h1 := by simp only [List.length_map]; omega)) (k := ?_)
              refine q1 58 (hg := rfl) (hu := rfl) (h := by rintro f _ rfl; exact p_loadf ty_29 (a := .agg (r.args[k]'(by omega)).cells) ⟨rfl, rfl⟩ (hr := rxrow_at (l := r.args) (k := k) (by omega)) (hl := Nat.le_refl 6) (ha := rfl)) (k := ?_)
              refine q1 59 (hg := rfl) (hu := rfl) (h := by rintro f _ rfl; exact p_callr en_62 (ih (B - 1) (by omega) (r.args[k]'(by omega)) _ (by have := r.nodes_arg (k := k) (by omega); omega) (by omega) (ho.arg (by omega))) ⟨rfl, rfl⟩) (k := ?_)
              refine q_end ?_
              refine m_end ?_
              refine l_cons rfl (p_callr en_86 (refOr (Rx.firstE noSet (r.args.take k)) (r.args[k]'(by omega)).first hacc (first_ok _ (ho.arg (by omega)))) ?_)
              refine l_cons rfl (p_store ty_26 (r' := [.int .u64 (Rx.firstE noSet (r.args.take (k + 1))).w0, .int .u64 (Rx.firstE noSet (r.args.take (k + 1))).w1, .int .u64 (Rx.firstE noSet (r.args.take (k + 1))).w2, .int .u64 (Rx.firstE noSet (r.args.take (k + 1))).w3]) ?_ (hr' := by rw [firstE_succ (by omega)]; rfl))
              refine l_nil ?_
              refine k_seq_normal ?_
              refine w_seq ?_
              refine w_region ?_
              refine l_cons rfl (p_fap fa_29_2 ?_)
              refine l_cons rfl (p_loadp ty_27 ?_)
              refine l_cons rfl (p_move ?_)
              refine l_cons rfl (p_ixl sl_27 (a := .fptr 6 (r.args.map Rx.cells) k 0) ?_ (h0 := by omega) (h1 := by simp only [List.length_map]; omega))
              refine l_cons rfl (p_loadf ty_29 (a := .agg (r.args[k]'(by omega)).cells) ?_ (hr := rxrow_at (l := r.args) (k := k) (by omega)) (hl := Nat.le_refl 6) (ha := rfl))
              refine l_cons rfl (p_callr en_60 (refNull _ (r.args[k]'(by omega)) _ (Nat.le_refl _) (by have := r.nodes_arg (k := k) (by omega); omega)) ?_)
              refine l_cons rfl (p_not ?_)
              refine l_nil ?_
              refine k_seq_normal ?_
              refine w_b (fun h13 => ?_) (fun h13 => ?_)
              · skip
                have h13' := h13; (try simp only [bb] at h13')
                refine w_seq ?_
                refine w_region ?_
                refine l_cons rfl (p_loadp ty_26 ?_)
                refine l_cons rfl (p_store ty_26 ?_)
                refine l_nil ?_
                refine k_seq_normal ?_
                refine w_ret ?_
                refine k_blk_ret ?_
                refine k_seq_ret ?_
                refine k_seq_ret ?_
                refine k_blk_ret ?_
                refine k_blk_ret ?_
                refine k_seq_ret ?_
                rw [first_4 (by omega) (by assumption), firstC_at (k := k) (by omega) hk2 (by assumption)]
                exact retc rfl ty_26 (sub3 _ _ _ _) ⟨rfl, rfl⟩
              · skip
                have h13' := h13; (try simp only [bb] at h13')
                refine w_skip ?_
                refine k_blk_normal ?_
                refine k_seq_normal ?_
                refine w_region ?_
                refine l_cons rfl (p_move ?_)
                refine l_cons rfl (p_arith ?_)
                refine l_cons rfl (p_assign ?_)
                refine l_nil ?_
                refine k_seq_normal ?_
                exact ⟨r.args.length - (k + 1), by omega, k + 1, rfl, by omega, next_true (p := Rx.null) (by omega) hk2 (by assumption), rfl, kn⟩
            · skip
              have h12' := h12; (try simp only [bb] at h12')
              refine w_exit ?_
              refine k_seq_exit ?_
              refine k_seq_exit ?_
              refine k_blk_here ?_
              refine k_blk_normal ?_
              refine k_seq_normal ?_
              refine w_seq ?_
              refine w_region ?_
              refine l_cons rfl (p_loadp ty_26 ?_)
              refine l_cons rfl (p_store ty_26 ?_)
              refine l_nil ?_
              refine k_seq_normal ?_
              refine w_ret ?_
              first
              | (rw [first_no (by omega) (by omega) (by omega)]
                 exact retc rfl ty_26 (sub3 _ _ _ _) ⟨rfl, rfl⟩)
              | (have hk0 : k = 0 := by omega
                 subst hk0
                 rw [first_no (by omega) (by omega) (by omega)]
                 exact retc rfl ty_26 (sub3 _ _ _ _) ⟨rfl, rfl⟩)
              | (rcases Nat.eq_zero_or_pos k with hk0 | hk0
                 · subst hk0
                   rw [first_no (by omega) (by omega) (by omega)]
                   exact retc rfl ty_26 (sub3 _ _ _ _) ⟨rfl, rfl⟩
                 · have hkl : k = r.args.length := by omega
                   rw [first_5 (by omega), show Rx.firstE noSet r.args = Rx.firstE noSet (r.args.take k) by rw [hkl, List.take_length]]
                   exact retc rfl ty_26 (sub3 _ _ _ _) ⟨rfl, rfl⟩)
              | (have hkl : k = r.args.length := by omega
                 rw [first_5 (by omega), show Rx.firstE noSet r.args = Rx.firstE noSet (r.args.take k) by rw [hkl, List.take_length]]
                 exact retc rfl ty_26 (sub3 _ _ _ _) ⟨rfl, rfl⟩)
              | (have hkl : k = r.args.length := by omega
                 rw [first_4 (by omega) (by assumption), firstC_all (fun j hj h => hk2 j (by omega) h), show Rx.firstE noSet r.args = Rx.firstE noSet (r.args.take k) by rw [hkl, List.take_length]]
                 exact retc rfl ty_26 (sub3 _ _ _ _) ⟨rfl, rfl⟩)
        · skip
          have h10' := h10; (try simp only [bb] at h10')
          refine w_skip ?_
          refine k_blk_normal ?_
          refine k_seq_normal ?_
          refine w_seq ?_
          refine w_region ?_
          refine l_cons rfl (p_loadp ty_26 ?_)
          refine l_cons rfl (p_store ty_26 ?_)
          refine l_nil ?_
          refine k_seq_normal ?_
          refine w_ret ?_
          first
          | (rw [first_no (by omega) (by omega) (by omega)]
             exact retc rfl ty_26 (sub3 _ _ _ _) ⟨rfl, rfl⟩)
          | (have hk0 : k = 0 := by omega
             subst hk0
             rw [first_no (by omega) (by omega) (by omega)]
             exact retc rfl ty_26 (sub3 _ _ _ _) ⟨rfl, rfl⟩)
          | (rcases Nat.eq_zero_or_pos k with hk0 | hk0
             · subst hk0
               rw [first_no (by omega) (by omega) (by omega)]
               exact retc rfl ty_26 (sub3 _ _ _ _) ⟨rfl, rfl⟩
             · have hkl : k = r.args.length := by omega
               rw [first_5 (by omega), show Rx.firstE noSet r.args = Rx.firstE noSet (r.args.take k) by rw [hkl, List.take_length]]
               exact retc rfl ty_26 (sub3 _ _ _ _) ⟨rfl, rfl⟩)
          | (have hkl : k = r.args.length := by omega
             rw [first_5 (by omega), show Rx.firstE noSet r.args = Rx.firstE noSet (r.args.take k) by rw [hkl, List.take_length]]
             exact retc rfl ty_26 (sub3 _ _ _ _) ⟨rfl, rfl⟩)
          | (have hkl : k = r.args.length := by omega
             rw [first_4 (by omega) (by assumption), firstC_all (fun j hj h => hk2 j (by omega) h), show Rx.firstE noSet r.args = Rx.firstE noSet (r.args.take k) by rw [hkl, List.take_length]]
             exact retc rfl ty_26 (sub3 _ _ _ _) ⟨rfl, rfl⟩)
end
section
open Go.RowKit
/-! ### regions that draw, each order walked by itself -/
section
variable {P : Program} {w0 : World} {N : Nat} {f : Frame} {es : List Ent} {K : Frame → List Ent → Prop} {ops : Array Oper} {o : Oper}
def AAny (P : Program) (w0 : World) (N : Nat) (ops : Array Oper) (fuel : Nat) (ls : Array Bool) (f : Frame) (es : List Ent) (K : Frame → List Ent → Prop) : Prop :=
 ∀ (c : Core) (A : Act) (Q : Exit → Act → World → Prop), Ok w0 c es → RepF N c es f A →
  (∀ c' es' f' A', Ext c es c' es' → Ok w0 c' es' → RepF N c' es' f' A' → K f' es' → Q .normal A' c'.w) → wpAny P .any ops Q fuel ls A c.w
/-- One operation, be it skipped or not. -/
def AStep (P : Program) (w0 : World) (N : Nat) (ops : Array Oper) (i : Nat) (f : Frame) (es : List Ent) (K : Frame → List Ent → Prop) : Prop :=
 ∀ (c : Core) (A : Act) (next : Act → World → Prop) (Q : Exit → Act → World → Prop), Ok w0 c es → RepF N c es f A →
  (∀ c' es' f' A', Ext c es c' es' → Ok w0 c' es' → RepF N c' es' f' A' → K f' es' → next A' c'.w) → wpOp P ops Q i next A c.w
/-- What came up. -/
def Lst (n : Nat) (l : List Nat) : Array Bool := ((List.range n).map fun i => l.contains i).toArray
theorem w_any {id : Nat} {l : List Oper} {K : Exit → Frame → List Ent → Prop} (n : Nat) (hm : P.follows .mixedOrders = true) (h0 : Array.replicate l.toArray.size false = Lst n []) (hn : l.toArray.size = n)
  (h : AAny P w0 N l.toArray n (Lst n []) f es (K .normal)) : AWp P w0 N (.region id l.toArray true) f es K := by
 intro c A Q ok rf hk
 obtain ⟨x0, ok0⟩ := ok_drew ok
 refine wp_region_any hm ?_
 rw [h0, hn]
 exact h { c with w := { c.w with drawn := c.w.drawn + 1 } } A Q ok0 (rf.ext x0) fun c' es' f' A' x ok' rf' k => hk .normal c' es' f' A' (x0.trans x) ok' rf' k
theorem a_done {fuel : Nat} {ls : Array Bool} (hr : Region.ready .any ops ls = []) (h : K f es) : AAny P w0 N ops fuel ls f es K := by
 intro c A Q ok rf hk
 have hq := hk c es f A (Ext.refl _ _) ok rf h
 cases fuel with
 | zero => exact ⟨hr, hq⟩
 | succ n => exact ⟨fun _ => hq, fun i hi => by rw [hr] at hi; cases hi⟩
theorem a_step {fuel : Nat} {ls : Array Bool} (hne : Region.ready .any ops ls ≠ []) (h : ∀ i ∈ Region.ready .any ops ls, AStep P w0 N ops i f es fun f' es' => AAny P w0 N ops fuel (ls.setIfInBounds i true) f' es' K) : AAny P w0 N ops (fuel + 1) ls f es K := by
 intro c A Q ok rf hk
 refine ⟨fun e => absurd e hne, fun i hi => ?_⟩
 exact h i hi c A _ Q ok rf fun c' es' f' A' x ok' rf' k => k c' A' Q ok' rf' fun c2 es2 f2 A2 x2 ok2 rf2 k2 => hk c2 es2 f2 A2 (x.trans x2) ok2 rf2 k2
theorem a_one (i : Nat) {fuel : Nat} {ls : Array Bool} (ls' : Array Bool) (hr : Region.ready .any ops ls = [i]) (hl : ls.setIfInBounds i true = ls') (h : AStep P w0 N ops i f es fun f' es' => AAny P w0 N ops fuel ls' f' es' K) : AAny P w0 N ops (fuel + 1) ls f es K := by
 refine a_step (by rw [hr]; simp) fun k hk => ?_
 rw [hr] at hk
 simp only [List.mem_cons, List.not_mem_nil, or_false] at hk
 subst hk
 rw [hl]
 exact h
theorem a_two (i j : Nat) {fuel : Nat} {ls : Array Bool} (l1 l2 : Array Bool) (hr : Region.ready .any ops ls = [i, j]) (hl1 : ls.setIfInBounds i true = l1) (hl2 : ls.setIfInBounds j true = l2)
  (h1 : AStep P w0 N ops i f es fun f' es' => AAny P w0 N ops fuel l1 f' es' K) (h2 : AStep P w0 N ops j f es fun f' es' => AAny P w0 N ops fuel l2 f' es' K) : AAny P w0 N ops (fuel + 1) ls f es K := by
 refine a_step (by rw [hr]; simp) fun k hk => ?_
 rw [hr] at hk
 simp only [List.mem_cons, List.not_mem_nil, or_false] at hk
 rcases hk with rfl | rfl
 ·rw [hl1]; exact h1
 ·rw [hl2]; exact h2
/-- From here on once, whatever the order before it. -/
theorem a_cut {fuel : Nat} {ls : Array Bool} (fuel2 : Nat) (ls2 : Array Bool) (Post : Frame → List Ent → Prop) (h2 : ∀ f es, Post f es → AAny P w0 N ops fuel2 ls2 f es K) (h1 : (∀ f es, Post f es → AAny P w0 N ops fuel2 ls2 f es K) → AAny P w0 N ops fuel ls f es K) : AAny P w0 N ops fuel ls f es K := h1 h2
theorem a_less {fuel : Nat} {ls : Array Bool} {f' : Frame} {es' : List Ent} (l : Less f' f) (s : Sub es' es) (h : AAny P w0 N ops fuel ls f' es' K) : AAny P w0 N ops fuel ls f es K :=
 fun c A Q ok rf hk => h c A Q (s.ok ok) ((rf.less l).ext (s.ext c)) fun c' es2 f2 A2 x ok2 rf2 k => hk c' es2 f2 A2 ((s.ext c).trans x) ok2 rf2 k
theorem a_pins (l : List (Nat × AV)) {fuel : Nat} {ls : Array Bool} {es' : List Ent} (hs : Sub es' es) (hk : Knows f l) (h : AAny P w0 N ops fuel ls (pins l) es' K) : AAny P w0 N ops fuel ls f es K := a_less (less_pins hk) hs h
theorem st_p {i : Nat} (hi : ops[i]? = some o) (hg : o.guard = none) (h : AOp P w0 N o f es K) : AStep P w0 N ops i f es K := by
 intro c A next Q ok rf hk
 simp only [wpOp, hi]
 rw [if_pos (by simp [Region.wanted, hg])]
 exact .inl (h c A next Q ok rf hk)
theorem st_y {i j d : Nat} {want b : Bool} (hi : ops[i]? = some o) (hg : o.guard = some (j, want)) (hw : b = want) (h : AOp P w0 N o f es K)
  (hd : (ops[j]?).bind (·.dst) = some d := by exact rfl) (hN : Nat.blt d N = true := by exact rfl) (hb : f d = .bool b := by simp only [ofConst_int, ofConst_bool, ofConst_str, ofConst_nil, upd_apply, Nat.reduceEqDiff, ↓reduceIte] <;> exact rfl) : AStep P w0 N ops i f es K := by
 intro c A next Q ok rf hk
 have hy := yielded_of (ops := ops) rf hd hN hb
 simp only [wpOp, hi]
 rw [if_pos (by simp [Region.wanted, hg, hy, hw])]
 exact .inl (h c A next Q ok rf hk)
end
end
set_option maxRecDepth 8000
section
open Go.RowKit Go.Proofs
def aSet : W4 := ⟨0, 8589934592, 0, 0⟩
def aR : Rx := .mk 3 aSet []
def starA : Rx := .mk 6 noSet [aR]
theorem aR_cells : aR.cells = [.int .i64 3, .int .u64 0, .int .u64 8589934592, .int .u64 0, .int .u64 0, .list 6 []] := by rw [Rx.cells_eq]; rfl
theorem aSet_ok : aSet.ok := by unfold W4.ok aSet; simp
theorem aR_ok : aR.ok := ok_mkset aSet_ok
theorem aR_nodes : aR.nodes = 1 := by simp [aR, Rx.nodes, Rx.nodesL]
theorem starA_ok : starA.ok := ok_mk (by omega) (by simpa using aR_ok)
theorem starA_nodes : starA.nodes = 2 := by simp [starA, Rx.nodes, Rx.nodesL, aR_nodes]
theorem star_aR : starR aR = starA := by
 unfold starR
 rw [show (2000 : Nat) = 1999 + 1 from rfl, starN]
 rfl
theorem aSet_has : aSet.hasI 97 = true := by decide
theorem aa_ok : bytesOk [97, 97] := fun b hb => by
 simp only [List.mem_cons, List.not_mem_nil, or_false] at hb
 omega
theorem in_starA : inR starA [97, 97] = true := by
 rw [inR_iff, kind_6 (r := starA) rfl]
 have h : Rx.langOne starA.args [97] := langOne_iff.2 ⟨aR, rfl, (kind_3 (r := aR) rfl _).2 ⟨97, rfl, aSet_has⟩⟩
 exact Star.cons h (Star.cons h .nil)
theorem in_aR : inR aR [97, 97] = false := by
 rw [Bool.eq_false_iff, ne_eq, inR_iff, kind_3 (r := aR) rfl]
 rintro ⟨c, h, _⟩
 simp at h
theorem hasA_walk {w0 : World} {es : List Ent} : ACalls Tryd.prog w0 100 [.agg [.int .u64 0, .int .u64 8589934592, .int .u64 0, .int .u64 0], .int .u8 97] es fun v es' => v = .bool true ∧ es' = es := by
 have := bytesetHas (w0 := w0) (es := es) 0 8589934592 0 0 97 (by omega) (by omega)
 rwa [show hasW 0 8589934592 0 0 97 = true from aSet_has] at this
theorem setA_walk {w0 : World} {es : List Ent} : ACalls Tryd.prog w0 67 [.agg [.int .u64 0, .int .u64 8589934592, .int .u64 0, .int .u64 0]] es fun v es' => v = .agg [.int .i64 3, .int .u64 0, .int .u64 8589934592, .int .u64 0, .int .u64 0, .list 6 []] ∧ es' = es := by
 have := refBytes (w0 := w0) (es := es) aSet
 rwa [show bytesR aSet = aR from rfl, aR_cells] at this
theorem starA_walk {w0 : World} {es : List Ent} : ACalls Tryd.prog w0 41 [.agg [.int .i64 3, .int .u64 0, .int .u64 8589934592, .int .u64 0, .int .u64 0, .list 6 []]] es fun v es' => v = .agg starA.cells ∧ es' = es := by
 have := refStarR (w0 := w0) (es := es) aR (by rw [aR_nodes]; omega) aR_ok
 rwa [star_aR, aR_cells] at this
theorem inStarA {w0 : World} {es : List Ent} : ACalls Tryd.prog w0 58 [.agg starA.cells, .list 1 [[.int .u8 97], [.int .u8 97]]] es fun v es' => v = .bool true ∧ es' = es := by
 have := In_walk (w0 := w0) (es := es) starA [97, 97] starA_ok aa_ok (by simp)
 rwa [in_starA] at this
theorem inA {w0 : World} {es : List Ent} : ACalls Tryd.prog w0 58 [.agg [.int .i64 3, .int .u64 0, .int .u64 8589934592, .int .u64 0, .int .u64 0, .list 6 []], .list 1 [[.int .u8 97], [.int .u8 97]]] es fun v es' => v = .bool false ∧ es' = es := by
 have := In_walk (w0 := w0) (es := es) aR [97, 97] aR_ok aa_ok (by simp)
 rwa [in_aR, aR_cells] at this
theorem nullStarA {w0 : World} {es : List Ent} : ACalls Tryd.prog w0 59 [.agg starA.cells] es fun v es' => v = .bool true ∧ es' = es := by
 have := Null_walk (w0 := w0) 2 starA es (by rw [starA_nodes]; omega) (by omega)
 rwa [show starA.null = true by rw [null_eq]; rfl] at this
theorem firstA {w0 : World} {es : List Ent} : ACalls Tryd.prog w0 61 [.agg [.int .i64 3, .int .u64 0, .int .u64 8589934592, .int .u64 0, .int .u64 0, .list 6 []]] es fun v es' => v = .agg aSet.row ∧ es' = es := by
 have := First_walk (w0 := w0) 2 aR es (by rw [aR_nodes]; omega) (by omega) aR_ok
 rwa [first_3 (r := aR) rfl, aR_cells] at this
theorem empty1_walk {w0 : World} {es : List Ent} : ACalls Tryd.prog w0 101 [] es fun v es' => v = .agg [.int .i64 2, .int .u64 0, .int .u64 0, .int .u64 0, .int .u64 0, .nil] ∧ es' = es := by
 refine calls0 (N := 2) Tryd.func101 rfl rfl ?_
 refine w_seq ?_
 refine w_region ?_
 refine l_cons rfl (p_alloc ze_29 fun s0 => ?_)
 refine l_nil ?_
 refine k_seq_normal ?_
 refine w_seq ?_
 refine w_region ?_
 refine l_cons rfl (p_build ze_29 pl_29 ?_)
 refine l_cons rfl (p_store ty_29 ?_)
 refine l_nil ?_
 refine k_seq_normal ?_
 refine w_ret ?_
 exact retc rfl ty_29 subx ⟨rfl, rfl⟩
theorem stepA_walk {w0 : World} {es : List Ent} : ACalls Tryd.prog w0 65 [.agg [.int .i64 3, .int .u64 0, .int .u64 8589934592, .int .u64 0, .int .u64 0, .list 6 []], .int .u8 97] es fun v es' => v = .agg [.int .i64 2, .int .u64 0, .int .u64 0, .int .u64 0, .int .u64 0, .nil] ∧ es' = es := by
 refine calls2 (N := 57) Tryd.func65 rfl rfl (by decide) ?_
 refine w_seq ?_
 refine w_region ?_
 refine l_cons rfl (p_box fun s2 => ?_)
 refine l_cons rfl (p_alloc ze_29 fun s4 => ?_)
 refine l_nil ?_
 refine k_seq_normal ?_
 refine w_seq ?_
 refine w_seq ?_
 refine w_region ?_
 refine l_cons rfl (p_fap fa_29_0 ?_)
 refine l_cons rfl (p_loadp ty_3 ?_)
 refine l_nil ?_
 refine k_seq_normal ?_
 refine w_block ?_
 refine w_seq ?_
 refine w_region ?_
 refine l_cons rfl (p_cmpl true ?_)
 refine l_cons rfl (p_assign ?_)
 refine l_nil ?_
 refine k_seq_normal ?_
 refine w_t rfl ?_
 refine w_seq ?_
 refine w_region ?_
 refine l_cons rfl (p_fap fa_29_1 ?_)
 refine l_cons rfl (p_loadp ty_26 ?_)
 refine l_cons rfl (p_move ?_)
 refine l_cons rfl (p_callr en_100 (hasA_walk) ?_)
 refine l_nil ?_
 refine k_seq_normal ?_
 refine w_t rfl ?_
 refine w_seq ?_
 refine w_region ?_
 refine l_cons rfl (p_callr en_101 (empty1_walk) ?_)
 refine l_cons rfl (p_store ty_29 ?_)
 refine l_nil ?_
 refine k_seq_normal ?_
 refine w_ret ?_
 refine k_blk_ret ?_
 refine k_seq_ret ?_
 exact retc rfl ty_29 subx ⟨rfl, rfl⟩
theorem begun8_walk {w0 : World} {es : List Ent} : ACalls Tryd.prog w0 57 [] es fun v es' => v = .bool true ∧ es' = es := by
 refine calls0 (N := 36) Tryd.func57 rfl rfl ?_
 refine w_seq ?_
 refine w_region ?_
 refine l_cons rfl (p_assign ?_)
 refine l_nil ?_
 refine k_seq_normal ?_
 refine w_seq ?_
 refine w_region ?_
 refine l_cons rfl (p_buildSlice sl_22 ze_5 fun s2 => ?_)
 refine l_cons rfl (p_convBytes sl_22 in_5 ?_)
 refine l_cons rfl (p_callr en_68 (of_a) ?_)
 refine l_cons rfl (p_callr en_67 (setA_walk) ?_)
 refine l_cons rfl (p_alloc ze_29 fun s1 => ?_)
 refine l_cons rfl (p_store ty_29 ?_)
 refine l_nil ?_
 refine k_seq_normal ?_
 refine w_seq ?_
 refine w_any 31 mixed (by kernel_rfl) rfl ?_
 refine a_cut 27 (Lst 31 [0, 1, 2, 3]) (fun f es2 => es2 = .row s1 29 6 [[.int .i64 3, .int .u64 0, .int .u64 8589934592, .int .u64 0, .int .u64 0, .list 6 []]] :: es ∧ Knows f [(1, .ptr es.length s1 0 0), (7, .agg starA.cells), (9, .list 1 [[.int .u8 97], [.int .u8 97]])]) (fun f es2 hpost => ?_) (fun ph4 => ?_)
 ·skip
  obtain ⟨rfl, hk⟩ := hpost
  refine a_pins _ (Sub.refl _) hk ?_
  simp only [pins]
  refine a_one 4 (Lst 31 [0, 1, 2, 3, 4]) (by kernel_rfl) (by kernel_rfl) (st_p rfl rfl (p_callr en_58 (inStarA) ?_))
  refine a_one 5 (Lst 31 [0, 1, 2, 3, 4, 5]) (by kernel_rfl) (by kernel_rfl) (st_p rfl rfl (p_move ?_))
  refine a_cut 22 (Lst 31 [0, 1, 2, 3, 4, 5, 6, 7, 8]) (fun f es2 => es2 = .row s1 29 6 [[.int .i64 3, .int .u64 0, .int .u64 8589934592, .int .u64 0, .int .u64 0, .list 6 []]] :: es ∧ Knows f [(1, .ptr es.length s1 0 0), (11, .bool true), (12, .agg [.int .i64 3, .int .u64 0, .int .u64 8589934592, .int .u64 0, .int .u64 0, .list 6 []]), (14, .list 1 [[.int .u8 97], [.int .u8 97]])]) (fun f es2 hpost => ?_) (fun ph9 => ?_)
  ·skip
   obtain ⟨rfl, hk⟩ := hpost
   refine a_pins _ (Sub.refl _) hk ?_
   simp only [pins]
   refine a_one 9 (Lst 31 [0, 1, 2, 3, 4, 5, 6, 7, 8, 9]) (by kernel_rfl) (by kernel_rfl) (st_y rfl rfl rfl (p_callr en_58 (inA) ?_))
   refine a_one 10 (Lst 31 [0, 1, 2, 3, 4, 5, 6, 7, 8, 9, 10]) (by kernel_rfl) (by kernel_rfl) (st_y rfl rfl rfl (p_not ?_))
   refine a_one 11 (Lst 31 [0, 1, 2, 3, 4, 5, 6, 7, 8, 9, 10, 11]) (by kernel_rfl) (by kernel_rfl) (st_p rfl rfl (p_pickt rfl ?_))
   refine a_one 12 (Lst 31 [0, 1, 2, 3, 4, 5, 6, 7, 8, 9, 10, 11, 12]) (by kernel_rfl) (by kernel_rfl) (st_p rfl rfl (p_move ?_))
   refine a_one 13 (Lst 31 [0, 1, 2, 3, 4, 5, 6, 7, 8, 9, 10, 11, 12, 13]) (by kernel_rfl) (by kernel_rfl) (st_y rfl rfl rfl (p_loadp ty_29 ?_))
   refine a_one 14 (Lst 31 [0, 1, 2, 3, 4, 5, 6, 7, 8, 9, 10, 11, 12, 13, 14]) (by kernel_rfl) (by kernel_rfl) (st_y rfl rfl rfl (p_callr en_41 (starA_walk) ?_))
   refine a_one 15 (Lst 31 [0, 1, 2, 3, 4, 5, 6, 7, 8, 9, 10, 11, 12, 13, 14, 15]) (by kernel_rfl) (by kernel_rfl) (st_y rfl rfl rfl (p_callr en_59 (nullStarA) ?_))
   refine a_one 16 (Lst 31 [0, 1, 2, 3, 4, 5, 6, 7, 8, 9, 10, 11, 12, 13, 14, 15, 16]) (by kernel_rfl) (by kernel_rfl) (st_p rfl rfl (p_pickt rfl ?_))
   refine a_one 17 (Lst 31 [0, 1, 2, 3, 4, 5, 6, 7, 8, 9, 10, 11, 12, 13, 14, 15, 16, 17]) (by kernel_rfl) (by kernel_rfl) (st_p rfl rfl (p_move ?_))
   refine a_one 18 (Lst 31 [0, 1, 2, 3, 4, 5, 6, 7, 8, 9, 10, 11, 12, 13, 14, 15, 16, 17, 18]) (by kernel_rfl) (by kernel_rfl) (st_y rfl rfl rfl (p_loadp ty_29 ?_))
   refine a_one 19 (Lst 31 [0, 1, 2, 3, 4, 5, 6, 7, 8, 9, 10, 11, 12, 13, 14, 15, 16, 17, 18, 19]) (by kernel_rfl) (by kernel_rfl) (st_y rfl rfl rfl (p_callr en_65 (stepA_walk) ?_))
   refine a_one 20 (Lst 31 [0, 1, 2, 3, 4, 5, 6, 7, 8, 9, 10, 11, 12, 13, 14, 15, 16, 17, 18, 19, 20]) (by kernel_rfl) (by kernel_rfl) (st_y rfl rfl rfl (p_field fv_29_0 ?_))
   refine a_one 21 (Lst 31 [0, 1, 2, 3, 4, 5, 6, 7, 8, 9, 10, 11, 12, 13, 14, 15, 16, 17, 18, 19, 20, 21]) (by kernel_rfl) (by kernel_rfl) (st_y rfl rfl rfl (p_cmpl true ?_))
   refine a_one 22 (Lst 31 [0, 1, 2, 3, 4, 5, 6, 7, 8, 9, 10, 11, 12, 13, 14, 15, 16, 17, 18, 19, 20, 21, 22]) (by kernel_rfl) (by kernel_rfl) (st_p rfl rfl (p_pickt rfl ?_))
   refine a_one 23 (Lst 31 [0, 1, 2, 3, 4, 5, 6, 7, 8, 9, 10, 11, 12, 13, 14, 15, 16, 17, 18, 19, 20, 21, 22, 23]) (by kernel_rfl) (by kernel_rfl) (st_p rfl rfl (p_move ?_))
   refine a_cut 3 (Lst 31 [0, 1, 2, 3, 4, 5, 6, 7, 8, 9, 10, 11, 12, 13, 14, 15, 16, 17, 18, 19, 20, 21, 22, 23, 24, 25, 26, 27]) (fun f es2 => es2 = .row s1 29 6 [[.int .i64 3, .int .u64 0, .int .u64 8589934592, .int .u64 0, .int .u64 0, .list 6 []]] :: es ∧ Knows f [(1, .ptr es.length s1 0 0), (29, .bool true), (31, .agg aSet.row), (33, .agg aSet.row)]) (fun f es2 hpost => ?_) (fun ph28 => ?_)
   ·skip
    obtain ⟨rfl, hk⟩ := hpost
    refine a_pins _ (Sub.refl _) hk ?_
    simp only [pins]
    refine a_one 28 (Lst 31 [0, 1, 2, 3, 4, 5, 6, 7, 8, 9, 10, 11, 12, 13, 14, 15, 16, 17, 18, 19, 20, 21, 22, 23, 24, 25, 26, 27, 28]) (by kernel_rfl) (by kernel_rfl) (st_y rfl rfl rfl (p_eqa ai_26 (b := true) ?_))
    refine a_one 29 (Lst 31 [0, 1, 2, 3, 4, 5, 6, 7, 8, 9, 10, 11, 12, 13, 14, 15, 16, 17, 18, 19, 20, 21, 22, 23, 24, 25, 26, 27, 28, 29]) (by kernel_rfl) (by kernel_rfl) (st_p rfl rfl (p_pickt rfl ?_))
    refine a_one 30 (Lst 31 [0, 1, 2, 3, 4, 5, 6, 7, 8, 9, 10, 11, 12, 13, 14, 15, 16, 17, 18, 19, 20, 21, 22, 23, 24, 25, 26, 27, 28, 29, 30]) (by kernel_rfl) (by kernel_rfl) (st_p rfl rfl (p_assign ?_))
    refine a_done (by kernel_rfl) ?_
    refine k_seq_normal ?_
    refine w_ret ?_
    exact ret1 rfl ev1 subx ⟨rfl, rfl⟩
   ·skip
    refine a_two 24 26 (Lst 31 [0, 1, 2, 3, 4, 5, 6, 7, 8, 9, 10, 11, 12, 13, 14, 15, 16, 17, 18, 19, 20, 21, 22, 23, 24]) (Lst 31 [0, 1, 2, 3, 4, 5, 6, 7, 8, 9, 10, 11, 12, 13, 14, 15, 16, 17, 18, 19, 20, 21, 22, 23, 26]) (by kernel_rfl) (by kernel_rfl) (by kernel_rfl) ?_ ?_
    ·skip
     refine st_y rfl rfl rfl (p_loadp ty_29 ?_)
     refine a_two 25 26 (Lst 31 [0, 1, 2, 3, 4, 5, 6, 7, 8, 9, 10, 11, 12, 13, 14, 15, 16, 17, 18, 19, 20, 21, 22, 23, 24, 25]) (Lst 31 [0, 1, 2, 3, 4, 5, 6, 7, 8, 9, 10, 11, 12, 13, 14, 15, 16, 17, 18, 19, 20, 21, 22, 23, 24, 26]) (by kernel_rfl) (by kernel_rfl) (by kernel_rfl) ?_ ?_
     ·skip
      refine st_y rfl rfl rfl (p_callr en_61 (firstA) ?_)
      refine a_one 26 (Lst 31 [0, 1, 2, 3, 4, 5, 6, 7, 8, 9, 10, 11, 12, 13, 14, 15, 16, 17, 18, 19, 20, 21, 22, 23, 24, 25, 26]) (by kernel_rfl) (by kernel_rfl) (st_y rfl rfl rfl (p_fap fa_29_1 ?_))
      refine a_one 27 (Lst 31 [0, 1, 2, 3, 4, 5, 6, 7, 8, 9, 10, 11, 12, 13, 14, 15, 16, 17, 18, 19, 20, 21, 22, 23, 24, 25, 26, 27]) (by kernel_rfl) (by kernel_rfl) (st_y rfl rfl rfl (p_loadp ty_26 (a := .agg aSet.row) ?_ (hl := Nat.le_of_ble_eq_true rfl) (ha := rfl)))
      exact ph28 _ _ (⟨rfl, kn⟩)
     ·skip
      refine st_y rfl rfl rfl (p_fap fa_29_1 ?_)
      refine a_two 25 27 (Lst 31 [0, 1, 2, 3, 4, 5, 6, 7, 8, 9, 10, 11, 12, 13, 14, 15, 16, 17, 18, 19, 20, 21, 22, 23, 24, 25, 26]) (Lst 31 [0, 1, 2, 3, 4, 5, 6, 7, 8, 9, 10, 11, 12, 13, 14, 15, 16, 17, 18, 19, 20, 21, 22, 23, 24, 26, 27]) (by kernel_rfl) (by kernel_rfl) (by kernel_rfl) ?_ ?_
      ·skip
       refine st_y rfl rfl rfl (p_callr en_61 (firstA) ?_)
       refine a_one 27 (Lst 31 [0, 1, 2, 3, 4, 5, 6, 7, 8, 9, 10, 11, 12, 13, 14, 15, 16, 17, 18, 19, 20, 21, 22, 23, 24, 25, 26, 27]) (by kernel_rfl) (by kernel_rfl) (st_y rfl rfl rfl (p_loadp ty_26 (a := .agg aSet.row) ?_ (hl := Nat.le_of_ble_eq_true rfl) (ha := rfl)))
       exact ph28 _ _ (⟨rfl, kn⟩)
      ·skip
       refine st_y rfl rfl rfl (p_loadp ty_26 (a := .agg aSet.row) ?_ (hl := Nat.le_of_ble_eq_true rfl) (ha := rfl))
       refine a_one 25 (Lst 31 [0, 1, 2, 3, 4, 5, 6, 7, 8, 9, 10, 11, 12, 13, 14, 15, 16, 17, 18, 19, 20, 21, 22, 23, 24, 25, 26, 27]) (by kernel_rfl) (by kernel_rfl) (st_y rfl rfl rfl (p_callr en_61 (firstA) ?_))
       exact ph28 _ _ (⟨rfl, kn⟩)
    ·skip
     refine st_y rfl rfl rfl (p_fap fa_29_1 ?_)
     refine a_two 24 27 (Lst 31 [0, 1, 2, 3, 4, 5, 6, 7, 8, 9, 10, 11, 12, 13, 14, 15, 16, 17, 18, 19, 20, 21, 22, 23, 24, 26]) (Lst 31 [0, 1, 2, 3, 4, 5, 6, 7, 8, 9, 10, 11, 12, 13, 14, 15, 16, 17, 18, 19, 20, 21, 22, 23, 26, 27]) (by kernel_rfl) (by kernel_rfl) (by kernel_rfl) ?_ ?_
     ·skip
      refine st_y rfl rfl rfl (p_loadp ty_29 ?_)
      refine a_two 25 27 (Lst 31 [0, 1, 2, 3, 4, 5, 6, 7, 8, 9, 10, 11, 12, 13, 14, 15, 16, 17, 18, 19, 20, 21, 22, 23, 24, 25, 26]) (Lst 31 [0, 1, 2, 3, 4, 5, 6, 7, 8, 9, 10, 11, 12, 13, 14, 15, 16, 17, 18, 19, 20, 21, 22, 23, 24, 26, 27]) (by kernel_rfl) (by kernel_rfl) (by kernel_rfl) ?_ ?_
      ·skip
       refine st_y rfl rfl rfl (p_callr en_61 (firstA) ?_)
       refine a_one 27 (Lst 31 [0, 1, 2, 3, 4, 5, 6, 7, 8, 9, 10, 11, 12, 13, 14, 15, 16, 17, 18, 19, 20, 21, 22, 23, 24, 25, 26, 27]) (by kernel_rfl) (by kernel_rfl) (st_y rfl rfl rfl (p_loadp ty_26 (a := .agg aSet.row) ?_ (hl := Nat.le_of_ble_eq_true rfl) (ha := rfl)))
       exact ph28 _ _ (⟨rfl, kn⟩)
      ·skip
       refine st_y rfl rfl rfl (p_loadp ty_26 (a := .agg aSet.row) ?_ (hl := Nat.le_of_ble_eq_true rfl) (ha := rfl))
       refine a_one 25 (Lst 31 [0, 1, 2, 3, 4, 5, 6, 7, 8, 9, 10, 11, 12, 13, 14, 15, 16, 17, 18, 19, 20, 21, 22, 23, 24, 25, 26, 27]) (by kernel_rfl) (by kernel_rfl) (st_y rfl rfl rfl (p_callr en_61 (firstA) ?_))
       exact ph28 _ _ (⟨rfl, kn⟩)
     ·skip
      refine st_y rfl rfl rfl (p_loadp ty_26 (a := .agg aSet.row) ?_ (hl := Nat.le_of_ble_eq_true rfl) (ha := rfl))
      refine a_one 24 (Lst 31 [0, 1, 2, 3, 4, 5, 6, 7, 8, 9, 10, 11, 12, 13, 14, 15, 16, 17, 18, 19, 20, 21, 22, 23, 24, 26, 27]) (by kernel_rfl) (by kernel_rfl) (st_y rfl rfl rfl (p_loadp ty_29 ?_))
      refine a_one 25 (Lst 31 [0, 1, 2, 3, 4, 5, 6, 7, 8, 9, 10, 11, 12, 13, 14, 15, 16, 17, 18, 19, 20, 21, 22, 23, 24, 25, 26, 27]) (by kernel_rfl) (by kernel_rfl) (st_y rfl rfl rfl (p_callr en_61 (firstA) ?_))
      exact ph28 _ _ (⟨rfl, kn⟩)
  ·skip
   refine a_two 6 7 (Lst 31 [0, 1, 2, 3, 4, 5, 6]) (Lst 31 [0, 1, 2, 3, 4, 5, 7]) (by kernel_rfl) (by kernel_rfl) (by kernel_rfl) ?_ ?_
   ·skip
    refine st_y rfl rfl rfl (p_loadp ty_29 ?_)
    refine a_one 7 (Lst 31 [0, 1, 2, 3, 4, 5, 6, 7]) (by kernel_rfl) (by kernel_rfl) (st_y rfl rfl rfl (p_buildSlice sl_22 ze_5 fun s13 => ?_))
    refine a_one 8 (Lst 31 [0, 1, 2, 3, 4, 5, 6, 7, 8]) (by kernel_rfl) (by kernel_rfl) (st_y rfl rfl rfl (p_convBytes sl_22 in_5 ?_))
    exact ph9 _ _ (⟨rfl, kn⟩)
   ·skip
    refine st_y rfl rfl rfl (p_buildSlice sl_22 ze_5 fun s13 => ?_)
    refine a_two 6 8 (Lst 31 [0, 1, 2, 3, 4, 5, 6, 7]) (Lst 31 [0, 1, 2, 3, 4, 5, 7, 8]) (by kernel_rfl) (by kernel_rfl) (by kernel_rfl) ?_ ?_
    ·skip
     refine st_y rfl rfl rfl (p_loadp ty_29 ?_)
     refine a_one 8 (Lst 31 [0, 1, 2, 3, 4, 5, 6, 7, 8]) (by kernel_rfl) (by kernel_rfl) (st_y rfl rfl rfl (p_convBytes sl_22 in_5 ?_))
     exact ph9 _ _ (⟨rfl, kn⟩)
    ·skip
     refine st_y rfl rfl rfl (p_convBytes sl_22 in_5 ?_)
     refine a_one 6 (Lst 31 [0, 1, 2, 3, 4, 5, 6, 7, 8]) (by kernel_rfl) (by kernel_rfl) (st_y rfl rfl rfl (p_loadp ty_29 ?_))
     exact ph9 _ _ (⟨rfl, kn⟩)
 ·skip
  refine a_two 0 2 (Lst 31 [0]) (Lst 31 [2]) (by kernel_rfl) (by kernel_rfl) (by kernel_rfl) ?_ ?_
  ·skip
   refine st_p rfl rfl (p_loadp ty_29 ?_)
   refine a_two 1 2 (Lst 31 [0, 1]) (Lst 31 [0, 2]) (by kernel_rfl) (by kernel_rfl) (by kernel_rfl) ?_ ?_
   ·skip
    refine st_p rfl rfl (p_callr en_41 (starA_walk) ?_)
    refine a_one 2 (Lst 31 [0, 1, 2]) (by kernel_rfl) (by kernel_rfl) (st_p rfl rfl (p_buildSlice sl_22 ze_5 fun s8 => ?_))
    refine a_one 3 (Lst 31 [0, 1, 2, 3]) (by kernel_rfl) (by kernel_rfl) (st_p rfl rfl (p_convBytes sl_22 in_5 ?_))
    exact ph4 _ _ (⟨rfl, kn⟩)
   ·skip
    refine st_p rfl rfl (p_buildSlice sl_22 ze_5 fun s8 => ?_)
    refine a_two 1 3 (Lst 31 [0, 1, 2]) (Lst 31 [0, 2, 3]) (by kernel_rfl) (by kernel_rfl) (by kernel_rfl) ?_ ?_
    ·skip
     refine st_p rfl rfl (p_callr en_41 (starA_walk) ?_)
     refine a_one 3 (Lst 31 [0, 1, 2, 3]) (by kernel_rfl) (by kernel_rfl) (st_p rfl rfl (p_convBytes sl_22 in_5 ?_))
     exact ph4 _ _ (⟨rfl, kn⟩)
    ·skip
     refine st_p rfl rfl (p_convBytes sl_22 in_5 ?_)
     refine a_one 1 (Lst 31 [0, 1, 2, 3]) (by kernel_rfl) (by kernel_rfl) (st_p rfl rfl (p_callr en_41 (starA_walk) ?_))
     exact ph4 _ _ (⟨rfl, kn⟩)
  ·skip
   refine st_p rfl rfl (p_buildSlice sl_22 ze_5 fun s8 => ?_)
   refine a_two 0 3 (Lst 31 [0, 2]) (Lst 31 [2, 3]) (by kernel_rfl) (by kernel_rfl) (by kernel_rfl) ?_ ?_
   ·skip
    refine st_p rfl rfl (p_loadp ty_29 ?_)
    refine a_two 1 3 (Lst 31 [0, 1, 2]) (Lst 31 [0, 2, 3]) (by kernel_rfl) (by kernel_rfl) (by kernel_rfl) ?_ ?_
    ·skip
     refine st_p rfl rfl (p_callr en_41 (starA_walk) ?_)
     refine a_one 3 (Lst 31 [0, 1, 2, 3]) (by kernel_rfl) (by kernel_rfl) (st_p rfl rfl (p_convBytes sl_22 in_5 ?_))
     exact ph4 _ _ (⟨rfl, kn⟩)
    ·skip
     refine st_p rfl rfl (p_convBytes sl_22 in_5 ?_)
     refine a_one 1 (Lst 31 [0, 1, 2, 3]) (by kernel_rfl) (by kernel_rfl) (st_p rfl rfl (p_callr en_41 (starA_walk) ?_))
     exact ph4 _ _ (⟨rfl, kn⟩)
   ·skip
    refine st_p rfl rfl (p_convBytes sl_22 in_5 ?_)
    refine a_one 0 (Lst 31 [0, 2, 3]) (by kernel_rfl) (by kernel_rfl) (st_p rfl rfl (p_loadp ty_29 ?_))
    refine a_one 1 (Lst 31 [0, 1, 2, 3]) (by kernel_rfl) (by kernel_rfl) (st_p rfl rfl (p_callr en_41 (starA_walk) ?_))
    exact ph4 _ _ (⟨rfl, kn⟩)
end
section
/-! ### the same of the words themselves -/
end
set_option maxRecDepth 8000
section
open Go.RowKit Go.Proofs
end
section
/-! ### what the constructors make is plain -/
theorem plain_none : noneR.plain = true := by simp [noneR, Rx.plain, Rx.plainL, right]
theorem plain_empty : emptyR.plain = true := by simp [emptyR, Rx.plain, Rx.plainL, right]
theorem plain_mkset {s : W4} (h : s ≠ noSet) : (Rx.mk 3 s []).plain = true := by simp [Rx.plain, Rx.plainL, right, h]
theorem plain_bytes (s : W4) : (bytesR s).plain = true := by
 unfold bytesR
 split
 ·exact plain_none
 ·rename_i h; exact plain_mkset h
theorem catOf_plain {l : List Rx} (h : ∀ a ∈ l, a.plain = true ∧ a.kind ∉ [(4 : Int), 1, 2]) : (catOf l).plain = true := by
 match l, h with
 | [], _ => exact plain_empty
 | [x], h => exact (h x (by simp)).1
 | x :: y :: t, h =>
  rw [catOf, Rx.plain, Bool.and_eq_true, Rx.plainL_iff]
  refine ⟨?_, fun a ha => (h a ha).1⟩
  have hn : notIn [4, 1, 2] (x :: y :: t) = true := notIn_iff.2 fun a ha => (h a ha).2
  unfold right
  rw [hn]
  simp
theorem altOf_plain {l : List Rx} (h : ∀ a ∈ l, a.plain = true ∧ a.kind ∉ [(5 : Int), 1]) (hc : chainR l = true) (hs : setsR l ≤ 1) : (altOf l).plain = true := by
 match l, h, hc, hs with
 | [], _, _, _ => exact plain_none
 | [x], h, _, _ => exact (h x (by simp)).1
 | x :: y :: t, h, hc, hs =>
  rw [altOf, Rx.plain, Bool.and_eq_true, Rx.plainL_iff]
  refine ⟨?_, fun a ha => (h a ha).1⟩
  have hn : notIn [5, 1] (x :: y :: t) = true := notIn_iff.2 fun a ha => (h a ha).2
  unfold right
  rw [hn, hc]
  simp
  exact hs
theorem flat4_plain {l : List Rx} (h : Rx.plainL l = true) : ∀ x ∈ flatR 4 l, x.plain = true ∧ x.kind ≠ 4 := by
 rw [Rx.plainL_iff] at h
 intro x hx
 rcases flat_mem hx with ⟨h1, h2⟩ | ⟨r, h1, h2, h3⟩
 ·exact ⟨h x h1, h2⟩
 ·refine ⟨plain_args (h r h1) x h3, fun e => (plain_cat (h r h1) h2).2 x h3 ?_⟩
  simp [e]
theorem flat5_plain {l : List Rx} (h : Rx.plainL l = true) : ∀ x ∈ flatR 5 l, x.plain = true ∧ x.kind ≠ 5 := by
 rw [Rx.plainL_iff] at h
 intro x hx
 rcases flat_mem hx with ⟨h1, h2⟩ | ⟨r, h1, h2, h3⟩
 ·exact ⟨h x h1, h2⟩
 ·refine ⟨plain_args (h r h1) x h3, fun e => (plain_alt (h r h1) h2).2.1 x h3 ?_⟩
  simp [e]
theorem catR_plain {l : List Rx} (h : Rx.plainL l = true) : (catR l).plain = true := by
 unfold catR
 split
 ·exact plain_none
 ·rename_i hn
  refine catOf_plain fun a ha => ?_
  obtain ⟨h1, h2⟩ := List.mem_filter.1 ha
  obtain ⟨h3, h4⟩ := flat4_plain h a h1
  refine ⟨h3, ?_⟩
  have h5 : a.kind ≠ 1 := fun e => hn (List.any_eq_true.2 ⟨a, h1, by simp [e]⟩)
  simp only [decide_eq_true_eq] at h2
  simp [h2, h4, h5]
theorem altR_plain {l : List Rx} (ht : Rx.tidyL l) (h : Rx.plainL l = true) : (altR l).plain = true := by
 have hf := flat_tidy (k := 5) ht
 obtain ⟨o1, o2, o3⟩ := altOuts_props (o := []) hf (by simp [Rx.tidyL]) (by simp [SortedR])
 obtain ⟨p1, p2, p3⟩ := altFin_props o1 o2 (altSet_ok noSet_ok (tidy_set' hf))
 unfold altR
 refine altOf_plain (fun a ha => ?_) ((chain_sorted p1).2 p2) ?_
 ·rcases (p3 a).1 ha with ha | ⟨h1, rfl⟩
  ·rcases (o3 a).1 ha with ha | ⟨ha, h1, h3⟩
   ·simp at ha
   ·obtain ⟨h4, h5⟩ := flat5_plain h a ha
    exact ⟨h4, by simp [h1, h5]⟩
  ·exact ⟨plain_mkset h1, by simp [Rx.kind]⟩
 ·have h0 : setsR (altOuts [] (flatR 5 l)) = 0 := sets_zero fun x hx => by
   rcases (o3 x).1 hx with hx | ⟨_, _, h3⟩
   ·simp at hx
   ·exact h3
  unfold altFin
  split
  ·omega
  ·have := insR_sets (altOuts [] (flatR 5 l)) (.mk 3 (altSet noSet (flatR 5 l)) [])
   omega
theorem starN_plain : ∀ (n : Nat) {r : Rx}, r.tidy → r.plain = true → (starN n r).plain = true
 | 0, r, _, h => h
 | n + 1, r, ht, h => by
  simp only [starN]
  split
  ·exact h
  ·split
   ·exact plain_empty
   ·split
    ·have h1 : Rx.tidyL (catOuts r.args) := filter_tidy (tidy_args ht)
     exact starN_plain n (altR_tidy h1) (altR_plain h1 ((Rx.plainL_iff _).2 fun a ha => plain_args h a (catOuts_mem ha)))
    ·rename_i h6 h12 _
     rw [Rx.plain, Bool.and_eq_true, Rx.plainL_iff]
     refine ⟨?_, fun a ha => by simp at ha; exact ha ▸ h⟩
     have hn : notIn [6, 1, 2] [r] = true := notIn_iff.2 fun a ha => by
      simp at ha
      subst ha
      simp only [not_or] at h12
      simp [h6, h12]
     unfold right
     rw [hn]
     simp
theorem starR_plain {r : Rx} (ht : r.tidy) (h : r.plain = true) : (starR r).plain = true := starN_plain 2000 ht h
theorem pLeaf_plain (k : Int) (q : List Int) : (pLeaf k q).1.plain = true := by
 unfold pLeaf
 split
 ·exact plain_bytes _
 ·dsimp only
  split
  ·exact plain_none
  ·exact plain_empty
theorem pRx_plain : ∀ (f : Nat) {q : List Int}, bytesOk q → (pRx f q).1.plain = true
 | 0, q, hq => pLeaf_plain _ _
 | f + 1, q, hq => by
  have a1 := pRx_plain f hq.tail
  have a2 := pRx_plain f (pRx_ok f hq.tail).2.1
  have t1 := pRx_tidy f hq.tail
  have t2 := pRx_tidy f (pRx_ok f hq.tail).2.1
  have hl : Rx.plainL [(pRx f q.tail).1, (pRx f (pRx f q.tail).2).1] = true := by simp [Rx.plainL, a1, a2]
  have htl : Rx.tidyL [(pRx f q.tail).1, (pRx f (pRx f q.tail).2).1] := ⟨t1, t2, trivial⟩
  simp only [pRx]
  split
  ·exact pLeaf_plain _ _
  ·split
   ·exact catR_plain hl
   ·split
    ·exact altR_plain htl hl
    ·have h8 := starR_plain t1 a1
     dsimp only
     generalize starR (pRx f q.tail).1 = z at h8 ⊢
     exact h8
/-! ### the empty word -/
mutual
theorem null_lang : ∀ r : Rx, r.null = true ↔ r.lang []
 | .mk k s l => by
  have ha := nullA_lang l
  have he := nullE_lang l
  rw [Rx.null, Rx.lang]
  by_cases h2 : k = 2
  ·simp [h2]
  ·by_cases h6 : k = 6
   ·simp [h6, Star.nil]
   ·by_cases h4 : k = 4
    ·simp [h4, ha]
    ·by_cases h5 : k = 5
     ·simp [h5, he]
     ·simp [h2, h6, h4, h5]
theorem nullA_lang : ∀ l : List Rx, Rx.nullA l = true ↔ Rx.langCat l []
 | [] => by rw [Rx.nullA, langCat_nil]; simp
 | a :: t => by
  rw [Rx.nullA, Bool.and_eq_true, null_lang a, nullA_lang t, langCat_cons]
  constructor
  ·rintro ⟨h1, h2⟩; exact ⟨[], [], rfl, h1, h2⟩
  ·rintro ⟨u, v, h, h1, h2⟩
   obtain ⟨rfl, rfl⟩ := List.append_eq_nil_iff.1 h.symm
   exact ⟨h1, h2⟩
theorem nullE_lang : ∀ l : List Rx, Rx.nullE l = true ↔ Rx.langAlt l []
 | [] => by rw [Rx.nullE]; simp [langAlt_nil]
 | a :: t => by rw [Rx.nullE, Bool.or_eq_true, null_lang a, nullE_lang t, langAlt_cons]
end
/-! ### a plain one that is not none speaks -/
mutual
theorem some_plain : ∀ r : Rx, r.plain = true → r.kind ≠ 1 → r.some = true
 | .mk k s l, h, hk => by
  have hr := plain_right h
  have hp : Rx.plainL l = true := (Rx.plainL_iff _).2 (plain_args h)
  have hkk := right_kinds hr
  simp only [Rx.kind, Rx.set, Rx.args] at hr hk hkk
  rw [Rx.some]
  by_cases h26 : k = 2 ∨ k = 6
  ·rw [if_pos h26]
  ·rw [if_neg h26]
   by_cases h3 : k = 3
   ·rw [if_pos h3]
    have := (plain_setR h h3).2
    simp only [Rx.set] at this
    simp [this]
   ·rw [if_neg h3]
    by_cases h4 : k = 4
    ·rw [if_pos h4]
     exact someA_plain l hp fun a ha e => (plain_cat h h4).2 a ha (by simp [e])
    ·rw [if_neg h4, if_pos (by omega)]
     have := plain_alt h (show (Rx.mk k s l).kind = 5 by show k = 5; omega)
     simp only [Rx.args] at this
     exact someE_plain l hp (fun a ha e => this.2.1 a ha (by simp [e])) (by intro e; rw [e] at this; simp at this)
theorem someA_plain : ∀ l : List Rx, Rx.plainL l = true → (∀ a ∈ l, a.kind ≠ 1) → Rx.someA l = true
 | [], _, _ => rfl
 | a :: t, h, hk => by
  simp only [Rx.plainL, Bool.and_eq_true] at h
  rw [Rx.someA, some_plain a h.1 (hk a (by simp)), someA_plain t h.2 fun x hx => hk x (by simp [hx])]
  rfl
theorem someE_plain : ∀ l : List Rx, Rx.plainL l = true → (∀ a ∈ l, a.kind ≠ 1) → l ≠ [] → Rx.someE l = true
 | [], _, _, hne => absurd rfl hne
 | a :: t, h, hk, _ => by
  simp only [Rx.plainL, Bool.and_eq_true] at h
  rw [Rx.someE, some_plain a h.1 (hk a (by simp))]
  rfl
end
end
section
open Go.RowKit
theorem setAt_self : ∀ {es : List Ent} {id : Nat} {x : Ent}, at_ es id = some x → setAt es id x = es
 | [], _, _, h => by simp [at_] at h
 | y :: t, id, x, h => by
  simp only [at_] at h
  simp only [setAt]
  split
  ·rename_i e
   rw [if_pos e] at h
   injection h with h
   rw [h]
  ·rename_i e
   rw [if_neg e] at h
   rw [setAt_self h]
section
variable {P : Program} {w0 : World} {N : Nat} {f : Frame} {es : List Ent} {K : Frame → List Ent → Prop}
variable {d : Nat} {ty : TypeId} {pos : String} {aft : Array Edge} {g : Option (Nat × Bool)} {x y z : Operand} {a : AV}
/-! ### the tail of a row of one's own -/
/-- s[k:] -/
theorem o_slice_tail {t e sz id s k : Nat} {lo : Option Operand} {rows : List (List AV)} {C : Ent → List Ent} (hx : ev f x = .own id s) (he : Loc es id (.row s e sz rows) C) (ht : sliceB P t e sz = true) (hlo : Bnd f lo 0 k) (hk : k ≤ rows.length)
  (kk : K (upd f d (.tail id s k sz)) es) (hd : Nat.blt d N = true := by rfl) : AOp P w0 N ⟨some d, .slice t x lo none none, ty, pos, aft, g⟩ f es K := by
 refine op_look hd (fun c A ok rf => ?_) kk
 have hrep := hx ▸ rep_ev rf x
 have hvx := rep_own hrep he.1
 have hlt := (ok.ent id _ he.1).1
 obtain ⟨B, cap, hvs, hcap⟩ := own_slice ok he.1 hrep
 have hhi : Bnd f (none : Option Operand) rows.length rows.length := rfl
 have hbd := run_sliceBounds (P := P) rf hlo hhi hk hcap true c.w
 simp only [Option.map_none] at hbd
 unfold sliceB at ht
 split at ht
 ·rename_i e' i' hu hi'
  simp only [Bool.and_eq_true, beq_iff_eq] at ht
  obtain ⟨rfl, rfl⟩ := ht
  refine ⟨.slice (if cap = k then B else B.map (·.add (k * i'.size))) (rows.length - k) (cap - k), ?_, ?_⟩
  ·simp only [execOp, hvs, Instr.sliceAt, Instr.slice, Sem.run_bind, run_underlying hu, Result.andThen_ok, Option.map_none, hbd, sizeOf, typeInfo, run_program, hi', Sem.run_pure]
  ·simp only [Rep]
   refine ⟨es, rfl, ⟨_, _, _, rfl⟩, hlt, fun e2 rows2 h2 => ?_⟩
   rw [he.1] at h2
   injection h2 with h2
   injection h2 with _ _ _ h3
   subst h3
   refine ⟨hk, _, _, rfl, fun hkl => ?_⟩
   rw [hvx] at hvs
   cases hp : c.phi id with
   | none =>
    obtain ⟨_, _, _, xs, hr, hown⟩ := ok.ent id _ he.1
    rw [hp] at hown
    rcases hown.2 with ⟨_, h6⟩ | ⟨_, _, _, h6, _⟩
    ·omega
    ·cases h6
   | some q =>
    obtain ⟨gb, cap'⟩ := q
    rw [hp] at hvs
    simp only [ownVal, Value.slice.injEq] at hvs
    obtain ⟨rfl, _, rfl⟩ := hvs
    refine ⟨gb, cap', rfl, ?_⟩
    rw [if_neg (by omega)]
    simp [add_eq]
 ·cases ht
theorem rep_tail {c : Core} {id s e sz k : Nat} {rows : List (List AV)} {v : Value} (h : Rep c (some es) (.tail id s k sz) v) (he : at_ es id = some (.row s e sz rows)) :
  k ≤ rows.length ∧ ∃ A cp, v = .slice A (rows.length - k) cp ∧ (k < rows.length → ∃ g cap, c.phi id = some (g, cap) ∧ A = some ⟨g, k * sz, none⟩) := by
 simp only [Rep] at h
 obtain ⟨es', h1, _, _, h2⟩ := h
 injection h1 with h1
 subst h1
 exact h2 _ _ he
theorem o_len_tail {t e' sz' id s e sz k : Nat} {rows : List (List AV)} {C : Ent → List Ent} (hx : ev f x = .tail id s k sz) (he : Loc es id (.row s e sz rows) C) (ht : sliceB P t e' sz' = true) (ha : .int .i64 ((rows.length - k : Nat) : Int) = a) (kk : K (upd f d a) es) (hd : Nat.blt d N = true := by rfl) :
  AOp P w0 N ⟨some d, .call { callee := .builtin .len, args := #[x], argTypes := #[t] }, ty, pos, aft, g⟩ f es K := by
 refine op_look hd (fun c A ok rf => ?_) kk
 have h := rep_ev rf x
 rw [hx] at h
 obtain ⟨_, B, cap, hv, _⟩ := rep_tail h he.1
 refine ⟨.int .i64 ((rows.length - k : Nat) : Int), ?_, by rw [← ha]; simp only [Rep]⟩
 simp [execOp, resolve, invoke, builtin, hv, run_len_slice ht]
theorem o_indexAddr_tail {t : TypeId} {e sz id s k : Nat} {rows : List (List AV)} {C : Ent → List Ent} {k' : IntKind} {ix : Int} (hx : ev f x = .tail id s k sz) (hy : ev f y = .int k' ix) (he : Loc es id (.row s e sz rows) C) (ht : sliceB P t e sz = true) (h0 : 0 ≤ ix) (h1 : k + ix.toNat < rows.length)
  (ho : .ptr id s (k + ix.toNat) 0 = a) (kk : K (upd f d a) es) (hd : Nat.blt d N = true := by rfl) : AOp P w0 N ⟨some d, .indexAddr t x y, ty, pos, aft, g⟩ f es K := by
 refine op_look hd (fun c A ok rf => ?_) kk
 have h := rep_ev rf x
 rw [hx] at h
 have hiy := ev_int rf hy
 obtain ⟨_, B, cp, hv, hB⟩ := rep_tail h he.1
 have hlt := (ok.ent id _ he.1).1
 obtain ⟨gb, cap, hp, hB⟩ := hB (by omega)
 subst hB
 have h2 : ix < ((rows.length - k : Nat) : Int) := by omega
 unfold sliceB at ht
 split at ht
 ·rename_i e' i' hu hi
  simp only [Bool.and_eq_true, beq_iff_eq] at ht
  obtain ⟨rfl, rfl⟩ := ht
  refine ⟨.pointer (some ⟨gb, k * i'.size + (ix.toNat * i'.size), none⟩), ?_, ?_⟩
  ·simp only [execOp, hv, hiy, Instr.indexAt, asIntOf, Sem.run_bind, Sem.run_pure, Result.andThen_ok, run_underlying hu, Sem.run_ite, h0, h2, and_self, if_true, sizeOf, typeInfo, run_program, hi, add_eq]
  ·rw [← ho]
   simp only [Rep]
   refine ⟨es, rfl, ⟨_, rfl⟩, hlt, fun e2 sz2 rows2 h2 => ?_⟩
   rw [he.1] at h2
   injection h2 with h2
   injection h2 with _ _ h3 _
   subst h3
   exact ⟨gb, cap, hp, by rw [Nat.add_mul, Nat.add_zero]⟩
 ·cases ht
/-- clear(s[k:]) -/
theorem o_clear_tail {t e sz id s k : Nat} {rows : List (List AV)} {zl : List AV} {C : Ent → List Ent} (hx : ev f x = .tail id s k sz) (he : Loc es id (.row s e sz rows) C) (ht : sliceB P t e sz = true) (hz : zeroAVs P e = some zl) (hzl : zl.length = sz) (hsz : 0 < sz)
  (kk : K f (C (.row s e sz (rows.take k ++ List.replicate (rows.length - k) zl)))) : AOp P w0 N ⟨none, .call { callee := .builtin .clear, args := #[x], argTypes := #[t] }, ty, pos, aft, g⟩ f es K := by
 intro c A next Q ok rf hn
 have h := rep_ev rf x
 rw [hx] at h
 obtain ⟨hk, B, cp, hv, hB⟩ := rep_tail h he.1
 obtain ⟨zv, hrun, hzv, hone⟩ := zero_run hz c.w
 have hcs : zv.cells.size = sz := by rw [← Array.length_toList, ← hzl, ← hzv, List.length_map]
 have hreps : Reps c (some es) zl zv.cells.toList := hzv ▸ reps_const c _ _
 have fin : ∀ c' es', (execOp A.eval ⟨none, .call { callee := .builtin .clear, args := #[x], argTypes := #[t] }, ty, pos, aft, g⟩).run P c.w = .ok (.value (.tuple #[])) c'.w → Ext c es c' es' → Ok w0 c' es' → K f es' → Oper.wp P ⟨none, .call { callee := .builtin .clear, args := #[x], argTypes := #[t] }, ty, pos, aft, g⟩ A c.w next Q := by
  intro c' es' hr x1 ok' k1
  simp only [Oper.wp, hr, Oper.upon]
  exact hn c' es' f _ x1 ok' (rf.ext x1) k1
 unfold sliceB at ht
 split at ht
 ·rename_i e' i' hu hi
  simp only [Bool.and_eq_true, beq_iff_eq] at ht
  obtain ⟨rfl, hi1⟩ := ht
  by_cases h0 : rows.length - k = 0
  ·refine fin c es ?_ (Ext.refl c es) ok ?_
   ·rw [h0] at hv
    cases B with
    | none => simp [execOp, resolve, invoke, builtin, hv, Builtin.clear_, run_underlying hu]
    | some p => simp [execOp, resolve, invoke, builtin, hv, Builtin.clear_, run_underlying hu]
   ·rw [h0, List.replicate_zero, List.append_nil, List.take_of_length_le (by omega)] at kk
    rwa [← he.2, show setAt es id (.row s e' sz rows) = es from setAt_self he.1] at kk
  ·obtain ⟨gb, cap, hp, hB⟩ := hB (by omega)
   subst hB
   obtain ⟨xs, cur, h4, hheap, hcap, hcm, hsz2, htake, h5⟩ := own_cells ok he.1 hp
   have hxl := h4.length
   have hcl : cur.toList.length = cap * sz := by rw [Array.length_toList, hsz2]
   have hzc : (Builtin.zeroCells zv.cells (rows.length - k)).toList = (List.replicate (rows.length - k) zv.cells.toList).flatten := zeros_list zv.cells (by omega) _
   have hfl : ∀ n : Nat, ((List.replicate n zv.cells.toList).flatten).length = n * sz := by
    intro n
    induction n with
    | zero => simp
    | succ n ih => rw [List.replicate_succ, List.flatten_cons, List.length_append, ih, Array.length_toList, hcs, Nat.succ_mul]; omega
   have hzl2 := hfl (rows.length - k)
   have hmul : k * sz + (rows.length - k) * sz = rows.length * sz := by rw [← Nat.add_mul]; congr 1; omega
   have hle : rows.length * sz ≤ cap * sz := Nat.mul_le_mul_right _ hcap
   have hst := run_storeCells_at P gb (k * sz) e' ((List.replicate (rows.length - k) zv.cells.toList).flatten) 0 cur c.w hheap (by rw [hzl2, Nat.add_zero, hmul, hsz2]; exact hle) (by
    intro v hv
    obtain ⟨l, hl, hv⟩ := List.mem_flatten.1 hv
    rw [List.eq_of_mem_replicate hl] at hv
    exact hone v hv)
   simp only [Nat.add_zero] at hst
   have hgr : c.w.grownBy (c.w.setRow gb (cur.toList.take (k * sz) ++ (List.replicate (rows.length - k) zv.cells.toList).flatten ++ cur.toList.drop (k * sz + ((List.replicate (rows.length - k) zv.cells.toList).flatten).length)).toArray) (ownVal (c.phi id) rows.length).ownBlock := by
    rw [hp]
    exact ⟨rfl, rfl, rfl, by simp, fun k _ hk => setRow_other c.w gb k _ (fun e => hk (by rw [own_block_some, e]))⟩
   have hrl : (rows.take k ++ List.replicate (rows.length - k) zl).length = rows.length := by rw [List.length_append, List.length_take, List.length_replicate]; omega
   have hrows : RepRows c (some es) sz (rows.take k ++ List.replicate (rows.length - k) zl) (xs.take (k * sz) ++ (List.replicate (rows.length - k) zv.cells.toList).flatten) := by
    refine (h4.take k).append ?_
    rw [← hzl]
    exact rep_zrows hreps hone _
   have hcurx : cur.toList.take (k * sz) = xs.take (k * sz) := by
    rw [← htake, List.take_take, Nat.min_eq_left (Nat.mul_le_mul_right _ hk)]
   have hown : (c.w.setRow gb (cur.toList.take (k * sz) ++ (List.replicate (rows.length - k) zv.cells.toList).flatten ++ cur.toList.drop (k * sz + ((List.replicate (rows.length - k) zv.cells.toList).flatten).length)).toArray).ownsRow 0 e' sz (ownVal (some (gb, cap)) (rows.take k ++ List.replicate (rows.length - k) zl).length) (rows.take k ++ List.replicate (rows.length - k) zl).length (xs.take (k * sz) ++ (List.replicate (rows.length - k) zv.cells.toList).flatten) :=
    ⟨by rw [hrows.length], .inr ⟨gb, cap, _, rfl, Nat.zero_le _, setRow_heap c.w gb cur _ e' _ hheap, by rw [hrl]; exact hcap, hcm, by
     simp only [List.size_toArray, List.length_append, List.length_take, List.length_drop, hzl2]
     rw [hcl]
     have : k * sz ≤ rows.length * sz := Nat.mul_le_mul_right _ hk
     omega, by
     rw [hrl, hcurx]
     refine List.take_left' ?_
     rw [List.length_append, List.length_take, hzl2, hxl]
     have : k * sz ≤ rows.length * sz := Nat.mul_le_mul_right _ hk
     omega⟩⟩
   have hm := (ok.ent id _ he.1).2.1
   refine fin (c.turn _ id (some (gb, cap))) (setAt es id (.row s e' sz (rows.take k ++ List.replicate (rows.length - k) zl))) ?_ (ext_turn ok he.1 hgr (.inr ⟨rfl, hrl, hp.symm⟩)) (ok_turn ok he.1 hgr (.inr ⟨rfl, hrl, hp.symm⟩) (.inl (by rw [hp]; rfl)) (by rw [hrl]; exact hm) hrows hown) (by rw [he.2]; exact kk)
   show (execOp A.eval _).run P c.w = .ok _ (c.w.setRow gb _)
   obtain ⟨q, hq⟩ : ∃ q, rows.length - k = q + 1 := ⟨rows.length - k - 1, by omega⟩
   rw [hq] at hv hzc hst ⊢
   simp [execOp, resolve, invoke, builtin, hv, Builtin.clear_, run_underlying hu, hrun, hzc, hst]
 ·cases ht
end
end
section
open Go.RowKit
section
variable {P : Program} {w0 : World} {N : Nat} {f : Frame} {es : List Ent} {K : Frame → List Ent → Prop}
variable {d : Nat} {ty : TypeId} {pos : String} {aft : Array Edge} {g : Option (Nat × Bool)} {x y z : Operand} {a : AV}
theorem p_slicet {t e sz id s k : Nat} {lo : Option Operand} {rows : List (List AV)} {C : Ent → List Ent} (ht : sliceB P t e sz = true) (kk : K (upd f d (.tail id s k sz)) es) (hx : ev f x = .own id s := by simp only [ev_tmp, ev_const, ev_func, ofConst_int, ofConst_bool, ofConst_str, ofConst_nil, upd_apply, Nat.reduceEqDiff, ↓reduceIte] <;> exact rfl) (he : Loc es id (.row s e sz rows) C := by first | exact loc_hit | exact (loc_miss loc_hit) | exact (loc_miss (loc_miss loc_hit)) | exact (loc_miss (loc_miss (loc_miss loc_hit))) | exact (loc_miss (loc_miss (loc_miss (loc_miss loc_hit)))) | exact (loc_miss (loc_miss (loc_miss (loc_miss (loc_miss loc_hit))))) | exact (loc_miss (loc_miss (loc_miss (loc_miss (loc_miss (loc_miss loc_hit)))))) | exact (loc_miss (loc_miss (loc_miss (loc_miss (loc_miss (loc_miss (loc_miss loc_hit))))))) | exact (loc_miss (loc_miss (loc_miss (loc_miss (loc_miss (loc_miss (loc_miss (loc_miss loc_hit)))))))) | exact (loc_base (by assumption)) | exact (loc_miss (loc_base (by assumption))) | exact (loc_miss (loc_miss (loc_base (by assumption)))) | exact (loc_miss (loc_miss (loc_miss (loc_base (by assumption))))) | exact (loc_miss (loc_miss (loc_miss (loc_miss (loc_base (by assumption)))))) | exact (loc_miss (loc_miss (loc_miss (loc_miss (loc_miss (loc_base (by assumption))))))) | exact (loc_miss (loc_miss (loc_miss (loc_miss (loc_miss (loc_miss (loc_base (by assumption)))))))) | exact (loc_miss (loc_miss (loc_miss (loc_miss (loc_miss (loc_miss (loc_miss (loc_base (by assumption))))))))) | exact (loc_miss (loc_miss (loc_miss (loc_miss (loc_miss (loc_miss (loc_miss (loc_miss (loc_base (by assumption))))))))))) (hlo : Bnd f lo 0 k := by first | exact rfl | (refine ⟨.i64, ?_⟩; simp only [ev_tmp, ev_const, ev_func, ofConst_int, ofConst_bool, ofConst_str, ofConst_nil, upd_apply, Nat.reduceEqDiff, ↓reduceIte] <;> first | exact rfl | (congr 1; omega))) (hk : k ≤ rows.length := by first | omega | (simp only [List.length_map]; omega)) (hd : Nat.blt d N = true := by exact rfl) : AOp P w0 N ⟨some d, .slice t x lo none none, ty, pos, aft, g⟩ f es K := o_slice_tail hx he ht hlo hk kk hd
theorem p_lent {t e' sz' id s e sz k : Nat} {rows : List (List AV)} {C : Ent → List Ent} (ht : sliceB P t e' sz' = true) (kk : K (upd f d a) es) (hx : ev f x = .tail id s k sz := by simp only [ev_tmp, ev_const, ev_func, ofConst_int, ofConst_bool, ofConst_str, ofConst_nil, upd_apply, Nat.reduceEqDiff, ↓reduceIte] <;> exact rfl) (he : Loc es id (.row s e sz rows) C := by first | exact loc_hit | exact (loc_miss loc_hit) | exact (loc_miss (loc_miss loc_hit)) | exact (loc_miss (loc_miss (loc_miss loc_hit))) | exact (loc_miss (loc_miss (loc_miss (loc_miss loc_hit)))) | exact (loc_miss (loc_miss (loc_miss (loc_miss (loc_miss loc_hit))))) | exact (loc_miss (loc_miss (loc_miss (loc_miss (loc_miss (loc_miss loc_hit)))))) | exact (loc_miss (loc_miss (loc_miss (loc_miss (loc_miss (loc_miss (loc_miss loc_hit))))))) | exact (loc_miss (loc_miss (loc_miss (loc_miss (loc_miss (loc_miss (loc_miss (loc_miss loc_hit)))))))) | exact (loc_base (by assumption)) | exact (loc_miss (loc_base (by assumption))) | exact (loc_miss (loc_miss (loc_base (by assumption)))) | exact (loc_miss (loc_miss (loc_miss (loc_base (by assumption))))) | exact (loc_miss (loc_miss (loc_miss (loc_miss (loc_base (by assumption)))))) | exact (loc_miss (loc_miss (loc_miss (loc_miss (loc_miss (loc_base (by assumption))))))) | exact (loc_miss (loc_miss (loc_miss (loc_miss (loc_miss (loc_miss (loc_base (by assumption)))))))) | exact (loc_miss (loc_miss (loc_miss (loc_miss (loc_miss (loc_miss (loc_miss (loc_base (by assumption))))))))) | exact (loc_miss (loc_miss (loc_miss (loc_miss (loc_miss (loc_miss (loc_miss (loc_miss (loc_base (by assumption))))))))))) (ha : .int .i64 ((rows.length - k : Nat) : Int) = a := by exact rfl) (hd : Nat.blt d N = true := by exact rfl) : AOp P w0 N ⟨some d, .call { callee := .builtin .len, args := #[x], argTypes := #[t] }, ty, pos, aft, g⟩ f es K := o_len_tail hx he ht ha kk hd
theorem p_ixt {t : TypeId} {e sz id s k : Nat} {rows : List (List AV)} {C : Ent → List Ent} {k' : IntKind} {ix : Int} (ht : sliceB P t e sz = true) (kk : K (upd f d a) es) (hx : ev f x = .tail id s k sz := by simp only [ev_tmp, ev_const, ev_func, ofConst_int, ofConst_bool, ofConst_str, ofConst_nil, upd_apply, Nat.reduceEqDiff, ↓reduceIte] <;> exact rfl) (hy : ev f y = .int k' ix := by simp only [ev_tmp, ev_const, ev_func, ofConst_int, ofConst_bool, ofConst_str, ofConst_nil, upd_apply, Nat.reduceEqDiff, ↓reduceIte] <;> exact rfl) (he : Loc es id (.row s e sz rows) C := by first | exact loc_hit | exact (loc_miss loc_hit) | exact (loc_miss (loc_miss loc_hit)) | exact (loc_miss (loc_miss (loc_miss loc_hit))) | exact (loc_miss (loc_miss (loc_miss (loc_miss loc_hit)))) | exact (loc_miss (loc_miss (loc_miss (loc_miss (loc_miss loc_hit))))) | exact (loc_miss (loc_miss (loc_miss (loc_miss (loc_miss (loc_miss loc_hit)))))) | exact (loc_miss (loc_miss (loc_miss (loc_miss (loc_miss (loc_miss (loc_miss loc_hit))))))) | exact (loc_miss (loc_miss (loc_miss (loc_miss (loc_miss (loc_miss (loc_miss (loc_miss loc_hit)))))))) | exact (loc_base (by assumption)) | exact (loc_miss (loc_base (by assumption))) | exact (loc_miss (loc_miss (loc_base (by assumption)))) | exact (loc_miss (loc_miss (loc_miss (loc_base (by assumption))))) | exact (loc_miss (loc_miss (loc_miss (loc_miss (loc_base (by assumption)))))) | exact (loc_miss (loc_miss (loc_miss (loc_miss (loc_miss (loc_base (by assumption))))))) | exact (loc_miss (loc_miss (loc_miss (loc_miss (loc_miss (loc_miss (loc_base (by assumption)))))))) | exact (loc_miss (loc_miss (loc_miss (loc_miss (loc_miss (loc_miss (loc_miss (loc_base (by assumption))))))))) | exact (loc_miss (loc_miss (loc_miss (loc_miss (loc_miss (loc_miss (loc_miss (loc_miss (loc_base (by assumption))))))))))) (h0 : 0 ≤ ix := by omega) (h1 : k + ix.toNat < rows.length := by first | omega | (simp only [List.length_map]; omega)) (ho : .ptr id s (k + ix.toNat) 0 = a := by exact rfl) (hd : Nat.blt d N = true := by exact rfl) : AOp P w0 N ⟨some d, .indexAddr t x y, ty, pos, aft, g⟩ f es K := o_indexAddr_tail hx hy he ht h0 h1 ho kk hd
theorem p_cleart {t e sz id s k : Nat} {rows : List (List AV)} {zl : List AV} {C : Ent → List Ent} (ht : sliceB P t e sz = true) (hz : zeroAVs P e = some zl) (kk : K f (C (.row s e sz (rows.take k ++ List.replicate (rows.length - k) zl)))) (hzl : zl.length = sz := by exact rfl) (hsz : 0 < sz := by decide) (hx : ev f x = .tail id s k sz := by simp only [ev_tmp, ev_const, ev_func, ofConst_int, ofConst_bool, ofConst_str, ofConst_nil, upd_apply, Nat.reduceEqDiff, ↓reduceIte] <;> exact rfl) (he : Loc es id (.row s e sz rows) C := by first | exact loc_hit | exact (loc_miss loc_hit) | exact (loc_miss (loc_miss loc_hit)) | exact (loc_miss (loc_miss (loc_miss loc_hit))) | exact (loc_miss (loc_miss (loc_miss (loc_miss loc_hit)))) | exact (loc_miss (loc_miss (loc_miss (loc_miss (loc_miss loc_hit))))) | exact (loc_miss (loc_miss (loc_miss (loc_miss (loc_miss (loc_miss loc_hit)))))) | exact (loc_miss (loc_miss (loc_miss (loc_miss (loc_miss (loc_miss (loc_miss loc_hit))))))) | exact (loc_miss (loc_miss (loc_miss (loc_miss (loc_miss (loc_miss (loc_miss (loc_miss loc_hit)))))))) | exact (loc_base (by assumption)) | exact (loc_miss (loc_base (by assumption))) | exact (loc_miss (loc_miss (loc_base (by assumption)))) | exact (loc_miss (loc_miss (loc_miss (loc_base (by assumption))))) | exact (loc_miss (loc_miss (loc_miss (loc_miss (loc_base (by assumption)))))) | exact (loc_miss (loc_miss (loc_miss (loc_miss (loc_miss (loc_base (by assumption))))))) | exact (loc_miss (loc_miss (loc_miss (loc_miss (loc_miss (loc_miss (loc_base (by assumption)))))))) | exact (loc_miss (loc_miss (loc_miss (loc_miss (loc_miss (loc_miss (loc_miss (loc_base (by assumption))))))))) | exact (loc_miss (loc_miss (loc_miss (loc_miss (loc_miss (loc_miss (loc_miss (loc_miss (loc_base (by assumption))))))))))) : AOp P w0 N ⟨none, .call { callee := .builtin .clear, args := #[x], argTypes := #[t] }, ty, pos, aft, g⟩ f es K := o_clear_tail hx he ht hz hzl hsz kk
end
end
section
open Go.Proofs Go.Shelf
def sortRen : Go.Shelf.Ren := ⟨fun | 6 => 135 | 15 => 152 | 14 => 151 | 28 => 168 | 29 => 169 | 20 => 160 | 21 => 161 | 22 => 162 | 23 => 163 | 24 => 164 | 25 => 165 | 26 => 166 | 27 => 167 | 46 => 172 | 47 => 173 | 48 => 174 | 49 => 175 | 50 => 176 | 57 => 177 | n => n, fun | 22 => 27 | 24 => 29 | 25 => 130 | 3 => 3 | 39 => 147 | 0 => 0 | 53 => 163 | 55 => 24 | 4 => 4 | 46 => 157 | 45 => 156 | 50 => 132 | 5 => 5 | 9 => 9 | 66 => 165 | 70 => 169 | 76 => 172 | 77 => 95 | n => n, fun | n => n⟩
theorem sortLays : Go.Proofs.SlLaysF0.n6 Tryd.prog sortRen := {
 mixed := by kernel_rfl
 f6 := ⟨Tryd.f135.name, by decide, Tryd.func135.trans (congrArg some (by kernel_rfl))⟩
 f14 := ⟨Tryd.f151.name, by decide, Tryd.func151.trans (congrArg some (by kernel_rfl))⟩
 f15 := Tryd.func152.trans (congrArg some (by kernel_rfl))
 f20 := ⟨Tryd.f160.name, by decide, Tryd.func160.trans (congrArg some (by kernel_rfl))⟩
 f21 := ⟨Tryd.f161.name, by decide, Tryd.func161.trans (congrArg some (by kernel_rfl))⟩
 f22 := ⟨Tryd.f162.name, by decide, Tryd.func162.trans (congrArg some (by kernel_rfl))⟩
 f23 := ⟨Tryd.f163.name, by decide, Tryd.func163.trans (congrArg some (by kernel_rfl))⟩
 f24 := ⟨Tryd.f164.name, by decide, Tryd.func164.trans (congrArg some (by kernel_rfl))⟩
 f25 := ⟨Tryd.f165.name, by decide, Tryd.func165.trans (congrArg some (by kernel_rfl))⟩
 f26 := ⟨Tryd.f166.name, by decide, Tryd.func166.trans (congrArg some (by kernel_rfl))⟩
 f27 := ⟨Tryd.f167.name, by decide, Tryd.func167.trans (congrArg some (by kernel_rfl))⟩
 f28 := Tryd.func168.trans (congrArg some (by kernel_rfl))
 f29 := Tryd.func169.trans (congrArg some (by kernel_rfl))
 f46 := ⟨Tryd.f172.name, by decide, Tryd.func172.trans (congrArg some (by kernel_rfl))⟩
 f47 := Tryd.func173.trans (congrArg some (by kernel_rfl))
 f48 := Tryd.func174.trans (congrArg some (by kernel_rfl))
 f49 := ⟨Tryd.f175.name, by decide, Tryd.func175.trans (congrArg some (by kernel_rfl))⟩
 f50 := ⟨Tryd.f176.name, by decide, Tryd.func176.trans (congrArg some (by kernel_rfl))⟩
 f57 := ⟨Tryd.f177.name, by decide, Tryd.func177.trans (congrArg some (by kernel_rfl))⟩
 t0 := Tryd.underlying0
 a0 := Tryd.isAgg0
 z0 := Tryd.sizeOf0
 v0 := Tryd.zeroValue0
 t3 := Tryd.underlying3
 a3 := Tryd.isAgg3
 z3 := Tryd.sizeOf3
 v3 := Tryd.zeroValue3
 t4 := Tryd.underlying4
 a4 := Tryd.isAgg4
 z4 := Tryd.sizeOf4
 v4 := Tryd.zeroValue4
 t5 := Tryd.underlying5
 a5 := Tryd.isAgg5
 z5 := Tryd.sizeOf5
 v5 := Tryd.zeroValue5
 t9 := Tryd.underlying9
 a9 := Tryd.isAgg9
 z9 := Tryd.sizeOf9
 v9 := Tryd.zeroValue9
 t22 := Tryd.underlying27
 a22 := Tryd.isAgg27
 z22 := Tryd.sizeOf27
 v22 := Tryd.zeroValue27
 t25 := Tryd.underlying130
 a25 := Tryd.isAgg130
 z25 := Tryd.sizeOf130
 v25 := Tryd.zeroValue130
 t39 := Tryd.underlying147
 a39 := Tryd.isAgg147
 z39 := Tryd.sizeOf147
 v39 := Tryd.zeroValue147
 t45 := Tryd.underlying156
 a45 := Tryd.isAgg156
 z45 := Tryd.sizeOf156
 v45 := Tryd.zeroValue156
 t46 := Tryd.underlying157
 a46 := Tryd.isAgg157
 z46 := Tryd.sizeOf157
 v46 := Tryd.zeroValue157
 t50 := Tryd.underlying132
 a50 := Tryd.isAgg132
 z50 := Tryd.sizeOf132
 v50 := Tryd.zeroValue132
 t53 := Tryd.underlying163
 a53 := Tryd.isAgg163
 z53 := Tryd.sizeOf163
 v53 := Tryd.zeroValue163
 t55 := Tryd.underlying24
 a55 := Tryd.isAgg24
 z55 := Tryd.sizeOf24
 v55 := Tryd.zeroValue24
 t66 := Tryd.underlying165
 a66 := Tryd.isAgg165
 z66 := Tryd.sizeOf165
 v66 := Tryd.zeroValue165
 t70 := Tryd.underlying169
 a70 := Tryd.isAgg169
 z70 := Tryd.sizeOf169
 v70 := Tryd.zeroValue169
 t76 := Tryd.underlying172
 a76 := Tryd.isAgg172
 z76 := Tryd.sizeOf172
 v76 := Tryd.zeroValue172
 t77 := Tryd.underlying95
 a77 := Tryd.isAgg95
 z77 := Tryd.sizeOf95
 v77 := Tryd.zeroValue95 }
end
section
open Go.RowKit Go.Proofs Go.Sort

/-- An expression and the six cells that hold it. -/
structure RxV (c : Core) where
 r : Rx
 vs : List Value
 len : vs.length = 6
 one : ∀ v ∈ vs, v.oneCell' = true
 ok : r.ok
 tidy : r.tidy
 rep : Reps c none r.cells vs
def rxvCmp {c : Core} (x y : RxV c) : Int := x.r.cmp y.r
theorem rxv_swo (c : Core) : SWO (ltOf (rxvCmp (c := c))) := by
 have sw : ∀ x y : RxV c, y.r.cmp x.r = -(x.r.cmp y.r) := fun x y => Rx.cmp_swap _ _ x.tidy y.tidy
 have lt1 : ∀ x y : RxV c, ltOf (rxvCmp (c := c)) x y = true ↔ x.r.cmp y.r < 0 := fun x y => by unfold ltOf; rw [decide_eq_true_eq]; rfl
 have lt0 : ∀ x y : RxV c, ltOf (rxvCmp (c := c)) x y = false ↔ ¬ x.r.cmp y.r < 0 := fun x y => by unfold ltOf; rw [decide_eq_false_iff_not]; rfl
 refine ⟨fun x => ?_, fun x y z h1 h2 => ?_, fun x y z h1 h2 => ?_⟩
 ·rw [lt0, Rx.cmp_refl]; omega
 ·rw [lt1] at *
  have a := Rx.cmp_range x.r y.r
  have b := Rx.cmp_range y.r z.r
  rw [Rx.cmp_trans _ _ _ x.tidy y.tidy z.tidy (by omega) (by omega)]
  decide
 ·rw [lt0] at *
  intro h3
  have a := Rx.cmp_range x.r y.r
  have b := Rx.cmp_range y.r z.r
  have d := Rx.cmp_range x.r z.r
  have e1 := sw x y
  have e2 := sw y z
  have e3 := sw x z
  by_cases h0 : x.r.cmp y.r = 0
  ·have := Rx.cmp_eq _ _ x.tidy y.tidy h0
   rw [this] at h3
   omega
  ·by_cases h9 : y.r.cmp z.r = 0
   ·have := Rx.cmp_eq _ _ y.tidy z.tidy h9
    rw [← this] at h3 d
    omega
   ·have := Rx.cmp_trans _ _ _ z.tidy y.tidy x.tidy (by omega) (by omega)
    omega
theorem rows_rxv {c : Core} : ∀ {rs : List Rx} {xs : List Value}, (∀ r ∈ rs, r.ok ∧ r.tidy) → RepRows c none 6 (rs.map Rx.cells) xs → ∃ d : List (RxV c), d.map RxV.r = rs ∧ d.flatMap RxV.vs = xs
 | [], xs, _, h => by
  simp only [List.map_nil, RepRows] at h
  exact ⟨[], rfl, by simp [h]⟩
 | r :: t, xs, hr, h => by
  simp only [List.map_cons, RepRows] at h
  obtain ⟨v1, v2, rfl, hl, h1, ho, h2⟩ := h
  obtain ⟨d, hd1, hd2⟩ := rows_rxv (fun r h => hr r (List.mem_cons_of_mem _ h)) h2
  have hx := hr r (by simp)
  exact ⟨⟨r, v1, h1.length.trans hl, ho, hx.1, hx.2, h1⟩ :: d, by simp [hd1], by simp [hd2]⟩
theorem rxv_rows {c : Core} : ∀ d : List (RxV c), RepRows c none 6 ((d.map RxV.r).map Rx.cells) (d.flatMap RxV.vs)
 | [] => by simp [RepRows]
 | x :: d => by
  simp only [List.map_cons, List.flatMap_cons, RepRows]
  exact ⟨x.vs, _, rfl, by rw [← x.rep.length]; exact x.len, x.rep, x.one, rxv_rows d⟩
theorem flat_at {α : Type} [Inhabited α] {enc : α → List Value} {k : Nat} (hk : ∀ x, (enc x).length = k) (h0 : 0 < k) : ∀ (d : List α) (t : Nat), t < d.length * k → (d.flatMap enc)[t]? = some ((enc d[t / k]!)[t % k]!)
 | [], t, h => by simp at h
 | x :: d, t, h => by
  rw [List.flatMap_cons]
  by_cases ht : t < k
  ·rw [List.getElem?_append_left (by rw [hk]; exact ht), Nat.div_eq_of_lt ht, Nat.mod_eq_of_lt ht, List.getElem?_eq_getElem (by rw [hk]; exact ht)]
   simp [List.getElem!_eq_getElem?_getD, List.getElem?_eq_getElem (show t < (enc x).length by rw [hk]; exact ht)]
  ·rw [List.length_cons, Nat.succ_mul] at h
   have h2 : t - k < d.length * k := by omega
   rw [List.getElem?_append_right (by rw [hk]; omega), hk, flat_at hk h0 d (t - k) h2, Nat.div_eq_sub_div h0 (show k ≤ t by omega), Nat.mod_eq_sub_mod (show k ≤ t by omega)]
   simp
theorem flatK_list {α : Type} [Inhabited α] {enc : α → List Value} {k : Nat} (hk : ∀ x, (enc x).length = k) (h0 : 0 < k) (d : List α) : (flatK enc k d.toArray).toList = d.flatMap enc := by
 refine List.ext_getElem? fun t => ?_
 have hlen : (d.flatMap enc).length = d.length * k := by
  induction d with
  | nil => simp
  | cons x d ih => rw [List.flatMap_cons, List.length_append, hk, ih, List.length_cons, Nat.succ_mul]; omega
 by_cases h : t < d.length * k
 ·rw [flat_at hk h0 d t h]
  have := get_flatK enc k d.toArray t (by simpa using h)
  have hs : t < (flatK enc k d.toArray).size := by simpa using h
  rw [getElem!_pos (flatK enc k d.toArray) t hs] at this
  rw [Array.getElem?_toList, Array.getElem?_eq_getElem hs, this]
  simp
 ·rw [List.getElem?_eq_none (by simp; omega), List.getElem?_eq_none (by omega)]
theorem heap_putRow {w : World} {g m : Nat} {os : Array Obj} {F cur : Array Value} {e : TypeId} (hb : w.heap[g]? = some (.cells cur e)) :
  (grow (putRow id (Sort.ahead w m) g 0 F) os).heap[g]? = some (.cells (putCells id 0 F cur) e) := by
 have hlt : g < w.heap.size := (Array.getElem?_eq_some_iff.1 hb).1
 rw [heap_grow_old _ _ (by simpa using hlt)]
 simp [putRow, mapBlock, Sort.ahead, Array.getElem?_modify, hb, onCells]
theorem heap_putRow_ne {w : World} {g m b : Nat} {os : Array Obj} {F : Array Value} (hb : b < w.heap.size) (hne : b ≠ g) :
  (grow (putRow id (Sort.ahead w m) g 0 F) os).heap[b]? = w.heap[b]? := by
 rw [heap_grow_old _ _ (by simpa using hb)]
 simp [putRow, mapBlock, Sort.ahead, Array.getElem?_modify, Ne.symm hne]
theorem take_putCells {F cur : Array Value} (h : F.size ≤ cur.size) : (putCells id 0 F cur).toList.take F.size = F.toList := by
 refine List.ext_getElem? fun t => ?_
 by_cases ht : t < F.size
 ·rw [List.getElem?_take, if_pos ht, Array.getElem?_toList, Array.getElem?_toList]
  simp only [putCells, Array.getElem?_mapIdx, Nat.zero_le, true_and, Nat.zero_add, id, Nat.sub_zero, if_pos ht]
  rw [Array.getElem?_eq_getElem (show t < cur.size by omega), Array.getElem?_eq_getElem ht, getElem!_pos F t ht]
  rfl
 ·rw [List.getElem?_take, if_neg ht, List.getElem?_eq_none (by simp; omega)]
/-- A world above another that kept its blocks is it with draws and new blocks. -/
theorem grow_of {w w' : World} (hb : Below w.heap.size w w') (hd : w.drawn ≤ w'.drawn) : ∃ q os, w' = grow (w.drewN q) os := by
 refine ⟨w'.drawn - w.drawn, w'.heap.extract w.heap.size w'.heap.size, ?_⟩
 obtain ⟨h1, h2, h3, h4, h5⟩ := hb
 cases w' with
 | mk heap tape drawn os output =>
  simp only at h1 h2 h3 h4 h5 hd ⊢
  simp only [grow, World.drewN]
  congr 1
  ·refine Array.ext_getElem? fun t => ?_
   by_cases ht : t < w.heap.size
   ·rw [Array.getElem?_append_left ht]
    exact h5 t ht
   ·rw [Array.getElem?_append_right (by omega), Array.getElem?_extract]
    by_cases h9 : t < heap.size
    ·rw [if_pos (by omega)]; congr 1; omega
    ·rw [if_neg (by omega), Array.getElem?_eq_none (by omega)]
  ·omega
end
section
open Go.RowKit Go.Proofs Go.Sort

theorem cmp_lays {w0 : World} (hT : Tab w0) {c : Core} {es : List Ent} (ok : Ok w0 c es) {g : Nat} (hg : g < c.w.heap.size) (hf : ¬ c.fro g) [Inhabited (RxV c)] (n : Nat) :
  CmpLays Tryd.prog 136 #[] (RxV.vs (c := c)) 6 rxvCmp g 0 n c.w := by
 intro m os dk hdk x y
 have hsz : c.w.heap.size ≤ (sortWorldK (RxV.vs (c := c)) 6 c.w g 0 m dk os).heap.size := by simp [sortWorldK, putRowK]
 have hbl : ∀ b, c.fro b → (sortWorldK (RxV.vs (c := c)) 6 c.w g 0 m dk os).heap[b]? = c.w.heap[b]? := fun b hb => heap_putRow_ne (ok.lt b hb) (fun e => hf (e ▸ hb))
 generalize hW : sortWorldK (RxV.vs (c := c)) 6 c.w g 0 m dk os = W at hsz hbl ⊢
 have hTW : Tab W := by
  have h0 := ok.old 0 hT.1
  refine ⟨Nat.lt_of_lt_of_le (ok.lt 0 h0) hsz, fun i hi => ?_⟩
  rw [← hT.now ok hi]
  unfold World.cell?
  simp only [hbl 0 h0]
 have okW : Ok W ⟨W, fun _ => none, c.now, fun b => b < W.heap.size⟩ [] := by
  refine ⟨Below.refl _ _, fun _ h => h, fun _ h => h, fun id x h => ?_, fun i j s e sz rows s' e' sz' rows' g cap cap' h => ?_, fun i j s kvs s' kvs' g cap cap' h => ?_⟩ <;> simp [at_] at h
 have hx : ∀ x : RxV c, Reps (⟨W, fun _ => none, c.now, fun b => b < W.heap.size⟩ : Core) none x.r.cells x.vs := fun x =>
  Reps.ext _ (show ExtM c none _ none from ⟨Nat.le_refl _, fun b hb => ⟨Nat.lt_of_lt_of_le (ok.lt b hb) hsz, hbl b hb⟩⟩) x.rep
 have h := rxCompare hTW _ x.r y.r [] (Nat.le_refl _) x.ok y.ok ⟨W, fun _ => none, c.now, fun b => b < W.heap.size⟩ (#[Value.agg x.vs.toArray, Value.agg y.vs.toArray] ++ #[]) okW (by
  simp only [Array.append_empty, Reps, Rep]
  exact ⟨_, _, rfl, ⟨_, rfl, (hx x).up _, x.one⟩, _, _, rfl, ⟨_, rfl, (hx y).up _, y.one⟩, rfl⟩)
 refine h.mono fun e w' => ?_
 rintro ⟨v, c', es', r, h1, h2, h3, h4, h5, rfl, rfl⟩
 simp only [Rep] at h5
 subst h1 h5 h2
 refine ⟨rfl, grow_of ⟨h4.below.os, h4.below.tape, h4.below.output, h4.below.size, fun k hk => (h3.fro k hk).2⟩ h3.drawn⟩
theorem isAgg29 (w : World) : (isAgg 29).run Tryd.prog w = .ok true w := Tryd.isAgg29 w
theorem sizeOf29 (w : World) : (sizeOf 29).run Tryd.prog w = .ok 6 w := Tryd.sizeOf29 w
theorem callFunc_enter {P : Program} {g : Nat} (h : enterB P g = true) (args : Array Value) (w : World) : (callFunc g args).run P w = .ok (Next.enter g args) w := by
 unfold enterB at h
 split at h
 ·rename_i fn hfn
  have hname : fn.name ≠ "runtime.NumGoroutine" := by intro e; simp [e] at h
  have hb : fn.body.isSome = true := by revert h; simp
  obtain ⟨b, hb⟩ := Option.isSome_iff_exists.1 hb
  simp [callFunc, hfn, hname, hb]
 ·cases h
/-- The sorted row: no later element stands below an earlier one. -/
def UpR (l : List Rx) : Prop := l.Pairwise fun a b => a.cmp b ≤ 0
theorem rxSort {w0 : World} (hT : Tab w0) {es : List Ent} {id s : Nat} {l : List Rx} (hl : ∀ r ∈ l, r.ok ∧ r.tidy) (hid : at_ es id = some (.row s 29 6 (l.map Rx.cells))) :
  ACalls Tryd.prog w0 135 [.own id s, .fn (.func 136) [] []] es fun v es' => v = .tup [] ∧ ∃ l' : List Rx, l'.Perm l ∧ UpR l' ∧ es' = setAt es id (.row s 29 6 (l'.map Rx.cells)) := by
 intro c vs ok rs
 obtain ⟨hlt, hm, hf, xs, hxs, hown⟩ := ok.ent id _ hid
 obtain ⟨vl⟩ := vs
 simp only [Reps] at rs
 obtain ⟨v1, vs1, e1, r1, v2, vs2, e2, r2, e3⟩ := rs
 subst e3 e2 e1
 simp only [Rep] at r1 r2
 obtain ⟨es0, he0, hsh, hnow, r1⟩ := r1
 injection he0 with he0
 subst he0
 have r1 := r1 _ _ _ hid
 obtain ⟨fs, cs, e2, rf, rcs⟩ := r2
 simp only [Reps] at rf rcs
 obtain ⟨fs⟩ := fs
 obtain ⟨cs⟩ := cs
 simp only at rf rcs
 subst rf rcs e2 r1
 have fin0 : l.length = 0 → ∀ A cap, Calls Tryd.prog 135 #[.slice A 0 cap, .func (.func 136) #[] #[]] c.w fun e w' => ∃ v c' es' r, e = .returned v ∧ c'.w = w' ∧ Ext c es c' es' ∧ Ok w0 c' es' ∧ Rep c' (some es') r v ∧ r = .tup [] ∧ ∃ l' : List Rx, l'.Perm l ∧ UpR l' ∧ es' = setAt es id (.row s 29 6 (l'.map Rx.cells)) := by
  intro h0 A cap
  refine (AnyF.slices_SortFunc_none sortLays A cap _ c.w).mono fun e w' => ?_
  rintro ⟨rfl, rfl⟩
  have hnil : l = [] := List.eq_nil_of_length_eq_zero h0
  subst hnil
  refine ⟨_, c, es, .tup [], rfl, rfl, Ext.refl c es, ok, ⟨#[], rfl, by simp only [Reps]⟩, rfl, [], List.Perm.refl _, List.Pairwise.nil, ?_⟩
  exact (setAt_self hid).symm
 rw [List.length_map] at hown hm
 obtain ⟨hxl, hown⟩ := hown
 by_cases h0 : l.length = 0
 ·rw [List.length_map, h0]
  rcases hown with ⟨hv, _⟩ | ⟨g, cap, cur, hv, _⟩
  ·rw [h0] at hv
   rw [hv]
   exact fin0 h0 _ _
  ·rw [h0] at hv
   rw [hv]
   exact fin0 h0 _ _
 rcases hown with ⟨_, h9⟩ | ⟨g, cap, cur, hv, _, hg, hn, hcap, hcur, hxs2⟩
 ·exact absurd h9 h0
 have hphi : c.phi id = some (g, cap) := by
  cases hp : c.phi id with
  | none => rw [hp] at hv; simp [ownVal] at hv
  | some y =>
   obtain ⟨g2, cap2⟩ := y
   rw [hp] at hv
   simp only [ownVal, Value.slice.injEq, Option.some.injEq, Addr.mk.injEq, true_and, and_true] at hv
   rw [hv.1, hv.2]
 have hgl : g < c.w.heap.size := (Array.getElem?_eq_some_iff.1 hg).1
 have hfg := hf g cap hphi
 have hrw := RepRows.down _ (cleans_rx l) hxs
 obtain ⟨d, hd1, hd2⟩ := rows_rxv hl hrw
 have hdl : d.length = l.length := by rw [← hd1, List.length_map]
 obtain ⟨x0, d0, hd0⟩ : ∃ x t, d = x :: t := by
  cases d with
  | nil => simp at hdl; omega
  | cons x t => exact ⟨x, t, rfl⟩
 haveI : Inhabited (RxV c) := ⟨x0⟩
 have hk : ∀ x : RxV c, x.vs.length = 6 := fun x => x.len
 have hF : ∀ d : List (RxV c), (flatK (RxV.vs (c := c)) 6 d.toArray).toList = d.flatMap RxV.vs := fun d => flatK_list hk (by decide) d
 have hH : HoldsK (RxV.vs (c := c)) 6 c.w g 0 d.toArray := by
  intro j hj
  have hj2 : j < d.length * 6 := by simpa using hj
  have hc : cur[j]? = some ((flatK (RxV.vs (c := c)) 6 d.toArray)[j]!) := by
   rw [getElem!_pos (flatK (RxV.vs (c := c)) 6 d.toArray) j hj, ← Array.getElem?_eq_getElem hj, ← Array.getElem?_toList, ← Array.getElem?_toList, hF, hd2, ← hxs2, List.getElem?_take, if_pos (by omega)]
  simp only [World.cell?, World.frozen?, hg, Nat.zero_add, _root_.id]
  exact ⟨by simpa using hc, by simp⟩
 have hrun := AnyQ.slices_SortFunc sortLays 6 isAgg29 sizeOf29 (RxV.vs (c := c)) hk (fun x => x.one) rxvCmp (rxv_swo c) 136 #[] g 0 cap d.toArray c.w (callFunc_enter en_136) (cmp_lays hT ok hgl hfg _) hH hgl (by simp only [most] at hm; simp; omega)
 rw [List.length_map, hphi]
 have hsz : d.toArray.size = l.length := by simpa using hdl
 rw [hsz] at hrun
 refine Calls.mono hrun fun e w' => ?_
 rintro ⟨rfl, d', n, os, hperm, hsort, rfl⟩
 obtain ⟨d'⟩ := d'
 obtain ⟨hs', _, hp⟩ := hperm
 have hs2 : d'.length = l.length := by rw [← hdl]; simpa using hs'
 have hpd : d'.Perm d := by
  have e1 : (Array.extract (⟨d'⟩ : Array (RxV c)) 0 l.length).toList = d' := by rw [← hs2]; simp
  have e2 : (Array.extract d.toArray 0 l.length).toList = d := by rw [← hdl]; simp
  rw [e1, e2] at hp
  exact hp
 have hlen2 : (d'.map RxV.r).length = l.length := by rw [List.length_map, hs2]
 have hgr : c.w.grownBy (sortWorldK (RxV.vs (c := c)) 6 c.w g 0 n ⟨d'⟩ os) (ownVal (c.phi id) ((l.map Rx.cells).length)).ownBlock := by
  rw [hphi, own_block_some]
  refine ⟨rfl, rfl, rfl, by simp [sortWorldK, putRowK], fun k hk1 hk2 => heap_putRow_ne hk1 (fun e => hk2 (by rw [e]))⟩
 have hdr : c.w.drawn ≤ (sortWorldK (RxV.vs (c := c)) 6 c.w g 0 n ⟨d'⟩ os).drawn := by simp [sortWorldK, putRowK, putRow, mapBlock, grow, Sort.ahead]
 have hrows : RepRows c (some es) 6 ((d'.map RxV.r).map Rx.cells) (d'.flatMap RxV.vs) :=
  RepRows.ext _ (show ExtM c none c (some es) from ⟨Nat.le_refl _, fun b hb => ⟨hb, rfl⟩⟩) (rxv_rows d')
 have hfl : (flatK (RxV.vs (c := c)) 6 (⟨d'⟩ : Array (RxV c))).toList = d'.flatMap RxV.vs := hF d'
 have hfsz : (flatK (RxV.vs (c := c)) 6 (⟨d'⟩ : Array (RxV c))).size = l.length * 6 := by simp [hs2]
 have hown2 : (sortWorldK (RxV.vs (c := c)) 6 c.w g 0 n ⟨d'⟩ os).ownsRow 0 29 6 (ownVal (some (g, cap)) ((d'.map RxV.r).map Rx.cells).length) ((d'.map RxV.r).map Rx.cells).length (d'.flatMap RxV.vs) := by
  rw [List.length_map, hlen2]
  refine ⟨by rw [← hfl]; simpa using hfsz, .inr ⟨g, cap, _, rfl, Nat.zero_le _, heap_putRow hg, hn, hcap, by simp [putCells, hcur], ?_⟩⟩
  rw [← hfsz, take_putCells (by rw [hfsz, hcur]; exact Nat.mul_le_mul_right _ hn), hfl]
 refine ⟨_, c.turn _ id (some (g, cap)), setAt es id (.row s 29 6 ((d'.map RxV.r).map Rx.cells)), .tup [], rfl, rfl, ext_turn ok hid hgr (.inr ⟨rfl, by simp [hs2], hphi.symm⟩) hdr, ok_turn ok hid hgr (.inr ⟨rfl, by simp [hs2], hphi.symm⟩) (.inl (by rw [hphi]; rfl)) (by rw [List.length_map, hlen2]; exact hm) hrows hown2 hdr, ⟨#[], rfl, by simp only [Reps]⟩, rfl, d'.map RxV.r, by rw [← hd1]; exact hpd.map _, ?_, rfl⟩
 refine List.pairwise_iff_getElem.2 fun i j hi hj hij => ?_
 rw [List.length_map] at hi hj
 have := hsort i j (Nat.zero_le _) hij (by omega)
 unfold ltOf at this
 rw [decide_eq_false_iff_not] at this
 have e1 : (Array.mk d')[j]! = d'[j] := by rw [getElem!_pos (Array.mk d') j (by simpa using hj)]; rfl
 have e2 : (Array.mk d')[i]! = d'[i] := by rw [getElem!_pos (Array.mk d') i (by simpa using hi)]; rfl
 rw [e1, e2] at this
 unfold rxvCmp at this
 rw [List.getElem_map, List.getElem_map]
 have h3 := Rx.cmp_swap _ _ (d'[i]).tidy (d'[j]).tidy
 omega
end
set_option maxRecDepth 8000
section
open Go.RowKit Go.Proofs
def ofR (kd : Int) (l : List Rx) (z : Rx) : Rx :=
 match l with
 | [] => z
 | [x] => x
 | x :: y :: t => .mk kd noSet (x :: y :: t)
theorem ofR_cat (l : List Rx) : ofR 4 l emptyR = catOf l := by
 unfold ofR catOf; split <;> rfl
theorem ofR_alt (l : List Rx) : ofR 5 l noneR = altOf l := by
 unfold ofR altOf; split <;> rfl
theorem ofR_nil {kd : Int} {l : List Rx} {z : Rx} (h : l.length = 0) : ofR kd l z = z := by
 cases l with
 | nil => rfl
 | cons a t => simp at h
theorem ofR_one {kd : Int} {l : List Rx} {z : Rx} (h : l.length = 1) : ofR kd l z = l[0]'(by omega) := by
 match l, h with
 | [x], _ => rfl
theorem ofR_two {kd : Int} {l : List Rx} {z : Rx} (h : ¬ (l.length = 0 ∨ l.length = 1)) : ofR kd l z = .mk kd noSet l := by
 match l, h with
 | [], h => simp at h
 | [x], h => simp at h
 | x :: y :: t, _ => rfl
theorem rxFlat {w0 : World} {es : List Ent} (kd : Int) (l : List Rx) (hn : Rx.nodesL l ≤ 1048576) : ACalls Tryd.prog w0 131 [.int .i64 kd, .list 6 (l.map Rx.cells)] es fun v es' => ∃ t, v = .own es.length t ∧ es' = .row t 29 6 ((flatR kd l).map Rx.cells) :: es := by
 refine calls2 (N := 28) Tryd.func131 rfl rfl (by decide) ?_
 refine w_seq ?_
 refine w_region ?_
 refine l_cons rfl (p_assign ?_)
 refine l_nil ?_
 refine k_seq_normal ?_
 refine w_seq ?_
 have hal := Rx.len_le l
 refine w_region ?_
 refine l_cons rfl (p_assign ?_)
 refine l_nil ?_
 refine k_seq_normal ?_
 refine w_seq ?_
 refine w_seq ?_
 refine w_adopt 5 29 6 rfl fun s5 => ?_
 simp only [upd_upd]
 refine w_region ?_
 refine l_cons rfl (p_move ?_)
 refine l_cons rfl (p_lenl sl_27 ?_)
 refine l_cons rfl (p_move ?_)
 refine l_nil ?_
 refine k_seq_normal ?_
 refine w_block ?_
 refine w_loop (fun m f es' => ∃ k s5, m = l.length - k ∧ k ≤ l.length ∧ Sub (.row s5 29 6 ((flatR kd (l.take k)).map Rx.cells) :: es) es' ∧ Knows f [(0, .int .i64 kd), (5, .own es.length s5), (8, .list 6 (l.map Rx.cells)), (9, .int .i64 l.length), (10, .int .i64 k)]) (l.length) (⟨0, s5, rfl, Nat.zero_le _, Sub.refl _, kn⟩) ?_
 rintro m f es' ⟨k, s5, rfl, hk1, hsub, hk⟩
 refine w_pins _ hsub (hk) ?_
 simp only [pins]
 refine w_seq ?_
 refine w_region ?_
 refine l_cons rfl (p_cmp ?_)
 refine l_nil ?_
 refine k_seq_normal ?_
 refine w_seq ?_
 refine w_b (fun h1 => ?_) (fun h1 => ?_)
 ·skip
  have h1' := h1; (try simp only [bb] at h1')
  refine w_skip ?_
  refine k_seq_normal ?_
  refine w_seq ?_
  refine w_block ?_
  refine w_seq ?_
  refine w_region ?_
  refine l_cons rfl (p_ixl sl_27 ?_)
  refine l_cons rfl (p_loadf ty_29 ?_)
  refine l_cons rfl (p_alloc ze_29 fun s7 => ?_)
  refine l_cons rfl (p_store ty_29 ?_)
  refine l_nil ?_
  refine k_seq_normal ?_
  refine w_seq ?_
  have hx1 := flat_take_nodes kd l k
  have hx2 := Rx.nodesL_take l k (by omega)
  have hx3 := Rx.nodesL_le l (k + 1)
  have hx4 := Rx.len_le (flatR kd (l.take k))
  have hx5 := (l[k]'(by omega)).nodes_eq
  have hx6 := Rx.len_le (l[k]'(by omega)).args
  refine w_region ?_
  refine l_cons rfl (p_fap fa_29_0 ?_)
  refine l_cons rfl (p_loadp ty_3 ?_)
  refine l_cons rfl (p_move ?_)
  refine l_cons rfl (p_cmp ?_)
  refine l_nil ?_
  refine k_seq_normal ?_
  refine w_b (fun h2 => ?_) (fun h2 => ?_)
  ·skip
   have h2' := h2; (try simp only [bb] at h2')
   refine w_region ?_
   refine l_cons rfl (p_move ?_)
   refine l_cons rfl (p_fap fa_29_2 ?_)
   refine l_cons rfl (p_loadp ty_27 (a := .list 6 ((l[k]'(by omega)).args.map Rx.cells)) ?_ (ha := args_load _))
   refine l_cons rfl (p_append sl_27 by_29 ze_29 (fun s21 => ?_) (hb := by simp only [List.length_map, List.length_take, List.length_append, List.length_cons, List.length_nil, most]; omega))
   refine l_cons rfl (p_assign ?_)
   refine l_nil ?_
   refine k_blk_normal ?_
   refine k_seq_normal ?_
   refine w_region ?_
   refine l_cons rfl (p_arith ?_)
   refine l_cons rfl (p_move ?_)
   refine l_nil ?_
   refine k_seq_normal ?_
   first
   | exact ⟨l.length - (k + 1), by omega, k + 1, s21, rfl, by omega, by rw [flat_take_yes (by omega) h2']; exact sub1 _ _, kn⟩
   | exact ⟨l.length - (k + 1), by omega, k + 1, s25, rfl, by omega, by rw [flat_take_no (by omega) h2']; exact sub1 _ _, kn⟩
  ·skip
   have h2' := h2; (try simp only [bb] at h2')
   refine w_region ?_
   refine l_cons rfl (p_move ?_)
   refine l_cons rfl (p_loadp ty_29 ?_)
   refine l_cons rfl (p_buildList sl_27 ze_29 ?_)
   refine l_cons rfl (p_append sl_27 by_29 ze_29 (fun s25 => ?_) (hb := by simp only [List.length_map, List.length_take, List.length_append, List.length_cons, List.length_nil, most]; omega))
   refine l_cons rfl (p_assign ?_)
   refine l_nil ?_
   refine k_blk_normal ?_
   refine k_seq_normal ?_
   refine w_region ?_
   refine l_cons rfl (p_arith ?_)
   refine l_cons rfl (p_move ?_)
   refine l_nil ?_
   refine k_seq_normal ?_
   first
   | exact ⟨l.length - (k + 1), by omega, k + 1, s21, rfl, by omega, by rw [flat_take_yes (by omega) h2']; exact sub1 _ _, kn⟩
   | exact ⟨l.length - (k + 1), by omega, k + 1, s25, rfl, by omega, by rw [flat_take_no (by omega) h2']; exact sub1 _ _, kn⟩
 ·skip
  have h1' := h1; (try simp only [bb] at h1')
  refine w_exit ?_
  refine k_seq_exit ?_
  refine k_seq_exit ?_
  refine k_blk_here ?_
  refine k_seq_normal ?_
  refine w_seq ?_
  obtain rfl : k = l.length := by omega
  rw [List.take_length]
  refine w_region ?_
  refine l_cons rfl (p_move ?_)
  refine l_cons rfl (p_assign ?_)
  refine l_nil ?_
  refine k_seq_normal ?_
  refine w_ret ?_
  exact ret1 rfl ev1 subx ⟨_, rfl, rfl⟩
theorem rxTwin {w0 : World} : ∀ (B : Nat) (r : Rx) (es : List Ent), r.nodes ≤ B → B ≤ 1048576 → ACalls Tryd.prog w0 156 [.agg r.cells] es fun v es' => v = .agg r.cells ∧ es' = es := by
 intro B
 induction B using Nat.strongRecOn with
 | _ B ih => ?_
 intro r es hB hB2
 rw [Rx.cells_eq r]
 have hne := r.nodes_eq
 have hal := Rx.len_le r.args
 refine calls1 (N := 22) Tryd.func156 rfl rfl (by decide) ?_
 refine w_seq ?_
 refine w_region ?_
 refine l_cons rfl (p_box fun s1 => ?_)
 refine l_cons rfl (p_alloc ze_29 fun s2 => ?_)
 refine l_nil ?_
 refine k_seq_normal ?_
 refine w_seq ?_
 refine w_region ?_
 refine l_cons rfl (p_assign ?_)
 refine l_nil ?_
 refine k_seq_normal ?_
 refine w_seq ?_
 refine w_seq ?_
 refine w_adopt 3 29 6 rfl fun s3 => ?_
 simp only [upd_upd]
 refine w_region ?_
 refine l_cons rfl (p_fap fa_29_2 ?_)
 refine l_cons rfl (p_loadp ty_27 ?_)
 first | refine l_cons rfl (p_lenl sl_27 ?_) | refine l_cons rfl (p_leno sl_27 ?_) | refine l_cons rfl (p_lenn sl_27 ?_)
 refine l_cons rfl (p_move ?_)
 refine l_nil ?_
 refine k_seq_normal ?_
 refine w_block ?_
 refine w_loop (fun m f es' => ∃ k s3, m = r.args.length - k ∧ k ≤ r.args.length ∧ Sub (.row s3 29 6 ((r.args.take k).map Rx.cells) :: .row s2 29 6 [[.int .i64 0, .int .u64 0, .int .u64 0, .int .u64 0, .int .u64 0, .nil]] :: .row s1 29 6 [[.int .i64 r.kind, .int .u64 r.set.w0, .int .u64 r.set.w1, .int .u64 r.set.w2, .int .u64 r.set.w3, .list 6 (r.args.map Rx.cells)]] :: es) es' ∧ Knows f [(1, .ptr es.length s1 0 0), (2, .ptr (es.length + 1) s2 0 0), (3, .own (es.length + 2) s3), (7, .list 6 (r.args.map Rx.cells)), (8, .int .i64 r.args.length), (9, .int .i64 k)]) (r.args.length) (⟨0, s3, rfl, Nat.zero_le _, Sub.refl _, kn⟩) ?_
 rintro m f es' ⟨k, s3, rfl, hk1, hsub, hk⟩
 refine w_pins _ hsub (hk) ?_
 simp only [pins]
 refine w_seq ?_
 refine w_region ?_
 refine l_cons rfl (p_cmp ?_)
 refine l_nil ?_
 refine k_seq_normal ?_
 refine w_seq ?_
 refine w_b (fun h1 => ?_) (fun h1 => ?_)
 ·skip
  have h1' := h1; (try simp only [bb] at h1')
  refine w_skip ?_
  refine k_seq_normal ?_
  refine w_seq ?_
  refine w_block ?_
  refine w_seq ?_
  refine w_region ?_
  refine l_cons rfl (p_ixl sl_27 ?_)
  refine l_cons rfl (p_loadf ty_29 ?_)
  refine l_cons rfl (p_alloc ze_29 fun s5 => ?_)
  refine l_cons rfl (p_store ty_29 ?_)
  refine l_nil ?_
  refine k_seq_normal ?_
  refine w_region ?_
  refine l_cons rfl (p_move ?_)
  refine l_cons rfl (p_loadp ty_29 ?_)
  refine l_cons rfl (p_callr en_156 (ih (B - 1) (by omega) (r.args[k]'(by omega)) _ (by have := r.nodes_arg (k := k) (by omega); omega) (by omega)) ?_)
  refine l_cons rfl (p_buildList sl_27 ze_29 ?_)
  refine l_cons rfl (p_append sl_27 by_29 ze_29 (fun s17 => ?_) (hb := by simp only [List.length_map, List.length_take, List.length_append, List.length_cons, List.length_nil, most]; omega))
  refine l_cons rfl (p_assign ?_)
  refine l_nil ?_
  refine k_blk_normal ?_
  refine k_seq_normal ?_
  refine w_region ?_
  refine l_cons rfl (p_arith ?_)
  refine l_cons rfl (p_move ?_)
  refine l_nil ?_
  refine k_seq_normal ?_
  exact ⟨r.args.length - (k + 1), by omega, k + 1, s17, rfl, by omega, by rw [take_map_succ (by omega)]; exact sub1 _ _, kn⟩
 ·skip
  have h1' := h1; (try simp only [bb] at h1')
  refine w_exit ?_
  refine k_seq_exit ?_
  refine k_seq_exit ?_
  refine k_blk_here ?_
  refine k_seq_normal ?_
  refine w_seq ?_
  refine w_freezeTop 3 ?_ (hclean := cleans_rx _)
  rw [show k = r.args.length by omega, List.take_length]
  refine w_region ?_
  refine l_cons rfl (p_move ?_)
  refine l_cons rfl (p_fap fa_29_2 ?_)
  refine l_cons rfl (p_store ty_27 ?_)
  refine l_nil ?_
  refine k_seq_normal ?_
  refine w_seq ?_
  refine w_region ?_
  refine l_cons rfl (p_loadp ty_29 ?_)
  refine l_cons rfl (p_store ty_29 ?_)
  refine l_nil ?_
  refine k_seq_normal ?_
  refine w_ret ?_
  exact retc rfl ty_29 subx ⟨rfl, rfl⟩
theorem rxEqual {w0 : World} (hT : Tab w0) {es : List Ent} (a b : Rx) (ha : a.ok) (hb : b.ok) : ACalls Tryd.prog w0 139 [.agg a.cells, .agg b.cells] es fun v es' => v = .bool (decide (a.cmp b = 0)) ∧ es' = es := by
 refine calls2 (N := 9) Tryd.func139 rfl rfl (by decide) ?_
 refine w_seq ?_
 refine w_region ?_
 refine l_cons rfl (p_box fun s2 => ?_)
 refine l_cons rfl (p_box fun s3 => ?_)
 refine l_cons rfl (p_assign ?_)
 refine l_nil ?_
 refine k_seq_normal ?_
 refine w_seq ?_
 refine w_region ?_
 refine l_cons rfl (p_loadp ty_29 ?_)
 refine l_cons rfl (p_loadp ty_29 ?_)
 refine l_cons rfl (p_callr en_136 (rxCompare hT _ a b _ (Nat.le_refl _) ha hb) ?_)
 refine l_cons rfl (p_cmp ?_)
 refine l_cons rfl (p_assign ?_)
 refine l_nil ?_
 refine k_seq_normal ?_
 refine w_ret ?_
 exact ret1 rfl ev1 subx ⟨rfl, rfl⟩
theorem indexFuncO {w0 : World} {es : List Ent} {l : List Rx} {g id s : Nat} {l1 l2 : List AV} (p : Rx → Bool) (hg : enterB Tryd.prog g = true) (hl : l.length ≤ 1048576) (hid : at_ es id = some (.row s 29 6 (l.map Rx.cells))) (hp : ∀ x ∈ l, ACalls Tryd.prog w0 g (l1 ++ [.agg x.cells] ++ l2) es fun v es2 => v = .bool (p x) ∧ es2 = es) : ACalls Tryd.prog w0 157 [.own id s, .fn (.func g) l1 l2] es fun v es' => v = .int .i64 (firstIdx p l) ∧ es' = es := by
 refine calls2 (N := 19) Tryd.func157 rfl rfl (by decide) ?_
 refine w_seq ?_
 refine w_region ?_
 refine l_cons rfl (p_assign ?_)
 refine l_nil ?_
 refine k_seq_normal ?_
 refine w_seq ?_
 refine w_seq ?_
 refine w_region ?_
 refine l_cons rfl (p_move ?_)
 refine l_cons rfl (p_leno sl_27 ?_)
 refine l_cons rfl (p_move ?_)
 refine l_nil ?_
 refine k_seq_normal ?_
 refine w_block ?_
 refine w_loop (fun n f es' => ∃ k, n = l.length - k ∧ k ≤ l.length ∧ (∀ j (hj : j < k) (hjl : j < l.length), p l[j] = false) ∧ es' = es ∧ Knows f [(0, .own id s), (1, .fn (.func g) l1 l2), (7, .int .i64 l.length), (8, .int .i64 k)]) (l.length) (⟨0, rfl, Nat.zero_le _, fun j hj => absurd hj (Nat.not_lt_zero _), rfl, kn⟩) ?_
 rintro n f es' ⟨k, rfl, hk1, hk2, rfl, hk⟩
 refine w_pins _ (Sub.refl _) (hk) ?_
 simp only [pins]
 refine w_seq ?_
 refine w_region ?_
 refine l_cons rfl (p_cmp ?_)
 refine l_nil ?_
 refine k_seq_normal ?_
 refine w_seq ?_
 refine w_b (fun h1 => ?_) (fun h1 => ?_)
 ·skip
  have h1' := h1; (try simp only [bb] at h1')
  refine w_skip ?_
  refine k_seq_normal ?_
  refine w_seq ?_
  refine w_block ?_
  refine w_seq ?_
  refine w_region ?_
  refine l_cons rfl (p_move ?_)
  refine l_cons rfl (p_assign ?_)
  refine l_nil ?_
  refine k_seq_normal ?_
  refine w_seq ?_
  refine w_region ?_
  refine l_cons rfl (p_move ?_)
  refine l_cons rfl (p_move ?_)
  refine l_cons rfl (p_move ?_)
  refine l_cons rfl (p_ixo sl_27 ?_)
  refine l_cons rfl (p_loadp ty_29 (a := .agg (l[k]'(by omega)).cells) ?_ (hr := rxrow_at (l := l) (k := k) (by omega)) (hl := Nat.le_refl 6) (ha := rfl))
  refine l_cons rfl (p_callr hg (hp (l[k]'(by omega)) (List.getElem_mem _)) ?_)
  refine l_nil ?_
  refine k_seq_normal ?_
  refine w_b (fun h2 => ?_) (fun h2 => ?_)
  ·skip
   have h2' := h2; (try simp only [bb] at h2')
   refine w_seq ?_
   refine w_region ?_
   refine l_cons rfl (p_move ?_)
   refine l_cons rfl (p_assign ?_)
   refine l_nil ?_
   refine k_seq_normal ?_
   refine w_ret ?_
   refine k_blk_ret ?_
   refine k_seq_ret ?_
   refine k_seq_ret ?_
   refine k_blk_ret ?_
   refine k_seq_ret ?_
   exact ret1 rfl ev1 subx ⟨by rw [firstIdx_at (l := l) (k := k) (by omega) (fun j hj => hk2 j hj (by omega)) (by assumption)], rfl⟩
  ·skip
   have h2' := h2; (try simp only [bb] at h2')
   refine w_skip ?_
   refine k_blk_normal ?_
   refine k_seq_normal ?_
   refine w_region ?_
   refine l_cons rfl (p_arith ?_)
   refine l_cons rfl (p_move ?_)
   refine l_nil ?_
   refine k_seq_normal ?_
   exact ⟨l.length - (k + 1), by omega, k + 1, rfl, by omega, fun j hj hjl => by
    rcases Nat.lt_or_eq_of_le (Nat.le_of_lt_succ hj) with h9 | h9
    ·exact hk2 j h9 hjl
    ·subst h9; assumption, rfl, kn⟩
 ·skip
  have h1' := h1; (try simp only [bb] at h1')
  refine w_exit ?_
  refine k_seq_exit ?_
  refine k_seq_exit ?_
  refine k_blk_here ?_
  refine k_seq_normal ?_
  refine w_seq ?_
  refine w_region ?_
  refine l_cons rfl (p_assign ?_)
  refine l_nil ?_
  refine k_seq_normal ?_
  refine w_ret ?_
  exact ret1 rfl ev1 subx ⟨by rw [firstIdx_no (l := l) (fun j hj => hk2 j (by omega) hj)], rfl⟩
theorem containsFuncO {w0 : World} {es : List Ent} {l : List Rx} {g id s : Nat} {l1 l2 : List AV} (p : Rx → Bool) (hg : enterB Tryd.prog g = true) (hl : l.length ≤ 1048576) (hid : at_ es id = some (.row s 29 6 (l.map Rx.cells))) (hp : ∀ x ∈ l, ACalls Tryd.prog w0 g (l1 ++ [.agg x.cells] ++ l2) es fun v es2 => v = .bool (p x) ∧ es2 = es) : ACalls Tryd.prog w0 140 [.own id s, .fn (.func g) l1 l2] es fun v es' => v = .bool (l.any p) ∧ es' = es := by
 refine calls2 (N := 9) Tryd.func140 rfl rfl (by decide) ?_
 refine w_seq ?_
 refine w_region ?_
 refine l_cons rfl (p_assign ?_)
 refine l_nil ?_
 refine k_seq_normal ?_
 refine w_seq ?_
 refine w_region ?_
 refine l_cons rfl (p_move ?_)
 refine l_cons rfl (p_move ?_)
 refine l_cons rfl (p_callr en_157 (indexFuncO p hg hl hid hp) ?_)
 refine l_cons rfl (p_cmp ?_)
 refine l_cons rfl (p_assign ?_)
 refine l_nil ?_
 refine k_seq_normal ?_
 refine w_ret ?_
 exact ret1 rfl ev1 subx ⟨by rw [← firstIdx_ge], rfl⟩
theorem rxOf {w0 : World} {es : List Ent} (kd : Int) (l : List Rx) (z : Rx) (hn : Rx.nodesL l ≤ 1048575) : ACalls Tryd.prog w0 137 [.int .i64 kd, .list 6 (l.map Rx.cells), .agg z.cells] es fun v es' => v = .agg (ofR kd l z).cells ∧ es' = es := by
 refine calls3 (N := 22) Tryd.func137 rfl rfl (by decide) ?_
 refine w_seq ?_
 refine w_region ?_
 refine l_cons rfl (p_box fun s5 => ?_)
 refine l_cons rfl (p_alloc ze_29 fun s6 => ?_)
 refine l_nil ?_
 refine k_seq_normal ?_
 refine w_seq ?_
 refine w_seq ?_
 have hal := Rx.len_le l
 refine w_region ?_
 refine l_cons rfl (p_move ?_)
 refine l_cons rfl (p_lenl sl_27 ?_)
 refine l_nil ?_
 refine k_seq_normal ?_
 refine w_block ?_
 refine w_seq ?_
 refine w_region ?_
 refine l_cons rfl (p_cmp ?_)
 refine l_cons rfl (p_assign ?_)
 refine l_nil ?_
 refine k_seq_normal ?_
 refine w_b (fun h1 => ?_) (fun h1 => ?_)
 ·skip
  have h1' := h1; (try simp only [bb] at h1')
  refine w_seq ?_
  refine w_region ?_
  refine l_cons rfl (p_loadp ty_29 ?_)
  refine l_cons rfl (p_store ty_29 ?_)
  refine l_nil ?_
  refine k_seq_normal ?_
  refine w_ret ?_
  refine k_blk_ret ?_
  refine k_seq_ret ?_
  rw [ofR_nil (by omega)]
  exact retc rfl ty_29 subx ⟨rfl, rfl⟩
 ·skip
  have h1' := h1; (try simp only [bb] at h1')
  refine w_seq ?_
  refine w_region ?_
  refine l_cons rfl (p_cmp ?_)
  refine l_cons rfl (p_assign ?_)
  refine l_nil ?_
  refine k_seq_normal ?_
  refine w_b (fun h2 => ?_) (fun h2 => ?_)
  ·skip
   have h2' := h2; (try simp only [bb] at h2')
   refine w_seq ?_
   refine w_region ?_
   refine l_cons rfl (p_move ?_)
   refine l_cons rfl (p_ixl sl_27 (a := .fptr 6 (l.map Rx.cells) 0 0) ?_ (h0 := by omega) (h1 := by simp only [List.length_map]; omega) (ho := rfl))
   refine l_cons rfl (p_loadf ty_29 (a := .agg (l[0]'(by omega)).cells) ?_ (hr := rxrow_at (l := l) (k := 0) (by omega)) (hl := Nat.le_refl 6) (ha := rfl))
   refine l_cons rfl (p_callr en_156 (rxTwin _ (l[0]'(by omega)) _ (Nat.le_refl _) (by have := Rx.nodes_mem (l := l) (k := 0) (by omega); omega)) ?_)
   refine l_cons rfl (p_store ty_29 ?_)
   refine l_nil ?_
   refine k_seq_normal ?_
   refine w_ret ?_
   refine k_blk_ret ?_
   refine k_seq_ret ?_
   rw [ofR_one (by omega)]
   exact retc rfl ty_29 subx ⟨rfl, rfl⟩
  ·skip
   have h2' := h2; (try simp only [bb] at h2')
   refine w_skip ?_
   refine k_blk_normal ?_
   refine k_seq_normal ?_
   refine w_seq ?_
   refine w_region ?_
   refine l_cons rfl (p_move ?_)
   refine l_cons rfl (p_move ?_)
   refine l_cons rfl (p_build ze_29 pl_29 ?_)
   refine l_cons rfl (p_callr en_156 (cells1 (r := Rx.mk kd noSet l) (rxTwin _ (Rx.mk kd noSet l) _ (Nat.le_refl _) (by simp only [Rx.nodes]; omega))) ?_)
   refine l_cons rfl (p_store ty_29 ?_)
   refine l_nil ?_
   refine k_seq_normal ?_
   refine w_ret ?_
   rw [ofR_two (by omega), Rx.cells_eq]
   exact retc rfl ty_29 subx ⟨rfl, rfl⟩
end
section
/-! ### a row from which elements are taken out in place -/
def outE (l : List Rx) : List Rx := l.filter fun r => decide (r.kind ≠ 2)
theorem outE_none {l : List Rx} (h : firstIdx (fun r : Rx => decide (r.kind = 2)) l = -1) : outE l = l := by
 unfold outE
 rw [List.filter_eq_self]
 intro a ha
 unfold firstIdx at h
 split at h
 ·omega
 ·rename_i e
  rw [List.findIdx?_eq_none_iff] at e
  have := e a ha
  simpa using this
theorem outE_some {l : List Rx} (h : ¬ firstIdx (fun r : Rx => decide (r.kind = 2)) l = -1) :
  ∃ i, ∃ hi : i < l.length, firstIdx (fun r : Rx => decide (r.kind = 2)) l = i ∧ outE (l.take (i + 1)) = l.take i := by
 unfold firstIdx at h ⊢
 split at h
 ·rename_i i e
  rw [List.findIdx?_eq_some_iff_getElem] at e
  obtain ⟨hi, h1, h2⟩ := e
  refine ⟨i, hi, rfl, ?_⟩
  unfold outE
  rw [List.take_add_one, List.getElem?_eq_getElem hi, List.filter_append]
  have e1 : (l.take i).filter (fun r => decide (r.kind ≠ 2)) = l.take i := by
   rw [List.filter_eq_self]
   intro a ha
   obtain ⟨j, hj, rfl⟩ := List.mem_take_iff_getElem.1 ha
   have := h2 j (by omega)
   simpa using this
  rw [e1]
  have h1' : l[i].kind = 2 := by simpa using h1
  simp [h1']
 ·exact absurd rfl h
theorem outE_keep {l : List Rx} {j : Nat} (h : j < l.length) (hk : ¬ (l[j]).kind = 2) : outE (l.take (j + 1)) = outE (l.take j) ++ [l[j]] := by
 unfold outE
 rw [List.take_add_one, List.getElem?_eq_getElem h, List.filter_append]
 simp [hk]
theorem outE_drop {l : List Rx} {j : Nat} (h : j < l.length) (hk : (l[j]).kind = 2) : outE (l.take (j + 1)) = outE (l.take j) := by
 unfold outE
 rw [List.take_add_one, List.getElem?_eq_getElem h, List.filter_append]
 simp [hk]
theorem mid_len {A G l : List Rx} {j : Nat} (h : A.length + G.length = j) (hj : j ≤ l.length) : ((A ++ G ++ l.drop j).map Rx.cells).length = l.length := by
 simp only [List.length_map, List.length_append, List.length_drop]; omega
theorem mid_at {A G l : List Rx} {j : Nat} (h : A.length + G.length = j) (hj : j < l.length) : ((A ++ G ++ l.drop j).map Rx.cells)[j]? = some (l[j]).cells := by
 rw [List.getElem?_map, List.getElem?_append_right (by rw [List.length_append]; omega), List.length_append, h, Nat.sub_self, List.getElem?_drop, Nat.add_zero, List.getElem?_eq_getElem hj]
 rfl
theorem prev_at {A G D : List Rx} {j : Nat} {x : Rx} (h : A.length + G.length = j) (hx : G.getLast? = some x) : ((A ++ G ++ D).map Rx.cells)[j - 1]? = some x.cells := by
 obtain ⟨G0, rfl⟩ : ∃ G0, G = G0 ++ [x] := by
  have := List.getLast?_eq_some_iff.1 hx
  exact this
 simp only [List.length_append, List.length_cons, List.length_nil] at h
 rw [List.getElem?_map, List.append_assoc, List.append_assoc, List.getElem?_append_right (by omega), List.getElem?_append_right (by omega)]
 rw [show j - 1 - A.length - G0.length = 0 by omega]
 rfl
theorem head_at {A G D : List Rx} {i : Nat} (h : A.length = i) (hG : 0 < G.length) : ((A ++ G ++ D).map Rx.cells)[i]? = some (G[0]).cells := by
 subst h
 rw [List.getElem?_map, List.append_assoc, List.getElem?_append_right (Nat.le_refl _), Nat.sub_self, List.getElem?_append_left hG, List.getElem?_eq_getElem hG]
 rfl
theorem keep_set {A G l : List Rx} {i j : Nat} (h : A.length = i) (hG : 0 < G.length) (hj : j < l.length) :
  ((A ++ G ++ l.drop j).map Rx.cells).set i (l[j]).cells = (((A ++ [l[j]]) ++ (G.tail ++ [l[j]]) ++ l.drop (j + 1)).map Rx.cells) := by
 subst h
 rw [← List.map_set, List.append_assoc, List.set_append_right _ _ (Nat.le_refl _), Nat.sub_self]
 cases G with
 | nil => simp at hG
 | cons x t =>
  rw [drop_cons hj]
  simp
theorem fin_take {A G D : List Rx} {i : Nat} {Z : List (List AV)} (h : A.length = i) : (((A ++ G ++ D).map Rx.cells).take i ++ Z).take i = A.map Rx.cells := by
 subst h
 have e : ((A ++ G ++ D).map Rx.cells).take A.length = A.map Rx.cells := by
  rw [List.append_assoc, List.map_append, List.take_left' (by simp)]
 rw [e, List.take_left' (by simp)]
theorem tail_len {α : Type} {G : List α} {x : α} (h : 0 < G.length) : (G.tail ++ [x]).length = G.length := by
 simp; omega
/-- What is left when an element goes that is equal to the one ahead of it. -/
def keepC (l : List Rx) : Nat → List Rx
 | 0 => []
 | j + 1 => keepC l j ++ (if j = 0 ∨ ¬ (l.getD j default).cmp (l.getD (j - 1) default) = 0 then [l.getD j default] else [])
theorem keepC_all {l : List Rx} : ∀ {i : Nat}, i ≤ l.length → (∀ m (h0 : 0 < m) (h1 : m < i) (h2 : m < l.length), ¬ (l[m]).cmp l[m - 1] = 0) → keepC l i = l.take i
 | 0, _, _ => by simp [keepC]
 | i + 1, h, hm => by
  rw [keepC, keepC_all (i := i) (by omega) (fun m h0 h1 h2 => hm m h0 (by omega) h2), List.take_add_one, List.getElem?_eq_getElem (show i < l.length by omega)]
  rw [if_pos]
  ·simp [List.getD_eq_getElem?_getD, List.getElem?_eq_getElem (show i < l.length by omega)]
  ·by_cases h0 : i = 0
   ·exact .inl h0
   ·right
    have := hm i (by omega) (by omega) (by omega)
    rw [List.getD_eq_getElem?_getD, List.getD_eq_getElem?_getD, List.getElem?_eq_getElem (show i < l.length by omega), List.getElem?_eq_getElem (show i - 1 < l.length by omega)]
    exact this
theorem keepC_keep {l : List Rx} {j : Nat} (h : j < l.length) (h0 : 0 < j) (hk : ¬ (l[j]).cmp l[j - 1] = 0) : keepC l (j + 1) = keepC l j ++ [l[j]] := by
 rw [keepC, if_pos (.inr (by rw [List.getD_eq_getElem?_getD, List.getD_eq_getElem?_getD, List.getElem?_eq_getElem h, List.getElem?_eq_getElem (show j - 1 < l.length by omega)]; exact hk))]
 simp [List.getD_eq_getElem?_getD, List.getElem?_eq_getElem h]
theorem keepC_drop {l : List Rx} {j : Nat} (h : j < l.length) (h0 : 0 < j) (hk : (l[j]).cmp l[j - 1] = 0) : keepC l (j + 1) = keepC l j := by
 rw [keepC, if_neg, List.append_nil]
 rintro (e | e)
 ·omega
 ·rw [List.getD_eq_getElem?_getD, List.getD_eq_getElem?_getD, List.getElem?_eq_getElem h, List.getElem?_eq_getElem (show j - 1 < l.length by omega)] at e
  exact e hk
end
set_option maxRecDepth 8000
section
open Go.RowKit Go.Proofs
theorem deleteEmpty {w0 : World} {T : List Ent} {s : Nat} (l : List Rx) (hl : l.length ≤ 1048576) : ACalls Tryd.prog w0 141 [.own T.length s, .fn (.func 142) [] []] (.row s 29 6 (l.map Rx.cells) :: T) fun v es' => ∃ t, v = .own T.length t ∧ es' = .row t 29 6 ((outE l).map Rx.cells) :: T := by
 refine calls2 (N := 42) Tryd.func141 rfl rfl (by decide) ?_
 refine w_seq ?_
 refine w_region ?_
 refine l_cons rfl (p_assign ?_)
 refine l_nil ?_
 refine k_seq_normal ?_
 refine w_seq ?_
 refine w_region ?_
 refine l_cons rfl (p_move ?_)
 refine l_cons rfl (p_move ?_)
 refine l_cons rfl (p_callr en_157 (indexFuncO (l1 := []) (l2 := []) (fun r => decide (r.kind = 2)) en_142 hl (at_hit _ _) (fun x _ => isEmpty_walk x)) ?_)
 refine l_cons rfl (p_assign ?_)
 refine l_nil ?_
 refine k_seq_normal ?_
 refine w_seq ?_
 refine w_seq ?_
 refine w_region ?_
 refine l_cons rfl (p_move ?_)
 refine l_cons rfl (p_cmp ?_)
 refine l_nil ?_
 refine k_seq_normal ?_
 refine w_b (fun h1 => ?_) (fun h1 => ?_)
 ·skip
  have h1' := h1; (try simp only [bb] at h1')
  refine w_seq ?_
  refine w_region ?_
  refine l_cons rfl (p_move ?_)
  refine l_cons rfl (p_assign ?_)
  refine l_nil ?_
  refine k_seq_normal ?_
  refine w_ret ?_
  refine k_seq_ret ?_
  exact ret1 rfl ev1 subx ⟨_, rfl, by rw [outE_none h1']⟩
 ·skip
  have h1' := h1; (try simp only [bb] at h1')
  refine w_skip ?_
  refine k_seq_normal ?_
  refine w_seq ?_
  refine w_seq ?_
  obtain ⟨i0, hi0, hi1, hi2⟩ := outE_some h1'
  rw [hi1]
  refine w_region ?_
  refine l_cons rfl (p_move ?_)
  refine l_cons rfl (p_arith ?_)
  refine l_cons rfl (p_assign ?_)
  refine l_nil ?_
  refine k_seq_normal ?_
  refine w_block ?_
  refine w_loop (fun m f es' => ∃ j i G, m = l.length - j ∧ j ≤ l.length ∧ (outE (l.take j)).length = i ∧ (outE (l.take j)).length + G.length = j ∧ 0 < G.length ∧ Sub (.row s 29 6 (((outE (l.take j)) ++ G ++ l.drop j).map Rx.cells) :: T) es' ∧ Knows f [(0, .own T.length s), (1, .fn (.func 142) [] []), (5, .int .i64 (i : Int)), (6, .int .i64 (j : Int))]) (l.length - (i0 + 1)) (⟨i0 + 1, i0, [(l[i0]'(by omega))], rfl, by omega, by rw [hi2, List.length_take]; omega, by rw [hi2, List.length_take]; simp; omega, by simp, by rw [hi2, List.append_assoc, List.singleton_append, ← drop_cons (by omega), List.take_append_drop]; exact Sub.refl _, kn⟩) ?_
  rintro m f es' ⟨j, i, G, rfl, hj1, hlA, hlj, hG0, hsub, hk⟩
  refine w_pins _ hsub (hk) ?_
  simp only [pins]
  refine w_seq ?_
  refine w_seq ?_
  refine w_region ?_
  refine l_cons rfl (p_move ?_)
  refine l_cons rfl (p_move ?_)
  refine l_cons rfl (p_leno sl_27 (a := .int .i64 (l.length : Int)) ?_ (ha := by rw [mid_len hlj (by omega)]))
  refine l_cons rfl (p_cmp ?_)
  refine l_nil ?_
  refine k_seq_normal ?_
  refine w_b (fun h2 => ?_) (fun h2 => ?_)
  ·skip
   have h2' := h2; (try simp only [bb] at h2')
   refine w_skip ?_
   refine k_seq_normal ?_
   refine w_seq ?_
   refine w_block ?_
   refine w_seq ?_
   refine w_region ?_
   refine l_cons rfl (p_move ?_)
   refine l_cons rfl (p_move ?_)
   refine l_cons rfl (p_ixo sl_27 (a := .ptr T.length s j 0) ?_ (h0 := by omega) (h1 := by rw [mid_len hlj (by omega)]; omega) (ho := rfl))
   refine l_cons rfl (p_loadp ty_29 (a := .agg (l[j]'(by omega)).cells) ?_ (hr := mid_at hlj (by omega)) (hl := Nat.le_refl 6) (ha := rfl))
   refine l_cons rfl (p_alloc ze_29 fun s7 => ?_)
   refine l_cons rfl (p_store ty_29 ?_)
   refine l_nil ?_
   refine k_seq_normal ?_
   refine w_seq ?_
   refine w_region ?_
   refine l_cons rfl (p_move ?_)
   refine l_cons rfl (p_loadp ty_29 ?_)
   refine l_cons rfl (p_callr en_142 (isEmpty_walk (l[j]'(by omega))) ?_)
   refine l_cons rfl (p_not ?_)
   refine l_nil ?_
   refine k_seq_normal ?_
   refine w_b (fun h3 => ?_) (fun h3 => ?_)
   ·skip
    have h3' := h3; (try simp only [bb] at h3')
    refine w_seq ?_
    refine w_region ?_
    refine l_cons rfl (p_move ?_)
    refine l_cons rfl (p_move ?_)
    refine l_cons rfl (p_loadp ty_29 ?_)
    refine l_cons rfl (p_ixo sl_27 (a := .ptr T.length s i 0) ?_ (h0 := by omega) (h1 := by rw [mid_len hlj (by omega)]; omega) (ho := rfl))
    refine l_cons rfl (p_store ty_29 (rows' := ((((outE (l.take j)) ++ [(l[j]'(by omega))]) ++ (G.tail ++ [(l[j]'(by omega))]) ++ l.drop (j + 1)).map Rx.cells)) (r' := (l[j]'(by omega)).cells) ?_ (hr := head_at hlA hG0) (hl := Nat.le_refl 6) (hr' := rfl) (hrs := keep_set hlA hG0 (by omega)))
    refine l_nil ?_
    refine k_seq_normal ?_
    refine w_region ?_
    refine l_cons rfl (p_move ?_)
    refine l_cons rfl (p_arith ?_)
    refine l_cons rfl (p_assign ?_)
    refine l_nil ?_
    refine k_blk_normal ?_
    refine k_seq_normal ?_
    refine w_region ?_
    refine l_cons rfl (p_move ?_)
    refine l_cons rfl (p_arith ?_)
    refine l_cons rfl (p_assign ?_)
    refine l_nil ?_
    refine k_seq_normal ?_
    first
    | exact ⟨l.length - (j + 1), by omega, j + 1, i + 1, G.tail ++ [(l[j]'(by omega))], rfl, by omega, by rw [outE_keep (by omega) h3', List.length_append, hlA]; rfl, by rw [outE_keep (by omega) h3', List.length_append, tail_len hG0]; simp; omega, by simp, by rw [outE_keep (by omega) h3']; exact sub1 _ _, kn⟩
    | exact ⟨l.length - (j + 1), by omega, j + 1, i, G ++ [(l[j]'(by omega))], rfl, by omega, by rw [outE_drop (by omega) h3', hlA], by rw [outE_drop (by omega) h3', List.length_append]; simp; omega, by simp, by rw [outE_drop (by omega) h3', ← List.append_assoc, List.append_assoc _ [_], List.singleton_append, ← drop_cons (by omega)]; exact sub1 _ _, kn⟩
   ·skip
    have h3' := h3; (try simp only [bb] at h3')
    refine w_skip ?_
    refine k_blk_normal ?_
    refine k_seq_normal ?_
    refine w_region ?_
    refine l_cons rfl (p_move ?_)
    refine l_cons rfl (p_arith ?_)
    refine l_cons rfl (p_assign ?_)
    refine l_nil ?_
    refine k_seq_normal ?_
    first
    | exact ⟨l.length - (j + 1), by omega, j + 1, i + 1, G.tail ++ [(l[j]'(by omega))], rfl, by omega, by rw [outE_keep (by omega) h3', List.length_append, hlA]; rfl, by rw [outE_keep (by omega) h3', List.length_append, tail_len hG0]; simp; omega, by simp, by rw [outE_keep (by omega) h3']; exact sub1 _ _, kn⟩
    | exact ⟨l.length - (j + 1), by omega, j + 1, i, G ++ [(l[j]'(by omega))], rfl, by omega, by rw [outE_drop (by omega) h3', hlA], by rw [outE_drop (by omega) h3', List.length_append]; simp; omega, by simp, by rw [outE_drop (by omega) h3', ← List.append_assoc, List.append_assoc _ [_], List.singleton_append, ← drop_cons (by omega)]; exact sub1 _ _, kn⟩
  ·skip
   have h2' := h2; (try simp only [bb] at h2')
   refine w_exit ?_
   refine k_seq_exit ?_
   refine k_seq_exit ?_
   refine k_blk_here ?_
   refine k_seq_normal ?_
   refine w_seq ?_
   refine w_region ?_
   refine l_cons rfl (p_move ?_)
   refine l_cons rfl (p_move ?_)
   refine l_cons rfl (p_slicet (k := i) sl_27 ?_ (hk := by rw [mid_len hlj (by omega)]; omega))
   refine l_cons rfl (p_cleart sl_27 ze_29 ?_)
   refine l_nil ?_
   refine k_seq_normal ?_
   refine w_seq ?_
   refine w_region ?_
   refine l_cons rfl (p_move ?_)
   refine l_cons rfl (p_move ?_)
   refine l_cons rfl (p_sliceo (h := i) sl_27 (fun s41 => ?_) (hh := by rw [List.length_append, List.length_take, mid_len hlj (by omega)]; omega))
   refine l_cons rfl (p_assign ?_)
   refine l_nil ?_
   refine k_seq_normal ?_
   rw [fin_take hlA, show j = l.length by omega, List.take_length]
   refine w_ret ?_
   exact ret1 rfl ev1 subx ⟨_, rfl, rfl⟩
theorem compactRx {w0 : World} (hT : Tab w0) {T : List Ent} {s : Nat} (l : List Rx) (hl : l.length ≤ 1048576) (ho : ∀ r ∈ l, r.ok) : ACalls Tryd.prog w0 138 [.own T.length s, .fn (.func 139) [] []] (.row s 29 6 (l.map Rx.cells) :: T) fun v es' => ∃ t, v = .own T.length t ∧ es' = .row t 29 6 ((keepC l l.length).map Rx.cells) :: T := by
 refine calls2 (N := 66) Tryd.func138 rfl rfl (by decide) ?_
 refine w_seq ?_
 refine w_region ?_
 refine l_cons rfl (p_assign ?_)
 refine l_nil ?_
 refine k_seq_normal ?_
 refine w_seq ?_
 refine w_seq ?_
 refine w_region ?_
 refine l_cons rfl (p_move ?_)
 refine l_cons rfl (p_leno sl_27 ?_)
 refine l_cons rfl (p_cmp ?_)
 refine l_nil ?_
 refine k_seq_normal ?_
 refine w_b (fun h1 => ?_) (fun h1 => ?_)
 ·skip
  have h1' := h1; (try simp only [bb] at h1')
  refine w_seq ?_
  refine w_region ?_
  refine l_cons rfl (p_move ?_)
  refine l_cons rfl (p_assign ?_)
  refine l_nil ?_
  refine k_seq_normal ?_
  refine w_ret ?_
  refine k_seq_ret ?_
  exact ret1 rfl ev1 subx ⟨_, rfl, by rw [keepC_all (l := l) (i := l.length) (Nat.le_refl _) (fun m h0 h1 h2 => by omega), List.take_length]⟩
 ·skip
  have h1' := h1; (try simp only [bb] at h1')
  refine w_skip ?_
  refine k_seq_normal ?_
  refine w_seq ?_
  refine w_seq ?_
  refine w_region ?_
  refine l_cons rfl (p_assign ?_)
  refine l_nil ?_
  refine k_seq_normal ?_
  refine w_block ?_
  refine w_loop (fun m f es' => ∃ i, m = l.length - i ∧ i ≤ l.length ∧ 0 < i ∧ (∀ m (h0 : 0 < m) (h1 : m < i) (h2 : m < l.length), ¬ (l[m]).cmp l[m - 1] = 0) ∧ es' = .row s 29 6 (l.map Rx.cells) :: T ∧ Knows f [(0, .own T.length s), (1, .fn (.func 139) [] []), (5, .int .i64 (i : Int))]) (l.length - 1) (⟨1, rfl, by omega, Nat.one_pos, fun m h0 h1 => by omega, rfl, kn⟩) ?_
  rintro m f es' ⟨i, rfl, hi1, hi0p, hi2, rfl, hk⟩
  refine w_pins _ (Sub.refl _) (hk) ?_
  simp only [pins]
  refine w_seq ?_
  refine w_seq ?_
  refine w_region ?_
  refine l_cons rfl (p_move ?_)
  refine l_cons rfl (p_move ?_)
  refine l_cons rfl (p_leno sl_27 ?_)
  refine l_cons rfl (p_cmp ?_)
  refine l_nil ?_
  refine k_seq_normal ?_
  refine w_b (fun h2 => ?_) (fun h2 => ?_)
  ·skip
   have h2' := h2; (try simp only [bb] at h2')
   refine w_skip ?_
   refine k_seq_normal ?_
   refine w_seq ?_
   refine w_block ?_
   refine w_seq ?_
   refine w_drawn 10 [] (fun e => e = _) mixed (by kernel_rfl) rfl ?_
   refine q1 1 (hg := rfl) (hu := rfl) (h := by rintro f _ rfl; exact p_move ⟨rfl, rfl⟩) (k := ?_)
   refine q1 0 (hg := rfl) (hu := rfl) (h := by rintro f _ rfl; exact p_move ⟨rfl, rfl⟩) (k := ?_)
   refine q1 5 (hg := rfl) (hu := rfl) (h := by rintro f _ rfl; exact p_move ⟨rfl, rfl⟩) (k := ?_)
   refine q2 19 20 (hg := rfl) (hu := rfl) (h := by rintro f _ rfl; exact p_ixo sl_27 (a := .ptr T.length s i 0) ⟨rfl, rfl⟩ (h0 := by omega) (h1 := by simp only [List.length_map]; omega) (ho := rfl)) (k := ?_)
   refine q1 21 (hg := rfl) (hu := rfl) (h := by rintro f _ rfl; exact p_loadp ty_29 (a := .agg (l[i]'(by omega)).cells) ⟨rfl, rfl⟩ (hr := rxrow_at (l := l) (k := i) (by omega)) (hl := Nat.le_refl 6) (ha := rfl)) (k := ?_)
   refine q1 0 (hg := rfl) (hu := rfl) (h := by rintro f _ rfl; exact p_move ⟨rfl, rfl⟩) (k := ?_)
   refine q1 5 (hg := rfl) (hu := rfl) (h := by rintro f _ rfl; exact p_move ⟨rfl, rfl⟩) (k := ?_)
   refine q1 24 (hg := rfl) (hu := rfl) (h := by rintro f _ rfl; exact p_arith ⟨rfl, rfl⟩) (k := ?_)
   refine q2 23 25 (hg := rfl) (hu := rfl) (h := by rintro f _ rfl; exact p_ixo sl_27 (a := .ptr T.length s (i - 1) 0) ⟨rfl, rfl⟩ (h0 := by omega) (h1 := by simp only [List.length_map]; omega) (ho := by congr 1; omega)) (k := ?_)
   refine q1 26 (hg := rfl) (hu := rfl) (h := by rintro f _ rfl; exact p_loadp ty_29 (a := .agg (l[i - 1]'(by omega)).cells) ⟨rfl, rfl⟩ (hr := rxrow_at (l := l) (k := i - 1) (by omega)) (hl := Nat.le_refl 6) (ha := rfl)) (k := ?_)
   refine q_end ?_
   refine m_end ?_
   refine l_cons rfl (p_callr en_139 (rxEqual hT (l[i]'(by omega)) (l[i - 1]'(by omega)) (ho _ (List.getElem_mem _)) (ho _ (List.getElem_mem _))) ?_)
   refine l_nil ?_
   refine k_seq_normal ?_
   refine w_b (fun h3 => ?_) (fun h3 => ?_)
   ·skip
    have h3' := h3; (try simp only [bb] at h3')
    refine w_seq ?_
    refine w_region ?_
    refine l_cons rfl (p_move ?_)
    refine l_cons rfl (p_move ?_)
    refine l_cons rfl (p_slicet (k := i) sl_27 ?_ (hk := by simp only [List.length_map]; omega))
    refine l_cons rfl (p_assign ?_)
    refine l_nil ?_
    refine k_seq_normal ?_
    refine w_seq ?_
    refine w_seq ?_
    have hka := keepC_all (l := l) (i := i) (by omega) hi2
    obtain ⟨i0, hi0⟩ : ∃ i0, i0 = i := ⟨i, rfl⟩
    subst hi0
    refine w_region ?_
    refine l_cons rfl (p_assign ?_)
    refine l_nil ?_
    refine k_seq_normal ?_
    refine w_block ?_
    refine w_loop (fun m f es' => ∃ k i G, m = l.length - i0 - k ∧ 0 < k ∧ k ≤ l.length - i0 ∧ (keepC l (i0 + k)).length = i ∧ (keepC l (i0 + k)).length + G.length = i0 + k ∧ 0 < G.length ∧ G.getLast? = l[i0 + k - 1]? ∧ Sub (.row s 29 6 ((keepC l (i0 + k) ++ G ++ l.drop (i0 + k)).map Rx.cells) :: T) es' ∧ Knows f [(0, .own T.length s), (1, .fn (.func 139) [] []), (5, .int .i64 (i : Int)), (6, .tail T.length s i0 6), (7, .int .i64 (k : Int))]) (l.length - i0 - 1) (⟨1, i0, [(l[i0]'(by omega))], rfl, Nat.one_pos, by omega, by rw [keepC_drop (by omega) (by omega) h3', hka, List.length_take]; omega, by rw [keepC_drop (by omega) (by omega) h3', hka, List.length_take]; simp; omega, by simp, by rw [Nat.add_sub_cancel, List.getElem?_eq_getElem (by omega)]; rfl, by rw [keepC_drop (by omega) (by omega) h3', hka, List.append_assoc, List.singleton_append, ← drop_cons (by omega), List.take_append_drop]; exact Sub.refl _, kn⟩) ?_
    rintro m f es' ⟨k, i, G, rfl, hk0, hk1, hlA, hlj, hG0, hGl, hsub, hk⟩
    rw [List.getElem?_eq_getElem (by omega)] at hGl
    refine w_pins _ hsub (hk) ?_
    simp only [pins]
    refine w_seq ?_
    refine w_seq ?_
    refine w_region ?_
    refine l_cons rfl (p_move ?_)
    refine l_cons rfl (p_move ?_)
    refine l_cons rfl (p_lent sl_27 (a := .int .i64 ((l.length - i0 : Nat) : Int)) ?_ (ha := by rw [mid_len hlj (by omega)]))
    refine l_cons rfl (p_cmp ?_)
    refine l_nil ?_
    refine k_seq_normal ?_
    refine w_b (fun h4 => ?_) (fun h4 => ?_)
    ·skip
     have h4' := h4; (try simp only [bb] at h4')
     refine w_skip ?_
     refine k_seq_normal ?_
     refine w_seq ?_
     refine w_block ?_
     refine w_seq ?_
     refine w_drawn 10 [] (fun e => e = _) mixed (by kernel_rfl) rfl ?_
     refine q1 1 (hg := rfl) (hu := rfl) (h := by rintro f _ rfl; exact p_move ⟨rfl, rfl⟩) (k := ?_)
     refine q1 6 (hg := rfl) (hu := rfl) (h := by rintro f _ rfl; exact p_move ⟨rfl, rfl⟩) (k := ?_)
     refine q1 7 (hg := rfl) (hu := rfl) (h := by rintro f _ rfl; exact p_move ⟨rfl, rfl⟩) (k := ?_)
     refine q2 39 40 (hg := rfl) (hu := rfl) (h := by rintro f _ rfl; exact p_ixt sl_27 (a := .ptr T.length s (i0 + k) 0) ⟨rfl, rfl⟩ (h0 := by omega) (h1 := by rw [mid_len hlj (by omega)]; omega) (ho := rfl)) (k := ?_)
     refine q1 41 (hg := rfl) (hu := rfl) (h := by rintro f _ rfl; exact p_loadp ty_29 (a := .agg (l[i0 + k]'(by omega)).cells) ⟨rfl, rfl⟩ (hr := mid_at hlj (by omega)) (hl := Nat.le_refl 6) (ha := rfl)) (k := ?_)
     refine q1 6 (hg := rfl) (hu := rfl) (h := by rintro f _ rfl; exact p_move ⟨rfl, rfl⟩) (k := ?_)
     refine q1 7 (hg := rfl) (hu := rfl) (h := by rintro f _ rfl; exact p_move ⟨rfl, rfl⟩) (k := ?_)
     refine q1 44 (hg := rfl) (hu := rfl) (h := by rintro f _ rfl; exact p_arith ⟨rfl, rfl⟩) (k := ?_)
     refine q2 43 45 (hg := rfl) (hu := rfl) (h := by rintro f _ rfl; exact p_ixt sl_27 (a := .ptr T.length s (i0 + k - 1) 0) ⟨rfl, rfl⟩ (h0 := by omega) (h1 := by rw [mid_len hlj (by omega)]; omega) (ho := by congr 1; omega)) (k := ?_)
     refine q1 46 (hg := rfl) (hu := rfl) (h := by rintro f _ rfl; exact p_loadp ty_29 (a := .agg (l[i0 + k - 1]'(by omega)).cells) ⟨rfl, rfl⟩ (hr := prev_at hlj hGl) (hl := Nat.le_refl 6) (ha := rfl)) (k := ?_)
     refine q_end ?_
     refine m_end ?_
     refine l_cons rfl (p_callr en_139 (rxEqual hT (l[i0 + k]'(by omega)) (l[i0 + k - 1]'(by omega)) (ho _ (List.getElem_mem _)) (ho _ (List.getElem_mem _))) ?_)
     refine l_cons rfl (p_not ?_)
     refine l_nil ?_
     refine k_seq_normal ?_
     refine w_b (fun h5 => ?_) (fun h5 => ?_)
     ·skip
      have h5' := h5; (try simp only [bb] at h5')
      refine w_seq ?_
      refine w_region ?_
      refine l_cons rfl (p_move ?_)
      refine l_cons rfl (p_move ?_)
      refine l_cons rfl (p_move ?_)
      refine l_cons rfl (p_move ?_)
      refine l_cons rfl (p_ixt sl_27 (a := .ptr T.length s (i0 + k) 0) ?_ (h0 := by omega) (h1 := by rw [mid_len hlj (by omega)]; omega) (ho := rfl))
      refine l_cons rfl (p_loadp ty_29 (a := .agg (l[i0 + k]'(by omega)).cells) ?_ (hr := mid_at hlj (by omega)) (hl := Nat.le_refl 6) (ha := rfl))
      refine l_cons rfl (p_ixo sl_27 (a := .ptr T.length s i 0) ?_ (h0 := by omega) (h1 := by rw [mid_len hlj (by omega)]; omega) (ho := rfl))
      refine l_cons rfl (p_store ty_29 (rows' := (((keepC l (i0 + k) ++ [(l[i0 + k]'(by omega))]) ++ (G.tail ++ [(l[i0 + k]'(by omega))]) ++ l.drop (i0 + k + 1)).map Rx.cells)) (r' := (l[i0 + k]'(by omega)).cells) ?_ (hr := head_at hlA hG0) (hl := Nat.le_refl 6) (hr' := rfl) (hrs := keep_set hlA hG0 (by omega)))
      refine l_nil ?_
      refine k_seq_normal ?_
      refine w_region ?_
      refine l_cons rfl (p_move ?_)
      refine l_cons rfl (p_arith ?_)
      refine l_cons rfl (p_assign ?_)
      refine l_nil ?_
      refine k_blk_normal ?_
      refine k_seq_normal ?_
      refine w_region ?_
      refine l_cons rfl (p_move ?_)
      refine l_cons rfl (p_arith ?_)
      refine l_cons rfl (p_assign ?_)
      refine l_nil ?_
      refine k_seq_normal ?_
      first
      | exact ⟨l.length - i0 - (k + 1), by omega, k + 1, i + 1, G.tail ++ [(l[i0 + k]'(by omega))], rfl, by omega, by omega, by rw [← Nat.add_assoc, keepC_keep (by omega) (by omega) h5', List.length_append, hlA]; rfl, by rw [← Nat.add_assoc, keepC_keep (by omega) (by omega) h5', List.length_append, tail_len hG0]; simp; omega, by simp, by rw [← Nat.add_assoc, Nat.add_sub_cancel, List.getElem?_eq_getElem (by omega)]; simp, by rw [← Nat.add_assoc, keepC_keep (by omega) (by omega) h5']; exact Sub.refl _, kn⟩
      | exact ⟨l.length - i0 - (k + 1), by omega, k + 1, i, G ++ [(l[i0 + k]'(by omega))], rfl, by omega, by omega, by rw [← Nat.add_assoc, keepC_drop (by omega) (by omega) h5', hlA], by rw [← Nat.add_assoc, keepC_drop (by omega) (by omega) h5', List.length_append]; simp; omega, by simp, by rw [← Nat.add_assoc, Nat.add_sub_cancel, List.getElem?_eq_getElem (by omega)]; simp, by rw [← Nat.add_assoc, keepC_drop (by omega) (by omega) h5', ← List.append_assoc, List.append_assoc _ [_], List.singleton_append, ← drop_cons (by omega)]; exact Sub.refl _, kn⟩
     ·skip
      have h5' := h5; (try simp only [bb] at h5')
      refine w_skip ?_
      refine k_blk_normal ?_
      refine k_seq_normal ?_
      refine w_region ?_
      refine l_cons rfl (p_move ?_)
      refine l_cons rfl (p_arith ?_)
      refine l_cons rfl (p_assign ?_)
      refine l_nil ?_
      refine k_seq_normal ?_
      first
      | exact ⟨l.length - i0 - (k + 1), by omega, k + 1, i + 1, G.tail ++ [(l[i0 + k]'(by omega))], rfl, by omega, by omega, by rw [← Nat.add_assoc, keepC_keep (by omega) (by omega) h5', List.length_append, hlA]; rfl, by rw [← Nat.add_assoc, keepC_keep (by omega) (by omega) h5', List.length_append, tail_len hG0]; simp; omega, by simp, by rw [← Nat.add_assoc, Nat.add_sub_cancel, List.getElem?_eq_getElem (by omega)]; simp, by rw [← Nat.add_assoc, keepC_keep (by omega) (by omega) h5']; exact Sub.refl _, kn⟩
      | exact ⟨l.length - i0 - (k + 1), by omega, k + 1, i, G ++ [(l[i0 + k]'(by omega))], rfl, by omega, by omega, by rw [← Nat.add_assoc, keepC_drop (by omega) (by omega) h5', hlA], by rw [← Nat.add_assoc, keepC_drop (by omega) (by omega) h5', List.length_append]; simp; omega, by simp, by rw [← Nat.add_assoc, Nat.add_sub_cancel, List.getElem?_eq_getElem (by omega)]; simp, by rw [← Nat.add_assoc, keepC_drop (by omega) (by omega) h5', ← List.append_assoc, List.append_assoc _ [_], List.singleton_append, ← drop_cons (by omega)]; exact Sub.refl _, kn⟩
    ·skip
     have h4' := h4; (try simp only [bb] at h4')
     refine w_exit ?_
     refine k_seq_exit ?_
     refine k_seq_exit ?_
     refine k_blk_here ?_
     refine k_seq_normal ?_
     refine w_seq ?_
     refine w_region ?_
     refine l_cons rfl (p_move ?_)
     refine l_cons rfl (p_move ?_)
     refine l_cons rfl (p_slicet (k := i) sl_27 ?_ (hk := by rw [mid_len hlj (by omega)]; omega))
     refine l_cons rfl (p_cleart sl_27 ze_29 ?_)
     refine l_nil ?_
     refine k_seq_normal ?_
     refine w_seq ?_
     refine w_region ?_
     refine l_cons rfl (p_move ?_)
     refine l_cons rfl (p_move ?_)
     refine l_cons rfl (p_sliceo (h := i) sl_27 (fun s64 => ?_) (hh := by rw [List.length_append, List.length_take, mid_len hlj (by omega)]; omega))
     refine l_cons rfl (p_assign ?_)
     refine l_nil ?_
     refine k_seq_normal ?_
     rw [fin_take hlA, show i0 + k = l.length by omega]
     refine w_ret ?_
     refine k_blk_ret ?_
     refine k_seq_ret ?_
     refine k_seq_ret ?_
     refine k_blk_ret ?_
     refine k_seq_ret ?_
     exact ret1 rfl ev1 subx ⟨_, rfl, rfl⟩
   ·skip
    have h3' := h3; (try simp only [bb] at h3')
    refine w_skip ?_
    refine k_blk_normal ?_
    refine k_seq_normal ?_
    refine w_region ?_
    refine l_cons rfl (p_move ?_)
    refine l_cons rfl (p_arith ?_)
    refine l_cons rfl (p_assign ?_)
    refine l_nil ?_
    refine k_seq_normal ?_
    exact ⟨l.length - (i + 1), by omega, i + 1, rfl, by omega, by omega, fun m h0 h1 h2 => by
     rcases Nat.lt_or_eq_of_le (Nat.le_of_lt_succ h1) with h9 | h9
     ·exact hi2 m h0 h9 h2
     ·subst h9; simpa using h3', rfl, kn⟩
  ·skip
   have h2' := h2; (try simp only [bb] at h2')
   refine w_exit ?_
   refine k_seq_exit ?_
   refine k_seq_exit ?_
   refine k_blk_here ?_
   refine k_seq_normal ?_
   refine w_seq ?_
   refine w_region ?_
   refine l_cons rfl (p_move ?_)
   refine l_cons rfl (p_assign ?_)
   refine l_nil ?_
   refine k_seq_normal ?_
   refine w_ret ?_
   exact ret1 rfl ev1 subx ⟨_, rfl, by rw [keepC_all (l := l) (i := l.length) (Nat.le_refl _) (fun m h0 h1 h2 => hi2 m h0 (by omega) h2), List.take_length]⟩
end
section
theorem cmp_zero {a b : Rx} (ha : a.tidy) (hb : b.tidy) : a.cmp b = 0 ↔ a = b :=
 ⟨Rx.cmp_eq a b ha hb, fun h => h ▸ Rx.cmp_refl a⟩
theorem keepC_mem {l : List Rx} (ht : Rx.tidyL l) : ∀ {j : Nat}, j ≤ l.length → ∀ x, x ∈ keepC l j ↔ x ∈ l.take j
 | 0, _, x => by simp [keepC]
 | j + 1, h, x => by
  have ih := keepC_mem ht (j := j) (by omega) x
  have hj : j < l.length := by omega
  rw [List.take_add_one, List.getElem?_eq_getElem hj, List.mem_append, ← ih]
  by_cases h0 : j = 0
  ·subst h0
   simp [keepC, List.getD_eq_getElem?_getD, List.getElem?_eq_getElem hj]
  ·by_cases hk : (l[j]).cmp l[j - 1] = 0
   ·rw [keepC_drop hj (by omega) hk]
    have e := (cmp_zero ((Rx.tidyL_iff l).1 ht _ (List.getElem_mem hj)) ((Rx.tidyL_iff l).1 ht _ (List.getElem_mem _))).1 hk
    constructor
    ·exact .inl
    ·rintro (h1 | h1)
     ·exact h1
     ·simp at h1
      rw [ih, List.mem_take_iff_getElem]
      exact ⟨j - 1, by omega, by rw [h1, e]⟩
   ·rw [keepC_keep hj (by omega) hk]
    simp
theorem keepC_sorted {l : List Rx} (ht : Rx.tidyL l) (hu : UpR l) : ∀ {j : Nat}, j ≤ l.length → SortedR (keepC l j)
 | 0, _ => by simp [keepC, SortedR]
 | j + 1, h => by
  have ih := keepC_sorted ht hu (j := j) (by omega)
  have hj : j < l.length := by omega
  have tj : ∀ m (h : m < l.length), (l[m]).tidy := fun m h => (Rx.tidyL_iff l).1 ht _ (List.getElem_mem h)
  have up : ∀ m n (h1 : m < n) (h2 : n < l.length), (l[m]).cmp l[n] ≤ 0 := fun m n h1 h2 => List.pairwise_iff_getElem.1 hu m n (by omega) h2 h1
  by_cases h0 : j = 0
  ·subst h0
   simp [keepC, SortedR]
  ·by_cases hk : (l[j]).cmp l[j - 1] = 0
   ·rw [keepC_drop hj (by omega) hk]
    exact ih
   ·rw [keepC_keep hj (by omega) hk]
    unfold SortedR at ih ⊢
    rw [List.pairwise_append]
    refine ⟨ih, List.pairwise_singleton _ _, fun a ha b hb => ?_⟩
    rw [List.mem_singleton] at hb
    subst hb
    rw [keepC_mem ht (by omega), List.mem_take_iff_getElem] at ha
    obtain ⟨m, hm, rfl⟩ := ha
    have h1 := up m j (by omega) hj
    have h2 := Rx.cmp_range l[m] l[j]
    have h3 : ¬ (l[m]).cmp l[j] = 0 := by
     intro e
     have e2 := (cmp_zero (tj m (by omega)) (tj j hj)).1 e
     apply hk
     by_cases hmj : m = j - 1
     ·subst hmj
      rw [e2]; exact Rx.cmp_refl _
     ·have h4 := up m (j - 1) (by omega) (by omega)
      have h5 := up (j - 1) j (by omega) hj
      have h6 := Rx.cmp_swap _ _ (tj (j - 1) (by omega)) (tj j hj)
      rw [e2] at h4
      omega
    omega
/-- What Alt hands to the sort. -/
def outsO (l : List Rx) : List Rx := l.filter fun r => decide (r.kind ≠ 1) && decide (r.kind ≠ 3)
def altAll (l : List Rx) : List Rx := outsO (flatR 5 l) ++ (if altSet noSet (flatR 5 l) = noSet then [] else [bytesR (altSet noSet (flatR 5 l))])
theorem outsO_keep {l : List Rx} {k : Nat} (h : k < l.length) (h1 : ¬ (l[k]).kind = 1) (h3 : ¬ (l[k]).kind = 3) : outsO (l.take (k + 1)) = outsO (l.take k) ++ [l[k]] := by
 unfold outsO
 rw [List.take_add_one, List.getElem?_eq_getElem h, List.filter_append]
 simp [h1, h3]
theorem outsO_drop {l : List Rx} {k : Nat} (h : k < l.length) (h1 : (l[k]).kind = 1 ∨ (l[k]).kind = 3) : outsO (l.take (k + 1)) = outsO (l.take k) := by
 unfold outsO
 rw [List.take_add_one, List.getElem?_eq_getElem h, List.filter_append]
 rcases h1 with h1 | h1 <;> simp [h1]
theorem nodesL_filter (p : Rx → Bool) : ∀ l : List Rx, Rx.nodesL (l.filter p) ≤ Rx.nodesL l
 | [] => by simp
 | x :: t => by
  rw [List.filter_cons]
  have := nodesL_filter p t
  split <;> simp only [Rx.nodesL] <;> omega
theorem nodesL_perm {a b : List Rx} (h : a.Perm b) : Rx.nodesL a = Rx.nodesL b := by
 induction h with
 | nil => rfl
 | cons x _ ih => simp only [Rx.nodesL, ih]
 | swap x y l => simp only [Rx.nodesL]; omega
 | trans _ _ i1 i2 => exact i1.trans i2
theorem keepC_nodes (l : List Rx) : ∀ j, j ≤ l.length → Rx.nodesL (keepC l j) ≤ Rx.nodesL (l.take j)
 | 0, _ => by simp [keepC, Rx.nodesL]
 | j + 1, h => by
  have ih := keepC_nodes l j (by omega)
  have hj : j < l.length := by omega
  rw [keepC, List.take_add_one, List.getElem?_eq_getElem hj, nodesL_append, nodesL_append]
  have e : l.getD j default = l[j] := by rw [List.getD_eq_getElem?_getD, List.getElem?_eq_getElem hj]; rfl
  rw [e]
  split <;> simp only [Option.toList_some, Rx.nodesL] <;> omega
theorem bytesR_node1 (s : W4) : (bytesR s).nodes = 1 := by
 unfold bytesR; split <;> simp [noneR, Rx.nodes, Rx.nodesL]
theorem altAll_nds (l : List Rx) : Rx.nodesL (altAll l) ≤ Rx.nodesL l + 1 := by
 unfold altAll
 rw [nodesL_append]
 have h1 := nodesL_filter (fun r => decide (r.kind ≠ 1) && decide (r.kind ≠ 3)) (flatR 5 l)
 have h2 := flat_nodes 5 l
 unfold outsO
 split <;> simp only [Rx.nodesL, bytesR_node1] <;> omega
theorem altAll_ok {l : List Rx} (h : ∀ r ∈ l, r.ok ∧ r.tidy) : ∀ r ∈ altAll l, r.ok ∧ r.tidy := by
 have ho := flat_ok (k := 5) (fun r hr => (h r hr).1)
 have ht := (Rx.tidyL_iff _).1 (flat_tidy (k := 5) ((Rx.tidyL_iff l).2 fun r hr => (h r hr).2))
 intro r hr
 unfold altAll at hr
 rcases List.mem_append.1 hr with hr | hr
 ·have := (List.mem_filter.1 hr).1
  exact ⟨ho r this, ht r this⟩
 ·split at hr
  ·simp at hr
  ·rename_i hne
   rw [List.mem_singleton] at hr
   subst hr
   have hs := altSet_ok noSet_ok (fun r hr => tidy_set (ht r hr))
   refine ⟨bytesR_ok hs, ?_⟩
   unfold bytesR
   rw [if_neg hne]
   exact tidy_mkset hs
theorem alt_sorted {l l2 : List Rx} (h : ∀ r ∈ l, r.ok ∧ r.tidy) (hp : l2.Perm (altAll l)) (hu : UpR l2) : altOf (keepC l2 l2.length) = altR l := by
 have ht2 : Rx.tidyL l2 := (Rx.tidyL_iff _).2 fun r hr => (altAll_ok h r (hp.mem_iff.1 hr)).2
 have htf := flat_tidy (k := 5) ((Rx.tidyL_iff l).2 fun r hr => (h r hr).2)
 have hs := altSet_ok noSet_ok (fun r hr => tidy_set ((Rx.tidyL_iff _).1 htf r hr))
 obtain ⟨a1, a2, a3⟩ := altOuts_props htf (o := []) (by simp [Rx.tidyL]) (by simp [SortedR])
 obtain ⟨b1, b2, b3⟩ := altFin_props a1 a2 hs
 unfold altR
 congr 1
 refine sorted_unique ?_ b1 (keepC_sorted ht2 hu (Nat.le_refl _)) b2 fun x => ?_
 ·rw [Rx.tidyL_iff]
  intro r hr
  rw [keepC_mem ht2 (Nat.le_refl _), List.take_length] at hr
  exact (Rx.tidyL_iff _).1 ht2 r hr
 ·rw [keepC_mem ht2 (Nat.le_refl _), List.take_length, hp.mem_iff, b3, a3]
  unfold altAll outsO
  rw [List.mem_append, List.mem_filter]
  simp only [Bool.and_eq_true, decide_eq_true_eq, List.not_mem_nil, false_or]
  refine or_congr Iff.rfl ?_
  by_cases e : altSet noSet (flatR 5 l) = noSet
  ·simp [e]
  ·rw [if_neg e]
   unfold bytesR
   rw [if_neg e]
   simp [e]
end
set_option maxRecDepth 8000
section
open Go.RowKit Go.Proofs
theorem catR_yes {l : List Rx} (h : ((flatR 4 l).any fun r => decide (r.kind = 1)) = true) : catR l = noneR := by unfold catR; rw [if_pos h]
theorem catR_no {l : List Rx} (h : ((flatR 4 l).any fun r => decide (r.kind = 1)) = false) : catR l = catOf (outE (flatR 4 l)) := by unfold catR outE; rw [if_neg (by rw [h]; decide)]
theorem none2_walk {w0 : World} {es : List Ent} : ACalls Tryd.prog w0 105 [] es fun v es' => v = .agg [.int .i64 1, .int .u64 0, .int .u64 0, .int .u64 0, .int .u64 0, .nil] ∧ es' = es := by
 refine calls0 (N := 2) Tryd.func105 rfl rfl ?_
 refine w_seq ?_
 refine w_region ?_
 refine l_cons rfl (p_alloc ze_29 fun s0 => ?_)
 refine l_nil ?_
 refine k_seq_normal ?_
 refine w_seq ?_
 refine w_region ?_
 refine l_cons rfl (p_build ze_29 pl_29 ?_)
 refine l_cons rfl (p_store ty_29 ?_)
 refine l_nil ?_
 refine k_seq_normal ?_
 refine w_ret ?_
 exact retc rfl ty_29 subx ⟨rfl, rfl⟩
theorem empty2_walk {w0 : World} {es : List Ent} : ACalls Tryd.prog w0 101 [] es fun v es' => v = .agg [.int .i64 2, .int .u64 0, .int .u64 0, .int .u64 0, .int .u64 0, .nil] ∧ es' = es := by
 refine calls0 (N := 2) Tryd.func101 rfl rfl ?_
 refine w_seq ?_
 refine w_region ?_
 refine l_cons rfl (p_alloc ze_29 fun s0 => ?_)
 refine l_nil ?_
 refine k_seq_normal ?_
 refine w_seq ?_
 refine w_region ?_
 refine l_cons rfl (p_build ze_29 pl_29 ?_)
 refine l_cons rfl (p_store ty_29 ?_)
 refine l_nil ?_
 refine k_seq_normal ?_
 refine w_ret ?_
 exact retc rfl ty_29 subx ⟨rfl, rfl⟩
theorem bytes2_walk {w0 : World} {es : List Ent} (s : W4) : ACalls Tryd.prog w0 134 [.agg s.row] es fun v es' => v = .agg (if s = noSet then [.int .i64 1, .int .u64 0, .int .u64 0, .int .u64 0, .int .u64 0, .nil] else [.int .i64 3, .int .u64 s.w0, .int .u64 s.w1, .int .u64 s.w2, .int .u64 s.w3, .nil]) ∧ es' = es := by
 unfold W4.row
 refine calls1 (N := 9) Tryd.func134 rfl rfl (by decide) ?_
 refine w_seq ?_
 refine w_region ?_
 refine l_cons rfl (p_box fun s1 => ?_)
 refine l_cons rfl (p_alloc ze_29 fun s2 => ?_)
 refine l_nil ?_
 refine k_seq_normal ?_
 refine w_seq ?_
 refine w_seq ?_
 refine w_region ?_
 refine l_cons rfl (p_loadp ty_26 ?_)
 refine l_cons rfl (p_buildArr ze_26 ar_26 ?_)
 refine l_cons rfl (p_eqa ai_26 ?_ (hb := eqA s noSet))
 refine l_nil ?_
 refine k_seq_normal ?_
 refine w_b (fun h1 => ?_) (fun h1 => ?_)
 ·skip
  have h1' := h1; (try simp only [bb] at h1')
  refine w_seq ?_
  refine w_region ?_
  refine l_cons rfl (p_callr en_105 (none2_walk) ?_)
  refine l_cons rfl (p_store ty_29 ?_)
  refine l_nil ?_
  refine k_seq_normal ?_
  refine w_ret ?_
  refine k_seq_ret ?_
  exact retc rfl ty_29 subx ⟨by rw [if_pos h1'], rfl⟩
 ·skip
  have h1' := h1; (try simp only [bb] at h1')
  refine w_skip ?_
  refine k_seq_normal ?_
  refine w_seq ?_
  refine w_region ?_
  refine l_cons rfl (p_loadp ty_26 ?_)
  refine l_cons rfl (p_build ze_29 pl_29 ?_)
  refine l_cons rfl (p_store ty_29 ?_)
  refine l_nil ?_
  refine k_seq_normal ?_
  refine w_ret ?_
  exact retc rfl ty_29 subx ⟨by rw [if_neg h1'], rfl⟩
theorem rxNone {w0 : World} {es : List Ent} : ACalls Tryd.prog w0 105 [] es fun v es' => v = .agg noneR.cells ∧ es' = es := ACalls.weak (fun _ _ _ h => rep_aggNil 6 (l := [.int .i64 1, .int .u64 0, .int .u64 0, .int .u64 0, .int .u64 0, .nil]) h) none2_walk
theorem rxEmpty {w0 : World} {es : List Ent} : ACalls Tryd.prog w0 101 [] es fun v es' => v = .agg emptyR.cells ∧ es' = es := ACalls.weak (fun _ _ _ h => rep_aggNil 6 (l := [.int .i64 2, .int .u64 0, .int .u64 0, .int .u64 0, .int .u64 0, .nil]) h) empty2_walk
theorem rxBytes {w0 : World} {es : List Ent} (s : W4) : ACalls Tryd.prog w0 134 [.agg s.row] es fun v es' => v = .agg (bytesR s).cells ∧ es' = es := by
 by_cases h : s = noSet
 ·have := bytes2_walk (w0 := w0) (es := es) s
  rw [if_pos h] at this
  unfold bytesR
  rw [if_pos h]
  exact ACalls.weak (fun _ _ _ h => rep_aggNil 6 (l := [.int .i64 1, .int .u64 0, .int .u64 0, .int .u64 0, .int .u64 0, .nil]) h) this
 ·have := bytes2_walk (w0 := w0) (es := es) s
  rw [if_neg h] at this
  unfold bytesR
  rw [if_neg h]
  exact ACalls.weak (fun _ _ _ h => rep_aggNil 6 (l := [.int .i64 3, .int .u64 s.w0, .int .u64 s.w1, .int .u64 s.w2, .int .u64 s.w3, .nil]) h) this
theorem rxSortTop {w0 : World} (hT : Tab w0) {T : List Ent} {s : Nat} {l : List Rx} (hl : ∀ r ∈ l, r.ok ∧ r.tidy) :
  ACalls Tryd.prog w0 135 [.own T.length s, .fn (.func 136) [] []] (.row s 29 6 (l.map Rx.cells) :: T) fun v es' => v = .tup [] ∧ ∃ l' : List Rx, l'.Perm l ∧ UpR l' ∧ es' = .row s 29 6 (l'.map Rx.cells) :: T :=
 (rxSort hT hl (at_hit _ _)).mono fun v es' h => by
  obtain ⟨h1, l', h2, h3, h4⟩ := h
  exact ⟨h1, l', h2, h3, by rw [h4, setAt_hit]⟩
theorem rxCat {w0 : World} {es : List Ent} (l : List Rx) (hn : Rx.nodesL l ≤ 1048575) : ACalls Tryd.prog w0 103 [.list 6 (l.map Rx.cells)] es fun v es' => v = .agg (catR l).cells ∧ es' = es := by
 have hfn := flat_nodes 4 l
 have hfl := Rx.len_le (flatR 4 l)
 have hou := nodesL_filter (fun r => decide (r.kind ≠ 2)) (flatR 4 l)
 refine calls1 (N := 13) Tryd.func103 rfl rfl (by decide) ?_
 refine w_seq ?_
 refine w_region ?_
 refine l_cons rfl (p_alloc ze_29 fun s2 => ?_)
 refine l_nil ?_
 refine k_seq_normal ?_
 refine w_seq ?_
 refine w_region ?_
 refine l_cons rfl (p_move ?_)
 refine l_cons rfl (p_call en_131 ((rxFlat 4 l (by omega)).mono ?_))
 rintro _ es1 ⟨s5, rfl, rfl⟩
 refine l_cons rfl (p_assign ?_)
 refine l_nil ?_
 refine k_seq_normal ?_
 refine w_seq ?_
 refine w_seq ?_
 refine w_region ?_
 refine l_cons rfl (p_move ?_)
 refine l_cons rfl (p_callr en_140 (containsFuncO (l1 := []) (l2 := []) (fun r => decide (r.kind = 1)) en_132 (by omega) (at_hit _ _) (fun x _ => isNone_walk x)) ?_)
 refine l_nil ?_
 refine k_seq_normal ?_
 refine w_b (fun h1 => ?_) (fun h1 => ?_)
 ·skip
  have h1' := h1; (try simp only [bb] at h1')
  refine w_seq ?_
  refine w_region ?_
  refine l_cons rfl (p_callr en_105 (rxNone) ?_)
  refine l_cons rfl (p_store ty_29 ?_)
  refine l_nil ?_
  refine k_seq_normal ?_
  refine w_ret ?_
  refine k_seq_ret ?_
  rw [← catR_yes h1']
  exact retc rfl ty_29 subx ⟨rfl, rfl⟩
 ·skip
  have h1' := h1; (try simp only [bb] at h1')
  refine w_skip ?_
  refine k_seq_normal ?_
  refine w_seq ?_
  refine w_region ?_
  refine l_cons rfl (p_move ?_)
  refine l_cons rfl (p_call en_141 ((deleteEmpty (flatR 4 l) (by omega)).mono ?_))
  rintro _ es1 ⟨s10, rfl, rfl⟩
  refine l_cons rfl (p_callr en_101 (rxEmpty) ?_)
  refine l_freeze 10 rfl loc_hit (cleans_rx _) ?_
  refine l_cons rfl (p_callr en_137 (rxOf 4 (outE (flatR 4 l)) emptyR (by unfold outE; omega)) ?_)
  refine l_cons rfl (p_store ty_29 ?_)
  refine l_nil ?_
  refine k_seq_normal ?_
  refine w_ret ?_
  rw [ofR_cat, ← catR_no h1']
  exact retc rfl ty_29 subx ⟨rfl, rfl⟩
theorem rxAlt {w0 : World} (hT : Tab w0) {es : List Ent} (l : List Rx) (ho : ∀ r ∈ l, r.ok ∧ r.tidy) (hn : Rx.nodesL l ≤ 1048000) : ACalls Tryd.prog w0 102 [.list 6 (l.map Rx.cells)] es fun v es' => v = .agg (altR l).cells ∧ es' = es := by
 have hfn := flat_nodes 5 l
 have hfl := Rx.len_le (flatR 5 l)
 have hfo := flat_ok (k := 5) (fun r hr => (ho r hr).1)
 have han := altAll_nds l
 have hal := Rx.len_le (altAll l)
 refine calls1 (N := 43) Tryd.func102 rfl rfl (by decide) ?_
 refine w_seq ?_
 refine w_region ?_
 refine l_cons rfl (p_alloc ze_29 fun s2 => ?_)
 refine l_nil ?_
 refine k_seq_normal ?_
 refine w_seq ?_
 refine w_region ?_
 refine l_cons rfl (p_alloc ze_26 fun s3 => ?_)
 refine l_nil ?_
 refine k_seq_normal ?_
 refine w_seq ?_
 refine w_region ?_
 refine l_cons rfl (p_assign ?_)
 refine l_nil ?_
 refine k_seq_normal ?_
 refine w_seq ?_
 refine w_seq ?_
 refine w_adopt 4 29 6 rfl fun s4 => ?_
 simp only [upd_upd]
 refine w_region ?_
 refine l_cons rfl (p_move ?_)
 refine l_cons rfl (p_call en_131 ((rxFlat 5 l (by omega)).mono ?_))
 rintro _ es1 ⟨s8, rfl, rfl⟩
 refine l_freeze 8 rfl loc_hit (cleans_rx _) ?_
 refine l_cons rfl (p_lenl sl_27 ?_)
 refine l_cons rfl (p_move ?_)
 refine l_nil ?_
 refine k_seq_normal ?_
 refine w_block ?_
 refine w_loop (fun m f es' => ∃ k s4, m = (flatR 5 l).length - k ∧ k ≤ (flatR 5 l).length ∧ Sub (.row s4 29 6 ((outsO ((flatR 5 l).take k)).map Rx.cells) :: .row s3 26 4 [[.int .u64 (altSet noSet ((flatR 5 l).take k)).w0, .int .u64 (altSet noSet ((flatR 5 l).take k)).w1, .int .u64 (altSet noSet ((flatR 5 l).take k)).w2, .int .u64 (altSet noSet ((flatR 5 l).take k)).w3]] :: .row s2 29 6 [[.int .i64 0, .int .u64 0, .int .u64 0, .int .u64 0, .int .u64 0, .nil]] :: es) es' ∧ Knows f [(2, .ptr es.length s2 0 0), (3, .ptr (es.length + 1) s3 0 0), (4, .own (es.length + 2) s4), (8, .list 6 ((flatR 5 l).map Rx.cells)), (9, .int .i64 (flatR 5 l).length), (10, .int .i64 k)]) ((flatR 5 l).length) (⟨0, s4, rfl, Nat.zero_le _, sub1 _ _, kn⟩) ?_
 rintro m f es' ⟨k, s4, rfl, hk1, hsub, hk⟩
 refine w_pins _ hsub (hk) ?_
 simp only [pins]
 refine w_seq ?_
 refine w_region ?_
 refine l_cons rfl (p_cmp ?_)
 refine l_nil ?_
 refine k_seq_normal ?_
 refine w_seq ?_
 refine w_b (fun h1 => ?_) (fun h1 => ?_)
 ·skip
  have h1' := h1; (try simp only [bb] at h1')
  refine w_skip ?_
  refine k_seq_normal ?_
  refine w_seq ?_
  refine w_block ?_
  refine w_seq ?_
  obtain ⟨hi1, hi2, hi3⟩ := altOuts_inv (flatR 5 l) hfo k hk1
  have hou := List.length_filter_le (fun r : Rx => decide (r.kind ≠ 1) && decide (r.kind ≠ 3)) ((flatR 5 l).take k)
  rw [List.length_take] at hou
  have hou2 : (outsO ((flatR 5 l).take k)).length ≤ k := by unfold outsO; omega
  refine w_region ?_
  refine l_cons rfl (p_ixl sl_27 ?_)
  refine l_cons rfl (p_loadf ty_29 ?_)
  refine l_cons rfl (p_alloc ze_29 fun s6 => ?_)
  refine l_cons rfl (p_store ty_29 ?_)
  refine l_nil ?_
  refine k_seq_normal ?_
  refine w_block ?_
  refine w_seq ?_
  refine w_region ?_
  refine l_cons rfl (p_loadp ty_29 ?_)
  refine l_cons rfl (p_callr en_132 (isNone_walk ((flatR 5 l)[k]'(by omega))) ?_)
  refine l_cons rfl (p_assign ?_)
  refine l_nil ?_
  refine k_seq_normal ?_
  refine w_b (fun h2 => ?_) (fun h2 => ?_)
  ·skip
   have h2' := h2; (try simp only [bb] at h2')
   refine w_skip ?_
   refine k_blk_normal ?_
   refine k_blk_normal ?_
   refine k_seq_normal ?_
   refine w_region ?_
   refine l_cons rfl (p_arith ?_)
   refine l_cons rfl (p_move ?_)
   refine l_nil ?_
   refine k_seq_normal ?_
   first
   | exact ⟨(flatR 5 l).length - (k + 1), by omega, k + 1, s4, rfl, by omega, by rw [altSet_succ _ (by omega), if_neg (by omega), outsO_drop (by omega) (.inl h2')]; exact sub1 _ _, kn⟩
   | exact ⟨(flatR 5 l).length - (k + 1), by omega, k + 1, s4, rfl, by omega, by rw [altSet_succ _ (by omega), if_pos (by omega), outsO_drop (by omega) (.inr h3')]; exact sub1 _ _, kn⟩
   | exact ⟨(flatR 5 l).length - (k + 1), by omega, k + 1, s17, rfl, by omega, by rw [altSet_succ _ (by omega), if_neg (by omega), outsO_keep (by omega) h2' h3', List.map_append]; exact sub1 _ _, kn⟩
  ·skip
   have h2' := h2; (try simp only [bb] at h2')
   refine w_seq ?_
   refine w_region ?_
   refine l_cons rfl (p_loadp ty_29 ?_)
   refine l_cons rfl (p_callr en_133 (isSet_walk ((flatR 5 l)[k]'(by omega))) ?_)
   refine l_cons rfl (p_assign ?_)
   refine l_nil ?_
   refine k_seq_normal ?_
   refine w_b (fun h3 => ?_) (fun h3 => ?_)
   ·skip
    have h3' := h3; (try simp only [bb] at h3')
    refine w_region ?_
    refine l_cons rfl (p_loadp ty_26 ?_)
    refine l_cons rfl (p_fap fa_29_1 ?_)
    refine l_cons rfl (p_loadp ty_26 (a := .agg ((flatR 5 l)[k]'(by omega)).set.row) ?_ (ha := set_load _))
    refine l_cons rfl (p_callr en_97 (or_set (altSet noSet ((flatR 5 l).take k)) ((flatR 5 l)[k]'(by omega)).set hi3 (hfo _ (List.getElem_mem _)).set) ?_)
    refine l_cons rfl (p_store ty_26 ?_)
    refine l_nil ?_
    refine k_blk_normal ?_
    refine k_blk_normal ?_
    refine k_seq_normal ?_
    refine w_region ?_
    refine l_cons rfl (p_arith ?_)
    refine l_cons rfl (p_move ?_)
    refine l_nil ?_
    refine k_seq_normal ?_
    first
    | exact ⟨(flatR 5 l).length - (k + 1), by omega, k + 1, s4, rfl, by omega, by rw [altSet_succ _ (by omega), if_neg (by omega), outsO_drop (by omega) (.inl h2')]; exact sub1 _ _, kn⟩
    | exact ⟨(flatR 5 l).length - (k + 1), by omega, k + 1, s4, rfl, by omega, by rw [altSet_succ _ (by omega), if_pos (by omega), outsO_drop (by omega) (.inr h3')]; exact sub1 _ _, kn⟩
    | exact ⟨(flatR 5 l).length - (k + 1), by omega, k + 1, s17, rfl, by omega, by rw [altSet_succ _ (by omega), if_neg (by omega), outsO_keep (by omega) h2' h3', List.map_append]; exact sub1 _ _, kn⟩
   ·skip
    have h3' := h3; (try simp only [bb] at h3')
    refine w_region ?_
    refine l_cons rfl (p_move ?_)
    refine l_cons rfl (p_loadp ty_29 ?_)
    refine l_cons rfl (p_buildList sl_27 ze_29 ?_)
    refine l_cons rfl (p_append sl_27 by_29 ze_29 (fun s17 => ?_) (hb := by simp only [List.length_map, List.length_take, List.length_append, List.length_cons, List.length_nil, most]; omega))
    refine l_cons rfl (p_assign ?_)
    refine l_nil ?_
    refine k_blk_normal ?_
    refine k_blk_normal ?_
    refine k_seq_normal ?_
    refine w_region ?_
    refine l_cons rfl (p_arith ?_)
    refine l_cons rfl (p_move ?_)
    refine l_nil ?_
    refine k_seq_normal ?_
    first
    | exact ⟨(flatR 5 l).length - (k + 1), by omega, k + 1, s4, rfl, by omega, by rw [altSet_succ _ (by omega), if_neg (by omega), outsO_drop (by omega) (.inl h2')]; exact sub1 _ _, kn⟩
    | exact ⟨(flatR 5 l).length - (k + 1), by omega, k + 1, s4, rfl, by omega, by rw [altSet_succ _ (by omega), if_pos (by omega), outsO_drop (by omega) (.inr h3')]; exact sub1 _ _, kn⟩
    | exact ⟨(flatR 5 l).length - (k + 1), by omega, k + 1, s17, rfl, by omega, by rw [altSet_succ _ (by omega), if_neg (by omega), outsO_keep (by omega) h2' h3', List.map_append]; exact sub1 _ _, kn⟩
 ·skip
  have h1' := h1; (try simp only [bb] at h1')
  refine w_exit ?_
  refine k_seq_exit ?_
  refine k_seq_exit ?_
  refine k_blk_here ?_
  refine k_seq_normal ?_
  refine w_cut (fun f es' => ∃ s4, Sub (.row s4 29 6 ((altAll l).map Rx.cells) :: .row s3 26 4 [[.int .u64 (altSet noSet (flatR 5 l)).w0, .int .u64 (altSet noSet (flatR 5 l)).w1, .int .u64 (altSet noSet (flatR 5 l)).w2, .int .u64 (altSet noSet (flatR 5 l)).w3]] :: .row s2 29 6 [[.int .i64 0, .int .u64 0, .int .u64 0, .int .u64 0, .int .u64 0, .nil]] :: es) es' ∧ Knows f [(2, .ptr es.length s2 0 0), (4, .own (es.length + 2) s4)]) ?_ ?_
  ·skip
   refine w_seq ?_
   obtain rfl : k = (flatR 5 l).length := by omega
   rw [List.take_length]
   have hou3 : (outsO (flatR 5 l)).length ≤ (flatR 5 l).length := List.length_filter_le _ _
   refine w_region ?_
   refine l_cons rfl (p_loadp ty_26 ?_)
   refine l_cons rfl (p_buildArr ze_26 ar_26 ?_)
   refine l_cons rfl (p_nea ai_26 ?_ (hb := neA (altSet noSet (flatR 5 l)) noSet))
   refine l_nil ?_
   refine k_seq_normal ?_
   refine w_b (fun h4 => ?_) (fun h4 => ?_)
   ·skip
    have h4' := h4; (try simp only [bb] at h4')
    refine w_region ?_
    refine l_cons rfl (p_move ?_)
    refine l_cons rfl (p_loadp ty_26 ?_)
    refine l_cons rfl (p_callr en_134 (rxBytes (altSet noSet (flatR 5 l))) ?_)
    refine l_cons rfl (p_buildList sl_27 ze_29 ?_)
    refine l_cons rfl (p_append sl_27 by_29 ze_29 (fun s36 => ?_) (hb := by simp only [List.length_map, List.length_take, List.length_append, List.length_cons, List.length_nil, most]; omega))
    refine l_cons rfl (p_assign ?_)
    refine l_nil ?_
    refine k_seq_normal ?_
    first
    | exact ⟨s36, by unfold altAll; rw [if_neg h4', List.map_append]; exact Sub.refl _, kn⟩
    | exact ⟨s4, by unfold altAll; rw [if_pos h4', List.append_nil]; exact Sub.refl _, kn⟩
   ·skip
    have h4' := h4; (try simp only [bb] at h4')
    refine w_skip ?_
    refine k_seq_normal ?_
    first
    | exact ⟨s36, by unfold altAll; rw [if_neg h4', List.map_append]; exact Sub.refl _, kn⟩
    | exact ⟨s4, by unfold altAll; rw [if_pos h4', List.append_nil]; exact Sub.refl _, kn⟩
  ·skip
   rintro f es' ⟨s4, hsub, hk⟩
   refine w_pins _ hsub (hk) ?_
   simp only [pins]
   refine w_seq ?_
   refine w_region ?_
   refine l_cons rfl (p_move ?_)
   refine l_cons rfl (p_call en_135 ((rxSortTop hT (altAll_ok ho)).mono ?_))
   rintro _ es1 ⟨rfl, l2, hperm, hup, rfl⟩
   have hkn := keepC_nodes l2 l2.length (Nat.le_refl _)
   rw [List.take_length, nodesL_perm hperm] at hkn
   refine l_nil ?_
   refine k_seq_normal ?_
   refine w_seq ?_
   refine w_region ?_
   refine l_cons rfl (p_move ?_)
   refine l_cons rfl (p_call en_138 ((compactRx hT l2 (by rw [hperm.length_eq]; omega) (fun r hr => (altAll_ok ho r (hperm.mem_iff.1 hr)).1)).mono ?_))
   rintro _ es1 ⟨s40, rfl, rfl⟩
   refine l_freeze 40 rfl loc_hit (cleans_rx _) ?_
   refine l_cons rfl (p_callr en_105 (rxNone) ?_)
   refine l_cons rfl (p_callr en_137 (rxOf 5 (keepC l2 l2.length) noneR (by omega)) ?_)
   refine l_cons rfl (p_store ty_29 ?_)
   refine l_nil ?_
   refine k_seq_normal ?_
   refine w_ret ?_
   rw [ofR_alt, alt_sorted ho hperm hup]
   exact retc rfl ty_29 subx ⟨rfl, rfl⟩
end
end Go.Proofs.YtfdgbghlanbddaaDoor.Av
