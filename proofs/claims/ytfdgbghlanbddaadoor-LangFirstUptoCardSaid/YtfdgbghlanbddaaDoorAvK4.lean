import Derived.Test.YtfdgbghlanbddaaDoorAvK0
import Derived.Test.YtfdgbghlanbddaaDoorAvK1
import Derived.Test.YtfdgbghlanbddaaDoorAvK2
import Derived.Test.YtfdgbghlanbddaaDoorAvK3
import Derived.BigFrame
import Derived.Shelf.SlSortCmp.NoneTotal
import Derived.Test.YtfdgbghlanbddaaDoorProg
import Derived.KernelRfl
set_option linter.unusedVariables false
set_option linter.unusedSimpArgs false
set_option maxRecDepth 8000
namespace Go.Proofs.YtfdgbghlanbddaaDoor.Av
open Go.RowKit Go.Proofs
theorem row_hit {s e sz : Nat} {rows rows' : List (List AV)} {y : Ent} {es : List Ent} (h : rows = rows') : at_ (.row s e sz rows :: y :: es) (es.length + 1) = some (.row s e sz rows') := by
 subst h
 exact at_hit _ _
theorem orP_same {q e : Nat → Bool} {n j : Nat} (h : chg q e n = false) (hj : j < n) : orP q e n j = q j := by
 rw [orP_done hj]
 unfold chg at h
 rw [List.any_eq_false] at h
 have := h j (List.mem_range.2 hj)
 cases h1 : q j <;> cases h2 : e j <;> simp_all
theorem not_one {l : List Rx} {x : List Int} (h : l.length ≠ 1) : ¬ Rx.langOne l x := by
 rw [langOne_iff]
 rintro ⟨a, rfl, _⟩
 exact h rfl
theorem inR_ends {r : Rx} {w : List Int} : endsP r.lang w (fun j => if j = 0 then true else false) w.length = inR r w := by
 rw [Bool.eq_iff_iff, ends_iff, inR_iff]
 constructor
 ·rintro ⟨i, h1, h2, h3⟩
  have : i = 0 := by
   by_cases h : i = 0
   ·exact h
   ·rw [if_neg h] at h2; cases h2
  subst this
  rwa [sl_all] at h3
 ·intro h
  exact ⟨0, Nat.zero_le _, rfl, by rwa [sl_all]⟩
theorem or_walk {w0 : World} {es : List Ent} {a sa b sb n : Nat} {p q : Nat → Bool} (hn : n ≤ 1001) (ha : at_ es a = some (.row sa 4 1 (boolRow n p))) (hb : at_ es b = some (.row sb 4 1 (boolRow n q))) (hab : b ≠ a) : ACalls Tryd.prog w0 128 [.own a sa, .own b sb] es fun v es' => v = .bool (chg p q n) ∧ at_ es' a = some (.row sa 4 1 (boolRow n (orP p q n))) ∧ OK1 es es' a := by
 refine calls2 (N := 28) Tryd.func128 rfl rfl (by decide) ?_
 refine w_seq ?_
 refine w_region ?_
 refine l_cons rfl (p_assign ?_)
 refine l_nil ?_
 refine k_seq_normal ?_
 refine w_seq ?_
 refine w_region ?_
 refine l_cons rfl (p_assign ?_)
 refine l_nil ?_
 refine k_seq_normal ?_
 refine w_seq ?_
 refine w_seq ?_
 refine w_region ?_
 refine l_cons rfl (p_move ?_)
 refine l_cons rfl (p_leno sl_60 ?_)
 rw [boolRow_len]
 refine l_cons rfl (p_move ?_)
 refine l_nil ?_
 refine k_seq_normal ?_
 refine w_block ?_
 refine w_loop (fun m f es2 => ∃ i, m = n - i ∧ i ≤ n ∧ at_ es2 a = some (.row sa 4 1 (boolRow n (orP p q i))) ∧ OK1 es es2 a ∧ Knows f [(0, .own a sa), (1, .own b sb), (5, .bool (chg p q i)), (8, .int .i64 (n : Int)), (9, .int .i64 (i : Int))]) (n) (⟨0, rfl, Nat.zero_le _, by rw [ha, boolRow_congr fun j _ => orP_start], OK1.refl _ _, by simp only [chg, List.range_zero, List.any_nil, Knows, put, upd_apply, Nat.reduceEqDiff, ↓reduceIte, and_true, true_and, eq_self] <;> and_intros <;> rfl⟩) ?_
 rintro m f es2 ⟨i, rfl, hi1, ha2, hok, hk⟩
 have hb2 := (hok.1 b hab).trans hb
 refine w_pins _ (Sub.refl _) (hk) ?_
 simp only [pins]
 refine w_seq ?_
 refine w_region ?_
 refine l_cons rfl (p_cmp ?_)
 refine l_nil ?_
 refine k_seq_normal ?_
 refine w_seq ?_
 refine w_b (fun h1 => ?_) (fun h1 => ?_)
 ·skip
  have h1' := h1; (try simp only [decide_eq_true_eq, decide_eq_false_iff_not, Bool.not_eq_true', Bool.not_false, Bool.not_true, Bool.not_eq_false'] at h1')
  refine w_skip ?_
  refine k_seq_normal ?_
  refine w_seq ?_
  refine w_block ?_
  refine w_seq ?_
  refine w_region ?_
  refine l_cons rfl (p_move ?_)
  refine l_cons rfl (p_assign ?_)
  refine l_nil ?_
  refine k_seq_normal ?_
  refine w_seq ?_
  refine w_region ?_
  refine l_cons rfl (p_move ?_)
  refine l_cons rfl (p_move ?_)
  refine l_cons rfl (p_ixo sl_60 (a := .ptr b sb i 0) ?_ (h0 := by omega) (h1 := by rw [boolRow_len]; omega))
  refine l_cons rfl (p_loadp ty_4 (a := .bool (q i)) ?_ (hr := boolRow_at _ (by omega)) (hl := Nat.le_refl 1) (ha := rfl))
  refine l_cons rfl (p_move ?_)
  refine g_b rfl (fun h2 => ?_) (fun h2 => ?_)
  ·skip
   have h2' := h2; (try simp only [decide_eq_true_eq, decide_eq_false_iff_not, Bool.not_eq_true', Bool.not_false, Bool.not_true, Bool.not_eq_false'] at h2')
   refine (p_move ?_)
   refine g_y rfl h2 (p_move ?_)
   refine g_y rfl h2 (p_ixo sl_60 (a := .ptr a sa i 0) ?_ (h0 := by omega) (h1 := by rw [boolRow_len]; omega))
   refine g_y rfl h2 (p_loadp ty_4 (a := .bool (p i)) ?_ (hr := boolRow_at _ (by omega)) (hl := Nat.le_refl 1) (ha := by rw [orP_here]; rfl))
   refine g_y rfl h2 (p_not ?_)
   refine l_cons rfl (p_pickt h2 ?_)
   refine l_nil ?_
   refine k_seq_normal ?_
   refine w_b (fun h3 => ?_) (fun h3 => ?_)
   ·skip
    have h3' := h3; (try simp only [decide_eq_true_eq, decide_eq_false_iff_not, Bool.not_eq_true', Bool.not_false, Bool.not_true, Bool.not_eq_false'] at h3')
    refine w_region ?_
    refine l_cons rfl (p_move ?_)
    refine l_cons rfl (p_move ?_)
    refine l_cons rfl (p_ixo sl_60 (a := .ptr a sa i 0) ?_ (h0 := by omega) (h1 := by rw [boolRow_len]; omega))
    refine l_cons rfl (p_store ty_4 (rows' := (boolRow n (orP p q i)).set (i) [.bool (true)]) (r' := [.bool (true)]) ?_ (hr := boolRow_at _ (by omega)) (hl := Nat.le_refl 1) (hr' := by first | rfl | (simp only [List.take_zero, List.nil_append, List.drop_succ_cons, List.drop_zero, List.append_nil, List.drop_nil] <;> simp [*, W4.hasI])) (hrs := rfl))
    refine l_cons rfl (p_assign ?_)
    refine l_nil ?_
    refine k_blk_normal ?_
    refine k_seq_normal ?_
    refine w_region ?_
    refine l_cons rfl (p_arith ?_)
    refine l_cons rfl (p_move ?_)
    refine l_nil ?_
    refine k_seq_normal ?_
    first
    | exact ⟨n - (i + 1), by omega, i + 1, rfl, by omega, by rw [at_setAt_same _ ha2, boolRow_set _ _ (by omega), boolRow_congr fun j _ => orP_yes (by simp_all)], hok.put _, by simp only [Knows, put, upd_apply, Nat.reduceEqDiff, ↓reduceIte, and_true, true_and, eq_self, chg_succ]; and_intros <;> first | rfl | (simp_all; done)⟩
    | exact ⟨n - (i + 1), by omega, i + 1, rfl, by omega, by rw [ha2, boolRow_congr fun j _ => orP_no (by simp_all)], hok, by simp only [Knows, put, upd_apply, Nat.reduceEqDiff, ↓reduceIte, and_true, true_and, eq_self, chg_succ]; and_intros <;> first | rfl | (simp_all; done)⟩
   ·skip
    have h3' := h3; (try simp only [decide_eq_true_eq, decide_eq_false_iff_not, Bool.not_eq_true', Bool.not_false, Bool.not_true, Bool.not_eq_false'] at h3')
    refine w_skip ?_
    refine k_blk_normal ?_
    refine k_seq_normal ?_
    refine w_region ?_
    refine l_cons rfl (p_arith ?_)
    refine l_cons rfl (p_move ?_)
    refine l_nil ?_
    refine k_seq_normal ?_
    first
    | exact ⟨n - (i + 1), by omega, i + 1, rfl, by omega, by rw [at_setAt_same _ ha2, boolRow_set _ _ (by omega), boolRow_congr fun j _ => orP_yes (by simp_all)], hok.put _, by simp only [Knows, put, upd_apply, Nat.reduceEqDiff, ↓reduceIte, and_true, true_and, eq_self, chg_succ]; and_intros <;> first | rfl | (simp_all; done)⟩
    | exact ⟨n - (i + 1), by omega, i + 1, rfl, by omega, by rw [ha2, boolRow_congr fun j _ => orP_no (by simp_all)], hok, by simp only [Knows, put, upd_apply, Nat.reduceEqDiff, ↓reduceIte, and_true, true_and, eq_self, chg_succ]; and_intros <;> first | rfl | (simp_all; done)⟩
  ·skip
   have h2' := h2; (try simp only [decide_eq_true_eq, decide_eq_false_iff_not, Bool.not_eq_true', Bool.not_false, Bool.not_true, Bool.not_eq_false'] at h2')
   refine g_n rfl h2 ?_
   refine g_n rfl h2 ?_
   refine g_n rfl h2 ?_
   refine g_n rfl h2 ?_
   refine l_cons rfl (p_pickf h2 ?_)
   refine l_nil ?_
   refine k_seq_normal ?_
   refine w_f rfl ?_
   refine w_skip ?_
   refine k_blk_normal ?_
   refine k_seq_normal ?_
   refine w_region ?_
   refine l_cons rfl (p_arith ?_)
   refine l_cons rfl (p_move ?_)
   refine l_nil ?_
   refine k_seq_normal ?_
   first
   | exact ⟨n - (i + 1), by omega, i + 1, rfl, by omega, by rw [at_setAt_same _ ha2, boolRow_set _ _ (by omega), boolRow_congr fun j _ => orP_yes (by simp_all)], hok.put _, by simp only [Knows, put, upd_apply, Nat.reduceEqDiff, ↓reduceIte, and_true, true_and, eq_self, chg_succ]; and_intros <;> first | rfl | (simp_all; done)⟩
   | exact ⟨n - (i + 1), by omega, i + 1, rfl, by omega, by rw [ha2, boolRow_congr fun j _ => orP_no (by simp_all)], hok, by simp only [Knows, put, upd_apply, Nat.reduceEqDiff, ↓reduceIte, and_true, true_and, eq_self, chg_succ]; and_intros <;> first | rfl | (simp_all; done)⟩
 ·skip
  have h1' := h1; (try simp only [decide_eq_true_eq, decide_eq_false_iff_not, Bool.not_eq_true', Bool.not_false, Bool.not_true, Bool.not_eq_false'] at h1')
  refine w_exit ?_
  refine k_seq_exit ?_
  refine k_seq_exit ?_
  refine k_blk_here ?_
  refine k_seq_normal ?_
  refine w_seq ?_
  refine w_region ?_
  refine l_cons rfl (p_move ?_)
  refine l_cons rfl (p_assign ?_)
  refine l_nil ?_
  refine k_seq_normal ?_
  refine w_ret ?_
  have hin : i = n := by omega
  rw [hin] at ha2 ⊢
  exact ret1 rfl (by simp only [ev_tmp, ev_const, ev_func, ofConst_int, ofConst_bool, ofConst_str, ofConst_nil, upd_apply, Nat.reduceEqDiff, ↓reduceIte] <;> exact rfl) (Sub.refl _) ⟨rfl, ha2, hok⟩
theorem ends_walk {w0 : World} : ∀ (B : Nat) (r : Rx) (es : List Ent) (w : List Int) (id s : Nat) (p : Nat → Bool), r.nodes ≤ B → r.ok → bytesOk w → w.length ≤ 1000 → at_ es id = some (.row s 4 1 (boolRow (w.length + 1) p)) → ACalls Tryd.prog w0 96 [.agg r.cells, bytesAV w, .own id s] es fun v es' => ∃ id' s', v = .own id' s' ∧ es.length ≤ id' ∧ at_ es' id' = some (.row s' 4 1 (boolRow (w.length + 1) (endsP r.lang w p))) ∧ KB es es' := by
  intro B
  induction B using Nat.strongRecOn with
  | _ B ih => ?_
  intro r es w id s p hB ho hw hwl hat
  rw [Rx.cells_eq r]
  unfold bytesAV
  have hne := r.nodes_eq
  have hal := Rx.len_le r.args
  have hidl := at_lt hat
  obtain ⟨n, hn⟩ : ∃ n, n = w.length + 1 := ⟨_, rfl⟩
  rw [← hn] at hat ⊢
  refine calls3 (N := 102) Tryd.func96 rfl rfl (by decide) ?_
  refine w_seq ?_
  refine w_region ?_
  refine l_cons rfl (p_box fun s3 => ?_)
  refine l_cons rfl (p_assign ?_)
  refine l_nil ?_
  refine k_seq_normal ?_
  refine w_seq ?_
  refine w_region ?_
  refine l_cons rfl (p_move ?_)
  refine l_cons rfl (p_leno sl_60 ?_)
  rw [boolRow_len]
  refine l_cons rfl (p_makeSlice sl_60 by_4 ze_4  fun s16 => ?_)
  rw [Int.toNat_natCast, boolRow_none n]
  refine l_cons rfl (p_assign ?_)
  refine l_nil ?_
  refine k_seq_normal ?_
  refine w_cut (fun f es' => ∃ id7 s7, es.length < id7 ∧ at_ es' id7 = some (.row s7 4 1 (boolRow n (endsP r.lang w p))) ∧ KB (.row s3 29 6 [[.int .i64 r.kind, .int .u64 r.set.w0, .int .u64 r.set.w1, .int .u64 r.set.w2, .int .u64 r.set.w3, .list 6 (r.args.map Rx.cells)]] :: es) es' ∧ Knows f [(7, .own id7 s7)]) ?_ ?_
  · skip
    refine w_seq ?_
    refine w_region ?_
    refine l_cons rfl (p_fap fa_29_0 ?_)
    refine l_cons rfl (p_loadp ty_3 ?_)
    refine l_nil ?_
    refine k_seq_normal ?_
    refine w_block ?_
    refine w_seq ?_
    refine w_region ?_
    refine l_cons rfl (p_cmp ?_)
    refine l_cons rfl (p_assign ?_)
    refine l_nil ?_
    refine k_seq_normal ?_
    refine w_b (fun h1 => ?_) (fun h1 => ?_)
    · skip
      have h1' := h1; (try simp only [decide_eq_true_eq, decide_eq_false_iff_not, Bool.not_eq_true', Bool.not_false, Bool.not_true, Bool.not_eq_false'] at h1')
      refine w_region ?_
      refine l_cons rfl (p_move ?_)
      refine l_cons rfl (p_move ?_)
      refine l_cons rfl (p_copy sl_60 (he := loc_hit) (hs := src_own (loc_miss (loc_miss (loc_base hat)))) ?_ (hl := by rw [boolRow_len, boolRow_len]) (h0 := by rw [boolRow_len]; omega))
      rw [boolRow_len]
      refine l_nil ?_
      refine k_blk_normal ?_
      refine k_seq_normal ?_
      first
      | exact ⟨es.length + 1, s16, Nat.lt_succ_self _, row_hit (boolRow_congr fun j hj => ends_eps (kind_2 (by omega)) hn hj p), (KB.refl _).push _, by simp only [Knows, put, upd_apply, Nat.reduceEqDiff, ↓reduceIte, and_true, true_and, eq_self] <;> and_intros <;> rfl⟩
      | (have hiw : i = w.length := by omega
         rw [hiw] at h7
         exact ⟨_, _, hid7, by rw [h7, boolRow_congr fun j hj => eg_done (kind_3 (by omega)) hn hj p], kb, by simp only [Knows, put, upd_apply, Nat.reduceEqDiff, ↓reduceIte, and_true, true_and, eq_self] <;> and_intros <;> rfl⟩)
      | (have hkl : k = r.args.length := by omega
         rw [hkl, List.take_length] at h7
         exact ⟨_, _, hid7, by rw [h7, boolRow_congr fun j hj => ends_congr (fun x => (kind_4 (by omega) x).symm) w p j], kb, by simp only [Knows, put, upd_apply, Nat.reduceEqDiff, ↓reduceIte, and_true, true_and, eq_self] <;> and_intros <;> rfl⟩)
      | (have hkl : k = r.args.length := by omega
         rw [hkl, List.take_length] at h7
         exact ⟨_, _, hid7, by rw [h7, boolRow_congr fun j hj => ends_congr (kind_5 (by omega)) w p j], kb, by simp only [Knows, put, upd_apply, Nat.reduceEqDiff, ↓reduceIte, and_true, true_and, eq_self] <;> and_intros <;> rfl⟩)
      | exact ⟨_, _, hid7, by rw [h9, boolRow_congr fun j hj => (orP_same (by assumption) hj).trans ((mid_done hn hmid (by rw [← show endsP (r.args[0]'(by omega)).lang w q = endsP (Rx.langOne r.args) w q from funext fun j => ends_congr (one_arg (by omega)) w q j]; assumption) hj).trans (ends_congr (fun x => (kind_6 (by omega) x).symm) w p j))], hok9.kb (kb.trans kb8) (by simp only [List.length_cons]; omega), by simp only [Knows, put, upd_apply, Nat.reduceEqDiff, ↓reduceIte, and_true, true_and, eq_self] <;> and_intros <;> rfl⟩
      | exact ⟨_, _, hid7, by rw [h7, boolRow_congr fun j hj => (mid_none (fun x => not_one (by omega)) hn hmid hj).trans (ends_congr (fun x => (kind_6 (by omega) x).symm) w p j)], kb, by simp only [Knows, put, upd_apply, Nat.reduceEqDiff, ↓reduceIte, and_true, true_and, eq_self] <;> and_intros <;> rfl⟩
      | exact ⟨es.length + 1, s16, Nat.lt_succ_self _, row_hit (boolRow_congr fun j hj => ends_none (kind_0 (by omega))), (KB.refl _).push _, by simp only [Knows, put, upd_apply, Nat.reduceEqDiff, ↓reduceIte, and_true, true_and, eq_self] <;> and_intros <;> rfl⟩
    · skip
      have h1' := h1; (try simp only [decide_eq_true_eq, decide_eq_false_iff_not, Bool.not_eq_true', Bool.not_false, Bool.not_true, Bool.not_eq_false'] at h1')
      refine w_seq ?_
      refine w_region ?_
      refine l_cons rfl (p_cmp ?_)
      refine l_cons rfl (p_assign ?_)
      refine l_nil ?_
      refine k_seq_normal ?_
      refine w_b (fun h2 => ?_) (fun h2 => ?_)
      · skip
        have h2' := h2; (try simp only [decide_eq_true_eq, decide_eq_false_iff_not, Bool.not_eq_true', Bool.not_false, Bool.not_true, Bool.not_eq_false'] at h2')
        refine w_seq ?_
        refine w_region ?_
        refine l_cons rfl (p_move ?_)
        refine l_cons rfl (p_lenl sl_22 ?_)
        refine l_cons rfl (p_move ?_)
        refine l_nil ?_
        refine k_seq_normal ?_
        refine w_block ?_
        refine w_loop (fun m f es2 => ∃ i, m = w.length - i ∧ i ≤ w.length ∧ es.length < (es.length + 1) ∧ at_ es2 (es.length + 1) = some (.row s16 4 1 (boolRow n (eg r.set w p i))) ∧ KB (.row s3 29 6 [[.int .i64 r.kind, .int .u64 r.set.w0, .int .u64 r.set.w1, .int .u64 r.set.w2, .int .u64 r.set.w3, .list 6 (r.args.map Rx.cells)]] :: es) es2 ∧ Knows f [(1, .list 1 (w.map fun n => [.int .u8 n])), (2, .own id s), (3, .ptr es.length s3 0 0), (7, .own (es.length + 1) s16), (26, .list 1 (w.map fun n => [.int .u8 n])), (27, .int .i64 (w.length : Int)), (28, .int .i64 (i : Int))]) (w.length) (⟨0, rfl, Nat.zero_le _, Nat.lt_succ_self _, row_hit (boolRow_congr fun j _ => eg_start), (KB.refl _).push _, by simp only [Knows, put, upd_apply, Nat.reduceEqDiff, ↓reduceIte, and_true, true_and, eq_self] <;> and_intros <;> rfl⟩) ?_
        rintro m f es2 ⟨i, rfl, hi1, hid7, h7, kb, hk⟩
        have hbox := (kb.1 es.length (by simp)).trans (at_hit _ _)
        have hat2 := (kb.1 id (by simp only [List.length_cons]; omega)).trans (at_miss _ hat)
        refine w_pins _ (Sub.refl _) (hk) ?_
        simp only [pins]
        refine w_seq ?_
        refine w_region ?_
        refine l_cons rfl (p_cmp ?_)
        refine l_nil ?_
        refine k_seq_normal ?_
        refine w_seq ?_
        refine w_b (fun h3 => ?_) (fun h3 => ?_)
        · skip
          have h3' := h3; (try simp only [decide_eq_true_eq, decide_eq_false_iff_not, Bool.not_eq_true', Bool.not_false, Bool.not_true, Bool.not_eq_false'] at h3')
          refine w_skip ?_
          refine k_seq_normal ?_
          refine w_seq ?_
          refine w_block ?_
          refine w_seq ?_
          refine w_region ?_
          refine l_cons rfl (p_move ?_)
          refine l_cons rfl (p_ixl sl_22 (a := .fptr 1 (w.map fun n => [.int .u8 n]) i 0) ?_ (h0 := by omega) (h1 := by simp only [List.length_map]; omega))
          refine l_cons rfl (p_loadf ty_5 (a := .int .u8 (w[i]'(by omega))) ?_ (hr := row_u8 (by omega)) (hl := Nat.le_refl 1) (ha := rfl))
          refine l_cons rfl (p_assign ?_)
          refine l_cons rfl (p_assign ?_)
          refine l_nil ?_
          refine k_seq_normal ?_
          refine w_region ?_
          refine l_cons rfl (p_move ?_)
          refine l_cons rfl (p_move ?_)
          refine l_cons rfl (p_arith ?_)
          refine l_cons rfl (p_move ?_)
          refine l_cons rfl (p_move ?_)
          refine l_cons rfl (p_ixo sl_60 (a := .ptr id s i 0) ?_ (h0 := by omega) (h1 := by rw [boolRow_len]; omega))
          refine l_cons rfl (p_loadp ty_4 (a := .bool (p i)) ?_ (hr := boolRow_at _ (by omega)) (hl := Nat.le_refl 1) (ha := rfl))
          refine l_cons rfl (p_move ?_)
          refine g_b rfl (fun h4 => ?_) (fun h4 => ?_)
          · skip
            have h4' := h4; (try simp only [decide_eq_true_eq, decide_eq_false_iff_not, Bool.not_eq_true', Bool.not_false, Bool.not_true, Bool.not_eq_false'] at h4')
            refine (p_fap fa_29_1 ?_)
            refine g_y rfl h4 (p_loadp ty_26 (a := .agg r.set.row) ?_ (hl := Nat.le_of_ble_eq_true rfl) (ha := rfl))
            refine g_y rfl h4 (p_move ?_)
            refine g_y rfl h4 (p_callr en_100 (bytesetHas r.set.w0 r.set.w1 r.set.w2 r.set.w3 (w[i]'(by omega)) (hw _ (List.getElem_mem _)).1 (hw _ (List.getElem_mem _)).2) ?_)
            refine l_cons rfl (p_pickt h4 ?_)
            refine l_cons rfl (p_ixo sl_60 (a := .ptr (es.length + 1) s16 (i + 1) 0) ?_ (h0 := by omega) (h1 := by rw [boolRow_len]; omega))
            refine l_cons rfl (p_store ty_4 (rows' := (boolRow n (eg r.set w p i)).set (i + 1) [.bool (p i && r.set.hasI (w[i]'(by omega)))]) (r' := [.bool (p i && r.set.hasI (w[i]'(by omega)))]) ?_ (hr := boolRow_at _ (by omega)) (hl := Nat.le_refl 1) (hr' := by first | rfl | (simp only [List.take_zero, List.nil_append, List.drop_succ_cons, List.drop_zero, List.append_nil, List.drop_nil] <;> simp [*, W4.hasI])) (hrs := rfl))
            refine l_nil ?_
            refine k_blk_normal ?_
            refine k_seq_normal ?_
            refine w_region ?_
            refine l_cons rfl (p_arith ?_)
            refine l_cons rfl (p_move ?_)
            refine l_nil ?_
            refine k_seq_normal ?_
            exact ⟨w.length - (i + 1), by omega, i + 1, rfl, by omega, hid7, by rw [at_setAt_same _ h7, boolRow_set _ _ (by omega), boolRow_congr fun j _ => eg_step (by omega)], kb.put (by simp only [List.length_cons]; omega) _, by simp only [Knows, put, upd_apply, Nat.reduceEqDiff, ↓reduceIte, and_true, true_and, eq_self] <;> and_intros <;> rfl⟩
          · skip
            have h4' := h4; (try simp only [decide_eq_true_eq, decide_eq_false_iff_not, Bool.not_eq_true', Bool.not_false, Bool.not_true, Bool.not_eq_false'] at h4')
            refine g_n rfl h4 ?_
            refine g_n rfl h4 ?_
            refine g_n rfl h4 ?_
            refine l_cons rfl (p_pickf h4 ?_)
            refine l_cons rfl (p_ixo sl_60 (a := .ptr (es.length + 1) s16 (i + 1) 0) ?_ (h0 := by omega) (h1 := by rw [boolRow_len]; omega))
            refine l_cons rfl (p_store ty_4 (rows' := (boolRow n (eg r.set w p i)).set (i + 1) [.bool (p i && r.set.hasI (w[i]'(by omega)))]) (r' := [.bool (p i && r.set.hasI (w[i]'(by omega)))]) ?_ (hr := boolRow_at _ (by omega)) (hl := Nat.le_refl 1) (hr' := by first | rfl | (simp only [List.take_zero, List.nil_append, List.drop_succ_cons, List.drop_zero, List.append_nil, List.drop_nil] <;> simp [*, W4.hasI])) (hrs := rfl))
            refine l_nil ?_
            refine k_blk_normal ?_
            refine k_seq_normal ?_
            refine w_region ?_
            refine l_cons rfl (p_arith ?_)
            refine l_cons rfl (p_move ?_)
            refine l_nil ?_
            refine k_seq_normal ?_
            exact ⟨w.length - (i + 1), by omega, i + 1, rfl, by omega, hid7, by rw [at_setAt_same _ h7, boolRow_set _ _ (by omega), boolRow_congr fun j _ => eg_step (by omega)], kb.put (by simp only [List.length_cons]; omega) _, by simp only [Knows, put, upd_apply, Nat.reduceEqDiff, ↓reduceIte, and_true, true_and, eq_self] <;> and_intros <;> rfl⟩
        · skip
          have h3' := h3; (try simp only [decide_eq_true_eq, decide_eq_false_iff_not, Bool.not_eq_true', Bool.not_false, Bool.not_true, Bool.not_eq_false'] at h3')
          refine w_exit ?_
          refine k_seq_exit ?_
          refine k_seq_exit ?_
          refine k_blk_here ?_
          refine k_blk_normal ?_
          refine k_seq_normal ?_
          first
          | exact ⟨es.length + 1, s16, Nat.lt_succ_self _, row_hit (boolRow_congr fun j hj => ends_eps (kind_2 (by omega)) hn hj p), (KB.refl _).push _, by simp only [Knows, put, upd_apply, Nat.reduceEqDiff, ↓reduceIte, and_true, true_and, eq_self] <;> and_intros <;> rfl⟩
          | (have hiw : i = w.length := by omega
             rw [hiw] at h7
             exact ⟨_, _, hid7, by rw [h7, boolRow_congr fun j hj => eg_done (kind_3 (by omega)) hn hj p], kb, by simp only [Knows, put, upd_apply, Nat.reduceEqDiff, ↓reduceIte, and_true, true_and, eq_self] <;> and_intros <;> rfl⟩)
          | (have hkl : k = r.args.length := by omega
             rw [hkl, List.take_length] at h7
             exact ⟨_, _, hid7, by rw [h7, boolRow_congr fun j hj => ends_congr (fun x => (kind_4 (by omega) x).symm) w p j], kb, by simp only [Knows, put, upd_apply, Nat.reduceEqDiff, ↓reduceIte, and_true, true_and, eq_self] <;> and_intros <;> rfl⟩)
          | (have hkl : k = r.args.length := by omega
             rw [hkl, List.take_length] at h7
             exact ⟨_, _, hid7, by rw [h7, boolRow_congr fun j hj => ends_congr (kind_5 (by omega)) w p j], kb, by simp only [Knows, put, upd_apply, Nat.reduceEqDiff, ↓reduceIte, and_true, true_and, eq_self] <;> and_intros <;> rfl⟩)
          | exact ⟨_, _, hid7, by rw [h9, boolRow_congr fun j hj => (orP_same (by assumption) hj).trans ((mid_done hn hmid (by rw [← show endsP (r.args[0]'(by omega)).lang w q = endsP (Rx.langOne r.args) w q from funext fun j => ends_congr (one_arg (by omega)) w q j]; assumption) hj).trans (ends_congr (fun x => (kind_6 (by omega) x).symm) w p j))], hok9.kb (kb.trans kb8) (by simp only [List.length_cons]; omega), by simp only [Knows, put, upd_apply, Nat.reduceEqDiff, ↓reduceIte, and_true, true_and, eq_self] <;> and_intros <;> rfl⟩
          | exact ⟨_, _, hid7, by rw [h7, boolRow_congr fun j hj => (mid_none (fun x => not_one (by omega)) hn hmid hj).trans (ends_congr (fun x => (kind_6 (by omega) x).symm) w p j)], kb, by simp only [Knows, put, upd_apply, Nat.reduceEqDiff, ↓reduceIte, and_true, true_and, eq_self] <;> and_intros <;> rfl⟩
          | exact ⟨es.length + 1, s16, Nat.lt_succ_self _, row_hit (boolRow_congr fun j hj => ends_none (kind_0 (by omega))), (KB.refl _).push _, by simp only [Knows, put, upd_apply, Nat.reduceEqDiff, ↓reduceIte, and_true, true_and, eq_self] <;> and_intros <;> rfl⟩
      · skip
        have h2' := h2; (try simp only [decide_eq_true_eq, decide_eq_false_iff_not, Bool.not_eq_true', Bool.not_false, Bool.not_true, Bool.not_eq_false'] at h2')
        refine w_seq ?_
        refine w_region ?_
        refine l_cons rfl (p_cmp ?_)
        refine l_cons rfl (p_assign ?_)
        refine l_nil ?_
        refine k_seq_normal ?_
        refine w_b (fun h5 => ?_) (fun h5 => ?_)
        · skip
          have h5' := h5; (try simp only [decide_eq_true_eq, decide_eq_false_iff_not, Bool.not_eq_true', Bool.not_false, Bool.not_true, Bool.not_eq_false'] at h5')
          refine w_seq ?_
          refine w_region ?_
          refine l_cons rfl (p_move ?_)
          refine l_cons rfl (p_move ?_)
          refine l_cons rfl (p_copy sl_60 (he := loc_hit) (hs := src_own (loc_miss (loc_miss (loc_base hat)))) ?_ (hl := by rw [boolRow_len, boolRow_len]) (h0 := by rw [boolRow_len]; omega))
          rw [boolRow_len]
          refine l_nil ?_
          refine k_seq_normal ?_
          refine w_seq ?_
          refine w_region ?_
          refine l_cons rfl (p_fap fa_29_2 ?_)
          refine l_cons rfl (p_loadp ty_27 ?_)
          first | refine l_cons rfl (p_lenl sl_27 ?_) | refine l_cons rfl (p_leno sl_27 ?_) | refine l_cons rfl (p_lenn sl_27 ?_)
          refine l_len 54 fun hl2 => ?_
          simp only [List.length_map, most] at hl2
          refine l_cons rfl (p_move ?_)
          refine l_nil ?_
          refine k_seq_normal ?_
          refine w_block ?_
          refine w_loop (fun m f es2 => ∃ k id7 s7, m = r.args.length - k ∧ k ≤ r.args.length ∧ es.length < id7 ∧ at_ es2 id7 = some (.row s7 4 1 (boolRow n (endsP (Rx.langCat (r.args.take k)) w p))) ∧ KB (.row s3 29 6 [[.int .i64 r.kind, .int .u64 r.set.w0, .int .u64 r.set.w1, .int .u64 r.set.w2, .int .u64 r.set.w3, .list 6 (r.args.map Rx.cells)]] :: es) es2 ∧ Knows f [(1, .list 1 (w.map fun n => [.int .u8 n])), (2, .own id s), (3, .ptr es.length s3 0 0), (7, .own id7 s7), (54, .list 6 (r.args.map Rx.cells)), (55, .int .i64 (r.args.length : Int)), (56, .int .i64 (k : Int))]) (r.args.length) (⟨0, es.length + 1, s16, rfl, Nat.zero_le _, Nat.lt_succ_self _, row_hit (boolRow_congr fun j hj => ends_eps (L := Rx.langCat (r.args.take 0)) (fun x => by rw [List.take_zero]; exact langCat_nil x) hn hj p), (KB.refl _).push _, by simp only [List.length_map, Knows, put, upd_apply, Nat.reduceEqDiff, ↓reduceIte, and_true, true_and, eq_self] <;> and_intros <;> rfl⟩) ?_
          rintro m f es2 ⟨k, id7, s7, rfl, hk1, hid7, h7, kb, hk⟩
          have hbox := (kb.1 es.length (by simp)).trans (at_hit _ _)
          have hat2 := (kb.1 id (by simp only [List.length_cons]; omega)).trans (at_miss _ hat)
          refine w_pins _ (Sub.refl _) (hk) ?_
          simp only [pins]
          refine w_seq ?_
          refine w_region ?_
          refine l_cons rfl (p_cmp ?_)
          refine l_nil ?_
          refine k_seq_normal ?_
          refine w_seq ?_
          refine w_b (fun h6 => ?_) (fun h6 => ?_)
          · skip
            have h6' := h6; (try simp only [decide_eq_true_eq, decide_eq_false_iff_not, Bool.not_eq_true', Bool.not_false, Bool.not_true, Bool.not_eq_false'] at h6')
            refine w_skip ?_
            refine k_seq_normal ?_
            refine w_seq ?_
            refine w_block ?_
            refine w_seq ?_
            refine w_region ?_
            refine l_cons rfl (p_ixl sl_27 (a := .fptr 6 (r.args.map Rx.cells) k 0) ?_ (h0 := by omega) (h1 := by simp only [List.length_map]; omega))
            refine l_cons rfl (p_loadf ty_29 (a := .agg (r.args[k]'(by omega)).cells) ?_ (hr := rxrow_at (l := r.args) (k := k) (by omega)) (hl := Nat.le_refl 6) (ha := rfl))
            refine l_cons rfl (p_alloc ze_29 fun s11 => ?_)
            refine l_cons rfl (p_store ty_29 ?_)
            refine l_nil ?_
            refine k_seq_normal ?_
            refine w_region ?_
            refine l_cons rfl (p_loadp ty_29 ?_)
            refine l_cons rfl (p_move ?_)
            refine l_cons rfl (p_move ?_)
            refine l_cons rfl (p_call en_96 ((ih (B - 1) (by omega) (r.args[k]'(by omega)) _ w id7 s7 (endsP (Rx.langCat (r.args.take k)) w p) (by have := r.nodes_arg (k := k) (by omega); omega) (ho.arg (by omega)) hw hwl (by rw [← hn]; exact (at_miss _ h7))).mono ?_))
            rintro _ es3 ⟨id8, s8, rfl, hid8, h8, kb8⟩
            rw [← hn] at h8
            refine l_cons rfl (p_assign ?_)
            refine l_nil ?_
            refine k_blk_normal ?_
            refine k_seq_normal ?_
            refine w_region ?_
            refine l_cons rfl (p_arith ?_)
            refine l_cons rfl (p_move ?_)
            refine l_nil ?_
            refine k_seq_normal ?_
            exact ⟨r.args.length - (k + 1), by omega, k + 1, id8, s8, rfl, by omega, by have := kb.2; simp only [List.length_cons] at this hid8; omega, by rw [h8, boolRow_congr fun j hj => ends_cat (by omega) hn hj], (kb.push _).trans kb8, by simp only [Knows, put, upd_apply, Nat.reduceEqDiff, ↓reduceIte, and_true, true_and, eq_self] <;> and_intros <;> rfl⟩
          · skip
            have h6' := h6; (try simp only [decide_eq_true_eq, decide_eq_false_iff_not, Bool.not_eq_true', Bool.not_false, Bool.not_true, Bool.not_eq_false'] at h6')
            refine w_exit ?_
            refine k_seq_exit ?_
            refine k_seq_exit ?_
            refine k_blk_here ?_
            refine k_blk_normal ?_
            refine k_seq_normal ?_
            first
            | exact ⟨es.length + 1, s16, Nat.lt_succ_self _, row_hit (boolRow_congr fun j hj => ends_eps (kind_2 (by omega)) hn hj p), (KB.refl _).push _, by simp only [Knows, put, upd_apply, Nat.reduceEqDiff, ↓reduceIte, and_true, true_and, eq_self] <;> and_intros <;> rfl⟩
            | (have hiw : i = w.length := by omega
               rw [hiw] at h7
               exact ⟨_, _, hid7, by rw [h7, boolRow_congr fun j hj => eg_done (kind_3 (by omega)) hn hj p], kb, by simp only [Knows, put, upd_apply, Nat.reduceEqDiff, ↓reduceIte, and_true, true_and, eq_self] <;> and_intros <;> rfl⟩)
            | (have hkl : k = r.args.length := by omega
               rw [hkl, List.take_length] at h7
               exact ⟨_, _, hid7, by rw [h7, boolRow_congr fun j hj => ends_congr (fun x => (kind_4 (by omega) x).symm) w p j], kb, by simp only [Knows, put, upd_apply, Nat.reduceEqDiff, ↓reduceIte, and_true, true_and, eq_self] <;> and_intros <;> rfl⟩)
            | (have hkl : k = r.args.length := by omega
               rw [hkl, List.take_length] at h7
               exact ⟨_, _, hid7, by rw [h7, boolRow_congr fun j hj => ends_congr (kind_5 (by omega)) w p j], kb, by simp only [Knows, put, upd_apply, Nat.reduceEqDiff, ↓reduceIte, and_true, true_and, eq_self] <;> and_intros <;> rfl⟩)
            | exact ⟨_, _, hid7, by rw [h9, boolRow_congr fun j hj => (orP_same (by assumption) hj).trans ((mid_done hn hmid (by rw [← show endsP (r.args[0]'(by omega)).lang w q = endsP (Rx.langOne r.args) w q from funext fun j => ends_congr (one_arg (by omega)) w q j]; assumption) hj).trans (ends_congr (fun x => (kind_6 (by omega) x).symm) w p j))], hok9.kb (kb.trans kb8) (by simp only [List.length_cons]; omega), by simp only [Knows, put, upd_apply, Nat.reduceEqDiff, ↓reduceIte, and_true, true_and, eq_self] <;> and_intros <;> rfl⟩
            | exact ⟨_, _, hid7, by rw [h7, boolRow_congr fun j hj => (mid_none (fun x => not_one (by omega)) hn hmid hj).trans (ends_congr (fun x => (kind_6 (by omega) x).symm) w p j)], kb, by simp only [Knows, put, upd_apply, Nat.reduceEqDiff, ↓reduceIte, and_true, true_and, eq_self] <;> and_intros <;> rfl⟩
            | exact ⟨es.length + 1, s16, Nat.lt_succ_self _, row_hit (boolRow_congr fun j hj => ends_none (kind_0 (by omega))), (KB.refl _).push _, by simp only [Knows, put, upd_apply, Nat.reduceEqDiff, ↓reduceIte, and_true, true_and, eq_self] <;> and_intros <;> rfl⟩
        · skip
          have h5' := h5; (try simp only [decide_eq_true_eq, decide_eq_false_iff_not, Bool.not_eq_true', Bool.not_false, Bool.not_true, Bool.not_eq_false'] at h5')
          refine w_seq ?_
          refine w_region ?_
          refine l_cons rfl (p_cmp ?_)
          refine l_cons rfl (p_assign ?_)
          refine l_nil ?_
          refine k_seq_normal ?_
          refine w_b (fun h7 => ?_) (fun h7 => ?_)
          · skip
            have h7' := h7; (try simp only [decide_eq_true_eq, decide_eq_false_iff_not, Bool.not_eq_true', Bool.not_false, Bool.not_true, Bool.not_eq_false'] at h7')
            refine w_seq ?_
            refine w_region ?_
            refine l_cons rfl (p_fap fa_29_2 ?_)
            refine l_cons rfl (p_loadp ty_27 ?_)
            first | refine l_cons rfl (p_lenl sl_27 ?_) | refine l_cons rfl (p_leno sl_27 ?_) | refine l_cons rfl (p_lenn sl_27 ?_)
            refine l_len 68 fun hl2 => ?_
            simp only [List.length_map, most] at hl2
            refine l_cons rfl (p_move ?_)
            refine l_nil ?_
            refine k_seq_normal ?_
            refine w_block ?_
            refine w_loop (fun m f es2 => ∃ k, m = r.args.length - k ∧ k ≤ r.args.length ∧ es.length < (es.length + 1) ∧ at_ es2 (es.length + 1) = some (.row s16 4 1 (boolRow n (endsP (Rx.langAlt (r.args.take k)) w p))) ∧ KB (.row s3 29 6 [[.int .i64 r.kind, .int .u64 r.set.w0, .int .u64 r.set.w1, .int .u64 r.set.w2, .int .u64 r.set.w3, .list 6 (r.args.map Rx.cells)]] :: es) es2 ∧ Knows f [(1, .list 1 (w.map fun n => [.int .u8 n])), (2, .own id s), (3, .ptr es.length s3 0 0), (7, .own (es.length + 1) s16), (68, .list 6 (r.args.map Rx.cells)), (69, .int .i64 (r.args.length : Int)), (70, .int .i64 (k : Int))]) (r.args.length) (⟨0, rfl, Nat.zero_le _, Nat.lt_succ_self _, row_hit (boolRow_congr fun j hj => ends_none (L := Rx.langAlt (r.args.take 0)) (fun x => by rw [List.take_zero]; exact langAlt_nil x)), (KB.refl _).push _, by simp only [List.length_map, Knows, put, upd_apply, Nat.reduceEqDiff, ↓reduceIte, and_true, true_and, eq_self] <;> and_intros <;> rfl⟩) ?_
            rintro m f es2 ⟨k, rfl, hk1, hid7, h7, kb, hk⟩
            have hbox := (kb.1 es.length (by simp)).trans (at_hit _ _)
            have hat2 := (kb.1 id (by simp only [List.length_cons]; omega)).trans (at_miss _ hat)
            refine w_pins _ (Sub.refl _) (hk) ?_
            simp only [pins]
            refine w_seq ?_
            refine w_region ?_
            refine l_cons rfl (p_cmp ?_)
            refine l_nil ?_
            refine k_seq_normal ?_
            refine w_seq ?_
            refine w_b (fun h8 => ?_) (fun h8 => ?_)
            · skip
              have h8' := h8; (try simp only [decide_eq_true_eq, decide_eq_false_iff_not, Bool.not_eq_true', Bool.not_false, Bool.not_true, Bool.not_eq_false'] at h8')
              refine w_skip ?_
              refine k_seq_normal ?_
              refine w_seq ?_
              refine w_block ?_
              refine w_seq ?_
              refine w_region ?_
              refine l_cons rfl (p_ixl sl_27 (a := .fptr 6 (r.args.map Rx.cells) k 0) ?_ (h0 := by omega) (h1 := by simp only [List.length_map]; omega))
              refine l_cons rfl (p_loadf ty_29 (a := .agg (r.args[k]'(by omega)).cells) ?_ (hr := rxrow_at (l := r.args) (k := k) (by omega)) (hl := Nat.le_refl 6) (ha := rfl))
              refine l_cons rfl (p_alloc ze_29 fun s13 => ?_)
              refine l_cons rfl (p_store ty_29 ?_)
              refine l_nil ?_
              refine k_seq_normal ?_
              refine w_region ?_
              refine l_cons rfl (p_move ?_)
              refine l_cons rfl (p_loadp ty_29 ?_)
              refine l_cons rfl (p_move ?_)
              refine l_cons rfl (p_move ?_)
              refine l_cons rfl (p_call en_96 ((ih (B - 1) (by omega) (r.args[k]'(by omega)) _ w id s (p) (by have := r.nodes_arg (k := k) (by omega); omega) (ho.arg (by omega)) hw hwl (by rw [← hn]; exact (at_miss _ hat2))).mono ?_))
              rintro _ es3 ⟨id8, s8, rfl, hid8, h8, kb8⟩
              rw [← hn] at h8
              refine l_cons rfl (p_call en_128 ((or_walk (by omega) ((kb8.1 (es.length + 1) (by simp only [List.length_cons]; have := at_lt h7; omega)).trans (at_miss _ h7)) h8 (by simp only [List.length_cons] at hid8; have := at_lt h7; omega)).mono ?_))
              rintro _ es4 ⟨rfl, h9, hok9⟩
              refine l_nil ?_
              refine k_blk_normal ?_
              refine k_seq_normal ?_
              refine w_region ?_
              refine l_cons rfl (p_arith ?_)
              refine l_cons rfl (p_move ?_)
              refine l_nil ?_
              refine k_seq_normal ?_
              exact ⟨r.args.length - (k + 1), by omega, k + 1, rfl, by omega, hid7, by rw [h9, boolRow_congr fun j hj => (orP_done hj).trans (ends_alt (by omega) w p j)], hok9.kb ((kb.push _).trans kb8) (by simp only [List.length_cons]; omega), by simp only [Knows, put, upd_apply, Nat.reduceEqDiff, ↓reduceIte, and_true, true_and, eq_self] <;> and_intros <;> rfl⟩
            · skip
              have h8' := h8; (try simp only [decide_eq_true_eq, decide_eq_false_iff_not, Bool.not_eq_true', Bool.not_false, Bool.not_true, Bool.not_eq_false'] at h8')
              refine w_exit ?_
              refine k_seq_exit ?_
              refine k_seq_exit ?_
              refine k_blk_here ?_
              refine k_blk_normal ?_
              refine k_seq_normal ?_
              first
              | exact ⟨es.length + 1, s16, Nat.lt_succ_self _, row_hit (boolRow_congr fun j hj => ends_eps (kind_2 (by omega)) hn hj p), (KB.refl _).push _, by simp only [Knows, put, upd_apply, Nat.reduceEqDiff, ↓reduceIte, and_true, true_and, eq_self] <;> and_intros <;> rfl⟩
              | (have hiw : i = w.length := by omega
                 rw [hiw] at h7
                 exact ⟨_, _, hid7, by rw [h7, boolRow_congr fun j hj => eg_done (kind_3 (by omega)) hn hj p], kb, by simp only [Knows, put, upd_apply, Nat.reduceEqDiff, ↓reduceIte, and_true, true_and, eq_self] <;> and_intros <;> rfl⟩)
              | (have hkl : k = r.args.length := by omega
                 rw [hkl, List.take_length] at h7
                 exact ⟨_, _, hid7, by rw [h7, boolRow_congr fun j hj => ends_congr (fun x => (kind_4 (by omega) x).symm) w p j], kb, by simp only [Knows, put, upd_apply, Nat.reduceEqDiff, ↓reduceIte, and_true, true_and, eq_self] <;> and_intros <;> rfl⟩)
              | (have hkl : k = r.args.length := by omega
                 rw [hkl, List.take_length] at h7
                 exact ⟨_, _, hid7, by rw [h7, boolRow_congr fun j hj => ends_congr (kind_5 (by omega)) w p j], kb, by simp only [Knows, put, upd_apply, Nat.reduceEqDiff, ↓reduceIte, and_true, true_and, eq_self] <;> and_intros <;> rfl⟩)
              | exact ⟨_, _, hid7, by rw [h9, boolRow_congr fun j hj => (orP_same (by assumption) hj).trans ((mid_done hn hmid (by rw [← show endsP (r.args[0]'(by omega)).lang w q = endsP (Rx.langOne r.args) w q from funext fun j => ends_congr (one_arg (by omega)) w q j]; assumption) hj).trans (ends_congr (fun x => (kind_6 (by omega) x).symm) w p j))], hok9.kb (kb.trans kb8) (by simp only [List.length_cons]; omega), by simp only [Knows, put, upd_apply, Nat.reduceEqDiff, ↓reduceIte, and_true, true_and, eq_self] <;> and_intros <;> rfl⟩
              | exact ⟨_, _, hid7, by rw [h7, boolRow_congr fun j hj => (mid_none (fun x => not_one (by omega)) hn hmid hj).trans (ends_congr (fun x => (kind_6 (by omega) x).symm) w p j)], kb, by simp only [Knows, put, upd_apply, Nat.reduceEqDiff, ↓reduceIte, and_true, true_and, eq_self] <;> and_intros <;> rfl⟩
              | exact ⟨es.length + 1, s16, Nat.lt_succ_self _, row_hit (boolRow_congr fun j hj => ends_none (kind_0 (by omega))), (KB.refl _).push _, by simp only [Knows, put, upd_apply, Nat.reduceEqDiff, ↓reduceIte, and_true, true_and, eq_self] <;> and_intros <;> rfl⟩
          · skip
            have h7' := h7; (try simp only [decide_eq_true_eq, decide_eq_false_iff_not, Bool.not_eq_true', Bool.not_false, Bool.not_true, Bool.not_eq_false'] at h7')
            refine w_seq ?_
            refine w_region ?_
            refine l_cons rfl (p_cmp ?_)
            refine l_cons rfl (p_assign ?_)
            refine l_nil ?_
            refine k_seq_normal ?_
            refine w_b (fun h9 => ?_) (fun h9 => ?_)
            · skip
              have h9' := h9; (try simp only [decide_eq_true_eq, decide_eq_false_iff_not, Bool.not_eq_true', Bool.not_false, Bool.not_true, Bool.not_eq_false'] at h9')
              refine w_seq ?_
              refine w_region ?_
              refine l_cons rfl (p_move ?_)
              refine l_cons rfl (p_move ?_)
              refine l_cons rfl (p_copy sl_60 (he := loc_hit) (hs := src_own (loc_miss (loc_miss (loc_base hat)))) ?_ (hl := by rw [boolRow_len, boolRow_len]) (h0 := by rw [boolRow_len]; omega))
              rw [boolRow_len]
              refine l_nil ?_
              refine k_seq_normal ?_
              refine w_block ?_
              refine w_loop (fun m f es2 => ∃ q, m = falses n q ∧ Mid (Rx.langOne r.args) w n p q ∧ es.length < (es.length + 1) ∧ at_ es2 (es.length + 1) = some (.row s16 4 1 (boolRow n (q))) ∧ KB (.row s3 29 6 [[.int .i64 r.kind, .int .u64 r.set.w0, .int .u64 r.set.w1, .int .u64 r.set.w2, .int .u64 r.set.w3, .list 6 (r.args.map Rx.cells)]] :: es) es2 ∧ Knows f [(1, .list 1 (w.map fun n => [.int .u8 n])), (2, .own id s), (3, .ptr es.length s3 0 0), (7, .own (es.length + 1) s16)]) (falses n p) (⟨p, rfl, mid_start, Nat.lt_succ_self _, at_hit _ _, (KB.refl _).push _, by simp only [Knows, put, upd_apply, Nat.reduceEqDiff, ↓reduceIte, and_true, true_and, eq_self] <;> and_intros <;> rfl⟩) ?_
              rintro m f es2 ⟨q, rfl, hmid, hid7, h7, kb, hk⟩
              have hbox := (kb.1 es.length (by simp)).trans (at_hit _ _)
              have hat2 := (kb.1 id (by simp only [List.length_cons]; omega)).trans (at_miss _ hat)
              refine w_pins _ (Sub.refl _) (hk) ?_
              simp only [pins]
              refine w_seq ?_
              refine w_seq ?_
              refine w_region ?_
              refine l_cons rfl (p_fap fa_29_2 ?_)
              refine l_cons rfl (p_loadp ty_27 ?_)
              first | refine l_cons rfl (p_lenl sl_27 ?_) | refine l_cons rfl (p_leno sl_27 ?_) | refine l_cons rfl (p_lenn sl_27 ?_)
              refine l_cons rfl (p_cmp ?_)
              refine l_cons rfl (p_move ?_)
              refine g_b rfl (fun h10 => ?_) (fun h10 => ?_)
              · skip
                have h10' := h10; (try simp only [decide_eq_true_eq, decide_eq_false_iff_not, Bool.not_eq_true', Bool.not_false, Bool.not_true, Bool.not_eq_false'] at h10')
                refine (p_move ?_)
                refine g_y rfl h10 (p_fap fa_29_2 ?_)
                refine g_y rfl h10 (p_loadp ty_27 ?_)
                refine g_y rfl h10 (p_ixl sl_27 (a := .fptr 6 (r.args.map Rx.cells) 0 0) ?_ (h0 := by omega) (h1 := by simp only [List.length_map]; omega))
                refine g_y rfl h10 (p_loadf ty_29 (a := .agg (r.args[0]'(by omega)).cells) ?_ (hr := rxrow_at (l := r.args) (k := 0) (by omega)) (hl := Nat.le_refl 6) (ha := rfl))
                refine g_y rfl h10 (p_move ?_)
                refine g_y rfl h10 (p_move ?_)
                refine g_y rfl h10 (p_call en_96 ((ih (B - 1) (by omega) (r.args[0]'(by omega)) _ w (es.length + 1) s16 (q) (by have := r.nodes_arg (k := 0) (by omega); omega) (ho.arg (by omega)) hw hwl (by rw [← hn]; exact h7)).mono ?_))
                rintro _ es3 ⟨id8, s8, rfl, hid8, h8, kb8⟩
                rw [← hn] at h8
                refine g_y rfl h10 (p_call en_128 ((or_walk (by omega) ((kb8.1 (es.length + 1) (at_lt h7)).trans h7) h8 (by have := at_lt h7; omega)).mono ?_))
                rintro _ es4 ⟨rfl, h9, hok9⟩
                refine l_cons rfl (p_pickt h10 ?_)
                refine l_nil ?_
                refine k_seq_normal ?_
                refine w_b (fun h11 => ?_) (fun h11 => ?_)
                · skip
                  have h11' := h11; (try simp only [decide_eq_true_eq, decide_eq_false_iff_not, Bool.not_eq_true', Bool.not_false, Bool.not_true, Bool.not_eq_false'] at h11')
                  refine w_skip ?_
                  refine k_seq_normal ?_
                  refine w_block ?_
                  refine w_skip ?_
                  refine k_blk_normal ?_
                  refine k_seq_normal ?_
                  exact ⟨falses n (orP q (endsP (r.args[0]'(by omega)).lang w q) n), falses_less (by simp_all), _, rfl, by rw [show endsP (r.args[0]'(by omega)).lang w q = endsP (Rx.langOne r.args) w q from funext fun j => ends_congr (one_arg (by omega)) w q j]; exact mid_step hn hmid, hid7, h9, hok9.kb (kb.trans kb8) (by simp only [List.length_cons]; omega), by simp only [Knows, put, upd_apply, Nat.reduceEqDiff, ↓reduceIte, and_true, true_and, eq_self] <;> and_intros <;> rfl⟩
                · skip
                  have h11' := h11; (try simp only [decide_eq_true_eq, decide_eq_false_iff_not, Bool.not_eq_true', Bool.not_false, Bool.not_true, Bool.not_eq_false'] at h11')
                  refine w_exit ?_
                  refine k_seq_exit ?_
                  refine k_seq_exit ?_
                  refine k_blk_here ?_
                  refine k_blk_normal ?_
                  refine k_seq_normal ?_
                  first
                  | exact ⟨es.length + 1, s16, Nat.lt_succ_self _, row_hit (boolRow_congr fun j hj => ends_eps (kind_2 (by omega)) hn hj p), (KB.refl _).push _, by simp only [Knows, put, upd_apply, Nat.reduceEqDiff, ↓reduceIte, and_true, true_and, eq_self] <;> and_intros <;> rfl⟩
                  | (have hiw : i = w.length := by omega
                     rw [hiw] at h7
                     exact ⟨_, _, hid7, by rw [h7, boolRow_congr fun j hj => eg_done (kind_3 (by omega)) hn hj p], kb, by simp only [Knows, put, upd_apply, Nat.reduceEqDiff, ↓reduceIte, and_true, true_and, eq_self] <;> and_intros <;> rfl⟩)
                  | (have hkl : k = r.args.length := by omega
                     rw [hkl, List.take_length] at h7
                     exact ⟨_, _, hid7, by rw [h7, boolRow_congr fun j hj => ends_congr (fun x => (kind_4 (by omega) x).symm) w p j], kb, by simp only [Knows, put, upd_apply, Nat.reduceEqDiff, ↓reduceIte, and_true, true_and, eq_self] <;> and_intros <;> rfl⟩)
                  | (have hkl : k = r.args.length := by omega
                     rw [hkl, List.take_length] at h7
                     exact ⟨_, _, hid7, by rw [h7, boolRow_congr fun j hj => ends_congr (kind_5 (by omega)) w p j], kb, by simp only [Knows, put, upd_apply, Nat.reduceEqDiff, ↓reduceIte, and_true, true_and, eq_self] <;> and_intros <;> rfl⟩)
                  | exact ⟨_, _, hid7, by rw [h9, boolRow_congr fun j hj => (orP_same (by assumption) hj).trans ((mid_done hn hmid (by rw [← show endsP (r.args[0]'(by omega)).lang w q = endsP (Rx.langOne r.args) w q from funext fun j => ends_congr (one_arg (by omega)) w q j]; assumption) hj).trans (ends_congr (fun x => (kind_6 (by omega) x).symm) w p j))], hok9.kb (kb.trans kb8) (by simp only [List.length_cons]; omega), by simp only [Knows, put, upd_apply, Nat.reduceEqDiff, ↓reduceIte, and_true, true_and, eq_self] <;> and_intros <;> rfl⟩
                  | exact ⟨_, _, hid7, by rw [h7, boolRow_congr fun j hj => (mid_none (fun x => not_one (by omega)) hn hmid hj).trans (ends_congr (fun x => (kind_6 (by omega) x).symm) w p j)], kb, by simp only [Knows, put, upd_apply, Nat.reduceEqDiff, ↓reduceIte, and_true, true_and, eq_self] <;> and_intros <;> rfl⟩
                  | exact ⟨es.length + 1, s16, Nat.lt_succ_self _, row_hit (boolRow_congr fun j hj => ends_none (kind_0 (by omega))), (KB.refl _).push _, by simp only [Knows, put, upd_apply, Nat.reduceEqDiff, ↓reduceIte, and_true, true_and, eq_self] <;> and_intros <;> rfl⟩
              · skip
                have h10' := h10; (try simp only [decide_eq_true_eq, decide_eq_false_iff_not, Bool.not_eq_true', Bool.not_false, Bool.not_true, Bool.not_eq_false'] at h10')
                refine g_n rfl h10 ?_
                refine g_n rfl h10 ?_
                refine g_n rfl h10 ?_
                refine g_n rfl h10 ?_
                refine g_n rfl h10 ?_
                refine g_n rfl h10 ?_
                refine g_n rfl h10 ?_
                refine g_n rfl h10 ?_
                refine l_cons rfl (p_pickf h10 ?_)
                refine l_nil ?_
                refine k_seq_normal ?_
                refine w_f rfl ?_
                refine w_exit ?_
                refine k_seq_exit ?_
                refine k_seq_exit ?_
                refine k_blk_here ?_
                refine k_blk_normal ?_
                refine k_seq_normal ?_
                first
                | exact ⟨es.length + 1, s16, Nat.lt_succ_self _, row_hit (boolRow_congr fun j hj => ends_eps (kind_2 (by omega)) hn hj p), (KB.refl _).push _, by simp only [Knows, put, upd_apply, Nat.reduceEqDiff, ↓reduceIte, and_true, true_and, eq_self] <;> and_intros <;> rfl⟩
                | (have hiw : i = w.length := by omega
                   rw [hiw] at h7
                   exact ⟨_, _, hid7, by rw [h7, boolRow_congr fun j hj => eg_done (kind_3 (by omega)) hn hj p], kb, by simp only [Knows, put, upd_apply, Nat.reduceEqDiff, ↓reduceIte, and_true, true_and, eq_self] <;> and_intros <;> rfl⟩)
                | (have hkl : k = r.args.length := by omega
                   rw [hkl, List.take_length] at h7
                   exact ⟨_, _, hid7, by rw [h7, boolRow_congr fun j hj => ends_congr (fun x => (kind_4 (by omega) x).symm) w p j], kb, by simp only [Knows, put, upd_apply, Nat.reduceEqDiff, ↓reduceIte, and_true, true_and, eq_self] <;> and_intros <;> rfl⟩)
                | (have hkl : k = r.args.length := by omega
                   rw [hkl, List.take_length] at h7
                   exact ⟨_, _, hid7, by rw [h7, boolRow_congr fun j hj => ends_congr (kind_5 (by omega)) w p j], kb, by simp only [Knows, put, upd_apply, Nat.reduceEqDiff, ↓reduceIte, and_true, true_and, eq_self] <;> and_intros <;> rfl⟩)
                | exact ⟨_, _, hid7, by rw [h9, boolRow_congr fun j hj => (orP_same (by assumption) hj).trans ((mid_done hn hmid (by rw [← show endsP (r.args[0]'(by omega)).lang w q = endsP (Rx.langOne r.args) w q from funext fun j => ends_congr (one_arg (by omega)) w q j]; assumption) hj).trans (ends_congr (fun x => (kind_6 (by omega) x).symm) w p j))], hok9.kb (kb.trans kb8) (by simp only [List.length_cons]; omega), by simp only [Knows, put, upd_apply, Nat.reduceEqDiff, ↓reduceIte, and_true, true_and, eq_self] <;> and_intros <;> rfl⟩
                | exact ⟨_, _, hid7, by rw [h7, boolRow_congr fun j hj => (mid_none (fun x => not_one (by omega)) hn hmid hj).trans (ends_congr (fun x => (kind_6 (by omega) x).symm) w p j)], kb, by simp only [Knows, put, upd_apply, Nat.reduceEqDiff, ↓reduceIte, and_true, true_and, eq_self] <;> and_intros <;> rfl⟩
                | exact ⟨es.length + 1, s16, Nat.lt_succ_self _, row_hit (boolRow_congr fun j hj => ends_none (kind_0 (by omega))), (KB.refl _).push _, by simp only [Knows, put, upd_apply, Nat.reduceEqDiff, ↓reduceIte, and_true, true_and, eq_self] <;> and_intros <;> rfl⟩
            · skip
              have h9' := h9; (try simp only [decide_eq_true_eq, decide_eq_false_iff_not, Bool.not_eq_true', Bool.not_false, Bool.not_true, Bool.not_eq_false'] at h9')
              refine w_skip ?_
              refine k_blk_normal ?_
              refine k_seq_normal ?_
              first
              | exact ⟨es.length + 1, s16, Nat.lt_succ_self _, row_hit (boolRow_congr fun j hj => ends_eps (kind_2 (by omega)) hn hj p), (KB.refl _).push _, by simp only [Knows, put, upd_apply, Nat.reduceEqDiff, ↓reduceIte, and_true, true_and, eq_self] <;> and_intros <;> rfl⟩
              | (have hiw : i = w.length := by omega
                 rw [hiw] at h7
                 exact ⟨_, _, hid7, by rw [h7, boolRow_congr fun j hj => eg_done (kind_3 (by omega)) hn hj p], kb, by simp only [Knows, put, upd_apply, Nat.reduceEqDiff, ↓reduceIte, and_true, true_and, eq_self] <;> and_intros <;> rfl⟩)
              | (have hkl : k = r.args.length := by omega
                 rw [hkl, List.take_length] at h7
                 exact ⟨_, _, hid7, by rw [h7, boolRow_congr fun j hj => ends_congr (fun x => (kind_4 (by omega) x).symm) w p j], kb, by simp only [Knows, put, upd_apply, Nat.reduceEqDiff, ↓reduceIte, and_true, true_and, eq_self] <;> and_intros <;> rfl⟩)
              | (have hkl : k = r.args.length := by omega
                 rw [hkl, List.take_length] at h7
                 exact ⟨_, _, hid7, by rw [h7, boolRow_congr fun j hj => ends_congr (kind_5 (by omega)) w p j], kb, by simp only [Knows, put, upd_apply, Nat.reduceEqDiff, ↓reduceIte, and_true, true_and, eq_self] <;> and_intros <;> rfl⟩)
              | exact ⟨_, _, hid7, by rw [h9, boolRow_congr fun j hj => (orP_same (by assumption) hj).trans ((mid_done hn hmid (by rw [← show endsP (r.args[0]'(by omega)).lang w q = endsP (Rx.langOne r.args) w q from funext fun j => ends_congr (one_arg (by omega)) w q j]; assumption) hj).trans (ends_congr (fun x => (kind_6 (by omega) x).symm) w p j))], hok9.kb (kb.trans kb8) (by simp only [List.length_cons]; omega), by simp only [Knows, put, upd_apply, Nat.reduceEqDiff, ↓reduceIte, and_true, true_and, eq_self] <;> and_intros <;> rfl⟩
              | exact ⟨_, _, hid7, by rw [h7, boolRow_congr fun j hj => (mid_none (fun x => not_one (by omega)) hn hmid hj).trans (ends_congr (fun x => (kind_6 (by omega) x).symm) w p j)], kb, by simp only [Knows, put, upd_apply, Nat.reduceEqDiff, ↓reduceIte, and_true, true_and, eq_self] <;> and_intros <;> rfl⟩
              | exact ⟨es.length + 1, s16, Nat.lt_succ_self _, row_hit (boolRow_congr fun j hj => ends_none (kind_0 (by omega))), (KB.refl _).push _, by simp only [Knows, put, upd_apply, Nat.reduceEqDiff, ↓reduceIte, and_true, true_and, eq_self] <;> and_intros <;> rfl⟩
  · skip
    rintro f es' ⟨id7, s7, hid7, h7, kb, hk⟩
    refine w_pins _ (Sub.refl _) (hk) ?_
    simp only [pins]
    refine w_seq ?_
    refine w_region ?_
    refine l_cons rfl (p_move ?_)
    refine l_cons rfl (p_assign ?_)
    refine l_nil ?_
    refine k_seq_normal ?_
    refine w_ret ?_
    exact ret1 rfl (by simp only [ev_tmp, ev_const, ev_func, ofConst_int, ofConst_bool, ofConst_str, ofConst_nil, upd_apply, Nat.reduceEqDiff, ↓reduceIte] <;> exact rfl) (Sub.refl _) ⟨id7, s7, rfl, by omega, h7, kb.pop⟩
theorem In_walk {w0 : World} {es : List Ent} (r : Rx) (w : List Int) (ho : r.ok) (hw : bytesOk w) (hwl : w.length ≤ 1000) : ACalls Tryd.prog w0 58 [.agg r.cells, bytesAV w] es fun v es' => v = .bool (inR r w) ∧ es' = es := by
 unfold bytesAV
 obtain ⟨n, hn⟩ : ∃ n, n = w.length + 1 := ⟨_, rfl⟩
 refine calls2 (N := 20) Tryd.func58 rfl rfl (by decide) ?_
 refine w_seq ?_
 refine w_region ?_
 refine l_cons rfl (p_box fun s2 => ?_)
 refine l_cons rfl (p_assign ?_)
 refine l_nil ?_
 refine k_seq_normal ?_
 refine w_seq ?_
 refine w_region ?_
 refine l_cons rfl (p_move ?_)
 refine l_cons rfl (p_lenl sl_22 ?_)
 refine l_cons rfl (p_arith (r := (w.length : Int) + 1) ?_ (hb := add64 (by omega) (by omega)))
 refine l_cons rfl (p_makeSlice sl_60 by_4 ze_4  fun s9 => ?_)
 rw [show ((w.length : Int) + 1).toNat = n by omega, boolRow_none n]
 refine l_cons rfl (p_assign ?_)
 refine l_nil ?_
 refine k_seq_normal ?_
 refine w_seq ?_
 refine w_region ?_
 refine l_cons rfl (p_move ?_)
 refine l_cons rfl (p_ixo sl_60 (a := .ptr (es.length + 1) s9 0 0) ?_ (h0 := by omega) (h1 := by rw [boolRow_len]; omega))
 refine l_cons rfl (p_store ty_4 (rows' := (boolRow n (fun _ => false)).set (0) [.bool (true)]) (r' := [.bool (true)]) ?_ (hr := boolRow_at _ (by omega)) (hl := Nat.le_refl 1) (hr' := by first | rfl | (simp only [List.take_zero, List.nil_append, List.drop_succ_cons, List.drop_zero, List.append_nil, List.drop_nil] <;> simp [*, W4.hasI])) (hrs := rfl))
 refine l_nil ?_
 refine k_seq_normal ?_
 refine w_seq ?_
 refine w_region ?_
 refine l_cons rfl (p_loadp ty_29 ?_)
 refine l_cons rfl (p_move ?_)
 refine l_cons rfl (p_move ?_)
 refine l_cons rfl (p_call en_96 ((ends_walk _ r _ w (es.length + 1) s9 (fun j => if j = 0 then true else false) (Nat.le_refl _) ho hw hwl (by rw [← hn, ← boolRow_set _ _ (by omega)]; exact at_hit _ _)).mono ?_))
 rintro _ es3 ⟨id8, s8, rfl, hid8, h8, kb8⟩
 rw [← hn] at h8
 refine l_cons rfl (p_move ?_)
 refine l_cons rfl (p_lenl sl_22 ?_)
 refine l_cons rfl (p_ixo sl_60 (a := .ptr id8 s8 w.length 0) ?_ (h0 := by omega) (h1 := by rw [boolRow_len]; omega))
 refine l_cons rfl (p_loadp ty_4 (a := .bool (inR r w)) ?_ (hr := boolRow_at _ (by omega)) (hl := Nat.le_refl 1) (ha := by rw [inR_ends]; rfl))
 refine l_cons rfl (p_assign ?_)
 refine l_nil ?_
 refine k_seq_normal ?_
 refine w_ret ?_
 exact ret1 rfl (by simp only [ev_tmp, ev_const, ev_func, ofConst_int, ofConst_bool, ofConst_str, ofConst_nil, upd_apply, Nat.reduceEqDiff, ↓reduceIte] <;> exact rfl) (sub_of fun i hi => by rw [kb8.1 i (by simp only [List.length_cons]; omega), at_push _ (by simp only [List.length_cons]; omega), at_push _ hi]) ⟨rfl, rfl⟩
end Go.Proofs.YtfdgbghlanbddaaDoor.Av
set_option linter.unusedVariables false
set_option linter.unusedSimpArgs false
namespace Go.Proofs.YtfdgbghlanbddaaDoor.Av
/-! ### the empty word, any word, the first bytes -/
mutual
def Rx.null : Rx → Bool
 | .mk k s l => if k = 2 ∨ k = 6 then true else if k = 4 then Rx.nullA l else if k = 5 then Rx.nullE l else false
def Rx.nullA : List Rx → Bool
 | [] => true
 | a :: t => a.null && Rx.nullA t
def Rx.nullE : List Rx → Bool
 | [] => false
 | a :: t => a.null || Rx.nullE t
end
mutual
def Rx.some : Rx → Bool
 | .mk k s l => if k = 2 ∨ k = 6 then true else if k = 3 then !decide (s = noSet) else if k = 4 then Rx.someA l else if k = 5 then Rx.someE l else false
def Rx.someA : List Rx → Bool
 | [] => true
 | a :: t => a.some && Rx.someA t
def Rx.someE : List Rx → Bool
 | [] => false
 | a :: t => a.some || Rx.someE t
end
mutual
def Rx.first : Rx → W4
 | .mk k s l => if k = 3 then s else if k = 5 ∨ k = 6 ∧ l.length = 1 then Rx.firstE noSet l else if k = 4 ∧ Rx.someA l = true then Rx.firstC noSet l else noSet
def Rx.firstE : W4 → List Rx → W4
 | s, [] => s
 | s, a :: t => Rx.firstE (s.or a.first) t
def Rx.firstC : W4 → List Rx → W4
 | s, [] => s
 | s, a :: t => if a.null = true then Rx.firstC (s.or a.first) t else s.or a.first
end
theorem nullA_all (l : List Rx) : Rx.nullA l = l.all Rx.null := by
 induction l with
 | nil => rfl
 | cons a t ih => rw [Rx.nullA, ih]; rfl
theorem nullE_any (l : List Rx) : Rx.nullE l = l.any Rx.null := by
 induction l with
 | nil => rfl
 | cons a t ih => rw [Rx.nullE, ih]; rfl
theorem someA_all (l : List Rx) : Rx.someA l = l.all Rx.some := by
 induction l with
 | nil => rfl
 | cons a t ih => rw [Rx.someA, ih]; rfl
theorem someE_any (l : List Rx) : Rx.someE l = l.any Rx.some := by
 induction l with
 | nil => rfl
 | cons a t ih => rw [Rx.someE, ih]; rfl
theorem null_eq (r : Rx) : r.null = if r.kind = 2 ∨ r.kind = 6 then true else if r.kind = 4 then r.args.all Rx.null else if r.kind = 5 then r.args.any Rx.null else false := by
 cases r
 rw [Rx.null, nullA_all, nullE_any]
 rfl
theorem some_eq (r : Rx) : r.some = if r.kind = 2 ∨ r.kind = 6 then true else if r.kind = 3 then !decide (r.set = noSet) else if r.kind = 4 then r.args.all Rx.some else if r.kind = 5 then r.args.any Rx.some else false := by
 cases r
 rw [Rx.some, someA_all, someE_any]
 rfl
theorem firstE_fold (l : List Rx) (s : W4) : Rx.firstE s l = l.foldl (fun s a => s.or a.first) s := by
 induction l generalizing s with
 | nil => rfl
 | cons a t ih => rw [Rx.firstE, ih]; rfl
theorem firstC_none {l : List Rx} (h : ∀ a ∈ l, a.null = true) (s : W4) : Rx.firstC s l = Rx.firstE s l := by
 induction l generalizing s with
 | nil => rfl
 | cons a t ih => rw [Rx.firstC, Rx.firstE, if_pos (h a (by simp)), ih (fun x hx => h x (by simp [hx]))]
theorem firstC_at : ∀ {l : List Rx} {k : Nat} (h : k < l.length), (∀ j (hj : j < k) (h : j < l.length), l[j].null = true) → l[k].null = false → ∀ s, Rx.firstC s l = Rx.firstE s (l.take (k + 1))
 | a :: t, 0, h, _, h2, s => by
  rw [Rx.firstC, if_neg (by simpa using h2)]
  rfl
 | a :: t, k + 1, h, h1, h2, s => by
  have h0 : a.null = true := h1 0 (by omega) (by simp)
  rw [Rx.firstC, if_pos h0]
  have := firstC_at (l := t) (k := k) (by simpa using h) (fun j hj hl => h1 (j + 1) (by omega) (by simpa using hl)) h2 (s.or a.first)
  rw [this]
  rfl
theorem firstE_succ {l : List Rx} {k : Nat} (h : k < l.length) (s : W4) : Rx.firstE s (l.take (k + 1)) = (Rx.firstE s (l.take k)).or (l[k]).first := by
 rw [firstE_fold, firstE_fold, List.take_add_one, List.getElem?_eq_getElem h, List.foldl_append]
 rfl
theorem firstC_all {l : List Rx} (h : ∀ j (hj : j < l.length) (h : j < l.length), l[j].null = true) (s : W4) : Rx.firstC s l = Rx.firstE s l :=
 firstC_none (fun a ha => by obtain ⟨j, hj, rfl⟩ := List.mem_iff_getElem.1 ha; exact h j hj hj) s
theorem first_3 {r : Rx} (h : r.kind = 3) : r.first = r.set := by cases r; simp only [Rx.kind] at h; rw [Rx.first, if_pos h]; rfl
theorem first_5 {r : Rx} (h : r.kind = 5 ∨ r.kind = 6 ∧ r.args.length = 1) : r.first = Rx.firstE noSet r.args := by
 cases r
 simp only [Rx.kind, Rx.args] at h
 rw [Rx.first, if_neg (by omega), if_pos h]
 rfl
theorem first_4 {r : Rx} (h : r.kind = 4) (hs : r.some = true) : r.first = Rx.firstC noSet r.args := by
 rw [some_eq, h] at hs
 cases r
 simp only [Rx.kind, Rx.args] at h hs
 rw [Rx.first, if_neg (by omega), if_neg (by omega), if_pos ⟨h, by simpa [someA_all] using hs⟩]
 rfl
theorem first_no {r : Rx} (h3 : r.kind ≠ 3) (h5 : ¬ (r.kind = 5 ∨ r.kind = 6 ∧ r.args.length = 1)) (h4 : r.kind = 4 → r.some = false) : r.first = noSet := by
 cases r with
 | mk k s l =>
  simp only [Rx.kind, Rx.args] at h3 h5 h4
  rw [Rx.first, if_neg h3, if_neg h5, if_neg]
  rintro ⟨h, hs⟩
  have := h4 h
  rw [some_eq] at this
  simp only [Rx.kind, Rx.args, h] at this
  rw [someA_all] at hs
  simp [hs] at this
mutual
theorem first_ok : ∀ r : Rx, r.ok → r.first.ok
 | .mk k s l, h => by
  have h2 : Rx.oks l := h.2.2
  rw [Rx.first]
  split
  ·exact h.2.1
  ·split
   ·exact firstE_ok l noSet noSet_ok h2
   ·split
    ·exact firstC_ok l noSet noSet_ok h2
    ·exact noSet_ok
theorem firstE_ok : ∀ (l : List Rx) (s : W4), s.ok → Rx.oks l → (Rx.firstE s l).ok
 | [], s, h, _ => by rw [Rx.firstE]; exact h
 | a :: t, s, h, g => by rw [Rx.firstE]; exact firstE_ok t _ (or_ok h (first_ok a g.1)) g.2
theorem firstC_ok : ∀ (l : List Rx) (s : W4), s.ok → Rx.oks l → (Rx.firstC s l).ok
 | [], s, h, _ => by rw [Rx.firstC]; exact h
 | a :: t, s, h, g => by
  rw [Rx.firstC]
  split
  ·exact firstC_ok t _ (or_ok h (first_ok a g.1)) g.2
  ·exact or_ok h (first_ok a g.1)
end
theorem oks_take {l : List Rx} (h : ∀ r ∈ l, r.ok) (k : Nat) : Rx.oks (l.take k) := (Rx.oks_iff _).2 fun r hr => h r (List.mem_of_mem_take hr)
theorem rall_no {p : Rx → Bool} {l : List Rx} {k : Nat} (h : k < l.length) (hp : p l[k] = false) : l.all p = false := by
 rw [List.all_eq_false]
 exact ⟨_, List.getElem_mem h, by simp [hp]⟩
theorem rall_yes {p : Rx → Bool} {l : List Rx} (h : ∀ j (hj : j < l.length) (h : j < l.length), p l[j] = true) : l.all p = true := by
 rw [List.all_eq_true]
 intro a ha
 obtain ⟨j, hj, rfl⟩ := List.mem_iff_getElem.1 ha
 exact h j hj hj
theorem rany_yes {p : Rx → Bool} {l : List Rx} {k : Nat} (h : k < l.length) (hp : p l[k] = true) : l.any p = true := List.any_eq_true.2 ⟨_, List.getElem_mem h, hp⟩
theorem rany_no {p : Rx → Bool} {l : List Rx} (h : ∀ j (hj : j < l.length) (h : j < l.length), p l[j] = false) : l.any p = false := by
 rw [List.any_eq_false]
 intro a ha
 obtain ⟨j, hj, rfl⟩ := List.mem_iff_getElem.1 ha
 simp [h j hj hj]
theorem next_true {p : Rx → Bool} {l : List Rx} {k : Nat} {b : Bool} (hk : k < l.length) (h : ∀ j (hj : j < k) (h : j < l.length), p l[j] = b) (hp : p l[k] = b) : ∀ j (hj : j < k + 1) (h : j < l.length), p l[j] = b := fun j hj hl => by
 rcases Nat.lt_or_eq_of_le (Nat.le_of_lt_succ hj) with h9 | h9
 ·exact h j h9 hl
 ·subst h9; exact hp
/-- Word by word. -/
def mapW (op : Int → Int → Int) (a b : W4) : W4 := ⟨op a.w0 b.w0, op a.w1 b.w1, op a.w2 b.w2, op a.w3 b.w3⟩
def mapTo (op : Int → Int → Int) (a b : W4) (k : Nat) : W4 := ⟨if 0 < k then op a.w0 b.w0 else 0, if 1 < k then op a.w1 b.w1 else 0, if 2 < k then op a.w2 b.w2 else 0, if 3 < k then op a.w3 b.w3 else 0⟩
theorem mapTo_succ (op : Int → Int → Int) (a b : W4) {k : Nat} (h : k < 4) : (mapTo op a b k).setWd k (op (a.wd k) (b.wd k)) = mapTo op a b (k + 1) := by
 have h1 : k = 0 ∨ k = 1 ∨ k = 2 ∨ k = 3 := by omega
 rcases h1 with rfl | rfl | rfl | rfl <;> rfl
end Go.Proofs.YtfdgbghlanbddaaDoor.Av
set_option linter.unusedVariables false
set_option linter.unusedSimpArgs false
set_option maxRecDepth 8000
namespace Go.Proofs.YtfdgbghlanbddaaDoor.Av
open Go.RowKit Go.Proofs
theorem or1_walk {w0 : World} {es : List Ent} (x y : Int) (hx : 0 ≤ x ∧ x < 18446744073709551616) (hy : 0 ≤ y ∧ y < 18446744073709551616) : ACalls Tryd.prog w0 130 [.int .u64 x, .int .u64 y] es fun v es' => v = .int .u64 (orI x y) ∧ es' = es := by
 refine calls2 (N := 8) Tryd.func130 rfl rfl (by decide) ?_
 refine w_seq ?_
 refine w_region ?_
 refine l_cons rfl (p_assign ?_)
 refine l_nil ?_
 refine k_seq_normal ?_
 refine w_seq ?_
 refine w_region ?_
 refine l_cons rfl (p_move ?_)
 refine l_cons rfl (p_move ?_)
 refine l_cons rfl (p_arith ?_ (hb := arith_or64 hx hy))
 refine l_cons rfl (p_assign ?_)
 refine l_nil ?_
 refine k_seq_normal ?_
 refine w_ret ?_
 refine ret1b rfl ?_ <;> exact ex2 subx ⟨rfl, rfl⟩
theorem with_walk {w0 : World} {es : List Ent} (op : Int → Int → Int) (g : Nat) (hen : enterB Tryd.prog g = true) (a b : W4) (hop : ∀ k, k < 4 → ∀ es, ACalls Tryd.prog w0 g [.int .u64 (a.wd k), .int .u64 (b.wd k)] es fun v es' => v = .int .u64 (op (a.wd k) (b.wd k)) ∧ es' = es) : ACalls Tryd.prog w0 129 [.agg a.row, .agg b.row, .fn (.func g) [] []] es fun v es' => v = .agg (mapW op a b).row ∧ es' = es := by
 unfold W4.row
 refine calls3 (N := 24) Tryd.func129 rfl rfl (by decide) ?_
 refine w_seq ?_
 refine w_region ?_
 refine l_cons rfl (p_box fun s3 => ?_)
 refine l_cons rfl (p_box fun s4 => ?_)
 refine l_cons rfl (p_alloc ze_26 fun s6 => ?_)
 refine l_nil ?_
 refine k_seq_normal ?_
 refine w_seq ?_
 refine w_region ?_
 refine l_cons rfl (p_alloc ze_26 fun s7 => ?_)
 refine l_nil ?_
 refine k_seq_normal ?_
 refine w_seq ?_
 refine w_seq ?_
 refine w_region ?_
 refine l_cons rfl (p_move ?_)
 refine l_nil ?_
 refine k_seq_normal ?_
 refine w_block ?_
 refine w_loop (fun m f es' => ∃ k, m = 4 - k ∧ k ≤ 4 ∧ es' = .row s7 26 4 [[.int .u64 (mapTo op a b k).w0, .int .u64 (mapTo op a b k).w1, .int .u64 (mapTo op a b k).w2, .int .u64 (mapTo op a b k).w3]] :: .row s6 26 4 [[.int .u64 0, .int .u64 0, .int .u64 0, .int .u64 0]] :: .row s4 26 4 [[.int .u64 b.w0, .int .u64 b.w1, .int .u64 b.w2, .int .u64 b.w3]] :: .row s3 26 4 [[.int .u64 a.w0, .int .u64 a.w1, .int .u64 a.w2, .int .u64 a.w3]] :: es ∧ Knows f [(2, .fn (.func g) [] []), (3, .ptr es.length s3 0 0), (4, .ptr (es.length + 1) s4 0 0), (6, .ptr (es.length + 2) s6 0 0), (7, .ptr (es.length + 3) s7 0 0), (9, .int .i64 (k : Int))]) (4) (⟨0, rfl, Nat.zero_le _, rfl, by simp only [Knows, put, upd_apply, Nat.reduceEqDiff, ↓reduceIte, and_true, true_and, eq_self] <;> and_intros <;> rfl⟩) ?_
 rintro m f es' ⟨k, rfl, hk1, rfl, hk⟩
 refine w_pins _ (Sub.refl _) (hk) ?_
 simp only [pins]
 refine w_seq ?_
 refine w_region ?_
 refine l_cons rfl (p_cmp ?_)
 refine l_nil ?_
 refine k_seq_normal ?_
 refine w_seq ?_
 refine w_b (fun h1 => ?_) (fun h1 => ?_)
 ·skip
  have h1' := h1; (try simp only [decide_eq_true_eq, decide_eq_false_iff_not, Bool.not_eq_true', Bool.not_false, Bool.not_true, Bool.not_eq_false'] at h1')
  refine w_skip ?_
  refine k_seq_normal ?_
  refine w_seq ?_
  refine w_block ?_
  refine w_seq ?_
  refine w_region ?_
  refine l_cons rfl (p_move ?_)
  refine l_cons rfl (p_assign ?_)
  refine l_nil ?_
  refine k_seq_normal ?_
  refine w_drawn 9 [] (fun e => e = _) mixed (by kernel_rfl) rfl ?_
  refine q1 8 (hg := rfl) (hu := rfl) (h := by rintro f _ rfl; exact p_move ⟨rfl, rfl⟩) (k := ?_)
  refine q1 2 (hg := rfl) (hu := rfl) (h := by rintro f _ rfl; exact p_move ⟨rfl, rfl⟩) (k := ?_)
  refine q1 8 (hg := rfl) (hu := rfl) (h := by rintro f _ rfl; exact p_move ⟨rfl, rfl⟩) (k := ?_)
  refine q2 3 14 (hg := rfl) (hu := rfl) (h := by rintro f _ rfl; exact p_ixa ar_26 (a := .ptr es.length s3 0 k) ⟨rfl, rfl⟩ (h0 := by omega) (h1 := by omega) (ho := by simp)) (k := ?_)
  refine q1 15 (hg := rfl) (hu := rfl) (h := by rintro f _ rfl; exact p_loadp ty_24 (a := .int .u64 (a.wd k)) ⟨rfl, rfl⟩ (hl := by simp only [List.length_cons, List.length_nil]; omega) (ha := wd_load a (by omega))) (k := ?_)
  refine q1 8 (hg := rfl) (hu := rfl) (h := by rintro f _ rfl; exact p_move ⟨rfl, rfl⟩) (k := ?_)
  refine q2 4 17 (hg := rfl) (hu := rfl) (h := by rintro f _ rfl; exact p_ixa ar_26 (a := .ptr (es.length + 1) s4 0 k) ⟨rfl, rfl⟩ (h0 := by omega) (h1 := by omega) (ho := by simp)) (k := ?_)
  refine q1 18 (hg := rfl) (hu := rfl) (h := by rintro f _ rfl; exact p_loadp ty_24 (a := .int .u64 (b.wd k)) ⟨rfl, rfl⟩ (hl := by simp only [List.length_cons, List.length_nil]; omega) (ha := wd_load b (by omega))) (k := ?_)
  refine q3 13 16 19 (hg := rfl) (hu := rfl) (h := by rintro f _ rfl; exact p_callr hen (hop k (by omega) _) ⟨rfl, rfl⟩) (k := ?_)
  refine q_end ?_
  refine m_end ?_
  refine l_cons rfl (p_ixa ar_26 (a := .ptr (es.length + 3) s7 0 k) ?_ (h0 := by omega) (h1 := by omega) (ho := by simp))
  refine l_cons rfl (p_store ty_24 (r' := [.int .u64 (mapTo op a b (k + 1)).w0, .int .u64 (mapTo op a b (k + 1)).w1, .int .u64 (mapTo op a b (k + 1)).w2, .int .u64 (mapTo op a b (k + 1)).w3]) ?_ (hl := by simp only [List.length_cons, List.length_nil]; omega) (hr' := by rw [← mapTo_succ op a b (by omega)]; exact store_wd (mapTo op a b k) (by omega) _))
  refine l_nil ?_
  refine k_blk_normal ?_
  refine k_seq_normal ?_
  refine w_region ?_
  refine l_cons rfl (p_arith ?_)
  refine l_cons rfl (p_move ?_)
  refine l_nil ?_
  refine k_seq_normal ?_
  exact ⟨4 - (k + 1), by omega, k + 1, rfl, by omega, rfl, by simp only [Knows, put, upd_apply, Nat.reduceEqDiff, ↓reduceIte, and_true, true_and, eq_self] <;> and_intros <;> rfl⟩
 ·skip
  have h1' := h1; (try simp only [decide_eq_true_eq, decide_eq_false_iff_not, Bool.not_eq_true', Bool.not_false, Bool.not_true, Bool.not_eq_false'] at h1')
  refine w_exit ?_
  refine k_seq_exit ?_
  refine k_seq_exit ?_
  refine k_blk_here ?_
  refine k_seq_normal ?_
  refine w_seq ?_
  refine w_region ?_
  refine l_cons rfl (p_loadp ty_26 ?_)
  refine l_cons rfl (p_store ty_26 ?_)
  refine l_nil ?_
  refine k_seq_normal ?_
  refine w_ret ?_
  have hk4 : k = 4 := by omega
  subst hk4
  exact retc rfl ty_26 (sub4 _ _ _ _ _) ⟨rfl, rfl⟩
theorem or_set {w0 : World} {es : List Ent} (a b : W4) (ha : a.ok) (hb : b.ok) : ACalls Tryd.prog w0 97 [.agg a.row, .agg b.row] es fun v es' => v = .agg (a.or b).row ∧ es' = es := by
 refine calls2 (N := 8) Tryd.func97 rfl rfl (by decide) ?_
 refine w_seq ?_
 refine w_region ?_
 refine l_cons rfl (p_box fun s2 => ?_)
 refine l_cons rfl (p_box fun s3 => ?_)
 refine l_cons rfl (p_alloc ze_26 fun s4 => ?_)
 refine l_nil ?_
 refine k_seq_normal ?_
 refine w_seq ?_
 refine w_region ?_
 refine l_cons rfl (p_loadp ty_26 ?_)
 refine l_cons rfl (p_loadp ty_26 ?_)
 refine l_cons rfl (p_callr en_129 (with_walk orI 130 en_130 a b (fun k hk es => or1_walk _ _ (W4.wd_ok ha k) (W4.wd_ok hb k))) ?_)
 refine l_cons rfl (p_store ty_26 ?_)
 refine l_nil ?_
 refine k_seq_normal ?_
 refine w_ret ?_
 exact retc rfl ty_26 (by first | exact Sub.refl _ | exact sub1 _ _ | exact sub2 _ _ _ | exact sub3 _ _ _ _ | exact sub4 _ _ _ _ _ | exact sub5 _ _ _ _ _ _) ⟨rfl, rfl⟩
theorem Null_walk {w0 : World} : ∀ (B : Nat) (r : Rx) (es : List Ent), r.nodes ≤ B → B ≤ 1048576 → ACalls Tryd.prog w0 59 [.agg r.cells] es fun v es' => v = .bool r.null ∧ es' = es := by
 intro B
 induction B using Nat.strongRecOn with
 | _ B ih => ?_
 intro r es hB hB2
 rw [Rx.cells_eq r]
 have hne := r.nodes_eq
 have hal := Rx.len_le r.args
 refine calls1 (N := 37) Tryd.func59 rfl rfl (by decide) ?_
 refine w_seq ?_
 refine w_region ?_
 refine l_cons rfl (p_box fun s1 => ?_)
 refine l_cons rfl (p_assign ?_)
 refine l_nil ?_
 refine k_seq_normal ?_
 refine w_seq ?_
 refine w_seq ?_
 refine w_region ?_
 refine l_cons rfl (p_fap fa_29_0 ?_)
 refine l_cons rfl (p_loadp ty_3 ?_)
 refine l_nil ?_
 refine k_seq_normal ?_
 refine w_block ?_
 refine w_seq ?_
 refine w_seq ?_
 refine w_region ?_
 refine l_cons rfl (p_cmp ?_)
 refine l_cons rfl (p_assign ?_)
 refine l_nil ?_
 refine k_seq_normal ?_
 refine w_b (fun h1 => ?_) (fun h1 => ?_)
 ·skip
  have h1' := h1; (try simp only [decide_eq_true_eq, decide_eq_false_iff_not, Bool.not_eq_true', Bool.not_false, Bool.not_true, Bool.not_eq_false'] at h1')
  refine w_skip ?_
  refine k_seq_normal ?_
  refine w_t h1 ?_
  refine w_seq ?_
  refine w_region ?_
  refine l_cons rfl (p_assign ?_)
  refine l_nil ?_
  refine k_seq_normal ?_
  refine w_ret ?_
  refine k_blk_ret ?_
  refine k_seq_ret ?_
  exact ret1 rfl (by simp only [ev_tmp, ev_const, ev_func, ofConst_int, ofConst_bool, ofConst_str, ofConst_nil, upd_apply, Nat.reduceEqDiff, ↓reduceIte] <;> exact rfl) (by first | exact sub1 _ _ | exact kb.sub | exact (kb.push _).sub | exact Sub.refl _) ⟨by rw [null_eq, if_pos (by omega)], rfl⟩
 ·skip
  have h1' := h1; (try simp only [decide_eq_true_eq, decide_eq_false_iff_not, Bool.not_eq_true', Bool.not_false, Bool.not_true, Bool.not_eq_false'] at h1')
  refine w_region ?_
  refine l_cons rfl (p_cmp ?_)
  refine l_cons rfl (p_assign ?_)
  refine l_nil ?_
  refine k_seq_normal ?_
  refine w_b (fun h2 => ?_) (fun h2 => ?_)
  ·skip
   have h2' := h2; (try simp only [decide_eq_true_eq, decide_eq_false_iff_not, Bool.not_eq_true', Bool.not_false, Bool.not_true, Bool.not_eq_false'] at h2')
   refine w_seq ?_
   refine w_region ?_
   refine l_cons rfl (p_assign ?_)
   refine l_nil ?_
   refine k_seq_normal ?_
   refine w_ret ?_
   refine k_blk_ret ?_
   refine k_seq_ret ?_
   exact ret1 rfl (by simp only [ev_tmp, ev_const, ev_func, ofConst_int, ofConst_bool, ofConst_str, ofConst_nil, upd_apply, Nat.reduceEqDiff, ↓reduceIte] <;> exact rfl) (by first | exact sub1 _ _ | exact kb.sub | exact (kb.push _).sub | exact Sub.refl _) ⟨by rw [null_eq, if_pos (by omega)], rfl⟩
  ·skip
   have h2' := h2; (try simp only [decide_eq_true_eq, decide_eq_false_iff_not, Bool.not_eq_true', Bool.not_false, Bool.not_true, Bool.not_eq_false'] at h2')
   refine w_seq ?_
   refine w_region ?_
   refine l_cons rfl (p_cmp ?_)
   refine l_cons rfl (p_assign ?_)
   refine l_nil ?_
   refine k_seq_normal ?_
   refine w_b (fun h3 => ?_) (fun h3 => ?_)
   ·skip
    have h3' := h3; (try simp only [decide_eq_true_eq, decide_eq_false_iff_not, Bool.not_eq_true', Bool.not_false, Bool.not_true, Bool.not_eq_false'] at h3')
    refine w_seq ?_
    refine w_seq ?_
    refine w_region ?_
    refine l_cons rfl (p_fap fa_29_2 ?_)
    refine l_cons rfl (p_loadp ty_27 ?_)
    first | refine l_cons rfl (p_lenl sl_27 ?_) | refine l_cons rfl (p_leno sl_27 ?_) | refine l_cons rfl (p_lenn sl_27 ?_)
    refine l_len 15 fun hl2 => ?_
    simp only [List.length_map, most] at hl2
    refine l_cons rfl (p_move ?_)
    refine l_nil ?_
    refine k_seq_normal ?_
    refine w_block ?_
    refine w_loop (fun m f es2 => ∃ k, m = r.args.length - k ∧ k ≤ r.args.length ∧ (∀ j (hj : j < k) (h : j < r.args.length), (r.args[j]).null = true) ∧ KB es es2 ∧ Knows f [(15, .list 6 (r.args.map Rx.cells)), (16, .int .i64 (r.args.length : Int)), (17, .int .i64 (k : Int))]) (r.args.length) (⟨0, rfl, Nat.zero_le _, fun j hj => absurd hj (Nat.not_lt_zero _), (KB.refl _).push _, by simp only [List.length_map, Knows, put, upd_apply, Nat.reduceEqDiff, ↓reduceIte, and_true, true_and, eq_self] <;> and_intros <;> rfl⟩) ?_
    rintro m f es2 ⟨k, rfl, hk1, hk2, kb, hk⟩
    refine w_pins _ (Sub.refl _) (hk) ?_
    simp only [pins]
    refine w_seq ?_
    refine w_region ?_
    refine l_cons rfl (p_cmp ?_)
    refine l_nil ?_
    refine k_seq_normal ?_
    refine w_seq ?_
    refine w_b (fun h4 => ?_) (fun h4 => ?_)
    ·skip
     have h4' := h4; (try simp only [decide_eq_true_eq, decide_eq_false_iff_not, Bool.not_eq_true', Bool.not_false, Bool.not_true, Bool.not_eq_false'] at h4')
     refine w_skip ?_
     refine k_seq_normal ?_
     refine w_seq ?_
     refine w_block ?_
     refine w_seq ?_
     refine w_region ?_
     refine l_cons rfl (p_ixl sl_27 (a := .fptr 6 (r.args.map Rx.cells) k 0) ?_ (h0 := by omega) (h1 := by simp only [List.length_map]; omega))
     refine l_cons rfl (p_loadf ty_29 (a := .agg (r.args[k]'(by omega)).cells) ?_ (hr := rxrow_at (l := r.args) (k := k) (by omega)) (hl := Nat.le_refl 6) (ha := rfl))
     refine l_cons rfl (p_alloc ze_29 fun s4 => ?_)
     refine l_cons rfl (p_store ty_29 ?_)
     refine l_nil ?_
     refine k_seq_normal ?_
     refine w_seq ?_
     refine w_region ?_
     refine l_cons rfl (p_loadp ty_29 ?_)
     refine l_cons rfl (p_callr en_59 (ih (B - 1) (by omega) (r.args[k]'(by omega)) _ (by have := r.nodes_arg (k := k) (by omega); omega) (by omega)) ?_)
     refine l_cons rfl (p_not ?_)
     refine l_nil ?_
     refine k_seq_normal ?_
     refine w_b (fun h5 => ?_) (fun h5 => ?_)
     ·skip
      have h5' := h5; (try simp only [decide_eq_true_eq, decide_eq_false_iff_not, Bool.not_eq_true', Bool.not_false, Bool.not_true, Bool.not_eq_false'] at h5')
      refine w_seq ?_
      refine w_region ?_
      refine l_cons rfl (p_assign ?_)
      refine l_nil ?_
      refine k_seq_normal ?_
      refine w_ret ?_
      refine k_blk_ret ?_
      refine k_seq_ret ?_
      refine k_seq_ret ?_
      refine k_blk_ret ?_
      refine k_seq_ret ?_
      refine k_blk_ret ?_
      refine k_seq_ret ?_
      exact ret1 rfl (by simp only [ev_tmp, ev_const, ev_func, ofConst_int, ofConst_bool, ofConst_str, ofConst_nil, upd_apply, Nat.reduceEqDiff, ↓reduceIte] <;> exact rfl) (by first | exact sub1 _ _ | exact kb.sub | exact (kb.push _).sub | exact Sub.refl _) ⟨by rw [null_eq, if_neg (by omega), if_pos (by omega), rall_no (k := k) (by omega) (by assumption)], rfl⟩
     ·skip
      have h5' := h5; (try simp only [decide_eq_true_eq, decide_eq_false_iff_not, Bool.not_eq_true', Bool.not_false, Bool.not_true, Bool.not_eq_false'] at h5')
      refine w_skip ?_
      refine k_blk_normal ?_
      refine k_seq_normal ?_
      refine w_region ?_
      refine l_cons rfl (p_arith ?_)
      refine l_cons rfl (p_move ?_)
      refine l_nil ?_
      refine k_seq_normal ?_
      exact ⟨r.args.length - (k + 1), by omega, k + 1, rfl, by omega, next_true (p := Rx.null) (by omega) hk2 (by assumption), (kb.push _), by simp only [Knows, put, upd_apply, Nat.reduceEqDiff, ↓reduceIte, and_true, true_and, eq_self] <;> and_intros <;> rfl⟩
    ·skip
     have h4' := h4; (try simp only [decide_eq_true_eq, decide_eq_false_iff_not, Bool.not_eq_true', Bool.not_false, Bool.not_true, Bool.not_eq_false'] at h4')
     refine w_exit ?_
     refine k_seq_exit ?_
     refine k_seq_exit ?_
     refine k_blk_here ?_
     refine k_seq_normal ?_
     refine w_seq ?_
     refine w_region ?_
     refine l_cons rfl (p_assign ?_)
     refine l_nil ?_
     refine k_seq_normal ?_
     refine w_ret ?_
     refine k_blk_ret ?_
     refine k_seq_ret ?_
     exact ret1 rfl (by simp only [ev_tmp, ev_const, ev_func, ofConst_int, ofConst_bool, ofConst_str, ofConst_nil, upd_apply, Nat.reduceEqDiff, ↓reduceIte] <;> exact rfl) (by first | exact sub1 _ _ | exact kb.sub | exact (kb.push _).sub | exact Sub.refl _) ⟨by rw [null_eq, if_neg (by omega), if_pos (by omega), rall_yes (fun j hj h => hk2 j (by omega) h)], rfl⟩
   ·skip
    have h3' := h3; (try simp only [decide_eq_true_eq, decide_eq_false_iff_not, Bool.not_eq_true', Bool.not_false, Bool.not_true, Bool.not_eq_false'] at h3')
    refine w_seq ?_
    refine w_region ?_
    refine l_cons rfl (p_cmp ?_)
    refine l_cons rfl (p_assign ?_)
    refine l_nil ?_
    refine k_seq_normal ?_
    refine w_b (fun h6 => ?_) (fun h6 => ?_)
    ·skip
     have h6' := h6; (try simp only [decide_eq_true_eq, decide_eq_false_iff_not, Bool.not_eq_true', Bool.not_false, Bool.not_true, Bool.not_eq_false'] at h6')
     refine w_seq ?_
     refine w_region ?_
     refine l_cons rfl (p_fap fa_29_2 ?_)
     refine l_cons rfl (p_loadp ty_27 ?_)
     first | refine l_cons rfl (p_lenl sl_27 ?_) | refine l_cons rfl (p_leno sl_27 ?_) | refine l_cons rfl (p_lenn sl_27 ?_)
     refine l_len 28 fun hl2 => ?_
     simp only [List.length_map, most] at hl2
     refine l_cons rfl (p_move ?_)
     refine l_nil ?_
     refine k_seq_normal ?_
     refine w_block ?_
     refine w_loop (fun m f es2 => ∃ k, m = r.args.length - k ∧ k ≤ r.args.length ∧ (∀ j (hj : j < k) (h : j < r.args.length), (r.args[j]).null = false) ∧ KB es es2 ∧ Knows f [(28, .list 6 (r.args.map Rx.cells)), (29, .int .i64 (r.args.length : Int)), (30, .int .i64 (k : Int))]) (r.args.length) (⟨0, rfl, Nat.zero_le _, fun j hj => absurd hj (Nat.not_lt_zero _), (KB.refl _).push _, by simp only [List.length_map, Knows, put, upd_apply, Nat.reduceEqDiff, ↓reduceIte, and_true, true_and, eq_self] <;> and_intros <;> rfl⟩) ?_
     rintro m f es2 ⟨k, rfl, hk1, hk2, kb, hk⟩
     refine w_pins _ (Sub.refl _) (hk) ?_
     simp only [pins]
     refine w_seq ?_
     refine w_region ?_
     refine l_cons rfl (p_cmp ?_)
     refine l_nil ?_
     refine k_seq_normal ?_
     refine w_seq ?_
     refine w_b (fun h7 => ?_) (fun h7 => ?_)
     ·skip
      have h7' := h7; (try simp only [decide_eq_true_eq, decide_eq_false_iff_not, Bool.not_eq_true', Bool.not_false, Bool.not_true, Bool.not_eq_false'] at h7')
      refine w_skip ?_
      refine k_seq_normal ?_
      refine w_seq ?_
      refine w_block ?_
      refine w_seq ?_
      refine w_region ?_
      refine l_cons rfl (p_ixl sl_27 (a := .fptr 6 (r.args.map Rx.cells) k 0) ?_ (h0 := by omega) (h1 := by simp only [List.length_map]; omega))
      refine l_cons rfl (p_loadf ty_29 (a := .agg (r.args[k]'(by omega)).cells) ?_ (hr := rxrow_at (l := r.args) (k := k) (by omega)) (hl := Nat.le_refl 6) (ha := rfl))
      refine l_cons rfl (p_alloc ze_29 fun s6 => ?_)
      refine l_cons rfl (p_store ty_29 ?_)
      refine l_nil ?_
      refine k_seq_normal ?_
      refine w_seq ?_
      refine w_region ?_
      refine l_cons rfl (p_loadp ty_29 ?_)
      refine l_cons rfl (p_callr en_59 (ih (B - 1) (by omega) (r.args[k]'(by omega)) _ (by have := r.nodes_arg (k := k) (by omega); omega) (by omega)) ?_)
      refine l_nil ?_
      refine k_seq_normal ?_
      refine w_b (fun h8 => ?_) (fun h8 => ?_)
      ·skip
       have h8' := h8; (try simp only [decide_eq_true_eq, decide_eq_false_iff_not, Bool.not_eq_true', Bool.not_false, Bool.not_true, Bool.not_eq_false'] at h8')
       refine w_seq ?_
       refine w_region ?_
       refine l_cons rfl (p_assign ?_)
       refine l_nil ?_
       refine k_seq_normal ?_
       refine w_ret ?_
       refine k_blk_ret ?_
       refine k_seq_ret ?_
       refine k_seq_ret ?_
       refine k_blk_ret ?_
       refine k_blk_ret ?_
       refine k_seq_ret ?_
       exact ret1 rfl (by simp only [ev_tmp, ev_const, ev_func, ofConst_int, ofConst_bool, ofConst_str, ofConst_nil, upd_apply, Nat.reduceEqDiff, ↓reduceIte] <;> exact rfl) (by first | exact sub1 _ _ | exact kb.sub | exact (kb.push _).sub | exact Sub.refl _) ⟨by rw [null_eq, if_neg (by omega), if_neg (by omega), if_pos (by omega), rany_yes (k := k) (by omega) (by assumption)], rfl⟩
      ·skip
       have h8' := h8; (try simp only [decide_eq_true_eq, decide_eq_false_iff_not, Bool.not_eq_true', Bool.not_false, Bool.not_true, Bool.not_eq_false'] at h8')
       refine w_skip ?_
       refine k_blk_normal ?_
       refine k_seq_normal ?_
       refine w_region ?_
       refine l_cons rfl (p_arith ?_)
       refine l_cons rfl (p_move ?_)
       refine l_nil ?_
       refine k_seq_normal ?_
       exact ⟨r.args.length - (k + 1), by omega, k + 1, rfl, by omega, next_true (p := Rx.null) (by omega) hk2 (by assumption), (kb.push _), by simp only [Knows, put, upd_apply, Nat.reduceEqDiff, ↓reduceIte, and_true, true_and, eq_self] <;> and_intros <;> rfl⟩
     ·skip
      have h7' := h7; (try simp only [decide_eq_true_eq, decide_eq_false_iff_not, Bool.not_eq_true', Bool.not_false, Bool.not_true, Bool.not_eq_false'] at h7')
      refine w_exit ?_
      refine k_seq_exit ?_
      refine k_seq_exit ?_
      refine k_blk_here ?_
      refine k_blk_normal ?_
      refine k_seq_normal ?_
      refine w_seq ?_
      refine w_region ?_
      refine l_cons rfl (p_assign ?_)
      refine l_nil ?_
      refine k_seq_normal ?_
      refine w_ret ?_
      first
      | exact ret1 rfl (by simp only [ev_tmp, ev_const, ev_func, ofConst_int, ofConst_bool, ofConst_str, ofConst_nil, upd_apply, Nat.reduceEqDiff, ↓reduceIte] <;> exact rfl) (by first | exact sub1 _ _ | exact kb.sub | exact (kb.push _).sub | exact Sub.refl _) ⟨by rw [null_eq, if_neg (by omega), if_neg (by omega), if_pos (by omega), rany_no (fun j hj h => hk2 j (by omega) h)], rfl⟩
      | exact ret1 rfl (by simp only [ev_tmp, ev_const, ev_func, ofConst_int, ofConst_bool, ofConst_str, ofConst_nil, upd_apply, Nat.reduceEqDiff, ↓reduceIte] <;> exact rfl) (by first | exact sub1 _ _ | exact kb.sub | exact (kb.push _).sub | exact Sub.refl _) ⟨by rw [null_eq, if_neg (by omega), if_neg (by omega), if_neg (by omega)], rfl⟩
    ·skip
     have h6' := h6; (try simp only [decide_eq_true_eq, decide_eq_false_iff_not, Bool.not_eq_true', Bool.not_false, Bool.not_true, Bool.not_eq_false'] at h6')
     refine w_skip ?_
     refine k_blk_normal ?_
     refine k_seq_normal ?_
     refine w_seq ?_
     refine w_region ?_
     refine l_cons rfl (p_assign ?_)
     refine l_nil ?_
     refine k_seq_normal ?_
     refine w_ret ?_
     first
     | exact ret1 rfl (by simp only [ev_tmp, ev_const, ev_func, ofConst_int, ofConst_bool, ofConst_str, ofConst_nil, upd_apply, Nat.reduceEqDiff, ↓reduceIte] <;> exact rfl) (by first | exact sub1 _ _ | exact kb.sub | exact (kb.push _).sub | exact Sub.refl _) ⟨by rw [null_eq, if_neg (by omega), if_neg (by omega), if_pos (by omega), rany_no (fun j hj h => hk2 j (by omega) h)], rfl⟩
     | exact ret1 rfl (by simp only [ev_tmp, ev_const, ev_func, ofConst_int, ofConst_bool, ofConst_str, ofConst_nil, upd_apply, Nat.reduceEqDiff, ↓reduceIte] <;> exact rfl) (by first | exact sub1 _ _ | exact kb.sub | exact (kb.push _).sub | exact Sub.refl _) ⟨by rw [null_eq, if_neg (by omega), if_neg (by omega), if_neg (by omega)], rfl⟩
theorem some_walk {w0 : World} : ∀ (B : Nat) (r : Rx) (es : List Ent), r.nodes ≤ B → B ≤ 1048576 → ACalls Tryd.prog w0 98 [.agg r.cells] es fun v es' => v = .bool r.some ∧ es' = es := by
 intro B
 induction B using Nat.strongRecOn with
 | _ B ih => ?_
 intro r es hB hB2
 rw [Rx.cells_eq r]
 have hne := r.nodes_eq
 have hal := Rx.len_le r.args
 refine calls1 (N := 43) Tryd.func98 rfl rfl (by decide) ?_
 refine w_seq ?_
 refine w_region ?_
 refine l_cons rfl (p_box fun s1 => ?_)
 refine l_cons rfl (p_assign ?_)
 refine l_nil ?_
 refine k_seq_normal ?_
 refine w_seq ?_
 refine w_seq ?_
 refine w_region ?_
 refine l_cons rfl (p_fap fa_29_0 ?_)
 refine l_cons rfl (p_loadp ty_3 ?_)
 refine l_nil ?_
 refine k_seq_normal ?_
 refine w_block ?_
 refine w_seq ?_
 refine w_seq ?_
 refine w_region ?_
 refine l_cons rfl (p_cmp ?_)
 refine l_cons rfl (p_assign ?_)
 refine l_nil ?_
 refine k_seq_normal ?_
 refine w_b (fun h1 => ?_) (fun h1 => ?_)
 ·skip
  have h1' := h1; (try simp only [decide_eq_true_eq, decide_eq_false_iff_not, Bool.not_eq_true', Bool.not_false, Bool.not_true, Bool.not_eq_false'] at h1')
  refine w_skip ?_
  refine k_seq_normal ?_
  refine w_t h1 ?_
  refine w_seq ?_
  refine w_region ?_
  refine l_cons rfl (p_assign ?_)
  refine l_nil ?_
  refine k_seq_normal ?_
  refine w_ret ?_
  refine k_blk_ret ?_
  refine k_seq_ret ?_
  exact ret1 rfl (by simp only [ev_tmp, ev_const, ev_func, ofConst_int, ofConst_bool, ofConst_str, ofConst_nil, upd_apply, Nat.reduceEqDiff, ↓reduceIte] <;> exact rfl) (by first | exact sub1 _ _ | exact kb.sub | exact (kb.push _).sub | exact Sub.refl _) ⟨by rw [some_eq, if_pos (by omega)], rfl⟩
 ·skip
  have h1' := h1; (try simp only [decide_eq_true_eq, decide_eq_false_iff_not, Bool.not_eq_true', Bool.not_false, Bool.not_true, Bool.not_eq_false'] at h1')
  refine w_region ?_
  refine l_cons rfl (p_cmp ?_)
  refine l_cons rfl (p_assign ?_)
  refine l_nil ?_
  refine k_seq_normal ?_
  refine w_b (fun h2 => ?_) (fun h2 => ?_)
  ·skip
   have h2' := h2; (try simp only [decide_eq_true_eq, decide_eq_false_iff_not, Bool.not_eq_true', Bool.not_false, Bool.not_true, Bool.not_eq_false'] at h2')
   refine w_seq ?_
   refine w_region ?_
   refine l_cons rfl (p_assign ?_)
   refine l_nil ?_
   refine k_seq_normal ?_
   refine w_ret ?_
   refine k_blk_ret ?_
   refine k_seq_ret ?_
   exact ret1 rfl (by simp only [ev_tmp, ev_const, ev_func, ofConst_int, ofConst_bool, ofConst_str, ofConst_nil, upd_apply, Nat.reduceEqDiff, ↓reduceIte] <;> exact rfl) (by first | exact sub1 _ _ | exact kb.sub | exact (kb.push _).sub | exact Sub.refl _) ⟨by rw [some_eq, if_pos (by omega)], rfl⟩
  ·skip
   have h2' := h2; (try simp only [decide_eq_true_eq, decide_eq_false_iff_not, Bool.not_eq_true', Bool.not_false, Bool.not_true, Bool.not_eq_false'] at h2')
   refine w_seq ?_
   refine w_region ?_
   refine l_cons rfl (p_cmp ?_)
   refine l_cons rfl (p_assign ?_)
   refine l_nil ?_
   refine k_seq_normal ?_
   refine w_b (fun h3 => ?_) (fun h3 => ?_)
   ·skip
    have h3' := h3; (try simp only [decide_eq_true_eq, decide_eq_false_iff_not, Bool.not_eq_true', Bool.not_false, Bool.not_true, Bool.not_eq_false'] at h3')
    refine w_seq ?_
    refine w_region ?_
    refine l_cons rfl (p_fap fa_29_1 ?_)
    refine l_cons rfl (p_loadp ty_26 (a := .agg r.set.row) ?_ (hl := Nat.le_of_ble_eq_true rfl) (ha := rfl))
    refine l_cons rfl (p_buildArr ze_26 ar_26 ?_)
    refine l_cons rfl (p_nea ai_26 ?_ (hb := neA r.set noSet))
    refine l_cons rfl (p_assign ?_)
    refine l_nil ?_
    refine k_seq_normal ?_
    refine w_ret ?_
    refine k_blk_ret ?_
    refine k_seq_ret ?_
    exact ret1 rfl (by simp only [ev_tmp, ev_const, ev_func, ofConst_int, ofConst_bool, ofConst_str, ofConst_nil, upd_apply, Nat.reduceEqDiff, ↓reduceIte] <;> exact rfl) (by first | exact sub1 _ _ | exact kb.sub | exact (kb.push _).sub | exact Sub.refl _) ⟨by rw [some_eq, if_neg (by omega), if_pos (by omega)], rfl⟩
   ·skip
    have h3' := h3; (try simp only [decide_eq_true_eq, decide_eq_false_iff_not, Bool.not_eq_true', Bool.not_false, Bool.not_true, Bool.not_eq_false'] at h3')
    refine w_seq ?_
    refine w_region ?_
    refine l_cons rfl (p_cmp ?_)
    refine l_cons rfl (p_assign ?_)
    refine l_nil ?_
    refine k_seq_normal ?_
    refine w_b (fun h4 => ?_) (fun h4 => ?_)
    ·skip
     have h4' := h4; (try simp only [decide_eq_true_eq, decide_eq_false_iff_not, Bool.not_eq_true', Bool.not_false, Bool.not_true, Bool.not_eq_false'] at h4')
     refine w_seq ?_
     refine w_seq ?_
     refine w_region ?_
     refine l_cons rfl (p_fap fa_29_2 ?_)
     refine l_cons rfl (p_loadp ty_27 ?_)
     first | refine l_cons rfl (p_lenl sl_27 ?_) | refine l_cons rfl (p_leno sl_27 ?_) | refine l_cons rfl (p_lenn sl_27 ?_)
     refine l_len 21 fun hl2 => ?_
     simp only [List.length_map, most] at hl2
     refine l_cons rfl (p_move ?_)
     refine l_nil ?_
     refine k_seq_normal ?_
     refine w_block ?_
     refine w_loop (fun m f es2 => ∃ k, m = r.args.length - k ∧ k ≤ r.args.length ∧ (∀ j (hj : j < k) (h : j < r.args.length), (r.args[j]).some = true) ∧ KB es es2 ∧ Knows f [(21, .list 6 (r.args.map Rx.cells)), (22, .int .i64 (r.args.length : Int)), (23, .int .i64 (k : Int))]) (r.args.length) (⟨0, rfl, Nat.zero_le _, fun j hj => absurd hj (Nat.not_lt_zero _), (KB.refl _).push _, by simp only [List.length_map, Knows, put, upd_apply, Nat.reduceEqDiff, ↓reduceIte, and_true, true_and, eq_self] <;> and_intros <;> rfl⟩) ?_
     rintro m f es2 ⟨k, rfl, hk1, hk2, kb, hk⟩
     refine w_pins _ (Sub.refl _) (hk) ?_
     simp only [pins]
     refine w_seq ?_
     refine w_region ?_
     refine l_cons rfl (p_cmp ?_)
     refine l_nil ?_
     refine k_seq_normal ?_
     refine w_seq ?_
     refine w_b (fun h5 => ?_) (fun h5 => ?_)
     ·skip
      have h5' := h5; (try simp only [decide_eq_true_eq, decide_eq_false_iff_not, Bool.not_eq_true', Bool.not_false, Bool.not_true, Bool.not_eq_false'] at h5')
      refine w_skip ?_
      refine k_seq_normal ?_
      refine w_seq ?_
      refine w_block ?_
      refine w_seq ?_
      refine w_region ?_
      refine l_cons rfl (p_ixl sl_27 (a := .fptr 6 (r.args.map Rx.cells) k 0) ?_ (h0 := by omega) (h1 := by simp only [List.length_map]; omega))
      refine l_cons rfl (p_loadf ty_29 (a := .agg (r.args[k]'(by omega)).cells) ?_ (hr := rxrow_at (l := r.args) (k := k) (by omega)) (hl := Nat.le_refl 6) (ha := rfl))
      refine l_cons rfl (p_alloc ze_29 fun s4 => ?_)
      refine l_cons rfl (p_store ty_29 ?_)
      refine l_nil ?_
      refine k_seq_normal ?_
      refine w_seq ?_
      refine w_region ?_
      refine l_cons rfl (p_loadp ty_29 ?_)
      refine l_cons rfl (p_callr en_98 (ih (B - 1) (by omega) (r.args[k]'(by omega)) _ (by have := r.nodes_arg (k := k) (by omega); omega) (by omega)) ?_)
      refine l_cons rfl (p_not ?_)
      refine l_nil ?_
      refine k_seq_normal ?_
      refine w_b (fun h6 => ?_) (fun h6 => ?_)
      ·skip
       have h6' := h6; (try simp only [decide_eq_true_eq, decide_eq_false_iff_not, Bool.not_eq_true', Bool.not_false, Bool.not_true, Bool.not_eq_false'] at h6')
       refine w_seq ?_
       refine w_region ?_
       refine l_cons rfl (p_assign ?_)
       refine l_nil ?_
       refine k_seq_normal ?_
       refine w_ret ?_
       refine k_blk_ret ?_
       refine k_seq_ret ?_
       refine k_seq_ret ?_
       refine k_blk_ret ?_
       refine k_seq_ret ?_
       refine k_blk_ret ?_
       refine k_seq_ret ?_
       exact ret1 rfl (by simp only [ev_tmp, ev_const, ev_func, ofConst_int, ofConst_bool, ofConst_str, ofConst_nil, upd_apply, Nat.reduceEqDiff, ↓reduceIte] <;> exact rfl) (by first | exact sub1 _ _ | exact kb.sub | exact (kb.push _).sub | exact Sub.refl _) ⟨by rw [some_eq, if_neg (by omega), if_neg (by omega), if_pos (by omega), rall_no (k := k) (by omega) (by assumption)], rfl⟩
      ·skip
       have h6' := h6; (try simp only [decide_eq_true_eq, decide_eq_false_iff_not, Bool.not_eq_true', Bool.not_false, Bool.not_true, Bool.not_eq_false'] at h6')
       refine w_skip ?_
       refine k_blk_normal ?_
       refine k_seq_normal ?_
       refine w_region ?_
       refine l_cons rfl (p_arith ?_)
       refine l_cons rfl (p_move ?_)
       refine l_nil ?_
       refine k_seq_normal ?_
       exact ⟨r.args.length - (k + 1), by omega, k + 1, rfl, by omega, next_true (p := Rx.some) (by omega) hk2 (by assumption), (kb.push _), by simp only [Knows, put, upd_apply, Nat.reduceEqDiff, ↓reduceIte, and_true, true_and, eq_self] <;> and_intros <;> rfl⟩
     ·skip
      have h5' := h5; (try simp only [decide_eq_true_eq, decide_eq_false_iff_not, Bool.not_eq_true', Bool.not_false, Bool.not_true, Bool.not_eq_false'] at h5')
      refine w_exit ?_
      refine k_seq_exit ?_
      refine k_seq_exit ?_
      refine k_blk_here ?_
      refine k_seq_normal ?_
      refine w_seq ?_
      refine w_region ?_
      refine l_cons rfl (p_assign ?_)
      refine l_nil ?_
      refine k_seq_normal ?_
      refine w_ret ?_
      refine k_blk_ret ?_
      refine k_seq_ret ?_
      exact ret1 rfl (by simp only [ev_tmp, ev_const, ev_func, ofConst_int, ofConst_bool, ofConst_str, ofConst_nil, upd_apply, Nat.reduceEqDiff, ↓reduceIte] <;> exact rfl) (by first | exact sub1 _ _ | exact kb.sub | exact (kb.push _).sub | exact Sub.refl _) ⟨by rw [some_eq, if_neg (by omega), if_neg (by omega), if_pos (by omega), rall_yes (fun j hj h => hk2 j (by omega) h)], rfl⟩
    ·skip
     have h4' := h4; (try simp only [decide_eq_true_eq, decide_eq_false_iff_not, Bool.not_eq_true', Bool.not_false, Bool.not_true, Bool.not_eq_false'] at h4')
     refine w_seq ?_
     refine w_region ?_
     refine l_cons rfl (p_cmp ?_)
     refine l_cons rfl (p_assign ?_)
     refine l_nil ?_
     refine k_seq_normal ?_
     refine w_b (fun h7 => ?_) (fun h7 => ?_)
     ·skip
      have h7' := h7; (try simp only [decide_eq_true_eq, decide_eq_false_iff_not, Bool.not_eq_true', Bool.not_false, Bool.not_true, Bool.not_eq_false'] at h7')
      refine w_seq ?_
      refine w_region ?_
      refine l_cons rfl (p_fap fa_29_2 ?_)
      refine l_cons rfl (p_loadp ty_27 ?_)
      first | refine l_cons rfl (p_lenl sl_27 ?_) | refine l_cons rfl (p_leno sl_27 ?_) | refine l_cons rfl (p_lenn sl_27 ?_)
      refine l_len 34 fun hl2 => ?_
      simp only [List.length_map, most] at hl2
      refine l_cons rfl (p_move ?_)
      refine l_nil ?_
      refine k_seq_normal ?_
      refine w_block ?_
      refine w_loop (fun m f es2 => ∃ k, m = r.args.length - k ∧ k ≤ r.args.length ∧ (∀ j (hj : j < k) (h : j < r.args.length), (r.args[j]).some = false) ∧ KB es es2 ∧ Knows f [(34, .list 6 (r.args.map Rx.cells)), (35, .int .i64 (r.args.length : Int)), (36, .int .i64 (k : Int))]) (r.args.length) (⟨0, rfl, Nat.zero_le _, fun j hj => absurd hj (Nat.not_lt_zero _), (KB.refl _).push _, by simp only [List.length_map, Knows, put, upd_apply, Nat.reduceEqDiff, ↓reduceIte, and_true, true_and, eq_self] <;> and_intros <;> rfl⟩) ?_
      rintro m f es2 ⟨k, rfl, hk1, hk2, kb, hk⟩
      refine w_pins _ (Sub.refl _) (hk) ?_
      simp only [pins]
      refine w_seq ?_
      refine w_region ?_
      refine l_cons rfl (p_cmp ?_)
      refine l_nil ?_
      refine k_seq_normal ?_
      refine w_seq ?_
      refine w_b (fun h8 => ?_) (fun h8 => ?_)
      ·skip
       have h8' := h8; (try simp only [decide_eq_true_eq, decide_eq_false_iff_not, Bool.not_eq_true', Bool.not_false, Bool.not_true, Bool.not_eq_false'] at h8')
       refine w_skip ?_
       refine k_seq_normal ?_
       refine w_seq ?_
       refine w_block ?_
       refine w_seq ?_
       refine w_region ?_
       refine l_cons rfl (p_ixl sl_27 (a := .fptr 6 (r.args.map Rx.cells) k 0) ?_ (h0 := by omega) (h1 := by simp only [List.length_map]; omega))
       refine l_cons rfl (p_loadf ty_29 (a := .agg (r.args[k]'(by omega)).cells) ?_ (hr := rxrow_at (l := r.args) (k := k) (by omega)) (hl := Nat.le_refl 6) (ha := rfl))
       refine l_cons rfl (p_alloc ze_29 fun s6 => ?_)
       refine l_cons rfl (p_store ty_29 ?_)
       refine l_nil ?_
       refine k_seq_normal ?_
       refine w_seq ?_
       refine w_region ?_
       refine l_cons rfl (p_loadp ty_29 ?_)
       refine l_cons rfl (p_callr en_98 (ih (B - 1) (by omega) (r.args[k]'(by omega)) _ (by have := r.nodes_arg (k := k) (by omega); omega) (by omega)) ?_)
       refine l_nil ?_
       refine k_seq_normal ?_
       refine w_b (fun h9 => ?_) (fun h9 => ?_)
       ·skip
        have h9' := h9; (try simp only [decide_eq_true_eq, decide_eq_false_iff_not, Bool.not_eq_true', Bool.not_false, Bool.not_true, Bool.not_eq_false'] at h9')
        refine w_seq ?_
        refine w_region ?_
        refine l_cons rfl (p_assign ?_)
        refine l_nil ?_
        refine k_seq_normal ?_
        refine w_ret ?_
        refine k_blk_ret ?_
        refine k_seq_ret ?_
        refine k_seq_ret ?_
        refine k_blk_ret ?_
        refine k_blk_ret ?_
        refine k_seq_ret ?_
        exact ret1 rfl (by simp only [ev_tmp, ev_const, ev_func, ofConst_int, ofConst_bool, ofConst_str, ofConst_nil, upd_apply, Nat.reduceEqDiff, ↓reduceIte] <;> exact rfl) (by first | exact sub1 _ _ | exact kb.sub | exact (kb.push _).sub | exact Sub.refl _) ⟨by rw [some_eq, if_neg (by omega), if_neg (by omega), if_neg (by omega), if_pos (by omega), rany_yes (k := k) (by omega) (by assumption)], rfl⟩
       ·skip
        have h9' := h9; (try simp only [decide_eq_true_eq, decide_eq_false_iff_not, Bool.not_eq_true', Bool.not_false, Bool.not_true, Bool.not_eq_false'] at h9')
        refine w_skip ?_
        refine k_blk_normal ?_
        refine k_seq_normal ?_
        refine w_region ?_
        refine l_cons rfl (p_arith ?_)
        refine l_cons rfl (p_move ?_)
        refine l_nil ?_
        refine k_seq_normal ?_
        exact ⟨r.args.length - (k + 1), by omega, k + 1, rfl, by omega, next_true (p := Rx.some) (by omega) hk2 (by assumption), (kb.push _), by simp only [Knows, put, upd_apply, Nat.reduceEqDiff, ↓reduceIte, and_true, true_and, eq_self] <;> and_intros <;> rfl⟩
      ·skip
       have h8' := h8; (try simp only [decide_eq_true_eq, decide_eq_false_iff_not, Bool.not_eq_true', Bool.not_false, Bool.not_true, Bool.not_eq_false'] at h8')
       refine w_exit ?_
       refine k_seq_exit ?_
       refine k_seq_exit ?_
       refine k_blk_here ?_
       refine k_blk_normal ?_
       refine k_seq_normal ?_
       refine w_seq ?_
       refine w_region ?_
       refine l_cons rfl (p_assign ?_)
       refine l_nil ?_
       refine k_seq_normal ?_
       refine w_ret ?_
       first
       | exact ret1 rfl (by simp only [ev_tmp, ev_const, ev_func, ofConst_int, ofConst_bool, ofConst_str, ofConst_nil, upd_apply, Nat.reduceEqDiff, ↓reduceIte] <;> exact rfl) (by first | exact sub1 _ _ | exact kb.sub | exact (kb.push _).sub | exact Sub.refl _) ⟨by rw [some_eq, if_neg (by omega), if_neg (by omega), if_neg (by omega), if_pos (by omega), rany_no (fun j hj h => hk2 j (by omega) h)], rfl⟩
       | exact ret1 rfl (by simp only [ev_tmp, ev_const, ev_func, ofConst_int, ofConst_bool, ofConst_str, ofConst_nil, upd_apply, Nat.reduceEqDiff, ↓reduceIte] <;> exact rfl) (by first | exact sub1 _ _ | exact kb.sub | exact (kb.push _).sub | exact Sub.refl _) ⟨by rw [some_eq, if_neg (by omega), if_neg (by omega), if_neg (by omega), if_neg (by omega)], rfl⟩
     ·skip
      have h7' := h7; (try simp only [decide_eq_true_eq, decide_eq_false_iff_not, Bool.not_eq_true', Bool.not_false, Bool.not_true, Bool.not_eq_false'] at h7')
      refine w_skip ?_
      refine k_blk_normal ?_
      refine k_seq_normal ?_
      refine w_seq ?_
      refine w_region ?_
      refine l_cons rfl (p_assign ?_)
      refine l_nil ?_
      refine k_seq_normal ?_
      refine w_ret ?_
      first
      | exact ret1 rfl (by simp only [ev_tmp, ev_const, ev_func, ofConst_int, ofConst_bool, ofConst_str, ofConst_nil, upd_apply, Nat.reduceEqDiff, ↓reduceIte] <;> exact rfl) (by first | exact sub1 _ _ | exact kb.sub | exact (kb.push _).sub | exact Sub.refl _) ⟨by rw [some_eq, if_neg (by omega), if_neg (by omega), if_neg (by omega), if_pos (by omega), rany_no (fun j hj h => hk2 j (by omega) h)], rfl⟩
      | exact ret1 rfl (by simp only [ev_tmp, ev_const, ev_func, ofConst_int, ofConst_bool, ofConst_str, ofConst_nil, upd_apply, Nat.reduceEqDiff, ↓reduceIte] <;> exact rfl) (by first | exact sub1 _ _ | exact kb.sub | exact (kb.push _).sub | exact Sub.refl _) ⟨by rw [some_eq, if_neg (by omega), if_neg (by omega), if_neg (by omega), if_neg (by omega)], rfl⟩
end Go.Proofs.YtfdgbghlanbddaaDoor.Av
set_option linter.unusedVariables false
set_option linter.unusedSimpArgs false
set_option maxRecDepth 8000
namespace Go.Proofs.YtfdgbghlanbddaaDoor.Av
open Go.RowKit Go.Proofs
theorem loc_top {x : Ent} {es : List Ent} {id : Nat} (h : id = es.length) : Loc (x :: es) id x (fun y => y :: es) := by
 subst h
 exact loc_hit

theorem First_walk {w0 : World} : ∀ (B : Nat) (r : Rx) (es : List Ent), r.nodes ≤ B → B ≤ 1048576 → r.ok → ACalls Tryd.prog w0 61 [.agg r.cells] es fun v es' => v = .agg r.first.row ∧ es' = es := by
  intro B
  induction B using Nat.strongRecOn with
  | _ B ih => ?_
  intro r es hB hB2 ho
  rw [Rx.cells_eq r]
  have hne := r.nodes_eq
  have hal := Rx.len_le r.args
  refine calls1 (N := 58) Tryd.func61 rfl rfl (by decide) ?_
  refine w_seq ?_
  refine w_region ?_
  refine l_cons rfl (p_box fun s1 => ?_)
  refine l_cons rfl (p_alloc ze_26 fun s2 => ?_)
  refine l_nil ?_
  refine k_seq_normal ?_
  refine w_seq ?_
  refine w_region ?_
  refine l_cons rfl (p_alloc ze_26 fun s3 => ?_)
  refine l_nil ?_
  refine k_seq_normal ?_
  refine w_seq ?_
  refine w_seq ?_
  refine w_region ?_
  refine l_cons rfl (p_fap fa_29_0 ?_)
  refine l_cons rfl (p_loadp ty_3 ?_)
  refine l_nil ?_
  refine k_seq_normal ?_
  refine w_block ?_
  refine w_seq ?_
  refine w_block ?_
  refine w_cut (fun f es' => (r.kind = 5 ∨ r.kind = 6 ∧ r.args.length = 1) ∧ es' = .row s3 26 4 [[.int .u64 0, .int .u64 0, .int .u64 0, .int .u64 0]] :: .row s2 26 4 [[.int .u64 0, .int .u64 0, .int .u64 0, .int .u64 0]] :: .row s1 29 6 [[.int .i64 r.kind, .int .u64 r.set.w0, .int .u64 r.set.w1, .int .u64 r.set.w2, .int .u64 r.set.w3, .list 6 (r.args.map Rx.cells)]] :: es ∧ Knows f [(1, .ptr es.length s1 0 0), (2, .ptr (es.length + 1) s2 0 0), (3, .ptr (es.length + 2) s3 0 0)]) ?_ ?_
  · skip
    refine w_block ?_
    refine w_seq ?_
    refine w_block ?_
    refine w_seq ?_
    refine w_block ?_
    refine w_seq ?_
    refine w_seq ?_
    refine w_seq ?_
    refine w_region ?_
    refine l_cons rfl (p_cmp ?_)
    refine l_cons rfl (p_assign ?_)
    refine l_nil ?_
    refine k_seq_normal ?_
    refine w_b (fun h1 => ?_) (fun h1 => ?_)
    · skip
      have h1' := h1; (try simp only [decide_eq_true_eq, decide_eq_false_iff_not, Bool.not_eq_true', Bool.not_false, Bool.not_true, Bool.not_eq_false'] at h1')
      refine w_exit ?_
      refine k_seq_exit ?_
      refine k_seq_exit ?_
      refine k_blk_here ?_
      refine k_seq_normal ?_
      refine w_seq ?_
      refine w_seq ?_
      refine w_region ?_
      refine l_cons rfl (p_fap fa_29_1 ?_)
      refine l_cons rfl (p_loadp ty_26 (a := .agg r.set.row) ?_ (hl := Nat.le_of_ble_eq_true rfl) (ha := rfl))
      refine l_cons rfl (p_store ty_26 ?_)
      refine l_nil ?_
      refine k_seq_normal ?_
      refine w_ret ?_
      refine k_seq_ret ?_
      refine k_blk_ret ?_
      refine k_seq_ret ?_
      refine k_blk_ret ?_
      refine k_seq_ret ?_
      refine k_blk_ret ?_
      refine k_seq_ret ?_
      refine k_blk_ret ?_
      refine k_seq_ret ?_
      rw [first_3 (by omega)]
      exact retc rfl ty_26 (sub3 _ _ _ _) ⟨rfl, rfl⟩
    · skip
      have h1' := h1; (try simp only [decide_eq_true_eq, decide_eq_false_iff_not, Bool.not_eq_true', Bool.not_false, Bool.not_true, Bool.not_eq_false'] at h1')
      refine w_skip ?_
      refine k_seq_normal ?_
      refine w_seq ?_
      refine w_seq ?_
      refine w_region ?_
      refine l_cons rfl (p_cmp ?_)
      refine l_cons rfl (p_assign ?_)
      refine l_nil ?_
      refine k_seq_normal ?_
      refine w_b (fun h2 => ?_) (fun h2 => ?_)
      · skip
        have h2' := h2; (try simp only [decide_eq_true_eq, decide_eq_false_iff_not, Bool.not_eq_true', Bool.not_false, Bool.not_true, Bool.not_eq_false'] at h2')
        refine w_exit ?_
        refine k_seq_exit ?_
        refine k_seq_exit ?_
        refine k_blk_there (by decide) ?_
        refine k_seq_exit ?_
        refine k_blk_here ?_
        refine k_seq_normal ?_
        refine w_seq ?_
        refine w_region ?_
        refine l_cons rfl (p_fap fa_29_2 ?_)
        refine l_cons rfl (p_loadp ty_27 ?_)
        first | refine l_cons rfl (p_lenl sl_27 ?_) | refine l_cons rfl (p_leno sl_27 ?_) | refine l_cons rfl (p_lenn sl_27 ?_)
        refine l_cons rfl (p_cmp ?_)
        refine l_nil ?_
        refine k_seq_normal ?_
        refine w_b (fun h3 => ?_) (fun h3 => ?_)
        · skip
          have h3' := h3; (try simp only [decide_eq_true_eq, decide_eq_false_iff_not, Bool.not_eq_true', Bool.not_false, Bool.not_true, Bool.not_eq_false'] at h3')
          refine w_seq ?_
          refine w_region ?_
          refine l_cons rfl (p_loadp ty_26 ?_)
          refine l_cons rfl (p_store ty_26 ?_)
          refine l_nil ?_
          refine k_seq_normal ?_
          refine w_ret ?_
          refine k_blk_ret ?_
          refine k_seq_ret ?_
          refine k_blk_ret ?_
          refine k_seq_ret ?_
          refine k_blk_ret ?_
          refine k_seq_ret ?_
          rw [first_no (by omega) (by omega) (by omega)]
          exact retc rfl ty_26 (sub3 _ _ _ _) ⟨rfl, rfl⟩
        · skip
          have h3' := h3; (try simp only [decide_eq_true_eq, decide_eq_false_iff_not, Bool.not_eq_true', Bool.not_false, Bool.not_true, Bool.not_eq_false'] at h3')
          refine w_skip ?_
          refine k_blk_normal ?_
          refine k_seq_normal ?_
          exact ⟨by first | (left; omega) | (right; omega), rfl, by simp only [Knows, put, upd_apply, Nat.reduceEqDiff, ↓reduceIte, and_true, true_and, eq_self] <;> and_intros <;> rfl⟩
      · skip
        have h2' := h2; (try simp only [decide_eq_true_eq, decide_eq_false_iff_not, Bool.not_eq_true', Bool.not_false, Bool.not_true, Bool.not_eq_false'] at h2')
        refine w_skip ?_
        refine k_seq_normal ?_
        refine w_seq ?_
        refine w_seq ?_
        refine w_region ?_
        refine l_cons rfl (p_cmp ?_)
        refine l_cons rfl (p_assign ?_)
        refine l_nil ?_
        refine k_seq_normal ?_
        refine w_b (fun h4 => ?_) (fun h4 => ?_)
        · skip
          have h4' := h4; (try simp only [decide_eq_true_eq, decide_eq_false_iff_not, Bool.not_eq_true', Bool.not_false, Bool.not_true, Bool.not_eq_false'] at h4')
          refine w_exit ?_
          refine k_seq_exit ?_
          refine k_seq_exit ?_
          refine k_blk_there (by decide) ?_
          refine k_seq_exit ?_
          refine k_blk_there (by decide) ?_
          refine k_seq_exit ?_
          refine k_blk_here ?_
          refine k_seq_normal ?_
          exact ⟨by first | (left; omega) | (right; omega), rfl, by simp only [Knows, put, upd_apply, Nat.reduceEqDiff, ↓reduceIte, and_true, true_and, eq_self] <;> and_intros <;> rfl⟩
        · skip
          have h4' := h4; (try simp only [decide_eq_true_eq, decide_eq_false_iff_not, Bool.not_eq_true', Bool.not_false, Bool.not_true, Bool.not_eq_false'] at h4')
          refine w_skip ?_
          refine k_seq_normal ?_
          refine w_seq ?_
          refine w_region ?_
          refine l_cons rfl (p_cmp ?_)
          refine l_cons rfl (p_assign ?_)
          refine l_nil ?_
          refine k_seq_normal ?_
          refine w_b (fun h5 => ?_) (fun h5 => ?_)
          · skip
            have h5' := h5; (try simp only [decide_eq_true_eq, decide_eq_false_iff_not, Bool.not_eq_true', Bool.not_false, Bool.not_true, Bool.not_eq_false'] at h5')
            refine w_exit ?_
            refine k_seq_exit ?_
            refine k_blk_there (by decide) ?_
            refine k_seq_exit ?_
            refine k_blk_there (by decide) ?_
            refine k_seq_exit ?_
            refine k_blk_there (by decide) ?_
            refine k_seq_exit ?_
            refine k_blk_here ?_
            refine k_seq_normal ?_
            refine w_seq ?_
            refine w_seq ?_
            refine w_seq ?_
            refine w_region ?_
            refine l_cons rfl (p_loadp ty_29 ?_)
            refine l_cons rfl (p_callr en_98 (cells1 (r := r) (some_walk _ r _ (Nat.le_refl _) (by omega))) ?_)
            refine l_cons rfl (p_not ?_)
            refine l_nil ?_
            refine k_seq_normal ?_
            refine w_b (fun h6 => ?_) (fun h6 => ?_)
            · skip
              have h6' := h6; (try simp only [decide_eq_true_eq, decide_eq_false_iff_not, Bool.not_eq_true', Bool.not_false, Bool.not_true, Bool.not_eq_false'] at h6')
              refine w_seq ?_
              refine w_region ?_
              refine l_cons rfl (p_loadp ty_26 ?_)
              refine l_cons rfl (p_store ty_26 ?_)
              refine l_nil ?_
              refine k_seq_normal ?_
              refine w_ret ?_
              refine k_seq_ret ?_
              refine k_seq_ret ?_
              refine k_blk_ret ?_
              refine k_seq_ret ?_
              rw [first_no (by omega) (by omega) (fun _ => by assumption)]
              exact retc rfl ty_26 (sub3 _ _ _ _) ⟨rfl, rfl⟩
            · skip
              have h6' := h6; (try simp only [decide_eq_true_eq, decide_eq_false_iff_not, Bool.not_eq_true', Bool.not_false, Bool.not_true, Bool.not_eq_false'] at h6')
              refine w_skip ?_
              refine k_seq_normal ?_
              refine w_seq ?_
              refine w_region ?_
              refine l_cons rfl (p_fap fa_29_2 ?_)
              refine l_cons rfl (p_loadp ty_27 ?_)
              first | refine l_cons rfl (p_lenl sl_27 ?_) | refine l_cons rfl (p_leno sl_27 ?_) | refine l_cons rfl (p_lenn sl_27 ?_)
              refine l_len 42 fun hl2 => ?_
              simp only [List.length_map, most] at hl2
              refine l_cons rfl (p_move ?_)
              refine l_nil ?_
              refine k_seq_normal ?_
              refine w_block ?_
              refine w_loop (fun m f es2 => ∃ k, m = r.args.length - k ∧ k ≤ r.args.length ∧ (∀ j (hj : j < k) (h : j < r.args.length), (r.args[j]).null = true) ∧ at_ es2 (es.length + 2) = some (.row s3 26 4 [[.int .u64 (Rx.firstE noSet (r.args.take k)).w0, .int .u64 (Rx.firstE noSet (r.args.take k)).w1, .int .u64 (Rx.firstE noSet (r.args.take k)).w2, .int .u64 (Rx.firstE noSet (r.args.take k)).w3]]) ∧ KB (.row s2 26 4 [[.int .u64 0, .int .u64 0, .int .u64 0, .int .u64 0]] :: .row s1 29 6 [[.int .i64 r.kind, .int .u64 r.set.w0, .int .u64 r.set.w1, .int .u64 r.set.w2, .int .u64 r.set.w3, .list 6 (r.args.map Rx.cells)]] :: es) es2 ∧ Knows f [(1, .ptr es.length s1 0 0), (2, .ptr (es.length + 1) s2 0 0), (3, .ptr (es.length + 2) s3 0 0), (42, .list 6 (r.args.map Rx.cells)), (43, .int .i64 (r.args.length : Int)), (44, .int .i64 (k : Int))]) (r.args.length) (⟨0, rfl, Nat.zero_le _, fun j hj => absurd hj (Nat.not_lt_zero _), at_hit _ _, (KB.refl _).push _, by simp only [List.length_map, Knows, put, upd_apply, Nat.reduceEqDiff, ↓reduceIte, and_true, true_and, eq_self] <;> and_intros <;> rfl⟩) ?_
              rintro m f es2 ⟨k, rfl, hk1, hk2, h3, kb, hk⟩
              have h2 := (kb.1 (es.length + 1) (by simp only [List.length_cons]; omega)).trans (at_hit _ _)
              have h1x := (kb.1 es.length (by simp only [List.length_cons]; omega)).trans (at_miss _ (at_hit _ _))
              have hel := kb.2
              simp only [List.length_cons] at hel
              have hacc := firstE_ok _ noSet noSet_ok (oks_take (fun x hx => ho.args x hx) k)
              refine w_pins _ (Sub.refl _) (hk) ?_
              simp only [pins]
              refine w_seq ?_
              refine w_region ?_
              refine l_cons rfl (p_cmp ?_)
              refine l_nil ?_
              refine k_seq_normal ?_
              refine w_seq ?_
              refine w_b (fun h7 => ?_) (fun h7 => ?_)
              · skip
                have h7' := h7; (try simp only [decide_eq_true_eq, decide_eq_false_iff_not, Bool.not_eq_true', Bool.not_false, Bool.not_true, Bool.not_eq_false'] at h7')
                refine w_skip ?_
                refine k_seq_normal ?_
                refine w_seq ?_
                refine w_block ?_
                refine w_seq ?_
                refine w_region ?_
                refine l_cons rfl (p_ixl sl_27 (a := .fptr 6 (r.args.map Rx.cells) k 0) ?_ (h0 := by omega) (h1 := by simp only [List.length_map]; omega))
                refine l_cons rfl (p_loadf ty_29 (a := .agg (r.args[k]'(by omega)).cells) ?_ (hr := rxrow_at (l := r.args) (k := k) (by omega)) (hl := Nat.le_refl 6) (ha := rfl))
                refine l_cons rfl (p_alloc ze_29 fun s7 => ?_)
                refine l_cons rfl (p_store ty_29 ?_)
                refine l_nil ?_
                refine k_seq_normal ?_
                refine w_seq ?_
                refine w_drawn 3 [] (fun e => at_ e (es.length + 2) = some (.row s3 26 4 [[.int .u64 (Rx.firstE noSet (r.args.take k)).w0, .int .u64 (Rx.firstE noSet (r.args.take k)).w1, .int .u64 (Rx.firstE noSet (r.args.take k)).w2, .int .u64 (Rx.firstE noSet (r.args.take k)).w3]]) ∧ at_ e es2.length = some (.row s7 29 6 [(r.args[k]'(by omega)).cells])) mixed (by kernel_rfl) ⟨at_miss _ h3, at_hit _ _⟩ ?_
                refine q1 3 (hg := rfl) (hu := rfl) (h := by rintro f _ ⟨hG1, hG2⟩; exact p_loadp ty_26 (a := .agg (Rx.firstE noSet (r.args.take k)).row) ⟨rfl, rfl⟩ (hl := Nat.le_of_ble_eq_true rfl) (ha := rfl)) (k := ?_)
                refine q1 7 (hg := rfl) (hu := rfl) (h := by rintro f _ ⟨hG1, hG2⟩; exact p_loadp ty_29 ⟨rfl, rfl⟩) (k := ?_)
                refine q1 49 (hg := rfl) (hu := rfl) (h := by rintro f _ ⟨hG1, hG2⟩; exact p_callr en_61 (ih (B - 1) (by omega) (r.args[k]'(by omega)) _ (by have := r.nodes_arg (k := k) (by omega); omega) (by omega) (ho.arg (by omega))) ⟨rfl, rfl⟩) (k := ?_)
                refine q_end ?_
                refine m_end ?_
                refine l_cons rfl (p_callr en_97 (or_set (Rx.firstE noSet (r.args.take k)) (r.args[k]'(by omega)).first hacc (first_ok _ (ho.arg (by omega)))) ?_)
                refine l_cons rfl (p_store ty_26 (r' := [.int .u64 (Rx.firstE noSet (r.args.take (k + 1))).w0, .int .u64 (Rx.firstE noSet (r.args.take (k + 1))).w1, .int .u64 (Rx.firstE noSet (r.args.take (k + 1))).w2, .int .u64 (Rx.firstE noSet (r.args.take (k + 1))).w3]) ?_ (hr' := by rw [firstE_succ (by omega)]; rfl))
                refine l_nil ?_
                refine k_seq_normal ?_
                refine w_seq ?_
                refine w_region ?_
                refine l_cons rfl (p_loadp ty_29 (a := .agg (r.args[k]'(by omega)).cells) (he := loc_top (by rw [setAt_len])) ?_ (hr := rfl) (hl := Nat.le_refl 6) (ha := rfl))
                refine l_cons rfl (p_callr en_59 (Null_walk _ (r.args[k]'(by omega)) _ (Nat.le_refl _) (by have := r.nodes_arg (k := k) (by omega); omega)) ?_)
                refine l_cons rfl (p_not ?_)
                refine l_nil ?_
                refine k_seq_normal ?_
                refine w_b (fun h8 => ?_) (fun h8 => ?_)
                · skip
                  have h8' := h8; (try simp only [decide_eq_true_eq, decide_eq_false_iff_not, Bool.not_eq_true', Bool.not_false, Bool.not_true, Bool.not_eq_false'] at h8')
                  refine w_seq ?_
                  have h2' : at_ (Ent.row s7 29 6 [(r.args[k]'(by omega)).cells] :: setAt es2 (es.length + 2) (.row s3 26 4 [[.int .u64 (Rx.firstE noSet (r.args.take (k + 1))).w0, .int .u64 (Rx.firstE noSet (r.args.take (k + 1))).w1, .int .u64 (Rx.firstE noSet (r.args.take (k + 1))).w2, .int .u64 (Rx.firstE noSet (r.args.take (k + 1))).w3]])) (es.length + 1) = some (.row s2 26 4 [[.int .u64 0, .int .u64 0, .int .u64 0, .int .u64 0]]) := at_miss _ ((at_setAt_ne _ (by omega)).trans h2)
                  have h3' : at_ (Ent.row s7 29 6 [(r.args[k]'(by omega)).cells] :: setAt es2 (es.length + 2) (.row s3 26 4 [[.int .u64 (Rx.firstE noSet (r.args.take (k + 1))).w0, .int .u64 (Rx.firstE noSet (r.args.take (k + 1))).w1, .int .u64 (Rx.firstE noSet (r.args.take (k + 1))).w2, .int .u64 (Rx.firstE noSet (r.args.take (k + 1))).w3]])) (es.length + 2) = some (.row s3 26 4 [[.int .u64 (Rx.firstE noSet (r.args.take (k + 1))).w0, .int .u64 (Rx.firstE noSet (r.args.take (k + 1))).w1, .int .u64 (Rx.firstE noSet (r.args.take (k + 1))).w2, .int .u64 (Rx.firstE noSet (r.args.take (k + 1))).w3]]) := at_miss _ (at_setAt_same _ h3)
                  refine w_region ?_
                  refine l_cons rfl (p_loadp ty_26 (a := .agg (Rx.firstE noSet (r.args.take (k + 1))).row) ?_ (hl := Nat.le_of_ble_eq_true rfl) (ha := rfl))
                  refine l_cons rfl (p_store ty_26 ?_)
                  refine l_nil ?_
                  refine k_seq_normal ?_
                  refine w_ret ?_
                  refine k_blk_ret ?_
                  refine k_seq_ret ?_
                  refine k_seq_ret ?_
                  refine k_blk_ret ?_
                  refine k_seq_ret ?_
                  refine k_blk_ret ?_
                  refine k_seq_ret ?_
                  rw [first_4 (by omega) (by assumption), firstC_at (k := k) (by omega) hk2 (by assumption)]
                  exact retc (he := loc_base (at_setAt_same _ h2')) rfl ty_26 ((((kb.put (by simp only [List.length_cons]; omega) _).push _).pop.pop).put (by omega) _).sub ⟨rfl, rfl⟩
                · skip
                  have h8' := h8; (try simp only [decide_eq_true_eq, decide_eq_false_iff_not, Bool.not_eq_true', Bool.not_false, Bool.not_true, Bool.not_eq_false'] at h8')
                  refine w_skip ?_
                  refine k_blk_normal ?_
                  refine k_seq_normal ?_
                  refine w_region ?_
                  refine l_cons rfl (p_arith ?_)
                  refine l_cons rfl (p_move ?_)
                  refine l_nil ?_
                  refine k_seq_normal ?_
                  exact ⟨r.args.length - (k + 1), by omega, k + 1, rfl, by omega, next_true (p := Rx.null) (by omega) hk2 (by assumption), at_miss _ (at_setAt_same _ h3), (kb.put (by simp only [List.length_cons]; omega) _).push _, by simp only [Knows, put, upd_apply, Nat.reduceEqDiff, ↓reduceIte, and_true, true_and, eq_self] <;> and_intros <;> rfl⟩
              · skip
                have h7' := h7; (try simp only [decide_eq_true_eq, decide_eq_false_iff_not, Bool.not_eq_true', Bool.not_false, Bool.not_true, Bool.not_eq_false'] at h7')
                refine w_exit ?_
                refine k_seq_exit ?_
                refine k_seq_exit ?_
                refine k_blk_here ?_
                refine k_seq_normal ?_
                refine w_exit ?_
                refine k_blk_here ?_
                refine k_seq_normal ?_
                refine w_seq ?_
                refine w_region ?_
                refine l_cons rfl (p_loadp ty_26 ?_)
                refine l_cons rfl (p_store ty_26 ?_)
                refine l_nil ?_
                refine k_seq_normal ?_
                refine w_ret ?_
                first
                | (have hkl : k = r.args.length := by omega
                   rw [hkl, List.take_length] at h3 ⊢
                   rw [first_5 (by assumption)]
                   exact retc (he := loc_base (at_setAt_same _ h2)) rfl ty_26 ((kb.pop.pop).put (by omega) _).sub ⟨rfl, rfl⟩)
                | (have hkl : k = r.args.length := by omega
                   rw [hkl, List.take_length] at h3 ⊢
                   rw [first_4 (by omega) (by assumption), firstC_all (fun j hj h => hk2 j (by omega) h)]
                   exact retc (he := loc_base (at_setAt_same _ h2)) rfl ty_26 ((kb.pop.pop).put (by omega) _).sub ⟨rfl, rfl⟩)
                | (rw [first_no (by omega) (by omega) (by omega)]
                   exact retc rfl ty_26 (sub3 _ _ _ _) ⟨rfl, rfl⟩)
          · skip
            have h5' := h5; (try simp only [decide_eq_true_eq, decide_eq_false_iff_not, Bool.not_eq_true', Bool.not_false, Bool.not_true, Bool.not_eq_false'] at h5')
            refine w_skip ?_
            refine k_seq_normal ?_
            refine w_exit ?_
            refine k_blk_there (by decide) ?_
            refine k_seq_exit ?_
            refine k_blk_there (by decide) ?_
            refine k_seq_exit ?_
            refine k_blk_there (by decide) ?_
            refine k_seq_exit ?_
            refine k_blk_there (by decide) ?_
            refine k_seq_exit ?_
            refine k_blk_here ?_
            refine k_seq_normal ?_
            refine w_seq ?_
            refine w_region ?_
            refine l_cons rfl (p_loadp ty_26 ?_)
            refine l_cons rfl (p_store ty_26 ?_)
            refine l_nil ?_
            refine k_seq_normal ?_
            refine w_ret ?_
            first
            | (have hkl : k = r.args.length := by omega
               rw [hkl, List.take_length] at h3 ⊢
               rw [first_5 (by assumption)]
               exact retc (he := loc_base (at_setAt_same _ h2)) rfl ty_26 ((kb.pop.pop).put (by omega) _).sub ⟨rfl, rfl⟩)
            | (have hkl : k = r.args.length := by omega
               rw [hkl, List.take_length] at h3 ⊢
               rw [first_4 (by omega) (by assumption), firstC_all (fun j hj h => hk2 j (by omega) h)]
               exact retc (he := loc_base (at_setAt_same _ h2)) rfl ty_26 ((kb.pop.pop).put (by omega) _).sub ⟨rfl, rfl⟩)
            | (rw [first_no (by omega) (by omega) (by omega)]
               exact retc rfl ty_26 (sub3 _ _ _ _) ⟨rfl, rfl⟩)
  · skip
    rintro f es' ⟨hkd, rfl, hk⟩
    refine w_pins _ (Sub.refl _) (hk) ?_
    simp only [pins]
    refine w_seq ?_
    refine w_seq ?_
    refine w_region ?_
    refine l_cons rfl (p_fap fa_29_2 ?_)
    refine l_cons rfl (p_loadp ty_27 ?_)
    first | refine l_cons rfl (p_lenl sl_27 ?_) | refine l_cons rfl (p_leno sl_27 ?_) | refine l_cons rfl (p_lenn sl_27 ?_)
    refine l_len 26 fun hl2 => ?_
    simp only [List.length_map, most] at hl2
    refine l_cons rfl (p_move ?_)
    refine l_nil ?_
    refine k_seq_normal ?_
    refine w_block ?_
    refine w_loop (fun m f es2 => ∃ k, m = r.args.length - k ∧ k ≤ r.args.length ∧ at_ es2 (es.length + 2) = some (.row s3 26 4 [[.int .u64 (Rx.firstE noSet (r.args.take k)).w0, .int .u64 (Rx.firstE noSet (r.args.take k)).w1, .int .u64 (Rx.firstE noSet (r.args.take k)).w2, .int .u64 (Rx.firstE noSet (r.args.take k)).w3]]) ∧ KB (.row s2 26 4 [[.int .u64 0, .int .u64 0, .int .u64 0, .int .u64 0]] :: .row s1 29 6 [[.int .i64 r.kind, .int .u64 r.set.w0, .int .u64 r.set.w1, .int .u64 r.set.w2, .int .u64 r.set.w3, .list 6 (r.args.map Rx.cells)]] :: es) es2 ∧ Knows f [(1, .ptr es.length s1 0 0), (2, .ptr (es.length + 1) s2 0 0), (3, .ptr (es.length + 2) s3 0 0), (26, .list 6 (r.args.map Rx.cells)), (27, .int .i64 (r.args.length : Int)), (28, .int .i64 (k : Int))]) (r.args.length) (⟨0, rfl, Nat.zero_le _, at_hit _ _, (KB.refl _).push _, by simp only [List.length_map, Knows, put, upd_apply, Nat.reduceEqDiff, ↓reduceIte, and_true, true_and, eq_self] <;> and_intros <;> rfl⟩) ?_
    rintro m f es2 ⟨k, rfl, hk1, h3, kb, hk⟩
    have h2 := (kb.1 (es.length + 1) (by simp only [List.length_cons]; omega)).trans (at_hit _ _)
    have h1x := (kb.1 es.length (by simp only [List.length_cons]; omega)).trans (at_miss _ (at_hit _ _))
    have hel := kb.2
    simp only [List.length_cons] at hel
    have hacc := firstE_ok _ noSet noSet_ok (oks_take (fun x hx => ho.args x hx) k)
    refine w_pins _ (Sub.refl _) (hk) ?_
    simp only [pins]
    refine w_seq ?_
    refine w_region ?_
    refine l_cons rfl (p_cmp ?_)
    refine l_nil ?_
    refine k_seq_normal ?_
    refine w_seq ?_
    refine w_b (fun h9 => ?_) (fun h9 => ?_)
    · skip
      have h9' := h9; (try simp only [decide_eq_true_eq, decide_eq_false_iff_not, Bool.not_eq_true', Bool.not_false, Bool.not_true, Bool.not_eq_false'] at h9')
      refine w_skip ?_
      refine k_seq_normal ?_
      refine w_seq ?_
      refine w_block ?_
      refine w_seq ?_
      refine w_region ?_
      refine l_cons rfl (p_ixl sl_27 (a := .fptr 6 (r.args.map Rx.cells) k 0) ?_ (h0 := by omega) (h1 := by simp only [List.length_map]; omega))
      refine l_cons rfl (p_loadf ty_29 (a := .agg (r.args[k]'(by omega)).cells) ?_ (hr := rxrow_at (l := r.args) (k := k) (by omega)) (hl := Nat.le_refl 6) (ha := rfl))
      refine l_cons rfl (p_alloc ze_29 fun s5 => ?_)
      refine l_cons rfl (p_store ty_29 ?_)
      refine l_nil ?_
      refine k_seq_normal ?_
      refine w_drawn 3 [] (fun e => at_ e (es.length + 2) = some (.row s3 26 4 [[.int .u64 (Rx.firstE noSet (r.args.take k)).w0, .int .u64 (Rx.firstE noSet (r.args.take k)).w1, .int .u64 (Rx.firstE noSet (r.args.take k)).w2, .int .u64 (Rx.firstE noSet (r.args.take k)).w3]]) ∧ at_ e es2.length = some (.row s5 29 6 [(r.args[k]'(by omega)).cells])) mixed (by kernel_rfl) ⟨at_miss _ h3, at_hit _ _⟩ ?_
      refine q1 3 (hg := rfl) (hu := rfl) (h := by rintro f _ ⟨hG1, hG2⟩; exact p_loadp ty_26 (a := .agg (Rx.firstE noSet (r.args.take k)).row) ⟨rfl, rfl⟩ (hl := Nat.le_of_ble_eq_true rfl) (ha := rfl)) (k := ?_)
      refine q1 5 (hg := rfl) (hu := rfl) (h := by rintro f _ ⟨hG1, hG2⟩; exact p_loadp ty_29 ⟨rfl, rfl⟩) (k := ?_)
      refine q1 33 (hg := rfl) (hu := rfl) (h := by rintro f _ ⟨hG1, hG2⟩; exact p_callr en_61 (ih (B - 1) (by omega) (r.args[k]'(by omega)) _ (by have := r.nodes_arg (k := k) (by omega); omega) (by omega) (ho.arg (by omega))) ⟨rfl, rfl⟩) (k := ?_)
      refine q_end ?_
      refine m_end ?_
      refine l_cons rfl (p_callr en_97 (or_set (Rx.firstE noSet (r.args.take k)) (r.args[k]'(by omega)).first hacc (first_ok _ (ho.arg (by omega)))) ?_)
      refine l_cons rfl (p_store ty_26 (r' := [.int .u64 (Rx.firstE noSet (r.args.take (k + 1))).w0, .int .u64 (Rx.firstE noSet (r.args.take (k + 1))).w1, .int .u64 (Rx.firstE noSet (r.args.take (k + 1))).w2, .int .u64 (Rx.firstE noSet (r.args.take (k + 1))).w3]) ?_ (hr' := by rw [firstE_succ (by omega)]; rfl))
      refine l_nil ?_
      refine k_blk_normal ?_
      refine k_seq_normal ?_
      refine w_region ?_
      refine l_cons rfl (p_arith ?_)
      refine l_cons rfl (p_move ?_)
      refine l_nil ?_
      refine k_seq_normal ?_
      exact ⟨r.args.length - (k + 1), by omega, k + 1, rfl, by omega, at_miss _ (at_setAt_same _ h3), (kb.put (by simp only [List.length_cons]; omega) _).push _, by simp only [Knows, put, upd_apply, Nat.reduceEqDiff, ↓reduceIte, and_true, true_and, eq_self] <;> and_intros <;> rfl⟩
    · skip
      have h9' := h9; (try simp only [decide_eq_true_eq, decide_eq_false_iff_not, Bool.not_eq_true', Bool.not_false, Bool.not_true, Bool.not_eq_false'] at h9')
      refine w_exit ?_
      refine k_seq_exit ?_
      refine k_seq_exit ?_
      refine k_blk_here ?_
      refine k_seq_normal ?_
      refine w_exit ?_
      refine k_blk_there (by decide) ?_
      refine k_seq_exit ?_
      refine k_blk_here ?_
      refine k_seq_normal ?_
      refine w_seq ?_
      refine w_region ?_
      refine l_cons rfl (p_loadp ty_26 ?_)
      refine l_cons rfl (p_store ty_26 ?_)
      refine l_nil ?_
      refine k_seq_normal ?_
      refine w_ret ?_
      first
      | (have hkl : k = r.args.length := by omega
         rw [hkl, List.take_length] at h3 ⊢
         rw [first_5 (by assumption)]
         exact retc (he := loc_base (at_setAt_same _ h2)) rfl ty_26 ((kb.pop.pop).put (by omega) _).sub ⟨rfl, rfl⟩)
      | (have hkl : k = r.args.length := by omega
         rw [hkl, List.take_length] at h3 ⊢
         rw [first_4 (by omega) (by assumption), firstC_all (fun j hj h => hk2 j (by omega) h)]
         exact retc (he := loc_base (at_setAt_same _ h2)) rfl ty_26 ((kb.pop.pop).put (by omega) _).sub ⟨rfl, rfl⟩)
      | (rw [first_no (by omega) (by omega) (by omega)]
         exact retc rfl ty_26 (sub3 _ _ _ _) ⟨rfl, rfl⟩)
end Go.Proofs.YtfdgbghlanbddaaDoor.Av
set_option linter.unusedVariables false
set_option linter.unusedSimpArgs false
namespace Go.Proofs.YtfdgbghlanbddaaDoor.Av
open Go.RowKit
/-! ### regions that draw, each order walked by itself -/
section
variable {P : Program} {w0 : World} {N : Nat} {f : Frame} {es : List Ent} {K : Frame → List Ent → Prop} {ops : Array Oper} {o : Oper}
def AAny (P : Program) (w0 : World) (N : Nat) (ops : Array Oper) (fuel : Nat) (ls : Array Bool) (f : Frame) (es : List Ent) (K : Frame → List Ent → Prop) : Prop :=
 ∀ (c : Core) (A : Act) (Q : Exit → Act → World → Prop), Ok w0 c es → RepF N c es f A →
  (∀ c' es' f' A', Ext c es c' es' → Ok w0 c' es' → RepF N c' es' f' A' → K f' es' → Q .normal A' c'.w) → wpAny P .any ops Q fuel ls A c.w
/-- One operation, be it skipped or not. -/
def AStep (P : Program) (w0 : World) (N : Nat) (ops : Array Oper) (i : Nat) (f : Frame) (es : List Ent) (K : Frame → List Ent → Prop) : Prop :=
 ∀ (c : Core) (A : Act) (next : Act → World → Prop) (Q : Exit → Act → World → Prop), Ok w0 c es → RepF N c es f A →
  (∀ c' es' f' A', Ext c es c' es' → Ok w0 c' es' → RepF N c' es' f' A' → K f' es' → next A' c'.w) → wpOp P ops Q i next A c.w
/-- What came up. -/
def Lst (n : Nat) (l : List Nat) : Array Bool := ((List.range n).map fun i => l.contains i).toArray
theorem w_any {id : Nat} {l : List Oper} {K : Exit → Frame → List Ent → Prop} (n : Nat) (hm : P.follows .mixedOrders = true) (h0 : Array.replicate l.toArray.size false = Lst n []) (hn : l.toArray.size = n)
  (h : AAny P w0 N l.toArray n (Lst n []) f es (K .normal)) : AWp P w0 N (.region id l.toArray true) f es K := by
 intro c A Q ok rf hk
 obtain ⟨x0, ok0⟩ := ok_drew ok
 refine wp_region_any hm ?_
 rw [h0, hn]
 exact h { c with w := { c.w with drawn := c.w.drawn + 1 } } A Q ok0 (rf.ext x0) fun c' es' f' A' x ok' rf' k => hk .normal c' es' f' A' (x0.trans x) ok' rf' k
theorem a_done {fuel : Nat} {ls : Array Bool} (hr : Region.ready .any ops ls = []) (h : K f es) : AAny P w0 N ops fuel ls f es K := by
 intro c A Q ok rf hk
 have hq := hk c es f A (Ext.refl _ _) ok rf h
 cases fuel with
 | zero => exact ⟨hr, hq⟩
 | succ n => exact ⟨fun _ => hq, fun i hi => by rw [hr] at hi; cases hi⟩
theorem a_step {fuel : Nat} {ls : Array Bool} (hne : Region.ready .any ops ls ≠ []) (h : ∀ i ∈ Region.ready .any ops ls, AStep P w0 N ops i f es fun f' es' => AAny P w0 N ops fuel (ls.setIfInBounds i true) f' es' K) : AAny P w0 N ops (fuel + 1) ls f es K := by
 intro c A Q ok rf hk
 refine ⟨fun e => absurd e hne, fun i hi => ?_⟩
 exact h i hi c A _ Q ok rf fun c' es' f' A' x ok' rf' k => k c' A' Q ok' rf' fun c2 es2 f2 A2 x2 ok2 rf2 k2 => hk c2 es2 f2 A2 (x.trans x2) ok2 rf2 k2
theorem a_one (i : Nat) {fuel : Nat} {ls : Array Bool} (ls' : Array Bool) (hr : Region.ready .any ops ls = [i]) (hl : ls.setIfInBounds i true = ls') (h : AStep P w0 N ops i f es fun f' es' => AAny P w0 N ops fuel ls' f' es' K) : AAny P w0 N ops (fuel + 1) ls f es K := by
 refine a_step (by rw [hr]; simp) fun k hk => ?_
 rw [hr] at hk
 simp only [List.mem_cons, List.not_mem_nil, or_false] at hk
 subst hk
 rw [hl]
 exact h
theorem a_two (i j : Nat) {fuel : Nat} {ls : Array Bool} (l1 l2 : Array Bool) (hr : Region.ready .any ops ls = [i, j]) (hl1 : ls.setIfInBounds i true = l1) (hl2 : ls.setIfInBounds j true = l2)
  (h1 : AStep P w0 N ops i f es fun f' es' => AAny P w0 N ops fuel l1 f' es' K) (h2 : AStep P w0 N ops j f es fun f' es' => AAny P w0 N ops fuel l2 f' es' K) : AAny P w0 N ops (fuel + 1) ls f es K := by
 refine a_step (by rw [hr]; simp) fun k hk => ?_
 rw [hr] at hk
 simp only [List.mem_cons, List.not_mem_nil, or_false] at hk
 rcases hk with rfl | rfl
 ·rw [hl1]; exact h1
 ·rw [hl2]; exact h2
/-- From here on once, whatever the order before it. -/
theorem a_cut {fuel : Nat} {ls : Array Bool} (fuel2 : Nat) (ls2 : Array Bool) (Post : Frame → List Ent → Prop) (h2 : ∀ f es, Post f es → AAny P w0 N ops fuel2 ls2 f es K) (h1 : (∀ f es, Post f es → AAny P w0 N ops fuel2 ls2 f es K) → AAny P w0 N ops fuel ls f es K) : AAny P w0 N ops fuel ls f es K := h1 h2
theorem a_less {fuel : Nat} {ls : Array Bool} {f' : Frame} {es' : List Ent} (l : Less f' f) (s : Sub es' es) (h : AAny P w0 N ops fuel ls f' es' K) : AAny P w0 N ops fuel ls f es K :=
 fun c A Q ok rf hk => h c A Q (s.ok ok) ((rf.less l).ext (s.ext c)) fun c' es2 f2 A2 x ok2 rf2 k => hk c' es2 f2 A2 ((s.ext c).trans x) ok2 rf2 k
theorem a_pins (l : List (Nat × AV)) {fuel : Nat} {ls : Array Bool} {es' : List Ent} (hs : Sub es' es) (hk : Knows f l) (h : AAny P w0 N ops fuel ls (pins l) es' K) : AAny P w0 N ops fuel ls f es K := a_less (less_pins hk) hs h
theorem st_p {i : Nat} (hi : ops[i]? = some o) (hg : o.guard = none) (h : AOp P w0 N o f es K) : AStep P w0 N ops i f es K := by
 intro c A next Q ok rf hk
 simp only [wpOp, hi]
 rw [if_pos (by simp [Region.wanted, hg])]
 exact .inl (h c A next Q ok rf hk)
theorem st_y {i j d : Nat} {want b : Bool} (hi : ops[i]? = some o) (hg : o.guard = some (j, want)) (hw : b = want) (h : AOp P w0 N o f es K)
  (hd : (ops[j]?).bind (·.dst) = some d := by exact rfl) (hN : Nat.blt d N = true := by exact rfl) (hb : f d = .bool b := by simp only [ofConst_int, ofConst_bool, ofConst_str, ofConst_nil, upd_apply, Nat.reduceEqDiff, ↓reduceIte] <;> exact rfl) : AStep P w0 N ops i f es K := by
 intro c A next Q ok rf hk
 have hy := yielded_of (ops := ops) rf hd hN hb
 simp only [wpOp, hi]
 rw [if_pos (by simp [Region.wanted, hg, hy, hw])]
 exact .inl (h c A next Q ok rf hk)
end
end Go.Proofs.YtfdgbghlanbddaaDoor.Av
set_option linter.unusedVariables false
set_option linter.unusedSimpArgs false
set_option maxRecDepth 8000
namespace Go.Proofs.YtfdgbghlanbddaaDoor.Av
open Go.RowKit Go.Proofs
def aSet : W4 := ⟨0, 8589934592, 0, 0⟩
def aR : Rx := .mk 3 aSet []
def starA : Rx := .mk 6 noSet [aR]
theorem aR_cells : aR.cells = [.int .i64 3, .int .u64 0, .int .u64 8589934592, .int .u64 0, .int .u64 0, .list 6 []] := by rw [Rx.cells_eq]; rfl
theorem aSet_ok : aSet.ok := by unfold W4.ok aSet; simp
theorem aR_ok : aR.ok := ok_mkset aSet_ok
theorem aR_nodes : aR.nodes = 1 := by simp [aR, Rx.nodes, Rx.nodesL]
theorem starA_ok : starA.ok := ok_mk (by omega) (by simpa using aR_ok)
theorem starA_nodes : starA.nodes = 2 := by simp [starA, Rx.nodes, Rx.nodesL, aR_nodes]
theorem star_aR : starR aR = starA := by
 unfold starR
 rw [show (2000 : Nat) = 1999 + 1 from rfl, starN]
 rfl
theorem aSet_has : aSet.hasI 97 = true := by decide
theorem aa_ok : bytesOk [97, 97] := fun b hb => by
 simp only [List.mem_cons, List.not_mem_nil, or_false] at hb
 omega
theorem in_starA : inR starA [97, 97] = true := by
 rw [inR_iff, kind_6 (r := starA) rfl]
 have h : Rx.langOne starA.args [97] := langOne_iff.2 ⟨aR, rfl, (kind_3 (r := aR) rfl _).2 ⟨97, rfl, aSet_has⟩⟩
 exact Star.cons h (Star.cons h .nil)
theorem in_aR : inR aR [97, 97] = false := by
 rw [Bool.eq_false_iff, ne_eq, inR_iff, kind_3 (r := aR) rfl]
 rintro ⟨c, h, _⟩
 simp at h
theorem hasA_walk {w0 : World} {es : List Ent} : ACalls Tryd.prog w0 100 [.agg [.int .u64 0, .int .u64 8589934592, .int .u64 0, .int .u64 0], .int .u8 97] es fun v es' => v = .bool true ∧ es' = es := by
 have := bytesetHas (w0 := w0) (es := es) 0 8589934592 0 0 97 (by omega) (by omega)
 rwa [show hasW 0 8589934592 0 0 97 = true from aSet_has] at this
theorem setA_walk {w0 : World} {es : List Ent} : ACalls Tryd.prog w0 67 [.agg [.int .u64 0, .int .u64 8589934592, .int .u64 0, .int .u64 0]] es fun v es' => v = .agg [.int .i64 3, .int .u64 0, .int .u64 8589934592, .int .u64 0, .int .u64 0, .list 6 []] ∧ es' = es := by
 have := refBytes (w0 := w0) (es := es) aSet
 rwa [show bytesR aSet = aR from rfl, aR_cells] at this
theorem starA_walk {w0 : World} {es : List Ent} : ACalls Tryd.prog w0 41 [.agg [.int .i64 3, .int .u64 0, .int .u64 8589934592, .int .u64 0, .int .u64 0, .list 6 []]] es fun v es' => v = .agg starA.cells ∧ es' = es := by
 have := refStarR (w0 := w0) (es := es) aR (by rw [aR_nodes]; omega) aR_ok
 rwa [star_aR, aR_cells] at this
theorem inStarA {w0 : World} {es : List Ent} : ACalls Tryd.prog w0 58 [.agg starA.cells, .list 1 [[.int .u8 97], [.int .u8 97]]] es fun v es' => v = .bool true ∧ es' = es := by
 have := In_walk (w0 := w0) (es := es) starA [97, 97] starA_ok aa_ok (by simp)
 rwa [in_starA] at this
theorem inA {w0 : World} {es : List Ent} : ACalls Tryd.prog w0 58 [.agg [.int .i64 3, .int .u64 0, .int .u64 8589934592, .int .u64 0, .int .u64 0, .list 6 []], .list 1 [[.int .u8 97], [.int .u8 97]]] es fun v es' => v = .bool false ∧ es' = es := by
 have := In_walk (w0 := w0) (es := es) aR [97, 97] aR_ok aa_ok (by simp)
 rwa [in_aR, aR_cells] at this
theorem nullStarA {w0 : World} {es : List Ent} : ACalls Tryd.prog w0 59 [.agg starA.cells] es fun v es' => v = .bool true ∧ es' = es := by
 have := Null_walk (w0 := w0) 2 starA es (by rw [starA_nodes]; omega) (by omega)
 rwa [show starA.null = true by rw [null_eq]; rfl] at this
theorem firstA {w0 : World} {es : List Ent} : ACalls Tryd.prog w0 61 [.agg [.int .i64 3, .int .u64 0, .int .u64 8589934592, .int .u64 0, .int .u64 0, .list 6 []]] es fun v es' => v = .agg aSet.row ∧ es' = es := by
 have := First_walk (w0 := w0) 2 aR es (by rw [aR_nodes]; omega) (by omega) aR_ok
 rwa [first_3 (r := aR) rfl, aR_cells] at this
theorem empty1_walk {w0 : World} {es : List Ent} : ACalls Tryd.prog w0 101 [] es fun v es' => v = .agg [.int .i64 2, .int .u64 0, .int .u64 0, .int .u64 0, .int .u64 0, .nil] ∧ es' = es := by
 refine calls0 (N := 2) Tryd.func101 rfl rfl ?_
 refine w_seq ?_
 refine w_region ?_
 refine l_cons rfl (p_alloc ze_29 fun s0 => ?_)
 refine l_nil ?_
 refine k_seq_normal ?_
 refine w_seq ?_
 refine w_region ?_
 refine l_cons rfl (p_build ze_29 pl_29 ?_)
 refine l_cons rfl (p_store ty_29 ?_)
 refine l_nil ?_
 refine k_seq_normal ?_
 refine w_ret ?_
 exact retc rfl ty_29 (by first | exact Sub.refl _ | exact sub1 _ _ | exact sub2 _ _ _ | exact sub3 _ _ _ _ | exact sub4 _ _ _ _ _ | exact sub5 _ _ _ _ _ _) ⟨rfl, rfl⟩
theorem stepA_walk {w0 : World} {es : List Ent} : ACalls Tryd.prog w0 65 [.agg [.int .i64 3, .int .u64 0, .int .u64 8589934592, .int .u64 0, .int .u64 0, .list 6 []], .int .u8 97] es fun v es' => v = .agg [.int .i64 2, .int .u64 0, .int .u64 0, .int .u64 0, .int .u64 0, .nil] ∧ es' = es := by
 refine calls2 (N := 57) Tryd.func65 rfl rfl (by decide) ?_
 refine w_seq ?_
 refine w_region ?_
 refine l_cons rfl (p_box fun s2 => ?_)
 refine l_cons rfl (p_alloc ze_29 fun s4 => ?_)
 refine l_nil ?_
 refine k_seq_normal ?_
 refine w_seq ?_
 refine w_seq ?_
 refine w_region ?_
 refine l_cons rfl (p_fap fa_29_0 ?_)
 refine l_cons rfl (p_loadp ty_3 ?_)
 refine l_nil ?_
 refine k_seq_normal ?_
 refine w_block ?_
 refine w_seq ?_
 refine w_region ?_
 refine l_cons rfl (p_cmpl true ?_)
 refine l_cons rfl (p_assign ?_)
 refine l_nil ?_
 refine k_seq_normal ?_
 refine w_t rfl ?_
 refine w_seq ?_
 refine w_region ?_
 refine l_cons rfl (p_fap fa_29_1 ?_)
 refine l_cons rfl (p_loadp ty_26 ?_)
 refine l_cons rfl (p_move ?_)
 refine l_cons rfl (p_callr en_100 (hasA_walk) ?_)
 refine l_nil ?_
 refine k_seq_normal ?_
 refine w_t rfl ?_
 refine w_seq ?_
 refine w_region ?_
 refine l_cons rfl (p_callr en_101 (empty1_walk) ?_)
 refine l_cons rfl (p_store ty_29 ?_)
 refine l_nil ?_
 refine k_seq_normal ?_
 refine w_ret ?_
 refine k_blk_ret ?_
 refine k_seq_ret ?_
 exact retc rfl ty_29 (by first | exact Sub.refl _ | exact sub1 _ _ | exact sub2 _ _ _ | exact sub3 _ _ _ _ | exact sub4 _ _ _ _ _ | exact sub5 _ _ _ _ _ _) ⟨rfl, rfl⟩
theorem begun8_walk {w0 : World} {es : List Ent} : ACalls Tryd.prog w0 57 [] es fun v es' => v = .bool true ∧ es' = es := by
 refine calls0 (N := 36) Tryd.func57 rfl rfl ?_
 refine w_seq ?_
 refine w_region ?_
 refine l_cons rfl (p_assign ?_)
 refine l_nil ?_
 refine k_seq_normal ?_
 refine w_seq ?_
 refine w_region ?_
 refine l_cons rfl (p_buildSlice sl_22 ze_5 fun s2 => ?_)
 refine l_cons rfl (p_convBytes sl_22 in_5 ?_)
 refine l_cons rfl (p_callr en_68 (of_a) ?_)
 refine l_cons rfl (p_callr en_67 (setA_walk) ?_)
 refine l_cons rfl (p_alloc ze_29 fun s1 => ?_)
 refine l_cons rfl (p_store ty_29 ?_)
 refine l_nil ?_
 refine k_seq_normal ?_
 refine w_seq ?_
 refine w_any 31 mixed (by kernel_rfl) rfl ?_
 refine a_cut 27 (Lst 31 [0, 1, 2, 3]) (fun f es2 => es2 = .row s1 29 6 [[.int .i64 3, .int .u64 0, .int .u64 8589934592, .int .u64 0, .int .u64 0, .list 6 []]] :: es ∧ Knows f [(1, .ptr es.length s1 0 0), (7, .agg starA.cells), (9, .list 1 [[.int .u8 97], [.int .u8 97]])]) (fun f es2 hpost => ?_) (fun ph4 => ?_)
 ·skip
  obtain ⟨rfl, hk⟩ := hpost
  refine a_pins _ (Sub.refl _) hk ?_
  simp only [pins]
  refine a_one 4 (Lst 31 [0, 1, 2, 3, 4]) (by kernel_rfl) (by kernel_rfl) (st_p rfl rfl (p_callr en_58 (inStarA) ?_))
  refine a_one 5 (Lst 31 [0, 1, 2, 3, 4, 5]) (by kernel_rfl) (by kernel_rfl) (st_p rfl rfl (p_move ?_))
  refine a_cut 22 (Lst 31 [0, 1, 2, 3, 4, 5, 6, 7, 8]) (fun f es2 => es2 = .row s1 29 6 [[.int .i64 3, .int .u64 0, .int .u64 8589934592, .int .u64 0, .int .u64 0, .list 6 []]] :: es ∧ Knows f [(1, .ptr es.length s1 0 0), (11, .bool true), (12, .agg [.int .i64 3, .int .u64 0, .int .u64 8589934592, .int .u64 0, .int .u64 0, .list 6 []]), (14, .list 1 [[.int .u8 97], [.int .u8 97]])]) (fun f es2 hpost => ?_) (fun ph9 => ?_)
  ·skip
   obtain ⟨rfl, hk⟩ := hpost
   refine a_pins _ (Sub.refl _) hk ?_
   simp only [pins]
   refine a_one 9 (Lst 31 [0, 1, 2, 3, 4, 5, 6, 7, 8, 9]) (by kernel_rfl) (by kernel_rfl) (st_y rfl rfl rfl (p_callr en_58 (inA) ?_))
   refine a_one 10 (Lst 31 [0, 1, 2, 3, 4, 5, 6, 7, 8, 9, 10]) (by kernel_rfl) (by kernel_rfl) (st_y rfl rfl rfl (p_not ?_))
   refine a_one 11 (Lst 31 [0, 1, 2, 3, 4, 5, 6, 7, 8, 9, 10, 11]) (by kernel_rfl) (by kernel_rfl) (st_p rfl rfl (p_pickt rfl ?_))
   refine a_one 12 (Lst 31 [0, 1, 2, 3, 4, 5, 6, 7, 8, 9, 10, 11, 12]) (by kernel_rfl) (by kernel_rfl) (st_p rfl rfl (p_move ?_))
   refine a_one 13 (Lst 31 [0, 1, 2, 3, 4, 5, 6, 7, 8, 9, 10, 11, 12, 13]) (by kernel_rfl) (by kernel_rfl) (st_y rfl rfl rfl (p_loadp ty_29 ?_))
   refine a_one 14 (Lst 31 [0, 1, 2, 3, 4, 5, 6, 7, 8, 9, 10, 11, 12, 13, 14]) (by kernel_rfl) (by kernel_rfl) (st_y rfl rfl rfl (p_callr en_41 (starA_walk) ?_))
   refine a_one 15 (Lst 31 [0, 1, 2, 3, 4, 5, 6, 7, 8, 9, 10, 11, 12, 13, 14, 15]) (by kernel_rfl) (by kernel_rfl) (st_y rfl rfl rfl (p_callr en_59 (nullStarA) ?_))
   refine a_one 16 (Lst 31 [0, 1, 2, 3, 4, 5, 6, 7, 8, 9, 10, 11, 12, 13, 14, 15, 16]) (by kernel_rfl) (by kernel_rfl) (st_p rfl rfl (p_pickt rfl ?_))
   refine a_one 17 (Lst 31 [0, 1, 2, 3, 4, 5, 6, 7, 8, 9, 10, 11, 12, 13, 14, 15, 16, 17]) (by kernel_rfl) (by kernel_rfl) (st_p rfl rfl (p_move ?_))
   refine a_one 18 (Lst 31 [0, 1, 2, 3, 4, 5, 6, 7, 8, 9, 10, 11, 12, 13, 14, 15, 16, 17, 18]) (by kernel_rfl) (by kernel_rfl) (st_y rfl rfl rfl (p_loadp ty_29 ?_))
   refine a_one 19 (Lst 31 [0, 1, 2, 3, 4, 5, 6, 7, 8, 9, 10, 11, 12, 13, 14, 15, 16, 17, 18, 19]) (by kernel_rfl) (by kernel_rfl) (st_y rfl rfl rfl (p_callr en_65 (stepA_walk) ?_))
   refine a_one 20 (Lst 31 [0, 1, 2, 3, 4, 5, 6, 7, 8, 9, 10, 11, 12, 13, 14, 15, 16, 17, 18, 19, 20]) (by kernel_rfl) (by kernel_rfl) (st_y rfl rfl rfl (p_field fv_29_0 ?_))
   refine a_one 21 (Lst 31 [0, 1, 2, 3, 4, 5, 6, 7, 8, 9, 10, 11, 12, 13, 14, 15, 16, 17, 18, 19, 20, 21]) (by kernel_rfl) (by kernel_rfl) (st_y rfl rfl rfl (p_cmpl true ?_))
   refine a_one 22 (Lst 31 [0, 1, 2, 3, 4, 5, 6, 7, 8, 9, 10, 11, 12, 13, 14, 15, 16, 17, 18, 19, 20, 21, 22]) (by kernel_rfl) (by kernel_rfl) (st_p rfl rfl (p_pickt rfl ?_))
   refine a_one 23 (Lst 31 [0, 1, 2, 3, 4, 5, 6, 7, 8, 9, 10, 11, 12, 13, 14, 15, 16, 17, 18, 19, 20, 21, 22, 23]) (by kernel_rfl) (by kernel_rfl) (st_p rfl rfl (p_move ?_))
   refine a_cut 3 (Lst 31 [0, 1, 2, 3, 4, 5, 6, 7, 8, 9, 10, 11, 12, 13, 14, 15, 16, 17, 18, 19, 20, 21, 22, 23, 24, 25, 26, 27]) (fun f es2 => es2 = .row s1 29 6 [[.int .i64 3, .int .u64 0, .int .u64 8589934592, .int .u64 0, .int .u64 0, .list 6 []]] :: es ∧ Knows f [(1, .ptr es.length s1 0 0), (29, .bool true), (31, .agg aSet.row), (33, .agg aSet.row)]) (fun f es2 hpost => ?_) (fun ph28 => ?_)
   ·skip
    obtain ⟨rfl, hk⟩ := hpost
    refine a_pins _ (Sub.refl _) hk ?_
    simp only [pins]
    refine a_one 28 (Lst 31 [0, 1, 2, 3, 4, 5, 6, 7, 8, 9, 10, 11, 12, 13, 14, 15, 16, 17, 18, 19, 20, 21, 22, 23, 24, 25, 26, 27, 28]) (by kernel_rfl) (by kernel_rfl) (st_y rfl rfl rfl (p_eqa ai_26 (b := true) ?_))
    refine a_one 29 (Lst 31 [0, 1, 2, 3, 4, 5, 6, 7, 8, 9, 10, 11, 12, 13, 14, 15, 16, 17, 18, 19, 20, 21, 22, 23, 24, 25, 26, 27, 28, 29]) (by kernel_rfl) (by kernel_rfl) (st_p rfl rfl (p_pickt rfl ?_))
    refine a_one 30 (Lst 31 [0, 1, 2, 3, 4, 5, 6, 7, 8, 9, 10, 11, 12, 13, 14, 15, 16, 17, 18, 19, 20, 21, 22, 23, 24, 25, 26, 27, 28, 29, 30]) (by kernel_rfl) (by kernel_rfl) (st_p rfl rfl (p_assign ?_))
    refine a_done (by kernel_rfl) ?_
    refine k_seq_normal ?_
    refine w_ret ?_
    refine ret1b rfl ?_ <;> exact ex2 subx ⟨rfl, rfl⟩
   ·skip
    refine a_two 24 26 (Lst 31 [0, 1, 2, 3, 4, 5, 6, 7, 8, 9, 10, 11, 12, 13, 14, 15, 16, 17, 18, 19, 20, 21, 22, 23, 24]) (Lst 31 [0, 1, 2, 3, 4, 5, 6, 7, 8, 9, 10, 11, 12, 13, 14, 15, 16, 17, 18, 19, 20, 21, 22, 23, 26]) (by kernel_rfl) (by kernel_rfl) (by kernel_rfl) ?_ ?_
    ·skip
     refine st_y rfl rfl rfl (p_loadp ty_29 ?_)
     refine a_two 25 26 (Lst 31 [0, 1, 2, 3, 4, 5, 6, 7, 8, 9, 10, 11, 12, 13, 14, 15, 16, 17, 18, 19, 20, 21, 22, 23, 24, 25]) (Lst 31 [0, 1, 2, 3, 4, 5, 6, 7, 8, 9, 10, 11, 12, 13, 14, 15, 16, 17, 18, 19, 20, 21, 22, 23, 24, 26]) (by kernel_rfl) (by kernel_rfl) (by kernel_rfl) ?_ ?_
     ·skip
      refine st_y rfl rfl rfl (p_callr en_61 (firstA) ?_)
      refine a_one 26 (Lst 31 [0, 1, 2, 3, 4, 5, 6, 7, 8, 9, 10, 11, 12, 13, 14, 15, 16, 17, 18, 19, 20, 21, 22, 23, 24, 25, 26]) (by kernel_rfl) (by kernel_rfl) (st_y rfl rfl rfl (p_fap fa_29_1 ?_))
      refine a_one 27 (Lst 31 [0, 1, 2, 3, 4, 5, 6, 7, 8, 9, 10, 11, 12, 13, 14, 15, 16, 17, 18, 19, 20, 21, 22, 23, 24, 25, 26, 27]) (by kernel_rfl) (by kernel_rfl) (st_y rfl rfl rfl (p_loadp ty_26 (a := .agg aSet.row) ?_ (hl := Nat.le_of_ble_eq_true rfl) (ha := rfl)))
      exact ph28 _ _ (⟨rfl, by simp only [Knows, put, upd_apply, Nat.reduceEqDiff, ↓reduceIte, and_true, true_and, eq_self] <;> and_intros <;> rfl⟩)
     ·skip
      refine st_y rfl rfl rfl (p_fap fa_29_1 ?_)
      refine a_two 25 27 (Lst 31 [0, 1, 2, 3, 4, 5, 6, 7, 8, 9, 10, 11, 12, 13, 14, 15, 16, 17, 18, 19, 20, 21, 22, 23, 24, 25, 26]) (Lst 31 [0, 1, 2, 3, 4, 5, 6, 7, 8, 9, 10, 11, 12, 13, 14, 15, 16, 17, 18, 19, 20, 21, 22, 23, 24, 26, 27]) (by kernel_rfl) (by kernel_rfl) (by kernel_rfl) ?_ ?_
      ·skip
       refine st_y rfl rfl rfl (p_callr en_61 (firstA) ?_)
       refine a_one 27 (Lst 31 [0, 1, 2, 3, 4, 5, 6, 7, 8, 9, 10, 11, 12, 13, 14, 15, 16, 17, 18, 19, 20, 21, 22, 23, 24, 25, 26, 27]) (by kernel_rfl) (by kernel_rfl) (st_y rfl rfl rfl (p_loadp ty_26 (a := .agg aSet.row) ?_ (hl := Nat.le_of_ble_eq_true rfl) (ha := rfl)))
       exact ph28 _ _ (⟨rfl, by simp only [Knows, put, upd_apply, Nat.reduceEqDiff, ↓reduceIte, and_true, true_and, eq_self] <;> and_intros <;> rfl⟩)
      ·skip
       refine st_y rfl rfl rfl (p_loadp ty_26 (a := .agg aSet.row) ?_ (hl := Nat.le_of_ble_eq_true rfl) (ha := rfl))
       refine a_one 25 (Lst 31 [0, 1, 2, 3, 4, 5, 6, 7, 8, 9, 10, 11, 12, 13, 14, 15, 16, 17, 18, 19, 20, 21, 22, 23, 24, 25, 26, 27]) (by kernel_rfl) (by kernel_rfl) (st_y rfl rfl rfl (p_callr en_61 (firstA) ?_))
       exact ph28 _ _ (⟨rfl, by simp only [Knows, put, upd_apply, Nat.reduceEqDiff, ↓reduceIte, and_true, true_and, eq_self] <;> and_intros <;> rfl⟩)
    ·skip
     refine st_y rfl rfl rfl (p_fap fa_29_1 ?_)
     refine a_two 24 27 (Lst 31 [0, 1, 2, 3, 4, 5, 6, 7, 8, 9, 10, 11, 12, 13, 14, 15, 16, 17, 18, 19, 20, 21, 22, 23, 24, 26]) (Lst 31 [0, 1, 2, 3, 4, 5, 6, 7, 8, 9, 10, 11, 12, 13, 14, 15, 16, 17, 18, 19, 20, 21, 22, 23, 26, 27]) (by kernel_rfl) (by kernel_rfl) (by kernel_rfl) ?_ ?_
     ·skip
      refine st_y rfl rfl rfl (p_loadp ty_29 ?_)
      refine a_two 25 27 (Lst 31 [0, 1, 2, 3, 4, 5, 6, 7, 8, 9, 10, 11, 12, 13, 14, 15, 16, 17, 18, 19, 20, 21, 22, 23, 24, 25, 26]) (Lst 31 [0, 1, 2, 3, 4, 5, 6, 7, 8, 9, 10, 11, 12, 13, 14, 15, 16, 17, 18, 19, 20, 21, 22, 23, 24, 26, 27]) (by kernel_rfl) (by kernel_rfl) (by kernel_rfl) ?_ ?_
      ·skip
       refine st_y rfl rfl rfl (p_callr en_61 (firstA) ?_)
       refine a_one 27 (Lst 31 [0, 1, 2, 3, 4, 5, 6, 7, 8, 9, 10, 11, 12, 13, 14, 15, 16, 17, 18, 19, 20, 21, 22, 23, 24, 25, 26, 27]) (by kernel_rfl) (by kernel_rfl) (st_y rfl rfl rfl (p_loadp ty_26 (a := .agg aSet.row) ?_ (hl := Nat.le_of_ble_eq_true rfl) (ha := rfl)))
       exact ph28 _ _ (⟨rfl, by simp only [Knows, put, upd_apply, Nat.reduceEqDiff, ↓reduceIte, and_true, true_and, eq_self] <;> and_intros <;> rfl⟩)
      ·skip
       refine st_y rfl rfl rfl (p_loadp ty_26 (a := .agg aSet.row) ?_ (hl := Nat.le_of_ble_eq_true rfl) (ha := rfl))
       refine a_one 25 (Lst 31 [0, 1, 2, 3, 4, 5, 6, 7, 8, 9, 10, 11, 12, 13, 14, 15, 16, 17, 18, 19, 20, 21, 22, 23, 24, 25, 26, 27]) (by kernel_rfl) (by kernel_rfl) (st_y rfl rfl rfl (p_callr en_61 (firstA) ?_))
       exact ph28 _ _ (⟨rfl, by simp only [Knows, put, upd_apply, Nat.reduceEqDiff, ↓reduceIte, and_true, true_and, eq_self] <;> and_intros <;> rfl⟩)
     ·skip
      refine st_y rfl rfl rfl (p_loadp ty_26 (a := .agg aSet.row) ?_ (hl := Nat.le_of_ble_eq_true rfl) (ha := rfl))
      refine a_one 24 (Lst 31 [0, 1, 2, 3, 4, 5, 6, 7, 8, 9, 10, 11, 12, 13, 14, 15, 16, 17, 18, 19, 20, 21, 22, 23, 24, 26, 27]) (by kernel_rfl) (by kernel_rfl) (st_y rfl rfl rfl (p_loadp ty_29 ?_))
      refine a_one 25 (Lst 31 [0, 1, 2, 3, 4, 5, 6, 7, 8, 9, 10, 11, 12, 13, 14, 15, 16, 17, 18, 19, 20, 21, 22, 23, 24, 25, 26, 27]) (by kernel_rfl) (by kernel_rfl) (st_y rfl rfl rfl (p_callr en_61 (firstA) ?_))
      exact ph28 _ _ (⟨rfl, by simp only [Knows, put, upd_apply, Nat.reduceEqDiff, ↓reduceIte, and_true, true_and, eq_self] <;> and_intros <;> rfl⟩)
  ·skip
   refine a_two 6 7 (Lst 31 [0, 1, 2, 3, 4, 5, 6]) (Lst 31 [0, 1, 2, 3, 4, 5, 7]) (by kernel_rfl) (by kernel_rfl) (by kernel_rfl) ?_ ?_
   ·skip
    refine st_y rfl rfl rfl (p_loadp ty_29 ?_)
    refine a_one 7 (Lst 31 [0, 1, 2, 3, 4, 5, 6, 7]) (by kernel_rfl) (by kernel_rfl) (st_y rfl rfl rfl (p_buildSlice sl_22 ze_5 fun s13 => ?_))
    refine a_one 8 (Lst 31 [0, 1, 2, 3, 4, 5, 6, 7, 8]) (by kernel_rfl) (by kernel_rfl) (st_y rfl rfl rfl (p_convBytes sl_22 in_5 ?_))
    exact ph9 _ _ (⟨rfl, by simp only [Knows, put, upd_apply, Nat.reduceEqDiff, ↓reduceIte, and_true, true_and, eq_self] <;> and_intros <;> rfl⟩)
   ·skip
    refine st_y rfl rfl rfl (p_buildSlice sl_22 ze_5 fun s13 => ?_)
    refine a_two 6 8 (Lst 31 [0, 1, 2, 3, 4, 5, 6, 7]) (Lst 31 [0, 1, 2, 3, 4, 5, 7, 8]) (by kernel_rfl) (by kernel_rfl) (by kernel_rfl) ?_ ?_
    ·skip
     refine st_y rfl rfl rfl (p_loadp ty_29 ?_)
     refine a_one 8 (Lst 31 [0, 1, 2, 3, 4, 5, 6, 7, 8]) (by kernel_rfl) (by kernel_rfl) (st_y rfl rfl rfl (p_convBytes sl_22 in_5 ?_))
     exact ph9 _ _ (⟨rfl, by simp only [Knows, put, upd_apply, Nat.reduceEqDiff, ↓reduceIte, and_true, true_and, eq_self] <;> and_intros <;> rfl⟩)
    ·skip
     refine st_y rfl rfl rfl (p_convBytes sl_22 in_5 ?_)
     refine a_one 6 (Lst 31 [0, 1, 2, 3, 4, 5, 6, 7, 8]) (by kernel_rfl) (by kernel_rfl) (st_y rfl rfl rfl (p_loadp ty_29 ?_))
     exact ph9 _ _ (⟨rfl, by simp only [Knows, put, upd_apply, Nat.reduceEqDiff, ↓reduceIte, and_true, true_and, eq_self] <;> and_intros <;> rfl⟩)
 ·skip
  refine a_two 0 2 (Lst 31 [0]) (Lst 31 [2]) (by kernel_rfl) (by kernel_rfl) (by kernel_rfl) ?_ ?_
  ·skip
   refine st_p rfl rfl (p_loadp ty_29 ?_)
   refine a_two 1 2 (Lst 31 [0, 1]) (Lst 31 [0, 2]) (by kernel_rfl) (by kernel_rfl) (by kernel_rfl) ?_ ?_
   ·skip
    refine st_p rfl rfl (p_callr en_41 (starA_walk) ?_)
    refine a_one 2 (Lst 31 [0, 1, 2]) (by kernel_rfl) (by kernel_rfl) (st_p rfl rfl (p_buildSlice sl_22 ze_5 fun s8 => ?_))
    refine a_one 3 (Lst 31 [0, 1, 2, 3]) (by kernel_rfl) (by kernel_rfl) (st_p rfl rfl (p_convBytes sl_22 in_5 ?_))
    exact ph4 _ _ (⟨rfl, by simp only [Knows, put, upd_apply, Nat.reduceEqDiff, ↓reduceIte, and_true, true_and, eq_self] <;> and_intros <;> rfl⟩)
   ·skip
    refine st_p rfl rfl (p_buildSlice sl_22 ze_5 fun s8 => ?_)
    refine a_two 1 3 (Lst 31 [0, 1, 2]) (Lst 31 [0, 2, 3]) (by kernel_rfl) (by kernel_rfl) (by kernel_rfl) ?_ ?_
    ·skip
     refine st_p rfl rfl (p_callr en_41 (starA_walk) ?_)
     refine a_one 3 (Lst 31 [0, 1, 2, 3]) (by kernel_rfl) (by kernel_rfl) (st_p rfl rfl (p_convBytes sl_22 in_5 ?_))
     exact ph4 _ _ (⟨rfl, by simp only [Knows, put, upd_apply, Nat.reduceEqDiff, ↓reduceIte, and_true, true_and, eq_self] <;> and_intros <;> rfl⟩)
    ·skip
     refine st_p rfl rfl (p_convBytes sl_22 in_5 ?_)
     refine a_one 1 (Lst 31 [0, 1, 2, 3]) (by kernel_rfl) (by kernel_rfl) (st_p rfl rfl (p_callr en_41 (starA_walk) ?_))
     exact ph4 _ _ (⟨rfl, by simp only [Knows, put, upd_apply, Nat.reduceEqDiff, ↓reduceIte, and_true, true_and, eq_self] <;> and_intros <;> rfl⟩)
  ·skip
   refine st_p rfl rfl (p_buildSlice sl_22 ze_5 fun s8 => ?_)
   refine a_two 0 3 (Lst 31 [0, 2]) (Lst 31 [2, 3]) (by kernel_rfl) (by kernel_rfl) (by kernel_rfl) ?_ ?_
   ·skip
    refine st_p rfl rfl (p_loadp ty_29 ?_)
    refine a_two 1 3 (Lst 31 [0, 1, 2]) (Lst 31 [0, 2, 3]) (by kernel_rfl) (by kernel_rfl) (by kernel_rfl) ?_ ?_
    ·skip
     refine st_p rfl rfl (p_callr en_41 (starA_walk) ?_)
     refine a_one 3 (Lst 31 [0, 1, 2, 3]) (by kernel_rfl) (by kernel_rfl) (st_p rfl rfl (p_convBytes sl_22 in_5 ?_))
     exact ph4 _ _ (⟨rfl, by simp only [Knows, put, upd_apply, Nat.reduceEqDiff, ↓reduceIte, and_true, true_and, eq_self] <;> and_intros <;> rfl⟩)
    ·skip
     refine st_p rfl rfl (p_convBytes sl_22 in_5 ?_)
     refine a_one 1 (Lst 31 [0, 1, 2, 3]) (by kernel_rfl) (by kernel_rfl) (st_p rfl rfl (p_callr en_41 (starA_walk) ?_))
     exact ph4 _ _ (⟨rfl, by simp only [Knows, put, upd_apply, Nat.reduceEqDiff, ↓reduceIte, and_true, true_and, eq_self] <;> and_intros <;> rfl⟩)
   ·skip
    refine st_p rfl rfl (p_convBytes sl_22 in_5 ?_)
    refine a_one 0 (Lst 31 [0, 2, 3]) (by kernel_rfl) (by kernel_rfl) (st_p rfl rfl (p_loadp ty_29 ?_))
    refine a_one 1 (Lst 31 [0, 1, 2, 3]) (by kernel_rfl) (by kernel_rfl) (st_p rfl rfl (p_callr en_41 (starA_walk) ?_))
    exact ph4 _ _ (⟨rfl, by simp only [Knows, put, upd_apply, Nat.reduceEqDiff, ↓reduceIte, and_true, true_and, eq_self] <;> and_intros <;> rfl⟩)
end Go.Proofs.YtfdgbghlanbddaaDoor.Av
set_option linter.unusedVariables false
set_option linter.unusedSimpArgs false
namespace Go.Proofs.YtfdgbghlanbddaaDoor.Av
/-! ### the same of the words themselves -/
end Go.Proofs.YtfdgbghlanbddaaDoor.Av
set_option linter.unusedVariables false
set_option linter.unusedSimpArgs false
set_option maxRecDepth 8000
namespace Go.Proofs.YtfdgbghlanbddaaDoor.Av
open Go.RowKit Go.Proofs
theorem in_suf {w0 : World} {es : List Ent} (r : Rx) (w : List Int) (ho : r.ok) (hw : bytesOk w) (hl : w.length ≤ 1000) (k : Nat) : ACalls Tryd.prog w0 58 [.agg r.cells, .list 1 (((w.map fun n => [AV.int .u8 n]).take (w.map fun n => [AV.int .u8 n]).length).drop k)] es fun v es' => v = .bool (inR r (w.drop k)) ∧ es' = es := by
 rw [List.take_length, ← List.map_drop]
 exact In_walk r (w.drop k) ho (fun b hb => hw b (List.mem_of_mem_drop hb)) (by rw [List.length_drop]; omega)
end Go.Proofs.YtfdgbghlanbddaaDoor.Av
set_option linter.unusedVariables false
set_option linter.unusedSimpArgs false
namespace Go.Proofs.YtfdgbghlanbddaaDoor.Av
/-! ### what the constructors make is plain -/
theorem plain_none : noneR.plain = true := by simp [noneR, Rx.plain, Rx.plainL, right]
theorem plain_empty : emptyR.plain = true := by simp [emptyR, Rx.plain, Rx.plainL, right]
theorem plain_mkset {s : W4} (h : s ≠ noSet) : (Rx.mk 3 s []).plain = true := by simp [Rx.plain, Rx.plainL, right, h]
theorem plain_bytes (s : W4) : (bytesR s).plain = true := by
 unfold bytesR
 split
 ·exact plain_none
 ·rename_i h; exact plain_mkset h
theorem catOf_plain {l : List Rx} (h : ∀ a ∈ l, a.plain = true ∧ a.kind ∉ [(4 : Int), 1, 2]) : (catOf l).plain = true := by
 match l, h with
 | [], _ => exact plain_empty
 | [x], h => exact (h x (by simp)).1
 | x :: y :: t, h =>
  rw [catOf, Rx.plain, Bool.and_eq_true, Rx.plainL_iff]
  refine ⟨?_, fun a ha => (h a ha).1⟩
  have hn : notIn [4, 1, 2] (x :: y :: t) = true := notIn_iff.2 fun a ha => (h a ha).2
  unfold right
  rw [hn]
  simp
theorem altOf_plain {l : List Rx} (h : ∀ a ∈ l, a.plain = true ∧ a.kind ∉ [(5 : Int), 1]) (hc : chainR l = true) (hs : setsR l ≤ 1) : (altOf l).plain = true := by
 match l, h, hc, hs with
 | [], _, _, _ => exact plain_none
 | [x], h, _, _ => exact (h x (by simp)).1
 | x :: y :: t, h, hc, hs =>
  rw [altOf, Rx.plain, Bool.and_eq_true, Rx.plainL_iff]
  refine ⟨?_, fun a ha => (h a ha).1⟩
  have hn : notIn [5, 1] (x :: y :: t) = true := notIn_iff.2 fun a ha => (h a ha).2
  unfold right
  rw [hn, hc]
  simp
  exact hs
theorem flat4_plain {l : List Rx} (h : Rx.plainL l = true) : ∀ x ∈ flatR 4 l, x.plain = true ∧ x.kind ≠ 4 := by
 rw [Rx.plainL_iff] at h
 intro x hx
 rcases flat_mem hx with ⟨h1, h2⟩ | ⟨r, h1, h2, h3⟩
 ·exact ⟨h x h1, h2⟩
 ·refine ⟨plain_args (h r h1) x h3, fun e => (plain_cat (h r h1) h2).2 x h3 ?_⟩
  simp [e]
theorem flat5_plain {l : List Rx} (h : Rx.plainL l = true) : ∀ x ∈ flatR 5 l, x.plain = true ∧ x.kind ≠ 5 := by
 rw [Rx.plainL_iff] at h
 intro x hx
 rcases flat_mem hx with ⟨h1, h2⟩ | ⟨r, h1, h2, h3⟩
 ·exact ⟨h x h1, h2⟩
 ·refine ⟨plain_args (h r h1) x h3, fun e => (plain_alt (h r h1) h2).2.1 x h3 ?_⟩
  simp [e]
theorem catR_plain {l : List Rx} (h : Rx.plainL l = true) : (catR l).plain = true := by
 unfold catR
 split
 ·exact plain_none
 ·rename_i hn
  refine catOf_plain fun a ha => ?_
  obtain ⟨h1, h2⟩ := List.mem_filter.1 ha
  obtain ⟨h3, h4⟩ := flat4_plain h a h1
  refine ⟨h3, ?_⟩
  have h5 : a.kind ≠ 1 := fun e => hn (List.any_eq_true.2 ⟨a, h1, by simp [e]⟩)
  simp only [decide_eq_true_eq] at h2
  simp [h2, h4, h5]
theorem altR_plain {l : List Rx} (ht : Rx.tidyL l) (h : Rx.plainL l = true) : (altR l).plain = true := by
 have hf := flat_tidy (k := 5) ht
 obtain ⟨o1, o2, o3⟩ := altOuts_props (o := []) hf (by simp [Rx.tidyL]) (by simp [SortedR])
 obtain ⟨p1, p2, p3⟩ := altFin_props o1 o2 (altSet_ok noSet_ok (tidy_set' hf))
 unfold altR
 refine altOf_plain (fun a ha => ?_) ((chain_sorted p1).2 p2) ?_
 ·rcases (p3 a).1 ha with ha | ⟨h1, rfl⟩
  ·rcases (o3 a).1 ha with ha | ⟨ha, h1, h3⟩
   ·simp at ha
   ·obtain ⟨h4, h5⟩ := flat5_plain h a ha
    exact ⟨h4, by simp [h1, h5]⟩
  ·exact ⟨plain_mkset h1, by simp [Rx.kind]⟩
 ·have h0 : setsR (altOuts [] (flatR 5 l)) = 0 := sets_zero fun x hx => by
   rcases (o3 x).1 hx with hx | ⟨_, _, h3⟩
   ·simp at hx
   ·exact h3
  unfold altFin
  split
  ·omega
  ·have := insR_sets (altOuts [] (flatR 5 l)) (.mk 3 (altSet noSet (flatR 5 l)) [])
   omega
theorem starN_plain : ∀ (n : Nat) {r : Rx}, r.tidy → r.plain = true → (starN n r).plain = true
 | 0, r, _, h => h
 | n + 1, r, ht, h => by
  simp only [starN]
  split
  ·exact h
  ·split
   ·exact plain_empty
   ·split
    ·have h1 : Rx.tidyL (catOuts r.args) := filter_tidy (tidy_args ht)
     exact starN_plain n (altR_tidy h1) (altR_plain h1 ((Rx.plainL_iff _).2 fun a ha => plain_args h a (catOuts_mem ha)))
    ·rename_i h6 h12 _
     rw [Rx.plain, Bool.and_eq_true, Rx.plainL_iff]
     refine ⟨?_, fun a ha => by simp at ha; exact ha ▸ h⟩
     have hn : notIn [6, 1, 2] [r] = true := notIn_iff.2 fun a ha => by
      simp at ha
      subst ha
      simp only [not_or] at h12
      simp [h6, h12]
     unfold right
     rw [hn]
     simp
theorem starR_plain {r : Rx} (ht : r.tidy) (h : r.plain = true) : (starR r).plain = true := starN_plain 2000 ht h
theorem pLeaf_plain (k : Int) (q : List Int) : (pLeaf k q).1.plain = true := by
 unfold pLeaf
 split
 ·exact plain_bytes _
 ·dsimp only
  split
  ·exact plain_none
  ·exact plain_empty
theorem pRx_plain : ∀ (f : Nat) {q : List Int}, bytesOk q → (pRx f q).1.plain = true
 | 0, q, hq => pLeaf_plain _ _
 | f + 1, q, hq => by
  have a1 := pRx_plain f hq.tail
  have a2 := pRx_plain f (pRx_ok f hq.tail).2.1
  have t1 := pRx_tidy f hq.tail
  have t2 := pRx_tidy f (pRx_ok f hq.tail).2.1
  have hl : Rx.plainL [(pRx f q.tail).1, (pRx f (pRx f q.tail).2).1] = true := by simp [Rx.plainL, a1, a2]
  have htl : Rx.tidyL [(pRx f q.tail).1, (pRx f (pRx f q.tail).2).1] := ⟨t1, t2, trivial⟩
  simp only [pRx]
  split
  ·exact pLeaf_plain _ _
  ·split
   ·exact catR_plain hl
   ·split
    ·exact altR_plain htl hl
    ·have h8 := starR_plain t1 a1
     dsimp only
     generalize starR (pRx f q.tail).1 = z at h8 ⊢
     exact h8
/-! ### the empty word -/
mutual
theorem null_lang : ∀ r : Rx, r.null = true ↔ r.lang []
 | .mk k s l => by
  have ha := nullA_lang l
  have he := nullE_lang l
  rw [Rx.null, Rx.lang]
  by_cases h2 : k = 2
  ·simp [h2]
  ·by_cases h6 : k = 6
   ·simp [h6, Star.nil]
   ·by_cases h4 : k = 4
    ·simp [h4, ha]
    ·by_cases h5 : k = 5
     ·simp [h5, he]
     ·simp [h2, h6, h4, h5]
theorem nullA_lang : ∀ l : List Rx, Rx.nullA l = true ↔ Rx.langCat l []
 | [] => by rw [Rx.nullA, langCat_nil]; simp
 | a :: t => by
  rw [Rx.nullA, Bool.and_eq_true, null_lang a, nullA_lang t, langCat_cons]
  constructor
  ·rintro ⟨h1, h2⟩; exact ⟨[], [], rfl, h1, h2⟩
  ·rintro ⟨u, v, h, h1, h2⟩
   obtain ⟨rfl, rfl⟩ := List.append_eq_nil_iff.1 h.symm
   exact ⟨h1, h2⟩
theorem nullE_lang : ∀ l : List Rx, Rx.nullE l = true ↔ Rx.langAlt l []
 | [] => by rw [Rx.nullE]; simp [langAlt_nil]
 | a :: t => by rw [Rx.nullE, Bool.or_eq_true, null_lang a, nullE_lang t, langAlt_cons]
end
/-! ### a plain one that is not none speaks -/
mutual
theorem some_plain : ∀ r : Rx, r.plain = true → r.kind ≠ 1 → r.some = true
 | .mk k s l, h, hk => by
  have hr := plain_right h
  have hp : Rx.plainL l = true := (Rx.plainL_iff _).2 (plain_args h)
  have hkk := right_kinds hr
  simp only [Rx.kind, Rx.set, Rx.args] at hr hk hkk
  rw [Rx.some]
  by_cases h26 : k = 2 ∨ k = 6
  ·rw [if_pos h26]
  ·rw [if_neg h26]
   by_cases h3 : k = 3
   ·rw [if_pos h3]
    have := (plain_setR h h3).2
    simp only [Rx.set] at this
    simp [this]
   ·rw [if_neg h3]
    by_cases h4 : k = 4
    ·rw [if_pos h4]
     exact someA_plain l hp fun a ha e => (plain_cat h h4).2 a ha (by simp [e])
    ·rw [if_neg h4, if_pos (by omega)]
     have := plain_alt h (show (Rx.mk k s l).kind = 5 by show k = 5; omega)
     simp only [Rx.args] at this
     exact someE_plain l hp (fun a ha e => this.2.1 a ha (by simp [e])) (by intro e; rw [e] at this; simp at this)
theorem someA_plain : ∀ l : List Rx, Rx.plainL l = true → (∀ a ∈ l, a.kind ≠ 1) → Rx.someA l = true
 | [], _, _ => rfl
 | a :: t, h, hk => by
  simp only [Rx.plainL, Bool.and_eq_true] at h
  rw [Rx.someA, some_plain a h.1 (hk a (by simp)), someA_plain t h.2 fun x hx => hk x (by simp [hx])]
  rfl
theorem someE_plain : ∀ l : List Rx, Rx.plainL l = true → (∀ a ∈ l, a.kind ≠ 1) → l ≠ [] → Rx.someE l = true
 | [], _, _, hne => absurd rfl hne
 | a :: t, h, hk, _ => by
  simp only [Rx.plainL, Bool.and_eq_true] at h
  rw [Rx.someE, some_plain a h.1 (hk a (by simp))]
  rfl
end
end Go.Proofs.YtfdgbghlanbddaaDoor.Av
set_option linter.unusedVariables false
set_option linter.unusedSimpArgs false
namespace Go.Proofs.YtfdgbghlanbddaaDoor.Av
open Go.RowKit
theorem setAt_self : ∀ {es : List Ent} {id : Nat} {x : Ent}, at_ es id = some x → setAt es id x = es
 | [], _, _, h => by simp [at_] at h
 | y :: t, id, x, h => by
  simp only [at_] at h
  simp only [setAt]
  split
  ·rename_i e
   rw [if_pos e] at h
   injection h with h
   rw [h]
  ·rename_i e
   rw [if_neg e] at h
   rw [setAt_self h]
section
variable {P : Program} {w0 : World} {N : Nat} {f : Frame} {es : List Ent} {K : Frame → List Ent → Prop}
variable {d : Nat} {ty : TypeId} {pos : String} {aft : Array Edge} {g : Option (Nat × Bool)} {x y z : Operand} {a : AV}
/-! ### the tail of a row of one's own -/
/-- s[k:] -/
theorem o_slice_tail {t e sz id s k : Nat} {lo : Option Operand} {rows : List (List AV)} {C : Ent → List Ent} (hx : ev f x = .own id s) (he : Loc es id (.row s e sz rows) C) (ht : sliceB P t e sz = true) (hlo : Bnd f lo 0 k) (hk : k ≤ rows.length)
  (kk : K (upd f d (.tail id s k sz)) es) (hd : Nat.blt d N = true := by rfl) : AOp P w0 N ⟨some d, .slice t x lo none none, ty, pos, aft, g⟩ f es K := by
 refine op_look hd (fun c A ok rf => ?_) kk
 have hrep := hx ▸ rep_ev rf x
 have hvx := rep_own hrep he.1
 have hlt := (ok.ent id _ he.1).1
 obtain ⟨B, cap, hvs, hcap⟩ := own_slice ok he.1 hrep
 have hhi : Bnd f (none : Option Operand) rows.length rows.length := rfl
 have hbd := run_sliceBounds (P := P) rf hlo hhi hk hcap true c.w
 simp only [Option.map_none] at hbd
 unfold sliceB at ht
 split at ht
 ·rename_i e' i' hu hi'
  simp only [Bool.and_eq_true, beq_iff_eq] at ht
  obtain ⟨rfl, rfl⟩ := ht
  refine ⟨.slice (if cap = k then B else B.map (·.add (k * i'.size))) (rows.length - k) (cap - k), ?_, ?_⟩
  ·simp only [execOp, hvs, Instr.sliceAt, Instr.slice, Sem.run_bind, run_underlying hu, Result.andThen_ok, Option.map_none, hbd, sizeOf, typeInfo, run_program, hi', Sem.run_pure]
  ·simp only [Rep]
   refine ⟨es, rfl, ⟨_, _, _, rfl⟩, hlt, fun e2 rows2 h2 => ?_⟩
   rw [he.1] at h2
   injection h2 with h2
   injection h2 with _ _ _ h3
   subst h3
   refine ⟨hk, _, _, rfl, fun hkl => ?_⟩
   rw [hvx] at hvs
   cases hp : c.phi id with
   | none =>
    obtain ⟨_, _, _, xs, hr, hown⟩ := ok.ent id _ he.1
    rw [hp] at hown
    rcases hown.2 with ⟨_, h6⟩ | ⟨_, _, _, h6, _⟩
    ·omega
    ·cases h6
   | some q =>
    obtain ⟨gb, cap'⟩ := q
    rw [hp] at hvs
    simp only [ownVal, Value.slice.injEq] at hvs
    obtain ⟨rfl, _, rfl⟩ := hvs
    refine ⟨gb, cap', rfl, ?_⟩
    rw [if_neg (by omega)]
    simp [add_eq]
 ·cases ht
theorem rep_tail {c : Core} {id s e sz k : Nat} {rows : List (List AV)} {v : Value} (h : Rep c (some es) (.tail id s k sz) v) (he : at_ es id = some (.row s e sz rows)) :
  k ≤ rows.length ∧ ∃ A cp, v = .slice A (rows.length - k) cp ∧ (k < rows.length → ∃ g cap, c.phi id = some (g, cap) ∧ A = some ⟨g, k * sz, none⟩) := by
 simp only [Rep] at h
 obtain ⟨es', h1, _, _, h2⟩ := h
 injection h1 with h1
 subst h1
 exact h2 _ _ he
theorem o_len_tail {t e' sz' id s e sz k : Nat} {rows : List (List AV)} {C : Ent → List Ent} (hx : ev f x = .tail id s k sz) (he : Loc es id (.row s e sz rows) C) (ht : sliceB P t e' sz' = true) (ha : .int .i64 ((rows.length - k : Nat) : Int) = a) (kk : K (upd f d a) es) (hd : Nat.blt d N = true := by rfl) :
  AOp P w0 N ⟨some d, .call { callee := .builtin .len, args := #[x], argTypes := #[t] }, ty, pos, aft, g⟩ f es K := by
 refine op_look hd (fun c A ok rf => ?_) kk
 have h := rep_ev rf x
 rw [hx] at h
 obtain ⟨_, B, cap, hv, _⟩ := rep_tail h he.1
 refine ⟨.int .i64 ((rows.length - k : Nat) : Int), ?_, by rw [← ha]; simp only [Rep]⟩
 simp [execOp, resolve, invoke, builtin, hv, run_len_slice ht]
theorem o_indexAddr_tail {t : TypeId} {e sz id s k : Nat} {rows : List (List AV)} {C : Ent → List Ent} {k' : IntKind} {ix : Int} (hx : ev f x = .tail id s k sz) (hy : ev f y = .int k' ix) (he : Loc es id (.row s e sz rows) C) (ht : sliceB P t e sz = true) (h0 : 0 ≤ ix) (h1 : k + ix.toNat < rows.length)
  (ho : .ptr id s (k + ix.toNat) 0 = a) (kk : K (upd f d a) es) (hd : Nat.blt d N = true := by rfl) : AOp P w0 N ⟨some d, .indexAddr t x y, ty, pos, aft, g⟩ f es K := by
 refine op_look hd (fun c A ok rf => ?_) kk
 have h := rep_ev rf x
 rw [hx] at h
 have hiy := ev_int rf hy
 obtain ⟨_, B, cp, hv, hB⟩ := rep_tail h he.1
 have hlt := (ok.ent id _ he.1).1
 obtain ⟨gb, cap, hp, hB⟩ := hB (by omega)
 subst hB
 have h2 : ix < ((rows.length - k : Nat) : Int) := by omega
 unfold sliceB at ht
 split at ht
 ·rename_i e' i' hu hi
  simp only [Bool.and_eq_true, beq_iff_eq] at ht
  obtain ⟨rfl, rfl⟩ := ht
  refine ⟨.pointer (some ⟨gb, k * i'.size + (ix.toNat * i'.size), none⟩), ?_, ?_⟩
  ·simp only [execOp, hv, hiy, Instr.indexAt, asIntOf, Sem.run_bind, Sem.run_pure, Result.andThen_ok, run_underlying hu, Sem.run_ite, h0, h2, and_self, if_true, sizeOf, typeInfo, run_program, hi, add_eq]
  ·rw [← ho]
   simp only [Rep]
   refine ⟨es, rfl, ⟨_, rfl⟩, hlt, fun e2 sz2 rows2 h2 => ?_⟩
   rw [he.1] at h2
   injection h2 with h2
   injection h2 with _ _ h3 _
   subst h3
   exact ⟨gb, cap, hp, by rw [Nat.add_mul, Nat.add_zero]⟩
 ·cases ht
/-- clear(s[k:]) -/
theorem o_clear_tail {t e sz id s k : Nat} {rows : List (List AV)} {zl : List AV} {C : Ent → List Ent} (hx : ev f x = .tail id s k sz) (he : Loc es id (.row s e sz rows) C) (ht : sliceB P t e sz = true) (hz : zeroAVs P e = some zl) (hzl : zl.length = sz) (hsz : 0 < sz)
  (kk : K f (C (.row s e sz (rows.take k ++ List.replicate (rows.length - k) zl)))) : AOp P w0 N ⟨none, .call { callee := .builtin .clear, args := #[x], argTypes := #[t] }, ty, pos, aft, g⟩ f es K := by
 intro c A next Q ok rf hn
 have h := rep_ev rf x
 rw [hx] at h
 obtain ⟨hk, B, cp, hv, hB⟩ := rep_tail h he.1
 obtain ⟨zv, hrun, hzv, hone⟩ := zero_run hz c.w
 have hcs : zv.cells.size = sz := by rw [← Array.length_toList, ← hzl, ← hzv, List.length_map]
 have hreps : Reps c (some es) zl zv.cells.toList := hzv ▸ reps_const c _ _
 have fin : ∀ c' es', (execOp A.eval ⟨none, .call { callee := .builtin .clear, args := #[x], argTypes := #[t] }, ty, pos, aft, g⟩).run P c.w = .ok (.value (.tuple #[])) c'.w → Ext c es c' es' → Ok w0 c' es' → K f es' → Oper.wp P ⟨none, .call { callee := .builtin .clear, args := #[x], argTypes := #[t] }, ty, pos, aft, g⟩ A c.w next Q := by
  intro c' es' hr x1 ok' k1
  simp only [Oper.wp, hr, Oper.upon]
  exact hn c' es' f _ x1 ok' (rf.ext x1) k1
 unfold sliceB at ht
 split at ht
 ·rename_i e' i' hu hi
  simp only [Bool.and_eq_true, beq_iff_eq] at ht
  obtain ⟨rfl, hi1⟩ := ht
  by_cases h0 : rows.length - k = 0
  ·refine fin c es ?_ (Ext.refl c es) ok ?_
   ·rw [h0] at hv
    cases B with
    | none => simp [execOp, resolve, invoke, builtin, hv, Builtin.clear_, run_underlying hu]
    | some p => simp [execOp, resolve, invoke, builtin, hv, Builtin.clear_, run_underlying hu]
   ·rw [h0, List.replicate_zero, List.append_nil, List.take_of_length_le (by omega)] at kk
    rwa [← he.2, show setAt es id (.row s e' sz rows) = es from setAt_self he.1] at kk
  ·obtain ⟨gb, cap, hp, hB⟩ := hB (by omega)
   subst hB
   obtain ⟨xs, cur, h4, hheap, hcap, hcm, hsz2, htake, h5⟩ := own_cells ok he.1 hp
   have hxl := h4.length
   have hcl : cur.toList.length = cap * sz := by rw [Array.length_toList, hsz2]
   have hzc : (Builtin.zeroCells zv.cells (rows.length - k)).toList = (List.replicate (rows.length - k) zv.cells.toList).flatten := zeros_list zv.cells (by omega) _
   have hfl : ∀ n : Nat, ((List.replicate n zv.cells.toList).flatten).length = n * sz := by
    intro n
    induction n with
    | zero => simp
    | succ n ih => rw [List.replicate_succ, List.flatten_cons, List.length_append, ih, Array.length_toList, hcs, Nat.succ_mul]; omega
   have hzl2 := hfl (rows.length - k)
   have hmul : k * sz + (rows.length - k) * sz = rows.length * sz := by rw [← Nat.add_mul]; congr 1; omega
   have hle : rows.length * sz ≤ cap * sz := Nat.mul_le_mul_right _ hcap
   have hst := run_storeCells_at P gb (k * sz) e' ((List.replicate (rows.length - k) zv.cells.toList).flatten) 0 cur c.w hheap (by rw [hzl2, Nat.add_zero, hmul, hsz2]; exact hle) (by
    intro v hv
    obtain ⟨l, hl, hv⟩ := List.mem_flatten.1 hv
    rw [List.eq_of_mem_replicate hl] at hv
    exact hone v hv)
   simp only [Nat.add_zero] at hst
   have hgr : c.w.grownBy (c.w.setRow gb (cur.toList.take (k * sz) ++ (List.replicate (rows.length - k) zv.cells.toList).flatten ++ cur.toList.drop (k * sz + ((List.replicate (rows.length - k) zv.cells.toList).flatten).length)).toArray) (ownVal (c.phi id) rows.length).ownBlock := by
    rw [hp]
    exact ⟨rfl, rfl, rfl, by simp, fun k _ hk => setRow_other c.w gb k _ (fun e => hk (by rw [own_block_some, e]))⟩
   have hrl : (rows.take k ++ List.replicate (rows.length - k) zl).length = rows.length := by rw [List.length_append, List.length_take, List.length_replicate]; omega
   have hrows : RepRows c (some es) sz (rows.take k ++ List.replicate (rows.length - k) zl) (xs.take (k * sz) ++ (List.replicate (rows.length - k) zv.cells.toList).flatten) := by
    refine (h4.take k).append ?_
    rw [← hzl]
    exact rep_zrows hreps hone _
   have hcurx : cur.toList.take (k * sz) = xs.take (k * sz) := by
    rw [← htake, List.take_take, Nat.min_eq_left (Nat.mul_le_mul_right _ hk)]
   have hown : (c.w.setRow gb (cur.toList.take (k * sz) ++ (List.replicate (rows.length - k) zv.cells.toList).flatten ++ cur.toList.drop (k * sz + ((List.replicate (rows.length - k) zv.cells.toList).flatten).length)).toArray).ownsRow 0 e' sz (ownVal (some (gb, cap)) (rows.take k ++ List.replicate (rows.length - k) zl).length) (rows.take k ++ List.replicate (rows.length - k) zl).length (xs.take (k * sz) ++ (List.replicate (rows.length - k) zv.cells.toList).flatten) :=
    ⟨by rw [hrows.length], .inr ⟨gb, cap, _, rfl, Nat.zero_le _, setRow_heap c.w gb cur _ e' _ hheap, by rw [hrl]; exact hcap, hcm, by
     simp only [List.size_toArray, List.length_append, List.length_take, List.length_drop, hzl2]
     rw [hcl]
     have : k * sz ≤ rows.length * sz := Nat.mul_le_mul_right _ hk
     omega, by
     rw [hrl, hcurx]
     refine List.take_left' ?_
     rw [List.length_append, List.length_take, hzl2, hxl]
     have : k * sz ≤ rows.length * sz := Nat.mul_le_mul_right _ hk
     omega⟩⟩
   have hm := (ok.ent id _ he.1).2.1
   refine fin (c.turn _ id (some (gb, cap))) (setAt es id (.row s e' sz (rows.take k ++ List.replicate (rows.length - k) zl))) ?_ (ext_turn ok he.1 hgr (.inr ⟨rfl, hrl, hp.symm⟩)) (ok_turn ok he.1 hgr (.inr ⟨rfl, hrl, hp.symm⟩) (.inl (by rw [hp]; rfl)) (by rw [hrl]; exact hm) hrows hown) (by rw [he.2]; exact kk)
   show (execOp A.eval _).run P c.w = .ok _ (c.w.setRow gb _)
   obtain ⟨q, hq⟩ : ∃ q, rows.length - k = q + 1 := ⟨rows.length - k - 1, by omega⟩
   rw [hq] at hv hzc hst ⊢
   simp [execOp, resolve, invoke, builtin, hv, Builtin.clear_, run_underlying hu, hrun, hzc, hst]
 ·cases ht
end
end Go.Proofs.YtfdgbghlanbddaaDoor.Av
set_option linter.unusedVariables false
set_option linter.unusedSimpArgs false
namespace Go.Proofs.YtfdgbghlanbddaaDoor.Av
open Go.RowKit
section
variable {P : Program} {w0 : World} {N : Nat} {f : Frame} {es : List Ent} {K : Frame → List Ent → Prop}
variable {d : Nat} {ty : TypeId} {pos : String} {aft : Array Edge} {g : Option (Nat × Bool)} {x y z : Operand} {a : AV}
theorem p_slicet {t e sz id s k : Nat} {lo : Option Operand} {rows : List (List AV)} {C : Ent → List Ent} (ht : sliceB P t e sz = true) (kk : K (upd f d (.tail id s k sz)) es) (hx : ev f x = .own id s := by simp only [ev_tmp, ev_const, ev_func, ofConst_int, ofConst_bool, ofConst_str, ofConst_nil, upd_apply, Nat.reduceEqDiff, ↓reduceIte] <;> exact rfl) (he : Loc es id (.row s e sz rows) C := by first | exact loc_hit | exact (loc_miss loc_hit) | exact (loc_miss (loc_miss loc_hit)) | exact (loc_miss (loc_miss (loc_miss loc_hit))) | exact (loc_miss (loc_miss (loc_miss (loc_miss loc_hit)))) | exact (loc_miss (loc_miss (loc_miss (loc_miss (loc_miss loc_hit))))) | exact (loc_miss (loc_miss (loc_miss (loc_miss (loc_miss (loc_miss loc_hit)))))) | exact (loc_miss (loc_miss (loc_miss (loc_miss (loc_miss (loc_miss (loc_miss loc_hit))))))) | exact (loc_miss (loc_miss (loc_miss (loc_miss (loc_miss (loc_miss (loc_miss (loc_miss loc_hit)))))))) | exact (loc_base (by assumption)) | exact (loc_miss (loc_base (by assumption))) | exact (loc_miss (loc_miss (loc_base (by assumption)))) | exact (loc_miss (loc_miss (loc_miss (loc_base (by assumption))))) | exact (loc_miss (loc_miss (loc_miss (loc_miss (loc_base (by assumption)))))) | exact (loc_miss (loc_miss (loc_miss (loc_miss (loc_miss (loc_base (by assumption))))))) | exact (loc_miss (loc_miss (loc_miss (loc_miss (loc_miss (loc_miss (loc_base (by assumption)))))))) | exact (loc_miss (loc_miss (loc_miss (loc_miss (loc_miss (loc_miss (loc_miss (loc_base (by assumption))))))))) | exact (loc_miss (loc_miss (loc_miss (loc_miss (loc_miss (loc_miss (loc_miss (loc_miss (loc_base (by assumption))))))))))) (hlo : Bnd f lo 0 k := by first | exact rfl | (refine ⟨.i64, ?_⟩; simp only [ev_tmp, ev_const, ev_func, ofConst_int, ofConst_bool, ofConst_str, ofConst_nil, upd_apply, Nat.reduceEqDiff, ↓reduceIte] <;> first | exact rfl | (congr 1; omega))) (hk : k ≤ rows.length := by first | omega | (simp only [List.length_map]; omega)) (hd : Nat.blt d N = true := by exact rfl) : AOp P w0 N ⟨some d, .slice t x lo none none, ty, pos, aft, g⟩ f es K := o_slice_tail hx he ht hlo hk kk hd
theorem p_lent {t e' sz' id s e sz k : Nat} {rows : List (List AV)} {C : Ent → List Ent} (ht : sliceB P t e' sz' = true) (kk : K (upd f d a) es) (hx : ev f x = .tail id s k sz := by simp only [ev_tmp, ev_const, ev_func, ofConst_int, ofConst_bool, ofConst_str, ofConst_nil, upd_apply, Nat.reduceEqDiff, ↓reduceIte] <;> exact rfl) (he : Loc es id (.row s e sz rows) C := by first | exact loc_hit | exact (loc_miss loc_hit) | exact (loc_miss (loc_miss loc_hit)) | exact (loc_miss (loc_miss (loc_miss loc_hit))) | exact (loc_miss (loc_miss (loc_miss (loc_miss loc_hit)))) | exact (loc_miss (loc_miss (loc_miss (loc_miss (loc_miss loc_hit))))) | exact (loc_miss (loc_miss (loc_miss (loc_miss (loc_miss (loc_miss loc_hit)))))) | exact (loc_miss (loc_miss (loc_miss (loc_miss (loc_miss (loc_miss (loc_miss loc_hit))))))) | exact (loc_miss (loc_miss (loc_miss (loc_miss (loc_miss (loc_miss (loc_miss (loc_miss loc_hit)))))))) | exact (loc_base (by assumption)) | exact (loc_miss (loc_base (by assumption))) | exact (loc_miss (loc_miss (loc_base (by assumption)))) | exact (loc_miss (loc_miss (loc_miss (loc_base (by assumption))))) | exact (loc_miss (loc_miss (loc_miss (loc_miss (loc_base (by assumption)))))) | exact (loc_miss (loc_miss (loc_miss (loc_miss (loc_miss (loc_base (by assumption))))))) | exact (loc_miss (loc_miss (loc_miss (loc_miss (loc_miss (loc_miss (loc_base (by assumption)))))))) | exact (loc_miss (loc_miss (loc_miss (loc_miss (loc_miss (loc_miss (loc_miss (loc_base (by assumption))))))))) | exact (loc_miss (loc_miss (loc_miss (loc_miss (loc_miss (loc_miss (loc_miss (loc_miss (loc_base (by assumption))))))))))) (ha : .int .i64 ((rows.length - k : Nat) : Int) = a := by exact rfl) (hd : Nat.blt d N = true := by exact rfl) : AOp P w0 N ⟨some d, .call { callee := .builtin .len, args := #[x], argTypes := #[t] }, ty, pos, aft, g⟩ f es K := o_len_tail hx he ht ha kk hd
theorem p_ixt {t : TypeId} {e sz id s k : Nat} {rows : List (List AV)} {C : Ent → List Ent} {k' : IntKind} {ix : Int} (ht : sliceB P t e sz = true) (kk : K (upd f d a) es) (hx : ev f x = .tail id s k sz := by simp only [ev_tmp, ev_const, ev_func, ofConst_int, ofConst_bool, ofConst_str, ofConst_nil, upd_apply, Nat.reduceEqDiff, ↓reduceIte] <;> exact rfl) (hy : ev f y = .int k' ix := by simp only [ev_tmp, ev_const, ev_func, ofConst_int, ofConst_bool, ofConst_str, ofConst_nil, upd_apply, Nat.reduceEqDiff, ↓reduceIte] <;> exact rfl) (he : Loc es id (.row s e sz rows) C := by first | exact loc_hit | exact (loc_miss loc_hit) | exact (loc_miss (loc_miss loc_hit)) | exact (loc_miss (loc_miss (loc_miss loc_hit))) | exact (loc_miss (loc_miss (loc_miss (loc_miss loc_hit)))) | exact (loc_miss (loc_miss (loc_miss (loc_miss (loc_miss loc_hit))))) | exact (loc_miss (loc_miss (loc_miss (loc_miss (loc_miss (loc_miss loc_hit)))))) | exact (loc_miss (loc_miss (loc_miss (loc_miss (loc_miss (loc_miss (loc_miss loc_hit))))))) | exact (loc_miss (loc_miss (loc_miss (loc_miss (loc_miss (loc_miss (loc_miss (loc_miss loc_hit)))))))) | exact (loc_base (by assumption)) | exact (loc_miss (loc_base (by assumption))) | exact (loc_miss (loc_miss (loc_base (by assumption)))) | exact (loc_miss (loc_miss (loc_miss (loc_base (by assumption))))) | exact (loc_miss (loc_miss (loc_miss (loc_miss (loc_base (by assumption)))))) | exact (loc_miss (loc_miss (loc_miss (loc_miss (loc_miss (loc_base (by assumption))))))) | exact (loc_miss (loc_miss (loc_miss (loc_miss (loc_miss (loc_miss (loc_base (by assumption)))))))) | exact (loc_miss (loc_miss (loc_miss (loc_miss (loc_miss (loc_miss (loc_miss (loc_base (by assumption))))))))) | exact (loc_miss (loc_miss (loc_miss (loc_miss (loc_miss (loc_miss (loc_miss (loc_miss (loc_base (by assumption))))))))))) (h0 : 0 ≤ ix := by omega) (h1 : k + ix.toNat < rows.length := by first | omega | (simp only [List.length_map]; omega)) (ho : .ptr id s (k + ix.toNat) 0 = a := by exact rfl) (hd : Nat.blt d N = true := by exact rfl) : AOp P w0 N ⟨some d, .indexAddr t x y, ty, pos, aft, g⟩ f es K := o_indexAddr_tail hx hy he ht h0 h1 ho kk hd
theorem p_cleart {t e sz id s k : Nat} {rows : List (List AV)} {zl : List AV} {C : Ent → List Ent} (ht : sliceB P t e sz = true) (hz : zeroAVs P e = some zl) (kk : K f (C (.row s e sz (rows.take k ++ List.replicate (rows.length - k) zl)))) (hzl : zl.length = sz := by exact rfl) (hsz : 0 < sz := by decide) (hx : ev f x = .tail id s k sz := by simp only [ev_tmp, ev_const, ev_func, ofConst_int, ofConst_bool, ofConst_str, ofConst_nil, upd_apply, Nat.reduceEqDiff, ↓reduceIte] <;> exact rfl) (he : Loc es id (.row s e sz rows) C := by first | exact loc_hit | exact (loc_miss loc_hit) | exact (loc_miss (loc_miss loc_hit)) | exact (loc_miss (loc_miss (loc_miss loc_hit))) | exact (loc_miss (loc_miss (loc_miss (loc_miss loc_hit)))) | exact (loc_miss (loc_miss (loc_miss (loc_miss (loc_miss loc_hit))))) | exact (loc_miss (loc_miss (loc_miss (loc_miss (loc_miss (loc_miss loc_hit)))))) | exact (loc_miss (loc_miss (loc_miss (loc_miss (loc_miss (loc_miss (loc_miss loc_hit))))))) | exact (loc_miss (loc_miss (loc_miss (loc_miss (loc_miss (loc_miss (loc_miss (loc_miss loc_hit)))))))) | exact (loc_base (by assumption)) | exact (loc_miss (loc_base (by assumption))) | exact (loc_miss (loc_miss (loc_base (by assumption)))) | exact (loc_miss (loc_miss (loc_miss (loc_base (by assumption))))) | exact (loc_miss (loc_miss (loc_miss (loc_miss (loc_base (by assumption)))))) | exact (loc_miss (loc_miss (loc_miss (loc_miss (loc_miss (loc_base (by assumption))))))) | exact (loc_miss (loc_miss (loc_miss (loc_miss (loc_miss (loc_miss (loc_base (by assumption)))))))) | exact (loc_miss (loc_miss (loc_miss (loc_miss (loc_miss (loc_miss (loc_miss (loc_base (by assumption))))))))) | exact (loc_miss (loc_miss (loc_miss (loc_miss (loc_miss (loc_miss (loc_miss (loc_miss (loc_base (by assumption))))))))))) : AOp P w0 N ⟨none, .call { callee := .builtin .clear, args := #[x], argTypes := #[t] }, ty, pos, aft, g⟩ f es K := o_clear_tail hx he ht hz hzl hsz kk
end
end Go.Proofs.YtfdgbghlanbddaaDoor.Av
namespace Go.Proofs.YtfdgbghlanbddaaDoor.Av
open Go.Proofs Go.Shelf
def sortRen : Go.Shelf.Ren := ⟨fun | 6 => 135 | 15 => 152 | 14 => 151 | 28 => 168 | 29 => 169 | 20 => 160 | 21 => 161 | 22 => 162 | 23 => 163 | 24 => 164 | 25 => 165 | 26 => 166 | 27 => 167 | 46 => 172 | 47 => 173 | 48 => 174 | 49 => 175 | 50 => 176 | 57 => 177 | n => n, fun | 22 => 27 | 24 => 29 | 25 => 130 | 3 => 3 | 39 => 147 | 0 => 0 | 53 => 163 | 55 => 24 | 4 => 4 | 46 => 157 | 45 => 156 | 50 => 132 | 5 => 5 | 9 => 9 | 66 => 165 | 70 => 169 | 76 => 172 | 77 => 95 | n => n, fun | n => n⟩
theorem sortLays : Go.Proofs.SlLaysF0.n6 Tryd.prog sortRen := {
 mixed := by kernel_rfl
 f6 := ⟨Tryd.f135.name, by decide, Tryd.func135.trans (congrArg some (by kernel_rfl))⟩
 f14 := ⟨Tryd.f151.name, by decide, Tryd.func151.trans (congrArg some (by kernel_rfl))⟩
 f15 := Tryd.func152.trans (congrArg some (by kernel_rfl))
 f20 := ⟨Tryd.f160.name, by decide, Tryd.func160.trans (congrArg some (by kernel_rfl))⟩
 f21 := ⟨Tryd.f161.name, by decide, Tryd.func161.trans (congrArg some (by kernel_rfl))⟩
 f22 := ⟨Tryd.f162.name, by decide, Tryd.func162.trans (congrArg some (by kernel_rfl))⟩
 f23 := ⟨Tryd.f163.name, by decide, Tryd.func163.trans (congrArg some (by kernel_rfl))⟩
 f24 := ⟨Tryd.f164.name, by decide, Tryd.func164.trans (congrArg some (by kernel_rfl))⟩
 f25 := ⟨Tryd.f165.name, by decide, Tryd.func165.trans (congrArg some (by kernel_rfl))⟩
 f26 := ⟨Tryd.f166.name, by decide, Tryd.func166.trans (congrArg some (by kernel_rfl))⟩
 f27 := ⟨Tryd.f167.name, by decide, Tryd.func167.trans (congrArg some (by kernel_rfl))⟩
 f28 := Tryd.func168.trans (congrArg some (by kernel_rfl))
 f29 := Tryd.func169.trans (congrArg some (by kernel_rfl))
 f46 := ⟨Tryd.f172.name, by decide, Tryd.func172.trans (congrArg some (by kernel_rfl))⟩
 f47 := Tryd.func173.trans (congrArg some (by kernel_rfl))
 f48 := Tryd.func174.trans (congrArg some (by kernel_rfl))
 f49 := ⟨Tryd.f175.name, by decide, Tryd.func175.trans (congrArg some (by kernel_rfl))⟩
 f50 := ⟨Tryd.f176.name, by decide, Tryd.func176.trans (congrArg some (by kernel_rfl))⟩
 f57 := ⟨Tryd.f177.name, by decide, Tryd.func177.trans (congrArg some (by kernel_rfl))⟩
 t0 := Tryd.underlying0
 a0 := Tryd.isAgg0
 z0 := Tryd.sizeOf0
 v0 := Tryd.zeroValue0
 t3 := Tryd.underlying3
 a3 := Tryd.isAgg3
 z3 := Tryd.sizeOf3
 v3 := Tryd.zeroValue3
 t4 := Tryd.underlying4
 a4 := Tryd.isAgg4
 z4 := Tryd.sizeOf4
 v4 := Tryd.zeroValue4
 t5 := Tryd.underlying5
 a5 := Tryd.isAgg5
 z5 := Tryd.sizeOf5
 v5 := Tryd.zeroValue5
 t9 := Tryd.underlying9
 a9 := Tryd.isAgg9
 z9 := Tryd.sizeOf9
 v9 := Tryd.zeroValue9
 t22 := Tryd.underlying27
 a22 := Tryd.isAgg27
 z22 := Tryd.sizeOf27
 v22 := Tryd.zeroValue27
 t25 := Tryd.underlying130
 a25 := Tryd.isAgg130
 z25 := Tryd.sizeOf130
 v25 := Tryd.zeroValue130
 t39 := Tryd.underlying147
 a39 := Tryd.isAgg147
 z39 := Tryd.sizeOf147
 v39 := Tryd.zeroValue147
 t45 := Tryd.underlying156
 a45 := Tryd.isAgg156
 z45 := Tryd.sizeOf156
 v45 := Tryd.zeroValue156
 t46 := Tryd.underlying157
 a46 := Tryd.isAgg157
 z46 := Tryd.sizeOf157
 v46 := Tryd.zeroValue157
 t50 := Tryd.underlying132
 a50 := Tryd.isAgg132
 z50 := Tryd.sizeOf132
 v50 := Tryd.zeroValue132
 t53 := Tryd.underlying163
 a53 := Tryd.isAgg163
 z53 := Tryd.sizeOf163
 v53 := Tryd.zeroValue163
 t55 := Tryd.underlying24
 a55 := Tryd.isAgg24
 z55 := Tryd.sizeOf24
 v55 := Tryd.zeroValue24
 t66 := Tryd.underlying165
 a66 := Tryd.isAgg165
 z66 := Tryd.sizeOf165
 v66 := Tryd.zeroValue165
 t70 := Tryd.underlying169
 a70 := Tryd.isAgg169
 z70 := Tryd.sizeOf169
 v70 := Tryd.zeroValue169
 t76 := Tryd.underlying172
 a76 := Tryd.isAgg172
 z76 := Tryd.sizeOf172
 v76 := Tryd.zeroValue172
 t77 := Tryd.underlying95
 a77 := Tryd.isAgg95
 z77 := Tryd.sizeOf95
 v77 := Tryd.zeroValue95 }
end Go.Proofs.YtfdgbghlanbddaaDoor.Av
set_option linter.unusedVariables false
set_option linter.unusedSimpArgs false
namespace Go.Proofs.YtfdgbghlanbddaaDoor.Av
open Go.RowKit Go.Proofs Go.Sort

/-- An expression and the six cells that hold it. -/
structure RxV (c : Core) where
 r : Rx
 vs : List Value
 len : vs.length = 6
 one : ∀ v ∈ vs, v.oneCell' = true
 ok : r.ok
 tidy : r.tidy
 rep : Reps c none r.cells vs
def rxvCmp {c : Core} (x y : RxV c) : Int := x.r.cmp y.r
theorem rxv_swo (c : Core) : SWO (ltOf (rxvCmp (c := c))) := by
 have sw : ∀ x y : RxV c, y.r.cmp x.r = -(x.r.cmp y.r) := fun x y => Rx.cmp_swap _ _ x.tidy y.tidy
 have lt1 : ∀ x y : RxV c, ltOf (rxvCmp (c := c)) x y = true ↔ x.r.cmp y.r < 0 := fun x y => by unfold ltOf; rw [decide_eq_true_eq]; rfl
 have lt0 : ∀ x y : RxV c, ltOf (rxvCmp (c := c)) x y = false ↔ ¬ x.r.cmp y.r < 0 := fun x y => by unfold ltOf; rw [decide_eq_false_iff_not]; rfl
 refine ⟨fun x => ?_, fun x y z h1 h2 => ?_, fun x y z h1 h2 => ?_⟩
 ·rw [lt0, Rx.cmp_refl]; omega
 ·rw [lt1] at *
  have a := Rx.cmp_range x.r y.r
  have b := Rx.cmp_range y.r z.r
  rw [Rx.cmp_trans _ _ _ x.tidy y.tidy z.tidy (by omega) (by omega)]
  decide
 ·rw [lt0] at *
  intro h3
  have a := Rx.cmp_range x.r y.r
  have b := Rx.cmp_range y.r z.r
  have d := Rx.cmp_range x.r z.r
  have e1 := sw x y
  have e2 := sw y z
  have e3 := sw x z
  by_cases h0 : x.r.cmp y.r = 0
  ·have := Rx.cmp_eq _ _ x.tidy y.tidy h0
   rw [this] at h3
   omega
  ·by_cases h9 : y.r.cmp z.r = 0
   ·have := Rx.cmp_eq _ _ y.tidy z.tidy h9
    rw [← this] at h3 d
    omega
   ·have := Rx.cmp_trans _ _ _ z.tidy y.tidy x.tidy (by omega) (by omega)
    omega
theorem rows_rxv {c : Core} : ∀ {rs : List Rx} {xs : List Value}, (∀ r ∈ rs, r.ok ∧ r.tidy) → RepRows c none 6 (rs.map Rx.cells) xs → ∃ d : List (RxV c), d.map RxV.r = rs ∧ d.flatMap RxV.vs = xs
 | [], xs, _, h => by
  simp only [List.map_nil, RepRows] at h
  exact ⟨[], rfl, by simp [h]⟩
 | r :: t, xs, hr, h => by
  simp only [List.map_cons, RepRows] at h
  obtain ⟨v1, v2, rfl, hl, h1, ho, h2⟩ := h
  obtain ⟨d, hd1, hd2⟩ := rows_rxv (fun r h => hr r (List.mem_cons_of_mem _ h)) h2
  have hx := hr r (by simp)
  exact ⟨⟨r, v1, h1.length.trans hl, ho, hx.1, hx.2, h1⟩ :: d, by simp [hd1], by simp [hd2]⟩
theorem rxv_rows {c : Core} : ∀ d : List (RxV c), RepRows c none 6 ((d.map RxV.r).map Rx.cells) (d.flatMap RxV.vs)
 | [] => by simp [RepRows]
 | x :: d => by
  simp only [List.map_cons, List.flatMap_cons, RepRows]
  exact ⟨x.vs, _, rfl, by rw [← x.rep.length]; exact x.len, x.rep, x.one, rxv_rows d⟩
theorem flat_at {α : Type} [Inhabited α] {enc : α → List Value} {k : Nat} (hk : ∀ x, (enc x).length = k) (h0 : 0 < k) : ∀ (d : List α) (t : Nat), t < d.length * k → (d.flatMap enc)[t]? = some ((enc d[t / k]!)[t % k]!)
 | [], t, h => by simp at h
 | x :: d, t, h => by
  rw [List.flatMap_cons]
  by_cases ht : t < k
  ·rw [List.getElem?_append_left (by rw [hk]; exact ht), Nat.div_eq_of_lt ht, Nat.mod_eq_of_lt ht, List.getElem?_eq_getElem (by rw [hk]; exact ht)]
   simp [List.getElem!_eq_getElem?_getD, List.getElem?_eq_getElem (show t < (enc x).length by rw [hk]; exact ht)]
  ·rw [List.length_cons, Nat.succ_mul] at h
   have h2 : t - k < d.length * k := by omega
   rw [List.getElem?_append_right (by rw [hk]; omega), hk, flat_at hk h0 d (t - k) h2, Nat.div_eq_sub_div h0 (show k ≤ t by omega), Nat.mod_eq_sub_mod (show k ≤ t by omega)]
   simp
theorem flatK_list {α : Type} [Inhabited α] {enc : α → List Value} {k : Nat} (hk : ∀ x, (enc x).length = k) (h0 : 0 < k) (d : List α) : (flatK enc k d.toArray).toList = d.flatMap enc := by
 refine List.ext_getElem? fun t => ?_
 have hlen : (d.flatMap enc).length = d.length * k := by
  induction d with
  | nil => simp
  | cons x d ih => rw [List.flatMap_cons, List.length_append, hk, ih, List.length_cons, Nat.succ_mul]; omega
 by_cases h : t < d.length * k
 ·rw [flat_at hk h0 d t h]
  have := get_flatK enc k d.toArray t (by simpa using h)
  have hs : t < (flatK enc k d.toArray).size := by simpa using h
  rw [getElem!_pos (flatK enc k d.toArray) t hs] at this
  rw [Array.getElem?_toList, Array.getElem?_eq_getElem hs, this]
  simp
 ·rw [List.getElem?_eq_none (by simp; omega), List.getElem?_eq_none (by omega)]
theorem heap_putRow {w : World} {g m : Nat} {os : Array Obj} {F cur : Array Value} {e : TypeId} (hb : w.heap[g]? = some (.cells cur e)) :
  (grow (putRow id (Sort.ahead w m) g 0 F) os).heap[g]? = some (.cells (putCells id 0 F cur) e) := by
 have hlt : g < w.heap.size := (Array.getElem?_eq_some_iff.1 hb).1
 rw [heap_grow_old _ _ (by simpa using hlt)]
 simp [putRow, mapBlock, Sort.ahead, Array.getElem?_modify, hb, onCells]
theorem heap_putRow_ne {w : World} {g m b : Nat} {os : Array Obj} {F : Array Value} (hb : b < w.heap.size) (hne : b ≠ g) :
  (grow (putRow id (Sort.ahead w m) g 0 F) os).heap[b]? = w.heap[b]? := by
 rw [heap_grow_old _ _ (by simpa using hb)]
 simp [putRow, mapBlock, Sort.ahead, Array.getElem?_modify, Ne.symm hne]
theorem take_putCells {F cur : Array Value} (h : F.size ≤ cur.size) : (putCells id 0 F cur).toList.take F.size = F.toList := by
 refine List.ext_getElem? fun t => ?_
 by_cases ht : t < F.size
 ·rw [List.getElem?_take, if_pos ht, Array.getElem?_toList, Array.getElem?_toList]
  simp only [putCells, Array.getElem?_mapIdx, Nat.zero_le, true_and, Nat.zero_add, id, Nat.sub_zero, if_pos ht]
  rw [Array.getElem?_eq_getElem (show t < cur.size by omega), Array.getElem?_eq_getElem ht, getElem!_pos F t ht]
  rfl
 ·rw [List.getElem?_take, if_neg ht, List.getElem?_eq_none (by simp; omega)]
/-- A world above another that kept its blocks is it with draws and new blocks. -/
theorem grow_of {w w' : World} (hb : Below w.heap.size w w') (hd : w.drawn ≤ w'.drawn) : ∃ q os, w' = grow (w.drewN q) os := by
 refine ⟨w'.drawn - w.drawn, w'.heap.extract w.heap.size w'.heap.size, ?_⟩
 obtain ⟨h1, h2, h3, h4, h5⟩ := hb
 cases w' with
 | mk heap tape drawn os output =>
  simp only at h1 h2 h3 h4 h5 hd ⊢
  simp only [grow, World.drewN]
  congr 1
  ·refine Array.ext_getElem? fun t => ?_
   by_cases ht : t < w.heap.size
   ·rw [Array.getElem?_append_left ht]
    exact h5 t ht
   ·rw [Array.getElem?_append_right (by omega), Array.getElem?_extract]
    by_cases h9 : t < heap.size
    ·rw [if_pos (by omega)]; congr 1; omega
    ·rw [if_neg (by omega), Array.getElem?_eq_none (by omega)]
  ·omega
end Go.Proofs.YtfdgbghlanbddaaDoor.Av
set_option linter.unusedVariables false
set_option linter.unusedSimpArgs false
namespace Go.Proofs.YtfdgbghlanbddaaDoor.Av
open Go.RowKit Go.Proofs Go.Sort

theorem cmp_lays {w0 : World} (hT : Tab w0) {c : Core} {es : List Ent} (ok : Ok w0 c es) {g : Nat} (hg : g < c.w.heap.size) (hf : ¬ c.fro g) [Inhabited (RxV c)] (n : Nat) :
  CmpLays Tryd.prog 136 #[] (RxV.vs (c := c)) 6 rxvCmp g 0 n c.w := by
 intro m os dk hdk x y
 have hsz : c.w.heap.size ≤ (sortWorldK (RxV.vs (c := c)) 6 c.w g 0 m dk os).heap.size := by simp [sortWorldK, putRowK]
 have hbl : ∀ b, c.fro b → (sortWorldK (RxV.vs (c := c)) 6 c.w g 0 m dk os).heap[b]? = c.w.heap[b]? := fun b hb => heap_putRow_ne (ok.lt b hb) (fun e => hf (e ▸ hb))
 generalize hW : sortWorldK (RxV.vs (c := c)) 6 c.w g 0 m dk os = W at hsz hbl ⊢
 have hTW : Tab W := by
  have h0 := ok.old 0 hT.1
  refine ⟨Nat.lt_of_lt_of_le (ok.lt 0 h0) hsz, fun i hi => ?_⟩
  rw [← hT.now ok hi]
  unfold World.cell?
  simp only [hbl 0 h0]
 have okW : Ok W ⟨W, fun _ => none, c.now, fun b => b < W.heap.size⟩ [] := by
  refine ⟨Below.refl _ _, fun _ h => h, fun _ h => h, fun id x h => ?_, fun i j s e sz rows s' e' sz' rows' g cap cap' h => ?_, fun i j s kvs s' kvs' g cap cap' h => ?_⟩ <;> simp [at_] at h
 have hx : ∀ x : RxV c, Reps (⟨W, fun _ => none, c.now, fun b => b < W.heap.size⟩ : Core) none x.r.cells x.vs := fun x =>
  Reps.ext _ (show ExtM c none _ none from ⟨Nat.le_refl _, fun b hb => ⟨Nat.lt_of_lt_of_le (ok.lt b hb) hsz, hbl b hb⟩⟩) x.rep
 have h := rxCompare hTW _ x.r y.r [] (Nat.le_refl _) x.ok y.ok ⟨W, fun _ => none, c.now, fun b => b < W.heap.size⟩ (#[Value.agg x.vs.toArray, Value.agg y.vs.toArray] ++ #[]) okW (by
  simp only [Array.append_empty, Reps, Rep]
  exact ⟨_, _, rfl, ⟨_, rfl, (hx x).up _, x.one⟩, _, _, rfl, ⟨_, rfl, (hx y).up _, y.one⟩, rfl⟩)
 refine h.mono fun e w' => ?_
 rintro ⟨v, c', es', r, h1, h2, h3, h4, h5, rfl, rfl⟩
 simp only [Rep] at h5
 subst h1 h5 h2
 refine ⟨rfl, grow_of ⟨h4.below.os, h4.below.tape, h4.below.output, h4.below.size, fun k hk => (h3.fro k hk).2⟩ h3.drawn⟩
theorem isAgg29 (w : World) : (isAgg 29).run Tryd.prog w = .ok true w := Tryd.isAgg29 w
theorem sizeOf29 (w : World) : (sizeOf 29).run Tryd.prog w = .ok 6 w := Tryd.sizeOf29 w
theorem callFunc_enter {P : Program} {g : Nat} (h : enterB P g = true) (args : Array Value) (w : World) : (callFunc g args).run P w = .ok (Next.enter g args) w := by
 unfold enterB at h
 split at h
 ·rename_i fn hfn
  have hname : fn.name ≠ "runtime.NumGoroutine" := by intro e; simp [e] at h
  have hb : fn.body.isSome = true := by revert h; simp
  obtain ⟨b, hb⟩ := Option.isSome_iff_exists.1 hb
  simp [callFunc, hfn, hname, hb]
 ·cases h
/-- The sorted row: no later element stands below an earlier one. -/
def UpR (l : List Rx) : Prop := l.Pairwise fun a b => a.cmp b ≤ 0
theorem rxSort {w0 : World} (hT : Tab w0) {es : List Ent} {id s : Nat} {l : List Rx} (hl : ∀ r ∈ l, r.ok ∧ r.tidy) (hid : at_ es id = some (.row s 29 6 (l.map Rx.cells))) :
  ACalls Tryd.prog w0 135 [.own id s, .fn (.func 136) [] []] es fun v es' => v = .tup [] ∧ ∃ l' : List Rx, l'.Perm l ∧ UpR l' ∧ es' = setAt es id (.row s 29 6 (l'.map Rx.cells)) := by
 intro c vs ok rs
 obtain ⟨hlt, hm, hf, xs, hxs, hown⟩ := ok.ent id _ hid
 obtain ⟨vl⟩ := vs
 simp only [Reps] at rs
 obtain ⟨v1, vs1, e1, r1, v2, vs2, e2, r2, e3⟩ := rs
 subst e3 e2 e1
 simp only [Rep] at r1 r2
 obtain ⟨es0, he0, hsh, hnow, r1⟩ := r1
 injection he0 with he0
 subst he0
 have r1 := r1 _ _ _ hid
 obtain ⟨fs, cs, e2, rf, rcs⟩ := r2
 simp only [Reps] at rf rcs
 obtain ⟨fs⟩ := fs
 obtain ⟨cs⟩ := cs
 simp only at rf rcs
 subst rf rcs e2 r1
 have fin0 : l.length = 0 → ∀ A cap, Calls Tryd.prog 135 #[.slice A 0 cap, .func (.func 136) #[] #[]] c.w fun e w' => ∃ v c' es' r, e = .returned v ∧ c'.w = w' ∧ Ext c es c' es' ∧ Ok w0 c' es' ∧ Rep c' (some es') r v ∧ r = .tup [] ∧ ∃ l' : List Rx, l'.Perm l ∧ UpR l' ∧ es' = setAt es id (.row s 29 6 (l'.map Rx.cells)) := by
  intro h0 A cap
  refine (AnyF.slices_SortFunc_none sortLays A cap _ c.w).mono fun e w' => ?_
  rintro ⟨rfl, rfl⟩
  have hnil : l = [] := List.eq_nil_of_length_eq_zero h0
  subst hnil
  refine ⟨_, c, es, .tup [], rfl, rfl, Ext.refl c es, ok, ⟨#[], rfl, by simp only [Reps]⟩, rfl, [], List.Perm.refl _, List.Pairwise.nil, ?_⟩
  exact (setAt_self hid).symm
 rw [List.length_map] at hown hm
 obtain ⟨hxl, hown⟩ := hown
 by_cases h0 : l.length = 0
 ·rw [List.length_map, h0]
  rcases hown with ⟨hv, _⟩ | ⟨g, cap, cur, hv, _⟩
  ·rw [h0] at hv
   rw [hv]
   exact fin0 h0 _ _
  ·rw [h0] at hv
   rw [hv]
   exact fin0 h0 _ _
 rcases hown with ⟨_, h9⟩ | ⟨g, cap, cur, hv, _, hg, hn, hcap, hcur, hxs2⟩
 ·exact absurd h9 h0
 have hphi : c.phi id = some (g, cap) := by
  cases hp : c.phi id with
  | none => rw [hp] at hv; simp [ownVal] at hv
  | some y =>
   obtain ⟨g2, cap2⟩ := y
   rw [hp] at hv
   simp only [ownVal, Value.slice.injEq, Option.some.injEq, Addr.mk.injEq, true_and, and_true] at hv
   rw [hv.1, hv.2]
 have hgl : g < c.w.heap.size := (Array.getElem?_eq_some_iff.1 hg).1
 have hfg := hf g cap hphi
 have hrw := RepRows.down _ (cleans_rx l) hxs
 obtain ⟨d, hd1, hd2⟩ := rows_rxv hl hrw
 have hdl : d.length = l.length := by rw [← hd1, List.length_map]
 obtain ⟨x0, d0, hd0⟩ : ∃ x t, d = x :: t := by
  cases d with
  | nil => simp at hdl; omega
  | cons x t => exact ⟨x, t, rfl⟩
 haveI : Inhabited (RxV c) := ⟨x0⟩
 have hk : ∀ x : RxV c, x.vs.length = 6 := fun x => x.len
 have hF : ∀ d : List (RxV c), (flatK (RxV.vs (c := c)) 6 d.toArray).toList = d.flatMap RxV.vs := fun d => flatK_list hk (by decide) d
 have hH : HoldsK (RxV.vs (c := c)) 6 c.w g 0 d.toArray := by
  intro j hj
  have hj2 : j < d.length * 6 := by simpa using hj
  have hc : cur[j]? = some ((flatK (RxV.vs (c := c)) 6 d.toArray)[j]!) := by
   rw [getElem!_pos (flatK (RxV.vs (c := c)) 6 d.toArray) j hj, ← Array.getElem?_eq_getElem hj, ← Array.getElem?_toList, ← Array.getElem?_toList, hF, hd2, ← hxs2, List.getElem?_take, if_pos (by omega)]
  simp only [World.cell?, World.frozen?, hg, Nat.zero_add, _root_.id]
  exact ⟨by simpa using hc, by simp⟩
 have hrun := AnyQ.slices_SortFunc sortLays 6 isAgg29 sizeOf29 (RxV.vs (c := c)) hk (fun x => x.one) rxvCmp (rxv_swo c) 136 #[] g 0 cap d.toArray c.w (callFunc_enter en_136) (cmp_lays hT ok hgl hfg _) hH hgl (by simp only [most] at hm; simp; omega)
 rw [List.length_map, hphi]
 have hsz : d.toArray.size = l.length := by simpa using hdl
 rw [hsz] at hrun
 refine Calls.mono hrun fun e w' => ?_
 rintro ⟨rfl, d', n, os, hperm, hsort, rfl⟩
 obtain ⟨d'⟩ := d'
 obtain ⟨hs', _, hp⟩ := hperm
 have hs2 : d'.length = l.length := by rw [← hdl]; simpa using hs'
 have hpd : d'.Perm d := by
  have e1 : (Array.extract (⟨d'⟩ : Array (RxV c)) 0 l.length).toList = d' := by rw [← hs2]; simp
  have e2 : (Array.extract d.toArray 0 l.length).toList = d := by rw [← hdl]; simp
  rw [e1, e2] at hp
  exact hp
 have hlen2 : (d'.map RxV.r).length = l.length := by rw [List.length_map, hs2]
 have hgr : c.w.grownBy (sortWorldK (RxV.vs (c := c)) 6 c.w g 0 n ⟨d'⟩ os) (ownVal (c.phi id) ((l.map Rx.cells).length)).ownBlock := by
  rw [hphi, own_block_some]
  refine ⟨rfl, rfl, rfl, by simp [sortWorldK, putRowK], fun k hk1 hk2 => heap_putRow_ne hk1 (fun e => hk2 (by rw [e]))⟩
 have hdr : c.w.drawn ≤ (sortWorldK (RxV.vs (c := c)) 6 c.w g 0 n ⟨d'⟩ os).drawn := by simp [sortWorldK, putRowK, putRow, mapBlock, grow, Sort.ahead]
 have hrows : RepRows c (some es) 6 ((d'.map RxV.r).map Rx.cells) (d'.flatMap RxV.vs) :=
  RepRows.ext _ (show ExtM c none c (some es) from ⟨Nat.le_refl _, fun b hb => ⟨hb, rfl⟩⟩) (rxv_rows d')
 have hfl : (flatK (RxV.vs (c := c)) 6 (⟨d'⟩ : Array (RxV c))).toList = d'.flatMap RxV.vs := hF d'
 have hfsz : (flatK (RxV.vs (c := c)) 6 (⟨d'⟩ : Array (RxV c))).size = l.length * 6 := by simp [hs2]
 have hown2 : (sortWorldK (RxV.vs (c := c)) 6 c.w g 0 n ⟨d'⟩ os).ownsRow 0 29 6 (ownVal (some (g, cap)) ((d'.map RxV.r).map Rx.cells).length) ((d'.map RxV.r).map Rx.cells).length (d'.flatMap RxV.vs) := by
  rw [List.length_map, hlen2]
  refine ⟨by rw [← hfl]; simpa using hfsz, .inr ⟨g, cap, _, rfl, Nat.zero_le _, heap_putRow hg, hn, hcap, by simp [putCells, hcur], ?_⟩⟩
  rw [← hfsz, take_putCells (by rw [hfsz, hcur]; exact Nat.mul_le_mul_right _ hn), hfl]
 refine ⟨_, c.turn _ id (some (g, cap)), setAt es id (.row s 29 6 ((d'.map RxV.r).map Rx.cells)), .tup [], rfl, rfl, ext_turn ok hid hgr (.inr ⟨rfl, by simp [hs2], hphi.symm⟩) hdr, ok_turn ok hid hgr (.inr ⟨rfl, by simp [hs2], hphi.symm⟩) (.inl (by rw [hphi]; rfl)) (by rw [List.length_map, hlen2]; exact hm) hrows hown2 hdr, ⟨#[], rfl, by simp only [Reps]⟩, rfl, d'.map RxV.r, by rw [← hd1]; exact hpd.map _, ?_, rfl⟩
 refine List.pairwise_iff_getElem.2 fun i j hi hj hij => ?_
 rw [List.length_map] at hi hj
 have := hsort i j (Nat.zero_le _) hij (by omega)
 unfold ltOf at this
 rw [decide_eq_false_iff_not] at this
 have e1 : (Array.mk d')[j]! = d'[j] := by rw [getElem!_pos (Array.mk d') j (by simpa using hj)]; rfl
 have e2 : (Array.mk d')[i]! = d'[i] := by rw [getElem!_pos (Array.mk d') i (by simpa using hi)]; rfl
 rw [e1, e2] at this
 unfold rxvCmp at this
 rw [List.getElem_map, List.getElem_map]
 have h3 := Rx.cmp_swap _ _ (d'[i]).tidy (d'[j]).tidy
 omega
end Go.Proofs.YtfdgbghlanbddaaDoor.Av
set_option linter.unusedVariables false
set_option linter.unusedSimpArgs false
set_option maxRecDepth 8000
namespace Go.Proofs.YtfdgbghlanbddaaDoor.Av
open Go.RowKit Go.Proofs
def ofR (kd : Int) (l : List Rx) (z : Rx) : Rx :=
 match l with
 | [] => z
 | [x] => x
 | x :: y :: t => .mk kd noSet (x :: y :: t)
theorem ofR_cat (l : List Rx) : ofR 4 l emptyR = catOf l := by
 unfold ofR catOf; split <;> rfl
theorem ofR_alt (l : List Rx) : ofR 5 l noneR = altOf l := by
 unfold ofR altOf; split <;> rfl
theorem ofR_nil {kd : Int} {l : List Rx} {z : Rx} (h : l.length = 0) : ofR kd l z = z := by
 cases l with
 | nil => rfl
 | cons a t => simp at h
theorem ofR_one {kd : Int} {l : List Rx} {z : Rx} (h : l.length = 1) : ofR kd l z = l[0]'(by omega) := by
 match l, h with
 | [x], _ => rfl
theorem ofR_two {kd : Int} {l : List Rx} {z : Rx} (h : ¬ (l.length = 0 ∨ l.length = 1)) : ofR kd l z = .mk kd noSet l := by
 match l, h with
 | [], h => simp at h
 | [x], h => simp at h
 | x :: y :: t, _ => rfl
theorem rxFlat {w0 : World} {es : List Ent} (kd : Int) (l : List Rx) (hn : Rx.nodesL l ≤ 1048576) : ACalls Tryd.prog w0 131 [.int .i64 kd, .list 6 (l.map Rx.cells)] es fun v es' => ∃ t, v = .own es.length t ∧ es' = .row t 29 6 ((flatR kd l).map Rx.cells) :: es := by
 refine calls2 (N := 28) Tryd.func131 rfl rfl (by decide) ?_
 refine w_seq ?_
 refine w_region ?_
 refine l_cons rfl (p_assign ?_)
 refine l_nil ?_
 refine k_seq_normal ?_
 refine w_seq ?_
 have hal := Rx.len_le l
 refine w_region ?_
 refine l_cons rfl (p_assign ?_)
 refine l_nil ?_
 refine k_seq_normal ?_
 refine w_seq ?_
 refine w_seq ?_
 refine w_adopt 5 29 6 rfl fun s5 => ?_
 simp only [upd_upd]
 refine w_region ?_
 refine l_cons rfl (p_move ?_)
 refine l_cons rfl (p_lenl sl_27 ?_)
 refine l_cons rfl (p_move ?_)
 refine l_nil ?_
 refine k_seq_normal ?_
 refine w_block ?_
 refine w_loop (fun m f es' => ∃ k s5, m = l.length - k ∧ k ≤ l.length ∧ Sub (.row s5 29 6 ((flatR kd (l.take k)).map Rx.cells) :: es) es' ∧ Knows f [(0, .int .i64 kd), (5, .own es.length s5), (8, .list 6 (l.map Rx.cells)), (9, .int .i64 l.length), (10, .int .i64 k)]) (l.length) (⟨0, s5, rfl, Nat.zero_le _, Sub.refl _, by simp only [Knows, put, upd_apply, Nat.reduceEqDiff, ↓reduceIte, and_true, true_and, eq_self] <;> and_intros <;> rfl⟩) ?_
 rintro m f es' ⟨k, s5, rfl, hk1, hsub, hk⟩
 refine w_pins _ hsub (hk) ?_
 simp only [pins]
 refine w_seq ?_
 refine w_region ?_
 refine l_cons rfl (p_cmp ?_)
 refine l_nil ?_
 refine k_seq_normal ?_
 refine w_seq ?_
 refine w_b (fun h1 => ?_) (fun h1 => ?_)
 ·skip
  have h1' := h1; (try simp only [decide_eq_true_eq, decide_eq_false_iff_not, Bool.not_eq_true', Bool.not_false, Bool.not_true, Bool.not_eq_false'] at h1')
  refine w_skip ?_
  refine k_seq_normal ?_
  refine w_seq ?_
  refine w_block ?_
  refine w_seq ?_
  refine w_region ?_
  refine l_cons rfl (p_ixl sl_27 ?_)
  refine l_cons rfl (p_loadf ty_29 ?_)
  refine l_cons rfl (p_alloc ze_29 fun s7 => ?_)
  refine l_cons rfl (p_store ty_29 ?_)
  refine l_nil ?_
  refine k_seq_normal ?_
  refine w_seq ?_
  have hx1 := flat_take_nodes kd l k
  have hx2 := Rx.nodesL_take l k (by omega)
  have hx3 := Rx.nodesL_le l (k + 1)
  have hx4 := Rx.len_le (flatR kd (l.take k))
  have hx5 := (l[k]'(by omega)).nodes_eq
  have hx6 := Rx.len_le (l[k]'(by omega)).args
  refine w_region ?_
  refine l_cons rfl (p_fap fa_29_0 ?_)
  refine l_cons rfl (p_loadp ty_3 ?_)
  refine l_cons rfl (p_move ?_)
  refine l_cons rfl (p_cmp ?_)
  refine l_nil ?_
  refine k_seq_normal ?_
  refine w_b (fun h2 => ?_) (fun h2 => ?_)
  ·skip
   have h2' := h2; (try simp only [decide_eq_true_eq, decide_eq_false_iff_not, Bool.not_eq_true', Bool.not_false, Bool.not_true, Bool.not_eq_false'] at h2')
   refine w_region ?_
   refine l_cons rfl (p_move ?_)
   refine l_cons rfl (p_fap fa_29_2 ?_)
   refine l_cons rfl (p_loadp ty_27 (a := .list 6 ((l[k]'(by omega)).args.map Rx.cells)) ?_ (ha := args_load _))
   refine l_cons rfl (p_append sl_27 by_29 ze_29 (fun s21 => ?_) (hb := by simp only [List.length_map, List.length_take, List.length_append, List.length_cons, List.length_nil, most]; omega))
   refine l_cons rfl (p_assign ?_)
   refine l_nil ?_
   refine k_blk_normal ?_
   refine k_seq_normal ?_
   refine w_region ?_
   refine l_cons rfl (p_arith ?_)
   refine l_cons rfl (p_move ?_)
   refine l_nil ?_
   refine k_seq_normal ?_
   first
   | exact ⟨l.length - (k + 1), by omega, k + 1, s21, rfl, by omega, by rw [flat_take_yes (by omega) h2']; exact sub1 _ _, by simp only [Knows, put, upd_apply, Nat.reduceEqDiff, ↓reduceIte, and_true, true_and, eq_self] <;> and_intros <;> rfl⟩
   | exact ⟨l.length - (k + 1), by omega, k + 1, s25, rfl, by omega, by rw [flat_take_no (by omega) h2']; exact sub1 _ _, by simp only [Knows, put, upd_apply, Nat.reduceEqDiff, ↓reduceIte, and_true, true_and, eq_self] <;> and_intros <;> rfl⟩
  ·skip
   have h2' := h2; (try simp only [decide_eq_true_eq, decide_eq_false_iff_not, Bool.not_eq_true', Bool.not_false, Bool.not_true, Bool.not_eq_false'] at h2')
   refine w_region ?_
   refine l_cons rfl (p_move ?_)
   refine l_cons rfl (p_loadp ty_29 ?_)
   refine l_cons rfl (p_buildList sl_27 ze_29 ?_)
   refine l_cons rfl (p_append sl_27 by_29 ze_29 (fun s25 => ?_) (hb := by simp only [List.length_map, List.length_take, List.length_append, List.length_cons, List.length_nil, most]; omega))
   refine l_cons rfl (p_assign ?_)
   refine l_nil ?_
   refine k_blk_normal ?_
   refine k_seq_normal ?_
   refine w_region ?_
   refine l_cons rfl (p_arith ?_)
   refine l_cons rfl (p_move ?_)
   refine l_nil ?_
   refine k_seq_normal ?_
   first
   | exact ⟨l.length - (k + 1), by omega, k + 1, s21, rfl, by omega, by rw [flat_take_yes (by omega) h2']; exact sub1 _ _, by simp only [Knows, put, upd_apply, Nat.reduceEqDiff, ↓reduceIte, and_true, true_and, eq_self] <;> and_intros <;> rfl⟩
   | exact ⟨l.length - (k + 1), by omega, k + 1, s25, rfl, by omega, by rw [flat_take_no (by omega) h2']; exact sub1 _ _, by simp only [Knows, put, upd_apply, Nat.reduceEqDiff, ↓reduceIte, and_true, true_and, eq_self] <;> and_intros <;> rfl⟩
 ·skip
  have h1' := h1; (try simp only [decide_eq_true_eq, decide_eq_false_iff_not, Bool.not_eq_true', Bool.not_false, Bool.not_true, Bool.not_eq_false'] at h1')
  refine w_exit ?_
  refine k_seq_exit ?_
  refine k_seq_exit ?_
  refine k_blk_here ?_
  refine k_seq_normal ?_
  refine w_seq ?_
  obtain rfl : k = l.length := by omega
  rw [List.take_length]
  refine w_region ?_
  refine l_cons rfl (p_move ?_)
  refine l_cons rfl (p_assign ?_)
  refine l_nil ?_
  refine k_seq_normal ?_
  refine w_ret ?_
  refine ret1b rfl ?_ <;> exact ex2 subx ⟨_, rfl, rfl⟩
theorem rxTwin {w0 : World} : ∀ (B : Nat) (r : Rx) (es : List Ent), r.nodes ≤ B → B ≤ 1048576 → ACalls Tryd.prog w0 156 [.agg r.cells] es fun v es' => v = .agg r.cells ∧ es' = es := by
 intro B
 induction B using Nat.strongRecOn with
 | _ B ih => ?_
 intro r es hB hB2
 rw [Rx.cells_eq r]
 have hne := r.nodes_eq
 have hal := Rx.len_le r.args
 refine calls1 (N := 22) Tryd.func156 rfl rfl (by decide) ?_
 refine w_seq ?_
 refine w_region ?_
 refine l_cons rfl (p_box fun s1 => ?_)
 refine l_cons rfl (p_alloc ze_29 fun s2 => ?_)
 refine l_nil ?_
 refine k_seq_normal ?_
 refine w_seq ?_
 refine w_region ?_
 refine l_cons rfl (p_assign ?_)
 refine l_nil ?_
 refine k_seq_normal ?_
 refine w_seq ?_
 refine w_seq ?_
 refine w_adopt 3 29 6 rfl fun s3 => ?_
 simp only [upd_upd]
 refine w_region ?_
 refine l_cons rfl (p_fap fa_29_2 ?_)
 refine l_cons rfl (p_loadp ty_27 ?_)
 first | refine l_cons rfl (p_lenl sl_27 ?_) | refine l_cons rfl (p_leno sl_27 ?_) | refine l_cons rfl (p_lenn sl_27 ?_)
 refine l_cons rfl (p_move ?_)
 refine l_nil ?_
 refine k_seq_normal ?_
 refine w_block ?_
 refine w_loop (fun m f es' => ∃ k s3, m = r.args.length - k ∧ k ≤ r.args.length ∧ Sub (.row s3 29 6 ((r.args.take k).map Rx.cells) :: .row s2 29 6 [[.int .i64 0, .int .u64 0, .int .u64 0, .int .u64 0, .int .u64 0, .nil]] :: .row s1 29 6 [[.int .i64 r.kind, .int .u64 r.set.w0, .int .u64 r.set.w1, .int .u64 r.set.w2, .int .u64 r.set.w3, .list 6 (r.args.map Rx.cells)]] :: es) es' ∧ Knows f [(1, .ptr es.length s1 0 0), (2, .ptr (es.length + 1) s2 0 0), (3, .own (es.length + 2) s3), (7, .list 6 (r.args.map Rx.cells)), (8, .int .i64 r.args.length), (9, .int .i64 k)]) (r.args.length) (⟨0, s3, rfl, Nat.zero_le _, Sub.refl _, by simp only [Knows, put, upd_apply, Nat.reduceEqDiff, ↓reduceIte, and_true, true_and, eq_self] <;> and_intros <;> rfl⟩) ?_
 rintro m f es' ⟨k, s3, rfl, hk1, hsub, hk⟩
 refine w_pins _ hsub (hk) ?_
 simp only [pins]
 refine w_seq ?_
 refine w_region ?_
 refine l_cons rfl (p_cmp ?_)
 refine l_nil ?_
 refine k_seq_normal ?_
 refine w_seq ?_
 refine w_b (fun h1 => ?_) (fun h1 => ?_)
 ·skip
  have h1' := h1; (try simp only [decide_eq_true_eq, decide_eq_false_iff_not, Bool.not_eq_true', Bool.not_false, Bool.not_true, Bool.not_eq_false'] at h1')
  refine w_skip ?_
  refine k_seq_normal ?_
  refine w_seq ?_
  refine w_block ?_
  refine w_seq ?_
  refine w_region ?_
  refine l_cons rfl (p_ixl sl_27 ?_)
  refine l_cons rfl (p_loadf ty_29 ?_)
  refine l_cons rfl (p_alloc ze_29 fun s5 => ?_)
  refine l_cons rfl (p_store ty_29 ?_)
  refine l_nil ?_
  refine k_seq_normal ?_
  refine w_region ?_
  refine l_cons rfl (p_move ?_)
  refine l_cons rfl (p_loadp ty_29 ?_)
  refine l_cons rfl (p_callr en_156 (ih (B - 1) (by omega) (r.args[k]'(by omega)) _ (by have := r.nodes_arg (k := k) (by omega); omega) (by omega)) ?_)
  refine l_cons rfl (p_buildList sl_27 ze_29 ?_)
  refine l_cons rfl (p_append sl_27 by_29 ze_29 (fun s17 => ?_) (hb := by simp only [List.length_map, List.length_take, List.length_append, List.length_cons, List.length_nil, most]; omega))
  refine l_cons rfl (p_assign ?_)
  refine l_nil ?_
  refine k_blk_normal ?_
  refine k_seq_normal ?_
  refine w_region ?_
  refine l_cons rfl (p_arith ?_)
  refine l_cons rfl (p_move ?_)
  refine l_nil ?_
  refine k_seq_normal ?_
  exact ⟨r.args.length - (k + 1), by omega, k + 1, s17, rfl, by omega, by rw [take_map_succ (by omega)]; exact sub1 _ _, by simp only [Knows, put, upd_apply, Nat.reduceEqDiff, ↓reduceIte, and_true, true_and, eq_self] <;> and_intros <;> rfl⟩
 ·skip
  have h1' := h1; (try simp only [decide_eq_true_eq, decide_eq_false_iff_not, Bool.not_eq_true', Bool.not_false, Bool.not_true, Bool.not_eq_false'] at h1')
  refine w_exit ?_
  refine k_seq_exit ?_
  refine k_seq_exit ?_
  refine k_blk_here ?_
  refine k_seq_normal ?_
  refine w_seq ?_
  refine w_freezeTop 3 ?_ (hclean := cleans_rx _)
  rw [show k = r.args.length by omega, List.take_length]
  refine w_region ?_
  refine l_cons rfl (p_move ?_)
  refine l_cons rfl (p_fap fa_29_2 ?_)
  refine l_cons rfl (p_store ty_27 ?_)
  refine l_nil ?_
  refine k_seq_normal ?_
  refine w_seq ?_
  refine w_region ?_
  refine l_cons rfl (p_loadp ty_29 ?_)
  refine l_cons rfl (p_store ty_29 ?_)
  refine l_nil ?_
  refine k_seq_normal ?_
  refine w_ret ?_
  exact retc rfl ty_29 (by first | exact Sub.refl _ | exact sub1 _ _ | exact sub2 _ _ _ | exact sub3 _ _ _ _ | exact sub4 _ _ _ _ _ | exact sub5 _ _ _ _ _ _) ⟨rfl, rfl⟩
theorem rxEqual {w0 : World} (hT : Tab w0) {es : List Ent} (a b : Rx) (ha : a.ok) (hb : b.ok) : ACalls Tryd.prog w0 139 [.agg a.cells, .agg b.cells] es fun v es' => v = .bool (decide (a.cmp b = 0)) ∧ es' = es := by
 refine calls2 (N := 9) Tryd.func139 rfl rfl (by decide) ?_
 refine w_seq ?_
 refine w_region ?_
 refine l_cons rfl (p_box fun s2 => ?_)
 refine l_cons rfl (p_box fun s3 => ?_)
 refine l_cons rfl (p_assign ?_)
 refine l_nil ?_
 refine k_seq_normal ?_
 refine w_seq ?_
 refine w_region ?_
 refine l_cons rfl (p_loadp ty_29 ?_)
 refine l_cons rfl (p_loadp ty_29 ?_)
 refine l_cons rfl (p_callr en_136 (rxCompare hT _ a b _ (Nat.le_refl _) ha hb) ?_)
 refine l_cons rfl (p_cmp ?_)
 refine l_cons rfl (p_assign ?_)
 refine l_nil ?_
 refine k_seq_normal ?_
 refine w_ret ?_
 refine ret1b rfl ?_ <;> exact ex2 subx ⟨rfl, rfl⟩
theorem indexFuncO {w0 : World} {es : List Ent} {l : List Rx} {g id s : Nat} {l1 l2 : List AV} (p : Rx → Bool) (hg : enterB Tryd.prog g = true) (hl : l.length ≤ 1048576) (hid : at_ es id = some (.row s 29 6 (l.map Rx.cells))) (hp : ∀ x ∈ l, ACalls Tryd.prog w0 g (l1 ++ [.agg x.cells] ++ l2) es fun v es2 => v = .bool (p x) ∧ es2 = es) : ACalls Tryd.prog w0 157 [.own id s, .fn (.func g) l1 l2] es fun v es' => v = .int .i64 (firstIdx p l) ∧ es' = es := by
 refine calls2 (N := 19) Tryd.func157 rfl rfl (by decide) ?_
 refine w_seq ?_
 refine w_region ?_
 refine l_cons rfl (p_assign ?_)
 refine l_nil ?_
 refine k_seq_normal ?_
 refine w_seq ?_
 refine w_seq ?_
 refine w_region ?_
 refine l_cons rfl (p_move ?_)
 refine l_cons rfl (p_leno sl_27 ?_)
 refine l_cons rfl (p_move ?_)
 refine l_nil ?_
 refine k_seq_normal ?_
 refine w_block ?_
 refine w_loop (fun n f es' => ∃ k, n = l.length - k ∧ k ≤ l.length ∧ (∀ j (hj : j < k) (hjl : j < l.length), p l[j] = false) ∧ es' = es ∧ Knows f [(0, .own id s), (1, .fn (.func g) l1 l2), (7, .int .i64 l.length), (8, .int .i64 k)]) (l.length) (⟨0, rfl, Nat.zero_le _, fun j hj => absurd hj (Nat.not_lt_zero _), rfl, by simp only [Knows, put, upd_apply, Nat.reduceEqDiff, ↓reduceIte, and_true, true_and, eq_self] <;> and_intros <;> rfl⟩) ?_
 rintro n f es' ⟨k, rfl, hk1, hk2, rfl, hk⟩
 refine w_pins _ (Sub.refl _) (hk) ?_
 simp only [pins]
 refine w_seq ?_
 refine w_region ?_
 refine l_cons rfl (p_cmp ?_)
 refine l_nil ?_
 refine k_seq_normal ?_
 refine w_seq ?_
 refine w_b (fun h1 => ?_) (fun h1 => ?_)
 ·skip
  have h1' := h1; (try simp only [decide_eq_true_eq, decide_eq_false_iff_not, Bool.not_eq_true', Bool.not_false, Bool.not_true, Bool.not_eq_false'] at h1')
  refine w_skip ?_
  refine k_seq_normal ?_
  refine w_seq ?_
  refine w_block ?_
  refine w_seq ?_
  refine w_region ?_
  refine l_cons rfl (p_move ?_)
  refine l_cons rfl (p_assign ?_)
  refine l_nil ?_
  refine k_seq_normal ?_
  refine w_seq ?_
  refine w_region ?_
  refine l_cons rfl (p_move ?_)
  refine l_cons rfl (p_move ?_)
  refine l_cons rfl (p_move ?_)
  refine l_cons rfl (p_ixo sl_27 ?_)
  refine l_cons rfl (p_loadp ty_29 (a := .agg (l[k]'(by omega)).cells) ?_ (hr := rxrow_at (l := l) (k := k) (by omega)) (hl := Nat.le_refl 6) (ha := rfl))
  refine l_cons rfl (p_callr hg (hp (l[k]'(by omega)) (List.getElem_mem _)) ?_)
  refine l_nil ?_
  refine k_seq_normal ?_
  refine w_b (fun h2 => ?_) (fun h2 => ?_)
  ·skip
   have h2' := h2; (try simp only [decide_eq_true_eq, decide_eq_false_iff_not, Bool.not_eq_true', Bool.not_false, Bool.not_true, Bool.not_eq_false'] at h2')
   refine w_seq ?_
   refine w_region ?_
   refine l_cons rfl (p_move ?_)
   refine l_cons rfl (p_assign ?_)
   refine l_nil ?_
   refine k_seq_normal ?_
   refine w_ret ?_
   refine k_blk_ret ?_
   refine k_seq_ret ?_
   refine k_seq_ret ?_
   refine k_blk_ret ?_
   refine k_seq_ret ?_
   refine ret1b rfl ?_ <;> exact ex2 subx ⟨by rw [firstIdx_at (l := l) (k := k) (by omega) (fun j hj => hk2 j hj (by omega)) (by assumption)], rfl⟩
  ·skip
   have h2' := h2; (try simp only [decide_eq_true_eq, decide_eq_false_iff_not, Bool.not_eq_true', Bool.not_false, Bool.not_true, Bool.not_eq_false'] at h2')
   refine w_skip ?_
   refine k_blk_normal ?_
   refine k_seq_normal ?_
   refine w_region ?_
   refine l_cons rfl (p_arith ?_)
   refine l_cons rfl (p_move ?_)
   refine l_nil ?_
   refine k_seq_normal ?_
   exact ⟨l.length - (k + 1), by omega, k + 1, rfl, by omega, fun j hj hjl => by
    rcases Nat.lt_or_eq_of_le (Nat.le_of_lt_succ hj) with h9 | h9
    ·exact hk2 j h9 hjl
    ·subst h9; assumption, rfl, by simp only [Knows, put, upd_apply, Nat.reduceEqDiff, ↓reduceIte, and_true, true_and, eq_self] <;> and_intros <;> rfl⟩
 ·skip
  have h1' := h1; (try simp only [decide_eq_true_eq, decide_eq_false_iff_not, Bool.not_eq_true', Bool.not_false, Bool.not_true, Bool.not_eq_false'] at h1')
  refine w_exit ?_
  refine k_seq_exit ?_
  refine k_seq_exit ?_
  refine k_blk_here ?_
  refine k_seq_normal ?_
  refine w_seq ?_
  refine w_region ?_
  refine l_cons rfl (p_assign ?_)
  refine l_nil ?_
  refine k_seq_normal ?_
  refine w_ret ?_
  refine ret1b rfl ?_ <;> exact ex2 subx ⟨by rw [firstIdx_no (l := l) (fun j hj => hk2 j (by omega) hj)], rfl⟩
theorem containsFuncO {w0 : World} {es : List Ent} {l : List Rx} {g id s : Nat} {l1 l2 : List AV} (p : Rx → Bool) (hg : enterB Tryd.prog g = true) (hl : l.length ≤ 1048576) (hid : at_ es id = some (.row s 29 6 (l.map Rx.cells))) (hp : ∀ x ∈ l, ACalls Tryd.prog w0 g (l1 ++ [.agg x.cells] ++ l2) es fun v es2 => v = .bool (p x) ∧ es2 = es) : ACalls Tryd.prog w0 140 [.own id s, .fn (.func g) l1 l2] es fun v es' => v = .bool (l.any p) ∧ es' = es := by
 refine calls2 (N := 9) Tryd.func140 rfl rfl (by decide) ?_
 refine w_seq ?_
 refine w_region ?_
 refine l_cons rfl (p_assign ?_)
 refine l_nil ?_
 refine k_seq_normal ?_
 refine w_seq ?_
 refine w_region ?_
 refine l_cons rfl (p_move ?_)
 refine l_cons rfl (p_move ?_)
 refine l_cons rfl (p_callr en_157 (indexFuncO p hg hl hid hp) ?_)
 refine l_cons rfl (p_cmp ?_)
 refine l_cons rfl (p_assign ?_)
 refine l_nil ?_
 refine k_seq_normal ?_
 refine w_ret ?_
 refine ret1b rfl ?_ <;> exact ex2 subx ⟨by rw [← firstIdx_ge], rfl⟩
theorem rxOf {w0 : World} {es : List Ent} (kd : Int) (l : List Rx) (z : Rx) (hn : Rx.nodesL l ≤ 1048575) : ACalls Tryd.prog w0 137 [.int .i64 kd, .list 6 (l.map Rx.cells), .agg z.cells] es fun v es' => v = .agg (ofR kd l z).cells ∧ es' = es := by
 refine calls3 (N := 22) Tryd.func137 rfl rfl (by decide) ?_
 refine w_seq ?_
 refine w_region ?_
 refine l_cons rfl (p_box fun s5 => ?_)
 refine l_cons rfl (p_alloc ze_29 fun s6 => ?_)
 refine l_nil ?_
 refine k_seq_normal ?_
 refine w_seq ?_
 refine w_seq ?_
 have hal := Rx.len_le l
 refine w_region ?_
 refine l_cons rfl (p_move ?_)
 refine l_cons rfl (p_lenl sl_27 ?_)
 refine l_nil ?_
 refine k_seq_normal ?_
 refine w_block ?_
 refine w_seq ?_
 refine w_region ?_
 refine l_cons rfl (p_cmp ?_)
 refine l_cons rfl (p_assign ?_)
 refine l_nil ?_
 refine k_seq_normal ?_
 refine w_b (fun h1 => ?_) (fun h1 => ?_)
 ·skip
  have h1' := h1; (try simp only [decide_eq_true_eq, decide_eq_false_iff_not, Bool.not_eq_true', Bool.not_false, Bool.not_true, Bool.not_eq_false'] at h1')
  refine w_seq ?_
  refine w_region ?_
  refine l_cons rfl (p_loadp ty_29 ?_)
  refine l_cons rfl (p_store ty_29 ?_)
  refine l_nil ?_
  refine k_seq_normal ?_
  refine w_ret ?_
  refine k_blk_ret ?_
  refine k_seq_ret ?_
  rw [ofR_nil (by omega)]
  exact retc rfl ty_29 (by first | exact Sub.refl _ | exact sub1 _ _ | exact sub2 _ _ _ | exact sub3 _ _ _ _ | exact sub4 _ _ _ _ _ | exact sub5 _ _ _ _ _ _) ⟨rfl, rfl⟩
 ·skip
  have h1' := h1; (try simp only [decide_eq_true_eq, decide_eq_false_iff_not, Bool.not_eq_true', Bool.not_false, Bool.not_true, Bool.not_eq_false'] at h1')
  refine w_seq ?_
  refine w_region ?_
  refine l_cons rfl (p_cmp ?_)
  refine l_cons rfl (p_assign ?_)
  refine l_nil ?_
  refine k_seq_normal ?_
  refine w_b (fun h2 => ?_) (fun h2 => ?_)
  ·skip
   have h2' := h2; (try simp only [decide_eq_true_eq, decide_eq_false_iff_not, Bool.not_eq_true', Bool.not_false, Bool.not_true, Bool.not_eq_false'] at h2')
   refine w_seq ?_
   refine w_region ?_
   refine l_cons rfl (p_move ?_)
   refine l_cons rfl (p_ixl sl_27 (a := .fptr 6 (l.map Rx.cells) 0 0) ?_ (h0 := by omega) (h1 := by simp only [List.length_map]; omega) (ho := rfl))
   refine l_cons rfl (p_loadf ty_29 (a := .agg (l[0]'(by omega)).cells) ?_ (hr := rxrow_at (l := l) (k := 0) (by omega)) (hl := Nat.le_refl 6) (ha := rfl))
   refine l_cons rfl (p_callr en_156 (rxTwin _ (l[0]'(by omega)) _ (Nat.le_refl _) (by have := Rx.nodes_mem (l := l) (k := 0) (by omega); omega)) ?_)
   refine l_cons rfl (p_store ty_29 ?_)
   refine l_nil ?_
   refine k_seq_normal ?_
   refine w_ret ?_
   refine k_blk_ret ?_
   refine k_seq_ret ?_
   rw [ofR_one (by omega)]
   exact retc rfl ty_29 (by first | exact Sub.refl _ | exact sub1 _ _ | exact sub2 _ _ _ | exact sub3 _ _ _ _ | exact sub4 _ _ _ _ _ | exact sub5 _ _ _ _ _ _) ⟨rfl, rfl⟩
  ·skip
   have h2' := h2; (try simp only [decide_eq_true_eq, decide_eq_false_iff_not, Bool.not_eq_true', Bool.not_false, Bool.not_true, Bool.not_eq_false'] at h2')
   refine w_skip ?_
   refine k_blk_normal ?_
   refine k_seq_normal ?_
   refine w_seq ?_
   refine w_region ?_
   refine l_cons rfl (p_move ?_)
   refine l_cons rfl (p_move ?_)
   refine l_cons rfl (p_build ze_29 pl_29 ?_)
   refine l_cons rfl (p_callr en_156 (cells1 (r := Rx.mk kd noSet l) (rxTwin _ (Rx.mk kd noSet l) _ (Nat.le_refl _) (by simp only [Rx.nodes]; omega))) ?_)
   refine l_cons rfl (p_store ty_29 ?_)
   refine l_nil ?_
   refine k_seq_normal ?_
   refine w_ret ?_
   rw [ofR_two (by omega), Rx.cells_eq]
   exact retc rfl ty_29 (by first | exact Sub.refl _ | exact sub1 _ _ | exact sub2 _ _ _ | exact sub3 _ _ _ _ | exact sub4 _ _ _ _ _ | exact sub5 _ _ _ _ _ _) ⟨rfl, rfl⟩
end Go.Proofs.YtfdgbghlanbddaaDoor.Av
