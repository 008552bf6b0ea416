import Derived.Test.YtfdgbghlanbddaaDoorAvK0
import Derived.Test.YtfdgbghlanbddaaDoorAvK1
import Derived.Test.YtfdgbghlanbddaaDoorAvK2
import Derived.Test.YtfdgbghlanbddaaDoorAvK3
import Derived.KernelRfl
set_option linter.unusedVariables false
set_option linter.unusedSimpArgs false
set_option maxRecDepth 8000
namespace Go.Proofs.YtfdgbghlanbddaaDoor.Av
open Go.RowKit Go.Proofs
theorem subM (a b c d e f g h : Ent) (es : List Ent) : Sub es (a :: b :: c :: d :: e :: f :: g :: h :: es) := (sub3 f g h es).trans (sub5 a b c d e _)
theorem setRows_get {l : List (List Int)} {k : Nat} {x : List Int} (h : l[k]? = some x) : (setRows l)[k]? = some [ints x] := by simp [setRows, h]
theorem cleans_i64 (l : List Int) : (l.map fun n => [AV.int .i64 n]).all cleans = true := by
  rw [List.all_eq_true]
  intro x hx
  obtain ⟨r, _, rfl⟩ := List.mem_map.1 hx
  rfl
theorem cleans_bool (l : List Bool) : (l.map fun b => [AV.bool b]).all cleans = true := by
  rw [List.all_eq_true]
  intro x hx
  obtain ⟨r, _, rfl⟩ := List.mem_map.1 hx
  rfl
theorem rowTo_at {n : Nf} {fs : List Int} {sets : List (List Int)} {x : List Int} {i j : Nat} (hi : i < sets.length) (hj : j ≤ fs.length) : (rowTo n fs sets x j).1[i]? = some sets[i] := by
  obtain ⟨⟨t, ht⟩, _⟩ := rowTo_prefix (n := n) (fs := fs) (sets := sets) (x := x) (Nat.zero_le j) hj
  rw [ht, rowTo_zero, List.getElem?_append_left hi, List.getElem?_eq_getElem hi]
theorem rowTo_low {n : Nf} {fs : List Int} {sets : List (List Int)} {x : List Int} {j : Nat} (hst : n.st.length ≤ 2000) (h : ∀ y ∈ sets, ∃ l, y = closed n l) (hj : j ≤ fs.length) : ∀ y ∈ (rowTo n fs sets x j).1, low y := by
  intro y hy
  obtain ⟨l, rfl⟩ := rowTo_closed h hj y hy
  exact closed_low hst l
theorem bfs_short {n : Nf} {fs : List Int} (k : Nat) : ∀ y ∈ (bfs n fs k).sets, y.length ≤ n.st.length := by
  intro y hy
  obtain ⟨l, rfl⟩ := bfs_closed k y hy
  exact closed_len n l
theorem make_form {n : Nf} {mx : Int} (h : mayN n = false) : makeN n mx = (zeroD, 3) := by
  unfold makeN
  rw [if_neg (by rw [h]; decide)]
theorem make_budget {n : Nf} {mx : Int} (h : mayN n = true) {i : Nat} (hi : max mx 0 < ((bfs n n.firsts i).sets.length : Int)) : makeN n mx = (zeroD, 7) := by
  unfold makeN
  rw [if_pos h, if_pos]
  exact bfs_much (i := i) (by omega)
theorem make_done {n : Nf} {mx : Int} (h : mayN n = true) {i : Nat} (h1 : (bfs n n.firsts i).sets.length ≤ i) (h2 : ((bfs n n.firsts i).sets.length : Int) ≤ max mx 0) : makeN n mx = (⟨clsOf n.al, (bfs n n.firsts i).next, (bfs n n.firsts i).ends⟩, 0) := by
  have h3 := bfs_fin (M := (max mx 0).toNat) h1 (by omega)
  unfold makeN
  rw [if_pos h, h3, if_neg (by omega)]
theorem make_walk {w0 : World} {es : List Ent} (n : Nf) (mx : Int) (hs : ∀ s ∈ n.sets, s.ok) (hM : mx ≤ 100000) : ACalls Tryd.prog w0 47 [n.av, .int .i64 mx] es fun v es' => v = .tup [.agg (makeN n mx).1.cells, .int .i64 (makeN n mx).2] ∧ es' = es := by
  unfold Nf.av
  have hrl := repsTo_len n.al 256
  have hfl := n.firsts_len
  refine calls2 (N := 120) Tryd.func47 rfl rfl (by decide) ?_
  refine w_seq ?_
  refine w_region ?_
  refine l_cons rfl (p_box fun s2 => ?_)
  refine l_cons rfl (p_alloc ze_d fun s4 => ?_)
  rw [dRow_len]
  refine l_cons rfl (p_assign ?_)
  refine l_nil ?_
  refine k_seq_normal ?_
  refine w_seq ?_
  refine w_seq ?_
  refine w_region ?_
  refine l_cons rfl (p_loadp ty_36 ?_)
  refine l_cons rfl (p_callr en_30 (may n) ?_)
  refine l_cons rfl (p_not ?_)
  refine l_nil ?_
  refine k_seq_normal ?_
  refine w_b (fun h1 => ?_) (fun h1 => ?_)
  · skip
    have h1' := h1; (try simp only [decide_eq_true_eq, decide_eq_false_iff_not, Bool.not_eq_true', Bool.not_false, Bool.not_true, Bool.not_eq_false'] at h1')
    refine w_seq ?_
    refine w_region ?_
    refine l_cons rfl (p_build ze_d pl_62 ?_)
    refine l_cons rfl (p_store ty_62 (r' := dRow (fun _ => 0) .nil .nil) ?_ (hl := by rw [dRow_len]; exact Nat.le_refl _) (hn := dRow_len) (hr' := dRow_putAll))
    refine l_cons rfl (p_assign ?_)
    refine l_nil ?_
    refine k_seq_normal ?_
    refine w_ret ?_
    refine k_seq_ret ?_
    rw [make_form (by simpa using h1')]
    exact retctw rfl ty_62 (by first | exact sub2 _ _ _ | exact sub3 _ _ _ _ | exact subM _ _ _ _ _ _ _ _ _) (fun _ _ _ => rep_zero) ⟨rfl, rfl⟩ (hl := by rw [dRow_len]; exact Nat.le_refl _) (ha := dRow_all)
  · skip
    have h1' := h1; (try simp only [decide_eq_true_eq, decide_eq_false_iff_not, Bool.not_eq_true', Bool.not_false, Bool.not_true, Bool.not_eq_false'] at h1')
    refine w_skip ?_
    refine k_seq_normal ?_
    refine w_seq ?_
    have hst := may_le h1'
    refine w_region ?_
    refine l_cons rfl (p_alloc ze_d fun s6 => ?_)
    rw [dRow_len]
    refine l_nil ?_
    refine k_seq_normal ?_
    refine w_seq ?_
    refine w_region ?_
    refine l_cons rfl (p_assign ?_)
    refine l_nil ?_
    refine k_seq_normal ?_
    refine w_seq ?_
    refine w_region ?_
    refine l_cons rfl (p_loadp ty_36 ?_)
    refine l_cons rfl (p_callr en_49 (subClasses n hs (by omega)) ?_)
    refine l_cons rfl (p_move ?_)
    refine l_cons rfl (p_extract ?_ (hl := Nat.le_of_ble_eq_true rfl))
    refine l_cons rfl (p_extract ?_ (hl := Nat.le_of_ble_eq_true rfl))
    refine l_cons rfl (p_fap fa_62_0 ?_)
    refine l_cons rfl (p_store ty_58 (r' := dRow (fun i => (clsOf n.al i : Int)) .nil .nil) ?_ (hl := by rw [dRow_len]; omega) (hn := byteT_len _) (hr' := dRow_putCls))
    refine l_cons rfl (p_assign ?_)
    refine l_nil ?_
    refine k_seq_normal ?_
    refine w_seq ?_
    refine w_adoptCell' (i := 256) 48 1 loc_hit dRow_256 fun sN => ?_
    rw [dRow_set256]
    refine w_adoptCell' (i := 257) 4 1 (loc_miss loc_hit) dRow_257 fun sE => ?_
    rw [dRow_set257]
    refine w_region ?_
    refine l_cons rfl (p_move ?_)
    refine l_cons rfl (p_makeSlice sl_22 by_5 ze_5 fun s8 => ?_)
    refine l_cons rfl (p_assign ?_)
    refine l_nil ?_
    refine k_seq_normal ?_
    refine w_seq ?_
    refine w_seq ?_
    refine w_region ?_
    refine l_cons rfl (p_assign ?_)
    refine l_nil ?_
    refine k_seq_normal ?_
    refine w_block ?_
    refine w_loop (fun m f es' => ∃ k, m = k ∧ k ≤ 256 ∧ Sub (.row s8 5 1 ((firstTo n.al k).map fun n => [AV.int .u8 n]) :: (.row sE 4 1 [] :: .row sN 48 1 [] :: .row s6 62 258 [dRow (fun i => (clsOf n.al i : Int)) (.own (es.length + 3) sN) (.own (es.length + 4) sE)] :: .row s4 62 258 [dRow (fun _ => 0) .nil .nil] :: .row s2 36 3 [n.cells] :: es)) es' ∧ Knows f [(1, .int .i64 mx), (2, .ptr es.length s2 0 0), (4, .ptr (es.length + 1) s4 0 0), (6, .ptr (es.length + 2) s6 0 0), (8, .own (es.length + 5) s8), (9, .int .i64 ((k : Int) - 1))]) (256) (⟨256, rfl, Nat.le_refl _, by rw [firstTo_top, List.map_replicate]; simp only [Int.toNat_natCast]; exact Sub.refl _, by simp only [Knows, put, upd_apply, Nat.reduceEqDiff, ↓reduceIte, and_true, true_and, eq_self] <;> and_intros <;> rfl⟩) ?_
    rintro m f es' ⟨k, rfl, hk1, hsub, hk⟩
    refine w_pins _ hsub (hk) ?_
    simp only [pins]
    refine w_seq ?_
    refine w_seq ?_
    refine w_region ?_
    refine l_cons rfl (p_move ?_)
    refine l_cons rfl (p_cmp ?_)
    refine l_nil ?_
    refine k_seq_normal ?_
    refine w_b (fun h2 => ?_) (fun h2 => ?_)
    · skip
      have h2' := h2; (try simp only [decide_eq_true_eq, decide_eq_false_iff_not, Bool.not_eq_true', Bool.not_false, Bool.not_true, Bool.not_eq_false'] at h2')
      refine w_skip ?_
      refine k_seq_normal ?_
      refine w_seq ?_
      refine w_block ?_
      obtain ⟨b, rfl⟩ : ∃ b, m = b + 1 := ⟨m - 1, by omega⟩
      rw [show (((b + 1 : Nat) : Int) - 1) = (b : Int) by omega]
      have hcb := cls_lt' n.al (show b < 256 by omega)
      refine w_region ?_
      refine l_cons rfl (p_move ?_)
      refine l_cons rfl (p_move ?_)
      refine l_cons rfl (p_fap fa_62_0 ?_)
      refine l_cons rfl (p_ixa ar_58 (a := .ptr (es.length + 2) s6 0 b) ?_ (h0 := by omega) (h1 := by omega) (ho := by simp))
      refine l_cons rfl (p_loadp ty_5 (a := .int .u8 (clsOf n.al b : Int)) ?_ (hl := by rw [dRow_len]; omega) (ha := dRow_load (p := (fun i => (clsOf n.al i : Int))) (k := b) (by omega)))
      refine l_cons rfl (p_move ?_)
      refine l_cons rfl (p_conv in_3 in_5 ?_ (hb := wrap8 (n := (b : Int)) (by omega) (by omega)))
      refine l_cons rfl (p_ixo sl_22 (a := .ptr (es.length + 5) s8 (clsOf n.al b) 0) ?_ (h0 := by omega) (h1 := by simp only [List.length_map, firstTo_len]; omega))
      refine l_cons rfl (p_store ty_5 (r' := [.int .u8 (b : Int)]) ?_ (hr := rowU8 (by rw [firstTo_len]; exact hcb)) (hl := Nat.le_refl 1) (hr' := rfl))
      refine l_nil ?_
      refine k_blk_normal ?_
      refine k_seq_normal ?_
      refine w_region ?_
      refine l_cons rfl (p_move ?_)
      refine l_cons rfl (p_arith ?_)
      refine l_cons rfl (p_assign ?_)
      refine l_nil ?_
      refine k_seq_normal ?_
      exact ⟨b, by omega, b, rfl, by omega, by rw [← firstTo_step n.al (show b < 256 by omega), List.map_set]; exact Sub.refl _, by simp only [Knows, put, upd_apply, Nat.reduceEqDiff, ↓reduceIte, and_true, true_and, eq_self] <;> and_intros <;> rfl⟩
    · skip
      have h2' := h2; (try simp only [decide_eq_true_eq, decide_eq_false_iff_not, Bool.not_eq_true', Bool.not_false, Bool.not_true, Bool.not_eq_false'] at h2')
      refine w_exit ?_
      refine k_seq_exit ?_
      refine k_seq_exit ?_
      refine k_blk_here ?_
      refine k_seq_normal ?_
      refine w_seq ?_
      obtain rfl : m = 0 := by omega
      rw [firstTo_all n.eqv, show (repsTo n.al 256).map Int.ofNat = n.firsts from rfl]
      refine w_freezeTop 8 ?_ (hclean := cleans_u8 _)
      refine w_region ?_
      refine l_cons rfl (p_makeMap fun s39 => ?_)
      refine l_cons rfl (p_build ze_109 pl_109 ?_)
      refine l_cons rfl (p_box fun s41 => ?_)
      refine l_cons rfl (p_assign ?_)
      refine l_nil ?_
      refine k_seq_normal ?_
      refine w_seq ?_
      refine w_adoptCell' (i := 0) 48 1 loc_hit rfl fun sS => ?_
      refine w_region ?_
      refine l_cons rfl (p_move ?_)
      refine l_cons rfl (p_loadp ty_36 ?_)
      refine l_cons rfl (p_fap fa_36_1 ?_)
      refine l_cons rfl (p_loadp ty_3 ?_)
      refine l_cons rfl (p_buildList sl_48 ze_3 ?_)
      refine l_cons rfl (p_callr en_78 (closed_walk n [n.start] (by omega)) ?_)
      refine l_cons rfl (p_call en_89 ((place_mk (T := (.row sE 4 1 [] :: .row sN 48 1 [] :: .row s6 62 258 [dRow (fun i => (clsOf n.al i : Int)) (.own (es.length + 3) sN) (.own (es.length + 4) sE)] :: .row s4 62 258 [dRow (fun _ => 0) .nil .nil] :: .row s2 36 3 [n.cells] :: es)) (sS := sS) [] (closed n [n.start]) (closed_low hst _) (fun y hy => absurd hy List.not_mem_nil) (Nat.zero_le _) (by have := closed_len n [n.start]; omega)).mono ?_))
      rintro _ es1 ⟨rfl, sS, rfl⟩
      refine l_nil ?_
      refine k_seq_normal ?_
      refine w_seq ?_
      refine w_seq ?_
      refine w_region ?_
      refine l_cons rfl (p_assign ?_)
      refine l_nil ?_
      refine k_seq_normal ?_
      refine w_block ?_
      refine w_loop (fun m f es' => ∃ i sE sN sS, m = (max mx 0).toNat + 1 - i ∧ i ≤ (bfs n n.firsts i).sets.length ∧ i ≤ (max mx 0).toNat ∧ Sub (.row sS 48 1 (setRows (bfs n n.firsts i).sets) :: .row s41 109 2 [[.own (es.length + 7) sS, .mp (es.length + 5) s39]] :: .mp s39 (keysOf (bfs n n.firsts i).sets) :: .row sE 4 1 ((bfs n n.firsts i).ends.map fun b => [AV.bool b]) :: .row sN 48 1 (setRows (bfs n n.firsts i).next) :: .row s6 62 258 [dRow (fun i => (clsOf n.al i : Int)) (.own (es.length + 3) sN) (.own (es.length + 4) sE)] :: .row s4 62 258 [dRow (fun _ => 0) .nil .nil] :: .row s2 36 3 [n.cells] :: es) es' ∧ Knows f [(1, .int .i64 mx), (2, .ptr es.length s2 0 0), (4, .ptr (es.length + 1) s4 0 0), (6, .ptr (es.length + 2) s6 0 0), (8, .list 1 (n.firsts.map fun n => [.int .u8 n])), (10, .ptr (es.length + 6) s41 0 0), (11, .int .i64 (i : Int))]) ((max mx 0).toNat + 1) (⟨0, sE, sN, sS, rfl, Nat.zero_le _, Nat.zero_le _, Sub.refl _, by simp only [Knows, put, upd_apply, Nat.reduceEqDiff, ↓reduceIte, and_true, true_and, eq_self] <;> and_intros <;> rfl⟩) ?_
      rintro m f es' ⟨i, sE, sN, sS, rfl, hi1, hi2, hsub, hk⟩
      have hbl := bfs_lens (n := n) (fs := n.firsts) i
      refine w_pins _ hsub (hk) ?_
      simp only [pins]
      refine w_seq ?_
      refine w_seq ?_
      refine w_region ?_
      refine l_cons rfl (p_move ?_)
      refine l_cons rfl (p_move ?_)
      first | refine l_cons rfl (p_ncp ?_) | refine l_cons rfl (p_ncf ?_)
      refine l_cons rfl (p_fap fa_109_0 ?_)
      refine l_cons rfl (p_loadp ty_59 (a := .own (es.length + 7) sS) ?_)
      refine l_cons rfl (p_leno sl_59 (a := .int .i64 ((bfs n n.firsts i).sets.length : Int)) ?_ (ha := by rw [setRows_len]))
      refine l_cons rfl (p_cmp ?_)
      refine l_nil ?_
      refine k_seq_normal ?_
      refine w_b (fun h3 => ?_) (fun h3 => ?_)
      · skip
        have h3' := h3; (try simp only [decide_eq_true_eq, decide_eq_false_iff_not, Bool.not_eq_true', Bool.not_false, Bool.not_true, Bool.not_eq_false'] at h3')
        refine w_skip ?_
        refine k_seq_normal ?_
        refine w_seq ?_
        refine w_block ?_
        refine w_seq ?_
        refine w_seq ?_
        refine w_region ?_
        refine l_cons rfl (p_move ?_)
        first | refine l_cons rfl (p_ncp ?_) | refine l_cons rfl (p_ncf ?_)
        refine l_cons rfl (p_fap fa_109_0 ?_)
        refine l_cons rfl (p_loadp ty_59 (a := .own (es.length + 7) sS) ?_)
        refine l_cons rfl (p_leno sl_59 (a := .int .i64 ((bfs n n.firsts i).sets.length : Int)) ?_ (ha := by rw [setRows_len]))
        refine l_cons rfl (p_move ?_)
        refine l_cons rfl (p_max ?_)
        refine l_cons rfl (p_cmp ?_)
        refine l_nil ?_
        refine k_seq_normal ?_
        refine w_b (fun h4 => ?_) (fun h4 => ?_)
        · skip
          have h4' := h4; (try simp only [decide_eq_true_eq, decide_eq_false_iff_not, Bool.not_eq_true', Bool.not_false, Bool.not_true, Bool.not_eq_false'] at h4')
          refine w_seq ?_
          refine w_region ?_
          refine l_cons rfl (p_build ze_d pl_62 ?_)
          refine l_cons rfl (p_store ty_62 (r' := dRow (fun _ => 0) .nil .nil) ?_ (hl := by rw [dRow_len]; exact Nat.le_refl _) (hn := dRow_len) (hr' := dRow_putAll))
          refine l_cons rfl (p_assign ?_)
          refine l_nil ?_
          refine k_seq_normal ?_
          refine w_ret ?_
          refine k_seq_ret ?_
          refine k_blk_ret ?_
          refine k_seq_ret ?_
          refine k_seq_ret ?_
          refine k_blk_ret ?_
          refine k_seq_ret ?_
          rw [make_budget (by simpa using h1') (i := i) (by omega)]
          exact retctw rfl ty_62 (by first | exact sub2 _ _ _ | exact sub3 _ _ _ _ | exact subM _ _ _ _ _ _ _ _ _) (fun _ _ _ => rep_zero) ⟨rfl, rfl⟩ (hl := by rw [dRow_len]; exact Nat.le_refl _) (ha := dRow_all)
        · skip
          have h4' := h4; (try simp only [decide_eq_true_eq, decide_eq_false_iff_not, Bool.not_eq_true', Bool.not_false, Bool.not_true, Bool.not_eq_false'] at h4')
          refine w_skip ?_
          refine k_seq_normal ?_
          refine w_seq ?_
          refine w_region ?_
          refine l_cons rfl (p_assign ?_)
          refine l_nil ?_
          refine k_seq_normal ?_
          refine w_seq ?_
          refine w_seq ?_
          refine w_adopt 12 3 1 rfl fun s12 => ?_
          simp only [upd_upd]
          refine w_region ?_
          refine l_cons rfl (p_move ?_)
          refine l_cons rfl (p_lenl sl_22 ?_)
          refine l_cons rfl (p_move ?_)
          refine l_nil ?_
          refine k_seq_normal ?_
          refine w_block ?_
          refine w_loop (fun m f es' => ∃ j sS s12, m = n.firsts.length - j ∧ j ≤ n.firsts.length ∧ Sub (.row s12 3 1 ((rowTo n n.firsts (bfs n n.firsts i).sets ((bfs n n.firsts i).sets[i]'(by omega)) j).2.map fun n => [AV.int .i64 n]) :: .row sS 48 1 (setRows (rowTo n n.firsts (bfs n n.firsts i).sets ((bfs n n.firsts i).sets[i]'(by omega)) j).1) :: .row s41 109 2 [[.own (es.length + 7) sS, .mp (es.length + 5) s39]] :: .mp s39 (keysOf (rowTo n n.firsts (bfs n n.firsts i).sets ((bfs n n.firsts i).sets[i]'(by omega)) j).1) :: .row sE 4 1 ((bfs n n.firsts i).ends.map fun b => [AV.bool b]) :: .row sN 48 1 (setRows (bfs n n.firsts i).next) :: .row s6 62 258 [dRow (fun i => (clsOf n.al i : Int)) (.own (es.length + 3) sN) (.own (es.length + 4) sE)] :: .row s4 62 258 [dRow (fun _ => 0) .nil .nil] :: .row s2 36 3 [n.cells] :: es) es' ∧ Knows f [(1, .int .i64 mx), (2, .ptr es.length s2 0 0), (4, .ptr (es.length + 1) s4 0 0), (6, .ptr (es.length + 2) s6 0 0), (8, .list 1 (n.firsts.map fun n => [.int .u8 n])), (10, .ptr (es.length + 6) s41 0 0), (11, .int .i64 (i : Int)), (12, .own (es.length + 8) s12), (67, .list 1 (n.firsts.map fun n => [.int .u8 n])), (68, .int .i64 (n.firsts.length : Int)), (69, .int .i64 (j : Int))]) (n.firsts.length) (⟨0, sS, s12, (Nat.sub_zero _).symm, Nat.zero_le _, by rw [rowTo_zero]; exact Sub.refl _, by simp only [Knows, put, upd_apply, Nat.reduceEqDiff, ↓reduceIte, and_true, true_and, eq_self] <;> and_intros <;> rfl⟩) ?_
          rintro m f es' ⟨j, sS, s12, rfl, hj1, hsub, hk⟩
          have hgx := rowTo_at (n := n) (fs := n.firsts) (x := ((bfs n n.firsts i).sets[i]'(by omega))) (show i < (bfs n n.firsts i).sets.length by omega) hj1
          have hrl2 := rowTo_len2 (n := n) (fs := n.firsts) (sets := (bfs n n.firsts i).sets) (x := ((bfs n n.firsts i).sets[i]'(by omega))) hj1
          have hrc := rowTo_cap (n := n) (fs := n.firsts) (sets := (bfs n n.firsts i).sets) (x := ((bfs n n.firsts i).sets[i]'(by omega))) j hj1
          have hrlow := rowTo_low (fs := n.firsts) hst (bfs_closed (fs := n.firsts) i) hj1 (x := ((bfs n n.firsts i).sets[i]'(by omega)))
          have fsl := bfs_short (n := n) (fs := n.firsts) i
          have hix := (List.getElem?_eq_some_iff.1 hgx).1
          refine w_pins _ hsub (hk) ?_
          simp only [pins]
          refine w_seq ?_
          refine w_region ?_
          refine l_cons rfl (p_cmp ?_)
          refine l_nil ?_
          refine k_seq_normal ?_
          refine w_seq ?_
          refine w_b (fun h5 => ?_) (fun h5 => ?_)
          · skip
            have h5' := h5; (try simp only [decide_eq_true_eq, decide_eq_false_iff_not, Bool.not_eq_true', Bool.not_false, Bool.not_true, Bool.not_eq_false'] at h5')
            refine w_skip ?_
            refine k_seq_normal ?_
            refine w_seq ?_
            refine w_block ?_
            refine w_seq ?_
            refine w_region ?_
            refine l_cons rfl (p_ixl sl_22 (a := .fptr 1 (n.firsts.map fun n => [.int .u8 n]) j 0) ?_ (h0 := by omega) (h1 := by simp only [List.length_map]; omega))
            refine l_cons rfl (p_loadf ty_5 (a := .int .u8 (n.firsts[j]'(by omega))) ?_ (hr := rowU8 (by omega)) (hl := Nat.le_refl 1) (ha := rfl))
            refine l_cons rfl (p_assign ?_)
            refine l_nil ?_
            refine k_seq_normal ?_
            have hfj := Nf.firsts_mem (List.getElem_mem (show j < n.firsts.length by omega))
            refine w_drawn 14 [6, 8, 9, 11, 12, 13] (fun e => at_ e es.length = some (.row s2 36 3 [n.cells])) mixed (by kernel_rfl) (at_miss _ (at_miss _ (at_miss _ (at_miss _ (at_miss _ (at_miss _ (at_miss _ (at_miss _ (at_hit _ _))))))))) ?_
            refine q1 12 (hg := rfl) (hu := rfl) (h := by rintro f _ hG1; exact p_move ⟨rfl, rfl⟩) (k := ?_)
            refine q1 10 (hg := rfl) (hu := rfl) (h := by rintro f _ hG1; exact p_move ⟨rfl, rfl⟩) (k := ?_)
            refine q1 2 (hg := rfl) (hu := rfl) (h := by rintro f _ hG1; exact p_loadp ty_36 ⟨rfl, rfl⟩) (k := ?_)
            refine q1 10 (hg := rfl) (hu := rfl) (h := by rintro f _ hG1; exact p_move ⟨rfl, rfl⟩) (k := ?_)
            first | refine q1 76 (hg := rfl) (hu := rfl) (h := by rintro f _ hG1; exact p_ncp ⟨rfl, rfl⟩) (k := ?_) | refine q1 76 (hg := rfl) (hu := rfl) (h := by rintro f _ hG1; exact p_ncf ⟨rfl, rfl⟩) (k := ?_)
            refine q1 77 (hg := rfl) (hu := rfl) (h := by rintro f _ hG1; exact p_fap fa_109_0 ⟨rfl, rfl⟩) (k := ?_)
            refine q1 11 (hg := rfl) (hu := rfl) (h := by rintro f _ hG1; exact p_move ⟨rfl, rfl⟩) (k := ?_)
            refine q1 14 (hg := rfl) (hu := rfl) (h := by rintro f _ hG1; exact p_move ⟨rfl, rfl⟩) (k := ?_)
            refine q_end ?_
            refine m1 78 (hu := rfl) (h := fun f => p_loadp ty_59 (a := .own (es.length + 7) sS) ?_)
            refine ⟨_, rfl, at_miss _ (at_miss _ (at_miss _ (at_miss _ (at_miss _ (at_miss _ (at_miss _ (at_miss _ (at_hit _ _)))))))), ?_⟩
            refine m2 79 80 (hu := rfl) (h := fun f => p_ixo sl_59 (a := .ptr (es.length + 7) sS i 0) ?_ (h0 := by omega) (h1 := by rw [setRows_len]; omega))
            refine ⟨_, rfl, at_miss _ (at_miss _ (at_miss _ (at_miss _ (at_miss _ (at_miss _ (at_miss _ (at_miss _ (at_hit _ _)))))))), ?_⟩
            refine m1 81 (hu := rfl) (h := fun f => p_loadp ty_48 (a := ints ((bfs n n.firsts i).sets[i]'(by omega))) ?_ (hr := setRows_get hgx) (hl := Nat.le_refl 1) (ha := rfl))
            refine ⟨_, rfl, at_miss _ (at_miss _ (at_miss _ (at_miss _ (at_miss _ (at_miss _ (at_miss _ (at_miss _ (at_hit _ _)))))))), ?_⟩
            refine m3 75 82 83 (hu := rfl) (h := fun f => p_callr en_79 (stepped_walk n ((bfs n n.firsts i).sets[i]'(by omega)) (n.firsts[j]'(by omega)) hst (by have := fsl _ (List.getElem_mem (show i < (bfs n n.firsts i).sets.length by omega)); omega) hfj.1 hfj.2) ?_)
            refine ⟨_, rfl, at_miss _ (at_miss _ (at_miss _ (at_miss _ (at_miss _ (at_miss _ (at_miss _ (at_miss _ (at_hit _ _)))))))), ?_⟩
            refine m2 74 84 (hu := rfl) (h := fun f => p_call en_89 ((place_mk1 (T := (.row sE 4 1 ((bfs n n.firsts i).ends.map fun b => [AV.bool b]) :: .row sN 48 1 (setRows (bfs n n.firsts i).next) :: .row s6 62 258 [dRow (fun i => (clsOf n.al i : Int)) (.own (es.length + 3) sN) (.own (es.length + 4) sE)] :: .row s4 62 258 [dRow (fun _ => 0) .nil .nil] :: .row s2 36 3 [n.cells] :: es)) (sS := sS) (rowTo n n.firsts (bfs n n.firsts i).sets ((bfs n n.firsts i).sets[i]'(by omega)) j).1 (stepped n ((bfs n n.firsts i).sets[i]'(by omega)) (n.firsts[j]'(by omega))) (closed_low hst _) hrlow (by omega) (by have := closed_len n (stepTo n ((bfs n n.firsts i).sets[i]'(by omega)) (n.firsts[j]'(by omega))); unfold stepped; omega)).mono ?_))
            rintro _ es1 ⟨rfl, sS', rfl⟩
            simp only [mkE]
            refine ⟨_, rfl, at_miss _ (at_miss _ (at_miss _ (at_miss _ (at_miss _ (at_miss _ (at_miss _ (at_miss _ (at_hit _ _)))))))), ?_⟩
            refine m1 85 (hu := rfl) (h := fun f => p_buildList sl_48 ze_3 ?_)
            refine ⟨_, rfl, at_miss _ (at_miss _ (at_miss _ (at_miss _ (at_miss _ (at_miss _ (at_miss _ (at_miss _ (at_hit _ _)))))))), ?_⟩
            refine m_end ?_
            refine l_cons rfl (p_append sl_48 by_3 ze_3 (fun s87 => ?_) (hb := by simp only [setRows_len, List.length_map, List.length_cons, List.length_nil, most]; omega))
            refine l_cons rfl (p_assign ?_)
            refine l_nil ?_
            refine k_blk_normal ?_
            refine k_seq_normal ?_
            refine w_region ?_
            refine l_cons rfl (p_arith ?_)
            refine l_cons rfl (p_move ?_)
            refine l_nil ?_
            refine k_seq_normal ?_
            exact ⟨n.firsts.length - (j + 1), by omega, j + 1, sS', s87, rfl, by omega, by rw [rowTo_succ (by omega), List.map_append]; exact Sub.refl _, by simp only [Knows, put, upd_apply, Nat.reduceEqDiff, ↓reduceIte, and_true, true_and, eq_self] <;> and_intros <;> rfl⟩
          · skip
            have h5' := h5; (try simp only [decide_eq_true_eq, decide_eq_false_iff_not, Bool.not_eq_true', Bool.not_false, Bool.not_true, Bool.not_eq_false'] at h5')
            refine w_exit ?_
            refine k_seq_exit ?_
            refine k_seq_exit ?_
            refine k_blk_here ?_
            refine k_seq_normal ?_
            refine w_seq ?_
            have hjj : j = n.firsts.length := by omega
            refine w_freezeTop 12 ?_ (hclean := cleans_i64 _)
            refine w_region ?_
            refine l_cons rfl (p_fap fa_62_1 ?_)
            refine l_cons rfl (p_loadp ty_59 (a := .own (es.length + 3) sN) ?_ (hl := by rw [dRow_len]; omega) (ha := dRow_load256))
            refine l_cons rfl (p_move ?_)
            refine l_cons rfl (p_buildList sl_59 ze_48 (rows := [[ints (rowTo n n.firsts (bfs n n.firsts i).sets ((bfs n n.firsts i).sets[i]'(by omega)) j).2]]) ?_ (hr := rfl))
            refine l_cons rfl (p_append sl_59 by_48 ze_48 (fun s93 => ?_) (hb := by simp only [setRows_len, List.length_map, List.length_cons, List.length_nil, most]; omega))
            refine l_cons rfl (p_fap fa_62_1 ?_)
            refine l_cons rfl (p_store ty_59 (r' := dRow (fun i => (clsOf n.al i : Int)) (.own (es.length + 3) s93) (.own (es.length + 4) sE)) ?_ (hl := by rw [dRow_len]; omega) (hr' := dRow_put256))
            refine l_nil ?_
            refine k_seq_normal ?_
            refine w_drawn 13 [] (fun e => e = _) mixed (by kernel_rfl) rfl ?_
            refine q1 6 (hg := rfl) (hu := rfl) (h := by rintro f _ rfl; exact p_fap fa_62_2 ⟨rfl, rfl⟩) (k := ?_)
            refine q1 95 (hg := rfl) (hu := rfl) (h := by rintro f _ rfl; exact p_loadp ty_60 (a := .own (es.length + 4) sE) ⟨rfl, rfl⟩ (hl := by rw [dRow_len]; omega) (ha := dRow_load257)) (k := ?_)
            refine q1 10 (hg := rfl) (hu := rfl) (h := by rintro f _ rfl; exact p_move ⟨rfl, rfl⟩) (k := ?_)
            first | refine q1 97 (hg := rfl) (hu := rfl) (h := by rintro f _ rfl; exact p_ncp ⟨rfl, rfl⟩) (k := ?_) | refine q1 97 (hg := rfl) (hu := rfl) (h := by rintro f _ rfl; exact p_ncf ⟨rfl, rfl⟩) (k := ?_)
            refine q1 98 (hg := rfl) (hu := rfl) (h := by rintro f _ rfl; exact p_fap fa_109_0 ⟨rfl, rfl⟩) (k := ?_)
            refine q1 99 (hg := rfl) (hu := rfl) (h := by rintro f _ rfl; exact p_loadp ty_59 (a := .own (es.length + 7) sS) ⟨rfl, rfl⟩) (k := ?_)
            refine q1 11 (hg := rfl) (hu := rfl) (h := by rintro f _ rfl; exact p_move ⟨rfl, rfl⟩) (k := ?_)
            refine q2 100 101 (hg := rfl) (hu := rfl) (h := by rintro f _ rfl; exact p_ixo sl_59 (a := .ptr (es.length + 7) sS i 0) ⟨rfl, rfl⟩ (h0 := by omega) (h1 := by rw [setRows_len]; omega)) (k := ?_)
            refine q1 102 (hg := rfl) (hu := rfl) (h := by rintro f _ rfl; exact p_loadp ty_48 (a := ints ((bfs n n.firsts i).sets[i]'(by omega))) ⟨rfl, rfl⟩ (hr := setRows_get hgx) (hl := Nat.le_refl 1) (ha := rfl)) (k := ?_)
            refine q1 2 (hg := rfl) (hu := rfl) (h := by rintro f _ rfl; exact p_fap fa_36_2 ⟨rfl, rfl⟩) (k := ?_)
            refine q1 104 (hg := rfl) (hu := rfl) (h := by rintro f _ rfl; exact p_loadp ty_3 ⟨rfl, rfl⟩) (k := ?_)
            refine q2 103 105 (hg := rfl) (hu := rfl) (h := by rintro f _ rfl; exact p_callr en_80 (contains_walk ((bfs n n.firsts i).sets[i]'(by omega)) n.stop) ⟨rfl, rfl⟩) (k := ?_)
            refine q1 106 (hg := rfl) (hu := rfl) (h := by rintro f _ rfl; exact p_buildList sl_60 ze_4 ⟨rfl, rfl⟩) (k := ?_)
            refine q_end ?_
            refine m_end ?_
            refine l_cons rfl (p_append sl_60 by_4 ze_4 (fun s108 => ?_) (hb := by simp only [setRows_len, List.length_map, List.length_cons, List.length_nil, most]; omega))
            refine l_cons rfl (p_fap fa_62_2 ?_)
            refine l_cons rfl (p_store ty_60 (r' := dRow (fun i => (clsOf n.al i : Int)) (.own (es.length + 3) s93) (.own (es.length + 4) s108)) ?_ (hl := by rw [dRow_len]; omega) (hr' := dRow_put257))
            refine l_nil ?_
            refine k_blk_normal ?_
            refine k_seq_normal ?_
            refine w_region ?_
            refine l_cons rfl (p_move ?_)
            refine l_cons rfl (p_arith ?_)
            refine l_cons rfl (p_assign ?_)
            refine l_nil ?_
            refine k_seq_normal ?_
            have hb3 := bfs_le (n := n) (fs := n.firsts) (show i ≤ i + 1 by omega)
            exact ⟨(max mx 0).toNat + 1 - (i + 1), by omega, i + 1, s108, s93, sS, rfl, by omega, by omega, by rw [bfs_alive (show i < (bfs n n.firsts i).sets.length by omega), ← hjj, setRows_app, List.map_append]; exact Sub.refl _, by simp only [Knows, put, upd_apply, Nat.reduceEqDiff, ↓reduceIte, and_true, true_and, eq_self] <;> and_intros <;> rfl⟩
      · skip
        have h3' := h3; (try simp only [decide_eq_true_eq, decide_eq_false_iff_not, Bool.not_eq_true', Bool.not_false, Bool.not_true, Bool.not_eq_false'] at h3')
        refine w_exit ?_
        refine k_seq_exit ?_
        refine k_seq_exit ?_
        refine k_blk_here ?_
        refine k_seq_normal ?_
        refine w_seq ?_
        refine w_seq ?_
        refine w_region ?_
        refine l_cons rfl (p_move ?_)
        first | refine l_cons rfl (p_ncp ?_) | refine l_cons rfl (p_ncf ?_)
        refine l_cons rfl (p_fap fa_109_0 ?_)
        refine l_cons rfl (p_loadp ty_59 (a := .own (es.length + 7) sS) ?_)
        refine l_cons rfl (p_leno sl_59 (a := .int .i64 ((bfs n n.firsts i).sets.length : Int)) ?_ (ha := by rw [setRows_len]))
        refine l_cons rfl (p_move ?_)
        refine l_cons rfl (p_max ?_)
        refine l_cons rfl (p_cmp ?_)
        refine l_nil ?_
        refine k_seq_normal ?_
        refine w_b (fun h6 => ?_) (fun h6 => ?_)
        · skip
          have h6' := h6; (try simp only [decide_eq_true_eq, decide_eq_false_iff_not, Bool.not_eq_true', Bool.not_false, Bool.not_true, Bool.not_eq_false'] at h6')
          refine w_seq ?_
          refine w_region ?_
          refine l_cons rfl (p_build ze_d pl_62 ?_)
          refine l_cons rfl (p_store ty_62 (r' := dRow (fun _ => 0) .nil .nil) ?_ (hl := by rw [dRow_len]; exact Nat.le_refl _) (hn := dRow_len) (hr' := dRow_putAll))
          refine l_cons rfl (p_assign ?_)
          refine l_nil ?_
          refine k_seq_normal ?_
          refine w_ret ?_
          refine k_seq_ret ?_
          rw [make_budget (by simpa using h1') (i := i) (by omega)]
          exact retctw rfl ty_62 (by first | exact sub2 _ _ _ | exact sub3 _ _ _ _ | exact subM _ _ _ _ _ _ _ _ _) (fun _ _ _ => rep_zero) ⟨rfl, rfl⟩ (hl := by rw [dRow_len]; exact Nat.le_refl _) (ha := dRow_all)
        · skip
          have h6' := h6; (try simp only [decide_eq_true_eq, decide_eq_false_iff_not, Bool.not_eq_true', Bool.not_false, Bool.not_true, Bool.not_eq_false'] at h6')
          refine w_skip ?_
          refine k_seq_normal ?_
          refine w_seq ?_
          refine w_less (fun _ => .inl rfl) (sub3 _ _ _ _) ?_
          refine w_freezeCell' (i := 256) (id := es.length + 2) (j := es.length + 3) (loc_miss loc_hit) (loc_miss (loc_miss loc_hit)) (by omega) dRow_256 (cleans_sets _) ?_
          rw [dRow_set256]
          refine w_freezeCell' (i := 257) (id := es.length + 2) (j := es.length + 4) loc_hit (loc_miss (loc_miss loc_hit)) (by omega) dRow_257 (cleans_bool _) ?_
          rw [dRow_set257]
          refine w_region ?_
          refine l_cons rfl (p_loadp ty_62 (a := .agg (dRow (fun i => (clsOf n.al i : Int)) (.list 1 (setRows (bfs n n.firsts i).next)) (.list 1 ((bfs n n.firsts i).ends.map fun b => [AV.bool b])))) ?_ (hl := by rw [dRow_len]; exact Nat.le_refl _) (ha := dRow_all))
          refine l_cons rfl (p_store ty_62 (r' := dRow (fun i => (clsOf n.al i : Int)) (.list 1 (setRows (bfs n n.firsts i).next)) (.list 1 ((bfs n n.firsts i).ends.map fun b => [AV.bool b]))) ?_ (hl := by rw [dRow_len]; exact Nat.le_refl _) (hn := dRow_len) (hr' := dRow_putAll))
          refine l_cons rfl (p_assign ?_)
          refine l_nil ?_
          refine k_seq_normal ?_
          refine w_ret ?_
          rw [make_done (by simpa using h1') (i := i) (by omega) (by omega)]
          exact retct rfl ty_62 (by first | exact sub5 _ _ _ _ _ _) ⟨rfl, rfl⟩ (hl := by rw [dRow_len]; exact Nat.le_refl _) (ha := dRow_all)
end Go.Proofs.YtfdgbghlanbddaaDoor.Av
set_option linter.unusedVariables false
set_option linter.unusedSimpArgs false
set_option maxRecDepth 8000
namespace Go.Proofs.YtfdgbghlanbddaaDoor.Av
open Go.RowKit Go.Proofs
theorem sub6 (a b c d e f : Ent) (es : List Ent) : Sub es (a :: b :: c :: d :: e :: f :: es) := (sub3 d e f es).trans (sub3 a b c _)
theorem sub7 (a b c d e f g : Ent) (es : List Ent) : Sub es (a :: b :: c :: d :: e :: f :: g :: es) := (sub4 d e f g es).trans (sub3 a b c _)
def findI (sets : List (List Int)) (x : List Int) : Int := if placeIx sets x = sets.length then -1 else (placeIx sets x : Int)
theorem find_yes {sets : List (List Int)} {x : List Int} {k : Nat} (hk : k < sets.length) (h : ∀ j (_ : j < k) (h : j < sets.length), sets[j] ≠ x) (he : sets[k] = x) : findI sets x = k := by
  have := placeIx_at (l := sets) (x := x) (Nat.le_of_lt hk) h (fun _ => he)
  unfold findI
  rw [this, if_neg (by omega)]
theorem find_no {sets : List (List Int)} {x : List Int} (h : ∀ j (h : j < sets.length), sets[j] ≠ x) : findI sets x = -1 := by
  have := placeIx_at (l := sets) (x := x) (Nat.le_refl _) (fun j _ h2 => h j h2) (fun h => absurd h (Nat.lt_irrefl _))
  unfold findI
  rw [if_pos this]
theorem find_neg {sets : List (List Int)} {x : List Int} (h : decide (findI sets x < 0) = true) : placeIx sets x = sets.length := by
  unfold findI at h
  split at h
  · assumption
  · simp at h; omega
theorem find_pos {sets : List (List Int)} {x : List Int} (h : decide (findI sets x < 0) = false) : ¬ placeIx sets x = sets.length := by
  intro e
  unfold findI at h
  rw [if_pos e] at h
  simp at h
theorem find_old {sets : List (List Int)} {x : List Int} (h : ¬ placeIx sets x = sets.length) : findI sets x = (placeIx sets x : Int) := if_neg h
theorem byte_put {p : Nat → Int} {r : List AV} (h : r.length = 256) : r.take 0 ++ byteT p ++ r.drop (0 + 256) = byteT p := by
  rw [List.drop_of_length_le (by omega)]
  simp
theorem fill_d {p : Nat → Int} : fillAV (([(0, 256), (256, 1), (257, 1)] : List (Nat × Nat))[·]?) (dRow (fun _ => 0) .nil .nil) [(0, .agg (byteT p))] = some (dRow p .nil .nil) := by
  simp only [fillAV, cellsAV, List.getElem?_cons_zero]
  rw [if_pos ⟨byteT_len _, by rw [dRow_len]; omega⟩, dRow_putCls]
theorem Nf.wds (n : Nf) (h : ∀ s ∈ n.sets, s.ok) : ∀ s ∈ n.st, 0 ≤ s.w0 ∧ 0 ≤ s.w1 ∧ 0 ≤ s.w2 ∧ 0 ≤ s.w3 := by
  intro s hs
  have := h s.set (List.mem_map.2 ⟨s, hs, rfl⟩)
  unfold W4.ok St.set at this
  simp only at this
  omega
theorem refClosed {w0 : World} {es : List Ent} (n : Nf) (h : mayN n = true) : ACalls Tryd.prog w0 43 [n.av, ints [n.start]] es fun v es' => v = ints (closed n [n.start]) ∧ es' = es := by
  have := refClose (w0 := w0) (es := es) n [n.start]
  unfold closeN at this
  rw [if_pos h] at this
  exact this
theorem refStepped {w0 : World} {es : List Ent} (n : Nf) (hok : ∀ s ∈ n.st, 0 ≤ s.w0 ∧ 0 ≤ s.w1 ∧ 0 ≤ s.w2 ∧ 0 ≤ s.w3) (h : mayN n = true) (l : List Int) (b : Int) (hl : l.length ≤ 1099511627776) (hb0 : 0 ≤ b) (hb1 : b < 256) : ACalls Tryd.prog w0 45 [n.av, ints l, .int .u8 b] es fun v es' => v = ints (stepped n l b) ∧ es' = es := by
  have := refStep (w0 := w0) (es := es) n hok l b hl hb0 hb1
  unfold stepN at this
  rw [if_pos h] at this
  exact this
theorem refHas {w0 : World} {es : List Ent} (l : List Int) (x : Int) : ACalls Tryd.prog w0 82 [ints l, .int .i64 x] es fun v es' => v = .bool (l.contains x) ∧ es' = es := by
  have := has_walk (w0 := w0) (es := es) l x
  rw [contains_any]
  have e : (fun y => decide (x = y)) = fun y : Int => decide (y = x) := by
    funext y
    rw [decide_eq_decide]
    exact eq_comm
  rw [e]
  exact this
theorem row_h6 {a b c d e f x : Ent} {es : List Ent} : at_ (a :: b :: c :: d :: e :: f :: x :: es) es.length = some x := at_miss _ (at_miss _ (at_miss _ (at_miss _ (at_miss _ (at_miss _ (at_hit _ _))))))
theorem row_h3 {a b c x d e f : Ent} {es : List Ent} : at_ (a :: b :: c :: x :: d :: e :: f :: es) (es.length + 3) = some x := at_miss _ (at_miss _ (at_miss _ (at_hit _ _)))
theorem same9_walk {w0 : World} {es : List Ent} (a b : List Int) : ACalls Tryd.prog w0 124 [ints a, ints b] es fun v es' => v = .bool (decide (a = b)) ∧ es' = es := by
  unfold ints
  refine calls2 (N := 26) Tryd.func124 rfl rfl (by decide) ?_
  refine w_seq ?_
  refine w_region ?_
  refine l_cons rfl (p_assign ?_)
  refine l_nil ?_
  refine k_seq_normal ?_
  refine w_seq ?_
  refine w_seq ?_
  refine w_len 0 fun hl => ?_
  rw [List.length_map] at hl
  simp only [most] at hl
  refine w_region ?_
  refine l_cons rfl (p_move ?_)
  refine l_cons rfl (p_lenl sl_48 ?_)
  refine l_cons rfl (p_move ?_)
  refine l_cons rfl (p_lenl sl_48 ?_)
  refine l_cons rfl (p_cmp ?_)
  refine l_nil ?_
  refine k_seq_normal ?_
  refine w_b (fun h1 => ?_) (fun h1 => ?_)
  · skip
    have h1' := h1; (try simp only [decide_eq_true_eq, decide_eq_false_iff_not, Bool.not_eq_true', Bool.not_false, Bool.not_true, Bool.not_eq_false'] at h1')
    refine w_seq ?_
    refine w_region ?_
    refine l_cons rfl (p_assign ?_)
    refine l_nil ?_
    refine k_seq_normal ?_
    refine w_ret ?_
    refine k_seq_ret ?_
    exact ret1 rfl (by simp only [ev_tmp, ev_const, ev_func, ofConst_int, ofConst_bool, ofConst_str, ofConst_nil, upd_apply, Nat.reduceEqDiff, ↓reduceIte] <;> exact rfl) (by first | exact Sub.refl _ | exact sub1 _ _ | exact sub2 _ _ _ | exact sub3 _ _ _ _ | exact sub4 _ _ _ _ _ | exact sub5 _ _ _ _ _ _) ⟨by rw [show decide (a = b) = false from decide_eq_false (by rintro rfl; simp_all)], rfl⟩
  · skip
    have h1' := h1; (try simp only [decide_eq_true_eq, decide_eq_false_iff_not, Bool.not_eq_true', Bool.not_false, Bool.not_true, Bool.not_eq_false'] at h1')
    refine w_skip ?_
    refine k_seq_normal ?_
    refine w_seq ?_
    refine w_seq ?_
    refine w_region ?_
    refine l_cons rfl (p_assign ?_)
    refine l_nil ?_
    refine k_seq_normal ?_
    refine w_block ?_
    refine w_loop (fun m f es' => ∃ k, m = a.length - k ∧ k ≤ a.length ∧ (∀ j (_ : j < k) (h1 : j < a.length) (h2 : j < b.length), a[j] = b[j]) ∧ es' = es ∧ Knows f [(0, .list 1 (a.map fun n => [.int .i64 n])), (1, .list 1 (b.map fun n => [.int .i64 n])), (5, .int .i64 k)]) (a.length) (⟨0, rfl, Nat.zero_le _, fun j hj => absurd hj (Nat.not_lt_zero _), rfl, by simp only [Knows, put, upd_apply, Nat.reduceEqDiff, ↓reduceIte, and_true, true_and, eq_self] <;> and_intros <;> rfl⟩) ?_
    rintro m f es' ⟨k, rfl, hk1, hk2, rfl, hk⟩
    have hab : a.length = b.length := by simp_all; omega
    refine w_pins _ (Sub.refl _) (hk) ?_
    simp only [pins]
    refine w_seq ?_
    refine w_seq ?_
    refine w_region ?_
    refine l_cons rfl (p_move ?_)
    refine l_cons rfl (p_move ?_)
    refine l_cons rfl (p_lenl sl_48 ?_)
    refine l_cons rfl (p_cmp ?_)
    refine l_nil ?_
    refine k_seq_normal ?_
    refine w_b (fun h2 => ?_) (fun h2 => ?_)
    · skip
      have h2' := h2; (try simp only [decide_eq_true_eq, decide_eq_false_iff_not, Bool.not_eq_true', Bool.not_false, Bool.not_true, Bool.not_eq_false'] at h2')
      refine w_skip ?_
      refine k_seq_normal ?_
      refine w_seq ?_
      refine w_block ?_
      refine w_seq ?_
      refine w_drawn 8 [] (fun e => e = _) mixed (by kernel_rfl) rfl ?_
      refine q1 0 (hg := rfl) (hu := rfl) (h := by rintro f _ rfl; exact p_move ⟨rfl, rfl⟩) (k := ?_)
      refine q1 5 (hg := rfl) (hu := rfl) (h := by rintro f _ rfl; exact p_move ⟨rfl, rfl⟩) (k := ?_)
      refine q2 17 18 (hg := rfl) (hu := rfl) (h := by rintro f _ rfl; exact p_ixl sl_48 ⟨rfl, rfl⟩) (k := ?_)
      refine q1 19 (hg := rfl) (hu := rfl) (h := by rintro f _ rfl; exact p_loadf ty_3 ⟨rfl, rfl⟩) (k := ?_)
      refine q1 1 (hg := rfl) (hu := rfl) (h := by rintro f _ rfl; exact p_move ⟨rfl, rfl⟩) (k := ?_)
      refine q1 5 (hg := rfl) (hu := rfl) (h := by rintro f _ rfl; exact p_move ⟨rfl, rfl⟩) (k := ?_)
      refine q2 21 22 (hg := rfl) (hu := rfl) (h := by rintro f _ rfl; exact p_ixl sl_48 ⟨rfl, rfl⟩) (k := ?_)
      refine q1 23 (hg := rfl) (hu := rfl) (h := by rintro f _ rfl; exact p_loadf ty_3 ⟨rfl, rfl⟩) (k := ?_)
      refine q_end ?_
      refine m_end ?_
      refine l_cons rfl (p_cmp ?_)
      refine l_nil ?_
      refine k_seq_normal ?_
      refine w_b (fun h3 => ?_) (fun h3 => ?_)
      · skip
        have h3' := h3; (try simp only [decide_eq_true_eq, decide_eq_false_iff_not, Bool.not_eq_true', Bool.not_false, Bool.not_true, Bool.not_eq_false'] at h3')
        refine w_seq ?_
        refine w_region ?_
        refine l_cons rfl (p_assign ?_)
        refine l_nil ?_
        refine k_seq_normal ?_
        refine w_ret ?_
        refine k_blk_ret ?_
        refine k_seq_ret ?_
        refine k_seq_ret ?_
        refine k_blk_ret ?_
        refine k_seq_ret ?_
        exact ret1 rfl (by simp only [ev_tmp, ev_const, ev_func, ofConst_int, ofConst_bool, ofConst_str, ofConst_nil, upd_apply, Nat.reduceEqDiff, ↓reduceIte] <;> exact rfl) (by first | exact Sub.refl _ | exact sub1 _ _ | exact sub2 _ _ _ | exact sub3 _ _ _ _ | exact sub4 _ _ _ _ _ | exact sub5 _ _ _ _ _ _) ⟨by rw [same_no (k := k) (by omega) (by omega) (by simp_all)], rfl⟩
      · skip
        have h3' := h3; (try simp only [decide_eq_true_eq, decide_eq_false_iff_not, Bool.not_eq_true', Bool.not_false, Bool.not_true, Bool.not_eq_false'] at h3')
        refine w_skip ?_
        refine k_blk_normal ?_
        refine k_seq_normal ?_
        refine w_region ?_
        refine l_cons rfl (p_move ?_)
        refine l_cons rfl (p_arith ?_)
        refine l_cons rfl (p_assign ?_)
        refine l_nil ?_
        refine k_seq_normal ?_
        exact ⟨a.length - (k + 1), by omega, k + 1, rfl, by omega, fun j hj h1 h2 => by
          rcases Nat.lt_or_eq_of_le (Nat.le_of_lt_succ hj) with h9 | h9
          · exact hk2 j h9 h1 h2
          · subst h9; simp_all, rfl, by simp only [Knows, put, upd_apply, Nat.reduceEqDiff, ↓reduceIte, and_true, true_and, eq_self] <;> and_intros <;> rfl⟩
    · skip
      have h2' := h2; (try simp only [decide_eq_true_eq, decide_eq_false_iff_not, Bool.not_eq_true', Bool.not_false, Bool.not_true, Bool.not_eq_false'] at h2')
      refine w_exit ?_
      refine k_seq_exit ?_
      refine k_seq_exit ?_
      refine k_blk_here ?_
      refine k_seq_normal ?_
      refine w_seq ?_
      refine w_region ?_
      refine l_cons rfl (p_assign ?_)
      refine l_nil ?_
      refine k_seq_normal ?_
      refine w_ret ?_
      exact ret1 rfl (by simp only [ev_tmp, ev_const, ev_func, ofConst_int, ofConst_bool, ofConst_str, ofConst_nil, upd_apply, Nat.reduceEqDiff, ↓reduceIte] <;> exact rfl) (by first | exact Sub.refl _ | exact sub1 _ _ | exact sub2 _ _ _ | exact sub3 _ _ _ _ | exact sub4 _ _ _ _ _ | exact sub5 _ _ _ _ _ _) ⟨by rw [same_yes hab (fun j h1 h2 => hk2 j (by omega) h1 h2)], rfl⟩
theorem first_walk {w0 : World} {es : List Ent} (n : Nf) : ACalls Tryd.prog w0 90 [.agg (byteT (fun i => (clsOf n.al i : Int))), .int .i64 ((repsTo n.al 256).length : Int)] es fun v es' => v = .list 1 (n.firsts.map fun n => [.int .u8 n]) ∧ es' = es := by
  have hrl := repsTo_len n.al 256
  refine calls2 (N := 21) Tryd.func90 rfl rfl (by decide) ?_
  refine w_seq ?_
  refine w_region ?_
  refine l_cons rfl (p_box fun s2 => ?_)
  rw [byteT_len]
  refine l_cons rfl (p_assign ?_)
  refine l_nil ?_
  refine k_seq_normal ?_
  refine w_seq ?_
  refine w_region ?_
  refine l_cons rfl (p_move ?_)
  refine l_cons rfl (p_makeSlice sl_22 by_5 ze_5 fun s5 => ?_)
  refine l_cons rfl (p_assign ?_)
  refine l_nil ?_
  refine k_seq_normal ?_
  refine w_seq ?_
  refine w_seq ?_
  refine w_region ?_
  refine l_cons rfl (p_assign ?_)
  refine l_nil ?_
  refine k_seq_normal ?_
  refine w_block ?_
  refine w_loop (fun m f es' => ∃ k, m = k ∧ k ≤ 256 ∧ Sub (.row s5 5 1 ((firstTo n.al k).map fun n => [AV.int .u8 n]) :: .row s2 58 256 [byteT (fun i => (clsOf n.al i : Int))] :: es) es' ∧ Knows f [(2, .ptr es.length s2 0 0), (5, .own (es.length + 1) s5), (6, .int .i64 ((k : Int) - 1))]) (256) (⟨256, rfl, Nat.le_refl _, by rw [firstTo_top, List.map_replicate]; simp only [Int.toNat_natCast]; exact Sub.refl _, by simp only [Knows, put, upd_apply, Nat.reduceEqDiff, ↓reduceIte, and_true, true_and, eq_self] <;> and_intros <;> rfl⟩) ?_
  rintro m f es' ⟨k, rfl, hk1, hsub, hk⟩
  refine w_pins _ hsub (hk) ?_
  simp only [pins]
  refine w_seq ?_
  refine w_seq ?_
  refine w_region ?_
  refine l_cons rfl (p_move ?_)
  refine l_cons rfl (p_cmp ?_)
  refine l_nil ?_
  refine k_seq_normal ?_
  refine w_b (fun h1 => ?_) (fun h1 => ?_)
  · skip
    have h1' := h1; (try simp only [decide_eq_true_eq, decide_eq_false_iff_not, Bool.not_eq_true', Bool.not_false, Bool.not_true, Bool.not_eq_false'] at h1')
    refine w_skip ?_
    refine k_seq_normal ?_
    refine w_seq ?_
    refine w_block ?_
    obtain ⟨b, rfl⟩ : ∃ b, m = b + 1 := ⟨m - 1, by omega⟩
    rw [show (((b + 1 : Nat) : Int) - 1) = (b : Int) by omega]
    have hcb := cls_lt' n.al (show b < 256 by omega)
    refine w_region ?_
    refine l_cons rfl (p_move ?_)
    refine l_cons rfl (p_move ?_)
    refine l_cons rfl (p_ixa ar_58 (a := .ptr es.length s2 0 b) ?_ (h0 := by omega) (h1 := by omega) (ho := by simp))
    refine l_cons rfl (p_loadp ty_5 (a := .int .u8 (clsOf n.al b : Int)) ?_ (hl := by rw [byteT_len]; omega) (ha := byteT_load (p := (fun i => (clsOf n.al i : Int))) (k := b) (by omega)))
    refine l_cons rfl (p_move ?_)
    refine l_cons rfl (p_conv in_3 in_5 ?_ (hb := wrap8 (n := (b : Int)) (by omega) (by omega)))
    refine l_cons rfl (p_ixo sl_22 (a := .ptr (es.length + 1) s5 (clsOf n.al b) 0) ?_ (h0 := by omega) (h1 := by simp only [List.length_map, firstTo_len]; omega))
    refine l_cons rfl (p_store ty_5 (r' := [.int .u8 (b : Int)]) ?_ (hr := rowU8 (by rw [firstTo_len]; exact hcb)) (hl := Nat.le_refl 1) (hr' := rfl))
    refine l_nil ?_
    refine k_blk_normal ?_
    refine k_seq_normal ?_
    refine w_region ?_
    refine l_cons rfl (p_move ?_)
    refine l_cons rfl (p_arith ?_)
    refine l_cons rfl (p_assign ?_)
    refine l_nil ?_
    refine k_seq_normal ?_
    exact ⟨b, by omega, b, rfl, by omega, by rw [← firstTo_step n.al (show b < 256 by omega), List.map_set]; exact Sub.refl _, by simp only [Knows, put, upd_apply, Nat.reduceEqDiff, ↓reduceIte, and_true, true_and, eq_self] <;> and_intros <;> rfl⟩
  · skip
    have h1' := h1; (try simp only [decide_eq_true_eq, decide_eq_false_iff_not, Bool.not_eq_true', Bool.not_false, Bool.not_true, Bool.not_eq_false'] at h1')
    refine w_exit ?_
    refine k_seq_exit ?_
    refine k_seq_exit ?_
    refine k_blk_here ?_
    refine k_seq_normal ?_
    refine w_seq ?_
    obtain rfl : m = 0 := by omega
    rw [firstTo_all n.eqv, show (repsTo n.al 256).map Int.ofNat = n.firsts from rfl]
    refine w_freezeTop 5 ?_ (hclean := cleans_u8 _)
    refine w_region ?_
    refine l_cons rfl (p_move ?_)
    refine l_cons rfl (p_assign ?_)
    refine l_nil ?_
    refine k_seq_normal ?_
    refine w_ret ?_
    exact ret1 rfl (by simp only [ev_tmp, ev_const, ev_func, ofConst_int, ofConst_bool, ofConst_str, ofConst_nil, upd_apply, Nat.reduceEqDiff, ↓reduceIte] <;> exact rfl) (by first | exact Sub.refl _ | exact sub1 _ _ | exact sub2 _ _ _ | exact sub3 _ _ _ _ | exact sub4 _ _ _ _ _ | exact sub5 _ _ _ _ _ _) ⟨rfl, rfl⟩
theorem find_walk {w0 : World} {es : List Ent} {id s : Nat} (sets : List (List Int)) (x : List Int) (hb : at_ es id = some (.row s 48 1 (setRows sets))) (hl : sets.length ≤ 1000000) : ACalls Tryd.prog w0 91 [.own id s, ints x] es fun v es' => v = .int .i64 (findI sets x) ∧ es' = es := by
  refine calls2 (N := 19) Tryd.func91 rfl rfl (by decide) ?_
  refine w_seq ?_
  refine w_region ?_
  refine l_cons rfl (p_assign ?_)
  refine l_nil ?_
  refine k_seq_normal ?_
  refine w_seq ?_
  refine w_seq ?_
  refine w_region ?_
  refine l_cons rfl (p_assign ?_)
  refine l_nil ?_
  refine k_seq_normal ?_
  refine w_block ?_
  refine w_loop (fun m f es' => ∃ k, m = sets.length - k ∧ k ≤ sets.length ∧ (∀ j (_ : j < k) (h : j < sets.length), sets[j] ≠ x) ∧ es' = es ∧ Knows f [(0, .own id s), (1, ints x), (5, .int .i64 (k : Int))]) (sets.length) (⟨0, rfl, Nat.zero_le _, fun j hj => absurd hj (Nat.not_lt_zero _), rfl, by simp only [Knows, put, upd_apply, Nat.reduceEqDiff, ↓reduceIte, and_true, true_and, eq_self] <;> and_intros <;> rfl⟩) ?_
  rintro m f es' ⟨k, rfl, hk1, hk2, rfl, hk⟩
  refine w_pins _ (Sub.refl _) (hk) ?_
  simp only [pins]
  refine w_seq ?_
  refine w_seq ?_
  refine w_region ?_
  refine l_cons rfl (p_move ?_)
  refine l_cons rfl (p_move ?_)
  refine l_cons rfl (p_leno sl_59 (a := .int .i64 (sets.length : Int)) ?_ (ha := by rw [setRows_len]))
  refine l_cons rfl (p_cmp ?_)
  refine l_nil ?_
  refine k_seq_normal ?_
  refine w_b (fun h1 => ?_) (fun h1 => ?_)
  · skip
    have h1' := h1; (try simp only [decide_eq_true_eq, decide_eq_false_iff_not, Bool.not_eq_true', Bool.not_false, Bool.not_true, Bool.not_eq_false'] at h1')
    refine w_skip ?_
    refine k_seq_normal ?_
    refine w_seq ?_
    refine w_block ?_
    refine w_seq ?_
    refine w_region ?_
    refine l_cons rfl (p_move ?_)
    refine l_cons rfl (p_move ?_)
    refine l_cons rfl (p_ixo sl_59 (a := .ptr id s k 0) ?_ (h0 := by omega) (h1 := by rw [setRows_len]; omega))
    refine l_cons rfl (p_loadp ty_48 (a := ints (sets[k]'(by omega))) ?_ (hr := setRows_at (by omega)) (hl := Nat.le_refl 1) (ha := rfl))
    refine l_cons rfl (p_move ?_)
    refine l_cons rfl (p_callr en_124 (same9_walk (sets[k]'(by omega)) x) ?_)
    refine l_nil ?_
    refine k_seq_normal ?_
    refine w_b (fun h2 => ?_) (fun h2 => ?_)
    · skip
      have h2' := h2; (try simp only [decide_eq_true_eq, decide_eq_false_iff_not, Bool.not_eq_true', Bool.not_false, Bool.not_true, Bool.not_eq_false'] at h2')
      refine w_seq ?_
      refine w_region ?_
      refine l_cons rfl (p_move ?_)
      refine l_cons rfl (p_assign ?_)
      refine l_nil ?_
      refine k_seq_normal ?_
      refine w_ret ?_
      refine k_blk_ret ?_
      refine k_seq_ret ?_
      refine k_seq_ret ?_
      refine k_blk_ret ?_
      refine k_seq_ret ?_
      exact ret1 rfl (by simp only [ev_tmp, ev_const, ev_func, ofConst_int, ofConst_bool, ofConst_str, ofConst_nil, upd_apply, Nat.reduceEqDiff, ↓reduceIte] <;> exact rfl) (by first | exact Sub.refl _ | exact sub1 _ _ | exact sub2 _ _ _ | exact sub3 _ _ _ _ | exact sub4 _ _ _ _ _ | exact sub5 _ _ _ _ _ _) ⟨by rw [find_yes (k := k) (by omega) hk2 (by assumption)], rfl⟩
    · skip
      have h2' := h2; (try simp only [decide_eq_true_eq, decide_eq_false_iff_not, Bool.not_eq_true', Bool.not_false, Bool.not_true, Bool.not_eq_false'] at h2')
      refine w_skip ?_
      refine k_blk_normal ?_
      refine k_seq_normal ?_
      refine w_region ?_
      refine l_cons rfl (p_move ?_)
      refine l_cons rfl (p_arith ?_)
      refine l_cons rfl (p_assign ?_)
      refine l_nil ?_
      refine k_seq_normal ?_
      exact ⟨sets.length - (k + 1), by omega, k + 1, rfl, by omega, fun j hj h => by
        rcases Nat.lt_or_eq_of_le (Nat.le_of_lt_succ hj) with h9 | h9
        · exact hk2 j h9 h
        · subst h9; assumption, rfl, by simp only [Knows, put, upd_apply, Nat.reduceEqDiff, ↓reduceIte, and_true, true_and, eq_self] <;> and_intros <;> rfl⟩
  · skip
    have h1' := h1; (try simp only [decide_eq_true_eq, decide_eq_false_iff_not, Bool.not_eq_true', Bool.not_false, Bool.not_true, Bool.not_eq_false'] at h1')
    refine w_exit ?_
    refine k_seq_exit ?_
    refine k_seq_exit ?_
    refine k_blk_here ?_
    refine k_seq_normal ?_
    refine w_seq ?_
    refine w_region ?_
    refine l_cons rfl (p_assign ?_)
    refine l_nil ?_
    refine k_seq_normal ?_
    refine w_ret ?_
    exact ret1 rfl (by simp only [ev_tmp, ev_const, ev_func, ofConst_int, ofConst_bool, ofConst_str, ofConst_nil, upd_apply, Nat.reduceEqDiff, ↓reduceIte] <;> exact rfl) (by first | exact Sub.refl _ | exact sub1 _ _ | exact sub2 _ _ _ | exact sub3 _ _ _ _ | exact sub4 _ _ _ _ _ | exact sub5 _ _ _ _ _ _) ⟨by rw [find_no (fun j h => hk2 j (by omega) h)], rfl⟩
theorem refMake_walk {w0 : World} {es : List Ent} (n : Nf) (mx : Int) (hs : ∀ s ∈ n.sets, s.ok) (hM : mx ≤ 100000) : ACalls Tryd.prog w0 48 [n.av, .int .i64 mx] es fun v es' => v = .tup [.agg (makeN n mx).1.cells, .int .i64 (makeN n mx).2] ∧ es' = es := by
  unfold Nf.av
  have hrl := repsTo_len n.al 256
  have hfl := n.firsts_len
  have hok := n.wds hs
  refine calls2 (N := 108) Tryd.func48 rfl rfl (by decide) ?_
  refine w_seq ?_
  refine w_region ?_
  refine l_cons rfl (p_box fun s2 => ?_)
  refine l_cons rfl (p_alloc ze_d fun s4 => ?_)
  rw [dRow_len]
  refine l_cons rfl (p_assign ?_)
  refine l_nil ?_
  refine k_seq_normal ?_
  refine w_seq ?_
  refine w_seq ?_
  refine w_region ?_
  refine l_cons rfl (p_loadp ty_36 ?_)
  refine l_cons rfl (p_callr en_42 (refMay n) ?_)
  refine l_cons rfl (p_not ?_)
  refine l_nil ?_
  refine k_seq_normal ?_
  refine w_b (fun h1 => ?_) (fun h1 => ?_)
  · skip
    have h1' := h1; (try simp only [decide_eq_true_eq, decide_eq_false_iff_not, Bool.not_eq_true', Bool.not_false, Bool.not_true, Bool.not_eq_false'] at h1')
    refine w_seq ?_
    refine w_region ?_
    refine l_cons rfl (p_build ze_d pl_62 ?_)
    refine l_cons rfl (p_store ty_62 (r' := dRow (fun _ => 0) .nil .nil) ?_ (hl := by rw [dRow_len]; exact Nat.le_refl _) (hn := dRow_len) (hr' := dRow_putAll))
    refine l_cons rfl (p_assign ?_)
    refine l_nil ?_
    refine k_seq_normal ?_
    refine w_ret ?_
    refine k_seq_ret ?_
    rw [make_form (by simpa using h1')]
    exact retctw rfl ty_62 (by first | exact sub2 _ _ _ | exact sub7 _ _ _ _ _ _ _ _) (fun _ _ _ => rep_zero) ⟨rfl, rfl⟩ (hl := by rw [dRow_len]; exact Nat.le_refl _) (ha := dRow_all)
  · skip
    have h1' := h1; (try simp only [decide_eq_true_eq, decide_eq_false_iff_not, Bool.not_eq_true', Bool.not_false, Bool.not_true, Bool.not_eq_false'] at h1')
    refine w_skip ?_
    refine k_seq_normal ?_
    refine w_seq ?_
    have hst := may_le h1'
    refine w_region ?_
    refine l_cons rfl (p_loadp ty_36 ?_)
    refine l_cons rfl (p_callr en_50 (refClassesN n hs (by omega)) ?_)
    refine l_cons rfl (p_move ?_)
    refine l_cons rfl (p_extract ?_ (hl := Nat.le_of_ble_eq_true rfl))
    refine l_cons rfl (p_extract ?_ (hl := Nat.le_of_ble_eq_true rfl))
    refine l_cons rfl (p_alloc ze_58 fun s6 => ?_)
    rw [List.length_replicate]
    refine l_cons rfl (p_store ty_58 (r' := byteT (fun i => (clsOf n.al i : Int))) ?_ (hl := by rw [List.length_replicate]; omega) (hn := byteT_len _) (hr' := byte_put (List.length_replicate ..)))
    refine l_cons rfl (p_assign ?_)
    refine l_nil ?_
    refine k_seq_normal ?_
    refine w_seq ?_
    refine w_region ?_
    refine l_cons rfl (p_loadp ty_58 (a := .agg (byteT (fun i => (clsOf n.al i : Int)))) ?_ (hl := by simp only [byteT_len]; omega) (ha := byteT_all _))
    refine l_cons rfl (p_move ?_)
    refine l_cons rfl (p_callr en_90 (first_walk n) ?_)
    refine l_cons rfl (p_assign ?_)
    refine l_nil ?_
    refine k_seq_normal ?_
    refine w_seq ?_
    refine w_region ?_
    refine l_cons rfl (p_loadp ty_58 (a := .agg (byteT (fun i => (clsOf n.al i : Int)))) ?_ (hl := by simp only [byteT_len]; omega) (ha := byteT_all _))
    refine l_cons rfl (p_build ze_d pl_62 (l := dRow (fun i => (clsOf n.al i : Int)) .nil .nil) ?_ (hl := fill_d))
    refine l_cons rfl (p_alloc ze_d fun s9 => ?_)
    rw [dRow_len]
    refine l_cons rfl (p_store ty_62 (r' := dRow (fun i => (clsOf n.al i : Int)) .nil .nil) ?_ (hl := by rw [dRow_len]; exact Nat.le_refl _) (hn := dRow_len) (hr' := dRow_putAll))
    refine l_nil ?_
    refine k_seq_normal ?_
    refine w_seq ?_
    refine w_adoptCell' (i := 256) 48 1 loc_hit dRow_256 fun sN => ?_
    rw [dRow_set256]
    refine w_adoptCell' (i := 257) 4 1 (loc_miss loc_hit) dRow_257 fun sE => ?_
    rw [dRow_set257]
    refine w_region ?_
    refine l_cons rfl (p_loadp ty_36 ?_)
    refine l_cons rfl (p_fap fa_36_1 ?_)
    refine l_cons rfl (p_loadp ty_3 ?_)
    refine l_cons rfl (p_buildList sl_48 ze_3 ?_)
    refine l_cons rfl (p_callr en_43 (refClosed n (by simpa using h1')) ?_)
    refine l_cons rfl (p_buildSlice sl_59 ze_48 fun sS => ?_)
    refine l_cons rfl (p_assign ?_)
    refine l_nil ?_
    refine k_seq_normal ?_
    refine w_seq ?_
    refine w_seq ?_
    refine w_region ?_
    refine l_cons rfl (p_assign ?_)
    refine l_nil ?_
    refine k_seq_normal ?_
    refine w_block ?_
    refine w_loop (fun m f es' => ∃ i sets next ends sE sN sS, (((⟨sets, next, ends⟩ : Bf) = (bfs n n.firsts i) ∧ m = mx.toNat + 2 - i ∧ i ≤ sets.length) ∨ (mx < (sets.length : Int) ∧ m = 0 ∧ ∃ w, max mx 0 < ((bfs n n.firsts w).sets.length : Int))) ∧ 0 < sets.length ∧ Sub (.row sS 48 1 (setRows sets) :: (.row sE 4 1 (ends.map fun b => [AV.bool b])) :: (.row sN 48 1 (setRows next)) :: .row s9 62 258 [dRow (fun i => (clsOf n.al i : Int)) (.own (es.length + 4) sN) (.own (es.length + 5) sE)] :: .row s6 58 256 [byteT (fun i => (clsOf n.al i : Int))] :: .row s4 62 258 [dRow (fun _ => 0) .nil .nil] :: .row s2 36 3 [n.cells] :: es) es' ∧ Knows f [(1, .int .i64 mx), (2, .ptr es.length s2 0 0), (4, .ptr (es.length + 1) s4 0 0), (7, .int .i64 ((repsTo n.al 256).length : Int)), (8, .list 1 (n.firsts.map fun n => [.int .u8 n])), (9, .ptr (es.length + 3) s9 0 0), (10, .own (es.length + 6) sS), (11, .int .i64 (i : Int))]) (mx.toNat + 2) (⟨0, _, _, _, sE, sN, sS, .inl ⟨rfl, rfl, Nat.zero_le _⟩, Nat.zero_lt_one, Sub.refl _, by simp only [Knows, put, upd_apply, Nat.reduceEqDiff, ↓reduceIte, and_true, true_and, eq_self] <;> and_intros <;> rfl⟩) ?_
    rintro m f es' ⟨i, sets, next, ends, sE, sN, sS, hst0, hsp, hsub, hk⟩
    refine w_pins _ hsub (hk) ?_
    simp only [pins]
    refine w_seq ?_
    refine w_seq ?_
    refine w_region ?_
    refine l_cons rfl (p_move ?_)
    refine l_cons rfl (p_move ?_)
    refine l_cons rfl (p_leno sl_59 (a := .int .i64 (sets.length : Int)) ?_ (ha := by rw [setRows_len]))
    refine l_cons rfl (p_cmp ?_)
    refine l_cons rfl (p_move ?_)
    refine g_b rfl (fun h2 => ?_) (fun h2 => ?_)
    · skip
      have h2' := h2; (try simp only [decide_eq_true_eq, decide_eq_false_iff_not, Bool.not_eq_true', Bool.not_false, Bool.not_true, Bool.not_eq_false'] at h2')
      refine (p_move ?_)
      refine g_y rfl h2 (p_leno sl_59 (a := .int .i64 (sets.length : Int)) ?_ (ha := by rw [setRows_len]))
      refine g_y rfl h2 (p_move ?_)
      refine g_y rfl h2 (p_cmp ?_)
      refine l_cons rfl (p_pickt h2 ?_)
      refine l_nil ?_
      refine k_seq_normal ?_
      refine w_b (fun h3 => ?_) (fun h3 => ?_)
      · skip
        have h3' := h3; (try simp only [decide_eq_true_eq, decide_eq_false_iff_not, Bool.not_eq_true', Bool.not_false, Bool.not_true, Bool.not_eq_false'] at h3')
        have hnm : (⟨sets, next, ends⟩ : Bf) = (bfs n n.firsts i) ∧ m = mx.toNat + 2 - i ∧ i ≤ sets.length := hst0.resolve_right (fun hh => absurd hh.1 (by omega))
        obtain ⟨hB, rfl, hi1⟩ := hnm
        obtain ⟨rfl, rfl, rfl⟩ : sets = (bfs n n.firsts i).sets ∧ next = (bfs n n.firsts i).next ∧ ends = (bfs n n.firsts i).ends := ⟨congrArg Bf.sets hB, congrArg Bf.next hB, congrArg Bf.ends hB⟩
        clear hst0 hB
        have hbl := bfs_lens (n := n) (fs := n.firsts) i
        refine w_skip ?_
        refine k_seq_normal ?_
        refine w_seq ?_
        refine w_block ?_
        refine w_seq ?_
        refine w_region ?_
        refine l_cons rfl (p_assign ?_)
        refine l_nil ?_
        refine k_seq_normal ?_
        refine w_seq ?_
        refine w_seq ?_
        refine w_adopt 12 3 1 rfl fun s12 => ?_
        simp only [upd_upd]
        refine w_region ?_
        refine l_cons rfl (p_assign ?_)
        refine l_nil ?_
        refine k_seq_normal ?_
        refine w_block ?_
        refine w_loop (fun m f es' => ∃ j sS s12, m = n.firsts.length - j ∧ j ≤ n.firsts.length ∧ Sub (.row s12 3 1 ((rowTo n n.firsts (bfs n n.firsts i).sets ((bfs n n.firsts i).sets[i]'(by omega)) j).2.map fun n => [AV.int .i64 n]) :: .row sS 48 1 (setRows (rowTo n n.firsts (bfs n n.firsts i).sets ((bfs n n.firsts i).sets[i]'(by omega)) j).1) :: (.row sE 4 1 ((bfs n n.firsts i).ends.map fun b => [AV.bool b])) :: (.row sN 48 1 (setRows (bfs n n.firsts i).next)) :: .row s9 62 258 [dRow (fun i => (clsOf n.al i : Int)) (.own (es.length + 4) sN) (.own (es.length + 5) sE)] :: .row s6 58 256 [byteT (fun i => (clsOf n.al i : Int))] :: .row s4 62 258 [dRow (fun _ => 0) .nil .nil] :: .row s2 36 3 [n.cells] :: es) es' ∧ Knows f [(1, .int .i64 mx), (2, .ptr es.length s2 0 0), (4, .ptr (es.length + 1) s4 0 0), (7, .int .i64 ((repsTo n.al 256).length : Int)), (8, .list 1 (n.firsts.map fun n => [.int .u8 n])), (9, .ptr (es.length + 3) s9 0 0), (10, .own (es.length + 6) sS), (11, .int .i64 (i : Int)), (12, .own (es.length + 7) s12), (13, .int .i64 (j : Int))]) (n.firsts.length) (⟨0, sS, s12, (Nat.sub_zero _).symm, Nat.zero_le _, by rw [rowTo_zero]; exact Sub.refl _, by simp only [Knows, put, upd_apply, Nat.reduceEqDiff, ↓reduceIte, and_true, true_and, eq_self] <;> and_intros <;> rfl⟩) ?_
        rintro m f es' ⟨j, sS, s12, rfl, hj1, hsub, hk⟩
        have hgx := rowTo_at (n := n) (fs := n.firsts) (x := ((bfs n n.firsts i).sets[i]'(by omega))) (show i < (bfs n n.firsts i).sets.length by omega) hj1
        have hrl2 := rowTo_len2 (n := n) (fs := n.firsts) (sets := (bfs n n.firsts i).sets) (x := ((bfs n n.firsts i).sets[i]'(by omega))) hj1
        have hrc := rowTo_cap (n := n) (fs := n.firsts) (sets := (bfs n n.firsts i).sets) (x := ((bfs n n.firsts i).sets[i]'(by omega))) j hj1
        have hrg := rowTo_le (n := n) (fs := n.firsts) (sets := (bfs n n.firsts i).sets) (x := ((bfs n n.firsts i).sets[i]'(by omega))) (Nat.zero_le j) hj1
        rw [rowTo_zero] at hrg
        have fsl := bfs_short (n := n) (fs := n.firsts) i
        have hix := (List.getElem?_eq_some_iff.1 hgx).1
        refine w_pins _ hsub (hk) ?_
        simp only [pins]
        refine w_seq ?_
        refine w_seq ?_
        refine w_region ?_
        refine l_cons rfl (p_move ?_)
        refine l_cons rfl (p_move ?_)
        refine l_cons rfl (p_cmp ?_)
        refine l_cons rfl (p_move ?_)
        refine g_b rfl (fun h4 => ?_) (fun h4 => ?_)
        · skip
          have h4' := h4; (try simp only [decide_eq_true_eq, decide_eq_false_iff_not, Bool.not_eq_true', Bool.not_false, Bool.not_true, Bool.not_eq_false'] at h4')
          refine (p_move ?_)
          refine g_y rfl h4 (p_leno sl_59 (a := .int .i64 ((rowTo n n.firsts (bfs n n.firsts i).sets ((bfs n n.firsts i).sets[i]'(by omega)) j).1.length : Int)) ?_ (ha := by rw [setRows_len]))
          refine g_y rfl h4 (p_move ?_)
          refine g_y rfl h4 (p_cmp ?_)
          refine l_cons rfl (p_pickt h4 ?_)
          refine l_nil ?_
          refine k_seq_normal ?_
          refine w_b (fun h5 => ?_) (fun h5 => ?_)
          · skip
            have h5' := h5; (try simp only [decide_eq_true_eq, decide_eq_false_iff_not, Bool.not_eq_true', Bool.not_false, Bool.not_true, Bool.not_eq_false'] at h5')
            refine w_skip ?_
            refine k_seq_normal ?_
            refine w_seq ?_
            refine w_block ?_
            refine w_seq ?_
            have hfj := Nf.firsts_mem (List.getElem_mem (show j < n.firsts.length by omega))
            refine w_drawn 9 [] (fun e => e = _) mixed (by kernel_rfl) rfl ?_
            refine q1 2 (hg := rfl) (hu := rfl) (h := by rintro f _ rfl; exact p_loadp ty_36 ⟨rfl, rfl⟩) (k := ?_)
            refine q1 10 (hg := rfl) (hu := rfl) (h := by rintro f _ rfl; exact p_move ⟨rfl, rfl⟩) (k := ?_)
            refine q1 11 (hg := rfl) (hu := rfl) (h := by rintro f _ rfl; exact p_move ⟨rfl, rfl⟩) (k := ?_)
            refine q2 60 61 (hg := rfl) (hu := rfl) (h := by rintro f _ rfl; exact p_ixo sl_59 (a := .ptr (es.length + 6) sS i 0) ⟨rfl, rfl⟩ (h0 := by omega) (h1 := by rw [setRows_len]; omega)) (k := ?_)
            refine q1 62 (hg := rfl) (hu := rfl) (h := by rintro f _ rfl; exact p_loadp ty_48 (a := ints ((bfs n n.firsts i).sets[i]'(by omega))) ⟨rfl, rfl⟩ (hr := setRows_get hgx) (hl := Nat.le_refl 1) (ha := rfl)) (k := ?_)
            refine q1 8 (hg := rfl) (hu := rfl) (h := by rintro f _ rfl; exact p_move ⟨rfl, rfl⟩) (k := ?_)
            refine q1 13 (hg := rfl) (hu := rfl) (h := by rintro f _ rfl; exact p_move ⟨rfl, rfl⟩) (k := ?_)
            refine q2 64 65 (hg := rfl) (hu := rfl) (h := by rintro f _ rfl; exact p_ixl sl_22 (a := .fptr 1 (n.firsts.map fun n => [.int .u8 n]) j 0) ⟨rfl, rfl⟩ (h0 := by omega) (h1 := by simp only [List.length_map]; omega)) (k := ?_)
            refine q1 66 (hg := rfl) (hu := rfl) (h := by rintro f _ rfl; exact p_loadf ty_5 (a := .int .u8 (n.firsts[j]'(by omega))) ⟨rfl, rfl⟩ (hr := rowU8 (by omega)) (hl := Nat.le_refl 1) (ha := rfl)) (k := ?_)
            refine q_end ?_
            refine m_end ?_
            refine l_cons rfl (p_callr en_45 (refStepped n hok (by simpa using h1') ((bfs n n.firsts i).sets[i]'(by omega)) (n.firsts[j]'(by omega)) (by have := fsl _ (List.getElem_mem (show i < (bfs n n.firsts i).sets.length by omega)); omega) hfj.1 hfj.2) ?_)
            refine l_cons rfl (p_assign ?_)
            refine l_nil ?_
            refine k_seq_normal ?_
            refine w_seq ?_
            refine w_region ?_
            refine l_cons rfl (p_move ?_)
            refine l_cons rfl (p_move ?_)
            refine l_cons rfl (p_callr en_91 (find_walk (rowTo n n.firsts (bfs n n.firsts i).sets ((bfs n n.firsts i).sets[i]'(by omega)) j).1 (stepped n ((bfs n n.firsts i).sets[i]'(by omega)) (n.firsts[j]'(by omega))) (at_miss _ (at_hit _ _)) (by omega)) ?_)
            refine l_cons rfl (p_assign ?_)
            refine l_nil ?_
            refine k_seq_normal ?_
            refine w_seq ?_
            refine w_seq ?_
            refine w_region ?_
            refine l_cons rfl (p_move ?_)
            refine l_cons rfl (p_cmp ?_)
            refine l_nil ?_
            refine k_seq_normal ?_
            refine w_b (fun h6 => ?_) (fun h6 => ?_)
            · skip
              have h6' := h6; (try simp only [decide_eq_true_eq, decide_eq_false_iff_not, Bool.not_eq_true', Bool.not_false, Bool.not_true, Bool.not_eq_false'] at h6')
              have hnew : placeIx (rowTo n n.firsts (bfs n n.firsts i).sets ((bfs n n.firsts i).sets[i]'(by omega)) j).1 (stepped n ((bfs n n.firsts i).sets[i]'(by omega)) (n.firsts[j]'(by omega))) = (rowTo n n.firsts (bfs n n.firsts i).sets ((bfs n n.firsts i).sets[i]'(by omega)) j).1.length := find_neg h6
              refine w_seq ?_
              refine w_region ?_
              refine l_cons rfl (p_move ?_)
              refine l_cons rfl (p_leno sl_59 (a := .int .i64 ((rowTo n n.firsts (bfs n n.firsts i).sets ((bfs n n.firsts i).sets[i]'(by omega)) j).1.length : Int)) ?_ (ha := by rw [setRows_len]))
              refine l_cons rfl (p_assign ?_)
              refine l_nil ?_
              refine k_seq_normal ?_
              refine w_region ?_
              refine l_cons rfl (p_move ?_)
              refine l_cons rfl (p_move ?_)
              refine l_cons rfl (p_buildList sl_59 ze_48 (rows := [[ints (stepped n ((bfs n n.firsts i).sets[i]'(by omega)) (n.firsts[j]'(by omega)))]]) ?_ (hr := rfl))
              refine l_cons rfl (p_append sl_59 by_48 ze_48 (fun s79 => ?_) (hb := by simp only [setRows_len, List.length_map, List.length_cons, List.length_nil, most]; omega))
              refine l_cons rfl (p_assign ?_)
              refine l_nil ?_
              refine k_seq_normal ?_
              refine w_region ?_
              refine l_cons rfl (p_move ?_)
              refine l_cons rfl (p_move ?_)
              refine l_cons rfl (p_buildList sl_48 ze_3 ?_)
              refine l_cons rfl (p_append sl_48 by_3 ze_3 (fun s83 => ?_) (hb := by simp only [setRows_len, List.length_map, List.length_cons, List.length_nil, most]; omega))
              refine l_cons rfl (p_assign ?_)
              refine l_nil ?_
              refine k_blk_normal ?_
              refine k_seq_normal ?_
              refine w_region ?_
              refine l_cons rfl (p_move ?_)
              refine l_cons rfl (p_arith ?_)
              refine l_cons rfl (p_assign ?_)
              refine l_nil ?_
              refine k_seq_normal ?_
              first
              | exact ⟨n.firsts.length - (j + 1), by omega, j + 1, s79, s83, rfl, by omega, by rw [rowTo_succ (by omega), placeL_new hnew, hnew, setRows_app, List.map_append]; exact Sub.refl _, by simp only [Knows, put, upd_apply, Nat.reduceEqDiff, ↓reduceIte, and_true, true_and, eq_self] <;> and_intros <;> rfl⟩
              | exact ⟨n.firsts.length - (j + 1), by omega, j + 1, sS, s83, rfl, by omega, by rw [rowTo_succ (by omega), placeL_old hold, List.map_append]; exact Sub.refl _, by simp only [Knows, put, upd_apply, Nat.reduceEqDiff, ↓reduceIte, and_true, true_and, eq_self] <;> and_intros <;> rfl⟩
            · skip
              have h6' := h6; (try simp only [decide_eq_true_eq, decide_eq_false_iff_not, Bool.not_eq_true', Bool.not_false, Bool.not_true, Bool.not_eq_false'] at h6')
              have hold : ¬ placeIx (rowTo n n.firsts (bfs n n.firsts i).sets ((bfs n n.firsts i).sets[i]'(by omega)) j).1 (stepped n ((bfs n n.firsts i).sets[i]'(by omega)) (n.firsts[j]'(by omega))) = (rowTo n n.firsts (bfs n n.firsts i).sets ((bfs n n.firsts i).sets[i]'(by omega)) j).1.length := find_pos h6
              rw [find_old hold]
              refine w_skip ?_
              refine k_seq_normal ?_
              refine w_region ?_
              refine l_cons rfl (p_move ?_)
              refine l_cons rfl (p_move ?_)
              refine l_cons rfl (p_buildList sl_48 ze_3 ?_)
              refine l_cons rfl (p_append sl_48 by_3 ze_3 (fun s83 => ?_) (hb := by simp only [setRows_len, List.length_map, List.length_cons, List.length_nil, most]; omega))
              refine l_cons rfl (p_assign ?_)
              refine l_nil ?_
              refine k_blk_normal ?_
              refine k_seq_normal ?_
              refine w_region ?_
              refine l_cons rfl (p_move ?_)
              refine l_cons rfl (p_arith ?_)
              refine l_cons rfl (p_assign ?_)
              refine l_nil ?_
              refine k_seq_normal ?_
              first
              | exact ⟨n.firsts.length - (j + 1), by omega, j + 1, s79, s83, rfl, by omega, by rw [rowTo_succ (by omega), placeL_new hnew, hnew, setRows_app, List.map_append]; exact Sub.refl _, by simp only [Knows, put, upd_apply, Nat.reduceEqDiff, ↓reduceIte, and_true, true_and, eq_self] <;> and_intros <;> rfl⟩
              | exact ⟨n.firsts.length - (j + 1), by omega, j + 1, sS, s83, rfl, by omega, by rw [rowTo_succ (by omega), placeL_old hold, List.map_append]; exact Sub.refl _, by simp only [Knows, put, upd_apply, Nat.reduceEqDiff, ↓reduceIte, and_true, true_and, eq_self] <;> and_intros <;> rfl⟩
          · skip
            have h5' := h5; (try simp only [decide_eq_true_eq, decide_eq_false_iff_not, Bool.not_eq_true', Bool.not_false, Bool.not_true, Bool.not_eq_false'] at h5')
            refine w_exit ?_
            refine k_seq_exit ?_
            refine k_seq_exit ?_
            refine k_blk_here ?_
            refine k_seq_normal ?_
            refine w_freezeTop 12 ?_ (hclean := cleans_i64 _)
            refine w_drawn 17 [4, 15] (fun e => at_ e es.length = some (.row s2 36 3 [n.cells]) ∧ at_ e (es.length + 3) = some (.row s9 62 258 [dRow (fun i => (clsOf n.al i : Int)) (.own (es.length + 4) sN) (.own (es.length + 5) sE)]) ∧ at_ e (es.length + 6) = some (.row sS 48 1 (setRows (rowTo n n.firsts (bfs n n.firsts i).sets ((bfs n n.firsts i).sets[i]'(by omega)) j).1))) mixed (by kernel_rfl) ⟨row_h6, row_h3, at_hit _ _⟩ ?_
            refine q1 9 (hg := rfl) (hu := rfl) (h := by rintro f _ ⟨hG1, hG2, hG3⟩; exact p_fap fa_62_1 ⟨rfl, rfl⟩) (k := ?_)
            refine q1 84 (hg := rfl) (hu := rfl) (h := by rintro f _ ⟨hG1, hG2, hG3⟩; exact p_loadp ty_59 (a := .own (es.length + 4) sN) ⟨rfl, rfl⟩ (hl := by rw [dRow_len]; omega) (ha := dRow_load256)) (k := ?_)
            refine q1 12 (hg := rfl) (hu := rfl) (h := by rintro f _ ⟨hG1, hG2, hG3⟩; exact p_move ⟨rfl, rfl⟩) (k := ?_)
            refine q1 86 (hg := rfl) (hu := rfl) (h := by rintro f _ ⟨hG1, hG2, hG3⟩; exact p_buildList sl_59 ze_48 (rows := [[ints (rowTo n n.firsts (bfs n n.firsts i).sets ((bfs n n.firsts i).sets[i]'(by omega)) j).2]]) ⟨rfl, rfl⟩ (hr := rfl)) (k := ?_)
            refine q1 9 (hg := rfl) (hu := rfl) (h := by rintro f _ ⟨hG1, hG2, hG3⟩; exact p_fap fa_62_2 ⟨rfl, rfl⟩) (k := ?_)
            refine q1 89 (hg := rfl) (hu := rfl) (h := by rintro f _ ⟨hG1, hG2, hG3⟩; exact p_loadp ty_60 (a := .own (es.length + 5) sE) ⟨rfl, rfl⟩ (hl := by rw [dRow_len]; omega) (ha := dRow_load257)) (k := ?_)
            refine q1 10 (hg := rfl) (hu := rfl) (h := by rintro f _ ⟨hG1, hG2, hG3⟩; exact p_move ⟨rfl, rfl⟩) (k := ?_)
            refine q1 11 (hg := rfl) (hu := rfl) (h := by rintro f _ ⟨hG1, hG2, hG3⟩; exact p_move ⟨rfl, rfl⟩) (k := ?_)
            refine q2 91 92 (hg := rfl) (hu := rfl) (h := by rintro f _ ⟨hG1, hG2, hG3⟩; exact p_ixo sl_59 (a := .ptr (es.length + 6) sS i 0) ⟨rfl, rfl⟩ (h0 := by omega) (h1 := by rw [setRows_len]; omega)) (k := ?_)
            refine q1 93 (hg := rfl) (hu := rfl) (h := by rintro f _ ⟨hG1, hG2, hG3⟩; exact p_loadp ty_48 (a := ints ((bfs n n.firsts i).sets[i]'(by omega))) ⟨rfl, rfl⟩ (hr := setRows_get hgx) (hl := Nat.le_refl 1) (ha := rfl)) (k := ?_)
            refine q1 2 (hg := rfl) (hu := rfl) (h := by rintro f _ ⟨hG1, hG2, hG3⟩; exact p_fap fa_36_2 ⟨rfl, rfl⟩) (k := ?_)
            refine q1 95 (hg := rfl) (hu := rfl) (h := by rintro f _ ⟨hG1, hG2, hG3⟩; exact p_loadp ty_3 ⟨rfl, rfl⟩) (k := ?_)
            refine q2 94 96 (hg := rfl) (hu := rfl) (h := by rintro f _ ⟨hG1, hG2, hG3⟩; exact p_callr en_82 (refHas ((bfs n n.firsts i).sets[i]'(by omega)) n.stop) ⟨rfl, rfl⟩) (k := ?_)
            refine q1 97 (hg := rfl) (hu := rfl) (h := by rintro f _ ⟨hG1, hG2, hG3⟩; exact p_buildList sl_60 ze_4 ⟨rfl, rfl⟩) (k := ?_)
            refine q1 9 (hg := rfl) (hu := rfl) (h := by rintro f _ ⟨hG1, hG2, hG3⟩; exact p_fap fa_62_1 ⟨rfl, rfl⟩) (k := ?_)
            refine q_end ?_
            refine m2 85 87 (hu := rfl) (h := fun f => p_append sl_59 by_48 ze_48 (fun s88 => ?_) (hb := by simp only [setRows_len, List.length_map, List.length_cons, List.length_nil, most]; omega))
            refine ⟨_, rfl, ⟨row_h6, row_h3, at_hit _ _⟩, ?_⟩
            refine m2 90 98 (hu := rfl) (h := fun f => p_append sl_60 by_4 ze_4 (fun s99 => ?_) (hb := by simp only [setRows_len, List.length_map, List.length_cons, List.length_nil, most]; omega))
            refine ⟨_, rfl, ⟨row_h6, row_h3, at_hit _ _⟩, ?_⟩
            refine m_end ?_
            refine l_cons rfl (p_store ty_59 (r' := dRow (fun i => (clsOf n.al i : Int)) (.own (es.length + 4) s88) (.own (es.length + 5) sE)) ?_ (hl := by rw [dRow_len]; omega) (hr' := dRow_put256))
            refine l_cons rfl (p_fap fa_62_2 ?_)
            refine l_cons rfl (p_store ty_60 (r' := dRow (fun i => (clsOf n.al i : Int)) (.own (es.length + 4) s88) (.own (es.length + 5) s99)) ?_ (hl := by rw [dRow_len]; omega) (hr' := dRow_put257))
            refine l_nil ?_
            refine k_blk_normal ?_
            refine k_seq_normal ?_
            refine w_region ?_
            refine l_cons rfl (p_move ?_)
            refine l_cons rfl (p_arith ?_)
            refine l_cons rfl (p_assign ?_)
            refine l_nil ?_
            refine k_seq_normal ?_
            first
            | (have hjj : j = n.firsts.length := by omega
               exact ⟨mx.toNat + 2 - (i + 1), by omega, i + 1, _, _, _, s99, s88, sS, .inl ⟨by rw [bfs_alive (show i < (bfs n n.firsts i).sets.length by omega), ← hjj], rfl, by omega⟩, by omega, by rw [setRows_app, List.map_append]; exact Sub.refl _, by simp only [Knows, put, upd_apply, Nat.reduceEqDiff, ↓reduceIte, and_true, true_and, eq_self] <;> and_intros <;> rfl⟩)
            | (have hov := rowTo_le (n := n) (fs := n.firsts) (sets := (bfs n n.firsts i).sets) (x := ((bfs n n.firsts i).sets[i]'(by omega))) hj1 (Nat.le_refl _)
               exact ⟨0, by omega, i + 1, (rowTo n n.firsts (bfs n n.firsts i).sets ((bfs n n.firsts i).sets[i]'(by omega)) j).1, (bfs n n.firsts i).next ++ [(rowTo n n.firsts (bfs n n.firsts i).sets ((bfs n n.firsts i).sets[i]'(by omega)) j).2], (bfs n n.firsts i).ends ++ [((bfs n n.firsts i).sets[i]'(by omega)).contains n.stop], s99, s88, sS, .inr ⟨by omega, rfl, i + 1, by rw [bfs_alive (show i < (bfs n n.firsts i).sets.length by omega)]; simp only; omega⟩, by omega, by rw [setRows_app, List.map_append]; exact Sub.refl _, by simp only [Knows, put, upd_apply, Nat.reduceEqDiff, ↓reduceIte, and_true, true_and, eq_self] <;> and_intros <;> rfl⟩)
        · skip
          have h4' := h4; (try simp only [decide_eq_true_eq, decide_eq_false_iff_not, Bool.not_eq_true', Bool.not_false, Bool.not_true, Bool.not_eq_false'] at h4')
          refine g_n rfl h4 ?_
          refine g_n rfl h4 ?_
          refine g_n rfl h4 ?_
          refine l_cons rfl (p_pickf h4 ?_)
          refine l_nil ?_
          refine k_seq_normal ?_
          refine w_f rfl ?_
          refine w_exit ?_
          refine k_seq_exit ?_
          refine k_seq_exit ?_
          refine k_blk_here ?_
          refine k_seq_normal ?_
          refine w_freezeTop 12 ?_ (hclean := cleans_i64 _)
          refine w_drawn 17 [4, 15] (fun e => at_ e es.length = some (.row s2 36 3 [n.cells]) ∧ at_ e (es.length + 3) = some (.row s9 62 258 [dRow (fun i => (clsOf n.al i : Int)) (.own (es.length + 4) sN) (.own (es.length + 5) sE)]) ∧ at_ e (es.length + 6) = some (.row sS 48 1 (setRows (rowTo n n.firsts (bfs n n.firsts i).sets ((bfs n n.firsts i).sets[i]'(by omega)) j).1))) mixed (by kernel_rfl) ⟨row_h6, row_h3, at_hit _ _⟩ ?_
          refine q1 9 (hg := rfl) (hu := rfl) (h := by rintro f _ ⟨hG1, hG2, hG3⟩; exact p_fap fa_62_1 ⟨rfl, rfl⟩) (k := ?_)
          refine q1 84 (hg := rfl) (hu := rfl) (h := by rintro f _ ⟨hG1, hG2, hG3⟩; exact p_loadp ty_59 (a := .own (es.length + 4) sN) ⟨rfl, rfl⟩ (hl := by rw [dRow_len]; omega) (ha := dRow_load256)) (k := ?_)
          refine q1 12 (hg := rfl) (hu := rfl) (h := by rintro f _ ⟨hG1, hG2, hG3⟩; exact p_move ⟨rfl, rfl⟩) (k := ?_)
          refine q1 86 (hg := rfl) (hu := rfl) (h := by rintro f _ ⟨hG1, hG2, hG3⟩; exact p_buildList sl_59 ze_48 (rows := [[ints (rowTo n n.firsts (bfs n n.firsts i).sets ((bfs n n.firsts i).sets[i]'(by omega)) j).2]]) ⟨rfl, rfl⟩ (hr := rfl)) (k := ?_)
          refine q1 9 (hg := rfl) (hu := rfl) (h := by rintro f _ ⟨hG1, hG2, hG3⟩; exact p_fap fa_62_2 ⟨rfl, rfl⟩) (k := ?_)
          refine q1 89 (hg := rfl) (hu := rfl) (h := by rintro f _ ⟨hG1, hG2, hG3⟩; exact p_loadp ty_60 (a := .own (es.length + 5) sE) ⟨rfl, rfl⟩ (hl := by rw [dRow_len]; omega) (ha := dRow_load257)) (k := ?_)
          refine q1 10 (hg := rfl) (hu := rfl) (h := by rintro f _ ⟨hG1, hG2, hG3⟩; exact p_move ⟨rfl, rfl⟩) (k := ?_)
          refine q1 11 (hg := rfl) (hu := rfl) (h := by rintro f _ ⟨hG1, hG2, hG3⟩; exact p_move ⟨rfl, rfl⟩) (k := ?_)
          refine q2 91 92 (hg := rfl) (hu := rfl) (h := by rintro f _ ⟨hG1, hG2, hG3⟩; exact p_ixo sl_59 (a := .ptr (es.length + 6) sS i 0) ⟨rfl, rfl⟩ (h0 := by omega) (h1 := by rw [setRows_len]; omega)) (k := ?_)
          refine q1 93 (hg := rfl) (hu := rfl) (h := by rintro f _ ⟨hG1, hG2, hG3⟩; exact p_loadp ty_48 (a := ints ((bfs n n.firsts i).sets[i]'(by omega))) ⟨rfl, rfl⟩ (hr := setRows_get hgx) (hl := Nat.le_refl 1) (ha := rfl)) (k := ?_)
          refine q1 2 (hg := rfl) (hu := rfl) (h := by rintro f _ ⟨hG1, hG2, hG3⟩; exact p_fap fa_36_2 ⟨rfl, rfl⟩) (k := ?_)
          refine q1 95 (hg := rfl) (hu := rfl) (h := by rintro f _ ⟨hG1, hG2, hG3⟩; exact p_loadp ty_3 ⟨rfl, rfl⟩) (k := ?_)
          refine q2 94 96 (hg := rfl) (hu := rfl) (h := by rintro f _ ⟨hG1, hG2, hG3⟩; exact p_callr en_82 (refHas ((bfs n n.firsts i).sets[i]'(by omega)) n.stop) ⟨rfl, rfl⟩) (k := ?_)
          refine q1 97 (hg := rfl) (hu := rfl) (h := by rintro f _ ⟨hG1, hG2, hG3⟩; exact p_buildList sl_60 ze_4 ⟨rfl, rfl⟩) (k := ?_)
          refine q1 9 (hg := rfl) (hu := rfl) (h := by rintro f _ ⟨hG1, hG2, hG3⟩; exact p_fap fa_62_1 ⟨rfl, rfl⟩) (k := ?_)
          refine q_end ?_
          refine m2 85 87 (hu := rfl) (h := fun f => p_append sl_59 by_48 ze_48 (fun s88 => ?_) (hb := by simp only [setRows_len, List.length_map, List.length_cons, List.length_nil, most]; omega))
          refine ⟨_, rfl, ⟨row_h6, row_h3, at_hit _ _⟩, ?_⟩
          refine m2 90 98 (hu := rfl) (h := fun f => p_append sl_60 by_4 ze_4 (fun s99 => ?_) (hb := by simp only [setRows_len, List.length_map, List.length_cons, List.length_nil, most]; omega))
          refine ⟨_, rfl, ⟨row_h6, row_h3, at_hit _ _⟩, ?_⟩
          refine m_end ?_
          refine l_cons rfl (p_store ty_59 (r' := dRow (fun i => (clsOf n.al i : Int)) (.own (es.length + 4) s88) (.own (es.length + 5) sE)) ?_ (hl := by rw [dRow_len]; omega) (hr' := dRow_put256))
          refine l_cons rfl (p_fap fa_62_2 ?_)
          refine l_cons rfl (p_store ty_60 (r' := dRow (fun i => (clsOf n.al i : Int)) (.own (es.length + 4) s88) (.own (es.length + 5) s99)) ?_ (hl := by rw [dRow_len]; omega) (hr' := dRow_put257))
          refine l_nil ?_
          refine k_blk_normal ?_
          refine k_seq_normal ?_
          refine w_region ?_
          refine l_cons rfl (p_move ?_)
          refine l_cons rfl (p_arith ?_)
          refine l_cons rfl (p_assign ?_)
          refine l_nil ?_
          refine k_seq_normal ?_
          first
          | (have hjj : j = n.firsts.length := by omega
             exact ⟨mx.toNat + 2 - (i + 1), by omega, i + 1, _, _, _, s99, s88, sS, .inl ⟨by rw [bfs_alive (show i < (bfs n n.firsts i).sets.length by omega), ← hjj], rfl, by omega⟩, by omega, by rw [setRows_app, List.map_append]; exact Sub.refl _, by simp only [Knows, put, upd_apply, Nat.reduceEqDiff, ↓reduceIte, and_true, true_and, eq_self] <;> and_intros <;> rfl⟩)
          | (have hov := rowTo_le (n := n) (fs := n.firsts) (sets := (bfs n n.firsts i).sets) (x := ((bfs n n.firsts i).sets[i]'(by omega))) hj1 (Nat.le_refl _)
             exact ⟨0, by omega, i + 1, (rowTo n n.firsts (bfs n n.firsts i).sets ((bfs n n.firsts i).sets[i]'(by omega)) j).1, (bfs n n.firsts i).next ++ [(rowTo n n.firsts (bfs n n.firsts i).sets ((bfs n n.firsts i).sets[i]'(by omega)) j).2], (bfs n n.firsts i).ends ++ [((bfs n n.firsts i).sets[i]'(by omega)).contains n.stop], s99, s88, sS, .inr ⟨by omega, rfl, i + 1, by rw [bfs_alive (show i < (bfs n n.firsts i).sets.length by omega)]; simp only; omega⟩, by omega, by rw [setRows_app, List.map_append]; exact Sub.refl _, by simp only [Knows, put, upd_apply, Nat.reduceEqDiff, ↓reduceIte, and_true, true_and, eq_self] <;> and_intros <;> rfl⟩)
      · skip
        have h3' := h3; (try simp only [decide_eq_true_eq, decide_eq_false_iff_not, Bool.not_eq_true', Bool.not_false, Bool.not_true, Bool.not_eq_false'] at h3')
        refine w_exit ?_
        refine k_seq_exit ?_
        refine k_seq_exit ?_
        refine k_blk_here ?_
        refine k_seq_normal ?_
        refine w_seq ?_
        refine w_seq ?_
        refine w_region ?_
        refine l_cons rfl (p_move ?_)
        refine l_cons rfl (p_leno sl_59 (a := .int .i64 (sets.length : Int)) ?_ (ha := by rw [setRows_len]))
        refine l_cons rfl (p_move ?_)
        refine l_cons rfl (p_cmp ?_)
        refine l_nil ?_
        refine k_seq_normal ?_
        refine w_b (fun h7 => ?_) (fun h7 => ?_)
        · skip
          have h7' := h7; (try simp only [decide_eq_true_eq, decide_eq_false_iff_not, Bool.not_eq_true', Bool.not_false, Bool.not_true, Bool.not_eq_false'] at h7')
          refine w_seq ?_
          have hbud : makeN n mx = (zeroD, 7) := by
            rcases hst0 with ⟨hB, _, _⟩ | ⟨_, _, w, hw⟩
            · refine make_budget (by simpa using h1') (i := i) ?_
              rw [← hB]
              simp only
              omega
            · exact make_budget (by simpa using h1') hw
          refine w_region ?_
          refine l_cons rfl (p_build ze_d pl_62 ?_)
          refine l_cons rfl (p_store ty_62 (r' := dRow (fun _ => 0) .nil .nil) ?_ (hl := by rw [dRow_len]; exact Nat.le_refl _) (hn := dRow_len) (hr' := dRow_putAll))
          refine l_cons rfl (p_assign ?_)
          refine l_nil ?_
          refine k_seq_normal ?_
          refine w_ret ?_
          refine k_seq_ret ?_
          rw [hbud]
          exact retctw rfl ty_62 (by first | exact sub2 _ _ _ | exact sub7 _ _ _ _ _ _ _ _) (fun _ _ _ => rep_zero) ⟨rfl, rfl⟩ (hl := by rw [dRow_len]; exact Nat.le_refl _) (ha := dRow_all)
        · skip
          have h7' := h7; (try simp only [decide_eq_true_eq, decide_eq_false_iff_not, Bool.not_eq_true', Bool.not_false, Bool.not_true, Bool.not_eq_false'] at h7')
          refine w_skip ?_
          refine k_seq_normal ?_
          refine w_seq ?_
          obtain ⟨hB, hm0, hi1⟩ := hst0.resolve_right (fun hh => absurd hh.1 (by omega))
          obtain ⟨rfl, rfl, rfl⟩ : sets = (bfs n n.firsts i).sets ∧ next = (bfs n n.firsts i).next ∧ ends = (bfs n n.firsts i).ends := ⟨congrArg Bf.sets hB, congrArg Bf.next hB, congrArg Bf.ends hB⟩
          refine w_less (fun _ => .inl rfl) (sub1 _ _) ?_
          refine w_freezeCell' (i := 256) (id := es.length + 3) (j := es.length + 4) (loc_miss loc_hit) (loc_miss (loc_miss loc_hit)) (by omega) dRow_256 (cleans_sets _) ?_
          rw [dRow_set256]
          refine w_freezeCell' (i := 257) (id := es.length + 3) (j := es.length + 5) loc_hit (loc_miss (loc_miss loc_hit)) (by omega) dRow_257 (cleans_bool _) ?_
          rw [dRow_set257]
          refine w_region ?_
          refine l_cons rfl (p_loadp ty_62 (a := .agg (dRow (fun i => (clsOf n.al i : Int)) (.list 1 (setRows (bfs n n.firsts i).next)) (.list 1 ((bfs n n.firsts i).ends.map fun b => [AV.bool b])))) ?_ (hl := by rw [dRow_len]; exact Nat.le_refl _) (ha := dRow_all))
          refine l_cons rfl (p_store ty_62 (r' := dRow (fun i => (clsOf n.al i : Int)) (.list 1 (setRows (bfs n n.firsts i).next)) (.list 1 ((bfs n n.firsts i).ends.map fun b => [AV.bool b]))) ?_ (hl := by rw [dRow_len]; exact Nat.le_refl _) (hn := dRow_len) (hr' := dRow_putAll))
          refine l_cons rfl (p_assign ?_)
          refine l_nil ?_
          refine k_seq_normal ?_
          refine w_ret ?_
          rw [make_done (by simpa using h1') (i := i) (by omega) (by omega)]
          exact retct rfl ty_62 (sub6 _ _ _ _ _ _ _) ⟨rfl, rfl⟩ (hl := by rw [dRow_len]; exact Nat.le_refl _) (ha := dRow_all)
    · skip
      have h2' := h2; (try simp only [decide_eq_true_eq, decide_eq_false_iff_not, Bool.not_eq_true', Bool.not_false, Bool.not_true, Bool.not_eq_false'] at h2')
      refine g_n rfl h2 ?_
      refine g_n rfl h2 ?_
      refine g_n rfl h2 ?_
      refine l_cons rfl (p_pickf h2 ?_)
      refine l_nil ?_
      refine k_seq_normal ?_
      refine w_f rfl ?_
      refine w_exit ?_
      refine k_seq_exit ?_
      refine k_seq_exit ?_
      refine k_blk_here ?_
      refine k_seq_normal ?_
      refine w_seq ?_
      refine w_seq ?_
      refine w_region ?_
      refine l_cons rfl (p_move ?_)
      refine l_cons rfl (p_leno sl_59 (a := .int .i64 (sets.length : Int)) ?_ (ha := by rw [setRows_len]))
      refine l_cons rfl (p_move ?_)
      refine l_cons rfl (p_cmp ?_)
      refine l_nil ?_
      refine k_seq_normal ?_
      refine w_b (fun h8 => ?_) (fun h8 => ?_)
      · skip
        have h8' := h8; (try simp only [decide_eq_true_eq, decide_eq_false_iff_not, Bool.not_eq_true', Bool.not_false, Bool.not_true, Bool.not_eq_false'] at h8')
        refine w_seq ?_
        have hbud : makeN n mx = (zeroD, 7) := by
          rcases hst0 with ⟨hB, _, _⟩ | ⟨_, _, w, hw⟩
          · refine make_budget (by simpa using h1') (i := i) ?_
            rw [← hB]
            simp only
            omega
          · exact make_budget (by simpa using h1') hw
        refine w_region ?_
        refine l_cons rfl (p_build ze_d pl_62 ?_)
        refine l_cons rfl (p_store ty_62 (r' := dRow (fun _ => 0) .nil .nil) ?_ (hl := by rw [dRow_len]; exact Nat.le_refl _) (hn := dRow_len) (hr' := dRow_putAll))
        refine l_cons rfl (p_assign ?_)
        refine l_nil ?_
        refine k_seq_normal ?_
        refine w_ret ?_
        refine k_seq_ret ?_
        rw [hbud]
        exact retctw rfl ty_62 (by first | exact sub2 _ _ _ | exact sub7 _ _ _ _ _ _ _ _) (fun _ _ _ => rep_zero) ⟨rfl, rfl⟩ (hl := by rw [dRow_len]; exact Nat.le_refl _) (ha := dRow_all)
      · skip
        have h8' := h8; (try simp only [decide_eq_true_eq, decide_eq_false_iff_not, Bool.not_eq_true', Bool.not_false, Bool.not_true, Bool.not_eq_false'] at h8')
        refine w_skip ?_
        refine k_seq_normal ?_
        refine w_seq ?_
        obtain ⟨hB, hm0, hi1⟩ := hst0.resolve_right (fun hh => absurd hh.1 (by omega))
        obtain ⟨rfl, rfl, rfl⟩ : sets = (bfs n n.firsts i).sets ∧ next = (bfs n n.firsts i).next ∧ ends = (bfs n n.firsts i).ends := ⟨congrArg Bf.sets hB, congrArg Bf.next hB, congrArg Bf.ends hB⟩
        refine w_less (fun _ => .inl rfl) (sub1 _ _) ?_
        refine w_freezeCell' (i := 256) (id := es.length + 3) (j := es.length + 4) (loc_miss loc_hit) (loc_miss (loc_miss loc_hit)) (by omega) dRow_256 (cleans_sets _) ?_
        rw [dRow_set256]
        refine w_freezeCell' (i := 257) (id := es.length + 3) (j := es.length + 5) loc_hit (loc_miss (loc_miss loc_hit)) (by omega) dRow_257 (cleans_bool _) ?_
        rw [dRow_set257]
        refine w_region ?_
        refine l_cons rfl (p_loadp ty_62 (a := .agg (dRow (fun i => (clsOf n.al i : Int)) (.list 1 (setRows (bfs n n.firsts i).next)) (.list 1 ((bfs n n.firsts i).ends.map fun b => [AV.bool b])))) ?_ (hl := by rw [dRow_len]; exact Nat.le_refl _) (ha := dRow_all))
        refine l_cons rfl (p_store ty_62 (r' := dRow (fun i => (clsOf n.al i : Int)) (.list 1 (setRows (bfs n n.firsts i).next)) (.list 1 ((bfs n n.firsts i).ends.map fun b => [AV.bool b]))) ?_ (hl := by rw [dRow_len]; exact Nat.le_refl _) (hn := dRow_len) (hr' := dRow_putAll))
        refine l_cons rfl (p_assign ?_)
        refine l_nil ?_
        refine k_seq_normal ?_
        refine w_ret ?_
        rw [make_done (by simpa using h1') (i := i) (by omega) (by omega)]
        exact retct rfl ty_62 (sub6 _ _ _ _ _ _ _) ⟨rfl, rfl⟩ (hl := by rw [dRow_len]; exact Nat.le_refl _) (ha := dRow_all)
end Go.Proofs.YtfdgbghlanbddaaDoor.Av
set_option linter.unusedVariables false
set_option linter.unusedSimpArgs false
set_option maxRecDepth 8000
namespace Go.Proofs.YtfdgbghlanbddaaDoor.Av
open Go.RowKit Go.Proofs
variable {d : Df}
theorem row_ints {l : List (List Int)} {k : Nat} (h : k < l.length) : (l.map fun r => [ints r])[k]? = some [ints l[k]] := by simp [h]
theorem fold_mx {f : Nat → Nat} {k : Nat} : (if ((f k : Nat) : Int) + 1 > (((List.range k).foldl (fun m i => max m (f i + 1)) 0 : Nat) : Int) then ((f k : Nat) : Int) + 1 else (((List.range k).foldl (fun m i => max m (f i + 1)) 0 : Nat) : Int)) = (((List.range (k + 1)).foldl (fun m i => max m (f i + 1)) 0 : Nat) : Int) := by
  rw [List.range_succ, List.foldl_append]
  simp only [List.foldl_cons, List.foldl_nil]
  generalize (List.range k).foldl (fun m i => max m (f i + 1)) 0 = a
  split <;> omega
theorem classes_le (hc : ∀ i, i < 256 → d.cls i < 256) : d.classes ≤ 256 := by
  rcases (fold_max d.cls (List.range 256) 0).2.2 with h | ⟨i, hi, h⟩
  · show (List.range 256).foldl (fun m i => max m (d.cls i + 1)) 0 ≤ 256
    omega
  · have := hc i (List.mem_range.1 hi)
    show (List.range 256).foldl (fun m i => max m (d.cls i + 1)) 0 ≤ 256
    omega
theorem row_ok {r : List Int} {c : Nat} (hl : r.length = d.classes) (h : (r.take c).all (fun x => decide (0 ≤ x) && decide (x < (d.next.length : Int))) = true) (hc : c = d.classes) : d.rowOk r = true := by
  unfold Df.rowOk
  rw [← h, List.take_of_length_le (by omega), decide_eq_true hl, Bool.true_and]
theorem row_no1 {r : List Int} (h : ¬ r.length = d.classes) : d.rowOk r = false := by
  unfold Df.rowOk
  rw [decide_eq_false h]; rfl
theorem row_no2 {r : List Int} {j : Nat} (hj : j < r.length) (h : r[j] < 0 ∨ (d.next.length : Int) ≤ r[j]) : d.rowOk r = false := by
  unfold Df.rowOk
  rw [all_no hj (by simp only [Bool.and_eq_false_iff, decide_eq_false_iff_not]; omega), Bool.and_false]
theorem dmay_no1 (h : d.next.length < 1 ∨ 2000 < d.next.length ∨ ¬ d.ends.length = d.next.length) : d.may = false := by
  unfold Df.may
  rcases h with h | h | h
  · rw [decide_eq_false (by omega : ¬ 1 ≤ d.next.length)]; simp
  · rw [decide_eq_false (by omega : ¬ d.next.length ≤ 2000)]; simp
  · rw [decide_eq_false h]; simp
theorem dmay_no2 {i : Nat} (hi : i < d.next.length) (h : d.rowOk d.next[i] = false) : d.may = false := by
  unfold Df.may
  rw [all_no hi h, Bool.and_false]
theorem dmay_yes (h1 : 1 ≤ d.next.length) (h2 : d.next.length ≤ 2000) (h3 : d.ends.length = d.next.length) (h4 : d.next.all d.rowOk = true) : d.may = true := by
  unfold Df.may
  rw [h4, decide_eq_true h1, decide_eq_true h2, decide_eq_true h3]; rfl
theorem dclasses_walk {w0 : World} {es : List Ent} (d : Df) (hc : ∀ i, i < 256 → d.cls i < 256) : ACalls Tryd.prog w0 95 [.agg d.cells] es fun v es' => v = .int .i64 (d.classes : Int) ∧ es' = es := by
  rw [dRow_cells]
  refine calls1 (N := 18) Tryd.func95 rfl rfl (by decide) ?_
  refine w_seq ?_
  refine w_region ?_
  refine l_cons rfl (p_box fun s1 => ?_)
  rw [dRow_len]
  refine l_cons rfl (p_assign ?_)
  refine l_nil ?_
  refine k_seq_normal ?_
  refine w_seq ?_
  refine w_region ?_
  refine l_cons rfl (p_assign ?_)
  refine l_nil ?_
  refine k_seq_normal ?_
  refine w_seq ?_
  refine w_seq ?_
  refine w_region ?_
  refine l_cons rfl (p_assign ?_)
  refine l_nil ?_
  refine k_seq_normal ?_
  refine w_block ?_
  refine w_loop (fun m f es' => ∃ k, m = 256 - k ∧ k ≤ 256 ∧ es' = .row s1 62 258 [dRow (fun i => (d.cls i : Int)) (.list 1 (d.next.map fun r => [ints r])) (.list 1 (d.ends.map fun b => [AV.bool b]))] :: es ∧ Knows f [(1, .ptr es.length s1 0 0), (3, .int .i64 (((List.range k).foldl (fun m i => max m (d.cls i + 1)) 0 : Nat) : Int)), (4, .int .i64 (k : Int))]) (256) (⟨0, rfl, Nat.zero_le _, rfl, by simp only [Knows, put, upd_apply, Nat.reduceEqDiff, ↓reduceIte, and_true, true_and, eq_self] <;> and_intros <;> rfl⟩) ?_
  rintro m f es' ⟨k, rfl, hk1, rfl, hk⟩
  refine w_pins _ (Sub.refl _) (hk) ?_
  simp only [pins]
  refine w_seq ?_
  refine w_seq ?_
  refine w_region ?_
  refine l_cons rfl (p_move ?_)
  refine l_cons rfl (p_cmp ?_)
  refine l_nil ?_
  refine k_seq_normal ?_
  refine w_b (fun h1 => ?_) (fun h1 => ?_)
  · skip
    have h1' := h1; (try simp only [decide_eq_true_eq, decide_eq_false_iff_not, Bool.not_eq_true', Bool.not_false, Bool.not_true, Bool.not_eq_false'] at h1')
    refine w_skip ?_
    refine k_seq_normal ?_
    refine w_seq ?_
    refine w_block ?_
    have hck := hc k (by omega)
    refine w_region ?_
    refine l_cons rfl (p_move ?_)
    refine l_cons rfl (p_move ?_)
    refine l_cons rfl (p_fap fa_62_0 ?_)
    refine l_cons rfl (p_ixa ar_58 (a := .ptr es.length s1 0 k) ?_ (h0 := by omega) (h1 := by omega) (ho := by simp))
    refine l_cons rfl (p_loadp ty_5 (a := .int .u8 (d.cls k : Int)) ?_ (hl := by rw [dRow_len]; omega) (ha := dRow_load (p := (fun i => (d.cls i : Int))) (k := k) (by omega)))
    refine l_cons rfl (p_conv in_5 in_3 ?_ (hb := wrap_i64 (n := (d.cls k : Int)) (by omega) (by omega)))
    refine l_cons rfl (p_arith ?_)
    refine l_cons rfl (p_max (r := (((List.range (k + 1)).foldl (fun m i => max m (d.cls i + 1)) 0 : Nat) : Int)) ?_ (hr := fold_mx))
    refine l_cons rfl (p_assign ?_)
    refine l_nil ?_
    refine k_blk_normal ?_
    refine k_seq_normal ?_
    refine w_region ?_
    refine l_cons rfl (p_move ?_)
    refine l_cons rfl (p_arith ?_)
    refine l_cons rfl (p_assign ?_)
    refine l_nil ?_
    refine k_seq_normal ?_
    exact ⟨256 - (k + 1), by omega, k + 1, rfl, by omega, rfl, by simp only [Knows, put, upd_apply, Nat.reduceEqDiff, ↓reduceIte, and_true, true_and, eq_self] <;> and_intros <;> rfl⟩
  · skip
    have h1' := h1; (try simp only [decide_eq_true_eq, decide_eq_false_iff_not, Bool.not_eq_true', Bool.not_false, Bool.not_true, Bool.not_eq_false'] at h1')
    refine w_exit ?_
    refine k_seq_exit ?_
    refine k_seq_exit ?_
    refine k_blk_here ?_
    refine k_seq_normal ?_
    refine w_seq ?_
    obtain rfl : k = 256 := by omega
    refine w_region ?_
    refine l_cons rfl (p_move ?_)
    refine l_cons rfl (p_assign ?_)
    refine l_nil ?_
    refine k_seq_normal ?_
    refine w_ret ?_
    exact ret1 rfl (by simp only [ev_tmp, ev_const, ev_func, ofConst_int, ofConst_bool, ofConst_str, ofConst_nil, upd_apply, Nat.reduceEqDiff, ↓reduceIte] <;> exact rfl) (by first | exact Sub.refl _ | exact sub1 _ _ | exact sub2 _ _ _ | exact sub3 _ _ _ _ | exact sub4 _ _ _ _ _ | exact sub5 _ _ _ _ _ _) ⟨rfl, rfl⟩
theorem dmay_walk {w0 : World} {es : List Ent} (d : Df) (hc : ∀ i, i < 256 → d.cls i < 256) : ACalls Tryd.prog w0 52 [.agg d.cells] es fun v es' => v = .bool d.may ∧ es' = es := by
  rw [dRow_cells]
  refine calls1 (N := 64) Tryd.func52 rfl rfl (by decide) ?_
  refine w_seq ?_
  refine w_region ?_
  refine l_cons rfl (p_box fun s1 => ?_)
  rw [dRow_len]
  refine l_cons rfl (p_assign ?_)
  refine l_nil ?_
  refine k_seq_normal ?_
  refine w_seq ?_
  refine w_drawn 5 [] (fun e => e = _) mixed (by kernel_rfl) rfl ?_
  refine q1 1 (hg := rfl) (hu := rfl) (h := by rintro f _ rfl; exact p_fap fa_62_1 ⟨rfl, rfl⟩) (k := ?_)
  refine q1 7 (hg := rfl) (hu := rfl) (h := by rintro f _ rfl; exact p_loadp ty_59 (a := .list 1 (d.next.map fun r => [ints r])) ⟨rfl, rfl⟩ (hl := by rw [dRow_len]; omega) (ha := dRow_load256)) (k := ?_)
  refine q1 8 (hg := rfl) (hu := rfl) (h := by rintro f _ rfl; exact p_lenl sl_59 (a := .int .i64 (d.next.length : Int)) ⟨rfl, rfl⟩ (ha := by rw [List.length_map])) (k := ?_)
  refine q1 1 (hg := rfl) (hu := rfl) (h := by rintro f _ rfl; exact p_loadp ty_62 (a := .agg d.cells) ⟨rfl, rfl⟩ (hl := by rw [dRow_len]; exact Nat.le_refl _) (ha := dRow_all)) (k := ?_)
  refine q1 10 (hg := rfl) (hu := rfl) (h := by rintro f _ rfl; exact p_callr en_95 (dclasses_walk d hc) ⟨rfl, rfl⟩) (k := ?_)
  refine q_end ?_
  refine m_end ?_
  refine l_cons rfl (p_assign ?_)
  refine l_cons rfl (p_assign ?_)
  refine l_nil ?_
  refine k_seq_normal ?_
  refine w_seq ?_
  refine w_seq ?_
  refine w_region ?_
  refine l_cons rfl (p_move ?_)
  refine l_cons rfl (p_cmp ?_)
  refine l_cons rfl (p_move ?_)
  refine g_b rfl (fun h1 => ?_) (fun h1 => ?_)
  · skip
    have h1' := h1; (try simp only [decide_eq_true_eq, decide_eq_false_iff_not, Bool.not_eq_true', Bool.not_false, Bool.not_true, Bool.not_eq_false'] at h1')
    refine (p_move ?_)
    refine g_y rfl h1 (p_cmp ?_)
    refine l_cons rfl (p_pickf h1 ?_)
    refine l_cons rfl (p_move ?_)
    refine g_b rfl (fun h2 => ?_) (fun h2 => ?_)
    · skip
      have h2' := h2; (try simp only [decide_eq_true_eq, decide_eq_false_iff_not, Bool.not_eq_true', Bool.not_false, Bool.not_true, Bool.not_eq_false'] at h2')
      refine (p_fap fa_62_2 ?_)
      refine g_y rfl h2 (p_loadp ty_60 (a := .list 1 (d.ends.map fun b => [AV.bool b])) ?_ (hl := by rw [dRow_len]; omega) (ha := dRow_load257))
      refine g_y rfl h2 (p_lenl sl_60 (a := .int .i64 (d.ends.length : Int)) ?_ (ha := by rw [List.length_map]))
      refine g_y rfl h2 (p_move ?_)
      refine g_y rfl h2 (p_cmp ?_)
      refine l_cons rfl (p_pickf h2 ?_)
      refine l_nil ?_
      refine k_seq_normal ?_
      refine w_b (fun h3 => ?_) (fun h3 => ?_)
      · skip
        have h3' := h3; (try simp only [decide_eq_true_eq, decide_eq_false_iff_not, Bool.not_eq_true', Bool.not_false, Bool.not_true, Bool.not_eq_false'] at h3')
        refine w_seq ?_
        refine w_region ?_
        refine l_cons rfl (p_assign ?_)
        refine l_nil ?_
        refine k_seq_normal ?_
        refine w_ret ?_
        refine k_seq_ret ?_
        exact ret1 rfl (by simp only [ev_tmp, ev_const, ev_func, ofConst_int, ofConst_bool, ofConst_str, ofConst_nil, upd_apply, Nat.reduceEqDiff, ↓reduceIte] <;> exact rfl) (by first | exact Sub.refl _ | exact sub1 _ _ | exact sub2 _ _ _ | exact sub3 _ _ _ _ | exact sub4 _ _ _ _ _ | exact sub5 _ _ _ _ _ _) ⟨by rw [dmay_no1 (by omega)], rfl⟩
      · skip
        have h3' := h3; (try simp only [decide_eq_true_eq, decide_eq_false_iff_not, Bool.not_eq_true', Bool.not_false, Bool.not_true, Bool.not_eq_false'] at h3')
        refine w_skip ?_
        refine k_seq_normal ?_
        refine w_seq ?_
        refine w_seq ?_
        have hcl := classes_le hc
        refine w_region ?_
        refine l_cons rfl (p_assign ?_)
        refine l_nil ?_
        refine k_seq_normal ?_
        refine w_block ?_
        refine w_loop (fun m f es' => ∃ i, m = d.next.length - i ∧ i ≤ d.next.length ∧ (d.next.take i).all d.rowOk = true ∧ es' = .row s1 62 258 [dRow (fun i => (d.cls i : Int)) (.list 1 (d.next.map fun r => [ints r])) (.list 1 (d.ends.map fun b => [AV.bool b]))] :: es ∧ Knows f [(1, .ptr es.length s1 0 0), (3, .int .i64 (d.next.length : Int)), (4, .int .i64 (d.classes : Int)), (5, .int .i64 (i : Int))]) (d.next.length) (⟨0, rfl, Nat.zero_le _, rfl, rfl, by simp only [Knows, put, upd_apply, Nat.reduceEqDiff, ↓reduceIte, and_true, true_and, eq_self] <;> and_intros <;> rfl⟩) ?_
        rintro m f es' ⟨i, rfl, hi1, hi2, rfl, hk⟩
        refine w_pins _ (Sub.refl _) (hk) ?_
        simp only [pins]
        refine w_seq ?_
        refine w_seq ?_
        refine w_region ?_
        refine l_cons rfl (p_move ?_)
        refine l_cons rfl (p_move ?_)
        refine l_cons rfl (p_cmp ?_)
        refine l_nil ?_
        refine k_seq_normal ?_
        refine w_b (fun h4 => ?_) (fun h4 => ?_)
        · skip
          have h4' := h4; (try simp only [decide_eq_true_eq, decide_eq_false_iff_not, Bool.not_eq_true', Bool.not_false, Bool.not_true, Bool.not_eq_false'] at h4')
          refine w_skip ?_
          refine k_seq_normal ?_
          refine w_seq ?_
          refine w_block ?_
          refine w_seq ?_
          refine w_seq ?_
          refine w_region ?_
          refine l_cons rfl (p_fap fa_62_1 ?_)
          refine l_cons rfl (p_loadp ty_59 (a := .list 1 (d.next.map fun r => [ints r])) ?_ (hl := by rw [dRow_len]; omega) (ha := dRow_load256))
          refine l_cons rfl (p_move ?_)
          refine l_cons rfl (p_ixl sl_59 (a := .fptr 1 (d.next.map fun r => [ints r]) i 0) ?_ (h0 := by omega) (h1 := by simp only [List.length_map]; omega))
          refine l_cons rfl (p_loadf ty_48 (a := ints (d.next[i]'(by omega))) ?_ (hr := row_ints (by omega)) (hl := Nat.le_refl 1) (ha := rfl))
          refine l_cons rfl (p_lenl sl_48 (a := .int .i64 ((d.next[i]'(by omega)).length : Int)) ?_ (ha := by rw [List.length_map]))
          refine l_cons rfl (p_move ?_)
          refine l_cons rfl (p_cmp ?_)
          refine l_nil ?_
          refine k_seq_normal ?_
          refine w_b (fun h5 => ?_) (fun h5 => ?_)
          · skip
            have h5' := h5; (try simp only [decide_eq_true_eq, decide_eq_false_iff_not, Bool.not_eq_true', Bool.not_false, Bool.not_true, Bool.not_eq_false'] at h5')
            refine w_seq ?_
            refine w_region ?_
            refine l_cons rfl (p_assign ?_)
            refine l_nil ?_
            refine k_seq_normal ?_
            refine w_ret ?_
            refine k_seq_ret ?_
            refine k_blk_ret ?_
            refine k_seq_ret ?_
            refine k_seq_ret ?_
            refine k_blk_ret ?_
            refine k_seq_ret ?_
            exact ret1 rfl (by simp only [ev_tmp, ev_const, ev_func, ofConst_int, ofConst_bool, ofConst_str, ofConst_nil, upd_apply, Nat.reduceEqDiff, ↓reduceIte] <;> exact rfl) (by first | exact Sub.refl _ | exact sub1 _ _ | exact sub2 _ _ _ | exact sub3 _ _ _ _ | exact sub4 _ _ _ _ _ | exact sub5 _ _ _ _ _ _) ⟨by rw [dmay_no2 (i := i) (by omega) (row_no1 (by omega))], rfl⟩
          · skip
            have h5' := h5; (try simp only [decide_eq_true_eq, decide_eq_false_iff_not, Bool.not_eq_true', Bool.not_false, Bool.not_true, Bool.not_eq_false'] at h5')
            refine w_skip ?_
            refine k_seq_normal ?_
            refine w_seq ?_
            refine w_region ?_
            refine l_cons rfl (p_assign ?_)
            refine l_nil ?_
            refine k_seq_normal ?_
            refine w_block ?_
            refine w_loop (fun m f es' => ∃ j, m = d.classes - j ∧ j ≤ d.classes ∧ ((d.next[i]'(by omega)).take j).all (fun x => decide (0 ≤ x) && decide (x < (d.next.length : Int))) = true ∧ es' = .row s1 62 258 [dRow (fun i => (d.cls i : Int)) (.list 1 (d.next.map fun r => [ints r])) (.list 1 (d.ends.map fun b => [AV.bool b]))] :: es ∧ Knows f [(1, .ptr es.length s1 0 0), (3, .int .i64 (d.next.length : Int)), (4, .int .i64 (d.classes : Int)), (5, .int .i64 (i : Int)), (6, .int .i64 (j : Int))]) (d.classes) (⟨0, (Nat.sub_zero _).symm, Nat.zero_le _, rfl, rfl, by simp only [Knows, put, upd_apply, Nat.reduceEqDiff, ↓reduceIte, and_true, true_and, eq_self] <;> and_intros <;> rfl⟩) ?_
            rintro m f es' ⟨j, rfl, hj1, hj2, rfl, hk⟩
            refine w_pins _ (Sub.refl _) (hk) ?_
            simp only [pins]
            refine w_seq ?_
            refine w_seq ?_
            refine w_region ?_
            refine l_cons rfl (p_move ?_)
            refine l_cons rfl (p_move ?_)
            refine l_cons rfl (p_cmp ?_)
            refine l_nil ?_
            refine k_seq_normal ?_
            refine w_b (fun h6 => ?_) (fun h6 => ?_)
            · skip
              have h6' := h6; (try simp only [decide_eq_true_eq, decide_eq_false_iff_not, Bool.not_eq_true', Bool.not_false, Bool.not_true, Bool.not_eq_false'] at h6')
              refine w_skip ?_
              refine k_seq_normal ?_
              refine w_seq ?_
              refine w_block ?_
              refine w_seq ?_
              refine w_region ?_
              refine l_cons rfl (p_fap fa_62_1 ?_)
              refine l_cons rfl (p_loadp ty_59 (a := .list 1 (d.next.map fun r => [ints r])) ?_ (hl := by rw [dRow_len]; omega) (ha := dRow_load256))
              refine l_cons rfl (p_move ?_)
              refine l_cons rfl (p_ixl sl_59 (a := .fptr 1 (d.next.map fun r => [ints r]) i 0) ?_ (h0 := by omega) (h1 := by simp only [List.length_map]; omega))
              refine l_cons rfl (p_loadf ty_48 (a := ints (d.next[i]'(by omega))) ?_ (hr := row_ints (by omega)) (hl := Nat.le_refl 1) (ha := rfl))
              refine l_cons rfl (p_move ?_)
              refine l_cons rfl (p_ixl sl_48 (a := .fptr 1 ((d.next[i]'(by omega)).map fun n => [AV.int .i64 n]) j 0) ?_ (h0 := by omega) (h1 := by simp only [List.length_map]; omega))
              refine l_cons rfl (p_loadf ty_3 (a := .int .i64 ((d.next[i]'(by omega))[j]'(by omega))) ?_ (hr := row_i64 (by omega)) (hl := Nat.le_refl 1) (ha := rfl))
              refine l_cons rfl (p_cmp ?_)
              refine l_cons rfl (p_move ?_)
              refine g_b rfl (fun h7 => ?_) (fun h7 => ?_)
              · skip
                have h7' := h7; (try simp only [decide_eq_true_eq, decide_eq_false_iff_not, Bool.not_eq_true', Bool.not_false, Bool.not_true, Bool.not_eq_false'] at h7')
                refine (p_fap fa_62_1 ?_)
                refine g_y rfl h7 (p_loadp ty_59 (a := .list 1 (d.next.map fun r => [ints r])) ?_ (hl := by rw [dRow_len]; omega) (ha := dRow_load256))
                refine g_y rfl h7 (p_move ?_)
                refine g_y rfl h7 (p_ixl sl_59 (a := .fptr 1 (d.next.map fun r => [ints r]) i 0) ?_ (h0 := by omega) (h1 := by simp only [List.length_map]; omega))
                refine g_y rfl h7 (p_loadf ty_48 (a := ints (d.next[i]'(by omega))) ?_ (hr := row_ints (by omega)) (hl := Nat.le_refl 1) (ha := rfl))
                refine g_y rfl h7 (p_move ?_)
                refine g_y rfl h7 (p_ixl sl_48 (a := .fptr 1 ((d.next[i]'(by omega)).map fun n => [AV.int .i64 n]) j 0) ?_ (h0 := by omega) (h1 := by simp only [List.length_map]; omega))
                refine g_y rfl h7 (p_loadf ty_3 (a := .int .i64 ((d.next[i]'(by omega))[j]'(by omega))) ?_ (hr := row_i64 (by omega)) (hl := Nat.le_refl 1) (ha := rfl))
                refine g_y rfl h7 (p_move ?_)
                refine g_y rfl h7 (p_cmp ?_)
                refine l_cons rfl (p_pickf h7 ?_)
                refine l_nil ?_
                refine k_seq_normal ?_
                refine w_b (fun h8 => ?_) (fun h8 => ?_)
                · skip
                  have h8' := h8; (try simp only [decide_eq_true_eq, decide_eq_false_iff_not, Bool.not_eq_true', Bool.not_false, Bool.not_true, Bool.not_eq_false'] at h8')
                  refine w_seq ?_
                  refine w_region ?_
                  refine l_cons rfl (p_assign ?_)
                  refine l_nil ?_
                  refine k_seq_normal ?_
                  refine w_ret ?_
                  refine k_blk_ret ?_
                  refine k_seq_ret ?_
                  refine k_seq_ret ?_
                  refine k_blk_ret ?_
                  refine k_blk_ret ?_
                  refine k_seq_ret ?_
                  refine k_seq_ret ?_
                  refine k_blk_ret ?_
                  refine k_seq_ret ?_
                  exact ret1 rfl (by simp only [ev_tmp, ev_const, ev_func, ofConst_int, ofConst_bool, ofConst_str, ofConst_nil, upd_apply, Nat.reduceEqDiff, ↓reduceIte] <;> exact rfl) (by first | exact Sub.refl _ | exact sub1 _ _ | exact sub2 _ _ _ | exact sub3 _ _ _ _ | exact sub4 _ _ _ _ _ | exact sub5 _ _ _ _ _ _) ⟨by rw [dmay_no2 (i := i) (by omega) (row_no2 (j := j) (by omega) (by omega))], rfl⟩
                · skip
                  have h8' := h8; (try simp only [decide_eq_true_eq, decide_eq_false_iff_not, Bool.not_eq_true', Bool.not_false, Bool.not_true, Bool.not_eq_false'] at h8')
                  refine w_skip ?_
                  refine k_blk_normal ?_
                  refine k_seq_normal ?_
                  refine w_region ?_
                  refine l_cons rfl (p_move ?_)
                  refine l_cons rfl (p_arith ?_)
                  refine l_cons rfl (p_assign ?_)
                  refine l_nil ?_
                  refine k_seq_normal ?_
                  exact ⟨d.classes - (j + 1), by omega, j + 1, rfl, by omega, take_all (by omega) hj2 (by simp only [Bool.and_eq_true, decide_eq_true_eq]; omega), rfl, by simp only [Knows, put, upd_apply, Nat.reduceEqDiff, ↓reduceIte, and_true, true_and, eq_self] <;> and_intros <;> rfl⟩
              · skip
                have h7' := h7; (try simp only [decide_eq_true_eq, decide_eq_false_iff_not, Bool.not_eq_true', Bool.not_false, Bool.not_true, Bool.not_eq_false'] at h7')
                refine g_n rfl h7 ?_
                refine g_n rfl h7 ?_
                refine g_n rfl h7 ?_
                refine g_n rfl h7 ?_
                refine g_n rfl h7 ?_
                refine g_n rfl h7 ?_
                refine g_n rfl h7 ?_
                refine g_n rfl h7 ?_
                refine g_n rfl h7 ?_
                refine l_cons rfl (p_pickt h7 ?_)
                refine l_nil ?_
                refine k_seq_normal ?_
                refine w_t rfl ?_
                refine w_seq ?_
                refine w_region ?_
                refine l_cons rfl (p_assign ?_)
                refine l_nil ?_
                refine k_seq_normal ?_
                refine w_ret ?_
                refine k_blk_ret ?_
                refine k_seq_ret ?_
                refine k_seq_ret ?_
                refine k_blk_ret ?_
                refine k_blk_ret ?_
                refine k_seq_ret ?_
                refine k_seq_ret ?_
                refine k_blk_ret ?_
                refine k_seq_ret ?_
                exact ret1 rfl (by simp only [ev_tmp, ev_const, ev_func, ofConst_int, ofConst_bool, ofConst_str, ofConst_nil, upd_apply, Nat.reduceEqDiff, ↓reduceIte] <;> exact rfl) (by first | exact Sub.refl _ | exact sub1 _ _ | exact sub2 _ _ _ | exact sub3 _ _ _ _ | exact sub4 _ _ _ _ _ | exact sub5 _ _ _ _ _ _) ⟨by rw [dmay_no2 (i := i) (by omega) (row_no2 (j := j) (by omega) (by omega))], rfl⟩
            · skip
              have h6' := h6; (try simp only [decide_eq_true_eq, decide_eq_false_iff_not, Bool.not_eq_true', Bool.not_false, Bool.not_true, Bool.not_eq_false'] at h6')
              refine w_exit ?_
              refine k_seq_exit ?_
              refine k_seq_exit ?_
              refine k_blk_here ?_
              refine k_blk_normal ?_
              refine k_seq_normal ?_
              refine w_region ?_
              refine l_cons rfl (p_move ?_)
              refine l_cons rfl (p_arith ?_)
              refine l_cons rfl (p_assign ?_)
              refine l_nil ?_
              refine k_seq_normal ?_
              exact ⟨d.next.length - (i + 1), by omega, i + 1, rfl, by omega, take_all (by omega) hi2 (row_ok (by omega) hj2 (by omega)), rfl, by simp only [Knows, put, upd_apply, Nat.reduceEqDiff, ↓reduceIte, and_true, true_and, eq_self] <;> and_intros <;> rfl⟩
        · skip
          have h4' := h4; (try simp only [decide_eq_true_eq, decide_eq_false_iff_not, Bool.not_eq_true', Bool.not_false, Bool.not_true, Bool.not_eq_false'] at h4')
          refine w_exit ?_
          refine k_seq_exit ?_
          refine k_seq_exit ?_
          refine k_blk_here ?_
          refine k_seq_normal ?_
          refine w_seq ?_
          refine w_region ?_
          refine l_cons rfl (p_assign ?_)
          refine l_nil ?_
          refine k_seq_normal ?_
          refine w_ret ?_
          exact ret1 rfl (by simp only [ev_tmp, ev_const, ev_func, ofConst_int, ofConst_bool, ofConst_str, ofConst_nil, upd_apply, Nat.reduceEqDiff, ↓reduceIte] <;> exact rfl) (by first | exact Sub.refl _ | exact sub1 _ _ | exact sub2 _ _ _ | exact sub3 _ _ _ _ | exact sub4 _ _ _ _ _ | exact sub5 _ _ _ _ _ _) ⟨by rw [dmay_yes (by omega) (by omega) (by omega) (by rw [← hi2, List.take_of_length_le (by omega)])], rfl⟩
    · skip
      have h2' := h2; (try simp only [decide_eq_true_eq, decide_eq_false_iff_not, Bool.not_eq_true', Bool.not_false, Bool.not_true, Bool.not_eq_false'] at h2')
      refine g_n rfl h2 ?_
      refine g_n rfl h2 ?_
      refine g_n rfl h2 ?_
      refine g_n rfl h2 ?_
      refine l_cons rfl (p_pickt h2 ?_)
      refine l_nil ?_
      refine k_seq_normal ?_
      refine w_t rfl ?_
      refine w_seq ?_
      refine w_region ?_
      refine l_cons rfl (p_assign ?_)
      refine l_nil ?_
      refine k_seq_normal ?_
      refine w_ret ?_
      refine k_seq_ret ?_
      exact ret1 rfl (by simp only [ev_tmp, ev_const, ev_func, ofConst_int, ofConst_bool, ofConst_str, ofConst_nil, upd_apply, Nat.reduceEqDiff, ↓reduceIte] <;> exact rfl) (by first | exact Sub.refl _ | exact sub1 _ _ | exact sub2 _ _ _ | exact sub3 _ _ _ _ | exact sub4 _ _ _ _ _ | exact sub5 _ _ _ _ _ _) ⟨by rw [dmay_no1 (by omega)], rfl⟩
  · skip
    have h1' := h1; (try simp only [decide_eq_true_eq, decide_eq_false_iff_not, Bool.not_eq_true', Bool.not_false, Bool.not_true, Bool.not_eq_false'] at h1')
    refine g_n rfl h1 ?_
    refine l_cons rfl (p_pickt h1 ?_)
    refine l_cons rfl (p_move ?_)
    refine g_n rfl rfl ?_
    refine g_n rfl rfl ?_
    refine g_n rfl rfl ?_
    refine g_n rfl rfl ?_
    refine g_n rfl rfl ?_
    refine l_cons rfl (p_pickt rfl ?_)
    refine l_nil ?_
    refine k_seq_normal ?_
    refine w_t rfl ?_
    refine w_seq ?_
    refine w_region ?_
    refine l_cons rfl (p_assign ?_)
    refine l_nil ?_
    refine k_seq_normal ?_
    refine w_ret ?_
    refine k_seq_ret ?_
    exact ret1 rfl (by simp only [ev_tmp, ev_const, ev_func, ofConst_int, ofConst_bool, ofConst_str, ofConst_nil, upd_apply, Nat.reduceEqDiff, ↓reduceIte] <;> exact rfl) (by first | exact Sub.refl _ | exact sub1 _ _ | exact sub2 _ _ _ | exact sub3 _ _ _ _ | exact sub4 _ _ _ _ _ | exact sub5 _ _ _ _ _ _) ⟨by rw [dmay_no1 (by omega)], rfl⟩
end Go.Proofs.YtfdgbghlanbddaaDoor.Av
set_option linter.unusedVariables false
set_option linter.unusedSimpArgs false
set_option maxRecDepth 8000
namespace Go.Proofs.YtfdgbghlanbddaaDoor.Av
open Go.RowKit Go.Proofs
theorem neq_self (m : Int) : cmpI .neq m m = some false := by simp [cmpI]
theorem geq_nat (q : Nat) : cmpI .geq (q : Int) 0 = some true := by simp [cmpI]
theorem bne_self (b : Bool) : (b != b) = false := by simp
variable {d : Df}
theorem dmay_at (h : d.may = true) : (1 ≤ d.next.length ∧ d.next.length ≤ 2000) ∧ d.ends.length = d.next.length ∧ ∀ r ∈ d.next, r.length = d.classes ∧ ∀ x ∈ r, 0 ≤ x ∧ x < (d.next.length : Int) := by
  unfold Df.may at h
  simp only [Bool.and_eq_true, decide_eq_true_eq, List.all_eq_true] at h
  refine ⟨h.1.1, h.1.2, fun r hr => ?_⟩
  have := h.2 r hr
  unfold Df.rowOk at this
  simpa only [Bool.and_eq_true, decide_eq_true_eq, List.all_eq_true] using this
theorem drow_at (h : d.may = true) {i k : Nat} (hi : i < d.next.length) (hk : k < (d.next[i]).length) : ∃ t : Nat, (d.next[i])[k] = (t : Int) ∧ t < d.next.length := by
  have := ((dmay_at h).2.2 _ (List.getElem_mem hi)).2 _ (List.getElem_mem hk)
  exact ⟨((d.next[i])[k]).toNat, by omega, by omega⟩
theorem go_at (h : d.may = true) {q b : Nat} (hq : q < d.next.length) (hb : b < 256) : ∃ (q2 : Nat) (hc : d.cls b < (d.next[q]).length), (d.next[q])[d.cls b] = (q2 : Int) ∧ q2 < d.next.length ∧ d.go q (b : Int) = q2 := by
  have hc : d.cls b < (d.next[q]).length := by
    rw [((dmay_at h).2.2 _ (List.getElem_mem hq)).1]
    exact classes_lt d hb
  obtain ⟨t, h1, h2⟩ := drow_at h hq hc
  refine ⟨t, hc, h1, h2, ?_⟩
  unfold Df.go
  simp only [List.getD_eq_getElem?_getD]
  rw [List.getElem?_eq_getElem hq, Option.getD_some, Int.toNat_natCast, List.getElem?_eq_getElem hc, Option.getD_some, h1, Int.toNat_natCast]
theorem to_no {s : Int} {w : List Int} (h : d.may = false ∨ s < 0 ∨ (d.next.length : Int) ≤ s) : d.to s w = -1 := by
  unfold Df.to
  rw [if_neg]
  rintro ⟨h1, h2, h3⟩
  rcases h with h | h | h
  · rw [h] at h1; cases h1
  · omega
  · omega
theorem to_yes (h : d.may = true) {s : Nat} (hs : s < d.next.length) {w : List Int} : d.to (s : Int) w = ((w.foldl d.go s : Nat) : Int) := by
  unfold Df.to
  rw [if_pos ⟨h, by omega, by omega⟩, Int.toNat_natCast]
theorem fold_lt (h : d.may = true) : ∀ (w : List Int) (s : Nat), s < d.next.length → (∀ b ∈ w, 0 ≤ b ∧ b < 256) → w.foldl d.go s < d.next.length
  | [], s, hs, _ => hs
  | b :: t, s, hs, hw => by
    have hb := hw b (by simp)
    obtain ⟨q2, _, _, h3, h4⟩ := go_at h hs (b := b.toNat) (by omega)
    rw [Int.toNat_of_nonneg hb.1] at h4
    rw [List.foldl_cons, h4]
    exact fold_lt h t q2 h3 fun c hc => hw c (by simp [hc])
theorem run_at (h : d.may = true) (w : List Int) (hw : ∀ b ∈ w, 0 ≤ b ∧ b < 256) : ∃ (q : Nat), d.to 0 w = (q : Int) ∧ ∃ hq : q < d.ends.length, d.run w = d.ends[q] := by
  obtain ⟨h1, h2, _⟩ := dmay_at h
  have e : d.to 0 w = ((w.foldl d.go 0 : Nat) : Int) := to_yes h (s := 0) (by omega)
  have hl := fold_lt h w 0 (by omega) hw
  refine ⟨_, e, by omega, ?_⟩
  unfold Df.run
  rw [e, Int.toNat_natCast, List.getD_eq_getElem?_getD, List.getElem?_eq_getElem (by omega), Option.getD_some, decide_eq_true (by omega), Bool.true_and]
theorem on_at {bs : List Bool} {i : Nat} (h : On bs i) (hi : i < bs.length) : bs[i] = true := by
  unfold On at h
  rw [List.getElem?_eq_getElem hi] at h
  exact Option.some.inj h
theorem row_bool {l : List Bool} {k : Nat} (h : k < l.length) : (l.map fun b => [AV.bool b])[k]? = some [.bool l[k]] := by simp [h]
theorem nfD_len (d : Df) : (nfD d).st.length = d.next.length := by simp [nfD]
theorem nfD_free {i : Nat} (h : i < (nfD d).st.length) (h2 : i < d.next.length) : ((nfD d).st[i]).free = d.next[i] := by simp [nfD]
theorem ri_start (h : 0 < d.next.length) : RI (nfD d) [0] ((List.replicate d.next.length false).set 0 true) := by
  have h1 := RT.begin (nfD d) [0]
  rw [nfD_len] at h1
  exact (h1.yes (j := 0) (by simp) (by simp) (by simpa using h)).fin rfl
theorem swd_next {bs0 bs : List Bool} {again : Bool} {i k : Nat} (hi : i < d.next.length) (h : SW (nfD d) [0] bs0 again bs i k) (hd : k = (d.next[i]).length ∨ ¬ On bs i) : SW (nfD d) [0] bs0 again bs (i + 1) 0 := by
  have hi2 : i < (nfD d).st.length := by rw [nfD_len]; exact hi
  refine h.next hi2 ?_
  rw [nfD_free hi2 hi]
  exact hd
theorem swd_mark {bs0 bs : List Bool} {again : Bool} {i k t : Nat} (hi : i < d.next.length) (hk : k < (d.next[i]).length) (h : SW (nfD d) [0] bs0 again bs i k) (hon : On bs i) (ht : (d.next[i])[k] = (t : Int)) (h1 : t < bs.length) :
    SW (nfD d) [0] bs0 (again || !(bs[t])) (bs.set t true) i (k + 1) := by
  have hi2 : i < (nfD d).st.length := by rw [nfD_len]; exact hi
  have hf := nfD_free hi2 hi
  have hk2 : k < ((nfD d).st[i]).free.length := by rw [hf]; exact hk
  have he : ((nfD d).st[i]).free[k] = (t : Int) := by
    have e : ((nfD d).st[i]).free[k]? = (d.next[i])[k]? := by rw [hf]
    rw [List.getElem?_eq_getElem hk2, List.getElem?_eq_getElem hk] at e
    rw [Option.some.inj e, ht]
  have he2 : (((nfD d).st[i]).free[k]).toNat = t := by rw [he, Int.toNat_natCast]
  have := h.mark hi2 hk2 hon (by omega) (by omega)
  simp only [he2] at this
  exact this
theorem nea_self (p : Nat → Int) : (!((byteT p).map valOf == (byteT p).map valOf)) = false := by
  simp
theorem dmay_true {w0 : World} {es : List Ent} (d : Df) (hc : ∀ i, i < 256 → d.cls i < 256) (hm : d.may = true) : ACalls Tryd.prog w0 52 [.agg d.cells] es fun v es' => v = .bool true ∧ es' = es := by
  have := dmay_walk (w0 := w0) (es := es) d hc
  rw [hm] at this
  exact this
theorem to_walk {w0 : World} {es : List Ent} (d : Df) (hc : ∀ i, i < 256 → d.cls i < 256) (s : Int) (w : List Int) (hw : ∀ b ∈ w, 0 ≤ b ∧ b < 256) : ACalls Tryd.prog w0 56 [.agg d.cells, .int .i64 s, bytesAV w] es fun v es' => v = .int .i64 (d.to s w) ∧ es' = es := by
  rw [dRow_cells]
  unfold bytesAV
  refine calls3 (N := 43) Tryd.func56 rfl rfl (by decide) ?_
  refine w_seq ?_
  refine w_region ?_
  refine l_cons rfl (p_box fun s3 => ?_)
  rw [dRow_len]
  refine l_cons rfl (p_assign ?_)
  refine l_nil ?_
  refine k_seq_normal ?_
  refine w_seq ?_
  refine w_seq ?_
  refine w_region ?_
  refine l_cons rfl (p_loadp ty_62 (a := .agg d.cells) ?_ (hl := by rw [dRow_len]; exact Nat.le_refl _) (ha := dRow_all))
  refine l_cons rfl (p_callr en_52 (dmay_walk d hc) ?_)
  refine l_cons rfl (p_not ?_)
  refine l_cons rfl (p_move ?_)
  refine g_b rfl (fun h1 => ?_) (fun h1 => ?_)
  · skip
    have h1' := h1; (try simp only [decide_eq_true_eq, decide_eq_false_iff_not, Bool.not_eq_true', Bool.not_false, Bool.not_true, Bool.not_eq_false'] at h1')
    refine (p_move ?_)
    refine g_y rfl h1 (p_cmp ?_)
    refine l_cons rfl (p_pickf h1 ?_)
    refine l_cons rfl (p_move ?_)
    refine g_b rfl (fun h2 => ?_) (fun h2 => ?_)
    · skip
      have h2' := h2; (try simp only [decide_eq_true_eq, decide_eq_false_iff_not, Bool.not_eq_true', Bool.not_false, Bool.not_true, Bool.not_eq_false'] at h2')
      refine (p_move ?_)
      refine g_y rfl h2 (p_fap fa_62_1 ?_)
      refine g_y rfl h2 (p_loadp ty_59 (a := .list 1 (d.next.map fun r => [ints r])) ?_ (hl := by rw [dRow_len]; omega) (ha := dRow_load256))
      refine g_y rfl h2 (p_lenl sl_59 (a := .int .i64 (d.next.length : Int)) ?_ (ha := by rw [List.length_map]))
      refine g_y rfl h2 (p_cmp ?_)
      refine l_cons rfl (p_pickf h2 ?_)
      refine l_nil ?_
      refine k_seq_normal ?_
      refine w_b (fun h3 => ?_) (fun h3 => ?_)
      · skip
        have h3' := h3; (try simp only [decide_eq_true_eq, decide_eq_false_iff_not, Bool.not_eq_true', Bool.not_false, Bool.not_true, Bool.not_eq_false'] at h3')
        refine w_seq ?_
        refine w_region ?_
        refine l_cons rfl (p_assign ?_)
        refine l_nil ?_
        refine k_seq_normal ?_
        refine w_ret ?_
        refine k_seq_ret ?_
        exact ret1 rfl (by simp only [ev_tmp, ev_const, ev_func, ofConst_int, ofConst_bool, ofConst_str, ofConst_nil, upd_apply, Nat.reduceEqDiff, ↓reduceIte] <;> exact rfl) (by first | exact Sub.refl _ | exact sub1 _ _ | exact sub2 _ _ _ | exact sub3 _ _ _ _ | exact sub4 _ _ _ _ _ | exact sub5 _ _ _ _ _ _) ⟨by rw [to_no (by first | (left; simp_all; done) | (right; left; omega) | (right; right; omega))], rfl⟩
      · skip
        have h3' := h3; (try simp only [decide_eq_true_eq, decide_eq_false_iff_not, Bool.not_eq_true', Bool.not_false, Bool.not_true, Bool.not_eq_false'] at h3')
        refine w_skip ?_
        refine k_seq_normal ?_
        refine w_seq ?_
        refine w_seq ?_
        obtain ⟨s0, rfl⟩ : ∃ s0 : Nat, s = s0 := ⟨s.toNat, by omega⟩
        have hm : d.may = true := by simpa using h1'
        refine w_len 2 fun hwl => ?_
        rw [List.length_map] at hwl
        simp only [most] at hwl
        refine w_region ?_
        refine l_cons rfl (p_assign ?_)
        refine l_nil ?_
        refine k_seq_normal ?_
        refine w_block ?_
        refine w_loop (fun m f es' => ∃ k q, m = w.length - k ∧ k ≤ w.length ∧ q = ((w.take k).foldl d.go s0) ∧ q < d.next.length ∧ es' = .row s3 62 258 [dRow (fun i => (d.cls i : Int)) (.list 1 (d.next.map fun r => [ints r])) (.list 1 (d.ends.map fun b => [AV.bool b]))] :: es ∧ Knows f [(1, .int .i64 (q : Int)), (2, .list 1 (w.map fun n => [AV.int .u8 n])), (3, .ptr es.length s3 0 0), (7, .int .i64 (k : Int))]) (w.length) (⟨0, s0, rfl, Nat.zero_le _, rfl, by omega, rfl, by simp only [Knows, put, upd_apply, Nat.reduceEqDiff, ↓reduceIte, and_true, true_and, eq_self] <;> and_intros <;> rfl⟩) ?_
        rintro m f es' ⟨k, q, rfl, hk1, hqe, hql, rfl, hk⟩
        refine w_pins _ (Sub.refl _) (hk) ?_
        simp only [pins]
        refine w_seq ?_
        refine w_seq ?_
        refine w_region ?_
        refine l_cons rfl (p_move ?_)
        refine l_cons rfl (p_move ?_)
        refine l_cons rfl (p_lenl sl_22 ?_)
        refine l_cons rfl (p_cmp ?_)
        refine l_nil ?_
        refine k_seq_normal ?_
        refine w_b (fun h4 => ?_) (fun h4 => ?_)
        · skip
          have h4' := h4; (try simp only [decide_eq_true_eq, decide_eq_false_iff_not, Bool.not_eq_true', Bool.not_false, Bool.not_true, Bool.not_eq_false'] at h4')
          refine w_skip ?_
          refine k_seq_normal ?_
          refine w_seq ?_
          refine w_block ?_
          have hwk := hw _ (List.getElem_mem (show k < w.length by omega))
          obtain ⟨b, hb⟩ : ∃ b : Nat, (w[k]'(by omega)) = (b : Int) := ⟨(w[k]'(by omega)).toNat, by omega⟩
          have hb1 : b < 256 := by omega
          obtain ⟨qn, hcr, hqn, hq3, hq4⟩ := go_at hm hql hb1
          refine w_drawn 12 [] (fun e => e = _) mixed (by kernel_rfl) rfl ?_
          refine q1 3 (hg := rfl) (hu := rfl) (h := by rintro f _ rfl; exact p_fap fa_62_1 ⟨rfl, rfl⟩) (k := ?_)
          refine q1 28 (hg := rfl) (hu := rfl) (h := by rintro f _ rfl; exact p_loadp ty_59 (a := .list 1 (d.next.map fun r => [ints r])) ⟨rfl, rfl⟩ (hl := by rw [dRow_len]; omega) (ha := dRow_load256)) (k := ?_)
          refine q1 1 (hg := rfl) (hu := rfl) (h := by rintro f _ rfl; exact p_move ⟨rfl, rfl⟩) (k := ?_)
          refine q2 29 30 (hg := rfl) (hu := rfl) (h := by rintro f _ rfl; exact p_ixl sl_59 (a := .fptr 1 (d.next.map fun r => [ints r]) q 0) ⟨rfl, rfl⟩ (h0 := by omega) (h1 := by simp only [List.length_map]; omega)) (k := ?_)
          refine q1 31 (hg := rfl) (hu := rfl) (h := by rintro f _ rfl; exact p_loadf ty_48 (a := ints (d.next[q]'(by omega))) ⟨rfl, rfl⟩ (hr := row_ints (by omega)) (hl := Nat.le_refl 1) (ha := rfl)) (k := ?_)
          refine q1 2 (hg := rfl) (hu := rfl) (h := by rintro f _ rfl; exact p_move ⟨rfl, rfl⟩) (k := ?_)
          refine q1 7 (hg := rfl) (hu := rfl) (h := by rintro f _ rfl; exact p_move ⟨rfl, rfl⟩) (k := ?_)
          refine q2 33 34 (hg := rfl) (hu := rfl) (h := by rintro f _ rfl; exact p_ixl sl_22 (a := .fptr 1 (w.map fun n => [AV.int .u8 n]) k 0) ⟨rfl, rfl⟩ (h0 := by omega) (h1 := by simp only [List.length_map]; omega)) (k := ?_)
          refine q1 35 (hg := rfl) (hu := rfl) (h := by rintro f _ rfl; exact p_loadf ty_5 (a := .int .u8 (w[k]'(by omega))) ⟨rfl, rfl⟩ (hr := rowU8 (by omega)) (hl := Nat.le_refl 1) (ha := rfl)) (k := ?_)
          refine q1 3 (hg := rfl) (hu := rfl) (h := by rintro f _ rfl; exact p_fap fa_62_0 ⟨rfl, rfl⟩) (k := ?_)
          refine q2 37 36 (hg := rfl) (hu := rfl) (h := by rintro f _ rfl; exact p_ixa ar_58 (a := .ptr es.length s3 0 b) ⟨rfl, rfl⟩ (h0 := by omega) (h1 := by omega) (ho := by simp [hb])) (k := ?_)
          refine q1 38 (hg := rfl) (hu := rfl) (h := by rintro f _ rfl; exact p_loadp ty_5 (a := .int .u8 (d.cls b : Int)) ⟨rfl, rfl⟩ (hl := by rw [dRow_len]; omega) (ha := dRow_load (p := (fun i => (d.cls i : Int))) (k := b) (by omega))) (k := ?_)
          refine q_end ?_
          refine m_end ?_
          refine l_cons rfl (p_ixl sl_48 (a := .fptr 1 ((d.next[q]'(by omega)).map fun n => [AV.int .i64 n]) (d.cls b) 0) ?_ (h0 := by omega) (h1 := by simp only [List.length_map]; omega))
          refine l_cons rfl (p_loadf ty_3 (a := .int .i64 (qn : Int)) ?_ (hr := (row_i64 hcr).trans (by rw [hqn])) (hl := Nat.le_refl 1) (ha := rfl))
          refine l_cons rfl (p_assign ?_)
          refine l_nil ?_
          refine k_blk_normal ?_
          refine k_seq_normal ?_
          refine w_region ?_
          refine l_cons rfl (p_move ?_)
          refine l_cons rfl (p_arith ?_)
          refine l_cons rfl (p_assign ?_)
          refine l_nil ?_
          refine k_seq_normal ?_
          exact ⟨w.length - (k + 1), by omega, k + 1, qn, rfl, by omega, by rw [fold_next (show k < w.length by omega), ← hqe, hb, hq4], hq3, rfl, by simp only [Knows, put, upd_apply, Nat.reduceEqDiff, ↓reduceIte, and_true, true_and, eq_self] <;> and_intros <;> rfl⟩
        · skip
          have h4' := h4; (try simp only [decide_eq_true_eq, decide_eq_false_iff_not, Bool.not_eq_true', Bool.not_false, Bool.not_true, Bool.not_eq_false'] at h4')
          refine w_exit ?_
          refine k_seq_exit ?_
          refine k_seq_exit ?_
          refine k_blk_here ?_
          refine k_seq_normal ?_
          refine w_seq ?_
          refine w_region ?_
          refine l_cons rfl (p_move ?_)
          refine l_cons rfl (p_assign ?_)
          refine l_nil ?_
          refine k_seq_normal ?_
          refine w_ret ?_
          exact ret1 rfl (by simp only [ev_tmp, ev_const, ev_func, ofConst_int, ofConst_bool, ofConst_str, ofConst_nil, upd_apply, Nat.reduceEqDiff, ↓reduceIte] <;> exact rfl) (by first | exact Sub.refl _ | exact sub1 _ _ | exact sub2 _ _ _ | exact sub3 _ _ _ _ | exact sub4 _ _ _ _ _ | exact sub5 _ _ _ _ _ _) ⟨by rw [to_yes hm (by omega), ← List.take_of_length_le (show w.length ≤ k by omega), ← hqe], rfl⟩
    · skip
      have h2' := h2; (try simp only [decide_eq_true_eq, decide_eq_false_iff_not, Bool.not_eq_true', Bool.not_false, Bool.not_true, Bool.not_eq_false'] at h2')
      refine g_n rfl h2 ?_
      refine g_n rfl h2 ?_
      refine g_n rfl h2 ?_
      refine g_n rfl h2 ?_
      refine l_cons rfl (p_pickt h2 ?_)
      refine l_nil ?_
      refine k_seq_normal ?_
      refine w_t rfl ?_
      refine w_seq ?_
      refine w_region ?_
      refine l_cons rfl (p_assign ?_)
      refine l_nil ?_
      refine k_seq_normal ?_
      refine w_ret ?_
      refine k_seq_ret ?_
      exact ret1 rfl (by simp only [ev_tmp, ev_const, ev_func, ofConst_int, ofConst_bool, ofConst_str, ofConst_nil, upd_apply, Nat.reduceEqDiff, ↓reduceIte] <;> exact rfl) (by first | exact Sub.refl _ | exact sub1 _ _ | exact sub2 _ _ _ | exact sub3 _ _ _ _ | exact sub4 _ _ _ _ _ | exact sub5 _ _ _ _ _ _) ⟨by rw [to_no (by first | (left; simp_all; done) | (right; left; omega) | (right; right; omega))], rfl⟩
  · skip
    have h1' := h1; (try simp only [decide_eq_true_eq, decide_eq_false_iff_not, Bool.not_eq_true', Bool.not_false, Bool.not_true, Bool.not_eq_false'] at h1')
    refine g_n rfl h1 ?_
    refine l_cons rfl (p_pickt h1 ?_)
    refine l_cons rfl (p_move ?_)
    refine g_n rfl rfl ?_
    refine g_n rfl rfl ?_
    refine g_n rfl rfl ?_
    refine g_n rfl rfl ?_
    refine g_n rfl rfl ?_
    refine l_cons rfl (p_pickt rfl ?_)
    refine l_nil ?_
    refine k_seq_normal ?_
    refine w_t rfl ?_
    refine w_seq ?_
    refine w_region ?_
    refine l_cons rfl (p_assign ?_)
    refine l_nil ?_
    refine k_seq_normal ?_
    refine w_ret ?_
    refine k_seq_ret ?_
    exact ret1 rfl (by simp only [ev_tmp, ev_const, ev_func, ofConst_int, ofConst_bool, ofConst_str, ofConst_nil, upd_apply, Nat.reduceEqDiff, ↓reduceIte] <;> exact rfl) (by first | exact Sub.refl _ | exact sub1 _ _ | exact sub2 _ _ _ | exact sub3 _ _ _ _ | exact sub4 _ _ _ _ _ | exact sub5 _ _ _ _ _ _) ⟨by rw [to_no (by first | (left; simp_all; done) | (right; left; omega) | (right; right; omega))], rfl⟩
theorem to_walk0 {w0 : World} {es : List Ent} (d : Df) (hc : ∀ i, i < 256 → d.cls i < 256) (w : List Int) (hw : ∀ b ∈ w, 0 ≤ b ∧ b < 256) {q : Int} (hq : d.to 0 w = q) : ACalls Tryd.prog w0 56 [.agg d.cells, .int .i64 0, bytesAV w] es fun v es' => v = .int .i64 q ∧ es' = es := by
  have := to_walk (w0 := w0) (es := es) d hc 0 w hw
  rw [hq] at this
  exact this
theorem drun_walk {w0 : World} {es : List Ent} (d : Df) (hc : ∀ i, i < 256 → d.cls i < 256) (hm : d.may = true) (w : List Int) (hw : ∀ b ∈ w, 0 ≤ b ∧ b < 256) : ACalls Tryd.prog w0 53 [.agg d.cells, bytesAV w] es fun v es' => v = .bool (d.run w) ∧ es' = es := by
  obtain ⟨q, hq, hql, hrun⟩ := run_at hm w hw
  rw [dRow_cells]
  refine calls2 (N := 18) Tryd.func53 rfl rfl (by decide) ?_
  refine w_seq ?_
  refine w_region ?_
  refine l_cons rfl (p_box fun s2 => ?_)
  rw [dRow_len]
  refine l_cons rfl (p_assign ?_)
  refine l_nil ?_
  refine k_seq_normal ?_
  refine w_seq ?_
  refine w_region ?_
  refine l_cons rfl (p_loadp ty_62 (a := .agg d.cells) ?_ (hl := by rw [dRow_len]; exact Nat.le_refl _) (ha := dRow_all))
  refine l_cons rfl (p_move ?_)
  refine l_cons rfl (p_callr en_56 (to_walk0 d hc w hw hq) ?_)
  refine l_cons rfl (p_assign ?_)
  refine l_nil ?_
  refine k_seq_normal ?_
  refine w_seq ?_
  refine w_region ?_
  refine l_cons rfl (p_move ?_)
  refine l_cons rfl (p_cmp (b := true) ?_ (hb := geq_nat q))
  refine l_cons rfl (p_move ?_)
  refine g_y rfl rfl (p_fap fa_62_2 ?_)
  refine g_y rfl rfl (p_loadp ty_60 (a := .list 1 (d.ends.map fun b => [AV.bool b])) ?_ (hl := by rw [dRow_len]; omega) (ha := dRow_load257))
  refine g_y rfl rfl (p_move ?_)
  refine g_y rfl rfl (p_ixl sl_60 (a := .fptr 1 (d.ends.map fun b => [AV.bool b]) q 0) ?_ (h0 := by omega) (h1 := by simp only [List.length_map]; omega))
  refine g_y rfl rfl (p_loadf ty_4 (a := .bool (d.ends[q]'(by omega))) ?_ (hr := row_bool (by omega)) (hl := Nat.le_refl 1) (ha := rfl))
  refine l_cons rfl (p_pickt rfl ?_)
  refine l_cons rfl (p_assign ?_)
  refine l_nil ?_
  refine k_seq_normal ?_
  refine w_ret ?_
  exact ret1 rfl (by simp only [ev_tmp, ev_const, ev_func, ofConst_int, ofConst_bool, ofConst_str, ofConst_nil, upd_apply, Nat.reduceEqDiff, ↓reduceIte] <;> exact rfl) (by first | exact Sub.refl _ | exact sub1 _ _ | exact sub2 _ _ _ | exact sub3 _ _ _ _ | exact sub4 _ _ _ _ _ | exact sub5 _ _ _ _ _ _) ⟨by rw [hrun], rfl⟩
theorem dsame_walk {w0 : World} {es : List Ent} (d : Df) (hn : d.next.length ≤ 1000000) (he : d.ends.length ≤ 1000000) (hrl : ∀ r ∈ d.next, r.length ≤ 1000000) : ACalls Tryd.prog w0 51 [.agg d.cells, .agg d.cells] es fun v es' => v = .bool true ∧ es' = es := by
  rw [dRow_cells]
  refine calls2 (N := 96) Tryd.func51 rfl rfl (by decide) ?_
  refine w_seq ?_
  refine w_region ?_
  refine l_cons rfl (p_box fun s2 => ?_)
  rw [dRow_len]
  refine l_cons rfl (p_box fun s3 => ?_)
  rw [dRow_len]
  refine l_cons rfl (p_assign ?_)
  refine l_nil ?_
  refine k_seq_normal ?_
  refine w_seq ?_
  refine w_seq ?_
  refine w_region ?_
  refine l_cons rfl (p_fap fa_62_0 ?_)
  refine l_cons rfl (p_loadp ty_58 (a := .agg (byteT (fun i => (d.cls i : Int)))) ?_ (hl := by rw [dRow_len]; omega) (ha := dRow_cls))
  refine l_cons rfl (p_fap fa_62_0 ?_)
  refine l_cons rfl (p_loadp ty_58 (a := .agg (byteT (fun i => (d.cls i : Int)))) ?_ (hl := by rw [dRow_len]; omega) (ha := dRow_cls))
  refine l_cons rfl (p_nea ai_58 (b := false) ?_ (hb := nea_self _))
  refine l_cons rfl (p_move ?_)
  refine g_y rfl rfl (p_fap fa_62_1 ?_)
  refine g_y rfl rfl (p_loadp ty_59 (a := .list 1 (d.next.map fun r => [ints r])) ?_ (hl := by rw [dRow_len]; omega) (ha := dRow_load256))
  refine g_y rfl rfl (p_lenl sl_59 (a := .int .i64 (d.next.length : Int)) ?_ (ha := by rw [List.length_map]))
  refine g_y rfl rfl (p_fap fa_62_1 ?_)
  refine g_y rfl rfl (p_loadp ty_59 (a := .list 1 (d.next.map fun r => [ints r])) ?_ (hl := by rw [dRow_len]; omega) (ha := dRow_load256))
  refine g_y rfl rfl (p_lenl sl_59 (a := .int .i64 (d.next.length : Int)) ?_ (ha := by rw [List.length_map]))
  refine g_y rfl rfl (p_cmp ?_ (b := false) (hb := neq_self _))
  refine l_cons rfl (p_pickf rfl ?_)
  refine l_cons rfl (p_move ?_)
  refine g_y rfl rfl (p_fap fa_62_2 ?_)
  refine g_y rfl rfl (p_loadp ty_60 (a := .list 1 (d.ends.map fun b => [AV.bool b])) ?_ (hl := by rw [dRow_len]; omega) (ha := dRow_load257))
  refine g_y rfl rfl (p_lenl sl_60 (a := .int .i64 (d.ends.length : Int)) ?_ (ha := by rw [List.length_map]))
  refine g_y rfl rfl (p_fap fa_62_2 ?_)
  refine g_y rfl rfl (p_loadp ty_60 (a := .list 1 (d.ends.map fun b => [AV.bool b])) ?_ (hl := by rw [dRow_len]; omega) (ha := dRow_load257))
  refine g_y rfl rfl (p_lenl sl_60 (a := .int .i64 (d.ends.length : Int)) ?_ (ha := by rw [List.length_map]))
  refine g_y rfl rfl (p_cmp ?_ (b := false) (hb := neq_self _))
  refine l_cons rfl (p_pickf rfl ?_)
  refine l_nil ?_
  refine k_seq_normal ?_
  refine w_f rfl ?_
  refine w_skip ?_
  refine k_seq_normal ?_
  refine w_seq ?_
  refine w_seq ?_
  refine w_region ?_
  refine l_cons rfl (p_assign ?_)
  refine l_nil ?_
  refine k_seq_normal ?_
  refine w_block ?_
  refine w_loop (fun m f es' => ∃ k, m = d.ends.length - k ∧ k ≤ d.ends.length ∧ es' = .row s3 62 258 [dRow (fun i => (d.cls i : Int)) (.list 1 (d.next.map fun r => [ints r])) (.list 1 (d.ends.map fun b => [AV.bool b]))] :: .row s2 62 258 [dRow (fun i => (d.cls i : Int)) (.list 1 (d.next.map fun r => [ints r])) (.list 1 (d.ends.map fun b => [AV.bool b]))] :: es ∧ Knows f [(2, .ptr es.length s2 0 0), (3, .ptr (es.length + 1) s3 0 0), (5, .int .i64 (k : Int))]) (d.ends.length) (⟨0, rfl, Nat.zero_le _, rfl, by simp only [Knows, put, upd_apply, Nat.reduceEqDiff, ↓reduceIte, and_true, true_and, eq_self] <;> and_intros <;> rfl⟩) ?_
  rintro m f es' ⟨k, rfl, hk1, rfl, hk⟩
  refine w_pins _ (Sub.refl _) (hk) ?_
  simp only [pins]
  refine w_seq ?_
  refine w_seq ?_
  refine w_region ?_
  refine l_cons rfl (p_move ?_)
  refine l_cons rfl (p_fap fa_62_2 ?_)
  refine l_cons rfl (p_loadp ty_60 (a := .list 1 (d.ends.map fun b => [AV.bool b])) ?_ (hl := by rw [dRow_len]; omega) (ha := dRow_load257))
  refine l_cons rfl (p_lenl sl_60 (a := .int .i64 (d.ends.length : Int)) ?_ (ha := by rw [List.length_map]))
  refine l_cons rfl (p_cmp ?_)
  refine l_nil ?_
  refine k_seq_normal ?_
  refine w_b (fun h1 => ?_) (fun h1 => ?_)
  · skip
    have h1' := h1; (try simp only [decide_eq_true_eq, decide_eq_false_iff_not, Bool.not_eq_true', Bool.not_false, Bool.not_true, Bool.not_eq_false'] at h1')
    refine w_skip ?_
    refine k_seq_normal ?_
    refine w_seq ?_
    refine w_block ?_
    refine w_seq ?_
    refine w_drawn 10 [] (fun e => e = _) mixed (by kernel_rfl) rfl ?_
    refine q1 2 (hg := rfl) (hu := rfl) (h := by rintro f _ rfl; exact p_fap fa_62_2 ⟨rfl, rfl⟩) (k := ?_)
    refine q1 38 (hg := rfl) (hu := rfl) (h := by rintro f _ rfl; exact p_loadp ty_60 (a := .list 1 (d.ends.map fun b => [AV.bool b])) ⟨rfl, rfl⟩ (hl := by rw [dRow_len]; omega) (ha := dRow_load257)) (k := ?_)
    refine q1 5 (hg := rfl) (hu := rfl) (h := by rintro f _ rfl; exact p_move ⟨rfl, rfl⟩) (k := ?_)
    refine q2 39 40 (hg := rfl) (hu := rfl) (h := by rintro f _ rfl; exact p_ixl sl_60 (a := .fptr 1 (d.ends.map fun b => [AV.bool b]) k 0) ⟨rfl, rfl⟩ (h0 := by omega) (h1 := by simp only [List.length_map]; omega)) (k := ?_)
    refine q1 41 (hg := rfl) (hu := rfl) (h := by rintro f _ rfl; exact p_loadf ty_4 (a := .bool (d.ends[k]'(by omega))) ⟨rfl, rfl⟩ (hr := row_bool (by omega)) (hl := Nat.le_refl 1) (ha := rfl)) (k := ?_)
    refine q1 3 (hg := rfl) (hu := rfl) (h := by rintro f _ rfl; exact p_fap fa_62_2 ⟨rfl, rfl⟩) (k := ?_)
    refine q1 43 (hg := rfl) (hu := rfl) (h := by rintro f _ rfl; exact p_loadp ty_60 (a := .list 1 (d.ends.map fun b => [AV.bool b])) ⟨rfl, rfl⟩ (hl := by rw [dRow_len]; omega) (ha := dRow_load257)) (k := ?_)
    refine q1 5 (hg := rfl) (hu := rfl) (h := by rintro f _ rfl; exact p_move ⟨rfl, rfl⟩) (k := ?_)
    refine q2 44 45 (hg := rfl) (hu := rfl) (h := by rintro f _ rfl; exact p_ixl sl_60 (a := .fptr 1 (d.ends.map fun b => [AV.bool b]) k 0) ⟨rfl, rfl⟩ (h0 := by omega) (h1 := by simp only [List.length_map]; omega)) (k := ?_)
    refine q1 46 (hg := rfl) (hu := rfl) (h := by rintro f _ rfl; exact p_loadf ty_4 (a := .bool (d.ends[k]'(by omega))) ⟨rfl, rfl⟩ (hr := row_bool (by omega)) (hl := Nat.le_refl 1) (ha := rfl)) (k := ?_)
    refine q_end ?_
    refine m_end ?_
    refine l_cons rfl (p_neb ub_4 (b := false) ?_ (hb := bne_self _))
    refine l_nil ?_
    refine k_seq_normal ?_
    refine w_f rfl ?_
    refine w_skip ?_
    refine k_blk_normal ?_
    refine k_seq_normal ?_
    refine w_region ?_
    refine l_cons rfl (p_move ?_)
    refine l_cons rfl (p_arith ?_)
    refine l_cons rfl (p_assign ?_)
    refine l_nil ?_
    refine k_seq_normal ?_
    exact ⟨d.ends.length - (k + 1), by omega, k + 1, rfl, by omega, rfl, by simp only [Knows, put, upd_apply, Nat.reduceEqDiff, ↓reduceIte, and_true, true_and, eq_self] <;> and_intros <;> rfl⟩
  · skip
    have h1' := h1; (try simp only [decide_eq_true_eq, decide_eq_false_iff_not, Bool.not_eq_true', Bool.not_false, Bool.not_true, Bool.not_eq_false'] at h1')
    refine w_exit ?_
    refine k_seq_exit ?_
    refine k_seq_exit ?_
    refine k_blk_here ?_
    refine k_seq_normal ?_
    refine w_seq ?_
    refine w_seq ?_
    refine w_region ?_
    refine l_cons rfl (p_assign ?_)
    refine l_nil ?_
    refine k_seq_normal ?_
    refine w_block ?_
    refine w_loop (fun m f es' => ∃ i, m = d.next.length - i ∧ i ≤ d.next.length ∧ es' = .row s3 62 258 [dRow (fun i => (d.cls i : Int)) (.list 1 (d.next.map fun r => [ints r])) (.list 1 (d.ends.map fun b => [AV.bool b]))] :: .row s2 62 258 [dRow (fun i => (d.cls i : Int)) (.list 1 (d.next.map fun r => [ints r])) (.list 1 (d.ends.map fun b => [AV.bool b]))] :: es ∧ Knows f [(2, .ptr es.length s2 0 0), (3, .ptr (es.length + 1) s3 0 0), (6, .int .i64 (i : Int))]) (d.next.length) (⟨0, rfl, Nat.zero_le _, rfl, by simp only [Knows, put, upd_apply, Nat.reduceEqDiff, ↓reduceIte, and_true, true_and, eq_self] <;> and_intros <;> rfl⟩) ?_
    rintro m f es' ⟨i, rfl, hi1, rfl, hk⟩
    refine w_pins _ (Sub.refl _) (hk) ?_
    simp only [pins]
    refine w_seq ?_
    refine w_seq ?_
    refine w_region ?_
    refine l_cons rfl (p_move ?_)
    refine l_cons rfl (p_fap fa_62_1 ?_)
    refine l_cons rfl (p_loadp ty_59 (a := .list 1 (d.next.map fun r => [ints r])) ?_ (hl := by rw [dRow_len]; omega) (ha := dRow_load256))
    refine l_cons rfl (p_lenl sl_59 (a := .int .i64 (d.next.length : Int)) ?_ (ha := by rw [List.length_map]))
    refine l_cons rfl (p_cmp ?_)
    refine l_nil ?_
    refine k_seq_normal ?_
    refine w_b (fun h2 => ?_) (fun h2 => ?_)
    · skip
      have h2' := h2; (try simp only [decide_eq_true_eq, decide_eq_false_iff_not, Bool.not_eq_true', Bool.not_false, Bool.not_true, Bool.not_eq_false'] at h2')
      refine w_skip ?_
      refine k_seq_normal ?_
      refine w_seq ?_
      refine w_block ?_
      refine w_seq ?_
      refine w_seq ?_
      refine w_drawn 12 [] (fun e => e = _) mixed (by kernel_rfl) rfl ?_
      refine q1 2 (hg := rfl) (hu := rfl) (h := by rintro f _ rfl; exact p_fap fa_62_1 ⟨rfl, rfl⟩) (k := ?_)
      refine q1 56 (hg := rfl) (hu := rfl) (h := by rintro f _ rfl; exact p_loadp ty_59 (a := .list 1 (d.next.map fun r => [ints r])) ⟨rfl, rfl⟩ (hl := by rw [dRow_len]; omega) (ha := dRow_load256)) (k := ?_)
      refine q1 6 (hg := rfl) (hu := rfl) (h := by rintro f _ rfl; exact p_move ⟨rfl, rfl⟩) (k := ?_)
      refine q2 57 58 (hg := rfl) (hu := rfl) (h := by rintro f _ rfl; exact p_ixl sl_59 (a := .fptr 1 (d.next.map fun r => [ints r]) i 0) ⟨rfl, rfl⟩ (h0 := by omega) (h1 := by simp only [List.length_map]; omega)) (k := ?_)
      refine q1 59 (hg := rfl) (hu := rfl) (h := by rintro f _ rfl; exact p_loadf ty_48 (a := ints (d.next[i]'(by omega))) ⟨rfl, rfl⟩ (hr := row_ints (by omega)) (hl := Nat.le_refl 1) (ha := rfl)) (k := ?_)
      refine q1 60 (hg := rfl) (hu := rfl) (h := by rintro f _ rfl; exact p_lenl sl_48 (a := .int .i64 ((d.next[i]'(by omega)).length : Int)) ⟨rfl, rfl⟩ (ha := by rw [List.length_map])) (k := ?_)
      refine q1 3 (hg := rfl) (hu := rfl) (h := by rintro f _ rfl; exact p_fap fa_62_1 ⟨rfl, rfl⟩) (k := ?_)
      refine q1 62 (hg := rfl) (hu := rfl) (h := by rintro f _ rfl; exact p_loadp ty_59 (a := .list 1 (d.next.map fun r => [ints r])) ⟨rfl, rfl⟩ (hl := by rw [dRow_len]; omega) (ha := dRow_load256)) (k := ?_)
      refine q1 6 (hg := rfl) (hu := rfl) (h := by rintro f _ rfl; exact p_move ⟨rfl, rfl⟩) (k := ?_)
      refine q2 63 64 (hg := rfl) (hu := rfl) (h := by rintro f _ rfl; exact p_ixl sl_59 (a := .fptr 1 (d.next.map fun r => [ints r]) i 0) ⟨rfl, rfl⟩ (h0 := by omega) (h1 := by simp only [List.length_map]; omega)) (k := ?_)
      refine q1 65 (hg := rfl) (hu := rfl) (h := by rintro f _ rfl; exact p_loadf ty_48 (a := ints (d.next[i]'(by omega))) ⟨rfl, rfl⟩ (hr := row_ints (by omega)) (hl := Nat.le_refl 1) (ha := rfl)) (k := ?_)
      refine q1 66 (hg := rfl) (hu := rfl) (h := by rintro f _ rfl; exact p_lenl sl_48 (a := .int .i64 ((d.next[i]'(by omega)).length : Int)) ⟨rfl, rfl⟩ (ha := by rw [List.length_map])) (k := ?_)
      refine q_end ?_
      refine m_end ?_
      refine l_cons rfl (p_cmp ?_ (b := false) (hb := neq_self _))
      refine l_nil ?_
      refine k_seq_normal ?_
      refine w_f rfl ?_
      refine w_skip ?_
      refine k_seq_normal ?_
      refine w_seq ?_
      refine w_region ?_
      refine l_cons rfl (p_assign ?_)
      refine l_nil ?_
      refine k_seq_normal ?_
      refine w_block ?_
      refine w_loop (fun m f es' => ∃ j, m = (d.next[i]'(by omega)).length - j ∧ j ≤ (d.next[i]'(by omega)).length ∧ es' = .row s3 62 258 [dRow (fun i => (d.cls i : Int)) (.list 1 (d.next.map fun r => [ints r])) (.list 1 (d.ends.map fun b => [AV.bool b]))] :: .row s2 62 258 [dRow (fun i => (d.cls i : Int)) (.list 1 (d.next.map fun r => [ints r])) (.list 1 (d.ends.map fun b => [AV.bool b]))] :: es ∧ Knows f [(2, .ptr es.length s2 0 0), (3, .ptr (es.length + 1) s3 0 0), (6, .int .i64 (i : Int)), (7, .int .i64 (j : Int))]) ((d.next[i]'(by omega)).length) (⟨0, rfl, Nat.zero_le _, rfl, by simp only [Knows, put, upd_apply, Nat.reduceEqDiff, ↓reduceIte, and_true, true_and, eq_self] <;> and_intros <;> rfl⟩) ?_
      rintro m f es' ⟨j, rfl, hj1, rfl, hk⟩
      have hrli := hrl _ (List.getElem_mem (show i < d.next.length by omega))
      refine w_pins _ (Sub.refl _) (hk) ?_
      simp only [pins]
      refine w_seq ?_
      refine w_seq ?_
      refine w_region ?_
      refine l_cons rfl (p_move ?_)
      refine l_cons rfl (p_fap fa_62_1 ?_)
      refine l_cons rfl (p_loadp ty_59 (a := .list 1 (d.next.map fun r => [ints r])) ?_ (hl := by rw [dRow_len]; omega) (ha := dRow_load256))
      refine l_cons rfl (p_move ?_)
      refine l_cons rfl (p_ixl sl_59 (a := .fptr 1 (d.next.map fun r => [ints r]) i 0) ?_ (h0 := by omega) (h1 := by simp only [List.length_map]; omega))
      refine l_cons rfl (p_loadf ty_48 (a := ints (d.next[i]'(by omega))) ?_ (hr := row_ints (by omega)) (hl := Nat.le_refl 1) (ha := rfl))
      refine l_cons rfl (p_lenl sl_48 (a := .int .i64 ((d.next[i]'(by omega)).length : Int)) ?_ (ha := by rw [List.length_map]))
      refine l_cons rfl (p_cmp ?_)
      refine l_nil ?_
      refine k_seq_normal ?_
      refine w_b (fun h3 => ?_) (fun h3 => ?_)
      · skip
        have h3' := h3; (try simp only [decide_eq_true_eq, decide_eq_false_iff_not, Bool.not_eq_true', Bool.not_false, Bool.not_true, Bool.not_eq_false'] at h3')
        refine w_skip ?_
        refine k_seq_normal ?_
        refine w_seq ?_
        refine w_block ?_
        refine w_seq ?_
        refine w_drawn 16 [] (fun e => e = _) mixed (by kernel_rfl) rfl ?_
        refine q1 2 (hg := rfl) (hu := rfl) (h := by rintro f _ rfl; exact p_fap fa_62_1 ⟨rfl, rfl⟩) (k := ?_)
        refine q1 79 (hg := rfl) (hu := rfl) (h := by rintro f _ rfl; exact p_loadp ty_59 (a := .list 1 (d.next.map fun r => [ints r])) ⟨rfl, rfl⟩ (hl := by rw [dRow_len]; omega) (ha := dRow_load256)) (k := ?_)
        refine q1 6 (hg := rfl) (hu := rfl) (h := by rintro f _ rfl; exact p_move ⟨rfl, rfl⟩) (k := ?_)
        refine q2 80 81 (hg := rfl) (hu := rfl) (h := by rintro f _ rfl; exact p_ixl sl_59 (a := .fptr 1 (d.next.map fun r => [ints r]) i 0) ⟨rfl, rfl⟩ (h0 := by omega) (h1 := by simp only [List.length_map]; omega)) (k := ?_)
        refine q1 82 (hg := rfl) (hu := rfl) (h := by rintro f _ rfl; exact p_loadf ty_48 (a := ints (d.next[i]'(by omega))) ⟨rfl, rfl⟩ (hr := row_ints (by omega)) (hl := Nat.le_refl 1) (ha := rfl)) (k := ?_)
        refine q1 7 (hg := rfl) (hu := rfl) (h := by rintro f _ rfl; exact p_move ⟨rfl, rfl⟩) (k := ?_)
        refine q2 83 84 (hg := rfl) (hu := rfl) (h := by rintro f _ rfl; exact p_ixl sl_48 (a := .fptr 1 ((d.next[i]'(by omega)).map fun n => [AV.int .i64 n]) j 0) ⟨rfl, rfl⟩ (h0 := by omega) (h1 := by simp only [List.length_map]; omega)) (k := ?_)
        refine q1 85 (hg := rfl) (hu := rfl) (h := by rintro f _ rfl; exact p_loadf ty_3 (a := .int .i64 ((d.next[i]'(by omega))[j]'(by omega))) ⟨rfl, rfl⟩ (hr := row_i64 (by omega)) (hl := Nat.le_refl 1) (ha := rfl)) (k := ?_)
        refine q1 3 (hg := rfl) (hu := rfl) (h := by rintro f _ rfl; exact p_fap fa_62_1 ⟨rfl, rfl⟩) (k := ?_)
        refine q1 87 (hg := rfl) (hu := rfl) (h := by rintro f _ rfl; exact p_loadp ty_59 (a := .list 1 (d.next.map fun r => [ints r])) ⟨rfl, rfl⟩ (hl := by rw [dRow_len]; omega) (ha := dRow_load256)) (k := ?_)
        refine q1 6 (hg := rfl) (hu := rfl) (h := by rintro f _ rfl; exact p_move ⟨rfl, rfl⟩) (k := ?_)
        refine q2 88 89 (hg := rfl) (hu := rfl) (h := by rintro f _ rfl; exact p_ixl sl_59 (a := .fptr 1 (d.next.map fun r => [ints r]) i 0) ⟨rfl, rfl⟩ (h0 := by omega) (h1 := by simp only [List.length_map]; omega)) (k := ?_)
        refine q1 90 (hg := rfl) (hu := rfl) (h := by rintro f _ rfl; exact p_loadf ty_48 (a := ints (d.next[i]'(by omega))) ⟨rfl, rfl⟩ (hr := row_ints (by omega)) (hl := Nat.le_refl 1) (ha := rfl)) (k := ?_)
        refine q1 7 (hg := rfl) (hu := rfl) (h := by rintro f _ rfl; exact p_move ⟨rfl, rfl⟩) (k := ?_)
        refine q2 91 92 (hg := rfl) (hu := rfl) (h := by rintro f _ rfl; exact p_ixl sl_48 (a := .fptr 1 ((d.next[i]'(by omega)).map fun n => [AV.int .i64 n]) j 0) ⟨rfl, rfl⟩ (h0 := by omega) (h1 := by simp only [List.length_map]; omega)) (k := ?_)
        refine q1 93 (hg := rfl) (hu := rfl) (h := by rintro f _ rfl; exact p_loadf ty_3 (a := .int .i64 ((d.next[i]'(by omega))[j]'(by omega))) ⟨rfl, rfl⟩ (hr := row_i64 (by omega)) (hl := Nat.le_refl 1) (ha := rfl)) (k := ?_)
        refine q_end ?_
        refine m_end ?_
        refine l_cons rfl (p_cmp ?_ (b := false) (hb := neq_self _))
        refine l_nil ?_
        refine k_seq_normal ?_
        refine w_f rfl ?_
        refine w_skip ?_
        refine k_blk_normal ?_
        refine k_seq_normal ?_
        refine w_region ?_
        refine l_cons rfl (p_move ?_)
        refine l_cons rfl (p_arith ?_)
        refine l_cons rfl (p_assign ?_)
        refine l_nil ?_
        refine k_seq_normal ?_
        exact ⟨(d.next[i]'(by omega)).length - (j + 1), by omega, j + 1, rfl, by omega, rfl, by simp only [Knows, put, upd_apply, Nat.reduceEqDiff, ↓reduceIte, and_true, true_and, eq_self] <;> and_intros <;> rfl⟩
      · skip
        have h3' := h3; (try simp only [decide_eq_true_eq, decide_eq_false_iff_not, Bool.not_eq_true', Bool.not_false, Bool.not_true, Bool.not_eq_false'] at h3')
        refine w_exit ?_
        refine k_seq_exit ?_
        refine k_seq_exit ?_
        refine k_blk_here ?_
        refine k_blk_normal ?_
        refine k_seq_normal ?_
        refine w_region ?_
        refine l_cons rfl (p_move ?_)
        refine l_cons rfl (p_arith ?_)
        refine l_cons rfl (p_assign ?_)
        refine l_nil ?_
        refine k_seq_normal ?_
        exact ⟨d.next.length - (i + 1), by omega, i + 1, rfl, by omega, rfl, by simp only [Knows, put, upd_apply, Nat.reduceEqDiff, ↓reduceIte, and_true, true_and, eq_self] <;> and_intros <;> rfl⟩
    · skip
      have h2' := h2; (try simp only [decide_eq_true_eq, decide_eq_false_iff_not, Bool.not_eq_true', Bool.not_false, Bool.not_true, Bool.not_eq_false'] at h2')
      refine w_exit ?_
      refine k_seq_exit ?_
      refine k_seq_exit ?_
      refine k_blk_here ?_
      refine k_seq_normal ?_
      refine w_seq ?_
      refine w_region ?_
      refine l_cons rfl (p_assign ?_)
      refine l_nil ?_
      refine k_seq_normal ?_
      refine w_ret ?_
      exact ret1 rfl (by simp only [ev_tmp, ev_const, ev_func, ofConst_int, ofConst_bool, ofConst_str, ofConst_nil, upd_apply, Nat.reduceEqDiff, ↓reduceIte] <;> exact rfl) (by first | exact Sub.refl _ | exact sub1 _ _ | exact sub2 _ _ _ | exact sub3 _ _ _ _ | exact sub4 _ _ _ _ _ | exact sub5 _ _ _ _ _ _) ⟨rfl, rfl⟩
theorem dreach_walk {w0 : World} {es : List Ent} (d : Df) (hc : ∀ i, i < 256 → d.cls i < 256) (hm : d.may = true) : ACalls Tryd.prog w0 54 [.agg d.cells] es fun v es' => (∃ bs : List Bool, v = .list 1 (bs.map fun b => [AV.bool b]) ∧ bs.length = d.next.length ∧ ∀ i, On bs i ↔ Reach (nfD d) [0] i) ∧ es' = es := by
  obtain ⟨hd1, hd2, hd3⟩ := dmay_at hm
  have hnl := nfD_len d
  rw [dRow_cells]
  refine calls1 (N := 65) Tryd.func54 rfl rfl (by decide) ?_
  refine w_seq ?_
  refine w_region ?_
  refine l_cons rfl (p_box fun s1 => ?_)
  rw [dRow_len]
  refine l_cons rfl (p_assign ?_)
  refine l_nil ?_
  refine k_seq_normal ?_
  refine w_seq ?_
  refine w_seq ?_
  refine w_region ?_
  refine l_cons rfl (p_loadp ty_62 (a := .agg d.cells) ?_ (hl := by rw [dRow_len]; exact Nat.le_refl _) (ha := dRow_all))
  refine l_cons rfl (p_callr en_52 (dmay_true d hc hm) ?_)
  refine l_cons rfl (p_not ?_)
  refine l_nil ?_
  refine k_seq_normal ?_
  refine w_f rfl ?_
  refine w_skip ?_
  refine k_seq_normal ?_
  refine w_seq ?_
  refine w_region ?_
  refine l_cons rfl (p_fap fa_62_1 ?_)
  refine l_cons rfl (p_loadp ty_59 (a := .list 1 (d.next.map fun r => [ints r])) ?_ (hl := by rw [dRow_len]; omega) (ha := dRow_load256))
  refine l_cons rfl (p_lenl sl_59 (a := .int .i64 (d.next.length : Int)) ?_ (ha := by rw [List.length_map]))
  refine l_cons rfl (p_makeSlice sl_60 by_4 ze_4 fun s3 => ?_)
  refine l_cons rfl (p_assign ?_)
  refine l_nil ?_
  refine k_seq_normal ?_
  refine w_seq ?_
  rw [show List.replicate ((d.next.length : Int)).toNat [AV.bool false] = (List.replicate d.next.length false).map fun b => [AV.bool b] from by rw [List.map_replicate, Int.toNat_natCast]]
  refine w_region ?_
  refine l_cons rfl (p_move ?_)
  refine l_cons rfl (p_ixo sl_60 (a := .ptr (es.length + 1) s3 0 0) ?_ (h0 := by omega) (h1 := by simp only [List.length_map, List.length_replicate]; omega))
  refine l_cons rfl (p_store ty_4 (r' := [.bool true]) ?_ (hr := row_bool (by rw [List.length_replicate]; omega)) (hl := Nat.le_refl 1) (hr' := rfl))
  refine l_nil ?_
  refine k_seq_normal ?_
  refine w_seq ?_
  refine w_seq ?_
  refine w_region ?_
  refine l_cons rfl (p_assign ?_)
  refine l_nil ?_
  refine k_seq_normal ?_
  refine w_block ?_
  refine w_loop (fun m f es' => ∃ bs again, m = bs.count false + (if again = true then 1 else 0) ∧ RI (nfD d) [0] bs ∧ (again = false → ∀ i, On bs i ↔ Reach (nfD d) [0] i) ∧ es' = .row s3 4 1 (bs.map fun b => [AV.bool b]) :: .row s1 62 258 [dRow (fun i => (d.cls i : Int)) (.list 1 (d.next.map fun r => [ints r])) (.list 1 (d.ends.map fun b => [AV.bool b]))] :: es ∧ Knows f [(1, .ptr es.length s1 0 0), (3, .own (es.length + 1) s3), (4, .bool again)]) (_) (⟨(List.replicate d.next.length false).set 0 true, true, rfl, ri_start (by omega), fun e => (by cases e), by rw [List.map_set], by simp only [Knows, put, upd_apply, Nat.reduceEqDiff, ↓reduceIte, and_true, true_and, eq_self] <;> and_intros <;> rfl⟩) ?_
  rintro m f es' ⟨bs, again, rfl, hri, hfin, rfl, hk⟩
  have hbl := hri.len
  refine w_pins _ (Sub.refl _) (hk) ?_
  simp only [pins]
  refine w_seq ?_
  refine w_seq ?_
  refine w_region ?_
  refine l_cons rfl (p_move ?_)
  refine l_nil ?_
  refine k_seq_normal ?_
  refine w_b (fun h1 => ?_) (fun h1 => ?_)
  · skip
    have h1' := h1; (try simp only [decide_eq_true_eq, decide_eq_false_iff_not, Bool.not_eq_true', Bool.not_false, Bool.not_true, Bool.not_eq_false'] at h1')
    refine w_skip ?_
    refine k_seq_normal ?_
    refine w_block ?_
    refine w_seq ?_
    refine w_region ?_
    refine l_cons rfl (p_assign ?_)
    refine l_nil ?_
    refine k_seq_normal ?_
    refine w_seq ?_
    refine w_region ?_
    refine l_cons rfl (p_assign ?_)
    refine l_nil ?_
    refine k_seq_normal ?_
    refine w_block ?_
    refine w_loop (fun m f es' => ∃ i bs' again', m = d.next.length - i ∧ i ≤ d.next.length ∧ SW (nfD d) [0] bs again' bs' i 0 ∧ es' = .row s3 4 1 (bs'.map fun b => [AV.bool b]) :: .row s1 62 258 [dRow (fun i => (d.cls i : Int)) (.list 1 (d.next.map fun r => [ints r])) (.list 1 (d.ends.map fun b => [AV.bool b]))] :: es ∧ Knows f [(1, .ptr es.length s1 0 0), (3, .own (es.length + 1) s3), (4, .bool again'), (5, .int .i64 (i : Int))]) (d.next.length) (⟨0, bs, false, rfl, Nat.zero_le _, SW.begin hri, rfl, by simp only [Knows, put, upd_apply, Nat.reduceEqDiff, ↓reduceIte, and_true, true_and, eq_self] <;> and_intros <;> rfl⟩) ?_
    rintro m f es' ⟨i, bs', again', rfl, hi1, hsw, rfl, hk⟩
    have hbl' := hsw.ri.len
    rw [hnl] at hbl'
    refine w_pins _ (Sub.refl _) (hk) ?_
    simp only [pins]
    refine w_seq ?_
    refine w_seq ?_
    refine w_region ?_
    refine l_cons rfl (p_move ?_)
    refine l_cons rfl (p_move ?_)
    refine l_cons rfl (p_leno sl_60 (a := .int .i64 (d.next.length : Int)) ?_ (ha := by rw [List.length_map, hbl']))
    refine l_cons rfl (p_cmp ?_)
    refine l_nil ?_
    refine k_seq_normal ?_
    refine w_b (fun h2 => ?_) (fun h2 => ?_)
    · skip
      have h2' := h2; (try simp only [decide_eq_true_eq, decide_eq_false_iff_not, Bool.not_eq_true', Bool.not_false, Bool.not_true, Bool.not_eq_false'] at h2')
      refine w_skip ?_
      refine k_seq_normal ?_
      refine w_seq ?_
      refine w_block ?_
      refine w_seq ?_
      refine w_region ?_
      refine l_cons rfl (p_assign ?_)
      refine l_nil ?_
      refine k_seq_normal ?_
      refine w_block ?_
      refine w_loop (fun m f es' => ∃ k bs2 again2, m = ((d.next[i]'(by omega))).length - k ∧ k ≤ ((d.next[i]'(by omega))).length ∧ SW (nfD d) [0] bs again2 bs2 i k ∧ es' = .row s3 4 1 (bs2.map fun b => [AV.bool b]) :: .row s1 62 258 [dRow (fun i => (d.cls i : Int)) (.list 1 (d.next.map fun r => [ints r])) (.list 1 (d.ends.map fun b => [AV.bool b]))] :: es ∧ Knows f [(1, .ptr es.length s1 0 0), (3, .own (es.length + 1) s3), (4, .bool again2), (5, .int .i64 (i : Int)), (6, .int .i64 (k : Int))]) (((d.next[i]'(by omega))).length) (⟨0, bs', again', rfl, Nat.zero_le _, hsw, rfl, by simp only [Knows, put, upd_apply, Nat.reduceEqDiff, ↓reduceIte, and_true, true_and, eq_self] <;> and_intros <;> rfl⟩) ?_
      rintro m f es' ⟨k, bs2, again2, rfl, hk1, hsw, rfl, hk⟩
      have hbl2 := hsw.ri.len
      rw [hnl] at hbl2
      have hrow := hd3 _ (List.getElem_mem (show i < d.next.length by omega))
      have hcl := classes_le hc
      refine w_pins _ (Sub.refl _) (hk) ?_
      simp only [pins]
      refine w_seq ?_
      refine w_seq ?_
      refine w_region ?_
      refine l_cons rfl (p_move ?_)
      refine l_cons rfl (p_fap fa_62_1 ?_)
      refine l_cons rfl (p_loadp ty_59 (a := .list 1 (d.next.map fun r => [ints r])) ?_ (hl := by rw [dRow_len]; omega) (ha := dRow_load256))
      refine l_cons rfl (p_move ?_)
      refine l_cons rfl (p_ixl sl_59 (a := .fptr 1 (d.next.map fun r => [ints r]) i 0) ?_ (h0 := by omega) (h1 := by simp only [List.length_map]; omega))
      refine l_cons rfl (p_loadf ty_48 (a := ints (d.next[i]'(by omega))) ?_ (hr := row_ints (by omega)) (hl := Nat.le_refl 1) (ha := rfl))
      refine l_cons rfl (p_lenl sl_48 (a := .int .i64 ((d.next[i]'(by omega)).length : Int)) ?_ (ha := by rw [List.length_map]))
      refine l_cons rfl (p_cmp ?_)
      refine l_cons rfl (p_move ?_)
      refine g_b rfl (fun h3 => ?_) (fun h3 => ?_)
      · skip
        have h3' := h3; (try simp only [decide_eq_true_eq, decide_eq_false_iff_not, Bool.not_eq_true', Bool.not_false, Bool.not_true, Bool.not_eq_false'] at h3')
        refine (p_move ?_)
        refine g_y rfl h3 (p_move ?_)
        refine g_y rfl h3 (p_ixo sl_60 (a := .ptr (es.length + 1) s3 i 0) ?_ (h0 := by omega) (h1 := by simp only [List.length_map]; omega))
        refine g_y rfl h3 (p_loadp ty_4 (a := .bool (bs2[i]'(by omega))) ?_ (hr := row_bool (by omega)) (hl := Nat.le_refl 1) (ha := rfl))
        refine l_cons rfl (p_pickt h3 ?_)
        refine l_nil ?_
        refine k_seq_normal ?_
        refine w_b (fun h4 => ?_) (fun h4 => ?_)
        · skip
          have h4' := h4; (try simp only [decide_eq_true_eq, decide_eq_false_iff_not, Bool.not_eq_true', Bool.not_false, Bool.not_true, Bool.not_eq_false'] at h4')
          refine w_skip ?_
          refine k_seq_normal ?_
          refine w_seq ?_
          refine w_block ?_
          refine w_seq ?_
          obtain ⟨t, hto, htl⟩ := drow_at hm (show i < d.next.length by omega) (show k < (d.next[i]'(by omega)).length by omega)
          refine w_region ?_
          refine l_cons rfl (p_move ?_)
          refine l_cons rfl (p_move ?_)
          refine g_b rfl (fun h5 => ?_) (fun h5 => ?_)
          · skip
            have h5' := h5; (try simp only [decide_eq_true_eq, decide_eq_false_iff_not, Bool.not_eq_true', Bool.not_false, Bool.not_true, Bool.not_eq_false'] at h5')
            refine (p_move ?_)
            refine g_y rfl h5 (p_fap fa_62_1 ?_)
            refine g_y rfl h5 (p_loadp ty_59 (a := .list 1 (d.next.map fun r => [ints r])) ?_ (hl := by rw [dRow_len]; omega) (ha := dRow_load256))
            refine g_y rfl h5 (p_move ?_)
            refine g_y rfl h5 (p_ixl sl_59 (a := .fptr 1 (d.next.map fun r => [ints r]) i 0) ?_ (h0 := by omega) (h1 := by simp only [List.length_map]; omega))
            refine g_y rfl h5 (p_loadf ty_48 (a := ints (d.next[i]'(by omega))) ?_ (hr := row_ints (by omega)) (hl := Nat.le_refl 1) (ha := rfl))
            refine g_y rfl h5 (p_move ?_)
            refine g_y rfl h5 (p_ixl sl_48 (a := .fptr 1 ((d.next[i]'(by omega)).map fun n => [AV.int .i64 n]) k 0) ?_ (h0 := by omega) (h1 := by simp only [List.length_map]; omega))
            refine g_y rfl h5 (p_loadf ty_3 (a := .int .i64 (t : Int)) ?_ (hr := (row_i64 (by omega)).trans (by rw [hto])) (hl := Nat.le_refl 1) (ha := rfl))
            refine g_y rfl h5 (p_ixo sl_60 (a := .ptr (es.length + 1) s3 t 0) ?_ (h0 := by omega) (h1 := by simp only [List.length_map]; omega))
            refine g_y rfl h5 (p_loadp ty_4 (a := .bool (bs2[t]'(by omega))) ?_ (hr := row_bool (by omega)) (hl := Nat.le_refl 1) (ha := rfl))
            refine g_y rfl h5 (p_not ?_)
            refine l_cons rfl (p_pickf h5 ?_)
            refine l_cons rfl (p_assign ?_)
            refine l_nil ?_
            refine k_seq_normal ?_
            refine w_region ?_
            refine l_cons rfl (p_move ?_)
            refine l_cons rfl (p_fap fa_62_1 ?_)
            refine l_cons rfl (p_loadp ty_59 (a := .list 1 (d.next.map fun r => [ints r])) ?_ (hl := by rw [dRow_len]; omega) (ha := dRow_load256))
            refine l_cons rfl (p_move ?_)
            refine l_cons rfl (p_ixl sl_59 (a := .fptr 1 (d.next.map fun r => [ints r]) i 0) ?_ (h0 := by omega) (h1 := by simp only [List.length_map]; omega))
            refine l_cons rfl (p_loadf ty_48 (a := ints (d.next[i]'(by omega))) ?_ (hr := row_ints (by omega)) (hl := Nat.le_refl 1) (ha := rfl))
            refine l_cons rfl (p_move ?_)
            refine l_cons rfl (p_ixl sl_48 (a := .fptr 1 ((d.next[i]'(by omega)).map fun n => [AV.int .i64 n]) k 0) ?_ (h0 := by omega) (h1 := by simp only [List.length_map]; omega))
            refine l_cons rfl (p_loadf ty_3 (a := .int .i64 (t : Int)) ?_ (hr := (row_i64 (by omega)).trans (by rw [hto])) (hl := Nat.le_refl 1) (ha := rfl))
            refine l_cons rfl (p_ixo sl_60 (a := .ptr (es.length + 1) s3 t 0) ?_ (h0 := by omega) (h1 := by simp only [List.length_map]; omega))
            refine l_cons rfl (p_store ty_4 (r' := [.bool true]) ?_ (hr := row_bool (by omega)) (hl := Nat.le_refl 1) (hr' := rfl))
            refine l_nil ?_
            refine k_blk_normal ?_
            refine k_seq_normal ?_
            refine w_region ?_
            refine l_cons rfl (p_move ?_)
            refine l_cons rfl (p_arith ?_)
            refine l_cons rfl (p_assign ?_)
            refine l_nil ?_
            refine k_seq_normal ?_
            have hon : On bs2 i := by
              unfold On
              rw [List.getElem?_eq_getElem (by omega)]
              simp_all
            refine ⟨((d.next[i]'(by omega))).length - (k + 1), by omega, k + 1, _, _, rfl, by omega, swd_mark (by omega) (by omega) hsw hon hto (by omega), by rw [List.map_set], ?_⟩
            simp only [Knows, put, upd_apply, Nat.reduceEqDiff, ↓reduceIte, and_true, true_and, eq_self]
            first | exact ⟨by simp [*], rfl⟩ | simp [*]
          · skip
            have h5' := h5; (try simp only [decide_eq_true_eq, decide_eq_false_iff_not, Bool.not_eq_true', Bool.not_false, Bool.not_true, Bool.not_eq_false'] at h5')
            refine g_n rfl h5 ?_
            refine g_n rfl h5 ?_
            refine g_n rfl h5 ?_
            refine g_n rfl h5 ?_
            refine g_n rfl h5 ?_
            refine g_n rfl h5 ?_
            refine g_n rfl h5 ?_
            refine g_n rfl h5 ?_
            refine g_n rfl h5 ?_
            refine g_n rfl h5 ?_
            refine g_n rfl h5 ?_
            refine l_cons rfl (p_pickt h5 ?_)
            refine l_cons rfl (p_assign ?_)
            refine l_nil ?_
            refine k_seq_normal ?_
            refine w_region ?_
            refine l_cons rfl (p_move ?_)
            refine l_cons rfl (p_fap fa_62_1 ?_)
            refine l_cons rfl (p_loadp ty_59 (a := .list 1 (d.next.map fun r => [ints r])) ?_ (hl := by rw [dRow_len]; omega) (ha := dRow_load256))
            refine l_cons rfl (p_move ?_)
            refine l_cons rfl (p_ixl sl_59 (a := .fptr 1 (d.next.map fun r => [ints r]) i 0) ?_ (h0 := by omega) (h1 := by simp only [List.length_map]; omega))
            refine l_cons rfl (p_loadf ty_48 (a := ints (d.next[i]'(by omega))) ?_ (hr := row_ints (by omega)) (hl := Nat.le_refl 1) (ha := rfl))
            refine l_cons rfl (p_move ?_)
            refine l_cons rfl (p_ixl sl_48 (a := .fptr 1 ((d.next[i]'(by omega)).map fun n => [AV.int .i64 n]) k 0) ?_ (h0 := by omega) (h1 := by simp only [List.length_map]; omega))
            refine l_cons rfl (p_loadf ty_3 (a := .int .i64 (t : Int)) ?_ (hr := (row_i64 (by omega)).trans (by rw [hto])) (hl := Nat.le_refl 1) (ha := rfl))
            refine l_cons rfl (p_ixo sl_60 (a := .ptr (es.length + 1) s3 t 0) ?_ (h0 := by omega) (h1 := by simp only [List.length_map]; omega))
            refine l_cons rfl (p_store ty_4 (r' := [.bool true]) ?_ (hr := row_bool (by omega)) (hl := Nat.le_refl 1) (hr' := rfl))
            refine l_nil ?_
            refine k_blk_normal ?_
            refine k_seq_normal ?_
            refine w_region ?_
            refine l_cons rfl (p_move ?_)
            refine l_cons rfl (p_arith ?_)
            refine l_cons rfl (p_assign ?_)
            refine l_nil ?_
            refine k_seq_normal ?_
            have hon : On bs2 i := by
              unfold On
              rw [List.getElem?_eq_getElem (by omega)]
              simp_all
            refine ⟨((d.next[i]'(by omega))).length - (k + 1), by omega, k + 1, _, _, rfl, by omega, swd_mark (by omega) (by omega) hsw hon hto (by omega), by rw [List.map_set], ?_⟩
            simp only [Knows, put, upd_apply, Nat.reduceEqDiff, ↓reduceIte, and_true, true_and, eq_self]
            first | exact ⟨by simp [*], rfl⟩ | simp [*]
        · skip
          have h4' := h4; (try simp only [decide_eq_true_eq, decide_eq_false_iff_not, Bool.not_eq_true', Bool.not_false, Bool.not_true, Bool.not_eq_false'] at h4')
          refine w_exit ?_
          refine k_seq_exit ?_
          refine k_seq_exit ?_
          refine k_blk_here ?_
          refine k_blk_normal ?_
          refine k_seq_normal ?_
          refine w_region ?_
          refine l_cons rfl (p_move ?_)
          refine l_cons rfl (p_arith ?_)
          refine l_cons rfl (p_assign ?_)
          refine l_nil ?_
          refine k_seq_normal ?_
          exact ⟨d.next.length - (i + 1), by omega, i + 1, bs2, again2, rfl, by omega, swd_next (by omega) hsw (by first | exact .inl (by omega) | exact .inr (fun ho => absurd (on_at ho (show i < bs2.length by omega)) (by simp_all))), rfl, by simp only [Knows, put, upd_apply, Nat.reduceEqDiff, ↓reduceIte, and_true, true_and, eq_self] <;> and_intros <;> rfl⟩
      · skip
        have h3' := h3; (try simp only [decide_eq_true_eq, decide_eq_false_iff_not, Bool.not_eq_true', Bool.not_false, Bool.not_true, Bool.not_eq_false'] at h3')
        refine g_n rfl h3 ?_
        refine g_n rfl h3 ?_
        refine g_n rfl h3 ?_
        refine l_cons rfl (p_pickf h3 ?_)
        refine l_nil ?_
        refine k_seq_normal ?_
        refine w_f rfl ?_
        refine w_exit ?_
        refine k_seq_exit ?_
        refine k_seq_exit ?_
        refine k_blk_here ?_
        refine k_blk_normal ?_
        refine k_seq_normal ?_
        refine w_region ?_
        refine l_cons rfl (p_move ?_)
        refine l_cons rfl (p_arith ?_)
        refine l_cons rfl (p_assign ?_)
        refine l_nil ?_
        refine k_seq_normal ?_
        exact ⟨d.next.length - (i + 1), by omega, i + 1, bs2, again2, rfl, by omega, swd_next (by omega) hsw (by first | exact .inl (by omega) | exact .inr (fun ho => absurd (on_at ho (show i < bs2.length by omega)) (by simp_all))), rfl, by simp only [Knows, put, upd_apply, Nat.reduceEqDiff, ↓reduceIte, and_true, true_and, eq_self] <;> and_intros <;> rfl⟩
    · skip
      have h2' := h2; (try simp only [decide_eq_true_eq, decide_eq_false_iff_not, Bool.not_eq_true', Bool.not_false, Bool.not_true, Bool.not_eq_false'] at h2')
      refine w_exit ?_
      refine k_seq_exit ?_
      refine k_seq_exit ?_
      refine k_blk_here ?_
      refine k_blk_normal ?_
      refine k_seq_normal ?_
      have hin : i = (nfD d).st.length := by omega
      rw [hin] at hsw
      refine ⟨_, ?_, bs', again', rfl, hsw.ri, fun e => (by subst e; exact hsw.fin), rfl, by simp only [Knows, put, upd_apply, Nat.reduceEqDiff, ↓reduceIte, and_true, true_and, eq_self] <;> and_intros <;> rfl⟩
      have hle := hsw.le
      have hls := hsw.less
      cases again' <;> simp_all <;> omega
  · skip
    have h1' := h1; (try simp only [decide_eq_true_eq, decide_eq_false_iff_not, Bool.not_eq_true', Bool.not_false, Bool.not_true, Bool.not_eq_false'] at h1')
    refine w_exit ?_
    refine k_seq_exit ?_
    refine k_seq_exit ?_
    refine k_blk_here ?_
    refine k_seq_normal ?_
    refine w_seq ?_
    refine w_freezeTop 3 ?_ (hclean := cleans_bool _)
    refine w_region ?_
    refine l_cons rfl (p_move ?_)
    refine l_cons rfl (p_assign ?_)
    refine l_nil ?_
    refine k_seq_normal ?_
    refine w_ret ?_
    exact ret1 rfl (by simp only [ev_tmp, ev_const, ev_func, ofConst_int, ofConst_bool, ofConst_str, ofConst_nil, upd_apply, Nat.reduceEqDiff, ↓reduceIte] <;> exact rfl) (by first | exact Sub.refl _ | exact sub1 _ _ | exact sub2 _ _ _ | exact sub3 _ _ _ _ | exact sub4 _ _ _ _ _ | exact sub5 _ _ _ _ _ _) ⟨⟨bs, rfl, hbl.trans hnl, hfin (by assumption)⟩, rfl⟩
end Go.Proofs.YtfdgbghlanbddaaDoor.Av
set_option linter.unusedVariables false
set_option linter.unusedSimpArgs false
set_option maxRecDepth 8000
namespace Go.Proofs.YtfdgbghlanbddaaDoor.Av
open Go.RowKit Go.Proofs
theorem dc_len (d : Df) : d.cells.length = 258 := dRow_len
theorem dc_put {q : Nat → Int} {z w : AV} (d : Df) : (dRow q z w).take 0 ++ d.cells ++ (dRow q z w).drop (0 + 258) = d.cells := dRow_putAll
theorem dc_256 (d : Df) : loadAV false 1 d.cells 256 = .list 1 (d.next.map fun r => [ints r]) := dRow_load256
theorem dc_257 (d : Df) : loadAV false 1 d.cells 257 = .list 1 (d.ends.map fun b => [AV.bool b]) := dRow_load257
theorem dc_all (d : Df) : loadAV true 258 d.cells 0 = .agg d.cells := dRow_all
theorem dc_k (d : Df) {k : Nat} (hk : k < 256) : loadAV false 1 d.cells k = .int .u8 (d.cls k : Int) := dRow_load (p := fun i => (d.cls i : Int)) hk
theorem make_eq {w0 : World} {es : List Ent} (n : Nf) (mx : Int) (hs : ∀ s ∈ n.sets, s.ok) (hM : mx ≤ 100000) {d : Df} {e : Int} (h : makeN n mx = (d, e)) : ACalls Tryd.prog w0 47 [n.av, .int .i64 mx] es fun v es' => v = .tup [.agg d.cells, .int .i64 e] ∧ es' = es := by
  have := make_walk (w0 := w0) (es := es) n mx hs hM
  rw [h] at this
  exact this
theorem ref_eq {w0 : World} {es : List Ent} (n : Nf) (mx : Int) (hs : ∀ s ∈ n.sets, s.ok) (hM : mx ≤ 100000) {d : Df} {e : Int} (h : makeN n mx = (d, e)) : ACalls Tryd.prog w0 48 [n.av, .int .i64 mx] es fun v es' => v = .tup [.agg d.cells, .int .i64 e] ∧ es' = es := by
  have := refMake_walk (w0 := w0) (es := es) n mx hs hM
  rw [h] at this
  exact this
/-! ### the machine of the leaf 'a' -/
theorem hsA : ∀ s ∈ nfA.sets, s.ok := by
  intro s hs
  have : s = ⟨0, 0, 0, 0⟩ ∨ s = ⟨0, 8589934592, 0, 0⟩ := by simpa [Nf.sets, nfA, St.set] using hs
  rcases this with rfl | rfl <;> (unfold W4.ok; simp)
theorem firstsA : nfA.firsts = [0, 97] := by kernel_rfl
theorem reachA {l : List Int} {i : Nat} : Reach nfA l i ↔ i < 2 ∧ (i : Int) ∈ l := by
  constructor
  · intro h
    induction h with
    | base h1 h2 => exact ⟨h1, h2⟩
    | step h1 h2 h3 h4 ih =>
      rename_i a b
      have ha : a = 0 ∨ a = 1 := by have := ih.1; omega
      rcases ha with rfl | rfl <;> simp [nfA] at h3
  · rintro ⟨h1, h2⟩
    exact .base h1 h2
open Classical in
theorem closedA (l : List Int) : closed nfA l = ((List.range 2).filter fun i : Nat => decide ((i : Int) ∈ l)).map Int.ofNat := by
  unfold closed
  show ((List.range 2).filter _).map _ = _
  congr 1
  refine List.filter_congr fun i hi => ?_
  rw [decide_eq_decide, reachA]
  exact ⟨fun h => h.2, fun h => ⟨List.mem_range.1 hi, h⟩⟩
theorem cA1 : closed nfA [1] = [1] := by rw [closedA]; rfl
theorem cA0 : closed nfA [0] = [0] := by rw [closedA]; rfl
theorem cAn : closed nfA [] = [] := by rw [closedA]; rfl
theorem sA1 : stepped nfA [1] 0 = [] := by
  unfold stepped
  rw [show stepTo nfA [1] 0 = [] from by kernel_rfl, cAn]
theorem sA2 : stepped nfA [1] 97 = [0] := by
  unfold stepped
  rw [show stepTo nfA [1] 97 = [0] from by kernel_rfl, cA0]
theorem sA3 (b : Int) : stepped nfA [] b = [] := by
  unfold stepped
  rw [show stepTo nfA [] b = [] from rfl, cAn]
theorem sA4 : stepped nfA [0] 0 = [] := by
  unfold stepped
  rw [show stepTo nfA [0] 0 = [] from by kernel_rfl, cAn]
theorem sA5 : stepped nfA [0] 97 = [] := by
  unfold stepped
  rw [show stepTo nfA [0] 97 = [] from by kernel_rfl, cAn]
theorem rowA1 : rowTo nfA [0, 97] [[1]] [1] 2 = ([[1], [], [0]], [1, 2]) := by
  show rowOne nfA [1] (rowOne nfA [1] ([[1]], []) 0) 97 = _
  unfold rowOne
  rw [sA1, sA2]
  rfl
theorem rowA2 : rowTo nfA [0, 97] [[1], [], [0]] [] 2 = ([[1], [], [0]], [1, 1]) := by
  show rowOne nfA [] (rowOne nfA [] ([[1], [], [0]], []) 0) 97 = _
  unfold rowOne
  rw [sA3, sA3]
  rfl
theorem rowA3 : rowTo nfA [0, 97] [[1], [], [0]] [0] 2 = ([[1], [], [0]], [1, 1]) := by
  show rowOne nfA [0] (rowOne nfA [0] ([[1], [], [0]], []) 0) 97 = _
  unfold rowOne
  rw [sA4, sA5]
  rfl
theorem bfsA1 : bfs nfA [0, 97] 1 = ⟨[[1], [], [0]], [[1, 2]], [false]⟩ := by
  show roundB nfA [0, 97] ⟨[closed nfA [1]], [], []⟩ 0 = _
  rw [cA1]
  show Bf.mk (rowTo nfA [0, 97] [[1]] [1] 2).1 ([] ++ [(rowTo nfA [0, 97] [[1]] [1] 2).2]) _ = _
  rw [rowA1]
  rfl
theorem bfsA2 : bfs nfA [0, 97] 2 = ⟨[[1], [], [0]], [[1, 2], [1, 1]], [false, false]⟩ := by
  show roundB nfA [0, 97] (bfs nfA [0, 97] 1) 1 = _
  rw [bfsA1]
  show Bf.mk (rowTo nfA [0, 97] [[1], [], [0]] [] 2).1 ([[1, 2]] ++ [(rowTo nfA [0, 97] [[1], [], [0]] [] 2).2]) _ = _
  rw [rowA2]
  rfl
theorem bfsA3 : bfs nfA [0, 97] 3 = ⟨[[1], [], [0]], [[1, 2], [1, 1], [1, 1]], [false, false, true]⟩ := by
  show roundB nfA [0, 97] (bfs nfA [0, 97] 2) 2 = _
  rw [bfsA2]
  show Bf.mk (rowTo nfA [0, 97] [[1], [], [0]] [0] 2).1 ([[1, 2], [1, 1]] ++ [(rowTo nfA [0, 97] [[1], [], [0]] [0] 2).2]) _ = _
  rw [rowA3]
  rfl
theorem mayA : mayN nfA = true := by kernel_rfl
theorem makeA3 : ∃ d, makeN nfA 3 = (d, 0) ∧ d.next.length = 3 := by
  unfold makeN
  rw [if_pos mayA, firstsA, show (max (3 : Int) 0).toNat = 3 from rfl, bfsA3]
  exact ⟨_, rfl, rfl⟩
theorem makeA2 : makeN nfA 2 = (zeroD, 7) := by
  unfold makeN
  rw [if_pos mayA, firstsA, show (max (2 : Int) 0).toNat = 2 from rfl, bfsA2]
  rfl
theorem begun10_walk {w0 : World} {es : List Ent} : ACalls Tryd.prog w0 46 [] es fun v es' => v = .bool true ∧ es' = es := by
  obtain ⟨dA, hdA, hlA⟩ := makeA3
  refine calls0 (N := 37) Tryd.func46 rfl rfl ?_
  refine w_seq ?_
  refine w_region ?_
  refine l_cons rfl (p_assign ?_)
  refine l_nil ?_
  refine k_seq_normal ?_
  refine w_seq ?_
  refine w_region ?_
  refine l_cons rfl (p_buildSlice sl_22 ze_5 fun s8 => ?_)
  refine l_cons rfl (p_convBytes sl_22 in_5 ?_)
  refine l_cons rfl (p_callr en_68 (of_a) ?_)
  refine l_cons rfl (p_callr en_67 (bytes_a) ?_)
  refine l_cons rfl (p_callr en_27 (build_leaf) ?_)
  refine l_cons rfl (p_move ?_)
  refine l_cons rfl (p_extract ?_ (hl := Nat.le_of_ble_eq_true rfl))
  refine l_cons rfl (p_extract ?_ (hl := Nat.le_of_ble_eq_true rfl))
  refine l_cons rfl (p_alloc ze_36 fun s1 => ?_)
  refine l_cons rfl (p_store ty_36 ?_)
  refine l_cons rfl (p_assign ?_)
  refine l_nil ?_
  refine k_seq_normal ?_
  refine w_seq ?_
  refine w_region ?_
  refine l_cons rfl (p_loadp ty_36 ?_)
  refine l_cons rfl (p_callr en_47 (make_eq nfA 3 hsA (by decide) hdA) ?_)
  refine l_cons rfl (p_move ?_)
  refine l_cons rfl (p_extract ?_ (hl := Nat.le_of_ble_eq_true rfl))
  refine l_cons rfl (p_extract ?_ (hl := Nat.le_of_ble_eq_true rfl))
  refine l_cons rfl (p_alloc ze_d fun s3 => ?_)
  rw [dRow_len]
  refine l_cons rfl (p_store ty_62 (r' := dA.cells) ?_ (hl := by rw [dRow_len]; exact Nat.le_refl _) (hn := dc_len _) (hr' := dc_put _))
  refine l_cons rfl (p_assign ?_)
  refine l_nil ?_
  refine k_seq_normal ?_
  refine w_seq ?_
  refine w_region ?_
  refine l_cons rfl (p_loadp ty_36 ?_)
  refine l_cons rfl (p_callr en_47 (make_eq nfA 2 hsA (by decide) makeA2) ?_)
  refine l_cons rfl (p_move ?_)
  refine l_cons rfl (p_extract ?_ (hl := Nat.le_of_ble_eq_true rfl))
  refine l_cons rfl (p_extract ?_ (hl := Nat.le_of_ble_eq_true rfl))
  refine l_cons rfl (p_alloc ze_d fun s5 => ?_)
  rw [dRow_len]
  refine l_cons rfl (p_store ty_62 (r' := zeroD.cells) ?_ (hl := by rw [dRow_len]; exact Nat.le_refl _) (hn := dc_len _) (hr' := dc_put _))
  refine l_cons rfl (p_assign ?_)
  refine l_nil ?_
  refine k_seq_normal ?_
  refine w_seq ?_
  refine w_region ?_
  refine l_cons rfl (p_move ?_)
  refine l_cons rfl (p_cmpl true ?_)
  refine l_cons rfl (p_move ?_)
  refine g_y rfl rfl (p_fap fa_62_1 ?_)
  refine g_y rfl rfl (p_loadp ty_59 (a := .list 1 (dA.next.map fun r => [ints r])) ?_ (hl := by rw [dc_len]; omega) (ha := dc_256 _))
  refine g_y rfl rfl (p_lenl sl_59 (a := .int .i64 3) ?_ (ha := by rw [List.length_map, hlA]; rfl))
  refine g_y rfl rfl (p_cmpl true ?_)
  refine l_cons rfl (p_pickt rfl ?_)
  refine l_cons rfl (p_move ?_)
  refine g_y rfl rfl (p_move ?_)
  refine g_y rfl rfl (p_cmpl true ?_)
  refine l_cons rfl (p_pickt rfl ?_)
  refine l_cons rfl (p_assign ?_)
  refine l_nil ?_
  refine k_seq_normal ?_
  refine w_ret ?_
  exact ret1 rfl (by simp only [ev_tmp, ev_const, ev_func, ofConst_int, ofConst_bool, ofConst_str, ofConst_nil, upd_apply, Nat.reduceEqDiff, ↓reduceIte] <;> exact rfl) (by first | exact Sub.refl _ | exact sub1 _ _ | exact sub2 _ _ _ | exact sub3 _ _ _ _ | exact sub4 _ _ _ _ _ | exact sub5 _ _ _ _ _ _) ⟨rfl, rfl⟩
end Go.Proofs.YtfdgbghlanbddaaDoor.Av
set_option linter.unusedVariables false
set_option linter.unusedSimpArgs false
namespace Go.Proofs.YtfdgbghlanbddaaDoor.Av
/-! ### the sets of the states -/
def setsOk (ns : List St) : Prop := ∀ s ∈ ns, s.set.ok
theorem setsOk.app {a b : List St} (h : setsOk a) (g : setsOk b) : setsOk (a ++ b) := fun s hs => (List.mem_append.1 hs).elim (h s) (g s)
theorem sets_stF (l : List Int) : setsOk [stF l] := fun s hs => by
  simp only [List.mem_cons, List.not_mem_nil, or_false] at hs
  subst hs
  exact noSet_ok
theorem sets_st0 : setsOk [st0] := sets_stF []
theorem sets_st00 : setsOk [st0, st0] := sets_st0.app sets_st0
theorem setsOk.free {ns : List St} (h : setsOk ns) (i j : Nat) : setsOk (bFree ns i j) := by
  unfold bFree
  split
  · rename_i s hs
    intro x hx
    rcases List.mem_or_eq_of_mem_set hx with hx | hx
    · exact h x hx
    · subst hx
      exact h s (List.mem_of_getElem? hs)
  · exact h
mutual
theorem sets_part : ∀ (r : Rx) (ns : List St), r.ok → setsOk ns → setsOk (bPart r ns).1
  | .mk k s l, ns, h, g => by
    have hs : s.ok := h.2.1
    have hl : Rx.oks l := h.2.2
    rw [bPart]
    split
    · refine g.app (sets_st0.app (b := [_]) fun x hx => ?_)
      simp only [List.mem_cons, List.not_mem_nil, or_false] at hx
      subst hx
      exact hs
    · split
      · exact sets_cat l ns hl g
      · split
        · exact sets_alt l _ none _ hl (g.app sets_st0)
        · split
          · exact sets_star l ns hl g
          · split
            · exact (g.app sets_st00).free _ _
            · exact g.app sets_st00
theorem sets_star : ∀ (l : List Rx) (ns : List St), Rx.oks l → setsOk ns → setsOk (bStar l ns).1
  | [], ns, _, g => by rw [bStar]; exact g
  | a :: t, ns, h, g => by
    rw [bStar]
    exact (((sets_part a _ h.1 (g.app sets_st00)).free _ _).free _ _).free _ _
theorem sets_cat : ∀ (l : List Rx) (ns : List St), Rx.oks l → setsOk ns → setsOk (bCat l ns).1
  | [], ns, _, g => by rw [bCat]; exact g
  | a :: t, ns, h, g => by
    rw [bCat]
    exact sets_catGo t _ _ _ h.2 (sets_part a _ h.1 g)
theorem sets_catGo : ∀ (l : List Rx) (ns : List St) (f t : Nat), Rx.oks l → setsOk ns → setsOk (bCatGo l ns f t).1
  | [], ns, _, _, _, g => by rw [bCatGo]; exact g
  | a :: r, ns, f, t, h, g => by
    rw [bCatGo]
    exact sets_catGo r _ _ _ h.2 ((sets_part a _ h.1 g).free _ _)
theorem sets_alt : ∀ (l : List Rx) (ns : List St) (fl : Option (Nat × Nat)) (t : Nat), Rx.oks l → setsOk ns → setsOk (bAltGo l ns fl t).1
  | [], ns, _, _, _, g => by rw [bAltGo]; exact g
  | a :: r, ns, none, t, h, g => by
    rw [bAltGo]
    exact sets_alt r _ _ _ h.2 (((sets_part a _ h.1 g).free _ _).app (sets_stF _))
  | a :: r, ns, some (f, l), t, h, g => by
    rw [bAltGo]
    exact sets_alt r _ _ _ h.2 ((((sets_part a _ h.1 g).free _ _).app (sets_stF _)).free _ _)
end
end Go.Proofs.YtfdgbghlanbddaaDoor.Av
set_option linter.unusedVariables false
set_option linter.unusedSimpArgs false
set_option maxRecDepth 8000
namespace Go.Proofs.YtfdgbghlanbddaaDoor.Av
open Go.RowKit Go.Proofs
theorem eq_self (m : Int) : cmpI .eql m m = some true := by simp [cmpI]
theorem eqa_self (p : Nat → Int) : ((byteT p).map valOf == (byteT p).map valOf) = true := by simp
theorem rem5 {x : Int} (h : 0 ≤ x) : arithI .rem .u8 x 5 = some (x % 5) := by
  unfold arithI
  simp only
  rw [if_neg (by decide)]
  rw [Int.tmod_eq_emod_of_nonneg h]
theorem light_len {n : Nf} (h : lightN n 12 = true) : n.st.length ≤ 12 := by
  unfold lightN at h
  simp only [Bool.and_eq_true, decide_eq_true_eq] at h
  omega
theorem make_bounds {n : Nf} {mx : Int} {d : Df} {e : Int} (h : makeN n mx = (d, e)) (hM : mx ≤ 100000) : d.next.length ≤ 100000 ∧ d.ends.length ≤ 100000 ∧ ∀ r ∈ d.next, r.length ≤ 256 := by
  unfold makeN at h
  split at h
  · split at h
    · injection h with h _
      subst h
      simp [zeroD]
    · rename_i hl
      injection h with h _
      have hl2 : (bfs n n.firsts (max mx 0).toNat).sets.length ≤ (max mx 0).toNat := by omega
      obtain ⟨h1, h2⟩ := subD_len hl2
      have hd : d = subD n (max mx 0).toNat := h.symm
      rw [hd]
      refine ⟨by omega, by omega, fun r hr => ?_⟩
      rw [(subD_row hl2 hr).1]
      exact n.firsts_le
  · injection h with h _
    subst h
    simp [zeroD]
theorem make_may {n : Nf} {mx : Int} {d : Df} (h : makeN n mx = (d, 0)) (hM : mx ≤ 2000) : (∀ i, i < 256 → d.cls i < 256) ∧ d.may = true := by
  obtain ⟨h1, h2, rfl⟩ := makeN_ok h
  refine ⟨fun i hi => ?_, subD_may h2 (by omega)⟩
  have := cls_lt' n.al hi
  have h3 := repsTo_len n.al 256
  show clsOf n.al i < 256
  omega
theorem make_short {n : Nf} {mx : Int} {d : Df} (h : makeN n mx = (d, 0)) : (d.next.length : Int) ≤ max mx 0 := by
  obtain ⟨h1, h2, rfl⟩ := makeN_ok h
  obtain ⟨h3, _⟩ := subD_len h2
  omega
theorem make_plus {n : Nf} {mx : Int} {d : Df} (h : makeN n mx = (d, 0)) {b : Int} (hb : 0 ≤ b) : makeN n ((d.next.length : Int) + b) = (d, 0) := by
  obtain ⟨h1, h2, rfl⟩ := makeN_ok h
  obtain ⟨h3, _⟩ := subD_len h2
  exact make_more h1 h2 (by omega)
theorem make_minus {n : Nf} {mx : Int} {d : Df} (h : makeN n mx = (d, 0)) : makeN n ((d.next.length : Int) - 1) = (zeroD, 7) := by
  obtain ⟨h1, h2, rfl⟩ := makeN_ok h
  obtain ⟨h3, _⟩ := subD_len h2
  exact make_less h1 h2 (by omega)
theorem subsetAll_walk {w0 : World} (n : Nf) (hs : ∀ s ∈ n.sets, s.ok) (mx : Int) : ACalls Tryd.prog w0 9 [n.av, .int .i64 mx] [] fun v es' => v = .bool true := by
  unfold Nf.av
  refine calls2 (N := 62) Tryd.func9 rfl rfl (by decide) ?_
  refine w_seq ?_
  refine w_region ?_
  refine l_cons rfl (p_box fun s2 => ?_)
  refine l_cons rfl (p_assign ?_)
  refine l_nil ?_
  refine k_seq_normal ?_
  refine w_seq ?_
  refine w_seq ?_
  refine w_region ?_
  refine l_cons rfl (p_callr en_46 (begun10_walk) ?_)
  refine l_cons rfl (p_not ?_)
  refine l_nil ?_
  refine k_seq_normal ?_
  refine w_f rfl ?_
  refine w_skip ?_
  refine k_seq_normal ?_
  refine w_seq ?_
  refine w_seq ?_
  refine w_region ?_
  refine l_cons rfl (p_loadp ty_36 ?_)
  refine l_cons rfl (p_callr en_36 (light_walk n 12) ?_)
  refine l_cons rfl (p_not ?_)
  refine l_cons rfl (p_move ?_)
  refine g_b rfl (fun h1 => ?_) (fun h1 => ?_)
  · skip
    have h1' := h1; (try simp only [decide_eq_true_eq, decide_eq_false_iff_not, Bool.not_eq_true', Bool.not_false, Bool.not_true, Bool.not_eq_false'] at h1')
    refine (p_move ?_)
    refine g_y rfl h1 (p_cmp ?_)
    refine l_cons rfl (p_pickf h1 ?_)
    refine l_nil ?_
    refine k_seq_normal ?_
    refine w_b (fun h2 => ?_) (fun h2 => ?_)
    · skip
      have h2' := h2; (try simp only [decide_eq_true_eq, decide_eq_false_iff_not, Bool.not_eq_true', Bool.not_false, Bool.not_true, Bool.not_eq_false'] at h2')
      refine w_seq ?_
      refine w_region ?_
      refine l_cons rfl (p_assign ?_)
      refine l_nil ?_
      refine k_seq_normal ?_
      refine w_ret ?_
      refine k_seq_ret ?_
      exact ret1 rfl (by simp only [ev_tmp, ev_const, ev_func, ofConst_int, ofConst_bool, ofConst_str, ofConst_nil, upd_apply, Nat.reduceEqDiff, ↓reduceIte] <;> exact rfl) (sub_of (es := []) fun _ h => absurd h (Nat.not_lt_zero _)) (by first | rfl | (simp_all; done))
    · skip
      have h2' := h2; (try simp only [decide_eq_true_eq, decide_eq_false_iff_not, Bool.not_eq_true', Bool.not_false, Bool.not_true, Bool.not_eq_false'] at h2')
      refine w_skip ?_
      refine k_seq_normal ?_
      refine w_seq ?_
      obtain ⟨d, e, hde⟩ : ∃ d e, makeN n mx = (d, e) := ⟨_, _, rfl⟩
      obtain ⟨hb1, hb2, hb3⟩ := make_bounds hde (by omega)
      refine w_region ?_
      refine l_cons rfl (p_loadp ty_36 ?_)
      refine l_cons rfl (p_move ?_)
      refine l_cons rfl (p_callr en_47 (make_eq n mx hs (by omega) hde) ?_)
      refine l_cons rfl (p_move ?_)
      refine l_cons rfl (p_extract ?_ (hl := Nat.le_of_ble_eq_true rfl))
      refine l_cons rfl (p_extract ?_ (hl := Nat.le_of_ble_eq_true rfl))
      refine l_cons rfl (p_alloc ze_d fun s5 => ?_)
      rw [dRow_len]
      refine l_cons rfl (p_store ty_62 (r' := d.cells) ?_ (hl := by rw [dRow_len]; exact Nat.le_refl _) (hn := dc_len _) (hr' := dc_put _))
      refine l_cons rfl (p_assign ?_)
      refine l_nil ?_
      refine k_seq_normal ?_
      refine w_seq ?_
      refine w_region ?_
      refine l_cons rfl (p_loadp ty_36 ?_)
      refine l_cons rfl (p_move ?_)
      refine l_cons rfl (p_callr en_48 (ref_eq n mx hs (by omega) hde) ?_)
      refine l_cons rfl (p_move ?_)
      refine l_cons rfl (p_extract ?_ (hl := Nat.le_of_ble_eq_true rfl))
      refine l_cons rfl (p_extract ?_ (hl := Nat.le_of_ble_eq_true rfl))
      refine l_cons rfl (p_alloc ze_d fun s7 => ?_)
      rw [dRow_len]
      refine l_cons rfl (p_store ty_62 (r' := d.cells) ?_ (hl := by rw [dRow_len]; exact Nat.le_refl _) (hn := dc_len _) (hr' := dc_put _))
      refine l_cons rfl (p_assign ?_)
      refine l_nil ?_
      refine k_seq_normal ?_
      refine w_seq ?_
      refine w_region ?_
      refine l_cons rfl (p_loadp ty_36 ?_)
      refine l_cons rfl (p_callr en_49 (subClasses n hs (by have := light_len (show lightN n 12 = true by simp_all); omega)) ?_)
      refine l_cons rfl (p_move ?_)
      refine l_cons rfl (p_extract ?_ (hl := Nat.le_of_ble_eq_true rfl))
      refine l_cons rfl (p_extract ?_ (hl := Nat.le_of_ble_eq_true rfl))
      refine l_cons rfl (p_alloc ze_58 fun s9 => ?_)
      rw [List.length_replicate]
      refine l_cons rfl (p_store ty_58 (r' := (byteT fun i => (clsOf n.al i : Int))) ?_ (hl := by rw [List.length_replicate]; exact Nat.le_refl _) (hn := byteT_len _) (hr' := byte_put (List.length_replicate ..)))
      refine l_cons rfl (p_assign ?_)
      refine l_nil ?_
      refine k_seq_normal ?_
      refine w_seq ?_
      refine w_region ?_
      refine l_cons rfl (p_loadp ty_36 ?_)
      refine l_cons rfl (p_callr en_50 (refClassesN n hs (by have := light_len (show lightN n 12 = true by simp_all); omega)) ?_)
      refine l_cons rfl (p_move ?_)
      refine l_cons rfl (p_extract ?_ (hl := Nat.le_of_ble_eq_true rfl))
      refine l_cons rfl (p_extract ?_ (hl := Nat.le_of_ble_eq_true rfl))
      refine l_cons rfl (p_alloc ze_58 fun s11 => ?_)
      rw [List.length_replicate]
      refine l_cons rfl (p_store ty_58 (r' := (byteT fun i => (clsOf n.al i : Int))) ?_ (hl := by rw [List.length_replicate]; exact Nat.le_refl _) (hn := byteT_len _) (hr' := byte_put (List.length_replicate ..)))
      refine l_cons rfl (p_assign ?_)
      refine l_nil ?_
      refine k_seq_normal ?_
      refine w_seq ?_
      refine w_region ?_
      refine l_cons rfl (p_move ?_)
      refine l_cons rfl (p_move ?_)
      refine l_cons rfl (p_cmp (b := true) ?_ (hb := eq_self _))
      refine l_cons rfl (p_move ?_)
      refine g_y rfl rfl (p_loadp ty_62 (a := .agg d.cells) ?_ (hl := by rw [dc_len]; exact Nat.le_refl _) (ha := dc_all _))
      refine g_y rfl rfl (p_loadp ty_62 (a := .agg d.cells) ?_ (hl := by rw [dc_len]; exact Nat.le_refl _) (ha := dc_all _))
      refine g_y rfl rfl (p_callr en_51 (dsame_walk d (by omega) (by omega) (fun r hr => by have := hb3 r hr; omega)) ?_)
      refine l_cons rfl (p_pickt rfl ?_)
      refine l_cons rfl (p_move ?_)
      refine g_y rfl rfl (p_loadp ty_58 (a := .agg (byteT fun i => (clsOf n.al i : Int))) ?_ (hl := by simp only [byteT_len]; omega) (ha := byteT_all _))
      refine g_y rfl rfl (p_loadp ty_58 (a := .agg (byteT fun i => (clsOf n.al i : Int))) ?_ (hl := by simp only [byteT_len]; omega) (ha := byteT_all _))
      refine g_y rfl rfl (p_eqa ai_58 (b := true) ?_ (hb := eqa_self _))
      refine l_cons rfl (p_pickt rfl ?_)
      refine l_cons rfl (p_move ?_)
      refine g_y rfl rfl (p_move ?_)
      refine g_y rfl rfl (p_move ?_)
      refine g_y rfl rfl (p_cmp (b := true) ?_ (hb := eq_self _))
      refine l_cons rfl (p_pickt rfl ?_)
      refine l_cons rfl (p_assign ?_)
      refine l_nil ?_
      refine k_seq_normal ?_
      refine w_ret ?_
      exact ret1 rfl (by simp only [ev_tmp, ev_const, ev_func, ofConst_int, ofConst_bool, ofConst_str, ofConst_nil, upd_apply, Nat.reduceEqDiff, ↓reduceIte] <;> exact rfl) (sub_of (es := []) fun _ h => absurd h (Nat.not_lt_zero _)) (by first | rfl | (simp_all; done))
  · skip
    have h1' := h1; (try simp only [decide_eq_true_eq, decide_eq_false_iff_not, Bool.not_eq_true', Bool.not_false, Bool.not_true, Bool.not_eq_false'] at h1')
    refine g_n rfl h1 ?_
    refine l_cons rfl (p_pickt h1 ?_)
    refine l_nil ?_
    refine k_seq_normal ?_
    refine w_t rfl ?_
    refine w_seq ?_
    refine w_region ?_
    refine l_cons rfl (p_assign ?_)
    refine l_nil ?_
    refine k_seq_normal ?_
    refine w_ret ?_
    refine k_seq_ret ?_
    exact ret1 rfl (by simp only [ev_tmp, ev_const, ev_func, ofConst_int, ofConst_bool, ofConst_str, ofConst_nil, upd_apply, Nat.reduceEqDiff, ↓reduceIte] <;> exact rfl) (sub_of (es := []) fun _ h => absurd h (Nat.not_lt_zero _)) (by first | rfl | (simp_all; done))
theorem subsetRuns_walk {w0 : World} (n : Nf) (hs : ∀ s ∈ n.sets, s.ok) (w : List Int) (hw : ∀ b ∈ w, 0 ≤ b ∧ b < 256) : ACalls Tryd.prog w0 11 [n.av, bytesAV w] [] fun v es' => v = .bool true := by
  unfold Nf.av bytesAV
  have hok := n.wds hs
  refine calls2 (N := 46) Tryd.func11 rfl rfl (by decide) ?_
  refine w_seq ?_
  refine w_region ?_
  refine l_cons rfl (p_box fun s2 => ?_)
  refine l_cons rfl (p_assign ?_)
  refine l_nil ?_
  refine k_seq_normal ?_
  refine w_seq ?_
  refine w_seq ?_
  refine w_region ?_
  refine l_cons rfl (p_callr en_46 (begun10_walk) ?_)
  refine l_cons rfl (p_not ?_)
  refine l_nil ?_
  refine k_seq_normal ?_
  refine w_f rfl ?_
  refine w_skip ?_
  refine k_seq_normal ?_
  refine w_seq ?_
  refine w_seq ?_
  refine w_region ?_
  refine l_cons rfl (p_loadp ty_36 ?_)
  refine l_cons rfl (p_callr en_36 (light_walk n 12) ?_)
  refine l_cons rfl (p_not ?_)
  refine l_cons rfl (p_move ?_)
  refine g_b rfl (fun h1 => ?_) (fun h1 => ?_)
  · skip
    have h1' := h1; (try simp only [decide_eq_true_eq, decide_eq_false_iff_not, Bool.not_eq_true', Bool.not_false, Bool.not_true, Bool.not_eq_false'] at h1')
    refine (p_move ?_)
    refine g_y rfl h1 (p_lenl sl_22 ?_)
    refine g_y rfl h1 (p_cmp ?_)
    refine l_cons rfl (p_pickf h1 ?_)
    refine l_nil ?_
    refine k_seq_normal ?_
    refine w_b (fun h2 => ?_) (fun h2 => ?_)
    · skip
      have h2' := h2; (try simp only [decide_eq_true_eq, decide_eq_false_iff_not, Bool.not_eq_true', Bool.not_false, Bool.not_true, Bool.not_eq_false'] at h2')
      refine w_seq ?_
      refine w_region ?_
      refine l_cons rfl (p_assign ?_)
      refine l_nil ?_
      refine k_seq_normal ?_
      refine w_ret ?_
      refine k_seq_ret ?_
      exact ret1 rfl (by simp only [ev_tmp, ev_const, ev_func, ofConst_int, ofConst_bool, ofConst_str, ofConst_nil, upd_apply, Nat.reduceEqDiff, ↓reduceIte] <;> exact rfl) (sub_of (es := []) fun _ h => absurd h (Nat.not_lt_zero _)) (by first | rfl | (simp_all; done))
    · skip
      have h2' := h2; (try simp only [decide_eq_true_eq, decide_eq_false_iff_not, Bool.not_eq_true', Bool.not_false, Bool.not_true, Bool.not_eq_false'] at h2')
      refine w_skip ?_
      refine k_seq_normal ?_
      refine w_seq ?_
      obtain ⟨d, e, hde⟩ : ∃ d e, makeN n 60 = (d, e) := ⟨_, _, rfl⟩
      obtain ⟨hb1, hb2, hb3⟩ := make_bounds hde (by omega)
      refine w_region ?_
      refine l_cons rfl (p_loadp ty_36 ?_)
      refine l_cons rfl (p_callr en_47 (make_eq n 60 hs (by omega) hde) ?_)
      refine l_cons rfl (p_move ?_)
      refine l_cons rfl (p_extract ?_ (hl := Nat.le_of_ble_eq_true rfl))
      refine l_cons rfl (p_extract ?_ (hl := Nat.le_of_ble_eq_true rfl))
      refine l_cons rfl (p_alloc ze_d fun s5 => ?_)
      rw [dRow_len]
      refine l_cons rfl (p_store ty_62 (r' := d.cells) ?_ (hl := by rw [dRow_len]; exact Nat.le_refl _) (hn := dc_len _) (hr' := dc_put _))
      refine l_cons rfl (p_assign ?_)
      refine l_nil ?_
      refine k_seq_normal ?_
      refine w_seq ?_
      refine w_seq ?_
      refine w_region ?_
      refine l_cons rfl (p_move ?_)
      refine l_cons rfl (p_cmp ?_)
      refine l_nil ?_
      refine k_seq_normal ?_
      refine w_b (fun h3 => ?_) (fun h3 => ?_)
      · skip
        have h3' := h3; (try simp only [decide_eq_true_eq, decide_eq_false_iff_not, Bool.not_eq_true', Bool.not_false, Bool.not_true, Bool.not_eq_false'] at h3')
        refine w_seq ?_
        have herr := makeN_err (n := n) (most := 60) (by rw [hde]; simpa using h3')
        rw [hde] at herr
        refine w_region ?_
        refine l_cons rfl (p_move ?_)
        refine l_cons rfl (p_cmp ?_)
        refine l_cons rfl (p_move ?_)
        refine g_b rfl (fun h4 => ?_) (fun h4 => ?_)
        · skip
          have h4' := h4; (try simp only [decide_eq_true_eq, decide_eq_false_iff_not, Bool.not_eq_true', Bool.not_false, Bool.not_true, Bool.not_eq_false'] at h4')
          refine (p_move ?_)
          refine g_y rfl h4 (p_cmp ?_)
          refine g_y rfl h4 (p_move ?_)
          refine g_b rfl (fun h5 => ?_) (fun h5 => ?_)
          · skip
            have h5' := h5; (try simp only [decide_eq_true_eq, decide_eq_false_iff_not, Bool.not_eq_true', Bool.not_false, Bool.not_true, Bool.not_eq_false'] at h5')
            refine (p_loadp ty_36 ?_)
            refine g_y rfl h5 (p_callr en_42 (refMay n) ?_)
            refine g_y rfl h5 (p_not ?_)
            refine g_y rfl h4 (p_pickt h5 ?_)
            refine l_cons rfl (p_pickf h4 ?_)
            refine l_cons rfl (p_assign ?_)
            refine l_nil ?_
            refine k_seq_normal ?_
            refine w_ret ?_
            refine k_seq_ret ?_
            exact ret1 rfl (by simp only [ev_tmp, ev_const, ev_func, ofConst_int, ofConst_bool, ofConst_str, ofConst_nil, upd_apply, Nat.reduceEqDiff, ↓reduceIte] <;> exact rfl) (sub_of (es := []) fun _ h => absurd h (Nat.not_lt_zero _)) (by rcases herr with h | ⟨h1, h2⟩ <;> simp_all)
          · skip
            have h5' := h5; (try simp only [decide_eq_true_eq, decide_eq_false_iff_not, Bool.not_eq_true', Bool.not_false, Bool.not_true, Bool.not_eq_false'] at h5')
            refine g_n rfl h5 ?_
            refine g_n rfl h5 ?_
            refine g_y rfl h4 (p_pickf h5 ?_)
            refine l_cons rfl (p_pickf h4 ?_)
            refine l_cons rfl (p_assign ?_)
            refine l_nil ?_
            refine k_seq_normal ?_
            refine w_ret ?_
            refine k_seq_ret ?_
            exact ret1 rfl (by simp only [ev_tmp, ev_const, ev_func, ofConst_int, ofConst_bool, ofConst_str, ofConst_nil, upd_apply, Nat.reduceEqDiff, ↓reduceIte] <;> exact rfl) (sub_of (es := []) fun _ h => absurd h (Nat.not_lt_zero _)) (by rcases herr with h | ⟨h1, h2⟩ <;> simp_all)
        · skip
          have h4' := h4; (try simp only [decide_eq_true_eq, decide_eq_false_iff_not, Bool.not_eq_true', Bool.not_false, Bool.not_true, Bool.not_eq_false'] at h4')
          refine g_n rfl h4 ?_
          refine g_n rfl h4 ?_
          refine g_u rfl ?_
          refine g_u rfl ?_
          refine g_u rfl ?_
          refine g_n rfl h4 ?_
          refine l_cons rfl (p_pickt h4 ?_)
          refine l_cons rfl (p_assign ?_)
          refine l_nil ?_
          refine k_seq_normal ?_
          refine w_ret ?_
          refine k_seq_ret ?_
          exact ret1 rfl (by simp only [ev_tmp, ev_const, ev_func, ofConst_int, ofConst_bool, ofConst_str, ofConst_nil, upd_apply, Nat.reduceEqDiff, ↓reduceIte] <;> exact rfl) (sub_of (es := []) fun _ h => absurd h (Nat.not_lt_zero _)) (by rcases herr with h | ⟨h1, h2⟩ <;> simp_all)
      · skip
        have h3' := h3; (try simp only [decide_eq_true_eq, decide_eq_false_iff_not, Bool.not_eq_true', Bool.not_false, Bool.not_true, Bool.not_eq_false'] at h3')
        refine w_skip ?_
        refine k_seq_normal ?_
        refine w_seq ?_
        obtain rfl : e = 0 := by simpa using h3'
        obtain ⟨hmn, hlen, hdd⟩ := makeN_ok hde
        obtain ⟨hcl, hdm⟩ := make_may hde (by omega)
        have hrun : d.run w = runN n w := by rw [hdd]; exact subD_run hlen (by omega) hmn w hw
        refine w_drawn 8 [] (fun e => e = _) mixed (by kernel_rfl) rfl ?_
        refine q1 5 (hg := rfl) (hu := rfl) (h := by rintro f _ rfl; exact p_loadp ty_62 (a := .agg d.cells) ⟨rfl, rfl⟩ (hl := by rw [dc_len]; exact Nat.le_refl _) (ha := dc_all _)) (k := ?_)
        refine q1 35 (hg := rfl) (hu := rfl) (h := by rintro f _ rfl; exact p_callr en_52 (dmay_true d hcl hdm) ⟨rfl, rfl⟩) (k := ?_)
        refine q1 36 (hg := rfl) (hu := rfl) (h := by rintro f _ rfl; exact p_move ⟨rfl, rfl⟩) (k := ?_)
        refine qy1 5 (hg := rfl) (hw := rfl) (hu := rfl) (h := by rintro f _ rfl; exact p_loadp ty_62 (a := .agg d.cells) ⟨rfl, rfl⟩ (hl := by rw [dc_len]; exact Nat.le_refl _) (ha := dc_all _)) (k := ?_)
        refine qy1 1 (hg := rfl) (hw := rfl) (hu := rfl) (h := by rintro f _ rfl; exact p_move ⟨rfl, rfl⟩) (k := ?_)
        refine qy2 38 39 (hg := rfl) (hw := rfl) (hu := rfl) (h := by rintro f _ rfl; exact p_callr en_53 (drun_walk d hcl hdm w hw) ⟨rfl, rfl⟩) (k := ?_)
        refine qy1 2 (hg := rfl) (hw := rfl) (hu := rfl) (h := by rintro f _ rfl; exact p_loadp ty_36 ⟨rfl, rfl⟩) (k := ?_)
        refine qy1 1 (hg := rfl) (hw := rfl) (hu := rfl) (h := by rintro f _ rfl; exact p_move ⟨rfl, rfl⟩) (k := ?_)
        refine q_end ?_
        refine m_end ?_
        refine g_y rfl rfl (p_callr en_33 (refRun n hok w hw) ?_)
        refine g_y rfl rfl (p_eqb ub_4 (b := true) ?_ (hb := by rw [hrun]; exact beq_self_eq_true _))
        refine l_cons rfl (p_pickt rfl ?_)
        refine l_cons rfl (p_assign ?_)
        refine l_nil ?_
        refine k_seq_normal ?_
        refine w_ret ?_
        exact ret1 rfl (by simp only [ev_tmp, ev_const, ev_func, ofConst_int, ofConst_bool, ofConst_str, ofConst_nil, upd_apply, Nat.reduceEqDiff, ↓reduceIte] <;> exact rfl) (sub_of (es := []) fun _ h => absurd h (Nat.not_lt_zero _)) (by first | rfl | (simp_all; done))
  · skip
    have h1' := h1; (try simp only [decide_eq_true_eq, decide_eq_false_iff_not, Bool.not_eq_true', Bool.not_false, Bool.not_true, Bool.not_eq_false'] at h1')
    refine g_n rfl h1 ?_
    refine g_n rfl h1 ?_
    refine l_cons rfl (p_pickt h1 ?_)
    refine l_nil ?_
    refine k_seq_normal ?_
    refine w_t rfl ?_
    refine w_seq ?_
    refine w_region ?_
    refine l_cons rfl (p_assign ?_)
    refine l_nil ?_
    refine k_seq_normal ?_
    refine w_ret ?_
    refine k_seq_ret ?_
    exact ret1 rfl (by simp only [ev_tmp, ev_const, ev_func, ofConst_int, ofConst_bool, ofConst_str, ofConst_nil, upd_apply, Nat.reduceEqDiff, ↓reduceIte] <;> exact rfl) (sub_of (es := []) fun _ h => absurd h (Nat.not_lt_zero _)) (by first | rfl | (simp_all; done))
theorem subsetBudget_walk {w0 : World} (n : Nf) (hs : ∀ s ∈ n.sets, s.ok) (b : Int) (hb0 : 0 ≤ b) (hb1 : b < 256) : ACalls Tryd.prog w0 12 [n.av, .int .u8 b] [] fun v es' => v = .bool true := by
  unfold Nf.av
  refine calls2 (N := 55) Tryd.func12 rfl rfl (by decide) ?_
  refine w_seq ?_
  refine w_region ?_
  refine l_cons rfl (p_box fun s2 => ?_)
  refine l_cons rfl (p_assign ?_)
  refine l_nil ?_
  refine k_seq_normal ?_
  refine w_seq ?_
  refine w_seq ?_
  refine w_region ?_
  refine l_cons rfl (p_callr en_46 (begun10_walk) ?_)
  refine l_cons rfl (p_not ?_)
  refine l_nil ?_
  refine k_seq_normal ?_
  refine w_f rfl ?_
  refine w_skip ?_
  refine k_seq_normal ?_
  refine w_seq ?_
  refine w_seq ?_
  refine w_region ?_
  refine l_cons rfl (p_loadp ty_36 ?_)
  refine l_cons rfl (p_callr en_36 (light_walk n 12) ?_)
  refine l_cons rfl (p_not ?_)
  refine l_nil ?_
  refine k_seq_normal ?_
  refine w_b (fun h1 => ?_) (fun h1 => ?_)
  · skip
    have h1' := h1; (try simp only [decide_eq_true_eq, decide_eq_false_iff_not, Bool.not_eq_true', Bool.not_false, Bool.not_true, Bool.not_eq_false'] at h1')
    refine w_seq ?_
    refine w_region ?_
    refine l_cons rfl (p_assign ?_)
    refine l_nil ?_
    refine k_seq_normal ?_
    refine w_ret ?_
    refine k_seq_ret ?_
    exact ret1 rfl (by simp only [ev_tmp, ev_const, ev_func, ofConst_int, ofConst_bool, ofConst_str, ofConst_nil, upd_apply, Nat.reduceEqDiff, ↓reduceIte] <;> exact rfl) (sub_of (es := []) fun _ h => absurd h (Nat.not_lt_zero _)) (by first | rfl | (simp_all; done))
  · skip
    have h1' := h1; (try simp only [decide_eq_true_eq, decide_eq_false_iff_not, Bool.not_eq_true', Bool.not_false, Bool.not_true, Bool.not_eq_false'] at h1')
    refine w_skip ?_
    refine k_seq_normal ?_
    refine w_seq ?_
    obtain ⟨d, e, hde⟩ : ∃ d e, makeN n 60 = (d, e) := ⟨_, _, rfl⟩
    obtain ⟨hb1, hb2, hb3⟩ := make_bounds hde (by omega)
    refine w_region ?_
    refine l_cons rfl (p_loadp ty_36 ?_)
    refine l_cons rfl (p_callr en_47 (make_eq n 60 hs (by omega) hde) ?_)
    refine l_cons rfl (p_move ?_)
    refine l_cons rfl (p_extract ?_ (hl := Nat.le_of_ble_eq_true rfl))
    refine l_cons rfl (p_extract ?_ (hl := Nat.le_of_ble_eq_true rfl))
    refine l_cons rfl (p_alloc ze_d fun s5 => ?_)
    rw [dRow_len]
    refine l_cons rfl (p_store ty_62 (r' := d.cells) ?_ (hl := by rw [dRow_len]; exact Nat.le_refl _) (hn := dc_len _) (hr' := dc_put _))
    refine l_cons rfl (p_assign ?_)
    refine l_nil ?_
    refine k_seq_normal ?_
    refine w_seq ?_
    refine w_seq ?_
    refine w_region ?_
    refine l_cons rfl (p_move ?_)
    refine l_cons rfl (p_cmp ?_)
    refine l_nil ?_
    refine k_seq_normal ?_
    refine w_b (fun h2 => ?_) (fun h2 => ?_)
    · skip
      have h2' := h2; (try simp only [decide_eq_true_eq, decide_eq_false_iff_not, Bool.not_eq_true', Bool.not_false, Bool.not_true, Bool.not_eq_false'] at h2')
      refine w_seq ?_
      refine w_region ?_
      refine l_cons rfl (p_assign ?_)
      refine l_nil ?_
      refine k_seq_normal ?_
      refine w_ret ?_
      refine k_seq_ret ?_
      exact ret1 rfl (by simp only [ev_tmp, ev_const, ev_func, ofConst_int, ofConst_bool, ofConst_str, ofConst_nil, upd_apply, Nat.reduceEqDiff, ↓reduceIte] <;> exact rfl) (sub_of (es := []) fun _ h => absurd h (Nat.not_lt_zero _)) (by first | rfl | (simp_all; done))
    · skip
      have h2' := h2; (try simp only [decide_eq_true_eq, decide_eq_false_iff_not, Bool.not_eq_true', Bool.not_false, Bool.not_true, Bool.not_eq_false'] at h2')
      refine w_skip ?_
      refine k_seq_normal ?_
      refine w_seq ?_
      obtain rfl : e = 0 := by simpa using h2'
      have hsh := make_short hde
      have hmore := make_plus hde (b := b % 5) (by omega)
      have hless := make_minus hde
      refine w_region ?_
      refine l_cons rfl (p_fap fa_62_1 ?_)
      refine l_cons rfl (p_loadp ty_59 (a := .list 1 (d.next.map fun r => [ints r])) ?_ (hl := by rw [dc_len]; omega) (ha := dc_256 _))
      refine l_cons rfl (p_lenl sl_59 (a := .int .i64 (d.next.length : Int)) ?_ (ha := by rw [List.length_map]))
      refine l_cons rfl (p_assign ?_)
      refine l_nil ?_
      refine k_seq_normal ?_
      refine w_seq ?_
      refine w_region ?_
      refine l_cons rfl (p_loadp ty_36 ?_)
      refine l_cons rfl (p_move ?_)
      refine l_cons rfl (p_move ?_)
      refine l_cons rfl (p_arith ?_ (hb := rem5 hb0))
      refine l_cons rfl (p_conv in_5 in_3 ?_ (hb := wrap_i64 (n := b % 5) (by omega) (by omega)))
      refine l_cons rfl (p_arith ?_)
      refine l_cons rfl (p_callr en_47 (make_eq n ((d.next.length : Int) + b % 5) hs (by omega) hmore) ?_)
      refine l_cons rfl (p_move ?_)
      refine l_cons rfl (p_extract ?_ (hl := Nat.le_of_ble_eq_true rfl))
      refine l_cons rfl (p_extract ?_ (hl := Nat.le_of_ble_eq_true rfl))
      refine l_cons rfl (p_alloc ze_d fun s8 => ?_)
      rw [dRow_len]
      refine l_cons rfl (p_store ty_62 (r' := d.cells) ?_ (hl := by rw [dRow_len]; exact Nat.le_refl _) (hn := dc_len _) (hr' := dc_put _))
      refine l_cons rfl (p_assign ?_)
      refine l_nil ?_
      refine k_seq_normal ?_
      refine w_seq ?_
      refine w_region ?_
      refine l_cons rfl (p_loadp ty_36 ?_)
      refine l_cons rfl (p_move ?_)
      refine l_cons rfl (p_arith ?_)
      refine l_cons rfl (p_callr en_47 (make_eq n ((d.next.length : Int) - 1) hs (by omega) hless) ?_)
      refine l_cons rfl (p_move ?_)
      refine l_cons rfl (p_extract ?_ (hl := Nat.le_of_ble_eq_true rfl))
      refine l_cons rfl (p_extract ?_ (hl := Nat.le_of_ble_eq_true rfl))
      refine l_cons rfl (p_alloc ze_d fun s10 => ?_)
      rw [dRow_len]
      refine l_cons rfl (p_store ty_62 (r' := zeroD.cells) ?_ (hl := by rw [dRow_len]; exact Nat.le_refl _) (hn := dc_len _) (hr' := dc_put _))
      refine l_cons rfl (p_assign ?_)
      refine l_nil ?_
      refine k_seq_normal ?_
      refine w_seq ?_
      refine w_region ?_
      refine l_cons rfl (p_move ?_)
      refine l_cons rfl (p_cmpl true ?_)
      refine l_cons rfl (p_move ?_)
      refine g_y rfl rfl (p_loadp ty_62 (a := .agg d.cells) ?_ (hl := by rw [dc_len]; exact Nat.le_refl _) (ha := dc_all _))
      refine g_y rfl rfl (p_loadp ty_62 (a := .agg d.cells) ?_ (hl := by rw [dc_len]; exact Nat.le_refl _) (ha := dc_all _))
      refine g_y rfl rfl (p_callr en_51 (dsame_walk d (by omega) (by omega) (fun r hr => by have := hb3 r hr; omega)) ?_)
      refine l_cons rfl (p_pickt rfl ?_)
      refine l_cons rfl (p_move ?_)
      refine g_y rfl rfl (p_move ?_)
      refine g_y rfl rfl (p_cmpl true ?_)
      refine l_cons rfl (p_pickt rfl ?_)
      refine l_cons rfl (p_assign ?_)
      refine l_nil ?_
      refine k_seq_normal ?_
      refine w_ret ?_
      exact ret1 rfl (by simp only [ev_tmp, ev_const, ev_func, ofConst_int, ofConst_bool, ofConst_str, ofConst_nil, upd_apply, Nat.reduceEqDiff, ↓reduceIte] <;> exact rfl) (sub_of (es := []) fun _ h => absurd h (Nat.not_lt_zero _)) (by first | rfl | (simp_all; done))
end Go.Proofs.YtfdgbghlanbddaaDoor.Av
