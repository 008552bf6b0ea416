import Derived.Test.YtfdgbghlanbddaaDoorAvK0
import Derived.Test.YtfdgbghlanbddaaDoorAvK1
import Derived.Test.YtfdgbghlanbddaaDoorAvK2
import Derived.Test.YtfdgbghlanbddaaDoorAvK3
import Derived.Test.YtfdgbghlanbddaaDoorAvK4
import Derived.Test.YtfdgbghlanbddaaDoorAvK5
import Derived.KernelRfl
import Derived.Test.YtfdgbghlanbddaaDoorRows
import Derived.OpenVars
import Derived.Deep.Slices
import Derived.Deep.Strs
import Derived.OpenShut
import Derived.Test.YtfdgbghlanbddaaDoorCards
import Derived.Test.YtfdgbghlanbddaaDoorTie
import Derived.WalkKit
import Derived.ProofKit
import Derived.Carry
import Derived.Deep.DeepHandedRow
import Derived.Lib.LaidTab
set_option linter.unusedVariables false
set_option linter.unusedSimpArgs false
set_option maxRecDepth 8000
namespace Go.Proofs.YtfdgbghlanbddaaDoor.Av
open Go.RowKit Go.Proofs
theorem neq_self (m : Int) : cmpI .neq m m = some false := by simp [cmpI]
theorem bne_self (b : Bool) : (b != b) = false := by simp
variable {d : Df}
theorem row_bool {l : List Bool} {k : Nat} (h : k < l.length) : (l.map fun b => [AV.bool b])[k]? = some [.bool l[k]] := by simp [h]
theorem nea_self (p : Nat → Int) : (!((byteT p).map valOf == (byteT p).map valOf)) = false := by
 simp
theorem dsame_walk {w0 : World} {es : List Ent} (d : Df) (hn : d.next.length ≤ 1000000) (he : d.ends.length ≤ 1000000) (hrl : ∀ r ∈ d.next, r.length ≤ 1000000) : ACalls Tryd.prog w0 51 [.agg d.cells, .agg d.cells] es fun v es' => v = .bool true ∧ es' = es := by
 rw [dRow_cells]
 refine calls2 (N := 96) Tryd.func51 rfl rfl (by decide) ?_
 refine w_seq ?_
 refine w_region ?_
 refine l_cons rfl (p_box fun s2 => ?_)
 rw [dRow_len]
 refine l_cons rfl (p_box fun s3 => ?_)
 rw [dRow_len]
 refine l_cons rfl (p_assign ?_)
 refine l_nil ?_
 refine k_seq_normal ?_
 refine w_seq ?_
 refine w_seq ?_
 refine w_region ?_
 refine l_cons rfl (p_fap fa_62_0 ?_)
 refine l_cons rfl (p_loadp ty_58 (a := .agg (byteT (fun i => (d.cls i : Int)))) ?_ (hl := by rw [dRow_len]; omega) (ha := dRow_cls))
 refine l_cons rfl (p_fap fa_62_0 ?_)
 refine l_cons rfl (p_loadp ty_58 (a := .agg (byteT (fun i => (d.cls i : Int)))) ?_ (hl := by rw [dRow_len]; omega) (ha := dRow_cls))
 refine l_cons rfl (p_nea ai_58 (b := false) ?_ (hb := nea_self _))
 refine l_cons rfl (p_move ?_)
 refine g_y rfl rfl (p_fap fa_62_1 ?_)
 refine g_y rfl rfl (p_loadp ty_59 (a := .list 1 (d.next.map fun r => [ints r])) ?_ (hl := by rw [dRow_len]; omega) (ha := dRow_load256))
 refine g_y rfl rfl (p_lenl sl_59 (a := .int .i64 (d.next.length : Int)) ?_ (ha := by rw [List.length_map]))
 refine g_y rfl rfl (p_fap fa_62_1 ?_)
 refine g_y rfl rfl (p_loadp ty_59 (a := .list 1 (d.next.map fun r => [ints r])) ?_ (hl := by rw [dRow_len]; omega) (ha := dRow_load256))
 refine g_y rfl rfl (p_lenl sl_59 (a := .int .i64 (d.next.length : Int)) ?_ (ha := by rw [List.length_map]))
 refine g_y rfl rfl (p_cmp ?_ (b := false) (hb := neq_self _))
 refine l_cons rfl (p_pickf rfl ?_)
 refine l_cons rfl (p_move ?_)
 refine g_y rfl rfl (p_fap fa_62_2 ?_)
 refine g_y rfl rfl (p_loadp ty_60 (a := .list 1 (d.ends.map fun b => [AV.bool b])) ?_ (hl := by rw [dRow_len]; omega) (ha := dRow_load257))
 refine g_y rfl rfl (p_lenl sl_60 (a := .int .i64 (d.ends.length : Int)) ?_ (ha := by rw [List.length_map]))
 refine g_y rfl rfl (p_fap fa_62_2 ?_)
 refine g_y rfl rfl (p_loadp ty_60 (a := .list 1 (d.ends.map fun b => [AV.bool b])) ?_ (hl := by rw [dRow_len]; omega) (ha := dRow_load257))
 refine g_y rfl rfl (p_lenl sl_60 (a := .int .i64 (d.ends.length : Int)) ?_ (ha := by rw [List.length_map]))
 refine g_y rfl rfl (p_cmp ?_ (b := false) (hb := neq_self _))
 refine l_cons rfl (p_pickf rfl ?_)
 refine l_nil ?_
 refine k_seq_normal ?_
 refine w_f rfl ?_
 refine w_skip ?_
 refine k_seq_normal ?_
 refine w_seq ?_
 refine w_seq ?_
 refine w_region ?_
 refine l_cons rfl (p_assign ?_)
 refine l_nil ?_
 refine k_seq_normal ?_
 refine w_block ?_
 refine w_loop (fun m f es' => ∃ k, m = d.ends.length - k ∧ k ≤ d.ends.length ∧ es' = .row s3 62 258 [dRow (fun i => (d.cls i : Int)) (.list 1 (d.next.map fun r => [ints r])) (.list 1 (d.ends.map fun b => [AV.bool b]))] :: .row s2 62 258 [dRow (fun i => (d.cls i : Int)) (.list 1 (d.next.map fun r => [ints r])) (.list 1 (d.ends.map fun b => [AV.bool b]))] :: es ∧ Knows f [(2, .ptr es.length s2 0 0), (3, .ptr (es.length + 1) s3 0 0), (5, .int .i64 (k : Int))]) (d.ends.length) (⟨0, rfl, Nat.zero_le _, rfl, by simp only [Knows, put, upd_apply, Nat.reduceEqDiff, ↓reduceIte, and_true, true_and, eq_self] <;> and_intros <;> rfl⟩) ?_
 rintro m f es' ⟨k, rfl, hk1, rfl, hk⟩
 refine w_pins _ (Sub.refl _) (hk) ?_
 simp only [pins]
 refine w_seq ?_
 refine w_seq ?_
 refine w_region ?_
 refine l_cons rfl (p_move ?_)
 refine l_cons rfl (p_fap fa_62_2 ?_)
 refine l_cons rfl (p_loadp ty_60 (a := .list 1 (d.ends.map fun b => [AV.bool b])) ?_ (hl := by rw [dRow_len]; omega) (ha := dRow_load257))
 refine l_cons rfl (p_lenl sl_60 (a := .int .i64 (d.ends.length : Int)) ?_ (ha := by rw [List.length_map]))
 refine l_cons rfl (p_cmp ?_)
 refine l_nil ?_
 refine k_seq_normal ?_
 refine w_b (fun h1 => ?_) (fun h1 => ?_)
 ·skip
  have h1' := h1; (try simp only [decide_eq_true_eq, decide_eq_false_iff_not, Bool.not_eq_true', Bool.not_false, Bool.not_true, Bool.not_eq_false'] at h1')
  refine w_skip ?_
  refine k_seq_normal ?_
  refine w_seq ?_
  refine w_block ?_
  refine w_seq ?_
  refine w_drawn 10 [] (fun e => e = _) mixed (by kernel_rfl) rfl ?_
  refine q1 2 (hg := rfl) (hu := rfl) (h := by rintro f _ rfl; exact p_fap fa_62_2 ⟨rfl, rfl⟩) (k := ?_)
  refine q1 38 (hg := rfl) (hu := rfl) (h := by rintro f _ rfl; exact p_loadp ty_60 (a := .list 1 (d.ends.map fun b => [AV.bool b])) ⟨rfl, rfl⟩ (hl := by rw [dRow_len]; omega) (ha := dRow_load257)) (k := ?_)
  refine q1 5 (hg := rfl) (hu := rfl) (h := by rintro f _ rfl; exact p_move ⟨rfl, rfl⟩) (k := ?_)
  refine q2 39 40 (hg := rfl) (hu := rfl) (h := by rintro f _ rfl; exact p_ixl sl_60 (a := .fptr 1 (d.ends.map fun b => [AV.bool b]) k 0) ⟨rfl, rfl⟩ (h0 := by omega) (h1 := by simp only [List.length_map]; omega)) (k := ?_)
  refine q1 41 (hg := rfl) (hu := rfl) (h := by rintro f _ rfl; exact p_loadf ty_4 (a := .bool (d.ends[k]'(by omega))) ⟨rfl, rfl⟩ (hr := row_bool (by omega)) (hl := Nat.le_refl 1) (ha := rfl)) (k := ?_)
  refine q1 3 (hg := rfl) (hu := rfl) (h := by rintro f _ rfl; exact p_fap fa_62_2 ⟨rfl, rfl⟩) (k := ?_)
  refine q1 43 (hg := rfl) (hu := rfl) (h := by rintro f _ rfl; exact p_loadp ty_60 (a := .list 1 (d.ends.map fun b => [AV.bool b])) ⟨rfl, rfl⟩ (hl := by rw [dRow_len]; omega) (ha := dRow_load257)) (k := ?_)
  refine q1 5 (hg := rfl) (hu := rfl) (h := by rintro f _ rfl; exact p_move ⟨rfl, rfl⟩) (k := ?_)
  refine q2 44 45 (hg := rfl) (hu := rfl) (h := by rintro f _ rfl; exact p_ixl sl_60 (a := .fptr 1 (d.ends.map fun b => [AV.bool b]) k 0) ⟨rfl, rfl⟩ (h0 := by omega) (h1 := by simp only [List.length_map]; omega)) (k := ?_)
  refine q1 46 (hg := rfl) (hu := rfl) (h := by rintro f _ rfl; exact p_loadf ty_4 (a := .bool (d.ends[k]'(by omega))) ⟨rfl, rfl⟩ (hr := row_bool (by omega)) (hl := Nat.le_refl 1) (ha := rfl)) (k := ?_)
  refine q_end ?_
  refine m_end ?_
  refine l_cons rfl (p_neb ub_4 (b := false) ?_ (hb := bne_self _))
  refine l_nil ?_
  refine k_seq_normal ?_
  refine w_f rfl ?_
  refine w_skip ?_
  refine k_blk_normal ?_
  refine k_seq_normal ?_
  refine w_region ?_
  refine l_cons rfl (p_move ?_)
  refine l_cons rfl (p_arith ?_)
  refine l_cons rfl (p_assign ?_)
  refine l_nil ?_
  refine k_seq_normal ?_
  exact ⟨d.ends.length - (k + 1), by omega, k + 1, rfl, by omega, rfl, by simp only [Knows, put, upd_apply, Nat.reduceEqDiff, ↓reduceIte, and_true, true_and, eq_self] <;> and_intros <;> rfl⟩
 ·skip
  have h1' := h1; (try simp only [decide_eq_true_eq, decide_eq_false_iff_not, Bool.not_eq_true', Bool.not_false, Bool.not_true, Bool.not_eq_false'] at h1')
  refine w_exit ?_
  refine k_seq_exit ?_
  refine k_seq_exit ?_
  refine k_blk_here ?_
  refine k_seq_normal ?_
  refine w_seq ?_
  refine w_seq ?_
  refine w_region ?_
  refine l_cons rfl (p_assign ?_)
  refine l_nil ?_
  refine k_seq_normal ?_
  refine w_block ?_
  refine w_loop (fun m f es' => ∃ i, m = d.next.length - i ∧ i ≤ d.next.length ∧ es' = .row s3 62 258 [dRow (fun i => (d.cls i : Int)) (.list 1 (d.next.map fun r => [ints r])) (.list 1 (d.ends.map fun b => [AV.bool b]))] :: .row s2 62 258 [dRow (fun i => (d.cls i : Int)) (.list 1 (d.next.map fun r => [ints r])) (.list 1 (d.ends.map fun b => [AV.bool b]))] :: es ∧ Knows f [(2, .ptr es.length s2 0 0), (3, .ptr (es.length + 1) s3 0 0), (6, .int .i64 (i : Int))]) (d.next.length) (⟨0, rfl, Nat.zero_le _, rfl, by simp only [Knows, put, upd_apply, Nat.reduceEqDiff, ↓reduceIte, and_true, true_and, eq_self] <;> and_intros <;> rfl⟩) ?_
  rintro m f es' ⟨i, rfl, hi1, rfl, hk⟩
  refine w_pins _ (Sub.refl _) (hk) ?_
  simp only [pins]
  refine w_seq ?_
  refine w_seq ?_
  refine w_region ?_
  refine l_cons rfl (p_move ?_)
  refine l_cons rfl (p_fap fa_62_1 ?_)
  refine l_cons rfl (p_loadp ty_59 (a := .list 1 (d.next.map fun r => [ints r])) ?_ (hl := by rw [dRow_len]; omega) (ha := dRow_load256))
  refine l_cons rfl (p_lenl sl_59 (a := .int .i64 (d.next.length : Int)) ?_ (ha := by rw [List.length_map]))
  refine l_cons rfl (p_cmp ?_)
  refine l_nil ?_
  refine k_seq_normal ?_
  refine w_b (fun h2 => ?_) (fun h2 => ?_)
  ·skip
   have h2' := h2; (try simp only [decide_eq_true_eq, decide_eq_false_iff_not, Bool.not_eq_true', Bool.not_false, Bool.not_true, Bool.not_eq_false'] at h2')
   refine w_skip ?_
   refine k_seq_normal ?_
   refine w_seq ?_
   refine w_block ?_
   refine w_seq ?_
   refine w_seq ?_
   refine w_drawn 12 [] (fun e => e = _) mixed (by kernel_rfl) rfl ?_
   refine q1 2 (hg := rfl) (hu := rfl) (h := by rintro f _ rfl; exact p_fap fa_62_1 ⟨rfl, rfl⟩) (k := ?_)
   refine q1 56 (hg := rfl) (hu := rfl) (h := by rintro f _ rfl; exact p_loadp ty_59 (a := .list 1 (d.next.map fun r => [ints r])) ⟨rfl, rfl⟩ (hl := by rw [dRow_len]; omega) (ha := dRow_load256)) (k := ?_)
   refine q1 6 (hg := rfl) (hu := rfl) (h := by rintro f _ rfl; exact p_move ⟨rfl, rfl⟩) (k := ?_)
   refine q2 57 58 (hg := rfl) (hu := rfl) (h := by rintro f _ rfl; exact p_ixl sl_59 (a := .fptr 1 (d.next.map fun r => [ints r]) i 0) ⟨rfl, rfl⟩ (h0 := by omega) (h1 := by simp only [List.length_map]; omega)) (k := ?_)
   refine q1 59 (hg := rfl) (hu := rfl) (h := by rintro f _ rfl; exact p_loadf ty_48 (a := ints (d.next[i]'(by omega))) ⟨rfl, rfl⟩ (hr := row_ints (by omega)) (hl := Nat.le_refl 1) (ha := rfl)) (k := ?_)
   refine q1 60 (hg := rfl) (hu := rfl) (h := by rintro f _ rfl; exact p_lenl sl_48 (a := .int .i64 ((d.next[i]'(by omega)).length : Int)) ⟨rfl, rfl⟩ (ha := by rw [List.length_map])) (k := ?_)
   refine q1 3 (hg := rfl) (hu := rfl) (h := by rintro f _ rfl; exact p_fap fa_62_1 ⟨rfl, rfl⟩) (k := ?_)
   refine q1 62 (hg := rfl) (hu := rfl) (h := by rintro f _ rfl; exact p_loadp ty_59 (a := .list 1 (d.next.map fun r => [ints r])) ⟨rfl, rfl⟩ (hl := by rw [dRow_len]; omega) (ha := dRow_load256)) (k := ?_)
   refine q1 6 (hg := rfl) (hu := rfl) (h := by rintro f _ rfl; exact p_move ⟨rfl, rfl⟩) (k := ?_)
   refine q2 63 64 (hg := rfl) (hu := rfl) (h := by rintro f _ rfl; exact p_ixl sl_59 (a := .fptr 1 (d.next.map fun r => [ints r]) i 0) ⟨rfl, rfl⟩ (h0 := by omega) (h1 := by simp only [List.length_map]; omega)) (k := ?_)
   refine q1 65 (hg := rfl) (hu := rfl) (h := by rintro f _ rfl; exact p_loadf ty_48 (a := ints (d.next[i]'(by omega))) ⟨rfl, rfl⟩ (hr := row_ints (by omega)) (hl := Nat.le_refl 1) (ha := rfl)) (k := ?_)
   refine q1 66 (hg := rfl) (hu := rfl) (h := by rintro f _ rfl; exact p_lenl sl_48 (a := .int .i64 ((d.next[i]'(by omega)).length : Int)) ⟨rfl, rfl⟩ (ha := by rw [List.length_map])) (k := ?_)
   refine q_end ?_
   refine m_end ?_
   refine l_cons rfl (p_cmp ?_ (b := false) (hb := neq_self _))
   refine l_nil ?_
   refine k_seq_normal ?_
   refine w_f rfl ?_
   refine w_skip ?_
   refine k_seq_normal ?_
   refine w_seq ?_
   refine w_region ?_
   refine l_cons rfl (p_assign ?_)
   refine l_nil ?_
   refine k_seq_normal ?_
   refine w_block ?_
   refine w_loop (fun m f es' => ∃ j, m = (d.next[i]'(by omega)).length - j ∧ j ≤ (d.next[i]'(by omega)).length ∧ es' = .row s3 62 258 [dRow (fun i => (d.cls i : Int)) (.list 1 (d.next.map fun r => [ints r])) (.list 1 (d.ends.map fun b => [AV.bool b]))] :: .row s2 62 258 [dRow (fun i => (d.cls i : Int)) (.list 1 (d.next.map fun r => [ints r])) (.list 1 (d.ends.map fun b => [AV.bool b]))] :: es ∧ Knows f [(2, .ptr es.length s2 0 0), (3, .ptr (es.length + 1) s3 0 0), (6, .int .i64 (i : Int)), (7, .int .i64 (j : Int))]) ((d.next[i]'(by omega)).length) (⟨0, rfl, Nat.zero_le _, rfl, by simp only [Knows, put, upd_apply, Nat.reduceEqDiff, ↓reduceIte, and_true, true_and, eq_self] <;> and_intros <;> rfl⟩) ?_
   rintro m f es' ⟨j, rfl, hj1, rfl, hk⟩
   have hrli := hrl _ (List.getElem_mem (show i < d.next.length by omega))
   refine w_pins _ (Sub.refl _) (hk) ?_
   simp only [pins]
   refine w_seq ?_
   refine w_seq ?_
   refine w_region ?_
   refine l_cons rfl (p_move ?_)
   refine l_cons rfl (p_fap fa_62_1 ?_)
   refine l_cons rfl (p_loadp ty_59 (a := .list 1 (d.next.map fun r => [ints r])) ?_ (hl := by rw [dRow_len]; omega) (ha := dRow_load256))
   refine l_cons rfl (p_move ?_)
   refine l_cons rfl (p_ixl sl_59 (a := .fptr 1 (d.next.map fun r => [ints r]) i 0) ?_ (h0 := by omega) (h1 := by simp only [List.length_map]; omega))
   refine l_cons rfl (p_loadf ty_48 (a := ints (d.next[i]'(by omega))) ?_ (hr := row_ints (by omega)) (hl := Nat.le_refl 1) (ha := rfl))
   refine l_cons rfl (p_lenl sl_48 (a := .int .i64 ((d.next[i]'(by omega)).length : Int)) ?_ (ha := by rw [List.length_map]))
   refine l_cons rfl (p_cmp ?_)
   refine l_nil ?_
   refine k_seq_normal ?_
   refine w_b (fun h3 => ?_) (fun h3 => ?_)
   ·skip
    have h3' := h3; (try simp only [decide_eq_true_eq, decide_eq_false_iff_not, Bool.not_eq_true', Bool.not_false, Bool.not_true, Bool.not_eq_false'] at h3')
    refine w_skip ?_
    refine k_seq_normal ?_
    refine w_seq ?_
    refine w_block ?_
    refine w_seq ?_
    refine w_drawn 16 [] (fun e => e = _) mixed (by kernel_rfl) rfl ?_
    refine q1 2 (hg := rfl) (hu := rfl) (h := by rintro f _ rfl; exact p_fap fa_62_1 ⟨rfl, rfl⟩) (k := ?_)
    refine q1 79 (hg := rfl) (hu := rfl) (h := by rintro f _ rfl; exact p_loadp ty_59 (a := .list 1 (d.next.map fun r => [ints r])) ⟨rfl, rfl⟩ (hl := by rw [dRow_len]; omega) (ha := dRow_load256)) (k := ?_)
    refine q1 6 (hg := rfl) (hu := rfl) (h := by rintro f _ rfl; exact p_move ⟨rfl, rfl⟩) (k := ?_)
    refine q2 80 81 (hg := rfl) (hu := rfl) (h := by rintro f _ rfl; exact p_ixl sl_59 (a := .fptr 1 (d.next.map fun r => [ints r]) i 0) ⟨rfl, rfl⟩ (h0 := by omega) (h1 := by simp only [List.length_map]; omega)) (k := ?_)
    refine q1 82 (hg := rfl) (hu := rfl) (h := by rintro f _ rfl; exact p_loadf ty_48 (a := ints (d.next[i]'(by omega))) ⟨rfl, rfl⟩ (hr := row_ints (by omega)) (hl := Nat.le_refl 1) (ha := rfl)) (k := ?_)
    refine q1 7 (hg := rfl) (hu := rfl) (h := by rintro f _ rfl; exact p_move ⟨rfl, rfl⟩) (k := ?_)
    refine q2 83 84 (hg := rfl) (hu := rfl) (h := by rintro f _ rfl; exact p_ixl sl_48 (a := .fptr 1 ((d.next[i]'(by omega)).map fun n => [AV.int .i64 n]) j 0) ⟨rfl, rfl⟩ (h0 := by omega) (h1 := by simp only [List.length_map]; omega)) (k := ?_)
    refine q1 85 (hg := rfl) (hu := rfl) (h := by rintro f _ rfl; exact p_loadf ty_3 (a := .int .i64 ((d.next[i]'(by omega))[j]'(by omega))) ⟨rfl, rfl⟩ (hr := row_i64 (by omega)) (hl := Nat.le_refl 1) (ha := rfl)) (k := ?_)
    refine q1 3 (hg := rfl) (hu := rfl) (h := by rintro f _ rfl; exact p_fap fa_62_1 ⟨rfl, rfl⟩) (k := ?_)
    refine q1 87 (hg := rfl) (hu := rfl) (h := by rintro f _ rfl; exact p_loadp ty_59 (a := .list 1 (d.next.map fun r => [ints r])) ⟨rfl, rfl⟩ (hl := by rw [dRow_len]; omega) (ha := dRow_load256)) (k := ?_)
    refine q1 6 (hg := rfl) (hu := rfl) (h := by rintro f _ rfl; exact p_move ⟨rfl, rfl⟩) (k := ?_)
    refine q2 88 89 (hg := rfl) (hu := rfl) (h := by rintro f _ rfl; exact p_ixl sl_59 (a := .fptr 1 (d.next.map fun r => [ints r]) i 0) ⟨rfl, rfl⟩ (h0 := by omega) (h1 := by simp only [List.length_map]; omega)) (k := ?_)
    refine q1 90 (hg := rfl) (hu := rfl) (h := by rintro f _ rfl; exact p_loadf ty_48 (a := ints (d.next[i]'(by omega))) ⟨rfl, rfl⟩ (hr := row_ints (by omega)) (hl := Nat.le_refl 1) (ha := rfl)) (k := ?_)
    refine q1 7 (hg := rfl) (hu := rfl) (h := by rintro f _ rfl; exact p_move ⟨rfl, rfl⟩) (k := ?_)
    refine q2 91 92 (hg := rfl) (hu := rfl) (h := by rintro f _ rfl; exact p_ixl sl_48 (a := .fptr 1 ((d.next[i]'(by omega)).map fun n => [AV.int .i64 n]) j 0) ⟨rfl, rfl⟩ (h0 := by omega) (h1 := by simp only [List.length_map]; omega)) (k := ?_)
    refine q1 93 (hg := rfl) (hu := rfl) (h := by rintro f _ rfl; exact p_loadf ty_3 (a := .int .i64 ((d.next[i]'(by omega))[j]'(by omega))) ⟨rfl, rfl⟩ (hr := row_i64 (by omega)) (hl := Nat.le_refl 1) (ha := rfl)) (k := ?_)
    refine q_end ?_
    refine m_end ?_
    refine l_cons rfl (p_cmp ?_ (b := false) (hb := neq_self _))
    refine l_nil ?_
    refine k_seq_normal ?_
    refine w_f rfl ?_
    refine w_skip ?_
    refine k_blk_normal ?_
    refine k_seq_normal ?_
    refine w_region ?_
    refine l_cons rfl (p_move ?_)
    refine l_cons rfl (p_arith ?_)
    refine l_cons rfl (p_assign ?_)
    refine l_nil ?_
    refine k_seq_normal ?_
    exact ⟨(d.next[i]'(by omega)).length - (j + 1), by omega, j + 1, rfl, by omega, rfl, by simp only [Knows, put, upd_apply, Nat.reduceEqDiff, ↓reduceIte, and_true, true_and, eq_self] <;> and_intros <;> rfl⟩
   ·skip
    have h3' := h3; (try simp only [decide_eq_true_eq, decide_eq_false_iff_not, Bool.not_eq_true', Bool.not_false, Bool.not_true, Bool.not_eq_false'] at h3')
    refine w_exit ?_
    refine k_seq_exit ?_
    refine k_seq_exit ?_
    refine k_blk_here ?_
    refine k_blk_normal ?_
    refine k_seq_normal ?_
    refine w_region ?_
    refine l_cons rfl (p_move ?_)
    refine l_cons rfl (p_arith ?_)
    refine l_cons rfl (p_assign ?_)
    refine l_nil ?_
    refine k_seq_normal ?_
    exact ⟨d.next.length - (i + 1), by omega, i + 1, rfl, by omega, rfl, by simp only [Knows, put, upd_apply, Nat.reduceEqDiff, ↓reduceIte, and_true, true_and, eq_self] <;> and_intros <;> rfl⟩
  ·skip
   have h2' := h2; (try simp only [decide_eq_true_eq, decide_eq_false_iff_not, Bool.not_eq_true', Bool.not_false, Bool.not_true, Bool.not_eq_false'] at h2')
   refine w_exit ?_
   refine k_seq_exit ?_
   refine k_seq_exit ?_
   refine k_blk_here ?_
   refine k_seq_normal ?_
   refine w_seq ?_
   refine w_region ?_
   refine l_cons rfl (p_assign ?_)
   refine l_nil ?_
   refine k_seq_normal ?_
   refine w_ret ?_
   refine ret1b rfl ?_ <;> exact ex2 subx ⟨rfl, rfl⟩
end Go.Proofs.YtfdgbghlanbddaaDoor.Av
set_option linter.unusedVariables false
set_option linter.unusedSimpArgs false
set_option maxRecDepth 8000
namespace Go.Proofs.YtfdgbghlanbddaaDoor.Av
open Go.RowKit Go.Proofs
theorem dc_len (d : Df) : d.cells.length = 258 := dRow_len
theorem dc_put {q : Nat → Int} {z w : AV} (d : Df) : (dRow q z w).take 0 ++ d.cells ++ (dRow q z w).drop (0 + 258) = d.cells := dRow_putAll
theorem dc_256 (d : Df) : loadAV false 1 d.cells 256 = .list 1 (d.next.map fun r => [ints r]) := dRow_load256
theorem dc_all (d : Df) : loadAV true 258 d.cells 0 = .agg d.cells := dRow_all
theorem make_eq {w0 : World} {es : List Ent} (n : Nf) (mx : Int) (hs : ∀ s ∈ n.sets, s.ok) (hM : mx ≤ 100000) {d : Df} {e : Int} (h : makeN n mx = (d, e)) : ACalls Tryd.prog w0 47 [n.av, .int .i64 mx] es fun v es' => v = .tup [.agg d.cells, .int .i64 e] ∧ es' = es := by
 have := make_walk (w0 := w0) (es := es) n mx hs hM
 rw [h] at this
 exact this
theorem ref_eq {w0 : World} {es : List Ent} (n : Nf) (mx : Int) (hs : ∀ s ∈ n.sets, s.ok) (hM : mx ≤ 100000) {d : Df} {e : Int} (h : makeN n mx = (d, e)) : ACalls Tryd.prog w0 48 [n.av, .int .i64 mx] es fun v es' => v = .tup [.agg d.cells, .int .i64 e] ∧ es' = es := by
 have := refMake_walk (w0 := w0) (es := es) n mx hs hM
 rw [h] at this
 exact this
/-! ### the machine of the leaf 'a' -/
theorem hsA : ∀ s ∈ nfA.sets, s.ok := by
 intro s hs
 have : s = ⟨0, 0, 0, 0⟩ ∨ s = ⟨0, 8589934592, 0, 0⟩ := by simpa [Nf.sets, nfA, St.set] using hs
 rcases this with rfl | rfl <;> (unfold W4.ok; simp)
theorem firstsA : nfA.firsts = [0, 97] := by kernel_rfl
theorem reachA {l : List Int} {i : Nat} : Reach nfA l i ↔ i < 2 ∧ (i : Int) ∈ l := by
 constructor
 ·intro h
  induction h with
  | base h1 h2 => exact ⟨h1, h2⟩
  | step h1 h2 h3 h4 ih =>
   rename_i a b
   have ha : a = 0 ∨ a = 1 := by have := ih.1; omega
   rcases ha with rfl | rfl <;> simp [nfA] at h3
 ·rintro ⟨h1, h2⟩
  exact .base h1 h2
open Classical in
theorem closedA (l : List Int) : closed nfA l = ((List.range 2).filter fun i : Nat => decide ((i : Int) ∈ l)).map Int.ofNat := by
 unfold closed
 show ((List.range 2).filter _).map _ = _
 congr 1
 refine List.filter_congr fun i hi => ?_
 rw [decide_eq_decide, reachA]
 exact ⟨fun h => h.2, fun h => ⟨List.mem_range.1 hi, h⟩⟩
theorem cA1 : closed nfA [1] = [1] := by rw [closedA]; rfl
theorem cA0 : closed nfA [0] = [0] := by rw [closedA]; rfl
theorem cAn : closed nfA [] = [] := by rw [closedA]; rfl
theorem sA1 : stepped nfA [1] 0 = [] := by
 unfold stepped
 rw [show stepTo nfA [1] 0 = [] from by kernel_rfl, cAn]
theorem sA2 : stepped nfA [1] 97 = [0] := by
 unfold stepped
 rw [show stepTo nfA [1] 97 = [0] from by kernel_rfl, cA0]
theorem sA3 (b : Int) : stepped nfA [] b = [] := by
 unfold stepped
 rw [show stepTo nfA [] b = [] from rfl, cAn]
theorem sA4 : stepped nfA [0] 0 = [] := by
 unfold stepped
 rw [show stepTo nfA [0] 0 = [] from by kernel_rfl, cAn]
theorem sA5 : stepped nfA [0] 97 = [] := by
 unfold stepped
 rw [show stepTo nfA [0] 97 = [] from by kernel_rfl, cAn]
theorem rowA1 : rowTo nfA [0, 97] [[1]] [1] 2 = ([[1], [], [0]], [1, 2]) := by
 show rowOne nfA [1] (rowOne nfA [1] ([[1]], []) 0) 97 = _
 unfold rowOne
 rw [sA1, sA2]
 rfl
theorem rowA2 : rowTo nfA [0, 97] [[1], [], [0]] [] 2 = ([[1], [], [0]], [1, 1]) := by
 show rowOne nfA [] (rowOne nfA [] ([[1], [], [0]], []) 0) 97 = _
 unfold rowOne
 rw [sA3, sA3]
 rfl
theorem rowA3 : rowTo nfA [0, 97] [[1], [], [0]] [0] 2 = ([[1], [], [0]], [1, 1]) := by
 show rowOne nfA [0] (rowOne nfA [0] ([[1], [], [0]], []) 0) 97 = _
 unfold rowOne
 rw [sA4, sA5]
 rfl
theorem bfsA1 : bfs nfA [0, 97] 1 = ⟨[[1], [], [0]], [[1, 2]], [false]⟩ := by
 show roundB nfA [0, 97] ⟨[closed nfA [1]], [], []⟩ 0 = _
 rw [cA1]
 show Bf.mk (rowTo nfA [0, 97] [[1]] [1] 2).1 ([] ++ [(rowTo nfA [0, 97] [[1]] [1] 2).2]) _ = _
 rw [rowA1]
 rfl
theorem bfsA2 : bfs nfA [0, 97] 2 = ⟨[[1], [], [0]], [[1, 2], [1, 1]], [false, false]⟩ := by
 show roundB nfA [0, 97] (bfs nfA [0, 97] 1) 1 = _
 rw [bfsA1]
 show Bf.mk (rowTo nfA [0, 97] [[1], [], [0]] [] 2).1 ([[1, 2]] ++ [(rowTo nfA [0, 97] [[1], [], [0]] [] 2).2]) _ = _
 rw [rowA2]
 rfl
theorem bfsA3 : bfs nfA [0, 97] 3 = ⟨[[1], [], [0]], [[1, 2], [1, 1], [1, 1]], [false, false, true]⟩ := by
 show roundB nfA [0, 97] (bfs nfA [0, 97] 2) 2 = _
 rw [bfsA2]
 show Bf.mk (rowTo nfA [0, 97] [[1], [], [0]] [0] 2).1 ([[1, 2], [1, 1]] ++ [(rowTo nfA [0, 97] [[1], [], [0]] [0] 2).2]) _ = _
 rw [rowA3]
 rfl
theorem mayA : mayN nfA = true := by kernel_rfl
theorem makeA3 : ∃ d, makeN nfA 3 = (d, 0) ∧ d.next.length = 3 := by
 unfold makeN
 rw [if_pos mayA, firstsA, show (max (3 : Int) 0).toNat = 3 from rfl, bfsA3]
 exact ⟨_, rfl, rfl⟩
theorem makeA2 : makeN nfA 2 = (zeroD, 7) := by
 unfold makeN
 rw [if_pos mayA, firstsA, show (max (2 : Int) 0).toNat = 2 from rfl, bfsA2]
 rfl
theorem begun10_walk {w0 : World} {es : List Ent} : ACalls Tryd.prog w0 46 [] es fun v es' => v = .bool true ∧ es' = es := by
 obtain ⟨dA, hdA, hlA⟩ := makeA3
 refine calls0 (N := 37) Tryd.func46 rfl rfl ?_
 refine w_seq ?_
 refine w_region ?_
 refine l_cons rfl (p_assign ?_)
 refine l_nil ?_
 refine k_seq_normal ?_
 refine w_seq ?_
 refine w_region ?_
 refine l_cons rfl (p_buildSlice sl_22 ze_5 fun s8 => ?_)
 refine l_cons rfl (p_convBytes sl_22 in_5 ?_)
 refine l_cons rfl (p_callr en_68 (of_a) ?_)
 refine l_cons rfl (p_callr en_67 (bytes_a) ?_)
 refine l_cons rfl (p_callr en_27 (build_leaf) ?_)
 refine l_cons rfl (p_move ?_)
 refine l_cons rfl (p_extract ?_ (hl := Nat.le_of_ble_eq_true rfl))
 refine l_cons rfl (p_extract ?_ (hl := Nat.le_of_ble_eq_true rfl))
 refine l_cons rfl (p_alloc ze_36 fun s1 => ?_)
 refine l_cons rfl (p_store ty_36 ?_)
 refine l_cons rfl (p_assign ?_)
 refine l_nil ?_
 refine k_seq_normal ?_
 refine w_seq ?_
 refine w_region ?_
 refine l_cons rfl (p_loadp ty_36 ?_)
 refine l_cons rfl (p_callr en_47 (make_eq nfA 3 hsA (by decide) hdA) ?_)
 refine l_cons rfl (p_move ?_)
 refine l_cons rfl (p_extract ?_ (hl := Nat.le_of_ble_eq_true rfl))
 refine l_cons rfl (p_extract ?_ (hl := Nat.le_of_ble_eq_true rfl))
 refine l_cons rfl (p_alloc ze_d fun s3 => ?_)
 rw [dRow_len]
 refine l_cons rfl (p_store ty_62 (r' := dA.cells) ?_ (hl := by rw [dRow_len]; exact Nat.le_refl _) (hn := dc_len _) (hr' := dc_put _))
 refine l_cons rfl (p_assign ?_)
 refine l_nil ?_
 refine k_seq_normal ?_
 refine w_seq ?_
 refine w_region ?_
 refine l_cons rfl (p_loadp ty_36 ?_)
 refine l_cons rfl (p_callr en_47 (make_eq nfA 2 hsA (by decide) makeA2) ?_)
 refine l_cons rfl (p_move ?_)
 refine l_cons rfl (p_extract ?_ (hl := Nat.le_of_ble_eq_true rfl))
 refine l_cons rfl (p_extract ?_ (hl := Nat.le_of_ble_eq_true rfl))
 refine l_cons rfl (p_alloc ze_d fun s5 => ?_)
 rw [dRow_len]
 refine l_cons rfl (p_store ty_62 (r' := zeroD.cells) ?_ (hl := by rw [dRow_len]; exact Nat.le_refl _) (hn := dc_len _) (hr' := dc_put _))
 refine l_cons rfl (p_assign ?_)
 refine l_nil ?_
 refine k_seq_normal ?_
 refine w_seq ?_
 refine w_region ?_
 refine l_cons rfl (p_move ?_)
 refine l_cons rfl (p_cmpl true ?_)
 refine l_cons rfl (p_move ?_)
 refine g_y rfl rfl (p_fap fa_62_1 ?_)
 refine g_y rfl rfl (p_loadp ty_59 (a := .list 1 (dA.next.map fun r => [ints r])) ?_ (hl := by rw [dc_len]; omega) (ha := dc_256 _))
 refine g_y rfl rfl (p_lenl sl_59 (a := .int .i64 3) ?_ (ha := by rw [List.length_map, hlA]; rfl))
 refine g_y rfl rfl (p_cmpl true ?_)
 refine l_cons rfl (p_pickt rfl ?_)
 refine l_cons rfl (p_move ?_)
 refine g_y rfl rfl (p_move ?_)
 refine g_y rfl rfl (p_cmpl true ?_)
 refine l_cons rfl (p_pickt rfl ?_)
 refine l_cons rfl (p_assign ?_)
 refine l_nil ?_
 refine k_seq_normal ?_
 refine w_ret ?_
 refine ret1b rfl ?_ <;> exact ex2 subx ⟨rfl, rfl⟩
end Go.Proofs.YtfdgbghlanbddaaDoor.Av
set_option linter.unusedVariables false
set_option linter.unusedSimpArgs false
namespace Go.Proofs.YtfdgbghlanbddaaDoor.Av
/-! ### the sets of the states -/
def setsOk (ns : List St) : Prop := ∀ s ∈ ns, s.set.ok
theorem setsOk.app {a b : List St} (h : setsOk a) (g : setsOk b) : setsOk (a ++ b) := fun s hs => (List.mem_append.1 hs).elim (h s) (g s)
theorem sets_stF (l : List Int) : setsOk [stF l] := fun s hs => by
 simp only [List.mem_cons, List.not_mem_nil, or_false] at hs
 subst hs
 exact noSet_ok
theorem sets_st0 : setsOk [st0] := sets_stF []
theorem sets_st00 : setsOk [st0, st0] := sets_st0.app sets_st0
theorem setsOk.free {ns : List St} (h : setsOk ns) (i j : Nat) : setsOk (bFree ns i j) := by
 unfold bFree
 split
 ·rename_i s hs
  intro x hx
  rcases List.mem_or_eq_of_mem_set hx with hx | hx
  ·exact h x hx
  ·subst hx
   exact h s (List.mem_of_getElem? hs)
 ·exact h
mutual
theorem sets_part : ∀ (r : Rx) (ns : List St), r.ok → setsOk ns → setsOk (bPart r ns).1
 | .mk k s l, ns, h, g => by
  have hs : s.ok := h.2.1
  have hl : Rx.oks l := h.2.2
  rw [bPart]
  split
  ·refine g.app (sets_st0.app (b := [_]) fun x hx => ?_)
   simp only [List.mem_cons, List.not_mem_nil, or_false] at hx
   subst hx
   exact hs
  ·split
   ·exact sets_cat l ns hl g
   ·split
    ·exact sets_alt l _ none _ hl (g.app sets_st0)
    ·split
     ·exact sets_star l ns hl g
     ·split
      ·exact (g.app sets_st00).free _ _
      ·exact g.app sets_st00
theorem sets_star : ∀ (l : List Rx) (ns : List St), Rx.oks l → setsOk ns → setsOk (bStar l ns).1
 | [], ns, _, g => by rw [bStar]; exact g
 | a :: t, ns, h, g => by
  rw [bStar]
  exact (((sets_part a _ h.1 (g.app sets_st00)).free _ _).free _ _).free _ _
theorem sets_cat : ∀ (l : List Rx) (ns : List St), Rx.oks l → setsOk ns → setsOk (bCat l ns).1
 | [], ns, _, g => by rw [bCat]; exact g
 | a :: t, ns, h, g => by
  rw [bCat]
  exact sets_catGo t _ _ _ h.2 (sets_part a _ h.1 g)
theorem sets_catGo : ∀ (l : List Rx) (ns : List St) (f t : Nat), Rx.oks l → setsOk ns → setsOk (bCatGo l ns f t).1
 | [], ns, _, _, _, g => by rw [bCatGo]; exact g
 | a :: r, ns, f, t, h, g => by
  rw [bCatGo]
  exact sets_catGo r _ _ _ h.2 ((sets_part a _ h.1 g).free _ _)
theorem sets_alt : ∀ (l : List Rx) (ns : List St) (fl : Option (Nat × Nat)) (t : Nat), Rx.oks l → setsOk ns → setsOk (bAltGo l ns fl t).1
 | [], ns, _, _, _, g => by rw [bAltGo]; exact g
 | a :: r, ns, none, t, h, g => by
  rw [bAltGo]
  exact sets_alt r _ _ _ h.2 (((sets_part a _ h.1 g).free _ _).app (sets_stF _))
 | a :: r, ns, some (f, l), t, h, g => by
  rw [bAltGo]
  exact sets_alt r _ _ _ h.2 ((((sets_part a _ h.1 g).free _ _).app (sets_stF _)).free _ _)
end
theorem buildN_sets {r : Rx} (ho : r.ok) (h : mayR r = 0) : ∀ s ∈ (buildN r).sets, s.ok := by
 have e : buildN r = ⟨(bPart r []).1, ((bPart r []).2.1 : Int), ((bPart r []).2.2 : Int)⟩ := if_pos h
 rw [e]
 intro s hs
 obtain ⟨x, hx, rfl⟩ := List.mem_map.1 hs
 exact sets_part r [] ho (fun s hs => by simp at hs) x hx
end Go.Proofs.YtfdgbghlanbddaaDoor.Av
set_option linter.unusedVariables false
set_option linter.unusedSimpArgs false
set_option maxRecDepth 8000
namespace Go.Proofs.YtfdgbghlanbddaaDoor.Av
open Go.RowKit Go.Proofs
theorem eq_self (m : Int) : cmpI .eql m m = some true := by simp [cmpI]
theorem rem60 {x : Int} (h : 0 ≤ x) : arithI .rem .u8 x 60 = some (x % 60) := by
 unfold arithI
 simp only
 rw [if_neg (by decide)]
 rw [Int.tmod_eq_emod_of_nonneg h]
theorem make_bounds {n : Nf} {mx : Int} {d : Df} {e : Int} (h : makeN n mx = (d, e)) (hM : mx ≤ 100000) : d.next.length ≤ 100000 ∧ d.ends.length ≤ 100000 ∧ ∀ r ∈ d.next, r.length ≤ 256 := by
 unfold makeN at h
 split at h
 ·split at h
  ·injection h with h _
   subst h
   simp [zeroD]
  ·rename_i hl
   injection h with h _
   have hl2 : (bfs n n.firsts (max mx 0).toNat).sets.length ≤ (max mx 0).toNat := by omega
   obtain ⟨h1, h2⟩ := subD_len hl2
   have hd : d = subD n (max mx 0).toNat := h.symm
   rw [hd]
   refine ⟨by omega, by omega, fun r hr => ?_⟩
   rw [(subD_row hl2 hr).1]
   exact n.firsts_le
 ·injection h with h _
  subst h
  simp [zeroD]
theorem subsetMade_walk {w0 : World} (hT : Tab w0) (a : List Int) (b : Int) (ha : bytesOk a) (hb0 : 0 ≤ b) (hb1 : b < 256) : ACalls Tryd.prog w0 10 [bytesAV a, .int .u8 b] [] fun v es' => v = .bool true := by
 unfold bytesAV
 refine calls2 (N := 55) Tryd.func10 rfl rfl (by decide) ?_
 refine w_seq ?_
 refine w_region ?_
 refine l_cons rfl (p_assign ?_)
 refine l_nil ?_
 refine k_seq_normal ?_
 refine w_seq ?_
 refine w_seq ?_
 refine w_region ?_
 refine l_cons rfl (p_callr en_46 (begun10_walk) ?_)
 refine l_cons rfl (p_not ?_)
 refine l_nil ?_
 refine k_seq_normal ?_
 refine w_f rfl ?_
 refine w_skip ?_
 refine k_seq_normal ?_
 refine w_seq ?_
 refine w_seq ?_
 refine w_region ?_
 refine l_cons rfl (p_move ?_)
 refine l_cons rfl (p_lenl sl_22 ?_)
 refine l_cons rfl (p_cmp ?_)
 refine l_nil ?_
 refine k_seq_normal ?_
 refine w_b (fun h1 => ?_) (fun h1 => ?_)
 ·skip
  have h1' := h1; (try simp only [decide_eq_true_eq, decide_eq_false_iff_not, Bool.not_eq_true', Bool.not_false, Bool.not_true, Bool.not_eq_false'] at h1')
  refine w_seq ?_
  refine w_region ?_
  refine l_cons rfl (p_assign ?_)
  refine l_nil ?_
  refine k_seq_normal ?_
  refine w_ret ?_
  refine k_seq_ret ?_
  exact ret1 rfl (by simp only [ev_tmp, ev_const, ev_func, ofConst_int, ofConst_bool, ofConst_str, ofConst_nil, upd_apply, Nat.reduceEqDiff, ↓reduceIte] <;> exact rfl) (sub_of (es := []) fun _ h => absurd h (Nat.not_lt_zero _)) (by first | rfl | (simp_all; done))
 ·skip
  have h1' := h1; (try simp only [decide_eq_true_eq, decide_eq_false_iff_not, Bool.not_eq_true', Bool.not_false, Bool.not_true, Bool.not_eq_false'] at h1')
  refine w_skip ?_
  refine k_seq_normal ?_
  refine w_seq ?_
  refine w_region ?_
  refine l_cons rfl (p_move ?_)
  refine l_cons rfl (p_call en_24 ((made_walk a (by omega) ha).mono ?_))
  rintro _ es1 ⟨s24, rfl, rfl⟩
  refine l_cons rfl (p_call en_25 ((Rx_walk (PK.mk' (n := 0) (Nat.zero_le _) ha (by omega) (at_hit _ _))).mono ?_))
  rintro _ es2 ⟨rfl, hg1⟩
  obtain ⟨ho, -, hn⟩ := pRx_ok 9 (q := a.drop 0) (fun b hb => ha b (List.mem_of_mem_drop hb))
  generalize (pRx 9 (a.drop 0)).1 = r at ho hn ⊢
  refine l_cons rfl (p_callr en_27 (build_gen hT r (by omega) ho) ?_)
  refine l_cons rfl (p_move ?_)
  refine l_cons rfl (p_extract ?_ (hl := Nat.le_of_ble_eq_true rfl))
  refine l_cons rfl (p_extract ?_ (hl := Nat.le_of_ble_eq_true rfl))
  refine l_cons rfl (p_alloc ze_36 fun s5 => ?_)
  refine l_cons rfl (p_store ty_36 ?_)
  refine l_cons rfl (p_assign ?_)
  refine l_nil ?_
  refine k_seq_normal ?_
  refine w_seq ?_
  refine w_seq ?_
  have hbn := buildN_no r
  refine w_region ?_
  refine l_cons rfl (p_move ?_)
  refine l_cons rfl (p_cmp ?_)
  refine l_cons rfl (p_move ?_)
  refine g_b rfl (fun h2 => ?_) (fun h2 => ?_)
  ·skip
   have h2' := h2; (try simp only [decide_eq_true_eq, decide_eq_false_iff_not, Bool.not_eq_true', Bool.not_false, Bool.not_true, Bool.not_eq_false'] at h2')
   refine (p_fap fa_36_0 ?_)
   refine g_y rfl h2 (p_loadp ty_34 ?_)
   first | refine g_y rfl h2 (p_lenl sl_34 ?_) | refine g_y rfl h2 (p_leno sl_34 ?_) | refine g_y rfl h2 (p_lenn sl_34 ?_)
   refine g_y rfl h2 (p_cmp ?_)
   refine l_cons rfl (p_pickf h2 ?_)
   refine l_nil ?_
   refine k_seq_normal ?_
   refine w_b (fun h3 => ?_) (fun h3 => ?_)
   ·skip
    have h3' := h3; (try simp only [decide_eq_true_eq, decide_eq_false_iff_not, Bool.not_eq_true', Bool.not_false, Bool.not_true, Bool.not_eq_false'] at h3')
    refine w_seq ?_
    refine w_region ?_
    refine l_cons rfl (p_assign ?_)
    refine l_nil ?_
    refine k_seq_normal ?_
    refine w_ret ?_
    refine k_seq_ret ?_
    exact ret1 rfl (by simp only [ev_tmp, ev_const, ev_func, ofConst_int, ofConst_bool, ofConst_str, ofConst_nil, upd_apply, Nat.reduceEqDiff, ↓reduceIte] <;> exact rfl) (sub_of (es := []) fun _ h => absurd h (Nat.not_lt_zero _)) (by first | rfl | (simp_all; done))
   ·skip
    have h3' := h3; (try simp only [decide_eq_true_eq, decide_eq_false_iff_not, Bool.not_eq_true', Bool.not_false, Bool.not_true, Bool.not_eq_false'] at h3')
    refine w_skip ?_
    refine k_seq_normal ?_
    refine w_seq ?_
    have hmr : mayR r = 0 := by simp_all
    have hs := buildN_sets ho hmr
    obtain ⟨d, e, hde⟩ : ∃ d e, makeN (buildN r) (b % 60) = (d, e) := ⟨_, _, rfl⟩
    obtain ⟨hb1, hb2, hb3⟩ := make_bounds hde (by omega)
    refine w_region ?_
    refine l_cons rfl (p_loadp ty_36 ?_)
    refine l_cons rfl (p_move ?_)
    refine l_cons rfl (p_arith ?_ (hb := rem60 hb0))
    refine l_cons rfl (p_conv in_5 in_3 ?_ (hb := wrap_i64 (n := b % 60) (by omega) (by omega)))
    refine l_cons rfl (p_callr en_47 (make_eq (buildN r) (b % 60) hs (by omega) hde) ?_)
    refine l_cons rfl (p_move ?_)
    refine l_cons rfl (p_extract ?_ (hl := Nat.le_of_ble_eq_true rfl))
    refine l_cons rfl (p_extract ?_ (hl := Nat.le_of_ble_eq_true rfl))
    refine l_cons rfl (p_alloc ze_d fun s7 => ?_)
    rw [dRow_len]
    refine l_cons rfl (p_store ty_62 (r' := d.cells) ?_ (hl := by rw [dRow_len]; exact Nat.le_refl _) (hn := dc_len _) (hr' := dc_put _))
    refine l_cons rfl (p_assign ?_)
    refine l_nil ?_
    refine k_seq_normal ?_
    refine w_seq ?_
    refine w_region ?_
    refine l_cons rfl (p_loadp ty_36 ?_)
    refine l_cons rfl (p_move ?_)
    refine l_cons rfl (p_arith ?_ (hb := rem60 hb0))
    refine l_cons rfl (p_conv in_5 in_3 ?_ (hb := wrap_i64 (n := b % 60) (by omega) (by omega)))
    refine l_cons rfl (p_callr en_48 (ref_eq (buildN r) (b % 60) hs (by omega) hde) ?_)
    refine l_cons rfl (p_move ?_)
    refine l_cons rfl (p_extract ?_ (hl := Nat.le_of_ble_eq_true rfl))
    refine l_cons rfl (p_extract ?_ (hl := Nat.le_of_ble_eq_true rfl))
    refine l_cons rfl (p_alloc ze_d fun s9 => ?_)
    rw [dRow_len]
    refine l_cons rfl (p_store ty_62 (r' := d.cells) ?_ (hl := by rw [dRow_len]; exact Nat.le_refl _) (hn := dc_len _) (hr' := dc_put _))
    refine l_cons rfl (p_assign ?_)
    refine l_nil ?_
    refine k_seq_normal ?_
    refine w_seq ?_
    refine w_region ?_
    refine l_cons rfl (p_move ?_)
    refine l_cons rfl (p_move ?_)
    refine l_cons rfl (p_cmp (b := true) ?_ (hb := eq_self _))
    refine l_cons rfl (p_move ?_)
    refine g_y rfl rfl (p_loadp ty_62 (a := .agg d.cells) ?_ (hl := by rw [dc_len]; exact Nat.le_refl _) (ha := dc_all _))
    refine g_y rfl rfl (p_loadp ty_62 (a := .agg d.cells) ?_ (hl := by rw [dc_len]; exact Nat.le_refl _) (ha := dc_all _))
    refine g_y rfl rfl (p_callr en_51 (dsame_walk d (by omega) (by omega) (fun r hr => by have := hb3 r hr; omega)) ?_)
    refine l_cons rfl (p_pickt rfl ?_)
    refine l_cons rfl (p_assign ?_)
    refine l_nil ?_
    refine k_seq_normal ?_
    refine w_ret ?_
    exact ret1 rfl (by simp only [ev_tmp, ev_const, ev_func, ofConst_int, ofConst_bool, ofConst_str, ofConst_nil, upd_apply, Nat.reduceEqDiff, ↓reduceIte] <;> exact rfl) (sub_of (es := []) fun _ h => absurd h (Nat.not_lt_zero _)) (by first | rfl | (simp_all; done))
  ·skip
   have h2' := h2; (try simp only [decide_eq_true_eq, decide_eq_false_iff_not, Bool.not_eq_true', Bool.not_false, Bool.not_true, Bool.not_eq_false'] at h2')
   refine g_n rfl h2 ?_
   refine g_n rfl h2 ?_
   refine g_n rfl h2 ?_
   refine l_cons rfl (p_pickt h2 ?_)
   refine l_nil ?_
   refine k_seq_normal ?_
   refine w_t rfl ?_
   refine w_seq ?_
   refine w_region ?_
   refine l_cons rfl (p_assign ?_)
   refine l_nil ?_
   refine k_seq_normal ?_
   refine w_ret ?_
   refine k_seq_ret ?_
   exact ret1 rfl (by simp only [ev_tmp, ev_const, ev_func, ofConst_int, ofConst_bool, ofConst_str, ofConst_nil, upd_apply, Nat.reduceEqDiff, ↓reduceIte] <;> exact rfl) (sub_of (es := []) fun _ h => absurd h (Nat.not_lt_zero _)) (by first | rfl | (simp_all; done))
end Go.Proofs.YtfdgbghlanbddaaDoor.Av
set_option linter.unusedVariables false
set_option linter.unusedSimpArgs false
namespace Go.Proofs.YtfdgbghlanbddaaDoor.Av
open Go.RowKit Go.Proofs Go.Proofs.YtfdgbghlanbddaaDoor Go.Deep
/-! ### what comes in -/
def start (W : World) : Core := ⟨W, fun _ => none, 0, fun b => b < W.heap.size⟩
theorem ok_start (W : World) : Ok W (start W) [] :=
 ⟨Below.refl _ _, fun b hb => hb, fun b hb => hb, fun id x h => by simp [at_] at h, fun i j s e sz rows s' e' sz' rows' g cap cap' h => by simp [at_] at h, fun i j s kvs s' kvs' g cap cap' h => by simp [at_] at h⟩
theorem bulk_one {H : Type} (d : DataW H) : 1 ≤ Rows.uptoBulk d := by
 cases d with
 | lit l => cases l <;> simp [Rows.uptoBulk]
 | nil => simp [Rows.uptoBulk]
 | ptr d => simp [Rows.uptoBulk]
 | slice elems spare => simp [Rows.uptoBulk]
 | agg parts => simp [Rows.uptoBulk]
 | iface t d => simp [Rows.uptoBulk]
 | map entries => simp [Rows.uptoBulk]
 | held h => simp [Rows.uptoBulk]
theorem bulk_part {H : Type} {d : DataW H} {l : List (DataW H)} (h : d ∈ l) : Rows.uptoBulk d ≤ Rows.uptoBulkAll l := by
 induction l with
 | nil => cases h
 | cons x r ih =>
  simp only [Rows.uptoBulkAll]
  cases List.mem_cons.1 h with
  | inl e => subst e; omega
  | inr e => have := ih e; omega
theorem bulk_len {H : Type} (l : List (DataW H)) : l.length ≤ Rows.uptoBulkAll l := by
 induction l with
 | nil => simp [Rows.uptoBulkAll]
 | cons x r ih => have := bulk_one x; simp only [Rows.uptoBulkAll, List.length_cons]; omega

theorem repRows_of {c : Core} {m : Option (List Ent)} {sz : Nat} : ∀ {rows : List (List AV)} {vs : List Value}, vs.length = rows.length * sz → (∀ i r, rows[i]? = some r → r.length = sz ∧ Reps c m r ((vs.drop (i * sz)).take sz)) → (∀ v ∈ vs, v.oneCell' = true) → RepRows c m sz rows vs
 | [], vs, hl, _, _ => by
  simp only [List.length_nil, Nat.zero_mul] at hl
  simp only [RepRows]
  exact List.length_eq_zero_iff.1 hl
 | r :: rs, vs, hl, h, ho => by
  simp only [RepRows]
  have h0 := h 0 r rfl
  simp only [Nat.zero_mul, List.drop_zero] at h0
  refine ⟨vs.take sz, vs.drop sz, (List.take_append_drop _ _).symm, h0.1, h0.2, fun v hv => ho v (List.mem_of_mem_take hv), repRows_of ?_ (fun i r' hr => ?_) fun v hv => ho v (List.mem_of_mem_drop hv)⟩
  ·rw [List.length_drop, hl, List.length_cons, Nat.succ_mul]
   omega
  ·have := h (i + 1) r' (by simpa using hr)
   rw [List.drop_drop]
   rw [show sz + i * sz = (i + 1) * sz by rw [Nat.succ_mul]; omega]
   exact this

/-- What a type's data are told al'. -/
def RDB {α : Type} (B : Nat) (P : Program) (W : World) (t : TypeId) (sz : Nat) (en : α → List AV) (Q : α → Prop) : Prop :=
 ∀ (H : Type) (enc : TypeId × Value → H) (n : Nat) (cs : List Value) (x : DataW H × List MemPlace), DataW.trod enc P W 0 (fun _ => true) true n t cs = some x → Rows.uptoBulk x.1 ≤ B →
  ∃ a : α, Q a ∧ Reps (start W) none (en a) cs ∧ (en a).length = sz ∧ ∀ v ∈ cs, v.oneCell' = true
def RD {α : Type} (P : Program) (W : World) (t : TypeId) (sz : Nat) (en : α → List AV) (Q : α → Prop) : Prop := RDB 1048576 P W t sz en Q
theorem RDB.mono {α : Type} {B B' : Nat} {P : Program} {W : World} {t : TypeId} {sz : Nat} {en : α → List AV} {Q : α → Prop} (h : RDB B P W t sz en Q) (hB : B' ≤ B) : RDB B' P W t sz en Q := fun H enc n cs x hx hb => h H enc n cs x hx (Nat.le_trans hb hB)
theorem addr_add (a : Addr) (p q : Nat) : (a.add p).add q = a.add (p + q) := by
 unfold Addr.add
 by_cases hp : p = 0
 ·subst hp; simp
 ·by_cases hq : q = 0
  ·subst hq; simp [hp]
  ·simp [hp, hq, Nat.add_assoc]
theorem cell_at {W : World} {a : Addr} {v : Value} (h : W.cell? a = some v) : a.spot = none ∧ a.block < W.heap.size := by
 unfold World.cell? at h
 split at h
 ·rename_i hb
  constructor
  ·cases hs : a.spot with
   | none => rfl
   | some k => rw [hs] at h; simp at h
  ·exact (Array.getElem?_eq_some_iff.1 hb).1
 ·cases h
theorem rd_int {P : Program} {W : World} {t : TypeId} {k : IntKind} (ht : P.underlying t = some (.int k)) : RD P W t 1 (fun n : Int => [AV.int k n]) (fun n => (Lit.int k n).wf = true) := by
 intro H enc n cs x h hb
 obtain ⟨m, rfl, rfl, hw⟩ := DataW.trod_int ht h
 exact ⟨m, hw, by simp only [Reps, Rep]; exact ⟨_, _, rfl, rfl, rfl⟩, rfl, by simp [Value.oneCell']⟩
theorem rd_sliceB {α : Type} [Inhabited α] {B : Nat} (hB : B ≤ 1048575) {P : Program} {W : World} {t e : TypeId} {sz : Nat} {en : α → List AV} {Q : α → Prop} (ht : P.underlying t = some (.slice e)) (hc : P.cellsOf e = sz) (hsz : 0 < sz) (he : RDB B P W e sz en Q) :
  RDB (B + 1) P W t 1 (fun l : List α => [AV.list sz (l.map en)]) (fun l => ∀ a ∈ l, Q a) := by
 intro H enc n cs x h hb
 rcases open_slice ht h with ⟨rfl, rfl⟩ | ⟨a, len, cap, m, n', D, Pl, rfl, _, hlc, _, hm, rfl, hi⟩
 ·refine ⟨[], by simp, ?_, rfl, by simp [Value.oneCell']⟩
  simp only [Reps, Rep, List.map_nil]
  exact ⟨_, _, rfl, ⟨none, 0, [], rfl, Nat.le_refl _, Nat.zero_le _, by simp only [RepRows], fun e => absurd rfl e⟩, rfl⟩
 ·simp only [if_true] at hm
  subst hm
  simp only [Rows.uptoBulk] at hb
  have hlen : len ≤ 1048576 := by
   have := bulk_len ((List.range len).map D)
   simp only [List.length_map, List.length_range] at this
   omega
  rw [hc] at hi
  have hA : ∀ i, i < len → ∃ b : α, Q b ∧ (en b).length = sz ∧ ∃ cs', W.cells? 0 (a.add (i * sz)) sz = some cs' ∧ Reps (start W) none (en b) cs' ∧ ∀ v ∈ cs', v.oneCell' = true := by
   intro i hil
   obtain ⟨cs', h1, h2⟩ := hi i (by omega)
   have hbi : Rows.uptoBulk (D i) ≤ B := by
    have := bulk_part (l := (List.range len).map D) (List.mem_map.2 ⟨i, List.mem_range.2 hil, rfl⟩)
    omega
   obtain ⟨b, hQ, hr, hl, ho⟩ := he H enc n' cs' (D i, Pl i) h2 hbi
   exact ⟨b, hQ, hl, cs', h1, hr, ho⟩
  obtain ⟨A, hA⟩ := choose_lt hA
  have hsome : ∀ i j, i < len → j < sz → ∃ v, W.cell? (a.add (i * sz + j)) = some v := by
   intro i j hil hj
   obtain ⟨_, _, cs', h1, _, _⟩ := hA i hil
   obtain ⟨_, hl, hcell⟩ := World.cells?_some h1
   have := hcell j hj
   rw [addr_add, List.getElem?_eq_getElem (by omega)] at this
   exact ⟨_, this⟩
  refine ⟨(List.range len).map A, fun b hb => ?_, ?_, rfl, by simp [Value.oneCell']⟩
  ·obtain ⟨i, hil, rfl⟩ := List.mem_map.1 hb
   exact (hA i (List.mem_range.1 hil)).1
  ·let vs : List Value := (List.range (len * sz)).map fun j => (W.cell? (a.add j)).getD undef
   have hget : ∀ j, j < len * sz → W.cell? (a.add j) = vs[j]? := by
    intro j hj
    have hdm := Nat.div_add_mod j sz
    obtain ⟨v, hv⟩ := hsome (j / sz) (j % sz) (by rw [Nat.div_lt_iff_lt_mul hsz]; exact hj) (Nat.mod_lt _ hsz)
    rw [show j / sz * sz + j % sz = j by rw [Nat.mul_comm]; exact hdm] at hv
    simp only [vs, List.getElem?_map, List.getElem?_range hj, Option.map_some, hv, Option.getD_some]
   have hrow : ∀ i, i < len → ∃ cs', (vs.drop (i * sz)).take sz = cs' ∧ Reps (start W) none (en (A i)) cs' ∧ ∀ v ∈ cs', v.oneCell' = true := by
    intro i hil
    obtain ⟨_, _, cs', h1, h2, h3⟩ := hA i hil
    obtain ⟨_, hl, hcell⟩ := World.cells?_some h1
    refine ⟨cs', ?_, h2, h3⟩
    refine List.ext_getElem? fun j => ?_
    rw [List.getElem?_take]
    by_cases hj : j < sz
    ·rw [if_pos hj, List.getElem?_drop, ← hcell j hj, addr_add]
     have : i * sz + j < len * sz := by
      have : (i + 1) * sz ≤ len * sz := Nat.mul_le_mul_right _ hil
      rw [Nat.succ_mul] at this
      omega
     exact (hget _ this).symm
    ·rw [if_neg hj, List.getElem?_eq_none (by omega)]
   have hone : ∀ v ∈ vs, v.oneCell' = true := by
    intro v hv
    obtain ⟨j, hj⟩ := List.mem_iff_getElem?.1 hv
    have hjl : j < len * sz := by
     have := (List.getElem?_eq_some_iff.1 hj).1
     simpa [vs] using this
    have hdm := Nat.div_add_mod j sz
    have hil : j / sz < len := by rw [Nat.div_lt_iff_lt_mul hsz]; exact hjl
    obtain ⟨cs', h1, _, h3⟩ := hrow (j / sz) hil
    refine h3 v (List.mem_of_getElem? (i := j % sz) ?_)
    rw [← h1, List.getElem?_take, if_pos (Nat.mod_lt _ hsz), List.getElem?_drop, show j / sz * sz + j % sz = j by rw [Nat.mul_comm]; exact hdm]
    exact hj
   have hrr : RepRows (start W) none sz (((List.range len).map A).map en) vs := by
    refine repRows_of (by simp [vs]) (fun i r hr => ?_) hone
    simp only [List.getElem?_map] at hr
    by_cases hil : i < len
    ·rw [List.getElem?_range hil] at hr
     simp only [Option.map_some, Option.some.injEq] at hr
     subst hr
     obtain ⟨cs', h1, h2, _⟩ := hrow i hil
     rw [h1]
     exact ⟨(hA i hil).2.1, h2⟩
    ·rw [List.getElem?_eq_none (by simpa using hil)] at hr
     cases hr
   simp only [Reps, Rep]
   refine ⟨_, _, rfl, ⟨some a, m, vs, by simp, by simpa using hlc, by simp [most]; omega, hrr, fun hne => ?_⟩, rfl⟩
   have hpos : 0 < len * sz := by
    rcases Nat.eq_zero_or_pos (len * sz) with h0 | h0
    ·exact absurd (List.length_eq_zero_iff.1 (by simp [vs, h0])) hne
    ·exact h0
   have hlen0 : 0 < len := Nat.pos_of_mul_pos_right hpos
   obtain ⟨v, hv⟩ := hsome 0 0 hlen0 hsz
   have hat := cell_at hv
   have ha0 : a.add (0 * sz + 0) = a := by simp [Addr.add]
   rw [ha0] at hat
   obtain ⟨b, o, sp⟩ := a
   simp only at hat
   obtain ⟨rfl, hbl⟩ := hat
   refine ⟨b, o, rfl, hbl, fun j hj => ?_⟩
   have := hget j (by simpa [vs] using hj)
   rw [← this]
   show W.cell? _ = W.cell? _
   congr 1
   unfold Addr.add
   split
   ·rename_i h0; subst h0; rfl
   ·rfl
theorem rd_slice {α : Type} [Inhabited α] {P : Program} {W : World} {t e : TypeId} {sz : Nat} {en : α → List AV} {Q : α → Prop} (ht : P.underlying t = some (.slice e)) (hc : P.cellsOf e = sz) (hsz : 0 < sz) (he : RD P W e sz en Q) :
  RD P W t 1 (fun l : List α => [AV.list sz (l.map en)]) (fun l => ∀ a ∈ l, Q a) := rd_sliceB (B := 1048575) (Nat.le_refl _) ht hc hsz (RDB.mono he (by omega))
end Go.Proofs.YtfdgbghlanbddaaDoor.Av
set_option linter.unusedVariables false
set_option linter.unusedSimpArgs false
set_option maxRecDepth 8000
namespace Go.Proofs.YtfdgbghlanbddaaDoor.Av
open Go.RowKit Go.Proofs Go.Proofs.YtfdgbghlanbddaaDoor Go.Deep
theorem ce3 : Tryd.prog.cellsOf 3 = 1 := by kernel_rfl
theorem ce5 : Tryd.prog.cellsOf 5 = 1 := by kernel_rfl
theorem ce24 : Tryd.prog.cellsOf 24 = 1 := by kernel_rfl
theorem ce26 : Tryd.prog.cellsOf 26 = 4 := by kernel_rfl
theorem ce27 : Tryd.prog.cellsOf 27 = 1 := by kernel_rfl
theorem ce29 : Tryd.prog.cellsOf 29 = 6 := by kernel_rfl
theorem ce34 : Tryd.prog.cellsOf 34 = 1 := by kernel_rfl
theorem ce36 : Tryd.prog.cellsOf 36 = 3 := by kernel_rfl
theorem ce48 : Tryd.prog.cellsOf 48 = 1 := by kernel_rfl
theorem ce75 : Tryd.prog.cellsOf 75 = 6 := by kernel_rfl
def St.ok (s : St) : Prop := 0 ≤ s.w0 ∧ 0 ≤ s.w1 ∧ 0 ≤ s.w2 ∧ 0 ≤ s.w3
def Nf.ok (n : Nf) : Prop := ∀ s ∈ n.st, s.ok
instance : Inhabited St := ⟨⟨0, 0, 0, 0, 0, []⟩⟩
theorem wf_u64 {n : Int} (h : (Lit.int .u64 n).wf = true) : 0 ≤ n ∧ n < 18446744073709551616 := by
 simp only [Lit.wf, Bool.and_eq_true, decide_eq_true_eq] at h
 have h1 : IntKind.u64.min = 0 := by decide
 have h2 : IntKind.u64.max = 18446744073709551615 := by decide
 omega
theorem wf_u8 {n : Int} (h : (Lit.int .u8 n).wf = true) : 0 ≤ n ∧ n < 256 := by
 simp only [Lit.wf, Bool.and_eq_true, decide_eq_true_eq] at h
 have h1 : IntKind.u8.min = 0 := by decide
 have h2 : IntKind.u8.max = 255 := by decide
 omega
variable {W : World}
theorem rd_i64 : RD Tryd.prog W 3 1 (fun n : Int => [AV.int .i64 n]) (fun n => (Lit.int .i64 n).wf = true) := rd_int Tryd.underlying3
theorem rd_u8 : RD Tryd.prog W 5 1 (fun n : Int => [AV.int .u8 n]) (fun n => (Lit.int .u8 n).wf = true) := rd_int Tryd.underlying5
theorem rd_ints : RD Tryd.prog W 48 1 (fun l : List Int => [ints l]) (fun l => ∀ n ∈ l, (Lit.int .i64 n).wf = true) := rd_slice Tryd.underlying48 ce3 (by decide) rd_i64
theorem rd_bytes : RD Tryd.prog W 22 1 (fun l : List Int => [bytesAV l]) (fun l => ∀ n ∈ l, (Lit.int .u8 n).wf = true) := rd_slice Tryd.underlying22 ce5 (by decide) rd_u8
theorem rd_set : RD Tryd.prog W 26 4 W4.row W4.ok := by
 intro H enc n cs x h hb
 obtain ⟨xs, m, _, rfl, hl, hlen, hi⟩ := DataW.trod_array Tryd.underlying26 h
 rw [ce26] at hl
 rw [ce24] at hi
 have one : ∀ i (hi4 : i < 4), ∃ v : Int, (cs.drop i).take 1 = [.int .u64 v] ∧ 0 ≤ v ∧ v < 18446744073709551616 := by
  intro i hi4
  have h1 := hi i hi4
  rw [List.getElem?_eq_getElem (by omega), Nat.mul_one] at h1
  obtain ⟨v, h2, _, h3⟩ := DataW.trod_int Tryd.underlying24 h1
  exact ⟨v, h2, wf_u64 h3⟩
 obtain ⟨v0, e0, a0, b0⟩ := one 0 (by omega)
 obtain ⟨v1, e1, a1, b1⟩ := one 1 (by omega)
 obtain ⟨v2, e2, a2, b2⟩ := one 2 (by omega)
 obtain ⟨v3, e3, a3, b3⟩ := one 3 (by omega)
 match cs, hl with
 | [c0, c1, c2, c3], _ =>
  simp at e0 e1 e2 e3
  subst e0; subst e1; subst e2; subst e3
  refine ⟨⟨v0, v1, v2, v3⟩, ⟨a0, a1, a2, a3, b0, b1, b2, b3⟩, ?_, rfl, by simp [Value.oneCell']⟩
  simp only [W4.row, Reps, Rep]
  exact ⟨_, _, rfl, rfl, _, _, rfl, rfl, _, _, rfl, rfl, _, _, rfl, rfl, rfl⟩
theorem rd_st : RD Tryd.prog W 75 6 St.row St.ok := by
 intro H enc n cs x h hb
 obtain ⟨y0, y1, y2, m, rfl, hl, h0, h1, h2⟩ := trod_struct3 Tryd.underlying75 h
 rw [ce75] at hl
 simp only [ce26, ce3, ce48] at h0 h1 h2
 simp only [Rows.uptoBulk, Rows.uptoBulkAll] at hb
 obtain ⟨s, q0, r0, l0, o0⟩ := rd_set (W := W) H enc _ _ _ h0 (by omega)
 obtain ⟨k, q1, r1, l1, o1⟩ := rd_i64 (W := W) H enc _ _ _ h1 (by omega)
 obtain ⟨f, q2, r2, l2, o2⟩ := rd_ints (W := W) H enc _ _ _ h2 (by omega)
 refine ⟨⟨s.w0, s.w1, s.w2, s.w3, k, f⟩, ⟨q0.1, q0.2.1, q0.2.2.1, q0.2.2.2.1⟩, ?_, rfl, ?_⟩
 ·have := (r0.append r1).append r2
  have e : (cs.drop 0).take 4 ++ (cs.drop 4).take 1 ++ (cs.drop 5).take 1 = cs := by
   match cs, hl with
   | [c0, c1, c2, c3, c4, c5], _ => rfl
  rw [e] at this
  exact this
 ·match cs, hl with
  | [c0, c1, c2, c3, c4, c5], _ =>
   simp at o0 o1 o2
   simp [o0, o1, o2]
theorem rd_nf : RD Tryd.prog W 36 3 Nf.cells Nf.ok := by
 intro H enc n cs x h hb
 obtain ⟨y0, y1, y2, m, rfl, hl, h0, h1, h2⟩ := trod_struct3 Tryd.underlying36 h
 rw [ce36] at hl
 simp only [ce34, ce3] at h0 h1 h2
 simp only [Rows.uptoBulk, Rows.uptoBulkAll] at hb
 obtain ⟨s, q0, r0, l0, o0⟩ := rd_slice (W := W) Tryd.underlying34 ce75 (by decide) rd_st H enc _ _ _ h0 (by omega)
 obtain ⟨k, q1, r1, l1, o1⟩ := rd_i64 (W := W) H enc _ _ _ h1 (by omega)
 obtain ⟨f, q2, r2, l2, o2⟩ := rd_i64 (W := W) H enc _ _ _ h2 (by omega)
 refine ⟨⟨s, k, f⟩, q0, ?_, rfl, ?_⟩
 ·have := (r0.append r1).append r2
  have e : (cs.drop 0).take 1 ++ (cs.drop 1).take 1 ++ (cs.drop 2).take 1 = cs := by
   match cs, hl with
   | [c0, c1, c2], _ => rfl
  rw [e] at this
  exact this
 ·match cs, hl with
  | [c0, c1, c2], _ =>
   simp at o0 o1 o2
   simp [o0, o1, o2]

theorem wf_i64 {n : Int} (h : (Lit.int .i64 n).wf = true) : -9223372036854775808 ≤ n ∧ n < 9223372036854775808 := by
 simp only [Lit.wf, Bool.and_eq_true, decide_eq_true_eq] at h
 have h1 : IntKind.i64.min = -9223372036854775808 := by decide
 have h2 : IntKind.i64.max = 9223372036854775807 := by decide
 omega
/-! ### arguments -/
/-- A value of a type of one cell. -/
theorem arg_one {α : Type} {t : TypeId} {en : α → AV} {Q : α → Prop} (hr : RD Tryd.prog W t 1 (fun a => [en a]) Q) {H : Type} {enc : TypeId × Value → H} {v : Value} {d : DataW H} {ps : List MemPlace} (hv : ∀ cs, v ≠ .agg cs)
  (h : DataW.Trod enc Tryd.prog W 0 (fun _ => true) true t v d ps) (hb : Rows.uptoBulk d ≤ 1048576) : ∃ a : α, Q a ∧ Rep (start W) none (en a) v := by
 obtain ⟨n, h⟩ := h
 obtain ⟨a, q, r, _, _⟩ := hr H enc n _ _ h hb
 refine ⟨a, q, ?_⟩
 simp only [Reps] at r
 obtain ⟨v', vs', e, r, rfl⟩ := r
 have : v.cells.toList = [v] := by
  cases v <;> first | rfl | exact absurd rfl (hv _)
 rw [this] at e
 injection e with e _
 subst e
 exact r
/-- A struct. -/
theorem arg_agg {α : Type} {t : TypeId} {sz : Nat} {en : α → List AV} {Q : α → Prop} (hr : RD Tryd.prog W t sz en Q) {H : Type} {enc : TypeId × Value → H} {v : Value} {d : DataW H} {ps : List MemPlace} (hv : ∃ cs, v = .agg cs)
  (h : DataW.Trod enc Tryd.prog W 0 (fun _ => true) true t v d ps) (hb : Rows.uptoBulk d ≤ 1048576) : ∃ a : α, Q a ∧ Rep (start W) none (.agg (en a)) v := by
 obtain ⟨n, h⟩ := h
 obtain ⟨cs, rfl⟩ := hv
 obtain ⟨a, q, r, _, o⟩ := hr H enc n _ _ h hb
 refine ⟨a, q, ?_⟩
 simp only [Rep]
 exact ⟨cs, rfl, r, o⟩
end Go.Proofs.YtfdgbghlanbddaaDoor.Av
set_option linter.unusedVariables false
set_option linter.unusedSimpArgs false
namespace Go.Proofs.YtfdgbghlanbddaaDoor.Av
open Go.RowKit Go.Proofs Go.Proofs.YtfdgbghlanbddaaDoor Go.Deep
/-! ### what comes in, and how great it is -/
def RDM {α : Type} (B : Nat) (P : Program) (W : World) (t : TypeId) (sz : Nat) (en : α → List AV) (μ : α → Nat) (Q : α → Prop) : Prop :=
 ∀ (H : Type) (enc : TypeId × Value → H) (n : Nat) (cs : List Value) (x : DataW H × List MemPlace), DataW.trod enc P W 0 (fun _ => true) true n t cs = some x → Rows.uptoBulk x.1 ≤ B →
  ∃ a : α, Q a ∧ μ a ≤ Rows.uptoBulk x.1 ∧ Reps (start W) none (en a) cs ∧ (en a).length = sz ∧ ∀ v ∈ cs, v.oneCell' = true
theorem sum_le {H : Type} : ∀ (n : Nat) (f : Nat → Nat) (D : Nat → DataW H), (∀ i, i < n → f i ≤ Rows.uptoBulk (D i)) → ((List.range n).map f).sum ≤ Rows.uptoBulkAll ((List.range n).map D)
 | 0, _, _, _ => by simp
 | n + 1, f, D, h => by
  have ih := sum_le n f D (fun i hi => h i (by omega))
  have happ : ∀ a b : List (DataW H), Rows.uptoBulkAll (a ++ b) = Rows.uptoBulkAll a + Rows.uptoBulkAll b := by
   intro a b
   induction a with
   | nil => simp [Rows.uptoBulkAll]
   | cons x y ih => simp only [List.cons_append, Rows.uptoBulkAll, ih]; omega
  rw [List.range_succ, List.map_append, List.map_append, List.sum_append, happ]
  have := h n (by omega)
  simp only [List.map_cons, List.map_nil, List.sum_cons, List.sum_nil, Rows.uptoBulkAll]
  omega
theorem nodesL_sum (l : List Rx) : (l.map fun r => 4 * r.nodes).sum = 4 * Rx.nodesL l := by
 induction l with
 | nil => simp [Rx.nodesL]
 | cons a t ih => simp only [List.map_cons, List.sum_cons, Rx.nodesL, ih]; omega
theorem rd_sliceM {α : Type} [Inhabited α] {B : Nat} (hB : B ≤ 1048575) {P : Program} {W : World} {t e : TypeId} {sz : Nat} {en : α → List AV} {μ : α → Nat} {Q : α → Prop} (ht : P.underlying t = some (.slice e)) (hc : P.cellsOf e = sz) (hsz : 0 < sz) (he : RDM B P W e sz en μ Q) :
  RDM (B + 1) P W t 1 (fun l : List α => [AV.list sz (l.map en)]) (fun l => (l.map μ).sum + 1) (fun l => ∀ a ∈ l, Q a) := by
 intro H enc n cs x h hb
 rcases open_slice ht h with ⟨rfl, rfl⟩ | ⟨a, len, cap, m, n', D, Pl, rfl, _, hlc, _, hm, rfl, hi⟩
 ·refine ⟨[], by simp, by simp [Rows.uptoBulk], ?_, rfl, by simp [Value.oneCell']⟩
  simp only [Reps, Rep, List.map_nil]
  exact ⟨_, _, rfl, ⟨none, 0, [], rfl, Nat.le_refl _, Nat.zero_le _, by simp only [RepRows], fun e => absurd rfl e⟩, rfl⟩
 ·simp only [if_true] at hm
  subst hm
  simp only [Rows.uptoBulk] at hb
  have hlen : len ≤ 1048576 := by
   have := bulk_len ((List.range len).map D)
   simp only [List.length_map, List.length_range] at this
   omega
  rw [hc] at hi
  have hA : ∀ i, i < len → ∃ b : α, Q b ∧ μ b ≤ Rows.uptoBulk (D i) ∧ (en b).length = sz ∧ ∃ cs', W.cells? 0 (a.add (i * sz)) sz = some cs' ∧ Reps (start W) none (en b) cs' ∧ ∀ v ∈ cs', v.oneCell' = true := by
   intro i hil
   obtain ⟨cs', h1, h2⟩ := hi i (by omega)
   have hbi : Rows.uptoBulk (D i) ≤ B := by
    have := bulk_part (l := (List.range len).map D) (List.mem_map.2 ⟨i, List.mem_range.2 hil, rfl⟩)
    omega
   obtain ⟨b, hQ, hmu, hr, hl, ho⟩ := he H enc n' cs' (D i, Pl i) h2 hbi
   exact ⟨b, hQ, hmu, hl, cs', h1, hr, ho⟩
  obtain ⟨A, hA⟩ := choose_lt hA
  have hsome : ∀ i j, i < len → j < sz → ∃ v, W.cell? (a.add (i * sz + j)) = some v := by
   intro i j hil hj
   obtain ⟨_, _, _, cs', h1, _, _⟩ := hA i hil
   obtain ⟨_, hl, hcell⟩ := World.cells?_some h1
   have := hcell j hj
   rw [addr_add, List.getElem?_eq_getElem (by omega)] at this
   exact ⟨_, this⟩
  refine ⟨(List.range len).map A, fun b hb => ?_, ?_, ?_, rfl, by simp [Value.oneCell']⟩
  ·obtain ⟨i, hil, rfl⟩ := List.mem_map.1 hb
   exact (hA i (List.mem_range.1 hil)).1
  ·have := sum_le len (fun i => μ (A i)) D (fun i hil => (hA i hil).2.1)
   simp only [List.map_map, Rows.uptoBulk]
   simp only [Function.comp_def]
   omega
  ·let vs : List Value := (List.range (len * sz)).map fun j => (W.cell? (a.add j)).getD undef
   have hget : ∀ j, j < len * sz → W.cell? (a.add j) = vs[j]? := by
    intro j hj
    have hdm := Nat.div_add_mod j sz
    obtain ⟨v, hv⟩ := hsome (j / sz) (j % sz) (by rw [Nat.div_lt_iff_lt_mul hsz]; exact hj) (Nat.mod_lt _ hsz)
    rw [show j / sz * sz + j % sz = j by rw [Nat.mul_comm]; exact hdm] at hv
    simp only [vs, List.getElem?_map, List.getElem?_range hj, Option.map_some, hv, Option.getD_some]
   have hrow : ∀ i, i < len → ∃ cs', (vs.drop (i * sz)).take sz = cs' ∧ Reps (start W) none (en (A i)) cs' ∧ ∀ v ∈ cs', v.oneCell' = true := by
    intro i hil
    obtain ⟨_, _, _, cs', h1, h2, h3⟩ := hA i hil
    obtain ⟨_, hl, hcell⟩ := World.cells?_some h1
    refine ⟨cs', ?_, h2, h3⟩
    refine List.ext_getElem? fun j => ?_
    rw [List.getElem?_take]
    by_cases hj : j < sz
    ·rw [if_pos hj, List.getElem?_drop, ← hcell j hj, addr_add]
     have : i * sz + j < len * sz := by
      have : (i + 1) * sz ≤ len * sz := Nat.mul_le_mul_right _ hil
      rw [Nat.succ_mul] at this
      omega
     exact (hget _ this).symm
    ·rw [if_neg hj, List.getElem?_eq_none (by omega)]
   have hone : ∀ v ∈ vs, v.oneCell' = true := by
    intro v hv
    obtain ⟨j, hj⟩ := List.mem_iff_getElem?.1 hv
    have hjl : j < len * sz := by
     have := (List.getElem?_eq_some_iff.1 hj).1
     simpa [vs] using this
    have hdm := Nat.div_add_mod j sz
    have hil : j / sz < len := by rw [Nat.div_lt_iff_lt_mul hsz]; exact hjl
    obtain ⟨cs', h1, _, h3⟩ := hrow (j / sz) hil
    refine h3 v (List.mem_of_getElem? (i := j % sz) ?_)
    rw [← h1, List.getElem?_take, if_pos (Nat.mod_lt _ hsz), List.getElem?_drop, show j / sz * sz + j % sz = j by rw [Nat.mul_comm]; exact hdm]
    exact hj
   have hrr : RepRows (start W) none sz (((List.range len).map A).map en) vs := by
    refine repRows_of (by simp [vs]) (fun i r hr => ?_) hone
    simp only [List.getElem?_map] at hr
    by_cases hil : i < len
    ·rw [List.getElem?_range hil] at hr
     simp only [Option.map_some, Option.some.injEq] at hr
     subst hr
     obtain ⟨cs', h1, h2, _⟩ := hrow i hil
     rw [h1]
     exact ⟨(hA i hil).2.2.1, h2⟩
    ·rw [List.getElem?_eq_none (by simpa using hil)] at hr
     cases hr
   simp only [Reps, Rep]
   refine ⟨_, _, rfl, ⟨some a, m, vs, by simp, by simpa using hlc, by simp [most]; omega, hrr, fun hne => ?_⟩, rfl⟩
   have hpos : 0 < len * sz := by
    rcases Nat.eq_zero_or_pos (len * sz) with h0 | h0
    ·exact absurd (List.length_eq_zero_iff.1 (by simp [vs, h0])) hne
    ·exact h0
   have hlen0 : 0 < len := Nat.pos_of_mul_pos_right hpos
   obtain ⟨v, hv⟩ := hsome 0 0 hlen0 hsz
   have hat := cell_at hv
   have ha0 : a.add (0 * sz + 0) = a := by simp [Addr.add]
   rw [ha0] at hat
   obtain ⟨b, o, sp⟩ := a
   simp only at hat
   obtain ⟨rfl, hbl⟩ := hat
   refine ⟨b, o, rfl, hbl, fun j hj => ?_⟩
   have := hget j (by simpa [vs] using hj)
   rw [← this]
   show W.cell? _ = W.cell? _
   congr 1
   unfold Addr.add
   split
   ·rename_i h0; subst h0; rfl
   ·rfl
section
variable {W : World}
theorem rd_rxM : ∀ B, B ≤ 1048576 → RDM B Tryd.prog W 29 6 Rx.cells (fun r => 4 * r.nodes) Rx.ok := by
 intro B
 induction B using Nat.strongRecOn with
 | _ B ih =>
  intro hB H enc n cs x h hb
  obtain ⟨y0, y1, y2, m, rfl, hl, h0, h1, h2⟩ := trod_struct3 Tryd.underlying29 h
  rw [ce29] at hl
  simp only [ce26, ce3, ce27] at h0 h1 h2
  simp only [Rows.uptoBulk, Rows.uptoBulkAll] at hb
  have b1 := bulk_one y0.1
  have b2 := bulk_one y1.1
  have b3 := bulk_one y2.1
  obtain ⟨k, q0, r0, l0, o0⟩ := rd_i64 (W := W) H enc _ _ _ h0 (by omega)
  obtain ⟨s, q1, r1, l1, o1⟩ := rd_set (W := W) H enc _ _ _ h1 (by omega)
  obtain ⟨l, q2, m2, r2, l2, o2⟩ := rd_sliceM (B := B - 2) (by omega) Tryd.underlying27 ce29 (by decide) (ih (B - 2) (by omega) (by omega)) H enc _ _ _ h2 (by omega)
  refine ⟨.mk k s l, ?_, ?_, ?_, rfl, ?_⟩
  ·simp only [Rx.ok, Rx.oks_iff]
   exact ⟨wf_i64 q0, q1, q2⟩
  ·simp only [Rows.uptoBulk, Rows.uptoBulkAll, Rx.nodes]
   simp only [nodesL_sum] at m2
   omega
  ·have := (r0.append r1).append r2
   have e : (cs.drop 0).take 1 ++ (cs.drop 1).take 4 ++ (cs.drop 5).take 1 = cs := by
    match cs, hl with
    | [c0, c1, c2, c3, c4, c5], _ => rfl
   rw [e] at this
   simp only [Rx.cells, Rx.kind, Rx.set, Rx.args, Rx.rows_eq]
   exact this
  ·match cs, hl with
   | [c0, c1, c2, c3, c4, c5], _ =>
    simp at o0 o1 o2
    simp [o0, o1, o2]
theorem arg_rx {H : Type} {enc : TypeId × Value → H} {v : Value} {d : DataW H} {ps : List MemPlace} (hv : ∃ cs, v = .agg cs)
  (h : DataW.Trod enc Tryd.prog W 0 (fun _ => true) true 29 v d ps) (hb : Rows.uptoBulk d ≤ 1048576) : ∃ r : Rx, (r.ok ∧ r.nodes ≤ 262144) ∧ Rep (start W) none (.agg r.cells) v := by
 obtain ⟨n, h⟩ := h
 obtain ⟨cs, rfl⟩ := hv
 obtain ⟨a, q, hm, r, _, o⟩ := rd_rxM 1048576 (Nat.le_refl _) H enc n _ _ h hb
 refine ⟨a, ⟨q, ?_⟩, ?_⟩
 ·simp only at hm; omega
 ·simp only [Rep]
  exact ⟨cs, rfl, r, o⟩
end
end Go.Proofs.YtfdgbghlanbddaaDoor.Av
set_option linter.unusedVariables false
set_option linter.unusedSimpArgs false
set_option maxRecDepth 8000
namespace Go.Proofs.YtfdgbghlanbddaaDoor.Av
open Go.RowKit Go.Proofs Go.Proofs.YtfdgbghlanbddaaDoor Go.Deep Go.ChangeShapes Go.WideShapes Go.ChangeAt
theorem laidOut : laidOutB Tryd.prog = true := by kernel_rfl
def readsB (P : Program) (ts : List Nat) : Bool := ts.all fun t => P.readableRec t && decide (t < P.types.size)
theorem args_stay {H : Type} {enc : TypeId × Value → H} {P : Program} (hl : laidOutB P = true) {W W' : World} (hb : Below W.heap.size W W') : ∀ (ts : List TypeId) {vs : List Value} {ds : List (DataW H)} {ps : List MemPlace}, readsB P ts = true → (∀ p ∈ ps, p.block < W.heap.size) →
  DataW.TrodAll enc P W 0 (fun _ => true) true ts vs ds ps → DataW.TrodAll enc P W' 0 (fun b => decide (b < W.heap.size)) true ts vs ds ps := by
 intro ts
 induction ts with
 | nil =>
  intro vs ds ps _ _ h
  obtain ⟨rfl, rfl, rfl⟩ := trodAll_nil h
  exact trodAll_mk0
 | cons t ts ih =>
  intro vs ds ps hr hlt h
  obtain ⟨v, vs', d, ds', p, q, rfl, rfl, rfl, h0, h1⟩ := trodAll_cons h
  simp only [readsB, List.all_cons, Bool.and_eq_true, decide_eq_true_eq] at hr
  exact trodAll_cons_mk (Below.trod hl hr.1.1 hr.1.2 h0 hb (fun x hx => hlt x (by simp [hx]))) (ih hr.2 (fun x hx => hlt x (by simp [hx])) h1)
/-- What a law's contract gives: it answers true, all that was there is al' it was. -/
theorem law_post {fid : Nat} {f : Func} {s : ChangeSpec} {H : Type} {enc : TypeId × Value → H} {W : World} {args : Array Value} {ds gs : List (DataW H)} {before : List MemPlace} {avs : List AV}
  (hres : f.resultTypes = #[4]) (hvars : s.vars = []) (hr : readsB Tryd.prog f.params.toList = true) (hW : DataW.Whole enc Tryd.prog f.params.toList s.vars false W args.toList ds gs before)
  (h1 : (s.fn H (ds ++ gs)).results = [.lit (.bool true)]) (h2 : (s.fn H (ds ++ gs)).args = ds) (h3 : (s.fn H (ds ++ gs)).vars = [])
  (hc : ACalls Tryd.prog W fid avs [] fun r es' => r = .bool true) (hrep : Reps (start W) none avs args.toList) :
  Calls Tryd.prog fid args W fun e W' => ∃ v, e = .returned v ∧ s.post enc Tryd.prog f false true false false W args v W' := by
 refine (hc (start W) args (ok_start W) (hrep.up _)).mono fun e w' ⟨v, c', es', r, he, hw, _, ok, hv, hr'⟩ => ⟨v, he, ?_⟩
 subst hr'
 simp only [Rep] at hv
 subst hv
 subst hw
 have hb := ok.below
 have hW' := hW
 obtain ⟨p, q, hA, hV, rfl, _, _⟩ := hW
 rw [hvars] at hV
 obtain ⟨rfl, rfl⟩ := trodVars_none hV
 refine ⟨ds, [], p ++ [], [], p, [], hW', ?_, ?_, ?_, hb.frame _, fun h => by cases h⟩
 ·rw [hres, h1]
  exact trodAll_cons_mk (shut_bool Tryd.underlying4 _) trodAll_mk0
 ·rw [h2]
  exact args_stay laidOut hb _ hr (fun x hx => hW'.lt x (by simpa using hx)) hA
 ·rw [h3, hvars]
  rfl
theorem ownk : ownKnob Tryd.prog.godebug = none := by kernel_rfl
theorem bulk_of {H : Type} {l : List (DataW H)} (hk : Rows.uptoSmall H l = true) : Rows.uptoBulkAll l ≤ 1048576 := by simpa [Rows.uptoSmall] using hk
/-- What the types of the arguments say of their outermost form. -/
theorem okw_slice {W : World} {base : Nat} {t e : TypeId} {v : Value} (ht : Tryd.prog.underlying t = some (.slice e)) (h : Value.okWide Tryd.prog W .any base t v) : ∀ cs, v ≠ .agg cs := by
 rintro cs rfl
 simp [Value.okWide, ht, Cell.okWide, Cell.ok] at h
theorem okw_int {W : World} {base : Nat} {t : TypeId} {k : IntKind} {v : Value} (ht : Tryd.prog.underlying t = some (.int k)) (h : Value.okWide Tryd.prog W .any base t v) : ∀ cs, v ≠ .agg cs := by
 rintro cs rfl
 simp [Value.okWide, ht, Cell.okWide, Cell.ok] at h
theorem okw_agg {W : World} {base : Nat} {t : TypeId} {fs : Array Field} {v : Value} (ht : Tryd.prog.underlying t = some (.struct fs)) (h : Value.okWide Tryd.prog W .any base t v) : ∃ cs, v = .agg cs := by
 simp only [Value.okWide, ht] at h
 obtain ⟨cs, rfl, _⟩ := h
 exact ⟨cs, rfl⟩
/-- A world for the witness: the settled one, the table (block 0) holding what its initialiser lays. -/
noncomputable def table : Array Value := #[.int .u8 0, .int .u8 1, .int .u8 56, .int .u8 2, .int .u8 57, .int .u8 49, .int .u8 28, .int .u8 3, .int .u8 61, .int .u8 58, .int .u8 42, .int .u8 50, .int .u8 38, .int .u8 29, .int .u8 17, .int .u8 4, .int .u8 62, .int .u8 47, .int .u8 59, .int .u8 36, .int .u8 45, .int .u8 43, .int .u8 51, .int .u8 22, .int .u8 53, .int .u8 39, .int .u8 33, .int .u8 30, .int .u8 24, .int .u8 18, .int .u8 12, .int .u8 5, .int .u8 63, .int .u8 55, .int .u8 48, .int .u8 27, .int .u8 60, .int .u8 41, .int .u8 37, .int .u8 16, .int .u8 46, .int .u8 35, .int .u8 44, .int .u8 21, .int .u8 52, .int .u8 32, .int .u8 23, .int .u8 11, .int .u8 54, .int .u8 26, .int .u8 40, .int .u8 15, .int .u8 34, .int .u8 20, .int .u8 31, .int .u8 10, .int .u8 25, .int .u8 14, .int .u8 19, .int .u8 9, .int .u8 13, .int .u8 8, .int .u8 7, .int .u8 6]
noncomputable def laidWorld (os : Os) : World :=
 { World.holding Tryd.prog os ⟨#[], #[], []⟩ with heap := (World.holding Tryd.prog os ⟨#[], #[], []⟩).heap.modify 0 fun
   | .cells _ t frozen => .cells table t frozen
   | o => o }
end Go.Proofs.YtfdgbghlanbddaaDoor.Av
set_option maxRecDepth 100000
namespace Go.Proofs.YtfdgbghlanbddaaDoor.Av
open Go.Proofs Go.Proofs.YtfdgbghlanbddaaDoor
theorem tab_global : Tryd.prog.globalNamed "math/bits.deBruijn64tab" = some 0 := by kernel_rfl
theorem tab_type : (Tryd.prog.globals[0]?).map (·.type) = some 171 := by kernel_rfl
theorem tab_und : Tryd.prog.underlying 171 = some (.array 64 5) := by kernel_rfl
theorem tab_u8 : Tryd.prog.underlying 5 = some (.int .u8) := by kernel_rfl
theorem tab_c5 : Tryd.prog.cellsOf 5 = 1 := by kernel_rfl
theorem tab_c171 : Tryd.prog.cellsOf 171 = 64 := by kernel_rfl
theorem tab_data : (Rows.laid_math_bits_deBruijn64tab : DataW Unit) = Lib.tabData .u8 (Lib.deBruijn64tab.map Int.ofNat) := rfl
/-- The table is al' it was laid. -/
theorem tab_in {W : World} (h : laidMetH Tryd.prog [("math/bits.deBruijn64tab", Rows.laid_math_bits_deBruijn64tab)] W) : Tab W := by
 have h1 : laidMet Tryd.prog [("math/bits.deBruijn64tab", Rows.laid_math_bits_deBruijn64tab)] W := h
 rw [tab_data] at h1
 have ht := Lib.tabIs_of_head tab_global tab_type tab_und tab_u8 tab_c5 tab_c171 h1
 have hc : ∀ i, i < 64 → W.cell? ⟨0, i, none⟩ = some (.int .u8 (Lib.deBruijn64tab.getD i 0 : Nat)) := by
  intro i hi
  have hl : Lib.deBruijn64tab.length = 64 := rfl
  rw [ht.cell tab_global i (by rw [List.length_map, hl]; exact hi)]
  have : i < Lib.deBruijn64tab.length := by omega
  simp [List.getD, this]
 exact ⟨(cell_at (hc 0 (by omega))).2, hc⟩
end Go.Proofs.YtfdgbghlanbddaaDoor.Av
set_option maxRecDepth 100000
namespace Go.Proofs.YtfdgbghlanbddaaDoor.Av
open Go.Proofs Go.Proofs.YtfdgbghlanbddaaDoor
theorem io : Tryd.prog.initOrder = "harness d8d313f7324173a1e48e18dbbd53aea0b652cc2db0b3cb826d55cdaae13b972b cut at scriptory/scriptorylaw9.ThompsonBuilds scriptory/scriptorylaw9.ThompsonRefuses scriptory/scriptorylaw9.ThompsonCloses scriptory/scriptorylaw9.ThompsonJoins scriptory/scriptorylaw9.ThompsonRuns scriptory/scriptorylaw9.ThompsonGoes scriptory/scriptorylaw10.SubsetAll scriptory/scriptorylaw10.SubsetMade scriptory/scriptorylaw10.SubsetRuns scriptory/scriptorylaw10.SubsetBudget scriptory/scriptorylaw10.SubsetReach scriptory/scriptorylaw10.SubsetStep scriptory/scriptorylaw8.LangAll scriptory/scriptorylaw8.LangMade scriptory/scriptorylaw8.LangSteps scriptory/scriptorylaw8.LangMeans scriptory/scriptorylaw8.LangFirst scriptory/scriptorylaw8.LangStar scriptory/scriptorylaw8.LangSame scriptory/scriptorylaw8.LangNone" := by kernel_rfl
def headChars : List Char := [104, 97, 114, 110, 101, 115, 115, 32, 100, 56, 100, 51, 49, 51, 102, 55, 51, 50, 52, 49, 55, 51, 97, 49, 101, 52, 56, 101, 49, 56, 100, 98, 98, 100, 53, 51, 97, 101, 97, 48, 98, 54, 53, 50, 99, 99, 50, 100, 98, 48, 98, 51, 99, 98, 56, 50, 54, 100, 53, 53, 99, 100, 97, 97, 101, 49, 51, 98, 57, 55, 50, 98, 32, 99, 117, 116, 32, 97, 116, 32, 115, 99, 114, 105, 112, 116, 111, 114, 121, 47, 115, 99, 114, 105, 112, 116, 111, 114, 121, 108, 97, 119, 57, 46, 84, 104, 111, 109, 112, 115, 111, 110, 66, 117, 105, 108, 100, 115, 32, 115, 99, 114, 105, 112, 116, 111, 114, 121, 47, 115, 99, 114, 105, 112, 116, 111, 114, 121, 108, 97, 119, 57, 46, 84, 104, 111, 109, 112, 115, 111, 110, 82, 101, 102, 117, 115, 101, 115, 32, 115, 99, 114, 105, 112, 116, 111, 114, 121, 47, 115, 99, 114, 105, 112, 116, 111, 114, 121, 108, 97, 119, 57, 46, 84, 104, 111, 109, 112, 115, 111, 110, 67, 108, 111, 115, 101, 115, 32, 115, 99, 114, 105, 112, 116, 111, 114, 121, 47, 115, 99, 114, 105, 112, 116, 111, 114, 121, 108, 97, 119, 57, 46, 84, 104, 111, 109, 112, 115, 111, 110, 74, 111, 105, 110, 115, 32, 115, 99, 114, 105, 112, 116, 111, 114, 121, 47, 115, 99, 114, 105, 112, 116, 111, 114, 121, 108, 97, 119, 57, 46, 84, 104, 111, 109, 112, 115, 111, 110, 82, 117, 110, 115, 32, 115, 99, 114, 105, 112, 116, 111, 114, 121, 47, 115, 99, 114, 105, 112, 116, 111, 114, 121, 108, 97, 119, 57, 46, 84, 104, 111, 109, 112, 115, 111, 110, 71, 111, 101, 115, 32, 115, 99, 114, 105, 112, 116, 111, 114, 121, 47, 115, 99, 114, 105, 112, 116, 111, 114, 121, 108, 97, 119, 49, 48, 46, 83, 117, 98, 115, 101, 116, 65, 108, 108, 32, 115, 99, 114, 105, 112, 116, 111, 114, 121, 47, 115, 99, 114, 105, 112, 116, 111, 114, 121, 108, 97, 119, 49, 48, 46, 83, 117, 98, 115, 101, 116, 77, 97, 100, 101, 32, 115, 99, 114, 105, 112, 116, 111, 114, 121, 47, 115, 99, 114, 105, 112, 116, 111, 114, 121, 108, 97, 119, 49, 48, 46, 83, 117, 98, 115, 101, 116, 82, 117, 110, 115, 32, 115, 99, 114, 105, 112, 116, 111, 114, 121, 47, 115, 99, 114, 105, 112, 116, 111, 114, 121, 108, 97, 119, 49, 48, 46, 83, 117, 98, 115, 101, 116, 66, 117, 100, 103, 101, 116, 32, 115, 99, 114, 105, 112, 116, 111, 114, 121, 47, 115, 99, 114, 105, 112, 116, 111, 114, 121, 108, 97, 119, 49, 48, 46, 83, 117, 98, 115, 101, 116, 82, 101, 97, 99, 104, 32, 115, 99, 114, 105, 112, 116, 111, 114, 121, 47, 115, 99, 114, 105, 112, 116, 111, 114, 121, 108, 97, 119, 49, 48, 46, 83, 117, 98, 115, 101, 116, 83, 116, 101, 112, 32, 115, 99, 114, 105, 112, 116, 111, 114, 121, 47, 115, 99, 114, 105, 112, 116, 111, 114, 121, 108, 97, 119, 56, 46, 76, 97, 110, 103, 65, 108, 108, 32, 115, 99, 114, 105, 112, 116, 111, 114, 121, 47, 115, 99, 114, 105, 112, 116, 111, 114, 121, 108, 97, 119, 56, 46, 76, 97, 110, 103, 77, 97, 100, 101, 32, 115, 99, 114, 105, 112, 116, 111, 114, 121, 47, 115, 99, 114, 105, 112, 116, 111, 114, 121, 108, 97, 119, 56, 46, 76, 97, 110, 103, 83, 116, 101, 112, 115, 32, 115, 99, 114, 105, 112, 116, 111, 114, 121, 47, 115, 99, 114, 105, 112, 116, 111, 114, 121, 108, 97, 119, 56, 46, 76, 97, 110, 103, 77, 101, 97, 110, 115, 32, 115, 99, 114, 105, 112, 116, 111, 114, 121, 47, 115, 99, 114, 105, 112, 116, 111, 114, 121, 108, 97, 119, 56, 46, 76, 97, 110, 103, 70, 105, 114, 115, 116, 32, 115, 99, 114, 105, 112, 116, 111, 114, 121, 47, 115, 99, 114, 105, 112, 116, 111, 114, 121, 108, 97, 119, 56, 46, 76, 97, 110, 103, 83, 116, 97, 114, 32, 115, 99, 114, 105, 112, 116, 111, 114, 121, 47, 115, 99, 114, 105, 112, 116, 111, 114, 121, 108, 97, 119, 56, 46, 76, 97, 110, 103, 83, 97, 109, 101, 32, 115, 99, 114, 105, 112, 116, 111, 114, 121, 47, 115, 99, 114, 105, 112, 116, 111, 114, 121, 108, 97, 119, 56, 46, 76, 97, 110, 103, 78, 111, 110, 101].map Char.ofNat
theorem iol : Tryd.prog.initOrder.toList = headChars := by
 rw [io]
 exact String.toList_ofList
def headWords : List (List Char) := [[104, 97, 114, 110, 101, 115, 115], [100, 56, 100, 51, 49, 51, 102, 55, 51, 50, 52, 49, 55, 51, 97, 49, 101, 52, 56, 101, 49, 56, 100, 98, 98, 100, 53, 51, 97, 101, 97, 48, 98, 54, 53, 50, 99, 99, 50, 100, 98, 48, 98, 51, 99, 98, 56, 50, 54, 100, 53, 53, 99, 100, 97, 97, 101, 49, 51, 98, 57, 55, 50, 98], [99, 117, 116], [97, 116], [115, 99, 114, 105, 112, 116, 111, 114, 121, 47, 115, 99, 114, 105, 112, 116, 111, 114, 121, 108, 97, 119, 57, 46, 84, 104, 111, 109, 112, 115, 111, 110, 66, 117, 105, 108, 100, 115], [115, 99, 114, 105, 112, 116, 111, 114, 121, 47, 115, 99, 114, 105, 112, 116, 111, 114, 121, 108, 97, 119, 57, 46, 84, 104, 111, 109, 112, 115, 111, 110, 82, 101, 102, 117, 115, 101, 115], [115, 99, 114, 105, 112, 116, 111, 114, 121, 47, 115, 99, 114, 105, 112, 116, 111, 114, 121, 108, 97, 119, 57, 46, 84, 104, 111, 109, 112, 115, 111, 110, 67, 108, 111, 115, 101, 115], [115, 99, 114, 105, 112, 116, 111, 114, 121, 47, 115, 99, 114, 105, 112, 116, 111, 114, 121, 108, 97, 119, 57, 46, 84, 104, 111, 109, 112, 115, 111, 110, 74, 111, 105, 110, 115], [115, 99, 114, 105, 112, 116, 111, 114, 121, 47, 115, 99, 114, 105, 112, 116, 111, 114, 121, 108, 97, 119, 57, 46, 84, 104, 111, 109, 112, 115, 111, 110, 82, 117, 110, 115], [115, 99, 114, 105, 112, 116, 111, 114, 121, 47, 115, 99, 114, 105, 112, 116, 111, 114, 121, 108, 97, 119, 57, 46, 84, 104, 111, 109, 112, 115, 111, 110, 71, 111, 101, 115], [115, 99, 114, 105, 112, 116, 111, 114, 121, 47, 115, 99, 114, 105, 112, 116, 111, 114, 121, 108, 97, 119, 49, 48, 46, 83, 117, 98, 115, 101, 116, 65, 108, 108], [115, 99, 114, 105, 112, 116, 111, 114, 121, 47, 115, 99, 114, 105, 112, 116, 111, 114, 121, 108, 97, 119, 49, 48, 46, 83, 117, 98, 115, 101, 116, 77, 97, 100, 101], [115, 99, 114, 105, 112, 116, 111, 114, 121, 47, 115, 99, 114, 105, 112, 116, 111, 114, 121, 108, 97, 119, 49, 48, 46, 83, 117, 98, 115, 101, 116, 82, 117, 110, 115], [115, 99, 114, 105, 112, 116, 111, 114, 121, 47, 115, 99, 114, 105, 112, 116, 111, 114, 121, 108, 97, 119, 49, 48, 46, 83, 117, 98, 115, 101, 116, 66, 117, 100, 103, 101, 116], [115, 99, 114, 105, 112, 116, 111, 114, 121, 47, 115, 99, 114, 105, 112, 116, 111, 114, 121, 108, 97, 119, 49, 48, 46, 83, 117, 98, 115, 101, 116, 82, 101, 97, 99, 104], [115, 99, 114, 105, 112, 116, 111, 114, 121, 47, 115, 99, 114, 105, 112, 116, 111, 114, 121, 108, 97, 119, 49, 48, 46, 83, 117, 98, 115, 101, 116, 83, 116, 101, 112], [115, 99, 114, 105, 112, 116, 111, 114, 121, 47, 115, 99, 114, 105, 112, 116, 111, 114, 121, 108, 97, 119, 56, 46, 76, 97, 110, 103, 65, 108, 108], [115, 99, 114, 105, 112, 116, 111, 114, 121, 47, 115, 99, 114, 105, 112, 116, 111, 114, 121, 108, 97, 119, 56, 46, 76, 97, 110, 103, 77, 97, 100, 101], [115, 99, 114, 105, 112, 116, 111, 114, 121, 47, 115, 99, 114, 105, 112, 116, 111, 114, 121, 108, 97, 119, 56, 46, 76, 97, 110, 103, 83, 116, 101, 112, 115], [115, 99, 114, 105, 112, 116, 111, 114, 121, 47, 115, 99, 114, 105, 112, 116, 111, 114, 121, 108, 97, 119, 56, 46, 76, 97, 110, 103, 77, 101, 97, 110, 115], [115, 99, 114, 105, 112, 116, 111, 114, 121, 47, 115, 99, 114, 105, 112, 116, 111, 114, 121, 108, 97, 119, 56, 46, 76, 97, 110, 103, 70, 105, 114, 115, 116], [115, 99, 114, 105, 112, 116, 111, 114, 121, 47, 115, 99, 114, 105, 112, 116, 111, 114, 121, 108, 97, 119, 56, 46, 76, 97, 110, 103, 83, 116, 97, 114], [115, 99, 114, 105, 112, 116, 111, 114, 121, 47, 115, 99, 114, 105, 112, 116, 111, 114, 121, 108, 97, 119, 56, 46, 76, 97, 110, 103, 83, 97, 109, 101], [115, 99, 114, 105, 112, 116, 111, 114, 121, 47, 115, 99, 114, 105, 112, 116, 111, 114, 121, 108, 97, 119, 56, 46, 76, 97, 110, 103, 78, 111, 110, 101]].map fun l : List Nat => l.map Char.ofNat
theorem iow : wordsSigns headChars = headWords := by kernel_rfl
end Go.Proofs.YtfdgbghlanbddaaDoor.Av
set_option maxRecDepth 100000
namespace Go.Proofs.YtfdgbghlanbddaaDoor.Av
open Go.Proofs Go.Proofs.YtfdgbghlanbddaaDoor
theorem tl_finals : "finals".toList = ([102, 105, 110, 97, 108, 115].map Char.ofNat) := String.toList_ofList
theorem tl_reflectrows : "reflectrows".toList = ([114, 101, 102, 108, 101, 99, 116, 114, 111, 119, 115].map Char.ofNat) := String.toList_ofList
theorem tl_leanrows : "leanrows".toList = ([108, 101, 97, 110, 114, 111, 119, 115].map Char.ofNat) := String.toList_ofList
theorem tl_onebuild : "onebuild".toList = ([111, 110, 101, 98, 117, 105, 108, 100].map Char.ofNat) := String.toList_ofList
theorem tl_publicsums : "publicsums".toList = ([112, 117, 98, 108, 105, 99, 115, 117, 109, 115].map Char.ofNat) := String.toList_ofList
theorem tl_eqguard : "eqguard".toList = ([101, 113, 103, 117, 97, 114, 100].map Char.ofNat) := String.toList_ofList
theorem tl_ownunsafe : "ownunsafe".toList = ([111, 119, 110, 117, 110, 115, 97, 102, 101].map Char.ofNat) := String.toList_ofList
theorem tl_libbeside : "libbeside".toList = ([108, 105, 98, 98, 101, 115, 105, 100, 101].map Char.ofNat) := String.toList_ofList
theorem tl_ownbeside : "ownbeside".toList = ([111, 119, 110, 98, 101, 115, 105, 100, 101].map Char.ofNat) := String.toList_ofList
theorem tl_reflbeside : "reflbeside".toList = ([114, 101, 102, 108, 98, 101, 115, 105, 100, 101].map Char.ofNat) := String.toList_ofList
theorem tl_aliases : "aliases".toList = ([97, 108, 105, 97, 115, 101, 115].map Char.ofNat) := String.toList_ofList
theorem tl_afterinit : "afterinit".toList = ([97, 102, 116, 101, 114, 105, 110, 105, 116].map Char.ofNat) := String.toList_ofList
theorem tl_crcplain : "crcplain".toList = ([99, 114, 99, 112, 108, 97, 105, 110].map Char.ofNat) := String.toList_ofList
theorem tl_roadunsafe : "roadunsafe".toList = ([114, 111, 97, 100, 117, 110, 115, 97, 102, 101].map Char.ofNat) := String.toList_ofList
theorem tl_fmthandon : "fmthandon".toList = ([102, 109, 116, 104, 97, 110, 100, 111, 110].map Char.ofNat) := String.toList_ofList
theorem tl_harness : "harness".toList = ([104, 97, 114, 110, 101, 115, 115].map Char.ofNat) := String.toList_ofList
theorem tl_ownmain : "ownmain".toList = ([111, 119, 110, 109, 97, 105, 110].map Char.ofNat) := String.toList_ofList
theorem tl_gc : "gc".toList = ([103, 99].map Char.ofNat) := String.toList_ofList
theorem tl_spec : "spec".toList = ([115, 112, 101, 99].map Char.ofNat) := String.toList_ofList
theorem tl_carried : "carried".toList = ([99, 97, 114, 114, 105, 101, 100].map Char.ofNat) := String.toList_ofList
theorem tl_cut : "cut".toList = ([99, 117, 116].map Char.ofNat) := String.toList_ofList
theorem tl_sum : "d8d313f7324173a1e48e18dbbd53aea0b652cc2db0b3cb826d55cdaae13b972b".toList = ([100, 56, 100, 51, 49, 51, 102, 55, 51, 50, 52, 49, 55, 51, 97, 49, 101, 52, 56, 101, 49, 56, 100, 98, 98, 100, 53, 51, 97, 101, 97, 48, 98, 54, 53, 50, 99, 99, 50, 100, 98, 48, 98, 51, 99, 98, 56, 50, 54, 100, 53, 53, 99, 100, 97, 97, 101, 49, 51, 98, 57, 55, 50, 98].map Char.ofNat) := String.toList_ofList
end Go.Proofs.YtfdgbghlanbddaaDoor.Av
set_option maxRecDepth 100000
namespace Go.Proofs.YtfdgbghlanbddaaDoor.Av
open Go.Proofs Go.Proofs.YtfdgbghlanbddaaDoor
theorem words_ok : wordsSigns Tryd.prog.initOrder.toList = headWords := (congrArg wordsSigns iol).trans iow
theorem main_gen {P : Program} {h s : List Char} {r : List (List Char)} (hw : wordsSigns P.initOrder.toList = h :: s :: r) (hs : isSumSigns s = true) (hh : (h == "harness".toList) = true) : P.mainIs = some (true, s) := by
 unfold Program.mainIs
 rw [hw]
 simp only [hs, hh, Bool.not_true, Bool.false_eq_true, if_false, if_true]
theorem main_ok : Tryd.prog.mainIs = some (true, "d8d313f7324173a1e48e18dbbd53aea0b652cc2db0b3cb826d55cdaae13b972b".toList) := by
 rw [tl_sum]
 exact main_gen (h := (([104, 97, 114, 110, 101, 115, 115] : List Nat).map Char.ofNat)) (s := (([100, 56, 100, 51, 49, 51, 102, 55, 51, 50, 52, 49, 55, 51, 97, 49, 101, 52, 56, 101, 49, 56, 100, 98, 98, 100, 53, 51, 97, 101, 97, 48, 98, 54, 53, 50, 99, 99, 50, 100, 98, 48, 98, 51, 99, 98, 56, 50, 54, 100, 53, 53, 99, 100, 97, 97, 101, 49, 51, 98, 57, 55, 50, 98] : List Nat).map Char.ofNat)) (r := headWords.drop 2) words_ok (by kernel_rfl) (by rw [tl_harness]; kernel_rfl)
theorem behind_ok : behindMainWord headWords = headWords.drop 2 := by
 unfold behindMainWord
 rw [tl_harness, tl_ownmain]
 kernel_rfl
theorem behind_words : behindMainWord (wordsSigns Tryd.prog.initOrder.toList) = headWords.drop 2 := by rw [words_ok, behind_ok]
theorem strip_none {w : List Char} {ws : List (List Char)} : ∀ {os : List String}, (∀ o ∈ os, (w == o.toList) = false) → stripLifts os (w :: ws) = ([], w :: ws)
 | [], _ => rfl
 | o :: os, h => by
  unfold stripLifts
  rw [if_neg (by rw [h o (by simp)]; decide)]
  exact strip_none fun x hx => h x (by simp [hx])
theorem strip_ok : stripLifts liftWords (headWords.drop 2) = ([], headWords.drop 2) := by
 show stripLifts liftWords (([99, 117, 116].map Char.ofNat) :: headWords.drop 3) = ([], ([99, 117, 116].map Char.ofNat) :: headWords.drop 3)
 refine strip_none fun o ho => ?_
 simp only [liftWords, List.mem_cons, List.not_mem_nil, or_false] at ho
 rcases ho with rfl | rfl | rfl | rfl | rfl | rfl | rfl | rfl | rfl | rfl | rfl | rfl | rfl | rfl | rfl
 all_goals first | (rw [tl_finals]; kernel_rfl) | (rw [tl_reflectrows]; kernel_rfl) | (rw [tl_leanrows]; kernel_rfl) | (rw [tl_onebuild]; kernel_rfl) | (rw [tl_publicsums]; kernel_rfl) | (rw [tl_eqguard]; kernel_rfl) | (rw [tl_ownunsafe]; kernel_rfl) | (rw [tl_libbeside]; kernel_rfl) | (rw [tl_ownbeside]; kernel_rfl) | (rw [tl_reflbeside]; kernel_rfl) | (rw [tl_aliases]; kernel_rfl) | (rw [tl_afterinit]; kernel_rfl) | (rw [tl_crcplain]; kernel_rfl) | (rw [tl_roadunsafe]; kernel_rfl) | (rw [tl_fmthandon]; kernel_rfl)
theorem later_no : Tryd.prog.laysLater = false := by kernel_rfl
theorem reflect_no : Tryd.prog.bearsReflect = false := by kernel_rfl
theorem door_ok : Tryd.prog.doorFits [] = true := by kernel_rfl
theorem head_lifts : Tryd.prog.headLifts = [] := by
 unfold Program.headLifts
 simp only [behind_words, strip_ok, tl_cut]
 kernel_rfl
theorem cut_ok : (([99, 117, 116] : List Nat).map Char.ofNat == "cut".toList) = true := by rw [tl_cut]; kernel_rfl
theorem enter_gen {P : Program} {c : List Char} {rest : List (List Char)} (hw : behindMainWord (wordsSigns P.initOrder.toList) = c :: rest) (hs : stripLifts liftWords (c :: rest) = ([], c :: rest)) (hc : (c == "cut".toList) = true) (h1 : P.laysLater = false) (h2 : P.bearsReflect = false) (h3 : P.doorFits [] = true) : P.mayEnter = true := by
 have hc2 : (some c == some "cut".toList) = true := hc
 unfold Program.mayEnter
 rw [hw]
 simp only [hs, h1, h2, h3, List.head?_cons, hc2, Bool.not_false, Bool.or_true, Bool.and_true, Bool.true_and]
 simp
theorem enter_ok : Tryd.prog.mayEnter = true := enter_gen (c := ([99, 117, 116] : List Nat).map Char.ofNat) (rest := headWords.drop 3) behind_words strip_ok cut_ok later_no reflect_no door_ok
theorem lifts_gen {P : Program} (hl : P.headLifts = []) {c : List Char} {rest : List (List Char)} (hw : behindMainWord (wordsSigns P.initOrder.toList) = c :: rest) (hc : (c == "carried".toList) = false) : P.liftsFinal = false := by
 have hc2 : (some c == some "carried".toList) = false := hc
 unfold Program.liftsFinal
 rw [hw, hl]
 simp only [List.head?_cons, hc2, Bool.false_and, Bool.false_or]
 rfl
theorem lifts_ok : Tryd.prog.liftsFinal = false := lifts_gen head_lifts (c := ([99, 117, 116] : List Nat).map Char.ofNat) (rest := headWords.drop 3) behind_words (by rw [tl_carried]; kernel_rfl)
theorem make_gen {P : Program} {c : List Char} {rest : List (List Char)} (hw : behindMainWord (wordsSigns P.initOrder.toList) = c :: rest) (h1 : (c == "gc".toList) = false) (h2 : (c == "spec".toList) = false) (hc : (c == "cut".toList) = true) : P.make = some .cut := by
 unfold Program.make
 rw [hw]
 simp only [h1, h2, hc, Bool.or_false, Bool.true_or, Bool.false_eq_true, if_false, if_true]
theorem make_ok : Tryd.prog.make = some .cut := make_gen (c := ([99, 117, 116] : List Nat).map Char.ofNat) (rest := headWords.drop 3) behind_words (by rw [tl_gc]; kernel_rfl) (by rw [tl_spec]; kernel_rfl) cut_ok
end Go.Proofs.YtfdgbghlanbddaaDoor.Av
set_option maxRecDepth 100000
namespace Go.Proofs.YtfdgbghlanbddaaDoor.Av
open Go.Proofs Go.Proofs.YtfdgbghlanbddaaDoor
theorem rowed_ok : mapsRowed Tryd.prog = true := by kernel_rfl
theorem heard_ok : Tryd.prog.stopsHeard = true := by kernel_rfl
/-- What a row asks of the program, in parts. -/
theorem facts_of {f : FuncId} {fn : Func} {s : ChangeSpec} {c : OpenClaim} (h1 : c.wf (OpenSpec.ofChange s) = true) (h2 : (fn.params.all (Tryd.prog.readableRec ·) && namedTie Tryd.prog c.named s.vars) = true)
  (h3 : ((c.stops == []) && (Tryd.prog.stops == []) && (c.knobs == []) && (Tryd.prog.stopKnobs == [])) = true) (h4 : (c.inPlace == Tryd.prog.inPlace f) = true) (h5 : (c.unfollowed == Tryd.prog.unfollowed f) = true) (h6 : (c.recurses == Tryd.prog.recurses f) = true) (h7 : (c.named == Tryd.prog.varsNamed f) = true)
  (h8 : ((c.maps == (fn.params.toList ++ s.plain.varTypes Tryd.prog).any (Tryd.prog.mapsRec ·)) && (c.ifaces == (fn.params.toList ++ s.plain.varTypes Tryd.prog).any (Tryd.prog.ifacesRec ·)) && (c.mapsOut == Tryd.prog.mapsAmong fn.resultTypes.toList) &&
   (c.loops == (fn.params.toList ++ s.plain.varTypes Tryd.prog).any (Tryd.prog.loopsFrom ·)) && (c.wideKeys == (fn.params.toList ++ s.plain.varTypes Tryd.prog ++ fn.resultTypes.toList).any (Tryd.prog.wideKeysFrom ·)) &&
   s.vars.all (Tryd.prog.varReadable ·) && fn.resultTypes.all (fun t => Tryd.prog.readableRec t && decide (t < Tryd.prog.types.size)) && (c.ifacesOut == fn.resultTypes.toList.any (Tryd.prog.ifacesRec ·)) && (c.loopsOut == fn.resultTypes.toList.any (Tryd.prog.loopsFrom ·)) && (c.plainKeys == Tryd.prog.plainKeys) && c.shortTexts.isNone) = true)
  (hl : c.lifted = false) (hm : c.make = .cut)
  (h9 : ((c.kinds == (if c.domain.isEmpty then [] else fn.params.toList.map fun t => match Tryd.prog.underlying t with | some (.int k) => some k | _ => none)) && (c.pinned == c.pinnedBy) &&
   (c.veiled == (fn.params.toList ++ s.plain.varTypes Tryd.prog ++ fn.resultTypes.toList).any (Tryd.prog.veiledRec ·)) && c.veiledFits Tryd.prog fn.params.toList (fn.params.toList ++ s.plain.varTypes Tryd.prog ++ fn.resultTypes.toList)) = true) : joinedFacts Tryd.prog f fn s c = true := by
 have a1 : (c.lifted == Tryd.prog.liftsFinal) = true := by rw [hl, lifts_ok]; simp
 have a2 : (Tryd.prog.make == some c.make) = true := by rw [hm, make_ok]; simp
 simp only [Bool.and_eq_true] at h2 h3 h8 h9
 simp only [joinedFacts, Bool.and_eq_true]
 refine ⟨⟨⟨⟨⟨⟨⟨⟨⟨⟨⟨⟨⟨⟨⟨⟨⟨⟨⟨⟨⟨⟨⟨⟨⟨⟨⟨⟨⟨⟨⟨h1, laidOut⟩, rowed_ok⟩, h2.1⟩, h2.2⟩, ?_⟩, ?_⟩, ?_⟩, ?_⟩, h4⟩, h5⟩, h6⟩, h7⟩, ?_⟩, ?_⟩, ?_⟩, ?_⟩, ?_⟩, ?_⟩, ?_⟩, ?_⟩, ?_⟩, ?_⟩, ?_⟩, heard_ok⟩, enter_ok⟩, a1⟩, a2⟩, ?_⟩, ?_⟩, ?_⟩, ?_⟩
 all_goals first | exact h3.1.1.1 | exact h3.1.1.2 | exact h3.1.2 | exact h3.2 | exact h8.1.1.1.1.1.1.1.1.1.1 | exact h8.1.1.1.1.1.1.1.1.1.2 | exact h8.1.1.1.1.1.1.1.1.2 | exact h8.1.1.1.1.1.1.1.2 | exact h8.1.1.1.1.1.1.2 | exact h8.1.1.1.1.1.2 | exact h8.1.1.1.1.2 | exact h8.1.1.1.2 | exact h8.1.1.2 | exact h8.1.2 | exact h8.2 | exact h9.1.1.1 | exact h9.1.1.2 | exact h9.1.2 | exact h9.2
end Go.Proofs.YtfdgbghlanbddaaDoor.Av
