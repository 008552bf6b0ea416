import Derived.Test.YtfdgbghlanbddaaDoorAvK0
import Derived.Test.YtfdgbghlanbddaaDoorAvK1
import Derived.Test.YtfdgbghlanbddaaDoorAvK2
set_option linter.unusedVariables false
set_option linter.unusedSimpArgs false
namespace Go.Proofs.YtfdgbghlanbddaaDoor.Av
set_option maxRecDepth 8000
section
open Go.RowKit Go.Proofs
def boolT (p : Nat → Bool) : List AV := (List.range 256).map fun i => .bool (p i)
theorem boolT_len (p : Nat → Bool) : (boolT p).length = 256 := by simp [boolT]
theorem boolT_load {p : Nat → Bool} {k : Nat} (hk : k < 256) : loadAV false 1 (boolT p) k = .bool (p k) := by
 simp [loadAV, boolT, List.getD, hk]
theorem boolT_all (p : Nat → Bool) : loadAV true 256 (boolT p) 0 = .agg (boolT p) := by
 simp only [loadAV, if_true, List.drop_zero]
 rw [List.take_of_length_le (by rw [boolT_len]; exact Nat.le_refl _)]
theorem boolT_none {p : Nat → Bool} (h : ∀ i, i < 256 → p i = false) : boolT p = List.replicate 256 (.bool false) := by
 unfold boolT
 refine List.ext_getElem (by simp) fun i h1 h2 => ?_
 simp only [List.getElem_map, List.getElem_range, List.getElem_replicate]
 rw [h i (by simpa using h1)]
theorem boolT_congr {p q : Nat → Bool} (h : ∀ i, i < 256 → p i = q i) : boolT p = boolT q := by
 unfold boolT
 refine List.map_congr_left fun i hi => ?_
 rw [h i (List.mem_range.1 hi)]
theorem boolT_store {p : Nat → Bool} {k : Nat} {v : Bool} (hk : k < 256) : (boolT p).take k ++ [.bool v] ++ (boolT p).drop (k + 1) = boolT (fun i => if i = k then v else p i) := by
 have e : (boolT p).take k ++ [AV.bool v] ++ (boolT p).drop (k + 1) = (boolT p).set k (.bool v) := by
  rw [List.set_eq_take_append_cons_drop, if_pos (by rw [boolT_len]; exact hk)]
  simp
 rw [e]
 refine List.ext_getElem (by simp [boolT]) fun i h1 h2 => ?_
 simp only [boolT, List.getElem_set, List.getElem_map, List.getElem_range]
 by_cases hi : k = i
 ·subst hi; simp
 ·rw [if_neg hi, if_neg (Ne.symm hi)]
theorem filt_len (p : Nat → Bool) (k : Nat) : (((List.range k).filter p).map Int.ofNat).length ≤ k := by
 rw [List.length_map]
 have := List.length_filter_le p (List.range k)
 simpa using this
theorem filt_yes {p : Nat → Bool} {k : Nat} (h : p k = true) : ((List.range (k + 1)).filter p).map Int.ofNat = ((List.range k).filter p).map Int.ofNat ++ [(k : Int)] := by
 rw [List.range_succ, List.filter_append, List.map_append, List.filter_cons_of_pos (by simpa using h)]
 rfl
theorem filt_no {p : Nat → Bool} {k : Nat} (h : p k = false) : ((List.range (k + 1)).filter p).map Int.ofNat = ((List.range k).filter p).map Int.ofNat := by
 rw [List.range_succ, List.filter_append, List.map_append, List.filter_cons_of_neg (by simp [h])]
 simp
theorem range_step {a k : Int} {i : Nat} (h0 : a ≤ k) (h1 : 0 ≤ k) : (if i = k.toNat then true else (decide (a ≤ (i : Int)) && decide ((i : Int) < k))) = (decide (a ≤ (i : Int)) && decide ((i : Int) < k + 1)) := by
 by_cases h : i = k.toNat
 ·rw [if_pos h]
  have e1 : decide (a ≤ (i : Int)) = true := decide_eq_true (by omega)
  have e2 : decide ((i : Int) < k + 1) = true := decide_eq_true (by omega)
  rw [e1, e2]; rfl
 ·rw [if_neg h]
  congr 1
  rw [decide_eq_decide]
  omega
theorem not_step {s : W4} {k i : Nat} : (if i = k then !(s.has k) else (decide (i < k) && !(s.has i))) = (decide (i < k + 1) && !(s.has i)) := by
 by_cases h : i = k
 ·subst h; simp
 ·rw [if_neg h]
  congr 1
  rw [decide_eq_decide]
  omega
theorem rangeW_of {a b k : Int} (h : (k = b + 1 ∨ (b < a ∧ k = a))) : rangeW a b = ofW (((List.range 256).filter fun i : Nat => decide (a ≤ (i : Int)) && decide ((i : Int) < k)).map Int.ofNat) := by
 unfold rangeW
 congr 2
 refine List.filter_congr fun i _ => ?_
 rw [Bool.eq_iff_iff]
 simp only [Bool.and_eq_true, decide_eq_true_eq]
 omega
theorem notW_of (s : W4) : notW s = ofW (((List.range 256).filter fun i : Nat => decide (i < 256) && !(s.has i)).map Int.ofNat) := by
 have e : (List.range 256).filter (fun i : Nat => decide (i < 256) && !(s.has i)) = (List.range 256).filter fun i => !(s.has i) := by
  refine List.filter_congr fun i hi => ?_
  rw [show decide (i < 256) = true from decide_eq_true (List.mem_range.1 hi)]
  rfl
 unfold notW
 rw [e]
theorem star_6 {n : Nat} {r : Rx} (h : r.kind = 6) : starN (n + 1) r = r := by rw [starN, if_pos h]
theorem star_12 {n : Nat} {r : Rx} (h : r.kind = 1 ∨ r.kind = 2) : starN (n + 1) r = emptyR := by rw [starN, if_neg (by omega), if_pos h]
theorem star_alt {n : Nat} {r : Rx} (h : r.kind = 5) (hl : (catOuts r.args).length < r.args.length) : starN (n + 1) r = starN n (altR (catOuts r.args)) := by rw [starN, if_neg (by omega), if_neg (by omega), if_pos ⟨h, hl⟩]
theorem star_else {n : Nat} {r : Rx} (h : ¬ r.kind = 6 ∧ ¬ r.kind = 1 ∧ ¬ r.kind = 2) (hl : ¬ (r.kind = 5 ∧ (catOuts r.args).length < r.args.length)) : starN (n + 1) r = .mk 6 noSet [r] := by rw [starN, if_neg (by omega), if_neg (by omega), if_neg hl]
theorem refWhere {w0 : World} {es : List Ent} (p : Nat → Bool) : ACalls Tryd.prog w0 158 [.agg (boolT p)] es fun v es' => v = .agg (ofW (((List.range 256).filter p).map Int.ofNat)).row ∧ es' = es := by
 refine calls1 (N := 19) Tryd.func158 rfl rfl (by decide) ?_
 refine w_seq ?_
 refine w_region ?_
 refine l_cons rfl (p_box fun s1 => ?_)
 refine l_cons rfl (p_alloc ze_26 fun s2 => ?_)
 refine l_nil ?_
 refine k_seq_normal ?_
 refine w_seq ?_
 refine w_region ?_
 refine l_cons rfl (p_assign ?_)
 refine l_nil ?_
 refine k_seq_normal ?_
 refine w_seq ?_
 refine w_seq ?_
 refine w_adopt 3 5 1 rfl fun s3 => ?_
 simp only [upd_upd]
 refine w_region ?_
 refine l_cons rfl (p_assign ?_)
 refine l_nil ?_
 refine k_seq_normal ?_
 refine w_block ?_
 refine w_loop (fun m f es' => ∃ k s3, m = 256 - k ∧ k ≤ 256 ∧ es' = .row s3 5 1 ((((List.range k).filter p).map Int.ofNat).map fun n => [.int .u8 n]) :: .row s2 26 4 [[.int .u64 0, .int .u64 0, .int .u64 0, .int .u64 0]] :: .row s1 153 (boolT p).length [boolT p] :: es ∧ Knows f [(1, .ptr es.length s1 0 0), (2, .ptr (es.length + 1) s2 0 0), (3, .own (es.length + 2) s3), (4, .int .i64 k)]) (256) (⟨0, s3, rfl, Nat.zero_le _, rfl, kn⟩) ?_
 rintro m f es' ⟨k, s3, rfl, hk1, rfl, hk⟩
 refine w_pins _ (Sub.refl _) (hk) ?_
 simp only [pins]
 refine w_seq ?_
 refine w_seq ?_
 refine w_region ?_
 refine l_cons rfl (p_move ?_)
 refine l_cons rfl (p_cmp ?_)
 refine l_nil ?_
 refine k_seq_normal ?_
 refine w_b (fun h1 => ?_) (fun h1 => ?_)
 ·skip
  have h1' := h1; (try simp only [bb] at h1')
  refine w_skip ?_
  refine k_seq_normal ?_
  refine w_seq ?_
  refine w_block ?_
  refine w_seq ?_
  refine w_region ?_
  refine l_cons rfl (p_move ?_)
  refine l_cons rfl (p_ixa ar_153 (a := .ptr es.length s1 0 k) ?_ (h0 := by omega) (h1 := by omega) (ho := by simp))
  refine l_cons rfl (p_loadp ty_4 (a := .bool (p k)) ?_ (hl := by simp only [boolT_len]; omega) (ha := boolT_load (by omega)))
  refine l_nil ?_
  refine k_seq_normal ?_
  refine w_b (fun h2 => ?_) (fun h2 => ?_)
  ·skip
   have h2' := h2; (try simp only [bb] at h2')
   have hfl := filt_len p k
   rw [List.length_map] at hfl
   refine w_region ?_
   refine l_cons rfl (p_move ?_)
   refine l_cons rfl (p_move ?_)
   refine l_cons rfl (p_conv in_3 in_5 ?_ (hb := wrap8 (n := (k : Int)) (by omega) (by omega)))
   refine l_cons rfl (p_buildList sl_22 ze_5 ?_)
   refine l_cons rfl (p_append sl_22 by_5 ze_5 (fun s16 => ?_) (hb := by simp only [List.length_map, List.length_take, List.length_drop, List.length_append, List.length_cons, List.length_nil, most]; omega))
   refine l_cons rfl (p_assign ?_)
   refine l_nil ?_
   refine k_blk_normal ?_
   refine k_seq_normal ?_
   refine w_region ?_
   refine l_cons rfl (p_move ?_)
   refine l_cons rfl (p_arith ?_)
   refine l_cons rfl (p_assign ?_)
   refine l_nil ?_
   refine k_seq_normal ?_
   first
   | exact ⟨256 - (k + 1), by omega, k + 1, s16, rfl, by omega, by rw [filt_yes h2', List.map_append] <;> rfl, kn⟩
   | exact ⟨256 - (k + 1), by omega, k + 1, s3, rfl, by omega, by rw [filt_no h2'] <;> rfl, kn⟩
  ·skip
   have h2' := h2; (try simp only [bb] at h2')
   refine w_skip ?_
   refine k_blk_normal ?_
   refine k_seq_normal ?_
   refine w_region ?_
   refine l_cons rfl (p_move ?_)
   refine l_cons rfl (p_arith ?_)
   refine l_cons rfl (p_assign ?_)
   refine l_nil ?_
   refine k_seq_normal ?_
   first
   | exact ⟨256 - (k + 1), by omega, k + 1, s16, rfl, by omega, by rw [filt_yes h2', List.map_append] <;> rfl, kn⟩
   | exact ⟨256 - (k + 1), by omega, k + 1, s3, rfl, by omega, by rw [filt_no h2'] <;> rfl, kn⟩
 ·skip
  have h1' := h1; (try simp only [bb] at h1')
  refine w_exit ?_
  refine k_seq_exit ?_
  refine k_seq_exit ?_
  refine k_blk_here ?_
  refine k_seq_normal ?_
  refine w_seq ?_
  refine w_freezeTop 3 ?_ (hclean := cleans_u8 _)
  obtain rfl : k = 256 := by omega
  refine w_region ?_
  refine l_cons rfl (p_move ?_)
  refine l_cons rfl (p_callr en_68 (refOf _ (filt_ok p)) ?_)
  refine l_cons rfl (p_store ty_26 ?_)
  refine l_nil ?_
  refine k_seq_normal ?_
  refine w_ret ?_
  exact retc rfl ty_26 subx ⟨rfl, rfl⟩
theorem refRange {w0 : World} {es : List Ent} (a b : Int) (ha : 0 ≤ a ∧ a < 256) (hb : 0 ≤ b ∧ b < 256) : ACalls Tryd.prog w0 143 [.int .u8 a, .int .u8 b] es fun v es' => v = .agg (rangeW a b).row ∧ es' = es := by
 refine calls2 (N := 19) Tryd.func143 rfl rfl (by decide) ?_
 refine w_seq ?_
 refine w_region ?_
 refine l_cons rfl (p_alloc ze_26 fun s4 => ?_)
 refine l_nil ?_
 refine k_seq_normal ?_
 refine w_seq ?_
 refine w_region ?_
 refine l_cons rfl (p_alloc ze_153 fun s5 => ?_)
 refine l_nil ?_
 refine k_seq_normal ?_
 refine w_seq ?_
 refine w_seq ?_
 refine w_region ?_
 refine l_cons rfl (p_move ?_)
 refine l_cons rfl (p_conv in_5 in_3 ?_ (hb := wrap_i64 (n := a) (by omega) (by omega)))
 refine l_cons rfl (p_assign ?_)
 refine l_nil ?_
 refine k_seq_normal ?_
 refine w_block ?_
 refine w_loop (fun m f es' => ∃ k : Int, m = (b + 1 - k).toNat ∧ a ≤ k ∧ k ≤ 256 ∧ (k ≤ b + 1 ∨ k = a) ∧ es' = .row s5 153 256 [boolT (fun i : Nat => decide (a ≤ (i : Int)) && decide ((i : Int) < k))] :: .row s4 26 4 [[.int .u64 0, .int .u64 0, .int .u64 0, .int .u64 0]] :: es ∧ Knows f [(1, .int .u8 b), (4, .ptr es.length s4 0 0), (5, .ptr (es.length + 1) s5 0 0), (6, .int .i64 k)]) (_) (⟨a, rfl, by omega, by omega, .inr rfl, by rw [boolT_none (p := fun i : Nat => decide (a ≤ (i : Int)) && decide ((i : Int) < a)) (fun i _ => by by_cases h : a ≤ (i : Int) <;> simp <;> omega)] <;> rfl, kn⟩) ?_
 rintro m f es' ⟨k, rfl, hk1, hk2, hk3, rfl, hk⟩
 refine w_pins _ (Sub.refl _) (hk) ?_
 simp only [pins]
 refine w_seq ?_
 refine w_seq ?_
 refine w_region ?_
 refine l_cons rfl (p_move ?_)
 refine l_cons rfl (p_move ?_)
 refine l_cons rfl (p_conv in_5 in_3 ?_ (hb := wrap_i64 (n := b) (by omega) (by omega)))
 refine l_cons rfl (p_cmp ?_)
 refine l_nil ?_
 refine k_seq_normal ?_
 refine w_b (fun h1 => ?_) (fun h1 => ?_)
 ·skip
  have h1' := h1; (try simp only [bb] at h1')
  refine w_skip ?_
  refine k_seq_normal ?_
  refine w_seq ?_
  refine w_block ?_
  refine w_region ?_
  refine l_cons rfl (p_move ?_)
  refine l_cons rfl (p_ixa ar_153 (a := .ptr (es.length + 1) s5 0 k.toNat) ?_ (h0 := by omega) (h1 := by omega) (ho := by simp))
  refine l_cons rfl (p_store ty_4 (r' := boolT (fun i => if i = k.toNat then true else (fun i : Nat => decide (a ≤ (i : Int)) && decide ((i : Int) < k)) i)) ?_ (hl := by simp only [boolT_len]; omega) (hr' := boolT_store (by omega)))
  refine l_nil ?_
  refine k_blk_normal ?_
  refine k_seq_normal ?_
  refine w_region ?_
  refine l_cons rfl (p_move ?_)
  refine l_cons rfl (p_arith ?_)
  refine l_cons rfl (p_assign ?_)
  refine l_nil ?_
  refine k_seq_normal ?_
  exact ⟨(b + 1 - (k + 1)).toNat, by omega, k + 1, rfl, by omega, by omega, .inl (by omega), by rw [boolT_congr (p := fun i => if i = k.toNat then true else (decide (a ≤ (i : Int)) && decide ((i : Int) < k))) (q := fun i : Nat => decide (a ≤ (i : Int)) && decide ((i : Int) < k + 1)) (fun i _ => range_step (by omega) (by omega))] <;> rfl, kn⟩
 ·skip
  have h1' := h1; (try simp only [bb] at h1')
  refine w_exit ?_
  refine k_seq_exit ?_
  refine k_seq_exit ?_
  refine k_blk_here ?_
  refine k_seq_normal ?_
  refine w_seq ?_
  refine w_region ?_
  refine l_cons rfl (p_loadp ty_153 (a := .agg (boolT (fun i : Nat => decide (a ≤ (i : Int)) && decide ((i : Int) < k)))) ?_ (hl := by simp only [boolT_len]; omega) (ha := boolT_all _))
  refine l_cons rfl (p_callr en_158 (refWhere (fun i : Nat => decide (a ≤ (i : Int)) && decide ((i : Int) < k))) ?_)
  refine l_cons rfl (p_store ty_26 ?_)
  refine l_nil ?_
  refine k_seq_normal ?_
  refine w_ret ?_
  rw [rangeW_of (a := a) (b := b) (k := k) (by omega)]
  exact retc rfl ty_26 subx ⟨rfl, rfl⟩
theorem refNot {w0 : World} {es : List Ent} (s : W4) (hs : s.ok) : ACalls Tryd.prog w0 144 [.agg s.row] es fun v es' => v = .agg (notW s).row ∧ es' = es := by
 unfold W4.row
 refine calls1 (N := 18) Tryd.func144 rfl rfl (by decide) ?_
 refine w_seq ?_
 refine w_region ?_
 refine l_cons rfl (p_box fun s1 => ?_)
 refine l_cons rfl (p_alloc ze_26 fun s2 => ?_)
 refine l_nil ?_
 refine k_seq_normal ?_
 refine w_seq ?_
 refine w_region ?_
 refine l_cons rfl (p_alloc ze_153 fun s3 => ?_)
 refine l_nil ?_
 refine k_seq_normal ?_
 refine w_seq ?_
 refine w_seq ?_
 refine w_region ?_
 refine l_cons rfl (p_assign ?_)
 refine l_nil ?_
 refine k_seq_normal ?_
 refine w_block ?_
 refine w_loop (fun m f es' => ∃ k, m = 256 - k ∧ k ≤ 256 ∧ es' = .row s3 153 256 [boolT (fun i : Nat => decide (i < k) && !(s.has i))] :: .row s2 26 4 [[.int .u64 0, .int .u64 0, .int .u64 0, .int .u64 0]] :: .row s1 26 4 [[.int .u64 s.w0, .int .u64 s.w1, .int .u64 s.w2, .int .u64 s.w3]] :: es ∧ Knows f [(1, .ptr es.length s1 0 0), (2, .ptr (es.length + 1) s2 0 0), (3, .ptr (es.length + 2) s3 0 0), (4, .int .i64 k)]) (256) (⟨0, rfl, by omega, by rw [boolT_none (p := fun i : Nat => decide (i < 0) && !(s.has i)) (fun i _ => by simp)] <;> rfl, kn⟩) ?_
 rintro m f es' ⟨k, rfl, hk1, rfl, hk⟩
 refine w_pins _ (Sub.refl _) (hk) ?_
 simp only [pins]
 refine w_seq ?_
 refine w_seq ?_
 refine w_region ?_
 refine l_cons rfl (p_move ?_)
 refine l_cons rfl (p_cmp ?_)
 refine l_nil ?_
 refine k_seq_normal ?_
 refine w_b (fun h1 => ?_) (fun h1 => ?_)
 ·skip
  have h1' := h1; (try simp only [bb] at h1')
  refine w_skip ?_
  refine k_seq_normal ?_
  refine w_seq ?_
  refine w_block ?_
  refine w_region ?_
  refine l_cons rfl (p_move ?_)
  refine l_cons rfl (p_loadp ty_26 ?_)
  refine l_cons rfl (p_move ?_)
  refine l_cons rfl (p_conv in_3 in_5 ?_ (hb := wrap8 (n := (k : Int)) (by omega) (by omega)))
  refine l_cons rfl (p_callr en_55 (ref1Has s.w0 s.w1 s.w2 s.w3 (k : Int) (by omega) (by omega) hs.1 hs.2.1 hs.2.2.1 hs.2.2.2.1) ?_)
  refine l_cons rfl (p_not ?_)
  refine l_cons rfl (p_ixa ar_153 (a := .ptr (es.length + 2) s3 0 k) ?_ (h0 := by omega) (h1 := by omega) (ho := by simp))
  refine l_cons rfl (p_store ty_4 (r' := boolT (fun i => if i = k then !(s.has k) else (fun i : Nat => decide (i < k) && !(s.has i)) i)) ?_ (hl := by simp only [boolT_len]; omega) (hr' := boolT_store (by omega)))
  refine l_nil ?_
  refine k_blk_normal ?_
  refine k_seq_normal ?_
  refine w_region ?_
  refine l_cons rfl (p_move ?_)
  refine l_cons rfl (p_arith ?_)
  refine l_cons rfl (p_assign ?_)
  refine l_nil ?_
  refine k_seq_normal ?_
  exact ⟨256 - (k + 1), by omega, k + 1, rfl, by omega, by rw [boolT_congr (p := fun i => if i = k then !(s.has k) else (decide (i < k) && !(s.has i))) (q := fun i : Nat => decide (i < k + 1) && !(s.has i)) (fun i _ => not_step)] <;> rfl, kn⟩
 ·skip
  have h1' := h1; (try simp only [bb] at h1')
  refine w_exit ?_
  refine k_seq_exit ?_
  refine k_seq_exit ?_
  refine k_blk_here ?_
  refine k_seq_normal ?_
  refine w_seq ?_
  obtain rfl : k = 256 := by omega
  refine w_region ?_
  refine l_cons rfl (p_loadp ty_153 (a := .agg (boolT (fun i : Nat => decide (i < 256) && !(s.has i)))) ?_ (hl := by simp only [boolT_len]; omega) (ha := boolT_all _))
  refine l_cons rfl (p_callr en_158 (refWhere (fun i : Nat => decide (i < 256) && !(s.has i))) ?_)
  refine l_cons rfl (p_store ty_26 ?_)
  refine l_nil ?_
  refine k_seq_normal ?_
  refine w_ret ?_
  rw [notW_of s]
  exact retc rfl ty_26 subx ⟨rfl, rfl⟩
theorem refStarN {w0 : World} : ∀ (n : Nat) (r : Rx) (es : List Ent), r.nodes ≤ n + 1 → n ≤ 1000000 → r.ok → ACalls Tryd.prog w0 41 [.agg r.cells] es fun v es' => v = .agg (starN (n + 1) r).cells ∧ es' = es := by
 intro n
 induction n using Nat.strongRecOn with
 | _ n ih => ?_
 intro r es hB hB2 ho
 rw [Rx.cells_eq r]
 have hne := r.nodes_eq
 have hal := Rx.len_le r.args
 refine calls1 (N := 52) Tryd.func41 rfl rfl (by decide) ?_
 refine w_seq ?_
 refine w_region ?_
 refine l_cons rfl (p_box fun s1 => ?_)
 refine l_cons rfl (p_alloc ze_29 fun s2 => ?_)
 refine l_nil ?_
 refine k_seq_normal ?_
 refine w_seq ?_
 refine w_seq ?_
 refine w_region ?_
 refine l_cons rfl (p_fap fa_29_0 ?_)
 refine l_cons rfl (p_loadp ty_3 ?_)
 refine l_nil ?_
 refine k_seq_normal ?_
 refine w_block ?_
 refine w_seq ?_
 refine w_region ?_
 refine l_cons rfl (p_cmp ?_)
 refine l_cons rfl (p_assign ?_)
 refine l_nil ?_
 refine k_seq_normal ?_
 refine w_b (fun h1 => ?_) (fun h1 => ?_)
 ·skip
  have h1' := h1; (try simp only [bb] at h1')
  refine w_seq ?_
  refine w_region ?_
  refine l_cons rfl (p_loadp ty_29 ?_)
  refine l_cons rfl (p_callr en_63 (cells1 (refCopy _ r _ (Nat.le_refl _) (by omega))) ?_)
  refine l_cons rfl (p_store ty_29 ?_)
  refine l_nil ?_
  refine k_seq_normal ?_
  refine w_ret ?_
  refine k_blk_ret ?_
  refine k_seq_ret ?_
  rw [star_6 (by omega)]
  exact retc rfl ty_29 subx ⟨rfl, rfl⟩
 ·skip
  have h1' := h1; (try simp only [bb] at h1')
  refine w_seq ?_
  refine w_seq ?_
  refine w_region ?_
  refine l_cons rfl (p_cmp ?_)
  refine l_cons rfl (p_assign ?_)
  refine l_nil ?_
  refine k_seq_normal ?_
  refine w_b (fun h2 => ?_) (fun h2 => ?_)
  ·skip
   have h2' := h2; (try simp only [bb] at h2')
   refine w_skip ?_
   refine k_seq_normal ?_
   refine w_t h2 ?_
   refine w_seq ?_
   refine w_region ?_
   refine l_cons rfl (p_callr en_85 (refEmpty) ?_)
   refine l_cons rfl (p_store ty_29 ?_)
   refine l_nil ?_
   refine k_seq_normal ?_
   refine w_ret ?_
   refine k_blk_ret ?_
   refine k_seq_ret ?_
   rw [star_12 (by omega)]
   exact retc rfl ty_29 subx ⟨rfl, rfl⟩
  ·skip
   have h2' := h2; (try simp only [bb] at h2')
   refine w_region ?_
   refine l_cons rfl (p_cmp ?_)
   refine l_cons rfl (p_assign ?_)
   refine l_nil ?_
   refine k_seq_normal ?_
   refine w_b (fun h3 => ?_) (fun h3 => ?_)
   ·skip
    have h3' := h3; (try simp only [bb] at h3')
    refine w_seq ?_
    refine w_region ?_
    refine l_cons rfl (p_callr en_85 (refEmpty) ?_)
    refine l_cons rfl (p_store ty_29 ?_)
    refine l_nil ?_
    refine k_seq_normal ?_
    refine w_ret ?_
    refine k_blk_ret ?_
    refine k_seq_ret ?_
    rw [star_12 (by omega)]
    exact retc rfl ty_29 subx ⟨rfl, rfl⟩
   ·skip
    have h3' := h3; (try simp only [bb] at h3')
    refine w_seq ?_
    refine w_region ?_
    refine l_cons rfl (p_cmp ?_)
    refine l_cons rfl (p_assign ?_)
    refine l_nil ?_
    refine k_seq_normal ?_
    refine w_b (fun h4 => ?_) (fun h4 => ?_)
    ·skip
     have h4' := h4; (try simp only [bb] at h4')
     refine w_seq ?_
     refine w_region ?_
     refine l_cons rfl (p_assign ?_)
     refine l_nil ?_
     refine k_seq_normal ?_
     refine w_seq ?_
     refine w_seq ?_
     refine w_adopt 3 29 6 rfl fun s3 => ?_
     simp only [upd_upd]
     refine w_region ?_
     refine l_cons rfl (p_assign ?_)
     refine l_nil ?_
     refine k_seq_normal ?_
     refine w_block ?_
     refine w_loop (fun m f es' => ∃ k s3, m = r.args.length - k ∧ k ≤ r.args.length ∧ es' = .row s3 29 6 ((catOuts (r.args.take k)).map Rx.cells) :: .row s2 29 6 [[.int .i64 0, .int .u64 0, .int .u64 0, .int .u64 0, .int .u64 0, .nil]] :: .row s1 29 6 [[.int .i64 r.kind, .int .u64 r.set.w0, .int .u64 r.set.w1, .int .u64 r.set.w2, .int .u64 r.set.w3, .list 6 (r.args.map Rx.cells)]] :: es ∧ Knows f [(1, .ptr es.length s1 0 0), (2, .ptr (es.length + 1) s2 0 0), (3, .own (es.length + 2) s3), (4, .int .i64 k)]) (r.args.length) (⟨0, s3, rfl, Nat.zero_le _, rfl, kn⟩) ?_
     rintro m f es' ⟨k, s3, rfl, hk1, rfl, hk⟩
     refine w_pins _ (Sub.refl _) (hk) ?_
     simp only [pins]
     refine w_seq ?_
     refine w_seq ?_
     refine w_region ?_
     refine l_cons rfl (p_move ?_)
     refine l_cons rfl (p_fap fa_29_2 ?_)
     refine l_cons rfl (p_loadp ty_27 ?_)
     first | refine l_cons rfl (p_lenl sl_27 ?_) | refine l_cons rfl (p_leno sl_27 ?_) | refine l_cons rfl (p_lenn sl_27 ?_)
     refine l_cons rfl (p_cmp ?_)
     refine l_nil ?_
     refine k_seq_normal ?_
     refine w_b (fun h5 => ?_) (fun h5 => ?_)
     ·skip
      have h5' := h5; (try simp only [bb] at h5')
      refine w_skip ?_
      refine k_seq_normal ?_
      refine w_seq ?_
      refine w_block ?_
      refine w_seq ?_
      refine w_region ?_
      refine l_cons rfl (p_fap fa_29_2 ?_)
      refine l_cons rfl (p_loadp ty_27 ?_)
      refine l_cons rfl (p_move ?_)
      first | refine l_cons rfl (p_ixl sl_27 ?_) | refine l_cons rfl (p_ixo sl_27 ?_)
      first | refine l_cons rfl (p_fap fa_29_0 ?_) | refine l_cons rfl (p_faf fa_29_0 ?_)
      first | refine l_cons rfl (p_loadf ty_3 ?_) | refine l_cons rfl (p_loadp ty_3 ?_)
      refine l_cons rfl (p_cmp ?_)
      refine l_nil ?_
      refine k_seq_normal ?_
      refine w_b (fun h6 => ?_) (fun h6 => ?_)
      ·skip
       have h6' := h6; (try simp only [bb] at h6')
       have hcl := catOuts_nodes (r.args.take k)
       have hcl2 := Rx.len_le (catOuts (r.args.take k))
       have hcl3 := Rx.nodesL_le r.args k
       refine w_region ?_
       refine l_cons rfl (p_move ?_)
       refine l_cons rfl (p_fap fa_29_2 ?_)
       refine l_cons rfl (p_loadp ty_27 ?_)
       refine l_cons rfl (p_move ?_)
       first | refine l_cons rfl (p_ixl sl_27 ?_) | refine l_cons rfl (p_ixo sl_27 ?_)
       first | refine l_cons rfl (p_loadf ty_29 ?_) | refine l_cons rfl (p_loadp ty_29 ?_)
       refine l_cons rfl (p_buildList sl_27 ze_29 ?_)
       refine l_cons rfl (p_append sl_27 by_29 ze_29 (fun s38 => ?_) (hb := by simp only [List.length_map, List.length_take, List.length_drop, List.length_append, List.length_cons, List.length_nil, most]; omega))
       refine l_cons rfl (p_assign ?_)
       refine l_nil ?_
       refine k_blk_normal ?_
       refine k_seq_normal ?_
       refine w_region ?_
       refine l_cons rfl (p_move ?_)
       refine l_cons rfl (p_arith ?_)
       refine l_cons rfl (p_assign ?_)
       refine l_nil ?_
       refine k_seq_normal ?_
       first
       | exact ⟨r.args.length - (k + 1), by omega, k + 1, s38, rfl, by omega, by rw [catOuts_succ _ (by omega), if_neg (by simp_all), List.map_append] <;> rfl, kn⟩
       | exact ⟨r.args.length - (k + 1), by omega, k + 1, s3, rfl, by omega, by rw [catOuts_succ _ (by omega), if_pos (by simp_all), List.append_nil] <;> rfl, kn⟩
      ·skip
       have h6' := h6; (try simp only [bb] at h6')
       refine w_skip ?_
       refine k_blk_normal ?_
       refine k_seq_normal ?_
       refine w_region ?_
       refine l_cons rfl (p_move ?_)
       refine l_cons rfl (p_arith ?_)
       refine l_cons rfl (p_assign ?_)
       refine l_nil ?_
       refine k_seq_normal ?_
       first
       | exact ⟨r.args.length - (k + 1), by omega, k + 1, s38, rfl, by omega, by rw [catOuts_succ _ (by omega), if_neg (by simp_all), List.map_append] <;> rfl, kn⟩
       | exact ⟨r.args.length - (k + 1), by omega, k + 1, s3, rfl, by omega, by rw [catOuts_succ _ (by omega), if_pos (by simp_all), List.append_nil] <;> rfl, kn⟩
     ·skip
      have h5' := h5; (try simp only [bb] at h5')
      refine w_exit ?_
      refine k_seq_exit ?_
      refine k_seq_exit ?_
      refine k_blk_here ?_
      refine k_seq_normal ?_
      refine w_seq ?_
      refine w_freezeTop 3 ?_ (hclean := cleans_rx _)
      obtain rfl : k = r.args.length := by omega
      rw [List.take_length]
      refine w_region ?_
      refine l_cons rfl (p_move ?_)
      refine l_cons rfl (p_lenl sl_27 ?_)
      refine l_cons rfl (p_fap fa_29_2 ?_)
      refine l_cons rfl (p_loadp ty_27 ?_)
      first | refine l_cons rfl (p_lenl sl_27 ?_) | refine l_cons rfl (p_leno sl_27 ?_) | refine l_cons rfl (p_lenn sl_27 ?_)
      refine l_cons rfl (p_cmp ?_)
      refine l_nil ?_
      refine k_seq_normal ?_
      refine w_b (fun h7 => ?_) (fun h7 => ?_)
      ·skip
       have h7' := h7; (try simp only [bb] at h7')
       refine w_seq ?_
       have hcs := catOuts_less (l := r.args) (by omega)
       obtain ⟨m, rfl⟩ : ∃ m, n = m + 1 := ⟨n - 1, by omega⟩
       refine w_region ?_
       refine l_cons rfl (p_move ?_)
       refine l_cons rfl (p_callr en_40 (refAlt (catOuts r.args) (fun x hx => ho.args x (catOuts_mem hx)) (by omega)) ?_)
       refine l_cons rfl (p_callr en_41 (ih m (by omega) (altR (catOuts r.args)) _ (by have := altR_nodes (catOuts r.args); omega) (by omega) (altR_ok fun x hx => ho.args x (catOuts_mem hx))) ?_)
       refine l_cons rfl (p_store ty_29 ?_)
       refine l_nil ?_
       refine k_seq_normal ?_
       refine w_ret ?_
       refine k_blk_ret ?_
       refine k_seq_ret ?_
       rw [star_alt (by omega) (by omega)]
       exact retc rfl ty_29 subx ⟨rfl, rfl⟩
      ·skip
       have h7' := h7; (try simp only [bb] at h7')
       refine w_skip ?_
       refine k_blk_normal ?_
       refine k_seq_normal ?_
       refine w_seq ?_
       refine w_region ?_
       refine l_cons rfl (p_loadp ty_29 ?_)
       refine l_cons rfl (p_callr en_63 (cells1 (refCopy _ r _ (Nat.le_refl _) (by omega))) ?_)
       refine l_cons rfl (p_buildList sl_27 ze_29 ?_)
       refine l_cons rfl (p_build ze_29 pl_29 ?_)
       refine l_cons rfl (p_store ty_29 ?_)
       refine l_nil ?_
       refine k_seq_normal ?_
       refine w_ret ?_
       rw [star_else (by omega) (by omega), Rx.cells_eq]
       exact retc rfl ty_29 subx ⟨rfl, rfl⟩
    ·skip
     have h4' := h4; (try simp only [bb] at h4')
     refine w_skip ?_
     refine k_blk_normal ?_
     refine k_seq_normal ?_
     refine w_seq ?_
     refine w_region ?_
     refine l_cons rfl (p_loadp ty_29 ?_)
     refine l_cons rfl (p_callr en_63 (cells1 (refCopy _ r _ (Nat.le_refl _) (by omega))) ?_)
     refine l_cons rfl (p_buildList sl_27 ze_29 ?_)
     refine l_cons rfl (p_build ze_29 pl_29 ?_)
     refine l_cons rfl (p_store ty_29 ?_)
     refine l_nil ?_
     refine k_seq_normal ?_
     refine w_ret ?_
     rw [star_else (by omega) (by omega), Rx.cells_eq]
     exact retc rfl ty_29 subx ⟨rfl, rfl⟩
theorem refStarR {w0 : World} {es : List Ent} (r : Rx) (hn : r.nodes ≤ 2000) (ho : r.ok) : ACalls Tryd.prog w0 41 [.agg r.cells] es fun v es' => v = .agg (starR r).cells ∧ es' = es := refStarN 1999 r es hn (by omega) ho
end
set_option maxRecDepth 8000
section
open Go.RowKit Go.Proofs
/-- The numbers that are left. -/
def PK (es : List Ent) (ip sp : Nat) (q : List Int) : Prop := ∃ (l : List Int) (n : Nat), n ≤ l.length ∧ q = l.drop n ∧ bytesOk l ∧ l.length ≤ 1000000 ∧ at_ es ip = some (.row sp 89 2 [[bytesAV l, .int .i64 (n : Int)]])
theorem PK.mk' {es : List Ent} {ip sp n : Nat} {l : List Int} (h1 : n ≤ l.length) (h2 : bytesOk l) (h3 : l.length ≤ 1000000) (h4 : at_ es ip = some (.row sp 89 2 [[bytesAV l, .int .i64 (n : Int)]])) : PK es ip sp (l.drop n) := ⟨l, n, h1, rfl, h2, h3, h4⟩
theorem PK.lt {es : List Ent} {ip sp : Nat} {q : List Int} (h : PK es ip sp q) : ip < es.length := by
 obtain ⟨_, _, _, _, _, _, h⟩ := h
 exact at_lt h
theorem PK.push {es : List Ent} {ip sp : Nat} {q : List Int} (x : Ent) (h : PK es ip sp q) : PK (x :: es) ip sp q := by
 obtain ⟨l, n, h1, h2, h3, h4, h5⟩ := h
 exact ⟨l, n, h1, h2, h3, h4, at_miss _ h5⟩
theorem PK.bytes {es : List Ent} {ip sp : Nat} {q : List Int} (h : PK es ip sp q) : bytesOk q := by
 obtain ⟨l, n, _, rfl, h3, _, _⟩ := h
 exact fun b hb => h3 b (List.mem_of_mem_drop hb)
/-- From es on to es': all else is al' it was. -/
def PG (es es' : List Ent) (ip sp : Nat) (q : List Int) : Prop := PK es' ip sp q ∧ (∀ id, id ≠ ip → id < es.length → at_ es' id = at_ es id) ∧ es.length ≤ es'.length
theorem PG.refl {es : List Ent} {ip sp : Nat} {q : List Int} (h : PK es ip sp q) : PG es es ip sp q := ⟨h, fun _ _ _ => rfl, Nat.le_refl _⟩
theorem PG.trans {a b c : List Ent} {ip sp : Nat} {q1 q2 : List Int} (h : PG a b ip sp q1) (k : PG b c ip sp q2) : PG a c ip sp q2 :=
 ⟨k.1, fun id h1 h2 => (k.2.1 id h1 (Nat.lt_of_lt_of_le h2 h.2.2)).trans (h.2.1 id h1 h2), Nat.le_trans h.2.2 k.2.2⟩
theorem PG.pop {x : Ent} {es es' : List Ent} {ip sp : Nat} {q : List Int} (h : PG (x :: es) es' ip sp q) (hl : ip < es.length) : PG es es' ip sp q :=
 ⟨h.1, fun id h1 h2 => (h.2.1 id h1 (by simp only [List.length_cons]; omega)).trans (at_push x h2), by have := h.2.2; simp only [List.length_cons] at this; omega⟩
theorem PG.top {x : Ent} {es es' : List Ent} {ip sp : Nat} {q : List Int} (h : PG (x :: es) es' ip sp q) (hl : ip < es.length) : at_ es' es.length = some x :=
 (h.2.1 es.length (by omega) (by simp)).trans (at_hit _ _)
theorem PG.put {es es' : List Ent} {ip sp : Nat} {q : List Int} (h : PG es es' ip sp q) {id : Nat} (hid : es.length ≤ id) (y : Ent) (hl : ip < es.length := by omega) : PG es (setAt es' id y) ip sp q := by
 obtain ⟨⟨l, n, h1, h2, h3, h4, h5⟩, h6, h7⟩ := h
 exact ⟨⟨l, n, h1, h2, h3, h4, by rw [at_setAt_ne _ (by omega)]; exact h5⟩, fun i hi1 hi2 => by rw [at_setAt_ne _ (by omega)]; exact h6 i hi1 hi2, by rw [setAt_len]; exact h7⟩
theorem PG.up {es es' : List Ent} {ip sp : Nat} {q : List Int} (x : Ent) (h : PG es es' ip sp q) : PG es (x :: es') ip sp q :=
 ⟨h.1.push x, fun id h1 h2 => (at_push x (Nat.lt_of_lt_of_le h2 h.2.2)).trans (h.2.1 id h1 h2), by have := h.2.2; simp only [List.length_cons]; omega⟩
theorem pg_next {es : List Ent} {ip sp n : Nat} {l : List Int} (h1 : n < l.length) (h2 : bytesOk l) (h3 : l.length ≤ 1000000) (h4 : at_ es ip = some (.row sp 89 2 [[bytesAV l, .int .i64 (n : Int)]])) :
  PG es (setAt es ip (.row sp 89 2 [[bytesAV l, .int .i64 ((n : Int) + 1)]])) ip sp (l.drop n).tail := by
 refine ⟨⟨l, n + 1, by omega, by rw [List.tail_drop], h2, h3, at_setAt_same _ h4⟩, fun id h _ => at_setAt_ne _ h, by rw [setAt_len]; exact Nat.le_refl _⟩
theorem num_end {l : List Int} {n : Nat} {m : Int} (h : l.length ≤ n) : num m (l.drop n) = 0 := by
 rw [List.drop_eq_nil_of_le h]
 simp [num]
theorem num_at {l : List Int} {n : Nat} {m : Int} (h : n < l.length) : num m (l.drop n) = l[n] % m := by
 rw [drop_cons h]
 rfl
theorem rem_pos {x m : Int} (h0 : 0 ≤ x) (hm : 0 < m) : arithI .rem .i64 x m = some (x % m) := by
 have : x.tmod m = x % m := Int.tmod_eq_emod_of_nonneg h0
 simp only [arithI, this]
 rw [if_neg (by omega)]
theorem row_u8 {l : List Int} {k : Nat} (h : k < l.length) : (l.map fun n => [AV.int .u8 n])[k]? = some [.int .u8 l[k]] := by simp [h]
theorem one_byte {b : Int} (h : 0 ≤ b ∧ b < 256) : ∀ x ∈ [b], 0 ≤ x ∧ x < 256 := fun x hx => by
 simp only [List.mem_cons, List.not_mem_nil, or_false] at hx
 omega
theorem three_bytes {a b c : Int} (h0 : 0 ≤ a ∧ a < 256) (h1 : 0 ≤ b ∧ b < 256) (h2 : 0 ≤ c ∧ c < 256) : ∀ x ∈ [a, b, c], 0 ≤ x ∧ x < 256 := fun x hx => by
 simp only [List.mem_cons, List.not_mem_nil, or_false] at hx
 omega
theorem pSet_0 {q : List Int} (h : num 8 q = 0) : pSet q = (rangeW 97 100, q.tail) := by unfold pSet; rw [if_pos h]
theorem pSet_1 {q : List Int} (h : num 8 q = 1) : pSet q = (rangeW (num 256 q.tail) (num 256 q.tail.tail), q.tail.tail.tail) := by unfold pSet; rw [if_neg (by omega), if_pos h]
theorem pSet_2 {q : List Int} (h : num 8 q = 2) : pSet q = (notW (ofW [97 + num 4 q.tail]), q.tail.tail) := by unfold pSet; rw [if_neg (by omega), if_neg (by omega), if_pos h]
theorem pSet_3 {q : List Int} (h : num 8 q = 3) : pSet q = (ofW [97 + num 4 q.tail, 97 + num 4 q.tail.tail, num 256 q.tail.tail.tail], q.tail.tail.tail.tail) := by unfold pSet; rw [if_neg (by omega), if_neg (by omega), if_neg (by omega), if_pos h]
theorem pSet_4 {q : List Int} (h : num 8 q = 4) : pSet q = (rangeW 0 255, q.tail) := by unfold pSet; rw [if_neg (by omega), if_neg (by omega), if_neg (by omega), if_neg (by omega), if_pos h]
theorem pSet_5 {q : List Int} (h : ¬ num 8 q = 0 ∧ ¬ num 8 q = 1 ∧ ¬ num 8 q = 2 ∧ ¬ num 8 q = 3 ∧ ¬ num 8 q = 4) : pSet q = (ofW [97 + num 4 q.tail], q.tail.tail) := by unfold pSet; rw [if_neg (by omega), if_neg (by omega), if_neg (by omega), if_neg (by omega), if_neg (by omega)]
theorem num_walk {w0 : World} {es : List Ent} {ip sp : Nat} {q : List Int} (m : Int) (hm : 0 < m) (h : PK es ip sp q) : ACalls Tryd.prog w0 70 [.ptr ip sp 0 0, .int .i64 m] es fun v es' => v = .int .i64 (num m q) ∧ PG es es' ip sp q.tail := by
 obtain ⟨l, n, hnl, rfl, hbl, hll, hp⟩ := h
 have hq0 := PK.mk' hnl hbl hll hp
 refine calls2 (N := 36) Tryd.func70 rfl rfl (by decide) ?_
 refine w_seq ?_
 refine w_region ?_
 refine l_cons rfl (p_assign ?_)
 refine l_nil ?_
 refine k_seq_normal ?_
 refine w_seq ?_
 refine w_seq ?_
 refine w_drawn 9 [] (fun e => at_ e ip = some (.row sp 89 2 [[bytesAV l, .int .i64 (n : Int)]])) mixed (by kernel_rfl) hp ?_
 refine q1 0 (hg := rfl) (hu := rfl) (h := by rintro f _ hG; exact p_move ⟨rfl, rfl⟩) (k := ?_)
 first | refine q1 5 (hg := rfl) (hu := rfl) (h := by rintro f _ hG; exact p_ncp ⟨rfl, rfl⟩) (k := ?_) | refine q1 5 (hg := rfl) (hu := rfl) (h := by rintro f _ hG; exact p_ncf ⟨rfl, rfl⟩) (k := ?_)
 refine q1 6 (hg := rfl) (hu := rfl) (h := by rintro f _ hG; exact p_fap fa_89_1 ⟨rfl, rfl⟩) (k := ?_)
 refine q1 7 (hg := rfl) (hu := rfl) (h := by rintro f _ hG; exact p_loadp ty_3 ⟨rfl, rfl⟩) (k := ?_)
 refine q1 0 (hg := rfl) (hu := rfl) (h := by rintro f _ hG; exact p_move ⟨rfl, rfl⟩) (k := ?_)
 first | refine q1 9 (hg := rfl) (hu := rfl) (h := by rintro f _ hG; exact p_ncp ⟨rfl, rfl⟩) (k := ?_) | refine q1 9 (hg := rfl) (hu := rfl) (h := by rintro f _ hG; exact p_ncf ⟨rfl, rfl⟩) (k := ?_)
 refine q1 10 (hg := rfl) (hu := rfl) (h := by rintro f _ hG; exact p_fap fa_89_0 ⟨rfl, rfl⟩) (k := ?_)
 refine q1 11 (hg := rfl) (hu := rfl) (h := by rintro f _ hG; exact p_loadp ty_22 (a := .list 1 (l.map fun n => [.int .u8 n])) ⟨rfl, rfl⟩) (k := ?_)
 refine q1 12 (hg := rfl) (hu := rfl) (h := by rintro f _ hG; exact p_lenl sl_22 ⟨rfl, rfl⟩) (k := ?_)
 refine q_end ?_
 refine m_end ?_
 refine l_cons rfl (p_cmp ?_)
 refine l_nil ?_
 refine k_seq_normal ?_
 refine w_b (fun h1 => ?_) (fun h1 => ?_)
 ·skip
  have h1' := h1; (try simp only [bb] at h1')
  refine w_seq ?_
  refine w_region ?_
  refine l_cons rfl (p_assign ?_)
  refine l_nil ?_
  refine k_seq_normal ?_
  refine w_ret ?_
  refine k_seq_ret ?_
  exact ret1 rfl ev1 (Sub.refl _) ⟨by rw [num_end (by omega)], by rw [List.drop_eq_nil_of_le (by omega)] at hq0 ⊢; exact PG.refl hq0⟩
 ·skip
  have h1' := h1; (try simp only [bb] at h1')
  refine w_skip ?_
  refine k_seq_normal ?_
  refine w_seq ?_
  refine w_region ?_
  refine l_cons rfl (p_move ?_)
  first | refine l_cons rfl (p_ncp ?_) | refine l_cons rfl (p_ncf ?_)
  refine l_cons rfl (p_fap fa_89_1 ?_)
  refine l_cons rfl (p_loadp ty_3 ?_)
  refine l_cons rfl (p_arith ?_)
  first | refine l_cons rfl (p_ncp ?_) | refine l_cons rfl (p_ncf ?_)
  refine l_cons rfl (p_fap fa_89_1 ?_)
  refine l_cons rfl (p_store ty_3 ?_)
  have hp2 := at_setAt_same (.row sp 89 2 [[bytesAV l, .int .i64 ((n : Int) + 1)]]) hp
  refine l_nil ?_
  refine k_seq_normal ?_
  refine w_seq ?_
  refine w_drawn 13 [] (fun e => at_ e ip = some (.row sp 89 2 [[bytesAV l, .int .i64 ((n : Int) + 1)]])) mixed (by kernel_rfl) hp2 ?_
  refine q1 0 (hg := rfl) (hu := rfl) (h := by rintro f _ hG; exact p_move ⟨rfl, rfl⟩) (k := ?_)
  first | refine q1 22 (hg := rfl) (hu := rfl) (h := by rintro f _ hG; exact p_ncp ⟨rfl, rfl⟩) (k := ?_) | refine q1 22 (hg := rfl) (hu := rfl) (h := by rintro f _ hG; exact p_ncf ⟨rfl, rfl⟩) (k := ?_)
  refine q1 23 (hg := rfl) (hu := rfl) (h := by rintro f _ hG; exact p_fap fa_89_0 ⟨rfl, rfl⟩) (k := ?_)
  refine q1 24 (hg := rfl) (hu := rfl) (h := by rintro f _ hG; exact p_loadp ty_22 (a := .list 1 (l.map fun n => [.int .u8 n])) ⟨rfl, rfl⟩) (k := ?_)
  refine q1 0 (hg := rfl) (hu := rfl) (h := by rintro f _ hG; exact p_move ⟨rfl, rfl⟩) (k := ?_)
  first | refine q1 26 (hg := rfl) (hu := rfl) (h := by rintro f _ hG; exact p_ncp ⟨rfl, rfl⟩) (k := ?_) | refine q1 26 (hg := rfl) (hu := rfl) (h := by rintro f _ hG; exact p_ncf ⟨rfl, rfl⟩) (k := ?_)
  refine q1 27 (hg := rfl) (hu := rfl) (h := by rintro f _ hG; exact p_fap fa_89_1 ⟨rfl, rfl⟩) (k := ?_)
  refine q1 28 (hg := rfl) (hu := rfl) (h := by rintro f _ hG; exact p_loadp ty_3 ⟨rfl, rfl⟩) (k := ?_)
  refine q1 29 (hg := rfl) (hu := rfl) (h := by rintro f _ hG; exact p_arith ⟨rfl, rfl⟩) (k := ?_)
  refine q2 25 30 (hg := rfl) (hu := rfl) (h := by rintro f _ hG; exact p_ixl sl_22 (a := .fptr 1 (l.map fun n => [.int .u8 n]) n 0) ⟨rfl, rfl⟩ (h0 := by omega) (h1 := by simp only [List.length_map]; omega) (ho := by congr 1; omega)) (k := ?_)
  refine q1 31 (hg := rfl) (hu := rfl) (h := by rintro f _ hG; exact p_loadf ty_5 (a := .int .u8 (l[n]'(by omega))) ⟨rfl, rfl⟩ (hr := row_u8 (by omega)) (hl := Nat.le_refl 1) (ha := rfl)) (k := ?_)
  refine q1 32 (hg := rfl) (hu := rfl) (h := by rintro f _ hG; exact p_conv in_5 in_3 ⟨rfl, rfl⟩ (hb := wrap_i64 (n := l[n]'(by omega)) (by have := hbl _ (List.getElem_mem (l := l) (n := n) (by omega)); omega) (by have := hbl _ (List.getElem_mem (l := l) (n := n) (by omega)); omega))) (k := ?_)
  refine q1 1 (hg := rfl) (hu := rfl) (h := by rintro f _ hG; exact p_move ⟨rfl, rfl⟩) (k := ?_)
  refine q_end ?_
  refine m_end ?_
  refine l_cons rfl (p_arith ?_ (hb := rem_pos (hbl _ (List.getElem_mem (l := l) (n := n) (by omega))).1 hm))
  refine l_cons rfl (p_assign ?_)
  refine l_nil ?_
  refine k_seq_normal ?_
  refine w_ret ?_
  exact ret1 rfl ev1 (Sub.refl _) ⟨by rw [num_at (by omega)], pg_next (by omega) hbl hll hp⟩
theorem over_walk {w0 : World} {es : List Ent} {ip sp : Nat} {q : List Int} (h : PK es ip sp q) : ACalls Tryd.prog w0 106 [.ptr ip sp 0 0] es fun v es' => v = .bool (decide (q = [])) ∧ es' = es := by
 obtain ⟨l, n, hnl, rfl, hbl, hll, hp⟩ := h
 refine calls1 (N := 13) Tryd.func106 rfl rfl (by decide) ?_
 refine w_seq ?_
 refine w_region ?_
 refine l_cons rfl (p_assign ?_)
 refine l_nil ?_
 refine k_seq_normal ?_
 refine w_seq ?_
 refine w_drawn 9 [] (fun e => at_ e ip = some (.row sp 89 2 [[bytesAV l, .int .i64 (n : Int)]])) mixed (by kernel_rfl) hp ?_
 refine q1 0 (hg := rfl) (hu := rfl) (h := by rintro f _ hG; exact p_move ⟨rfl, rfl⟩) (k := ?_)
 first | refine q1 3 (hg := rfl) (hu := rfl) (h := by rintro f _ hG; exact p_ncp ⟨rfl, rfl⟩) (k := ?_) | refine q1 3 (hg := rfl) (hu := rfl) (h := by rintro f _ hG; exact p_ncf ⟨rfl, rfl⟩) (k := ?_)
 refine q1 4 (hg := rfl) (hu := rfl) (h := by rintro f _ hG; exact p_fap fa_89_1 ⟨rfl, rfl⟩) (k := ?_)
 refine q1 5 (hg := rfl) (hu := rfl) (h := by rintro f _ hG; exact p_loadp ty_3 ⟨rfl, rfl⟩) (k := ?_)
 refine q1 0 (hg := rfl) (hu := rfl) (h := by rintro f _ hG; exact p_move ⟨rfl, rfl⟩) (k := ?_)
 first | refine q1 7 (hg := rfl) (hu := rfl) (h := by rintro f _ hG; exact p_ncp ⟨rfl, rfl⟩) (k := ?_) | refine q1 7 (hg := rfl) (hu := rfl) (h := by rintro f _ hG; exact p_ncf ⟨rfl, rfl⟩) (k := ?_)
 refine q1 8 (hg := rfl) (hu := rfl) (h := by rintro f _ hG; exact p_fap fa_89_0 ⟨rfl, rfl⟩) (k := ?_)
 refine q1 9 (hg := rfl) (hu := rfl) (h := by rintro f _ hG; exact p_loadp ty_22 (a := .list 1 (l.map fun n => [.int .u8 n])) ⟨rfl, rfl⟩) (k := ?_)
 refine q1 10 (hg := rfl) (hu := rfl) (h := by rintro f _ hG; exact p_lenl sl_22 ⟨rfl, rfl⟩) (k := ?_)
 refine q_end ?_
 refine m_end ?_
 refine l_cons rfl (p_cmp ?_)
 refine l_cons rfl (p_assign ?_)
 refine l_nil ?_
 refine k_seq_normal ?_
 refine w_ret ?_
 exact ret1 rfl ev1 (Sub.refl _) ⟨by congr 1; rw [decide_eq_decide, List.drop_eq_nil_iff]; omega, rfl⟩
theorem made_walk {w0 : World} {es : List Ent} (l : List Int) (hl : l.length ≤ 1000000) (hb : bytesOk l) : ACalls Tryd.prog w0 24 [bytesAV l] es fun v es' => ∃ s, v = .ptr es.length s 0 0 ∧ es' = .row s 89 2 [[bytesAV l, .int .i64 0]] :: es := by
 refine calls1 (N := 6) Tryd.func24 rfl rfl (by decide) ?_
 refine w_seq ?_
 refine w_region ?_
 refine l_cons rfl (p_assign ?_)
 refine l_nil ?_
 refine k_seq_normal ?_
 refine w_seq ?_
 refine w_region ?_
 refine l_cons rfl (p_move ?_)
 refine l_cons rfl (p_build ze_89 pl_89 ?_)
 refine l_cons rfl (p_box fun s5 => ?_)
 refine l_cons rfl (p_assign ?_)
 refine l_nil ?_
 refine k_seq_normal ?_
 refine w_ret ?_
 exact ret1 rfl ev1 (Sub.refl _) ⟨_, rfl, rfl⟩
theorem set_walk {w0 : World} {es : List Ent} {ip sp : Nat} {q : List Int} (h : PK es ip sp q) : ACalls Tryd.prog w0 107 [.ptr ip sp 0 0] es fun v es' => v = .agg (pSet q).1.row ∧ PG es es' ip sp (pSet q).2 := by
 have hipl := h.lt
 refine calls1 (N := 50) Tryd.func107 rfl rfl (by decide) ?_
 refine w_seq ?_
 refine w_region ?_
 refine l_cons rfl (p_alloc ze_26 fun s2 => ?_)
 refine l_nil ?_
 refine k_seq_normal ?_
 refine w_seq ?_
 refine w_seq ?_
 refine w_region ?_
 refine l_cons rfl (p_move ?_)
 refine l_cons rfl (p_call en_70 ((num_walk 8 (by omega) (h.push _)).mono ?_))
 rintro _ es1 ⟨rfl, hg1⟩
 have hn1 := num_range (q := q) (m := 8) (by omega)
 have hgt := hg1
 have hs2 := hgt.top hipl
 refine l_nil ?_
 refine k_seq_normal ?_
 refine w_block ?_
 refine w_seq ?_
 refine w_region ?_
 refine l_cons rfl (p_cmp ?_)
 refine l_cons rfl (p_assign ?_)
 refine l_nil ?_
 refine k_seq_normal ?_
 refine w_b (fun h1 => ?_) (fun h1 => ?_)
 ·skip
  have h1' := h1; (try simp only [bb] at h1')
  refine w_seq ?_
  refine w_region ?_
  refine l_cons rfl (p_callr en_143 (refRange 97 100 (by omega) (by omega)) ?_)
  refine l_cons rfl (p_store ty_26 ?_)
  refine l_nil ?_
  refine k_seq_normal ?_
  refine w_ret ?_
  refine k_blk_ret ?_
  refine k_seq_ret ?_
  rw [pSet_0 (by omega)]
  exact retc (he := loc_base (at_setAt_same _ hs2)) rfl ty_26 (Sub.refl _) ⟨rfl, (hgt.pop hipl).put (Nat.le_refl _) _⟩
 ·skip
  have h1' := h1; (try simp only [bb] at h1')
  refine w_seq ?_
  refine w_region ?_
  refine l_cons rfl (p_cmp ?_)
  refine l_cons rfl (p_assign ?_)
  refine l_nil ?_
  refine k_seq_normal ?_
  refine w_b (fun h2 => ?_) (fun h2 => ?_)
  ·skip
   have h2' := h2; (try simp only [bb] at h2')
   refine w_seq ?_
   refine w_region ?_
   refine l_cons rfl (p_move ?_)
   refine l_cons rfl (p_call en_70 ((num_walk 256 (by omega) hgt.1).mono ?_))
   rintro _ es2 ⟨rfl, hg2⟩
   have hn2 := num_range (q := q.tail) (m := 256) (by omega)
   replace hgt := hgt.trans hg2
   have hs2 := hgt.top hipl
   refine l_cons rfl (p_conv in_3 in_5 ?_ (hb := wrap8 (n := num 256 q.tail) (by omega) (by omega)))
   refine l_cons rfl (p_move ?_)
   refine l_cons rfl (p_call en_70 ((num_walk 256 (by omega) hgt.1).mono ?_))
   rintro _ es3 ⟨rfl, hg3⟩
   have hn3 := num_range (q := q.tail.tail) (m := 256) (by omega)
   replace hgt := hgt.trans hg3
   have hs2 := hgt.top hipl
   refine l_cons rfl (p_conv in_3 in_5 ?_ (hb := wrap8 (n := num 256 q.tail.tail) (by omega) (by omega)))
   refine l_cons rfl (p_callr en_143 (refRange (num 256 q.tail) (num 256 q.tail.tail) hn2 hn3) ?_)
   refine l_cons rfl (p_store ty_26 ?_)
   refine l_nil ?_
   refine k_seq_normal ?_
   refine w_ret ?_
   refine k_blk_ret ?_
   refine k_seq_ret ?_
   rw [pSet_1 (by omega)]
   exact retc (he := loc_base (at_setAt_same _ hs2)) rfl ty_26 (Sub.refl _) ⟨rfl, (hgt.pop hipl).put (Nat.le_refl _) _⟩
  ·skip
   have h2' := h2; (try simp only [bb] at h2')
   refine w_seq ?_
   refine w_region ?_
   refine l_cons rfl (p_cmp ?_)
   refine l_cons rfl (p_assign ?_)
   refine l_nil ?_
   refine k_seq_normal ?_
   refine w_b (fun h3 => ?_) (fun h3 => ?_)
   ·skip
    have h3' := h3; (try simp only [bb] at h3')
    refine w_seq ?_
    refine w_region ?_
    refine l_cons rfl (p_move ?_)
    refine l_cons rfl (p_call en_70 ((num_walk 4 (by omega) hgt.1).mono ?_))
    rintro _ es2 ⟨rfl, hg2⟩
    have hn2 := num_range (q := q.tail) (m := 4) (by omega)
    replace hgt := hgt.trans hg2
    have hs2 := hgt.top hipl
    refine l_cons rfl (p_arith ?_)
    refine l_cons rfl (p_conv in_3 in_5 ?_ (hb := wrap8 (n := 97 + num 4 q.tail) (by omega) (by omega)))
    refine l_cons rfl (p_buildList sl_22 ze_5 ?_)
    refine l_cons rfl (p_callr en_68 (refOf [97 + num 4 q.tail] (one_byte (by omega))) ?_)
    refine l_cons rfl (p_callr en_144 (refNot (ofW [97 + num 4 q.tail]) (ofW_one (by omega) (by omega))) ?_)
    refine l_cons rfl (p_store ty_26 ?_)
    refine l_nil ?_
    refine k_seq_normal ?_
    refine w_ret ?_
    refine k_blk_ret ?_
    refine k_seq_ret ?_
    rw [pSet_2 (by omega)]
    exact retc (he := loc_base (at_setAt_same _ hs2)) rfl ty_26 (Sub.refl _) ⟨rfl, (hgt.pop hipl).put (Nat.le_refl _) _⟩
   ·skip
    have h3' := h3; (try simp only [bb] at h3')
    refine w_seq ?_
    refine w_region ?_
    refine l_cons rfl (p_cmp ?_)
    refine l_cons rfl (p_assign ?_)
    refine l_nil ?_
    refine k_seq_normal ?_
    refine w_b (fun h4 => ?_) (fun h4 => ?_)
    ·skip
     have h4' := h4; (try simp only [bb] at h4')
     refine w_seq ?_
     refine w_region ?_
     refine l_cons rfl (p_move ?_)
     refine l_cons rfl (p_call en_70 ((num_walk 4 (by omega) hgt.1).mono ?_))
     rintro _ es2 ⟨rfl, hg2⟩
     have hn2 := num_range (q := q.tail) (m := 4) (by omega)
     replace hgt := hgt.trans hg2
     have hs2 := hgt.top hipl
     refine l_cons rfl (p_arith ?_)
     refine l_cons rfl (p_conv in_3 in_5 ?_ (hb := wrap8 (n := 97 + num 4 q.tail) (by omega) (by omega)))
     refine l_cons rfl (p_move ?_)
     refine l_cons rfl (p_call en_70 ((num_walk 4 (by omega) hgt.1).mono ?_))
     rintro _ es3 ⟨rfl, hg3⟩
     have hn3 := num_range (q := q.tail.tail) (m := 4) (by omega)
     replace hgt := hgt.trans hg3
     have hs2 := hgt.top hipl
     refine l_cons rfl (p_arith ?_)
     refine l_cons rfl (p_conv in_3 in_5 ?_ (hb := wrap8 (n := 97 + num 4 q.tail.tail) (by omega) (by omega)))
     refine l_cons rfl (p_move ?_)
     refine l_cons rfl (p_call en_70 ((num_walk 256 (by omega) hgt.1).mono ?_))
     rintro _ es4 ⟨rfl, hg4⟩
     have hn4 := num_range (q := q.tail.tail.tail) (m := 256) (by omega)
     replace hgt := hgt.trans hg4
     have hs2 := hgt.top hipl
     refine l_cons rfl (p_conv in_3 in_5 ?_ (hb := wrap8 (n := num 256 q.tail.tail.tail) (by omega) (by omega)))
     refine l_cons rfl (p_buildList sl_22 ze_5 ?_)
     refine l_cons rfl (p_callr en_68 (refOf [97 + num 4 q.tail, 97 + num 4 q.tail.tail, num 256 q.tail.tail.tail] (three_bytes (by omega) (by omega) (by omega))) ?_)
     refine l_cons rfl (p_store ty_26 ?_)
     refine l_nil ?_
     refine k_seq_normal ?_
     refine w_ret ?_
     refine k_blk_ret ?_
     refine k_seq_ret ?_
     rw [pSet_3 (by omega)]
     exact retc (he := loc_base (at_setAt_same _ hs2)) rfl ty_26 (Sub.refl _) ⟨rfl, (hgt.pop hipl).put (Nat.le_refl _) _⟩
    ·skip
     have h4' := h4; (try simp only [bb] at h4')
     refine w_seq ?_
     refine w_region ?_
     refine l_cons rfl (p_cmp ?_)
     refine l_cons rfl (p_assign ?_)
     refine l_nil ?_
     refine k_seq_normal ?_
     refine w_b (fun h5 => ?_) (fun h5 => ?_)
     ·skip
      have h5' := h5; (try simp only [bb] at h5')
      refine w_seq ?_
      refine w_region ?_
      refine l_cons rfl (p_callr en_143 (refRange 0 255 (by omega) (by omega)) ?_)
      refine l_cons rfl (p_store ty_26 ?_)
      refine l_nil ?_
      refine k_seq_normal ?_
      refine w_ret ?_
      refine k_blk_ret ?_
      refine k_seq_ret ?_
      rw [pSet_4 (by omega)]
      exact retc (he := loc_base (at_setAt_same _ hs2)) rfl ty_26 (Sub.refl _) ⟨rfl, (hgt.pop hipl).put (Nat.le_refl _) _⟩
     ·skip
      have h5' := h5; (try simp only [bb] at h5')
      refine w_skip ?_
      refine k_blk_normal ?_
      refine k_seq_normal ?_
      refine w_seq ?_
      refine w_region ?_
      refine l_cons rfl (p_move ?_)
      refine l_cons rfl (p_call en_70 ((num_walk 4 (by omega) hgt.1).mono ?_))
      rintro _ es2 ⟨rfl, hg2⟩
      have hn2 := num_range (q := q.tail) (m := 4) (by omega)
      replace hgt := hgt.trans hg2
      have hs2 := hgt.top hipl
      refine l_cons rfl (p_arith ?_)
      refine l_cons rfl (p_conv in_3 in_5 ?_ (hb := wrap8 (n := 97 + num 4 q.tail) (by omega) (by omega)))
      refine l_cons rfl (p_buildList sl_22 ze_5 ?_)
      refine l_cons rfl (p_callr en_68 (refOf [97 + num 4 q.tail] (one_byte (by omega))) ?_)
      refine l_cons rfl (p_store ty_26 ?_)
      refine l_nil ?_
      refine k_seq_normal ?_
      refine w_ret ?_
      rw [pSet_5 (by omega)]
      exact retc (he := loc_base (at_setAt_same _ hs2)) rfl ty_26 (Sub.refl _) ⟨rfl, (hgt.pop hipl).put (Nat.le_refl _) _⟩
end
set_option maxRecDepth 8000
section
open Go.RowKit Go.Proofs
theorem pRx_leaf {f : Nat} {q : List Int} (h : f = 0 ∨ q.tail = [] ∨ num 9 q < 3) : pRx f q = pLeaf (num 9 q) q.tail := by
 cases f with
 | zero => rfl
 | succ f => rw [pRx, if_pos (h.resolve_left (by omega))]
theorem pRx_cat {g : Nat} {q : List Int} (h : ¬ q.tail = []) (hk : num 9 q = 3 ∨ num 9 q = 4 ∨ num 9 q = 5) : pRx (g + 1) q = (catR [(pRx g q.tail).1, (pRx g (pRx g q.tail).2).1], (pRx g (pRx g q.tail).2).2) := by
 rw [pRx, if_neg (by rintro (e | e); exact h e; omega), if_pos hk]
theorem pRx_alt {g : Nat} {q : List Int} (h : ¬ q.tail = []) (hk : num 9 q = 6 ∨ num 9 q = 7) : pRx (g + 1) q = (altR [(pRx g q.tail).1, (pRx g (pRx g q.tail).2).1], (pRx g (pRx g q.tail).2).2) := by
 rw [pRx, if_neg (by rintro (e | e); exact h e; omega), if_neg (by omega), if_pos hk]
theorem pRx_star {g : Nat} {q : List Int} (h : ¬ q.tail = []) (hk : ¬ num 9 q < 3 ∧ ¬ (num 9 q = 3 ∨ num 9 q = 4 ∨ num 9 q = 5) ∧ ¬ (num 9 q = 6 ∨ num 9 q = 7)) : pRx (g + 1) q = (starR (pRx g q.tail).1, (pRx g q.tail).2) := by
 rw [pRx, if_neg (by rintro (e | e); exact h e; omega), if_neg (by omega), if_neg (by omega)]
theorem pLeaf_set {k : Int} {q : List Int} (h : q = [] ∨ 0 < k) : pLeaf k q = (bytesR (pSet q).1, (pSet q).2) := by unfold pLeaf; rw [if_pos h]
theorem pLeaf_none {k : Int} {q : List Int} (h : ¬ q = []) (hk : ¬ 0 < k) (hn : num 3 q = 0) : pLeaf k q = (noneR, q.tail) := by unfold pLeaf; rw [if_neg (by rintro (e | e); exact h e; omega), if_pos hn]
theorem pLeaf_empty {k : Int} {q : List Int} (h : ¬ q = []) (hk : ¬ 0 < k) (hn : ¬ num 3 q = 0) : pLeaf k q = (emptyR, q.tail) := by unfold pLeaf; rw [if_neg (by rintro (e | e); exact h e; omega), if_neg hn]
theorem pByte_0 {q : List Int} (h : num 8 q = 0) : pByte q = (num 256 q.tail, q.tail.tail) := by unfold pByte; rw [if_pos h]
theorem pByte_1 {q : List Int} (h : ¬ num 8 q = 0) : pByte q = (97 + num 4 q.tail, q.tail.tail) := by unfold pByte; rw [if_neg h]
theorem rx_walk {w0 : World} : ∀ f : Nat, f ≤ 9 → ∀ (es : List Ent) (ip sp : Nat) (q : List Int) (deep : Int), deep = 9 - f → PK es ip sp q → ACalls Tryd.prog w0 69 [.ptr ip sp 0 0, .int .i64 deep] es fun v es' => v = .agg (pRx f q).1.cells ∧ PG es es' ip sp (pRx f q).2 := by
 intro f
 induction f using Nat.strongRecOn with
 | _ f ih => ?_
 intro hf9 es ip sp q deep hdeep h
 have hipl := h.lt
 have hqb := h.bytes
 refine calls2 (N := 63) Tryd.func69 rfl rfl (by decide) ?_
 refine w_seq ?_
 refine w_region ?_
 refine l_cons rfl (p_alloc ze_29 fun s4 => ?_)
 refine l_nil ?_
 refine k_seq_normal ?_
 refine w_seq ?_
 refine w_region ?_
 refine l_cons rfl (p_move ?_)
 refine l_cons rfl (p_call en_70 ((num_walk 9 (by omega) (h.push _)).mono ?_))
 rintro _ es1 ⟨rfl, hgt⟩
 have hn1 := num_range (q := q) (m := 9) (by omega)
 have hs4 := hgt.top hipl
 refine l_cons rfl (p_assign ?_)
 refine l_nil ?_
 refine k_seq_normal ?_
 refine w_seq ?_
 refine w_seq ?_
 refine w_region ?_
 refine l_cons rfl (p_move ?_)
 refine l_cons rfl (p_callr en_106 (over_walk hgt.1) ?_)
 refine l_cons rfl (p_move ?_)
 refine g_b rfl (fun h1 => ?_) (fun h1 => ?_)
 ·skip
  have h1' := h1; (try simp only [bb] at h1')
  refine (p_move ?_)
  refine g_y rfl h1 (p_cmp ?_)
  refine l_cons rfl (p_pickf h1 ?_)
  refine l_cons rfl (p_move ?_)
  refine g_b rfl (fun h2 => ?_) (fun h2 => ?_)
  ·skip
   have h2' := h2; (try simp only [bb] at h2')
   refine (p_move ?_)
   refine g_y rfl h2 (p_cmp ?_)
   refine l_cons rfl (p_pickf h2 ?_)
   refine l_nil ?_
   refine k_seq_normal ?_
   refine w_b (fun h3 => ?_) (fun h3 => ?_)
   ·skip
    have h3' := h3; (try simp only [bb] at h3')
    refine w_seq ?_
    refine w_block ?_
    refine w_seq ?_
    refine w_region ?_
    refine l_cons rfl (p_move ?_)
    refine l_cons rfl (p_callr en_106 (over_walk hgt.1) ?_)
    refine l_cons rfl (p_move ?_)
    refine g_b rfl (fun h4 => ?_) (fun h4 => ?_)
    ·skip
     have h4' := h4; (try simp only [bb] at h4')
     refine (p_move ?_)
     refine g_y rfl h4 (p_cmp ?_)
     refine l_cons rfl (p_pickf h4 ?_)
     refine l_cons rfl (p_assign ?_)
     refine l_nil ?_
     refine k_seq_normal ?_
     refine w_b (fun h5 => ?_) (fun h5 => ?_)
     ·skip
      have h5' := h5; (try simp only [bb] at h5')
      refine w_seq ?_
      refine w_region ?_
      refine l_cons rfl (p_move ?_)
      refine l_cons rfl (p_call en_107 ((set_walk hgt.1).mono ?_))
      rintro _ es2 ⟨rfl, hg2⟩
      replace hgt := hgt.trans hg2
      have hs4 := hgt.top hipl
      refine l_cons rfl (p_callr en_67 (refBytes (pSet q.tail).1) ?_)
      refine l_cons rfl (p_store ty_29 ?_)
      refine l_nil ?_
      refine k_seq_normal ?_
      refine w_ret ?_
      refine k_blk_ret ?_
      refine k_seq_ret ?_
      refine k_seq_ret ?_
      rw [pRx_leaf (by first | (left; omega) | (right; right; omega) | (right; left; simp_all; done) | (right; left; assumption)), pLeaf_set (by first | (right; omega) | (left; assumption) | (left; simp_all; done))]
      exact retc (he := loc_base (at_setAt_same _ hs4)) rfl ty_29 (Sub.refl _) ⟨rfl, (hgt.pop hipl).put (Nat.le_refl _) _⟩
     ·skip
      have h5' := h5; (try simp only [bb] at h5')
      refine w_seq ?_
      refine w_region ?_
      refine l_cons rfl (p_move ?_)
      refine l_cons rfl (p_call en_70 ((num_walk 3 (by omega) hgt.1).mono ?_))
      rintro _ es2 ⟨rfl, hg2⟩
      replace hgt := hgt.trans hg2
      have hs4 := hgt.top hipl
      refine l_cons rfl (p_cmp ?_)
      refine l_cons rfl (p_assign ?_)
      refine l_nil ?_
      refine k_seq_normal ?_
      refine w_b (fun h6 => ?_) (fun h6 => ?_)
      ·skip
       have h6' := h6; (try simp only [bb] at h6')
       refine w_seq ?_
       refine w_region ?_
       refine l_cons rfl (p_callr en_84 (refNone) ?_)
       refine l_cons rfl (p_store ty_29 ?_)
       refine l_nil ?_
       refine k_seq_normal ?_
       refine w_ret ?_
       refine k_blk_ret ?_
       refine k_seq_ret ?_
       refine k_seq_ret ?_
       rw [pRx_leaf (by first | (left; omega) | (right; right; omega) | (right; left; simp_all; done) | (right; left; assumption)), pLeaf_none (by first | (simp_all; done) | assumption) (by omega) (by omega)]
       exact retc (he := loc_base (at_setAt_same _ hs4)) rfl ty_29 (Sub.refl _) ⟨rfl, (hgt.pop hipl).put (Nat.le_refl _) _⟩
      ·skip
       have h6' := h6; (try simp only [bb] at h6')
       refine w_skip ?_
       refine k_blk_normal ?_
       refine k_seq_normal ?_
       refine w_seq ?_
       refine w_region ?_
       refine l_cons rfl (p_callr en_85 (refEmpty) ?_)
       refine l_cons rfl (p_store ty_29 ?_)
       refine l_nil ?_
       refine k_seq_normal ?_
       refine w_ret ?_
       refine k_seq_ret ?_
       rw [pRx_leaf (by first | (left; omega) | (right; right; omega) | (right; left; simp_all; done) | (right; left; assumption)), pLeaf_empty (by first | (simp_all; done) | assumption) (by omega) (by omega)]
       exact retc (he := loc_base (at_setAt_same _ hs4)) rfl ty_29 (Sub.refl _) ⟨rfl, (hgt.pop hipl).put (Nat.le_refl _) _⟩
    ·skip
     have h4' := h4; (try simp only [bb] at h4')
     refine g_n rfl h4 ?_
     refine l_cons rfl (p_pickt h4 ?_)
     refine l_cons rfl (p_assign ?_)
     refine l_nil ?_
     refine k_seq_normal ?_
     refine w_t rfl ?_
     refine w_seq ?_
     refine w_region ?_
     refine l_cons rfl (p_move ?_)
     refine l_cons rfl (p_call en_107 ((set_walk hgt.1).mono ?_))
     rintro _ es2 ⟨rfl, hg2⟩
     replace hgt := hgt.trans hg2
     have hs4 := hgt.top hipl
     refine l_cons rfl (p_callr en_67 (refBytes (pSet q.tail).1) ?_)
     refine l_cons rfl (p_store ty_29 ?_)
     refine l_nil ?_
     refine k_seq_normal ?_
     refine w_ret ?_
     refine k_blk_ret ?_
     refine k_seq_ret ?_
     refine k_seq_ret ?_
     rw [pRx_leaf (by first | (left; omega) | (right; right; omega) | (right; left; simp_all; done) | (right; left; assumption)), pLeaf_set (by first | (right; omega) | (left; assumption) | (left; simp_all; done))]
     exact retc (he := loc_base (at_setAt_same _ hs4)) rfl ty_29 (Sub.refl _) ⟨rfl, (hgt.pop hipl).put (Nat.le_refl _) _⟩
   ·skip
    have h3' := h3; (try simp only [bb] at h3')
    refine w_skip ?_
    refine k_seq_normal ?_
    refine w_seq ?_
    obtain ⟨g, rfl⟩ : ∃ g, f = g + 1 := ⟨f - 1, by omega⟩
    have hok1 := pRx_ok g hqb.tail
    have hok3 := pRx_ok g hok1.2.1
    have hpw : 2 ^ (g + 1) ≤ 2 ^ 10 := Nat.pow_le_pow_right (by omega) (by omega)
    have hok2 : ∀ r ∈ [(pRx g q.tail).1, (pRx g (pRx g q.tail).2).1], r.ok := fun r hr => by
     simp only [List.mem_cons, List.not_mem_nil, or_false] at hr
     rcases hr with rfl | rfl
     ·exact hok1.1
     ·exact hok3.1
    refine w_region ?_
    refine l_cons rfl (p_move ?_)
    refine l_cons rfl (p_move ?_)
    refine l_cons rfl (p_arith ?_)
    refine l_cons rfl (p_call en_69 ((ih g (by omega) (by omega) _ ip sp q.tail (deep + 1) (by omega) hgt.1).mono ?_))
    rintro _ es2 ⟨rfl, hg2⟩
    replace hgt := hgt.trans hg2
    have hs4 := hgt.top hipl
    have hipl2 := hgt.1.lt
    refine l_cons rfl (p_alloc ze_29 fun s6 => ?_)
    refine l_cons rfl (p_store ty_29 ?_)
    refine l_nil ?_
    refine k_seq_normal ?_
    refine w_seq ?_
    refine w_seq ?_
    refine w_region ?_
    refine l_cons rfl (p_move ?_)
    refine l_nil ?_
    refine k_seq_normal ?_
    refine w_block ?_
    refine w_seq ?_
    refine w_seq ?_
    refine w_region ?_
    refine l_cons rfl (p_cmp ?_)
    refine l_cons rfl (p_assign ?_)
    refine l_nil ?_
    refine k_seq_normal ?_
    refine w_b (fun h7 => ?_) (fun h7 => ?_)
    ·skip
     have h7' := h7; (try simp only [bb] at h7')
     refine w_skip ?_
     refine k_seq_normal ?_
     refine w_t h7 ?_
     refine w_seq ?_
     refine w_drawn 5 [4] (fun e => at_ e es2.length = some (.row s6 29 6 [(pRx g q.tail).1.cells])) mixed (by kernel_rfl) (at_hit _ _) ?_
     refine q1 6 (hg := rfl) (hu := rfl) (h := by rintro f _ hG; exact p_loadp ty_29 ⟨rfl, rfl⟩) (k := ?_)
     refine q1 0 (hg := rfl) (hu := rfl) (h := by rintro f _ hG; exact p_move ⟨rfl, rfl⟩) (k := ?_)
     refine q1 1 (hg := rfl) (hu := rfl) (h := by rintro f _ hG; exact p_move ⟨rfl, rfl⟩) (k := ?_)
     refine q1 46 (hg := rfl) (hu := rfl) (h := by rintro f _ hG; exact p_arith ⟨rfl, rfl⟩) (k := ?_)
     refine q_end ?_
     refine m2 45 47 (hu := rfl) (h := fun f => p_call en_69 ((ih g (by omega) (by omega) _ ip sp (pRx g q.tail).2 (deep + 1) (by omega) (hgt.1.push _)).mono fun v es' hv => ?_))
     obtain ⟨rfl, hg3⟩ := hv
     have hs6 := hg3.top hipl2
     refine ⟨_, rfl, hs6, ?_⟩
     have hgt := hgt.trans (hg3.pop hipl2)
     have hs4 := hgt.top hipl
     refine m_end ?_
     refine l_cons rfl (p_buildList sl_27 ze_29 (rows := [(pRx g q.tail).1.cells, (pRx g (pRx g q.tail).2).1.cells]) ?_ (hr := rfl))
     refine l_cons rfl (p_callr en_39 (refCat [(pRx g q.tail).1, (pRx g (pRx g q.tail).2).1] (by simp only [Rx.nodesL]; omega)) ?_)
     refine l_cons rfl (p_store ty_29 ?_)
     refine l_nil ?_
     refine k_seq_normal ?_
     refine w_ret ?_
     refine k_blk_ret ?_
     refine k_seq_ret ?_
     rw [pRx_cat (by first | (simp_all; done) | assumption) (by omega)]
     exact retc (he := loc_base (at_setAt_same _ hs4)) rfl ty_29 (Sub.refl _) ⟨rfl, (hgt.pop hipl).put (Nat.le_refl _) _⟩
    ·skip
     have h7' := h7; (try simp only [bb] at h7')
     refine w_seq ?_
     refine w_region ?_
     refine l_cons rfl (p_cmp ?_)
     refine l_cons rfl (p_assign ?_)
     refine l_nil ?_
     refine k_seq_normal ?_
     refine w_b (fun h8 => ?_) (fun h8 => ?_)
     ·skip
      have h8' := h8; (try simp only [bb] at h8')
      refine w_skip ?_
      refine k_seq_normal ?_
      refine w_t h8 ?_
      refine w_seq ?_
      refine w_drawn 5 [4] (fun e => at_ e es2.length = some (.row s6 29 6 [(pRx g q.tail).1.cells])) mixed (by kernel_rfl) (at_hit _ _) ?_
      refine q1 6 (hg := rfl) (hu := rfl) (h := by rintro f _ hG; exact p_loadp ty_29 ⟨rfl, rfl⟩) (k := ?_)
      refine q1 0 (hg := rfl) (hu := rfl) (h := by rintro f _ hG; exact p_move ⟨rfl, rfl⟩) (k := ?_)
      refine q1 1 (hg := rfl) (hu := rfl) (h := by rintro f _ hG; exact p_move ⟨rfl, rfl⟩) (k := ?_)
      refine q1 46 (hg := rfl) (hu := rfl) (h := by rintro f _ hG; exact p_arith ⟨rfl, rfl⟩) (k := ?_)
      refine q_end ?_
      refine m2 45 47 (hu := rfl) (h := fun f => p_call en_69 ((ih g (by omega) (by omega) _ ip sp (pRx g q.tail).2 (deep + 1) (by omega) (hgt.1.push _)).mono fun v es' hv => ?_))
      obtain ⟨rfl, hg3⟩ := hv
      have hs6 := hg3.top hipl2
      refine ⟨_, rfl, hs6, ?_⟩
      have hgt := hgt.trans (hg3.pop hipl2)
      have hs4 := hgt.top hipl
      refine m_end ?_
      refine l_cons rfl (p_buildList sl_27 ze_29 (rows := [(pRx g q.tail).1.cells, (pRx g (pRx g q.tail).2).1.cells]) ?_ (hr := rfl))
      refine l_cons rfl (p_callr en_39 (refCat [(pRx g q.tail).1, (pRx g (pRx g q.tail).2).1] (by simp only [Rx.nodesL]; omega)) ?_)
      refine l_cons rfl (p_store ty_29 ?_)
      refine l_nil ?_
      refine k_seq_normal ?_
      refine w_ret ?_
      refine k_blk_ret ?_
      refine k_seq_ret ?_
      rw [pRx_cat (by first | (simp_all; done) | assumption) (by omega)]
      exact retc (he := loc_base (at_setAt_same _ hs4)) rfl ty_29 (Sub.refl _) ⟨rfl, (hgt.pop hipl).put (Nat.le_refl _) _⟩
     ·skip
      have h8' := h8; (try simp only [bb] at h8')
      refine w_region ?_
      refine l_cons rfl (p_cmp ?_)
      refine l_cons rfl (p_assign ?_)
      refine l_nil ?_
      refine k_seq_normal ?_
      refine w_b (fun h9 => ?_) (fun h9 => ?_)
      ·skip
       have h9' := h9; (try simp only [bb] at h9')
       refine w_seq ?_
       refine w_drawn 5 [4] (fun e => at_ e es2.length = some (.row s6 29 6 [(pRx g q.tail).1.cells])) mixed (by kernel_rfl) (at_hit _ _) ?_
       refine q1 6 (hg := rfl) (hu := rfl) (h := by rintro f _ hG; exact p_loadp ty_29 ⟨rfl, rfl⟩) (k := ?_)
       refine q1 0 (hg := rfl) (hu := rfl) (h := by rintro f _ hG; exact p_move ⟨rfl, rfl⟩) (k := ?_)
       refine q1 1 (hg := rfl) (hu := rfl) (h := by rintro f _ hG; exact p_move ⟨rfl, rfl⟩) (k := ?_)
       refine q1 46 (hg := rfl) (hu := rfl) (h := by rintro f _ hG; exact p_arith ⟨rfl, rfl⟩) (k := ?_)
       refine q_end ?_
       refine m2 45 47 (hu := rfl) (h := fun f => p_call en_69 ((ih g (by omega) (by omega) _ ip sp (pRx g q.tail).2 (deep + 1) (by omega) (hgt.1.push _)).mono fun v es' hv => ?_))
       obtain ⟨rfl, hg3⟩ := hv
       have hs6 := hg3.top hipl2
       refine ⟨_, rfl, hs6, ?_⟩
       have hgt := hgt.trans (hg3.pop hipl2)
       have hs4 := hgt.top hipl
       refine m_end ?_
       refine l_cons rfl (p_buildList sl_27 ze_29 (rows := [(pRx g q.tail).1.cells, (pRx g (pRx g q.tail).2).1.cells]) ?_ (hr := rfl))
       refine l_cons rfl (p_callr en_39 (refCat [(pRx g q.tail).1, (pRx g (pRx g q.tail).2).1] (by simp only [Rx.nodesL]; omega)) ?_)
       refine l_cons rfl (p_store ty_29 ?_)
       refine l_nil ?_
       refine k_seq_normal ?_
       refine w_ret ?_
       refine k_blk_ret ?_
       refine k_seq_ret ?_
       rw [pRx_cat (by first | (simp_all; done) | assumption) (by omega)]
       exact retc (he := loc_base (at_setAt_same _ hs4)) rfl ty_29 (Sub.refl _) ⟨rfl, (hgt.pop hipl).put (Nat.le_refl _) _⟩
      ·skip
       have h9' := h9; (try simp only [bb] at h9')
       refine w_seq ?_
       refine w_seq ?_
       refine w_region ?_
       refine l_cons rfl (p_cmp ?_)
       refine l_cons rfl (p_assign ?_)
       refine l_nil ?_
       refine k_seq_normal ?_
       refine w_b (fun h10 => ?_) (fun h10 => ?_)
       ·skip
        have h10' := h10; (try simp only [bb] at h10')
        refine w_skip ?_
        refine k_seq_normal ?_
        refine w_t h10 ?_
        refine w_seq ?_
        refine w_drawn 5 [4] (fun e => at_ e es2.length = some (.row s6 29 6 [(pRx g q.tail).1.cells])) mixed (by kernel_rfl) (at_hit _ _) ?_
        refine q1 6 (hg := rfl) (hu := rfl) (h := by rintro f _ hG; exact p_loadp ty_29 ⟨rfl, rfl⟩) (k := ?_)
        refine q1 0 (hg := rfl) (hu := rfl) (h := by rintro f _ hG; exact p_move ⟨rfl, rfl⟩) (k := ?_)
        refine q1 1 (hg := rfl) (hu := rfl) (h := by rintro f _ hG; exact p_move ⟨rfl, rfl⟩) (k := ?_)
        refine q1 56 (hg := rfl) (hu := rfl) (h := by rintro f _ hG; exact p_arith ⟨rfl, rfl⟩) (k := ?_)
        refine q_end ?_
        refine m2 55 57 (hu := rfl) (h := fun f => p_call en_69 ((ih g (by omega) (by omega) _ ip sp (pRx g q.tail).2 (deep + 1) (by omega) (hgt.1.push _)).mono fun v es' hv => ?_))
        obtain ⟨rfl, hg3⟩ := hv
        have hs6 := hg3.top hipl2
        refine ⟨_, rfl, hs6, ?_⟩
        have hgt := hgt.trans (hg3.pop hipl2)
        have hs4 := hgt.top hipl
        refine m_end ?_
        refine l_cons rfl (p_buildList sl_27 ze_29 (rows := [(pRx g q.tail).1.cells, (pRx g (pRx g q.tail).2).1.cells]) ?_ (hr := rfl))
        refine l_cons rfl (p_callr en_40 (refAlt [(pRx g q.tail).1, (pRx g (pRx g q.tail).2).1] hok2 (by simp only [Rx.nodesL]; omega)) ?_)
        refine l_cons rfl (p_store ty_29 ?_)
        refine l_nil ?_
        refine k_seq_normal ?_
        refine w_ret ?_
        refine k_blk_ret ?_
        refine k_seq_ret ?_
        rw [pRx_alt (by first | (simp_all; done) | assumption) (by omega)]
        exact retc (he := loc_base (at_setAt_same _ hs4)) rfl ty_29 (Sub.refl _) ⟨rfl, (hgt.pop hipl).put (Nat.le_refl _) _⟩
       ·skip
        have h10' := h10; (try simp only [bb] at h10')
        refine w_region ?_
        refine l_cons rfl (p_cmp ?_)
        refine l_cons rfl (p_assign ?_)
        refine l_nil ?_
        refine k_seq_normal ?_
        refine w_b (fun h11 => ?_) (fun h11 => ?_)
        ·skip
         have h11' := h11; (try simp only [bb] at h11')
         refine w_seq ?_
         refine w_drawn 5 [4] (fun e => at_ e es2.length = some (.row s6 29 6 [(pRx g q.tail).1.cells])) mixed (by kernel_rfl) (at_hit _ _) ?_
         refine q1 6 (hg := rfl) (hu := rfl) (h := by rintro f _ hG; exact p_loadp ty_29 ⟨rfl, rfl⟩) (k := ?_)
         refine q1 0 (hg := rfl) (hu := rfl) (h := by rintro f _ hG; exact p_move ⟨rfl, rfl⟩) (k := ?_)
         refine q1 1 (hg := rfl) (hu := rfl) (h := by rintro f _ hG; exact p_move ⟨rfl, rfl⟩) (k := ?_)
         refine q1 56 (hg := rfl) (hu := rfl) (h := by rintro f _ hG; exact p_arith ⟨rfl, rfl⟩) (k := ?_)
         refine q_end ?_
         refine m2 55 57 (hu := rfl) (h := fun f => p_call en_69 ((ih g (by omega) (by omega) _ ip sp (pRx g q.tail).2 (deep + 1) (by omega) (hgt.1.push _)).mono fun v es' hv => ?_))
         obtain ⟨rfl, hg3⟩ := hv
         have hs6 := hg3.top hipl2
         refine ⟨_, rfl, hs6, ?_⟩
         have hgt := hgt.trans (hg3.pop hipl2)
         have hs4 := hgt.top hipl
         refine m_end ?_
         refine l_cons rfl (p_buildList sl_27 ze_29 (rows := [(pRx g q.tail).1.cells, (pRx g (pRx g q.tail).2).1.cells]) ?_ (hr := rfl))
         refine l_cons rfl (p_callr en_40 (refAlt [(pRx g q.tail).1, (pRx g (pRx g q.tail).2).1] hok2 (by simp only [Rx.nodesL]; omega)) ?_)
         refine l_cons rfl (p_store ty_29 ?_)
         refine l_nil ?_
         refine k_seq_normal ?_
         refine w_ret ?_
         refine k_blk_ret ?_
         refine k_seq_ret ?_
         rw [pRx_alt (by first | (simp_all; done) | assumption) (by omega)]
         exact retc (he := loc_base (at_setAt_same _ hs4)) rfl ty_29 (Sub.refl _) ⟨rfl, (hgt.pop hipl).put (Nat.le_refl _) _⟩
        ·skip
         have h11' := h11; (try simp only [bb] at h11')
         refine w_skip ?_
         refine k_blk_normal ?_
         refine k_seq_normal ?_
         refine w_seq ?_
         have hs6 : at_ (Ent.row s6 29 6 [(pRx g q.tail).1.cells] :: es2) es2.length = some (.row s6 29 6 [(pRx g q.tail).1.cells]) := at_hit _ _
         refine w_region ?_
         refine l_cons rfl (p_loadp ty_29 ?_)
         refine l_cons rfl (p_callr en_41 (refStarR (pRx g q.tail).1 (by omega) hok1.1) ?_)
         refine l_cons rfl (p_store ty_29 ?_)
         refine l_nil ?_
         refine k_seq_normal ?_
         refine w_ret ?_
         rw [pRx_star (by first | (simp_all; done) | assumption) (by omega)]
         exact retc (he := loc_miss (loc_base (at_setAt_same _ hs4))) rfl ty_29 (Sub.refl _) ⟨rfl, ((hgt.pop hipl).put (Nat.le_refl _) _).up _⟩
  ·skip
   have h2' := h2; (try simp only [bb] at h2')
   refine g_n rfl h2 ?_
   refine l_cons rfl (p_pickt h2 ?_)
   refine l_nil ?_
   refine k_seq_normal ?_
   refine w_t rfl ?_
   refine w_seq ?_
   refine w_block ?_
   refine w_seq ?_
   refine w_region ?_
   refine l_cons rfl (p_move ?_)
   refine l_cons rfl (p_callr en_106 (over_walk hgt.1) ?_)
   refine l_cons rfl (p_move ?_)
   refine g_b rfl (fun h12 => ?_) (fun h12 => ?_)
   ·skip
    have h12' := h12; (try simp only [bb] at h12')
    refine (p_move ?_)
    refine g_y rfl h12 (p_cmp ?_)
    refine l_cons rfl (p_pickf h12 ?_)
    refine l_cons rfl (p_assign ?_)
    refine l_nil ?_
    refine k_seq_normal ?_
    refine w_b (fun h13 => ?_) (fun h13 => ?_)
    ·skip
     have h13' := h13; (try simp only [bb] at h13')
     refine w_seq ?_
     refine w_region ?_
     refine l_cons rfl (p_move ?_)
     refine l_cons rfl (p_call en_107 ((set_walk hgt.1).mono ?_))
     rintro _ es2 ⟨rfl, hg2⟩
     replace hgt := hgt.trans hg2
     have hs4 := hgt.top hipl
     refine l_cons rfl (p_callr en_67 (refBytes (pSet q.tail).1) ?_)
     refine l_cons rfl (p_store ty_29 ?_)
     refine l_nil ?_
     refine k_seq_normal ?_
     refine w_ret ?_
     refine k_blk_ret ?_
     refine k_seq_ret ?_
     refine k_seq_ret ?_
     rw [pRx_leaf (by first | (left; omega) | (right; right; omega) | (right; left; simp_all; done) | (right; left; assumption)), pLeaf_set (by first | (right; omega) | (left; assumption) | (left; simp_all; done))]
     exact retc (he := loc_base (at_setAt_same _ hs4)) rfl ty_29 (Sub.refl _) ⟨rfl, (hgt.pop hipl).put (Nat.le_refl _) _⟩
    ·skip
     have h13' := h13; (try simp only [bb] at h13')
     refine w_seq ?_
     refine w_region ?_
     refine l_cons rfl (p_move ?_)
     refine l_cons rfl (p_call en_70 ((num_walk 3 (by omega) hgt.1).mono ?_))
     rintro _ es2 ⟨rfl, hg2⟩
     replace hgt := hgt.trans hg2
     have hs4 := hgt.top hipl
     refine l_cons rfl (p_cmp ?_)
     refine l_cons rfl (p_assign ?_)
     refine l_nil ?_
     refine k_seq_normal ?_
     refine w_b (fun h14 => ?_) (fun h14 => ?_)
     ·skip
      have h14' := h14; (try simp only [bb] at h14')
      refine w_seq ?_
      refine w_region ?_
      refine l_cons rfl (p_callr en_84 (refNone) ?_)
      refine l_cons rfl (p_store ty_29 ?_)
      refine l_nil ?_
      refine k_seq_normal ?_
      refine w_ret ?_
      refine k_blk_ret ?_
      refine k_seq_ret ?_
      refine k_seq_ret ?_
      rw [pRx_leaf (by first | (left; omega) | (right; right; omega) | (right; left; simp_all; done) | (right; left; assumption)), pLeaf_none (by first | (simp_all; done) | assumption) (by omega) (by omega)]
      exact retc (he := loc_base (at_setAt_same _ hs4)) rfl ty_29 (Sub.refl _) ⟨rfl, (hgt.pop hipl).put (Nat.le_refl _) _⟩
     ·skip
      have h14' := h14; (try simp only [bb] at h14')
      refine w_skip ?_
      refine k_blk_normal ?_
      refine k_seq_normal ?_
      refine w_seq ?_
      refine w_region ?_
      refine l_cons rfl (p_callr en_85 (refEmpty) ?_)
      refine l_cons rfl (p_store ty_29 ?_)
      refine l_nil ?_
      refine k_seq_normal ?_
      refine w_ret ?_
      refine k_seq_ret ?_
      rw [pRx_leaf (by first | (left; omega) | (right; right; omega) | (right; left; simp_all; done) | (right; left; assumption)), pLeaf_empty (by first | (simp_all; done) | assumption) (by omega) (by omega)]
      exact retc (he := loc_base (at_setAt_same _ hs4)) rfl ty_29 (Sub.refl _) ⟨rfl, (hgt.pop hipl).put (Nat.le_refl _) _⟩
   ·skip
    have h12' := h12; (try simp only [bb] at h12')
    refine g_n rfl h12 ?_
    refine l_cons rfl (p_pickt h12 ?_)
    refine l_cons rfl (p_assign ?_)
    refine l_nil ?_
    refine k_seq_normal ?_
    refine w_t rfl ?_
    refine w_seq ?_
    refine w_region ?_
    refine l_cons rfl (p_move ?_)
    refine l_cons rfl (p_call en_107 ((set_walk hgt.1).mono ?_))
    rintro _ es2 ⟨rfl, hg2⟩
    replace hgt := hgt.trans hg2
    have hs4 := hgt.top hipl
    refine l_cons rfl (p_callr en_67 (refBytes (pSet q.tail).1) ?_)
    refine l_cons rfl (p_store ty_29 ?_)
    refine l_nil ?_
    refine k_seq_normal ?_
    refine w_ret ?_
    refine k_blk_ret ?_
    refine k_seq_ret ?_
    refine k_seq_ret ?_
    rw [pRx_leaf (by first | (left; omega) | (right; right; omega) | (right; left; simp_all; done) | (right; left; assumption)), pLeaf_set (by first | (right; omega) | (left; assumption) | (left; simp_all; done))]
    exact retc (he := loc_base (at_setAt_same _ hs4)) rfl ty_29 (Sub.refl _) ⟨rfl, (hgt.pop hipl).put (Nat.le_refl _) _⟩
 ·skip
  have h1' := h1; (try simp only [bb] at h1')
  refine g_n rfl h1 ?_
  refine l_cons rfl (p_pickt h1 ?_)
  refine l_cons rfl (p_move ?_)
  refine g_n rfl rfl ?_
  refine g_n rfl rfl ?_
  refine l_cons rfl (p_pickt rfl ?_)
  refine l_nil ?_
  refine k_seq_normal ?_
  refine w_t rfl ?_
  refine w_seq ?_
  refine w_block ?_
  refine w_seq ?_
  refine w_region ?_
  refine l_cons rfl (p_move ?_)
  refine l_cons rfl (p_callr en_106 (over_walk hgt.1) ?_)
  refine l_cons rfl (p_move ?_)
  refine g_b rfl (fun h15 => ?_) (fun h15 => ?_)
  ·skip
   have h15' := h15; (try simp only [bb] at h15')
   refine (p_move ?_)
   refine g_y rfl h15 (p_cmp ?_)
   refine l_cons rfl (p_pickf h15 ?_)
   refine l_cons rfl (p_assign ?_)
   refine l_nil ?_
   refine k_seq_normal ?_
   refine w_b (fun h16 => ?_) (fun h16 => ?_)
   ·skip
    have h16' := h16; (try simp only [bb] at h16')
    refine w_seq ?_
    refine w_region ?_
    refine l_cons rfl (p_move ?_)
    refine l_cons rfl (p_call en_107 ((set_walk hgt.1).mono ?_))
    rintro _ es2 ⟨rfl, hg2⟩
    replace hgt := hgt.trans hg2
    have hs4 := hgt.top hipl
    refine l_cons rfl (p_callr en_67 (refBytes (pSet q.tail).1) ?_)
    refine l_cons rfl (p_store ty_29 ?_)
    refine l_nil ?_
    refine k_seq_normal ?_
    refine w_ret ?_
    refine k_blk_ret ?_
    refine k_seq_ret ?_
    refine k_seq_ret ?_
    rw [pRx_leaf (by first | (left; omega) | (right; right; omega) | (right; left; simp_all; done) | (right; left; assumption)), pLeaf_set (by first | (right; omega) | (left; assumption) | (left; simp_all; done))]
    exact retc (he := loc_base (at_setAt_same _ hs4)) rfl ty_29 (Sub.refl _) ⟨rfl, (hgt.pop hipl).put (Nat.le_refl _) _⟩
   ·skip
    have h16' := h16; (try simp only [bb] at h16')
    refine w_seq ?_
    refine w_region ?_
    refine l_cons rfl (p_move ?_)
    refine l_cons rfl (p_call en_70 ((num_walk 3 (by omega) hgt.1).mono ?_))
    rintro _ es2 ⟨rfl, hg2⟩
    replace hgt := hgt.trans hg2
    have hs4 := hgt.top hipl
    refine l_cons rfl (p_cmp ?_)
    refine l_cons rfl (p_assign ?_)
    refine l_nil ?_
    refine k_seq_normal ?_
    refine w_b (fun h17 => ?_) (fun h17 => ?_)
    ·skip
     have h17' := h17; (try simp only [bb] at h17')
     refine w_seq ?_
     refine w_region ?_
     refine l_cons rfl (p_callr en_84 (refNone) ?_)
     refine l_cons rfl (p_store ty_29 ?_)
     refine l_nil ?_
     refine k_seq_normal ?_
     refine w_ret ?_
     refine k_blk_ret ?_
     refine k_seq_ret ?_
     refine k_seq_ret ?_
     rw [pRx_leaf (by first | (left; omega) | (right; right; omega) | (right; left; simp_all; done) | (right; left; assumption)), pLeaf_none (by first | (simp_all; done) | assumption) (by omega) (by omega)]
     exact retc (he := loc_base (at_setAt_same _ hs4)) rfl ty_29 (Sub.refl _) ⟨rfl, (hgt.pop hipl).put (Nat.le_refl _) _⟩
    ·skip
     have h17' := h17; (try simp only [bb] at h17')
     refine w_skip ?_
     refine k_blk_normal ?_
     refine k_seq_normal ?_
     refine w_seq ?_
     refine w_region ?_
     refine l_cons rfl (p_callr en_85 (refEmpty) ?_)
     refine l_cons rfl (p_store ty_29 ?_)
     refine l_nil ?_
     refine k_seq_normal ?_
     refine w_ret ?_
     refine k_seq_ret ?_
     rw [pRx_leaf (by first | (left; omega) | (right; right; omega) | (right; left; simp_all; done) | (right; left; assumption)), pLeaf_empty (by first | (simp_all; done) | assumption) (by omega) (by omega)]
     exact retc (he := loc_base (at_setAt_same _ hs4)) rfl ty_29 (Sub.refl _) ⟨rfl, (hgt.pop hipl).put (Nat.le_refl _) _⟩
  ·skip
   have h15' := h15; (try simp only [bb] at h15')
   refine g_n rfl h15 ?_
   refine l_cons rfl (p_pickt h15 ?_)
   refine l_cons rfl (p_assign ?_)
   refine l_nil ?_
   refine k_seq_normal ?_
   refine w_t rfl ?_
   refine w_seq ?_
   refine w_region ?_
   refine l_cons rfl (p_move ?_)
   refine l_cons rfl (p_call en_107 ((set_walk hgt.1).mono ?_))
   rintro _ es2 ⟨rfl, hg2⟩
   replace hgt := hgt.trans hg2
   have hs4 := hgt.top hipl
   refine l_cons rfl (p_callr en_67 (refBytes (pSet q.tail).1) ?_)
   refine l_cons rfl (p_store ty_29 ?_)
   refine l_nil ?_
   refine k_seq_normal ?_
   refine w_ret ?_
   refine k_blk_ret ?_
   refine k_seq_ret ?_
   refine k_seq_ret ?_
   rw [pRx_leaf (by first | (left; omega) | (right; right; omega) | (right; left; simp_all; done) | (right; left; assumption)), pLeaf_set (by first | (right; omega) | (left; assumption) | (left; simp_all; done))]
   exact retc (he := loc_base (at_setAt_same _ hs4)) rfl ty_29 (Sub.refl _) ⟨rfl, (hgt.pop hipl).put (Nat.le_refl _) _⟩
theorem Rx_walk {w0 : World} {es : List Ent} {ip sp : Nat} {q : List Int} (h : PK es ip sp q) : ACalls Tryd.prog w0 25 [.ptr ip sp 0 0] es fun v es' => v = .agg (pRx 9 q).1.cells ∧ PG es es' ip sp (pRx 9 q).2 := by
 have hipl := h.lt
 refine calls1 (N := 5) Tryd.func25 rfl rfl (by decide) ?_
 refine w_seq ?_
 refine w_region ?_
 refine l_cons rfl (p_alloc ze_29 fun s2 => ?_)
 refine l_nil ?_
 refine k_seq_normal ?_
 refine w_seq ?_
 refine w_region ?_
 refine l_cons rfl (p_move ?_)
 refine l_cons rfl (p_call en_69 ((rx_walk 9 (by omega) _ ip sp q 0 (by omega) (h.push _)).mono ?_))
 rintro _ es1 ⟨rfl, hgt⟩
 have hs4 := hgt.top hipl
 refine l_cons rfl (p_store ty_29 ?_)
 refine l_nil ?_
 refine k_seq_normal ?_
 refine w_ret ?_
 exact retc (he := loc_base (at_setAt_same _ hs4)) rfl ty_29 (Sub.refl _) ⟨rfl, (hgt.pop hipl).put (Nat.le_refl _) _⟩
theorem word_walk {w0 : World} {es : List Ent} {ip sp : Nat} {q : List Int} (most : Nat) (hm : most ≤ 1000) (h : PK es ip sp q) : ACalls Tryd.prog w0 26 [.ptr ip sp 0 0, .int .i64 (most : Int)] es fun v es' => v = bytesAV (pWord most q) ∧ ∃ q', PG es es' ip sp q' := by
 have hipl := h.lt
 refine calls2 (N := 32) Tryd.func26 rfl rfl (by decide) ?_
 refine w_seq ?_
 refine w_region ?_
 refine l_cons rfl (p_assign ?_)
 refine l_nil ?_
 refine k_seq_normal ?_
 refine w_seq ?_
 refine w_region ?_
 refine l_cons rfl (p_assign ?_)
 refine l_nil ?_
 refine k_seq_normal ?_
 refine w_seq ?_
 refine w_seq ?_
 refine w_adopt 5 5 1 rfl fun s5 => ?_
 simp only [upd_upd]
 refine w_region ?_
 refine l_cons rfl (p_move ?_)
 refine l_cons rfl (p_move ?_)
 refine l_cons rfl (p_arith ?_)
 refine l_cons rfl (p_call en_70 ((num_walk ((most : Int) + 1) (by omega) (h.push _)).mono ?_))
 rintro _ es1 ⟨rfl, hgt⟩
 have hn0 := num_range (q := q) (m := (most : Int) + 1) (by omega)
 have hs5 := hgt.top hipl
 refine l_cons rfl (p_assign ?_)
 refine l_nil ?_
 refine k_seq_normal ?_
 refine w_block ?_
 refine w_loop (fun m f es2 => ∃ k out s5 q2, m = k ∧ out ++ pWordGo k q2 = pWord most q ∧ out.length + k ≤ most ∧ at_ es2 es.length = some (.row s5 5 1 ((out).map fun n => [.int .u8 n])) ∧ es.length < es2.length ∧ PG es es2 ip sp q2 ∧ Knows f [(0, .ptr ip sp 0 0), (5, .own es.length s5), (6, .int .i64 (k : Int))]) ((num (most + 1) q).toNat) (⟨(num (most + 1) q).toNat, [], s5, q.tail, rfl, rfl, by simp only [List.length_nil]; omega, hs5, Nat.lt_of_lt_of_le (Nat.lt_succ_self _) hgt.2.2, hgt.pop hipl, by rw [Int.toNat_of_nonneg hn0.1]; exact kn⟩) ?_
 rintro m f es2 ⟨k, out, s5, q2, rfl, ho, hol, hs5, hel, hgt, hk⟩
 refine w_pins _ (Sub.refl _) (hk) ?_
 simp only [pins]
 refine w_seq ?_
 refine w_seq ?_
 refine w_region ?_
 refine l_cons rfl (p_move ?_)
 refine l_cons rfl (p_cmp ?_)
 refine l_nil ?_
 refine k_seq_normal ?_
 refine w_b (fun h1 => ?_) (fun h1 => ?_)
 ·skip
  have h1' := h1; (try simp only [bb] at h1')
  refine w_skip ?_
  refine k_seq_normal ?_
  refine w_seq ?_
  refine w_block ?_
  refine w_seq ?_
  refine w_region ?_
  refine l_cons rfl (p_move ?_)
  refine l_cons rfl (p_call en_70 ((num_walk 8 (by omega) hgt.1).mono ?_))
  rintro _ es3 ⟨rfl, hg2⟩
  have hn2 := num_range (q := q2) (m := 8) (by omega)
  have hgt2 := hgt.trans hg2
  have hs5' := (hg2.2.1 _ (by omega) hel).trans hs5
  refine l_cons rfl (p_cmp ?_)
  refine l_nil ?_
  refine k_seq_normal ?_
  refine w_b (fun h2 => ?_) (fun h2 => ?_)
  ·skip
   have h2' := h2; (try simp only [bb] at h2')
   refine w_region ?_
   refine l_cons rfl (p_move ?_)
   refine l_cons rfl (p_move ?_)
   refine l_cons rfl (p_call en_70 ((num_walk 256 (by omega) hgt2.1).mono ?_))
   rintro _ es4 ⟨rfl, hg3⟩
   have hn3 := num_range (q := q2.tail) (m := 256) (by omega)
   have hgt3 := hgt2.trans hg3
   have hel3 := Nat.lt_of_lt_of_le hel hg2.2.2
   have hs5'' := (hg3.2.1 _ (by omega) hel3).trans hs5'
   refine l_cons rfl (p_conv in_3 in_5 ?_ (hb := wrap8 (n := num 256 q2.tail) (by omega) (by omega)))
   refine l_cons rfl (p_buildList sl_22 ze_5 ?_)
   refine l_cons rfl (p_append sl_22 by_5 ze_5 (fun s23 => ?_) (hb := by simp only [List.length_map, List.length_cons, List.length_nil, Go.Proofs.YtfdgbghlanbddaaDoor.Av.most]; omega))
   refine l_cons rfl (p_assign ?_)
   refine l_nil ?_
   refine k_blk_normal ?_
   refine k_seq_normal ?_
   refine w_region ?_
   refine l_cons rfl (p_move ?_)
   refine l_cons rfl (p_arith ?_)
   refine l_cons rfl (p_assign ?_)
   refine l_nil ?_
   refine k_seq_normal ?_
   obtain ⟨j, rfl⟩ : ∃ j, m = j + 1 := ⟨m - 1, by omega⟩
   first
   | exact ⟨j, by omega, j, out ++ [(pByte q2).1], s23, (pByte q2).2, rfl, by rw [← ho, pWordGo, List.append_assoc]; rfl, by simp; omega, by rw [pByte_0 (by omega)]; have hx := at_setAt_same (.row s23 5 1 (((out).map fun n => [.int .u8 n]) ++ [[.int .u8 (num 256 q2.tail)]])) hs5''; rw [List.map_append]; exact hx, by rw [setAt_len]; have := hg3.2.2; omega, by rw [pByte_0 (by omega)]; exact hgt3.put (Nat.le_refl _) _, by rw [show (((j + 1 : Nat) : Int) - 1) = (j : Int) by omega]; exact kn⟩
   | exact ⟨j, by omega, j, out ++ [(pByte q2).1], s30, (pByte q2).2, rfl, by rw [← ho, pWordGo, List.append_assoc]; rfl, by simp; omega, by rw [pByte_1 (by omega)]; have hx := at_setAt_same (.row s30 5 1 (((out).map fun n => [.int .u8 n]) ++ [[.int .u8 (97 + num 4 q2.tail)]])) hs5''; rw [List.map_append]; exact hx, by rw [setAt_len]; have := hg3.2.2; omega, by rw [pByte_1 (by omega)]; exact hgt3.put (Nat.le_refl _) _, by rw [show (((j + 1 : Nat) : Int) - 1) = (j : Int) by omega]; exact kn⟩
  ·skip
   have h2' := h2; (try simp only [bb] at h2')
   refine w_region ?_
   refine l_cons rfl (p_move ?_)
   refine l_cons rfl (p_move ?_)
   refine l_cons rfl (p_call en_70 ((num_walk 4 (by omega) hgt2.1).mono ?_))
   rintro _ es4 ⟨rfl, hg3⟩
   have hn3 := num_range (q := q2.tail) (m := 4) (by omega)
   have hgt3 := hgt2.trans hg3
   have hel3 := Nat.lt_of_lt_of_le hel hg2.2.2
   have hs5'' := (hg3.2.1 _ (by omega) hel3).trans hs5'
   refine l_cons rfl (p_arith ?_)
   refine l_cons rfl (p_conv in_3 in_5 ?_ (hb := wrap8 (n := 97 + num 4 q2.tail) (by omega) (by omega)))
   refine l_cons rfl (p_buildList sl_22 ze_5 ?_)
   refine l_cons rfl (p_append sl_22 by_5 ze_5 (fun s30 => ?_) (hb := by simp only [List.length_map, List.length_cons, List.length_nil, Go.Proofs.YtfdgbghlanbddaaDoor.Av.most]; omega))
   refine l_cons rfl (p_assign ?_)
   refine l_nil ?_
   refine k_blk_normal ?_
   refine k_seq_normal ?_
   refine w_region ?_
   refine l_cons rfl (p_move ?_)
   refine l_cons rfl (p_arith ?_)
   refine l_cons rfl (p_assign ?_)
   refine l_nil ?_
   refine k_seq_normal ?_
   obtain ⟨j, rfl⟩ : ∃ j, m = j + 1 := ⟨m - 1, by omega⟩
   first
   | exact ⟨j, by omega, j, out ++ [(pByte q2).1], s23, (pByte q2).2, rfl, by rw [← ho, pWordGo, List.append_assoc]; rfl, by simp; omega, by rw [pByte_0 (by omega)]; have hx := at_setAt_same (.row s23 5 1 (((out).map fun n => [.int .u8 n]) ++ [[.int .u8 (num 256 q2.tail)]])) hs5''; rw [List.map_append]; exact hx, by rw [setAt_len]; have := hg3.2.2; omega, by rw [pByte_0 (by omega)]; exact hgt3.put (Nat.le_refl _) _, by rw [show (((j + 1 : Nat) : Int) - 1) = (j : Int) by omega]; exact kn⟩
   | exact ⟨j, by omega, j, out ++ [(pByte q2).1], s30, (pByte q2).2, rfl, by rw [← ho, pWordGo, List.append_assoc]; rfl, by simp; omega, by rw [pByte_1 (by omega)]; have hx := at_setAt_same (.row s30 5 1 (((out).map fun n => [.int .u8 n]) ++ [[.int .u8 (97 + num 4 q2.tail)]])) hs5''; rw [List.map_append]; exact hx, by rw [setAt_len]; have := hg3.2.2; omega, by rw [pByte_1 (by omega)]; exact hgt3.put (Nat.le_refl _) _, by rw [show (((j + 1 : Nat) : Int) - 1) = (j : Int) by omega]; exact kn⟩
 ·skip
  have h1' := h1; (try simp only [bb] at h1')
  refine w_exit ?_
  refine k_seq_exit ?_
  refine k_seq_exit ?_
  refine k_blk_here ?_
  refine k_seq_normal ?_
  refine w_seq ?_
  refine w_freeze 5 rfl hs5 (cleans_u8 _) ?_
  refine w_region ?_
  refine l_cons rfl (p_move ?_)
  refine l_cons rfl (p_assign ?_)
  refine l_nil ?_
  refine k_seq_normal ?_
  refine w_ret ?_
  obtain rfl : m = 0 := by omega
  rw [← ho, pWordGo, List.append_nil]
  exact ret1 rfl ev1 (Sub.refl _) ⟨rfl, q2, hgt.put (Nat.le_refl _) _⟩
end
section
/-! ### the words of an expression -/
inductive Star (P : List Int → Prop) : List Int → Prop
 | nil : Star P []
 | cons {u v : List Int} : P u → Star P v → Star P (u ++ v)
def W4.hasI (s : W4) (b : Int) : Bool := hasW s.w0 s.w1 s.w2 s.w3 b
mutual
def Rx.lang : Rx → List Int → Prop
 | .mk k s l => fun w => (k = 2 ∧ w = []) ∨ (k = 3 ∧ ∃ b, w = [b] ∧ s.hasI b = true) ∨ (k = 4 ∧ Rx.langCat l w) ∨ (k = 5 ∧ Rx.langAlt l w) ∨ (k = 6 ∧ Star (Rx.langOne l) w)
def Rx.langCat : List Rx → List Int → Prop
 | [] => fun w => w = []
 | a :: t => fun w => ∃ u v, w = u ++ v ∧ a.lang u ∧ Rx.langCat t v
def Rx.langAlt : List Rx → List Int → Prop
 | [] => fun _ => False
 | a :: t => fun w => a.lang w ∨ Rx.langAlt t w
def Rx.langOne : List Rx → List Int → Prop
 | [] => fun _ => False
 | a :: t => fun w => t = [] ∧ a.lang w
end
theorem lang_eq (r : Rx) (w : List Int) : r.lang w ↔ (r.kind = 2 ∧ w = []) ∨ (r.kind = 3 ∧ ∃ b, w = [b] ∧ r.set.hasI b = true) ∨ (r.kind = 4 ∧ Rx.langCat r.args w) ∨ (r.kind = 5 ∧ Rx.langAlt r.args w) ∨ (r.kind = 6 ∧ Star (Rx.langOne r.args) w) := by
 cases r
 rw [Rx.lang]
 rfl
theorem langCat_nil (w : List Int) : Rx.langCat [] w ↔ w = [] := by rw [Rx.langCat]
theorem langCat_cons (a : Rx) (t : List Rx) (w : List Int) : Rx.langCat (a :: t) w ↔ ∃ u v, w = u ++ v ∧ a.lang u ∧ Rx.langCat t v := by rw [Rx.langCat]
theorem langAlt_nil (w : List Int) : ¬ Rx.langAlt [] w := by rw [Rx.langAlt]; exact fun h => h
theorem langAlt_cons (a : Rx) (t : List Rx) (w : List Int) : Rx.langAlt (a :: t) w ↔ a.lang w ∨ Rx.langAlt t w := by rw [Rx.langAlt]
theorem langAlt_iff {l : List Rx} {w : List Int} : Rx.langAlt l w ↔ ∃ a ∈ l, a.lang w := by
 induction l with
 | nil => simp [langAlt_nil]
 | cons a t ih => rw [langAlt_cons, ih]; simp
theorem langOne_iff {l : List Rx} {w : List Int} : Rx.langOne l w ↔ ∃ a, l = [a] ∧ a.lang w := by
 match l with
 | [] => rw [Rx.langOne]; simp
 | a :: t =>
  rw [Rx.langOne]
  constructor
  ·rintro ⟨rfl, h⟩; exact ⟨a, rfl, h⟩
  ·rintro ⟨b, h, h2⟩
   simp only [List.cons.injEq] at h
   obtain ⟨rfl, rfl⟩ := h
   exact ⟨rfl, h2⟩
theorem langCat_app {l m : List Rx} {w : List Int} : Rx.langCat (l ++ m) w ↔ ∃ u v, w = u ++ v ∧ Rx.langCat l u ∧ Rx.langCat m v := by
 induction l generalizing w with
 | nil =>
  constructor
  ·intro h; exact ⟨[], w, rfl, (langCat_nil _).2 rfl, h⟩
  ·rintro ⟨u, v, rfl, h, h2⟩
   rw [langCat_nil] at h
   subst h
   exact h2
 | cons a t ih =>
  rw [List.cons_append, langCat_cons]
  constructor
  ·rintro ⟨u, v, rfl, h1, h2⟩
   obtain ⟨x, y, rfl, h3, h4⟩ := ih.1 h2
   exact ⟨u ++ x, y, by rw [List.append_assoc], (langCat_cons _ _ _).2 ⟨u, x, rfl, h1, h3⟩, h4⟩
  ·rintro ⟨u, v, rfl, h1, h2⟩
   obtain ⟨x, y, rfl, h3, h4⟩ := (langCat_cons _ _ _).1 h1
   exact ⟨x, y ++ v, by rw [List.append_assoc], h3, ih.2 ⟨y, v, rfl, h4, h2⟩⟩
theorem langCat_one {a : Rx} {w : List Int} : Rx.langCat [a] w ↔ a.lang w := by
 rw [langCat_cons]
 constructor
 ·rintro ⟨u, v, rfl, h1, h2⟩
  rw [langCat_nil] at h2
  subst h2
  simpa using h1
 ·intro h; exact ⟨w, [], by simp, h, (langCat_nil _).2 rfl⟩
theorem kind_2 {r : Rx} (h : r.kind = 2) : ∀ x, r.lang x ↔ x = [] := fun x => by rw [lang_eq, h]; simp
theorem kind_3 {r : Rx} (h : r.kind = 3) : ∀ x, r.lang x ↔ ∃ c, x = [c] ∧ r.set.hasI c = true := fun x => by rw [lang_eq, h]; simp
theorem kind_4 {r : Rx} (h : r.kind = 4) : ∀ x, r.lang x ↔ Rx.langCat r.args x := fun x => by rw [lang_eq, h]; simp
theorem kind_5 {r : Rx} (h : r.kind = 5) : ∀ x, Rx.langAlt r.args x ↔ r.lang x := fun x => by rw [lang_eq, h]; simp
theorem kind_6 {r : Rx} (h : r.kind = 6) : ∀ x, r.lang x ↔ Star (Rx.langOne r.args) x := fun x => by rw [lang_eq, h]; simp
theorem kind_0 {r : Rx} (h : ¬ r.kind = 2 ∧ ¬ r.kind = 3 ∧ ¬ r.kind = 4 ∧ ¬ r.kind = 5 ∧ ¬ r.kind = 6) : ∀ x, ¬ r.lang x := fun x => by rw [lang_eq]; simp [h]
/-! ### parts of a word -/
/-- From place i on to place j. -/
def sl (w : List Int) (i j : Nat) : List Int := (w.take j).drop i
theorem sl_self (w : List Int) (i : Nat) : sl w i i = [] := by
 unfold sl
 rw [List.drop_eq_nil_of_le (by rw [List.length_take]; omega)]
theorem sl_len {w : List Int} {i j : Nat} (hj : j ≤ w.length) : (sl w i j).length = j - i := by
 unfold sl
 rw [List.length_drop, List.length_take]
 omega
theorem sl_app {w : List Int} {i j k : Nat} (h1 : i ≤ j) (h2 : j ≤ k) (h3 : k ≤ w.length) : sl w i k = sl w i j ++ sl w j k := by
 refine List.ext_getElem? fun n => ?_
 unfold sl
 by_cases h : n < j - i
 ·rw [List.getElem?_append_left (by rw [List.length_drop, List.length_take]; omega), List.getElem?_drop, List.getElem?_drop, List.getElem?_take, List.getElem?_take, if_pos (by omega), if_pos (by omega)]
 ·rw [List.getElem?_append_right (by rw [List.length_drop, List.length_take]; omega), List.getElem?_drop, List.getElem?_drop, List.getElem?_take, List.getElem?_take, List.length_drop, List.length_take]
  rw [show j + (n - (min j w.length - i)) = i + n by omega]
/-- Where a part is two, one behind the other. -/
theorem sl_cut {w : List Int} {i k : Nat} {u v : List Int} (h1 : i ≤ k) (h2 : k ≤ w.length) (h : sl w i k = u ++ v) : i + u.length ≤ k ∧ u = sl w i (i + u.length) ∧ v = sl w (i + u.length) k := by
 have hl : (sl w i k).length = u.length + v.length := by rw [h, List.length_append]
 rw [sl_len h2] at hl
 have h3 := sl_app (w := w) (i := i) (j := i + u.length) (k := k) (by omega) (by omega) h2
 rw [h] at h3
 have hl2 : u.length = (sl w i (i + u.length)).length := by rw [sl_len (by omega)]; omega
 obtain ⟨h4, h5⟩ := List.append_inj h3 hl2
 exact ⟨by omega, h4, h5⟩
theorem sl_one {w : List Int} {i : Nat} (h : i < w.length) : sl w i (i + 1) = [w[i]] := by
 unfold sl
 rw [List.take_add_one, List.getElem?_eq_getElem h, List.drop_append]
 have : (w.take i).length = i := by rw [List.length_take]; omega
 rw [this, Nat.sub_self, List.drop_eq_nil_of_le (by omega)]
 rfl
theorem sl_all (w : List Int) : sl w 0 w.length = w := by unfold sl; rw [List.take_length]; rfl
/-! ### any number of words, place by place -/
inductive SR (P : List Int → Prop) (w : List Int) (i : Nat) : Nat → Prop
 | base : SR P w i i
 | step {j k : Nat} : SR P w i j → j < k → k ≤ w.length → P (sl w j k) → SR P w i k
theorem SR.le {P : List Int → Prop} {w : List Int} {i k : Nat} (h : SR P w i k) : i ≤ k := by
 induction h with
 | base => exact Nat.le_refl _
 | step _ h _ _ ih => omega
theorem sr_iff {P : List Int → Prop} {w : List Int} {i k : Nat} (hk : k ≤ w.length) : SR P w i k ↔ k = i ∨ ∃ m, i ≤ m ∧ m < k ∧ SR P w i m ∧ P (sl w m k) := by
 constructor
 ·intro h
  cases h with
  | base => exact .inl rfl
  | step h1 h2 h3 h4 => exact .inr ⟨_, h1.le, h2, h1, h4⟩
 ·rintro (rfl | ⟨m, h1, h2, h3, h4⟩)
  ·exact .base
  ·exact .step h3 h2 hk h4
theorem star_app {P : List Int → Prop} {u v : List Int} (h : Star P u) (k : Star P v) : Star P (u ++ v) := by
 induction h with
 | nil => exact k
 | cons h1 _ ih => rw [List.append_assoc]; exact .cons h1 ih
theorem star_one {P : List Int → Prop} {u : List Int} (h : P u) : Star P u := by
 have := Star.cons h (Star.nil (P := P))
 rwa [List.append_nil] at this
theorem sr_star {P : List Int → Prop} {w : List Int} {i k : Nat} (h : SR P w i k) (hi : i ≤ w.length) : k ≤ w.length ∧ Star P (sl w i k) := by
 induction h with
 | base => exact ⟨hi, by rw [sl_self]; exact .nil⟩
 | step h1 h2 h3 h4 ih => exact ⟨h3, by rw [sl_app h1.le (by omega) h3]; exact star_app ih.2 (star_one h4)⟩
theorem sr_left {P : List Int → Prop} {w : List Int} {i j k : Nat} (h0 : i < j) (hj : j ≤ w.length) (hp : P (sl w i j)) (h : SR P w j k) : SR P w i k := by
 induction h with
 | base => exact .step .base h0 hj hp
 | step _ h2 h3 h4 ih => exact .step ih h2 h3 h4
theorem star_sr {P : List Int → Prop} {x : List Int} (h : Star P x) : ∀ {w : List Int} {i k : Nat}, i ≤ k → k ≤ w.length → x = sl w i k → SR P w i k := by
 induction h with
 | nil =>
  intro w i k h1 h2 h3
  have := congrArg List.length h3
  rw [sl_len h2] at this
  simp only [List.length_nil] at this
  have : k = i := by omega
  subst this
  exact .base
 | @cons u v hu hv ih =>
  intro w i k h1 h2 h3
  obtain ⟨h4, h5, h6⟩ := sl_cut h1 h2 h3.symm
  by_cases h0 : u.length = 0
  ·have : u = [] := List.eq_nil_of_length_eq_zero h0
   subst this
   exact ih h1 h2 (by simpa using h3)
  ·exact sr_left (by omega) (by omega) (by rw [← h5]; exact hu) (ih h4 h2 h6)
theorem star_iff {P : List Int → Prop} {w : List Int} {i k : Nat} (h1 : i ≤ k) (h2 : k ≤ w.length) : Star P (sl w i k) ↔ SR P w i k :=
 ⟨fun h => star_sr h h1 h2 rfl, fun h => (sr_star h (by omega)).2⟩
/-! ### tables -/
def tabOf (n : Nat) (p : Nat → Nat → Bool) : List (List Bool) := (List.range n).map fun i => (List.range n).map fun j => p i j
open Classical in
noncomputable def langP (L : List Int → Prop) (w : List Int) (i j : Nat) : Bool := decide (i ≤ j ∧ L (sl w i j))
/-- Where words of an expression lie in w. -/
noncomputable def spansT (r : Rx) (w : List Int) : List (List Bool) := tabOf (w.length + 1) (langP r.lang w)
theorem langP_iff {L : List Int → Prop} {w : List Int} {i j : Nat} : langP L w i j = true ↔ i ≤ j ∧ L (sl w i j) := by
 unfold langP
 simp only [decide_eq_true_eq]
theorem tabOf_congr {n : Nat} {p q : Nat → Nat → Bool} (h : ∀ i j, i < n → j < n → p i j = q i j) : tabOf n p = tabOf n q := by
 unfold tabOf
 refine List.map_congr_left fun i hi => List.map_congr_left fun j hj => h i j (List.mem_range.1 hi) (List.mem_range.1 hj)
/-- One behind the other. -/
def behindP (p q : Nat → Nat → Bool) (i k : Nat) : Bool := (List.range (k + 1)).any fun j => decide (i ≤ j) && p i j && q j k
theorem behindP_iff {p q : Nat → Nat → Bool} {i k : Nat} : behindP p q i k = true ↔ ∃ j, i ≤ j ∧ j ≤ k ∧ p i j = true ∧ q j k = true := by
 unfold behindP
 rw [List.any_eq_true]
 constructor
 ·rintro ⟨j, h1, h2⟩
  simp only [Bool.and_eq_true, decide_eq_true_eq] at h2
  have := List.mem_range.1 h1
  exact ⟨j, h2.1.1, by omega, h2.1.2, h2.2⟩
 ·rintro ⟨j, h1, h2, h3, h4⟩
  exact ⟨j, List.mem_range.2 (by omega), by simp [h1, h3, h4]⟩
theorem behind_lang {L M : List Int → Prop} {w : List Int} {i k : Nat} (hk : k ≤ w.length) : behindP (langP L w) (langP M w) i k = langP (fun x => ∃ u v, x = u ++ v ∧ L u ∧ M v) w i k := by
 rw [Bool.eq_iff_iff, behindP_iff, langP_iff]
 constructor
 ·rintro ⟨j, h1, h2, h3, h4⟩
  rw [langP_iff] at h3 h4
  exact ⟨by omega, sl w i j, sl w j k, sl_app h1 h2 hk, h3.2, h4.2⟩
 ·rintro ⟨h1, u, v, h2, h3, h4⟩
  obtain ⟨h5, h6, h7⟩ := sl_cut h1 hk h2
  exact ⟨i + u.length, by omega, h5, langP_iff.2 ⟨by omega, h6 ▸ h3⟩, langP_iff.2 ⟨h5, h7 ▸ h4⟩⟩
theorem langP_congr {L M : List Int → Prop} (h : ∀ x, L x ↔ M x) (w : List Int) (i j : Nat) : langP L w i j = langP M w i j := by
 rw [Bool.eq_iff_iff, langP_iff, langP_iff, h]
end
section
open Go.RowKit
/-! ### tables that are being written -/
def bools (l : List Bool) : List (List AV) := l.map fun b => [.bool b]
def boolRow (n : Nat) (q : Nat → Bool) : List (List AV) := bools ((List.range n).map q)
def tabAV (T : List (List Bool)) : AV := .list 1 (T.map fun r => [.list 1 (bools r)])
def tRows (ms : List (Nat × Nat)) (n : Nat) : List (List AV) := ms.map (fun m => [AV.own m.1 m.2]) ++ List.replicate (n - ms.length) [AV.nil]
structure TP (es : List Ent) (lo it st : Nat) (ms : List (Nat × Nat)) (n : Nat) (p : Nat → Nat → Bool) : Prop where
 t : at_ es it = some (.row st 60 1 (tRows ms n))
 r : ∀ i (h : i < ms.length), at_ es ms[i].1 = some (.row ms[i].2 4 1 (boolRow n (p i)))
 lt : ms.length ≤ n
 nd : (it :: ms.map Prod.fst).Nodup
 lo : ∀ id ∈ it :: ms.map Prod.fst, lo ≤ id
/-- What lies below is al' it was. -/
def KB (base es : List Ent) : Prop := (∀ id, id < base.length → at_ es id = at_ base id) ∧ base.length ≤ es.length
theorem KB.refl (es : List Ent) : KB es es := ⟨fun _ _ => rfl, Nat.le_refl _⟩
theorem KB.trans {a b c : List Ent} (h : KB a b) (k : KB b c) : KB a c := ⟨fun id hi => (k.1 id (Nat.lt_of_lt_of_le hi h.2)).trans (h.1 id hi), Nat.le_trans h.2 k.2⟩
theorem KB.push {base es : List Ent} (x : Ent) (h : KB base es) : KB base (x :: es) := ⟨fun id hi => (at_push x (Nat.lt_of_lt_of_le hi h.2)).trans (h.1 id hi), by have := h.2; simp only [List.length_cons]; omega⟩
theorem KB.put {base es : List Ent} (h : KB base es) {id : Nat} (hid : base.length ≤ id) (y : Ent) : KB base (setAt es id y) := ⟨fun i hi => (at_setAt_ne y (by omega)).trans (h.1 i hi), by rw [setAt_len]; exact h.2⟩
theorem KB.pop {x : Ent} {es es2 : List Ent} (h : KB (x :: es) es2) : KB es es2 :=
 ⟨fun i hi => (h.1 i (by simp only [List.length_cons]; omega)).trans (at_push _ hi), by have := h.2; simp only [List.length_cons] at this; omega⟩
theorem KB.sub {base es : List Ent} (h : KB base es) : Sub base es := sub_of h.1
theorem boolRow_len (n : Nat) (q : Nat → Bool) : (boolRow n q).length = n := by simp [boolRow, bools]
theorem boolRow_at {n j : Nat} (q : Nat → Bool) (h : j < n) : (boolRow n q)[j]? = some [.bool (q j)] := by simp [boolRow, bools, h]
theorem boolRow_set {n j : Nat} (q : Nat → Bool) (v : Bool) (h : j < n) : (boolRow n q).set j [.bool v] = boolRow n (fun x => if x = j then v else q x) := by
 refine List.ext_getElem (by simp [boolRow, bools]) fun i h1 h2 => ?_
 simp only [boolRow, bools, List.getElem_set, List.getElem_map, List.getElem_range]
 by_cases hi : j = i
 ·subst hi; simp
 ·rw [if_neg hi, if_neg (Ne.symm hi)]
theorem boolRow_congr {n : Nat} {p q : Nat → Bool} (h : ∀ i, i < n → p i = q i) : boolRow n p = boolRow n q := by
 unfold boolRow
 congr 1
 exact List.map_congr_left fun i hi => h i (List.mem_range.1 hi)
theorem boolRow_none (n : Nat) : List.replicate n [AV.bool false] = boolRow n (fun _ => false) := by
 refine List.ext_getElem (by simp [boolRow, bools]) fun i h1 h2 => ?_
 simp [boolRow, bools]
theorem tRows_len {ms : List (Nat × Nat)} {n : Nat} (h : ms.length ≤ n) : (tRows ms n).length = n := by simp [tRows]; omega
theorem tRows_at {ms : List (Nat × Nat)} {n i : Nat} (h : i < ms.length) : (tRows ms n)[i]? = some [.own ms[i].1 ms[i].2] := by
 unfold tRows
 rw [List.getElem?_append_left (by simpa using h)]
 simp [h]
theorem tRows_new {ms : List (Nat × Nat)} {n : Nat} (h : ms.length < n) (m : Nat × Nat) : (tRows ms n).set ms.length [.own m.1 m.2] = tRows (ms ++ [m]) n := by
 unfold tRows
 rw [List.set_append_right _ _ (by simp)]
 simp only [List.length_map, Nat.sub_self, List.map_append, List.map_cons, List.map_nil, List.length_append, List.length_cons, List.length_nil]
 obtain ⟨k, hk⟩ : ∃ k, n - ms.length = k + 1 := ⟨n - ms.length - 1, by omega⟩
 rw [hk, List.replicate_succ, List.set_cons_zero, show n - (ms.length + (0 + 1)) = k by omega]
 simp
theorem TP.push {es : List Ent} {lo it st n : Nat} {ms : List (Nat × Nat)} {p : Nat → Nat → Bool} (x : Ent) (h : TP es lo it st ms n p) : TP (x :: es) lo it st ms n p :=
 ⟨at_miss _ h.t, fun i hi => at_miss _ (h.r i hi), h.lt, h.nd, h.lo⟩
theorem tp_ne {it : Nat} {ms : List (Nat × Nat)} (h : (it :: ms.map Prod.fst).Nodup) : (∀ k (hk : k < ms.length), ms[k].1 ≠ it) ∧ ∀ k j (hk : k < ms.length) (hj : j < ms.length), ms[k].1 = ms[j].1 → k = j := by
 simp only [List.nodup_cons] at h
 refine ⟨fun k hk e => h.1 (e ▸ List.mem_map.2 ⟨ms[k], List.getElem_mem hk, rfl⟩), fun k j hk hj e => ?_⟩
 have := (List.nodup_iff_pairwise_ne.1 h.2)
 rw [List.pairwise_iff_getElem] at this
 rcases Nat.lt_trichotomy k j with hlt | heq | hgt
 ·exact absurd (by rw [List.getElem_map, List.getElem_map]; exact e) (this k j (by simpa using hk) (by simpa using hj) hlt)
 ·exact heq
 ·exact absurd (by rw [List.getElem_map, List.getElem_map]; exact e.symm) (this j k (by simpa using hj) (by simpa using hk) hgt)
/-- A cell is written. -/
theorem tp_set {es : List Ent} {lo it st n : Nat} {ms : List (Nat × Nat)} {p : Nat → Nat → Bool} (h : TP es lo it st ms n p) {i j : Nat} (hi : i < ms.length) (hj : j < n) (v : Bool) :
  TP (setAt es ms[i].1 (.row ms[i].2 4 1 ((boolRow n (p i)).set j [.bool v]))) lo it st ms n (fun a b => if a = i ∧ b = j then v else p a b) := by
 obtain ⟨h1, h2⟩ := tp_ne h.nd
 refine ⟨by rw [at_setAt_ne _ (Ne.symm (h1 i hi))]; exact h.t, fun k hk => ?_, h.lt, h.nd, h.lo⟩
 by_cases hk2 : k = i
 ·subst hk2
  rw [at_setAt_same _ (h.r k hk), boolRow_set _ _ hj]
  simp
 ·rw [at_setAt_ne _ (fun e => hk2 (h2 k i hk hi e)), h.r k hk]
  simp [hk2]
theorem tp_congr {es : List Ent} {lo it st n : Nat} {ms : List (Nat × Nat)} {p q : Nat → Nat → Bool} (h : TP es lo it st ms n p) (e : ∀ i j, i < ms.length → j < n → p i j = q i j) : TP es lo it st ms n q :=
 ⟨h.t, fun i hi => by rw [h.r i hi, boolRow_congr fun j hj => e i j hi hj], h.lt, h.nd, h.lo⟩
/-- A row more: it lies on top. -/
theorem tp_new {es : List Ent} {lo it st n s : Nat} {ms : List (Nat × Nat)} {p : Nat → Nat → Bool} (h : TP es lo it st ms n p) (hl : ms.length < n) (hlo : lo ≤ es.length) (q : Nat → Bool) :
  TP (.row s 4 1 (boolRow n q) :: setAt es it (.row st 60 1 (tRows (ms ++ [(es.length, s)]) n))) lo it st (ms ++ [(es.length, s)]) n (fun i j => if i = ms.length then q j else p i j) := by
 obtain ⟨h1, h2⟩ := tp_ne h.nd
 have hit := at_lt h.t
 refine ⟨by rw [at_push _ (by rw [setAt_len]; exact hit), at_setAt_same _ h.t], fun i hi => ?_, by simp; omega, ?_, fun id hid => ?_⟩
 ·by_cases hi2 : i < ms.length
  ·have e1 : (ms ++ [(es.length, s)])[i] = ms[i] := List.getElem_append_left hi2
   have hr := h.r i hi2
   rw [e1, at_push _ (by rw [setAt_len]; exact at_lt hr), at_setAt_ne _ (h1 i hi2), hr]
   simp [show ¬ i = ms.length by omega]
  ·have hi3 : i = ms.length := by simp at hi; omega
   subst hi3
   have e1 : (ms ++ [(es.length, s)])[ms.length] = (es.length, s) := by simp
   rw [e1]
   have := at_hit (.row s 4 1 (boolRow n q)) (setAt es it (.row st 60 1 (tRows (ms ++ [(es.length, s)]) n)))
   rw [setAt_len] at this
   simpa using this
 ·have hnew : es.length ∉ it :: ms.map Prod.fst := by
   intro hm
   rcases List.mem_cons.1 hm with e | hm
   ·omega
   ·obtain ⟨m, hm2, e⟩ := List.mem_map.1 hm
    obtain ⟨k, hk, rfl⟩ := List.mem_iff_getElem.1 hm2
    have := at_lt (h.r k hk)
    omega
  have : it :: (ms ++ [(es.length, s)]).map Prod.fst = (it :: ms.map Prod.fst) ++ [es.length] := by simp
  rw [this, List.nodup_append]
  exact ⟨h.nd, by simp, fun a ha b hb e => by simp at hb; subst hb; subst e; exact hnew ha⟩
 ·have : it :: (ms ++ [(es.length, s)]).map Prod.fst = (it :: ms.map Prod.fst) ++ [es.length] := by simp
  rw [this, List.mem_append] at hid
  rcases hid with hid | hid
  ·exact h.lo id hid
  ·simp at hid; omega
theorem tp_start {es : List Ent} {lo st n : Nat} (hlo : lo ≤ es.length) (p : Nat → Nat → Bool) : TP (.row st 60 1 (List.replicate n [AV.nil]) :: es) lo es.length st [] n p :=
 ⟨by simp [tRows]; exact at_hit _ _, fun i hi => by simp at hi, Nat.zero_le _, by simp, fun id hid => by simp at hid; omega⟩
theorem bools_clean (l : List Bool) : (bools l).all cleans = true := by
 rw [List.all_eq_true]
 intro x hx
 obtain ⟨n, _, rfl⟩ := List.mem_map.1 hx
 rfl
theorem rep_table {w0 : World} {c c' : Core} {es : List Ent} (k : Ok w0 c es) (hw : c'.w = c.w) (hn : c.now ≤ c'.now) (hf0 : ∀ b, c.fro b → c'.fro b) : ∀ {T : List (List Bool)} {ms : List (Nat × Nat)}, ms.length = T.length → (∀ k (h1 : k < T.length) (h2 : k < ms.length), at_ es ms[k].1 = some (.row ms[k].2 4 1 (bools T[k])) ∧ ∀ b cap, c.phi ms[k].1 = some (b, cap) → c'.fro b) →
  ∀ xs, RepRows c (some es) 1 (ms.map fun m => [AV.own m.1 m.2]) xs → RepRows c' none 1 (T.map fun r => [AV.list 1 (bools r)]) xs
 | [], [], _, _, xs, h => by simpa [RepRows] using h
 | [], m :: ms, hl, _, _, _ => by simp at hl
 | s :: ns, [], hl, _, _, _ => by simp at hl
 | s :: ns, m :: ms, hl, hf, xs, h => by
  simp only [RepRows, List.map_cons] at h ⊢
  obtain ⟨v1, v2, rfl, h1, h2, h3, h4⟩ := h
  refine ⟨v1, v2, rfl, rfl, ?_, h3, rep_table k hw hn hf0 (T := ns) (ms := ms) (by simpa using hl) (fun k h1 h2 => hf (k + 1) (Nat.succ_lt_succ h1) (Nat.succ_lt_succ h2)) v2 h4⟩
  obtain ⟨g1, g2⟩ := hf 0 (by simp) (by simp)
  simp only [List.getElem_cons_zero] at g1 g2
  simp only [Reps] at h2
  obtain ⟨u5, _, rfl, r5, rfl⟩ := h2
  simp only [Reps]
  refine ⟨u5, _, rfl, ?_, rfl⟩
  rw [rep_own r5 g1]
  exact rep_listOf k g1 rfl hw g2 (fun xs hx => RepRows.ext (es := none) (es' := none) _ (show ExtM c none c' none from ⟨hn, fun b hb => ⟨hf0 b hb, by rw [hw]⟩⟩) (hx.down _ (bools_clean _))) none
section
variable {P : Program} {w0 : World} {N : Nat} {f : Frame} {base es : List Ent} {K : Exit → Frame → List Ent → Prop}
/-- The table is done: a list from here on. -/
theorem w_freezeT {code : Code} (t : Nat) {it st n : Nat} {ms : List (Nat × Nat)} {p : Nat → Nat → Bool} (h : TP es base.length it st ms n p) (hn : ms.length = n) (kb : KB base es) (k : AWp P w0 N code (upd f t (tabAV (tabOf n p))) base K) (ht : f t = .own it st := by simp only [upd_apply, Nat.reduceEqDiff, ↓reduceIte] <;> exact rfl) : AWp P w0 N code f es K := by
 have hrows : ∀ id ∈ it :: ms.map Prod.fst, ∃ s e sz rows, at_ es id = some (.row s e sz rows) := by
  intro id hid
  rcases List.mem_cons.1 hid with rfl | hid
  ·exact ⟨_, _, _, _, h.t⟩
  ·obtain ⟨m, hm, rfl⟩ := List.mem_map.1 hid
   obtain ⟨k, hk, rfl⟩ := List.mem_iff_getElem.1 hm
   exact ⟨_, _, _, _, h.r k hk⟩
 have hsub : Sub base (killAll (it :: ms.map Prod.fst) es) := sub_of fun id hid => by
  rw [killAll_at (fun hm => by have := h.lo id hm; omega)]
  exact kb.1 id hid
 have k2 : AWp P w0 N code (upd f t (tabAV (tabOf n p))) (killAll (it :: ms.map Prod.fst) es) K := w_less (fun _ => .inl rfl) hsub k
 intro c A Q ok rf hk
 obtain ⟨ok2, x⟩ := ok_freezeAll ok h.nd hrows
 obtain ⟨e1, e2, e3, e4, e5⟩ := freezeAll_same (it :: ms.map Prod.fst) c
 rw [← e1]
 refine k2 (freezeAll (it :: ms.map Prod.fst) c) A Q ok2 ⟨rf.size, fun u => ?_, rf.defers⟩ fun e c' es2 f2 A2 x2 ok2 rf2 k3 => hk e c' es2 f2 A2 (x.trans x2) ok2 rf2 k3
 by_cases hu : u = t
 ·subst hu
  rw [upd_same]
  have hr := rf.rep u
  rw [ht] at hr
  rw [rep_own hr h.t]
  have hT : tRows ms n = ms.map fun m => [AV.own m.1 m.2] := by
   unfold tRows
   rw [hn, Nat.sub_self]
   simp
  refine rep_listOf ok h.t (by rw [tRows_len h.lt]; simp [tabOf]) e1 (fun b cap hp => e5 it (by simp) b cap hp) ?_ _
  rw [hT]
  refine rep_table ok e1 (by rw [e3]; exact Nat.le_refl _) e4 (by simp [tabOf, hn]) fun k h1 h2 => ⟨?_, fun b cap hp => e5 _ (by simp only [List.mem_cons, List.mem_map]; exact .inr ⟨ms[k], List.getElem_mem h2, rfl⟩) b cap hp⟩
  rw [h.r k h2]
  simp [boolRow, tabOf]
 ·rw [upd_ne _ _ hu]
  exact Rep.ext (es := some es) (es' := some _) _ x (rf.rep u)
end
theorem tabAV_row {n : Nat} {p : Nat → Nat → Bool} {i : Nat} (h : i < n) : ((tabOf n p).map fun r => [AV.list 1 (bools r)])[i]? = some [.list 1 (boolRow n (p i))] := by simp [tabOf, boolRow, h]
theorem tab_len (n : Nat) (p : Nat → Nat → Bool) : ((tabOf n p).map fun r => [AV.list 1 (bools r)]).length = n := by simp [tabOf]
end
set_option maxRecDepth 8000
section
open Go.RowKit Go.Proofs
def jp (p q : Nat → Nat → Bool) (i j a b : Nat) : Bool := if a < i ∨ (a = i ∧ b < j) then p a b || q a b else p a b
theorem jp_here {p q : Nat → Nat → Bool} {i j : Nat} : jp p q i j i j = p i j := by unfold jp; rw [if_neg (by omega)]
theorem jp_start {p q : Nat → Nat → Bool} {a b : Nat} : p a b = jp p q 0 0 a b := by unfold jp; rw [if_neg (by omega)]
theorem jp_next {p q : Nat → Nat → Bool} {i j n a b : Nat} (hj : j = n) (hb : b < n) : jp p q i j a b = jp p q (i + 1) 0 a b := by
 unfold jp
 by_cases h : a < i ∨ (a = i ∧ b < j)
 ·rw [if_pos h, if_pos (by omega)]
 ·rw [if_neg h, if_neg (by omega)]
theorem jp_step {p q : Nat → Nat → Bool} {i j a b : Nat} : (if a = i ∧ b = j then (p i j || q i j) else jp p q i j a b) = jp p q i (j + 1) a b := by
 unfold jp
 by_cases h : a = i ∧ b = j
 ·obtain ⟨rfl, rfl⟩ := h
  rw [if_pos ⟨rfl, rfl⟩, if_pos (by omega)]
 ·rw [if_neg h]
  by_cases h2 : a < i ∨ (a = i ∧ b < j)
  ·rw [if_pos h2, if_pos (by omega)]
  ·rw [if_neg h2, if_neg (by omega)]
theorem jp_done {p q : Nat → Nat → Bool} {i a b : Nat} (h : a < i) : jp p q i 0 a b = (p a b || q a b) := by unfold jp; rw [if_pos (.inl h)]
theorem tp_mem {it : Nat} {ms : List (Nat × Nat)} {i : Nat} (h : i < ms.length) : (ms[i]).1 ∈ it :: ms.map Prod.fst := List.mem_cons.2 (.inr (List.mem_map.2 ⟨ms[i], List.getElem_mem h, rfl⟩))
theorem tRows_nil {ms : List (Nat × Nat)} {n i : Nat} (hi : ms.length = i) (h : i < n) : (tRows ms n)[i]? = some [.nil] := by
 obtain ⟨k, hk⟩ : ∃ k, n - ms.length = k + 1 := ⟨n - ms.length - 1, by omega⟩
 unfold tRows
 rw [List.getElem?_append_right (by rw [List.length_map]; omega), List.length_map, hi, Nat.sub_self, ← hi, hk, List.replicate_succ]
 rfl
/-- What row i has when the ways through places ahead of j are laid, and those through j up to k. -/
def bq (p q : Nat → Nat → Bool) (i j k x : Nat) : Bool := ((List.range j).any fun m => decide (i ≤ m) && decide (m ≤ x) && p i m && q m x) || (p i j && decide (j ≤ x) && decide (x < k) && q j x)
theorem bq_start {p q : Nat → Nat → Bool} {i a b : Nat} : (if a = i then false else behindP p q a b) = (if a = i then bq p q i i i b else behindP p q a b) := by
 by_cases h : a = i
 ·rw [if_pos h, if_pos h]
  unfold bq
  have h1 : ((List.range i).any fun m => decide (i ≤ m) && decide (m ≤ b) && p i m && q m b) = false := by
   rw [List.any_eq_false]
   intro m hm
   have := List.mem_range.1 hm
   first | (simp; done) | (simp; omega)
  have h2 : (decide (i ≤ b) && decide (b < i)) = false := by first | (simp; done) | (simp; omega)
  rw [h1, Bool.and_assoc (p i i), h2]
  simp
 ·rw [if_neg h, if_neg h]
theorem bq_step {p q : Nat → Nat → Bool} {i j k a b : Nat} (hp : p i j = true) (hjk : j ≤ k) : (if a = i ∧ b = k then (bq p q i j k k || q j k) else (if a = i then bq p q i j k b else behindP p q a b)) = (if a = i then bq p q i j (k + 1) b else behindP p q a b) := by
 by_cases h : a = i
 ·by_cases h2 : b = k
  ·subst h2
   rw [if_pos ⟨h, rfl⟩, if_pos h]
   unfold bq
   rw [hp]
   have e1 : decide (b < b) = false := by simp
   have e2 : decide (b < b + 1) = true := by simp
   have e3 : decide (j ≤ b) = true := by simpa using hjk
   rw [e1, e2, e3]
   simp
  ·rw [if_neg (by omega), if_pos h, if_pos h]
   unfold bq
   have : decide (b < k) = decide (b < k + 1) := by rw [decide_eq_decide]; omega
   rw [this]
 ·rw [if_neg (by omega), if_neg h, if_neg h]
theorem bq_succ {p q : Nat → Nat → Bool} {i j x : Nat} : bq p q i (j + 1) (j + 1) x = (((List.range j).any fun m => decide (i ≤ m) && decide (m ≤ x) && p i m && q m x) || (decide (i ≤ j) && decide (j ≤ x) && p i j && q j x)) := by
 unfold bq
 rw [List.range_succ, List.any_append]
 have : (decide (j + 1 ≤ x) && decide (x < j + 1)) = false := by first | (simp; done) | (simp; omega)
 rw [Bool.and_assoc (p i (j + 1)), this]
 simp
theorem bq_skip {p q : Nat → Nat → Bool} {i j k a b : Nat} (hp : p i j = false) : (if a = i then bq p q i j k b else behindP p q a b) = (if a = i then bq p q i (j + 1) (j + 1) b else behindP p q a b) := by
 by_cases h : a = i
 ·rw [if_pos h, if_pos h, bq_succ]
  unfold bq
  rw [hp]
  simp
 ·rw [if_neg h, if_neg h]
theorem bq_next {p q : Nat → Nat → Bool} {i j k n a b : Nat} (hk : k = n) (hij : i ≤ j) (hb : b < n) : (if a = i then bq p q i j k b else behindP p q a b) = (if a = i then bq p q i (j + 1) (j + 1) b else behindP p q a b) := by
 by_cases h : a = i
 ·rw [if_pos h, if_pos h, bq_succ]
  unfold bq
  have e1 : decide (b < k) = true := by first | (simp; done) | (simp; omega)
  have e2 : decide (i ≤ j) = true := by simpa using hij
  rw [e1, e2]
  congr 1
  cases p i j <;> cases q j b <;> simp
 ·rw [if_neg h, if_neg h]
theorem bq_done {p q : Nat → Nat → Bool} {i j n a b : Nat} (hj : j = n) (hb : b < n) : (if a = i then bq p q i j j b else behindP p q a b) = behindP p q a b := by
 by_cases h : a = i
 ·subst h
  rw [if_pos rfl]
  unfold bq
  have : (decide (j ≤ b) && decide (b < j)) = false := by first | (simp; done) | (simp; omega)
  rw [Bool.and_assoc (p a j), this, Bool.eq_iff_iff, behindP_iff]
  simp only [Bool.and_false, Bool.false_and, Bool.or_false, List.any_eq_true, Bool.and_eq_true, decide_eq_true_eq, List.mem_range]
  constructor
  ·rintro ⟨m, h1, ⟨⟨h2, h3⟩, h4⟩, h5⟩; exact ⟨m, h2, h3, h4, h5⟩
  ·rintro ⟨m, h2, h3, h4, h5⟩; exact ⟨m, by omega, ⟨⟨h2, h3⟩, h4⟩, h5⟩
 ·rw [if_neg h]
theorem join_walk {w0 : World} {base es : List Ent} {it st n : Nat} {ms : List (Nat × Nat)} {p : Nat → Nat → Bool} (q : Nat → Nat → Bool) (h : TP es base.length it st ms n p) (hn : ms.length = n) (kb : KB base es) (hb : n ≤ 1000000) :
  ACalls Tryd.prog w0 118 [.own it st, tabAV (tabOf n q)] es fun v es' => v = .tup [] ∧ TP es' base.length it st ms n (fun i j => p i j || q i j) ∧ KB base es' := by
 unfold tabAV
 have hlo := h.lo
 refine calls2 (N := 40) Tryd.func118 rfl rfl (by decide) ?_
 refine w_seq ?_
 refine w_region ?_
 refine l_cons rfl (p_assign ?_)
 refine l_nil ?_
 refine k_seq_normal ?_
 refine w_block ?_
 refine w_loop (fun m f es2 => ∃ i, m = n - i ∧ i ≤ n ∧ TP es2 base.length it st ms n (jp p q i 0) ∧ KB base es2 ∧ Knows f [(0, .own it st), (1, .list 1 ((tabOf n q).map fun r => [AV.list 1 (bools r)])), (4, .int .i64 (i : Int))]) (n) (⟨0, rfl, Nat.zero_le _, tp_congr h (fun a b _ _ => jp_start), kb, kn⟩) ?_
 rintro m f es2 ⟨i, rfl, hi1, htp, kb, hk⟩
 have hT := htp.t
 refine w_pins _ (Sub.refl _) (hk) ?_
 simp only [pins]
 refine w_seq ?_
 refine w_seq ?_
 refine w_region ?_
 refine l_cons rfl (p_move ?_)
 refine l_cons rfl (p_move ?_)
 refine l_cons rfl (p_leno sl_100 (a := .int .i64 (n : Int)) ?_ (ha := by rw [tRows_len (by omega)]))
 refine l_cons rfl (p_cmp ?_)
 refine l_nil ?_
 refine k_seq_normal ?_
 refine w_b (fun h1 => ?_) (fun h1 => ?_)
 ·skip
  have h1' := h1; (try simp only [bb] at h1')
  refine w_skip ?_
  refine k_seq_normal ?_
  refine w_seq ?_
  refine w_block ?_
  refine w_seq ?_
  refine w_region ?_
  refine l_cons rfl (p_assign ?_)
  refine l_nil ?_
  refine k_seq_normal ?_
  refine w_block ?_
  refine w_loop (fun m f es3 => ∃ j, m = n - j ∧ j ≤ n ∧ TP es3 base.length it st ms n (jp p q i j) ∧ KB base es3 ∧ Knows f [(0, .own it st), (1, .list 1 ((tabOf n q).map fun r => [AV.list 1 (bools r)])), (4, .int .i64 (i : Int)), (5, .int .i64 (j : Int))]) (n) (⟨0, rfl, Nat.zero_le _, htp, kb, kn⟩) ?_
  rintro m f es3 ⟨j, rfl, hj1, htp, kb, hk⟩
  have hT := htp.t
  have hR := htp.r i (by omega)
  refine w_pins _ (Sub.refl _) (hk) ?_
  simp only [pins]
  refine w_seq ?_
  refine w_seq ?_
  refine w_region ?_
  refine l_cons rfl (p_move ?_)
  refine l_cons rfl (p_move ?_)
  refine l_cons rfl (p_leno sl_100 (a := .int .i64 (n : Int)) ?_ (ha := by rw [tRows_len (by omega)]))
  refine l_cons rfl (p_cmp ?_)
  refine l_nil ?_
  refine k_seq_normal ?_
  refine w_b (fun h2 => ?_) (fun h2 => ?_)
  ·skip
   have h2' := h2; (try simp only [bb] at h2')
   refine w_skip ?_
   refine k_seq_normal ?_
   refine w_seq ?_
   refine w_block ?_
   refine w_drawn 21 [] (fun e => at_ e it = some (.row st 60 1 (tRows ms n)) ∧ at_ e (ms[i]'(by omega)).1 = some (.row (ms[i]'(by omega)).2 4 1 (boolRow n (jp p q i j i)))) mixed (by kernel_rfl) ⟨hT, hR⟩ ?_
   refine q1 0 (hg := rfl) (hu := rfl) (h := by rintro f _ ⟨hG1, hG2⟩; exact p_move ⟨rfl, rfl⟩) (k := ?_)
   refine q1 4 (hg := rfl) (hu := rfl) (h := by rintro f _ ⟨hG1, hG2⟩; exact p_move ⟨rfl, rfl⟩) (k := ?_)
   refine q2 18 19 (hg := rfl) (hu := rfl) (h := by rintro f _ ⟨hG1, hG2⟩; exact p_ixo sl_100 (a := .ptr it st i 0) ⟨rfl, rfl⟩ (h0 := by omega) (h1 := by rw [tRows_len (by omega)]; omega)) (k := ?_)
   refine q1 20 (hg := rfl) (hu := rfl) (h := by rintro f _ ⟨hG1, hG2⟩; exact p_loadp ty_60 (a := .own (ms[i]'(by omega)).1 (ms[i]'(by omega)).2) ⟨rfl, rfl⟩ (hr := tRows_at (by omega)) (hl := Nat.le_refl 1) (ha := rfl)) (k := ?_)
   refine q1 5 (hg := rfl) (hu := rfl) (h := by rintro f _ ⟨hG1, hG2⟩; exact p_move ⟨rfl, rfl⟩) (k := ?_)
   refine q1 0 (hg := rfl) (hu := rfl) (h := by rintro f _ ⟨hG1, hG2⟩; exact p_move ⟨rfl, rfl⟩) (k := ?_)
   refine q1 4 (hg := rfl) (hu := rfl) (h := by rintro f _ ⟨hG1, hG2⟩; exact p_move ⟨rfl, rfl⟩) (k := ?_)
   refine q2 23 24 (hg := rfl) (hu := rfl) (h := by rintro f _ ⟨hG1, hG2⟩; exact p_ixo sl_100 (a := .ptr it st i 0) ⟨rfl, rfl⟩ (h0 := by omega) (h1 := by rw [tRows_len (by omega)]; omega)) (k := ?_)
   refine q1 25 (hg := rfl) (hu := rfl) (h := by rintro f _ ⟨hG1, hG2⟩; exact p_loadp ty_60 (a := .own (ms[i]'(by omega)).1 (ms[i]'(by omega)).2) ⟨rfl, rfl⟩ (hr := tRows_at (by omega)) (hl := Nat.le_refl 1) (ha := rfl)) (k := ?_)
   refine q1 5 (hg := rfl) (hu := rfl) (h := by rintro f _ ⟨hG1, hG2⟩; exact p_move ⟨rfl, rfl⟩) (k := ?_)
   refine q2 26 27 (hg := rfl) (hu := rfl) (h := by rintro f _ ⟨hG1, hG2⟩; exact p_ixo sl_60 (a := .ptr (ms[i]'(by omega)).1 (ms[i]'(by omega)).2 j 0) ⟨rfl, rfl⟩ (h0 := by omega) (h1 := by rw [boolRow_len]; omega)) (k := ?_)
   refine q1 28 (hg := rfl) (hu := rfl) (h := by rintro f _ ⟨hG1, hG2⟩; exact p_loadp ty_4 (a := .bool (p i j)) ⟨rfl, rfl⟩ (hr := boolRow_at _ (by omega)) (hl := Nat.le_refl 1) (ha := by rw [jp_here]; rfl)) (k := ?_)
   refine q1 29 (hg := rfl) (hu := rfl) (h := by rintro f _ ⟨hG1, hG2⟩; exact p_move ⟨rfl, rfl⟩) (k := ?_)
   refine qsplit 30 (fun h3 => ?_) (fun h3 => ?_)
   ·skip
    have h3' := h3; (try simp only [bb] at h3')
    refine qn rfl h3 ?_
    refine qn rfl h3 ?_
    refine qn rfl h3 ?_
    refine qn rfl h3 ?_
    refine qn rfl h3 ?_
    refine qn rfl h3 ?_
    refine qn rfl h3 ?_
    refine q2 30 37 (hg := rfl) (hu := rfl) (h := by rintro f _ ⟨hG1, hG2⟩; exact p_pickt h3 ⟨rfl, rfl⟩) (k := ?_)
    refine q_end ?_
    refine m_end ?_
    refine l_cons rfl (p_ixo sl_60 (a := .ptr (ms[i]'(by omega)).1 (ms[i]'(by omega)).2 j 0) ?_ (h0 := by omega) (h1 := by rw [boolRow_len]; omega))
    refine l_cons rfl (p_store ty_4 (rows' := (boolRow n (jp p q i j i)).set j [.bool (p i j || q i j)]) (r' := [.bool (p i j || q i j)]) ?_ (hr := boolRow_at _ (by omega)) (hl := Nat.le_refl 1) (hr' := by simp only [List.take_zero, List.nil_append, List.drop_succ_cons, List.drop_zero, List.append_nil, List.drop_nil]; simp [*]) (hrs := rfl))
    refine l_nil ?_
    refine k_blk_normal ?_
    refine k_seq_normal ?_
    refine w_region ?_
    refine l_cons rfl (p_move ?_)
    refine l_cons rfl (p_arith ?_)
    refine l_cons rfl (p_assign ?_)
    refine l_nil ?_
    refine k_seq_normal ?_
    exact ⟨n - (j + 1), by omega, j + 1, rfl, by omega, tp_congr (tp_set htp (i := i) (j := j) (by omega) (by omega) (p i j || q i j)) (fun a b _ _ => jp_step), kb.put (hlo _ (tp_mem (by omega))) _, kn⟩
   ·skip
    have h3' := h3; (try simp only [bb] at h3')
    refine qy1 1 (hg := rfl) (hw := h3) (hu := rfl) (h := by rintro f _ ⟨hG1, hG2⟩; exact p_move ⟨rfl, rfl⟩) (k := ?_)
    refine qy1 4 (hg := rfl) (hw := h3) (hu := rfl) (h := by rintro f _ ⟨hG1, hG2⟩; exact p_move ⟨rfl, rfl⟩) (k := ?_)
    refine qy2 31 32 (hg := rfl) (hw := h3) (hu := rfl) (h := by rintro f _ ⟨hG1, hG2⟩; exact p_ixl sl_100 (a := .fptr 1 ((tabOf n q).map fun r => [AV.list 1 (bools r)]) i 0) ⟨rfl, rfl⟩ (h0 := by omega) (h1 := by rw [tab_len]; omega)) (k := ?_)
    refine qy1 33 (hg := rfl) (hw := h3) (hu := rfl) (h := by rintro f _ ⟨hG1, hG2⟩; exact p_loadf ty_60 (a := .list 1 (boolRow n (q i))) ⟨rfl, rfl⟩ (hr := tabAV_row (by omega)) (hl := Nat.le_refl 1) (ha := rfl)) (k := ?_)
    refine qy1 5 (hg := rfl) (hw := h3) (hu := rfl) (h := by rintro f _ ⟨hG1, hG2⟩; exact p_move ⟨rfl, rfl⟩) (k := ?_)
    refine qy2 34 35 (hg := rfl) (hw := h3) (hu := rfl) (h := by rintro f _ ⟨hG1, hG2⟩; exact p_ixl sl_60 (a := .fptr 1 (boolRow n (q i)) j 0) ⟨rfl, rfl⟩ (h0 := by omega) (h1 := by rw [boolRow_len]; omega)) (k := ?_)
    refine qy1 36 (hg := rfl) (hw := h3) (hu := rfl) (h := by rintro f _ ⟨hG1, hG2⟩; exact p_loadf ty_4 (a := .bool (q i j)) ⟨rfl, rfl⟩ (hr := boolRow_at _ (by omega)) (hl := Nat.le_refl 1) (ha := rfl)) (k := ?_)
    refine q2 30 37 (hg := rfl) (hu := rfl) (h := by rintro f _ ⟨hG1, hG2⟩; exact p_pickf h3 ⟨rfl, rfl⟩) (k := ?_)
    refine q_end ?_
    refine m_end ?_
    refine l_cons rfl (p_ixo sl_60 (a := .ptr (ms[i]'(by omega)).1 (ms[i]'(by omega)).2 j 0) ?_ (h0 := by omega) (h1 := by rw [boolRow_len]; omega))
    refine l_cons rfl (p_store ty_4 (rows' := (boolRow n (jp p q i j i)).set j [.bool (p i j || q i j)]) (r' := [.bool (p i j || q i j)]) ?_ (hr := boolRow_at _ (by omega)) (hl := Nat.le_refl 1) (hr' := by simp only [List.take_zero, List.nil_append, List.drop_succ_cons, List.drop_zero, List.append_nil, List.drop_nil]; simp [*]) (hrs := rfl))
    refine l_nil ?_
    refine k_blk_normal ?_
    refine k_seq_normal ?_
    refine w_region ?_
    refine l_cons rfl (p_move ?_)
    refine l_cons rfl (p_arith ?_)
    refine l_cons rfl (p_assign ?_)
    refine l_nil ?_
    refine k_seq_normal ?_
    exact ⟨n - (j + 1), by omega, j + 1, rfl, by omega, tp_congr (tp_set htp (i := i) (j := j) (by omega) (by omega) (p i j || q i j)) (fun a b _ _ => jp_step), kb.put (hlo _ (tp_mem (by omega))) _, kn⟩
  ·skip
   have h2' := h2; (try simp only [bb] at h2')
   refine w_exit ?_
   refine k_seq_exit ?_
   refine k_seq_exit ?_
   refine k_blk_here ?_
   refine k_blk_normal ?_
   refine k_seq_normal ?_
   refine w_region ?_
   refine l_cons rfl (p_move ?_)
   refine l_cons rfl (p_arith ?_)
   refine l_cons rfl (p_assign ?_)
   refine l_nil ?_
   refine k_seq_normal ?_
   exact ⟨n - (i + 1), by omega, i + 1, rfl, by omega, tp_congr htp (fun a b _ hb => jp_next (by omega) hb), kb, kn⟩
 ·skip
  have h1' := h1; (try simp only [bb] at h1')
  refine w_exit ?_
  refine k_seq_exit ?_
  refine k_seq_exit ?_
  refine k_blk_here ?_
  obtain rfl : i = n := by omega
  exact retn0 rfl (Sub.refl _) ⟨rfl, tp_congr htp (fun a b ha _ => jp_done (by omega)), kb⟩
theorem behind_walk {w0 : World} {es : List Ent} {n : Nat} (p q : Nat → Nat → Bool) (hb : n ≤ 1000000) :
  ACalls Tryd.prog w0 119 [tabAV (tabOf n p), tabAV (tabOf n q)] es fun v es' => v = tabAV (tabOf n (behindP p q)) ∧ es' = es := by
 unfold tabAV
 refine calls2 (N := 70) Tryd.func119 rfl rfl (by decide) ?_
 refine w_seq ?_
 refine w_region ?_
 refine l_cons rfl (p_assign ?_)
 refine l_nil ?_
 refine k_seq_normal ?_
 refine w_seq ?_
 refine w_region ?_
 refine l_cons rfl (p_move ?_)
 refine l_cons rfl (p_lenl sl_100 (a := .int .i64 (n : Int)) ?_ (ha := by rw [tab_len]))
 refine l_cons rfl (p_makeSlice sl_100 by_60 ze_60  fun s11 => ?_)
 refine l_cons rfl (p_assign ?_)
 refine l_nil ?_
 refine k_seq_normal ?_
 refine w_seq ?_
 refine w_seq ?_
 refine w_region ?_
 refine l_cons rfl (p_assign ?_)
 refine l_nil ?_
 refine k_seq_normal ?_
 refine w_block ?_
 refine w_loop (fun m f es2 => ∃ i ms, m = n - i ∧ i ≤ n ∧ ms.length = i ∧ TP es2 es.length es.length s11 ms n (behindP p q) ∧ KB es es2 ∧ Knows f [(0, .list 1 ((tabOf n p).map fun r => [AV.list 1 (bools r)])), (1, .list 1 ((tabOf n q).map fun r => [AV.list 1 (bools r)])), (5, .own es.length s11), (6, .int .i64 (i : Int))]) (n) (⟨0, [], rfl, Nat.zero_le _, rfl, tp_start (Nat.le_refl _) _, (KB.refl es).push _, kn⟩) ?_
 rintro m f es2 ⟨i, ms, rfl, hi1, hmsl, htp, kb, hk⟩
 have hT := htp.t
 refine w_pins _ (Sub.refl _) (hk) ?_
 simp only [pins]
 refine w_seq ?_
 refine w_seq ?_
 refine w_region ?_
 refine l_cons rfl (p_move ?_)
 refine l_cons rfl (p_move ?_)
 refine l_cons rfl (p_lenl sl_100 (a := .int .i64 (n : Int)) ?_ (ha := by rw [tab_len]))
 refine l_cons rfl (p_cmp ?_)
 refine l_nil ?_
 refine k_seq_normal ?_
 refine w_b (fun h1 => ?_) (fun h1 => ?_)
 ·skip
  have h1' := h1; (try simp only [bb] at h1')
  refine w_skip ?_
  refine k_seq_normal ?_
  refine w_seq ?_
  refine w_block ?_
  refine w_seq ?_
  refine w_region ?_
  refine l_cons rfl (p_move ?_)
  refine l_cons rfl (p_move ?_)
  refine l_cons rfl (p_move ?_)
  refine l_cons rfl (p_lenl sl_100 (a := .int .i64 (n : Int)) ?_ (ha := by rw [tab_len]))
  refine l_cons rfl (p_makeSlice sl_60 by_4 ze_4  fun s22 => ?_)
  refine l_cons rfl (p_ixo sl_100 (a := .ptr es.length s11 i 0) ?_ (h0 := by omega) (h1 := by rw [tRows_len (by omega)]; omega))
  refine l_cons rfl (p_store ty_60 ?_ (hr := tRows_nil (by omega) (by omega)) (hl := Nat.le_refl 1))
  have htp2 := tp_new (s := s22) htp (by omega) kb.2 (fun _ => false)
  rw [← tRows_new (by omega) (es2.length, s22), ← boolRow_none] at htp2
  have kb2 := (kb.put (Nat.le_refl _) (.row s11 60 1 ((tRows ms n).set ms.length [.own es2.length s22]))).push (.row s22 4 1 (List.replicate n [AV.bool false]))
  obtain ⟨ms2, hms2⟩ : ∃ x, x = ms ++ [(es2.length, s22)] := ⟨_, rfl⟩
  have hl2 : ms2.length = i + 1 := by rw [hms2]; simp [hmsl]
  rw [← hms2] at htp2
  refine l_nil ?_
  refine k_seq_normal ?_
  refine w_seq ?_
  refine w_region ?_
  refine l_cons rfl (p_move ?_)
  refine l_cons rfl (p_assign ?_)
  refine l_nil ?_
  refine k_seq_normal ?_
  refine w_block ?_
  refine w_loop (fun m f es3 => ∃ j, m = n - j ∧ i ≤ j ∧ j ≤ n ∧ TP es3 es.length es.length s11 ms2 n (fun a b => if a = i then bq p q i j j b else behindP p q a b) ∧ KB es es3 ∧ Knows f [(0, .list 1 ((tabOf n p).map fun r => [AV.list 1 (bools r)])), (1, .list 1 ((tabOf n q).map fun r => [AV.list 1 (bools r)])), (5, .own es.length s11), (6, .int .i64 (i : Int)), (7, .int .i64 (j : Int))]) (n - i) (⟨i, rfl, Nat.le_refl _, by omega, tp_congr (hmsl ▸ htp2) (fun a b _ _ => bq_start), hmsl ▸ kb2, kn⟩) ?_
  rintro m f es3 ⟨j, rfl, hj0, hj1, htp, kb, hk⟩
  refine w_pins _ (Sub.refl _) (hk) ?_
  simp only [pins]
  refine w_seq ?_
  refine w_seq ?_
  refine w_region ?_
  refine l_cons rfl (p_move ?_)
  refine l_cons rfl (p_move ?_)
  refine l_cons rfl (p_lenl sl_100 (a := .int .i64 (n : Int)) ?_ (ha := by rw [tab_len]))
  refine l_cons rfl (p_cmp ?_)
  refine l_nil ?_
  refine k_seq_normal ?_
  refine w_b (fun h2 => ?_) (fun h2 => ?_)
  ·skip
   have h2' := h2; (try simp only [bb] at h2')
   refine w_skip ?_
   refine k_seq_normal ?_
   refine w_seq ?_
   refine w_block ?_
   refine w_seq ?_
   refine w_region ?_
   refine l_cons rfl (p_move ?_)
   refine l_cons rfl (p_assign ?_)
   refine l_nil ?_
   refine k_seq_normal ?_
   refine w_block ?_
   refine w_loop (fun m f es4 => ∃ k, m = n - k ∧ j ≤ k ∧ k ≤ n ∧ TP es4 es.length es.length s11 ms2 n (fun a b => if a = i then bq p q i j k b else behindP p q a b) ∧ KB es es4 ∧ Knows f [(0, .list 1 ((tabOf n p).map fun r => [AV.list 1 (bools r)])), (1, .list 1 ((tabOf n q).map fun r => [AV.list 1 (bools r)])), (5, .own es.length s11), (6, .int .i64 (i : Int)), (7, .int .i64 (j : Int)), (8, .int .i64 (k : Int))]) (n - j) (⟨j, rfl, Nat.le_refl _, by omega, htp, kb, kn⟩) ?_
   rintro m f es4 ⟨k, rfl, hk0, hk1, htp, kb, hk⟩
   have hT := htp.t
   have hR := htp.r i (by omega)
   have hlo := htp.lo
   refine w_pins _ (Sub.refl _) (hk) ?_
   simp only [pins]
   refine w_seq ?_
   refine w_seq ?_
   refine w_region ?_
   refine l_cons rfl (p_move ?_)
   refine l_cons rfl (p_move ?_)
   refine l_cons rfl (p_lenl sl_100 (a := .int .i64 (n : Int)) ?_ (ha := by rw [tab_len]))
   refine l_cons rfl (p_cmp ?_)
   refine l_cons rfl (p_move ?_)
   refine g_b rfl (fun h3 => ?_) (fun h3 => ?_)
   ·skip
    have h3' := h3; (try simp only [bb] at h3')
    refine (p_move ?_)
    refine g_y rfl h3 (p_move ?_)
    refine g_y rfl h3 (p_ixl sl_100 (a := .fptr 1 ((tabOf n p).map fun r => [AV.list 1 (bools r)]) i 0) ?_ (h0 := by omega) (h1 := by rw [tab_len]; omega))
    refine g_y rfl h3 (p_loadf ty_60 (a := .list 1 (boolRow n (p i))) ?_ (hr := tabAV_row (by omega)) (hl := Nat.le_refl 1) (ha := rfl))
    refine g_y rfl h3 (p_move ?_)
    refine g_y rfl h3 (p_ixl sl_60 (a := .fptr 1 (boolRow n (p i)) j 0) ?_ (h0 := by omega) (h1 := by rw [boolRow_len]; omega))
    refine g_y rfl h3 (p_loadf ty_4 (a := .bool (p i j)) ?_ (hr := boolRow_at _ (by omega)) (hl := Nat.le_refl 1) (ha := rfl))
    refine l_cons rfl (p_pickt h3 ?_)
    refine l_nil ?_
    refine k_seq_normal ?_
    refine w_b (fun h4 => ?_) (fun h4 => ?_)
    ·skip
     have h4' := h4; (try simp only [bb] at h4')
     refine w_skip ?_
     refine k_seq_normal ?_
     refine w_seq ?_
     refine w_block ?_
     refine w_drawn 21 [] (fun e => at_ e es.length = some (.row s11 60 1 (tRows ms2 n)) ∧ at_ e (ms2[i]'(by omega)).1 = some (.row (ms2[i]'(by omega)).2 4 1 (boolRow n ((fun a b => if a = i then bq p q i j k b else behindP p q a b) i)))) mixed (by kernel_rfl) ⟨hT, hR⟩ ?_
     refine q1 5 (hg := rfl) (hu := rfl) (h := by rintro f _ ⟨hG1, hG2⟩; exact p_move ⟨rfl, rfl⟩) (k := ?_)
     refine q1 6 (hg := rfl) (hu := rfl) (h := by rintro f _ ⟨hG1, hG2⟩; exact p_move ⟨rfl, rfl⟩) (k := ?_)
     refine q2 47 48 (hg := rfl) (hu := rfl) (h := by rintro f _ ⟨hG1, hG2⟩; exact p_ixo sl_100 (a := .ptr es.length s11 i 0) ⟨rfl, rfl⟩ (h0 := by omega) (h1 := by rw [tRows_len (by omega)]; omega)) (k := ?_)
     refine q1 49 (hg := rfl) (hu := rfl) (h := by rintro f _ ⟨hG1, hG2⟩; exact p_loadp ty_60 (a := .own (ms2[i]'(by omega)).1 (ms2[i]'(by omega)).2) ⟨rfl, rfl⟩ (hr := tRows_at (by omega)) (hl := Nat.le_refl 1) (ha := rfl)) (k := ?_)
     refine q1 8 (hg := rfl) (hu := rfl) (h := by rintro f _ ⟨hG1, hG2⟩; exact p_move ⟨rfl, rfl⟩) (k := ?_)
     refine q1 5 (hg := rfl) (hu := rfl) (h := by rintro f _ ⟨hG1, hG2⟩; exact p_move ⟨rfl, rfl⟩) (k := ?_)
     refine q1 6 (hg := rfl) (hu := rfl) (h := by rintro f _ ⟨hG1, hG2⟩; exact p_move ⟨rfl, rfl⟩) (k := ?_)
     refine q2 52 53 (hg := rfl) (hu := rfl) (h := by rintro f _ ⟨hG1, hG2⟩; exact p_ixo sl_100 (a := .ptr es.length s11 i 0) ⟨rfl, rfl⟩ (h0 := by omega) (h1 := by rw [tRows_len (by omega)]; omega)) (k := ?_)
     refine q1 54 (hg := rfl) (hu := rfl) (h := by rintro f _ ⟨hG1, hG2⟩; exact p_loadp ty_60 (a := .own (ms2[i]'(by omega)).1 (ms2[i]'(by omega)).2) ⟨rfl, rfl⟩ (hr := tRows_at (by omega)) (hl := Nat.le_refl 1) (ha := rfl)) (k := ?_)
     refine q1 8 (hg := rfl) (hu := rfl) (h := by rintro f _ ⟨hG1, hG2⟩; exact p_move ⟨rfl, rfl⟩) (k := ?_)
     refine q2 55 56 (hg := rfl) (hu := rfl) (h := by rintro f _ ⟨hG1, hG2⟩; exact p_ixo sl_60 (a := .ptr (ms2[i]'(by omega)).1 (ms2[i]'(by omega)).2 k 0) ⟨rfl, rfl⟩ (h0 := by omega) (h1 := by rw [boolRow_len]; omega)) (k := ?_)
     refine q1 57 (hg := rfl) (hu := rfl) (h := by rintro f _ ⟨hG1, hG2⟩; exact p_loadp ty_4 (a := .bool (bq p q i j k k)) ⟨rfl, rfl⟩ (hr := boolRow_at _ (by omega)) (hl := Nat.le_refl 1) (ha := by show AV.bool (if i = i then _ else _) = _; rw [if_pos rfl])) (k := ?_)
     refine q1 58 (hg := rfl) (hu := rfl) (h := by rintro f _ ⟨hG1, hG2⟩; exact p_move ⟨rfl, rfl⟩) (k := ?_)
     refine qsplit 59 (fun h5 => ?_) (fun h5 => ?_)
     ·skip
      have h5' := h5; (try simp only [bb] at h5')
      refine qn rfl h5 ?_
      refine qn rfl h5 ?_
      refine qn rfl h5 ?_
      refine qn rfl h5 ?_
      refine qn rfl h5 ?_
      refine qn rfl h5 ?_
      refine qn rfl h5 ?_
      refine q2 59 66 (hg := rfl) (hu := rfl) (h := by rintro f _ ⟨hG1, hG2⟩; exact p_pickt h5 ⟨rfl, rfl⟩) (k := ?_)
      refine q_end ?_
      refine m_end ?_
      refine l_cons rfl (p_ixo sl_60 (a := .ptr (ms2[i]'(by omega)).1 (ms2[i]'(by omega)).2 k 0) ?_ (h0 := by omega) (h1 := by rw [boolRow_len]; omega))
      refine l_cons rfl (p_store ty_4 (rows' := (boolRow n ((fun a b => if a = i then bq p q i j k b else behindP p q a b) i)).set k [.bool (bq p q i j k k || q j k)]) (r' := [.bool (bq p q i j k k || q j k)]) ?_ (hr := boolRow_at _ (by omega)) (hl := Nat.le_refl 1) (hr' := by simp only [List.take_zero, List.nil_append, List.drop_succ_cons, List.drop_zero, List.append_nil, List.drop_nil]; simp [*]) (hrs := rfl))
      refine l_nil ?_
      refine k_blk_normal ?_
      refine k_seq_normal ?_
      refine w_region ?_
      refine l_cons rfl (p_move ?_)
      refine l_cons rfl (p_arith ?_)
      refine l_cons rfl (p_assign ?_)
      refine l_nil ?_
      refine k_seq_normal ?_
      exact ⟨n - (k + 1), by omega, k + 1, rfl, by omega, by omega, tp_congr (tp_set htp (i := i) (j := k) (by omega) (by omega) (bq p q i j k k || q j k)) (fun a b _ _ => bq_step (by assumption) (by omega)), kb.put (hlo _ (tp_mem (by omega))) _, kn⟩
     ·skip
      have h5' := h5; (try simp only [bb] at h5')
      refine qy1 1 (hg := rfl) (hw := h5) (hu := rfl) (h := by rintro f _ ⟨hG1, hG2⟩; exact p_move ⟨rfl, rfl⟩) (k := ?_)
      refine qy1 7 (hg := rfl) (hw := h5) (hu := rfl) (h := by rintro f _ ⟨hG1, hG2⟩; exact p_move ⟨rfl, rfl⟩) (k := ?_)
      refine qy2 60 61 (hg := rfl) (hw := h5) (hu := rfl) (h := by rintro f _ ⟨hG1, hG2⟩; exact p_ixl sl_100 (a := .fptr 1 ((tabOf n q).map fun r => [AV.list 1 (bools r)]) j 0) ⟨rfl, rfl⟩ (h0 := by omega) (h1 := by rw [tab_len]; omega)) (k := ?_)
      refine qy1 62 (hg := rfl) (hw := h5) (hu := rfl) (h := by rintro f _ ⟨hG1, hG2⟩; exact p_loadf ty_60 (a := .list 1 (boolRow n (q j))) ⟨rfl, rfl⟩ (hr := tabAV_row (by omega)) (hl := Nat.le_refl 1) (ha := rfl)) (k := ?_)
      refine qy1 8 (hg := rfl) (hw := h5) (hu := rfl) (h := by rintro f _ ⟨hG1, hG2⟩; exact p_move ⟨rfl, rfl⟩) (k := ?_)
      refine qy2 63 64 (hg := rfl) (hw := h5) (hu := rfl) (h := by rintro f _ ⟨hG1, hG2⟩; exact p_ixl sl_60 (a := .fptr 1 (boolRow n (q j)) k 0) ⟨rfl, rfl⟩ (h0 := by omega) (h1 := by rw [boolRow_len]; omega)) (k := ?_)
      refine qy1 65 (hg := rfl) (hw := h5) (hu := rfl) (h := by rintro f _ ⟨hG1, hG2⟩; exact p_loadf ty_4 (a := .bool (q j k)) ⟨rfl, rfl⟩ (hr := boolRow_at _ (by omega)) (hl := Nat.le_refl 1) (ha := rfl)) (k := ?_)
      refine q2 59 66 (hg := rfl) (hu := rfl) (h := by rintro f _ ⟨hG1, hG2⟩; exact p_pickf h5 ⟨rfl, rfl⟩) (k := ?_)
      refine q_end ?_
      refine m_end ?_
      refine l_cons rfl (p_ixo sl_60 (a := .ptr (ms2[i]'(by omega)).1 (ms2[i]'(by omega)).2 k 0) ?_ (h0 := by omega) (h1 := by rw [boolRow_len]; omega))
      refine l_cons rfl (p_store ty_4 (rows' := (boolRow n ((fun a b => if a = i then bq p q i j k b else behindP p q a b) i)).set k [.bool (bq p q i j k k || q j k)]) (r' := [.bool (bq p q i j k k || q j k)]) ?_ (hr := boolRow_at _ (by omega)) (hl := Nat.le_refl 1) (hr' := by simp only [List.take_zero, List.nil_append, List.drop_succ_cons, List.drop_zero, List.append_nil, List.drop_nil]; simp [*]) (hrs := rfl))
      refine l_nil ?_
      refine k_blk_normal ?_
      refine k_seq_normal ?_
      refine w_region ?_
      refine l_cons rfl (p_move ?_)
      refine l_cons rfl (p_arith ?_)
      refine l_cons rfl (p_assign ?_)
      refine l_nil ?_
      refine k_seq_normal ?_
      exact ⟨n - (k + 1), by omega, k + 1, rfl, by omega, by omega, tp_congr (tp_set htp (i := i) (j := k) (by omega) (by omega) (bq p q i j k k || q j k)) (fun a b _ _ => bq_step (by assumption) (by omega)), kb.put (hlo _ (tp_mem (by omega))) _, kn⟩
    ·skip
     have h4' := h4; (try simp only [bb] at h4')
     refine w_exit ?_
     refine k_seq_exit ?_
     refine k_seq_exit ?_
     refine k_blk_here ?_
     refine k_blk_normal ?_
     refine k_seq_normal ?_
     refine w_region ?_
     refine l_cons rfl (p_move ?_)
     refine l_cons rfl (p_arith ?_)
     refine l_cons rfl (p_assign ?_)
     refine l_nil ?_
     refine k_seq_normal ?_
     first
     | exact ⟨n - (j + 1), by omega, j + 1, rfl, by omega, by omega, tp_congr htp (fun a b _ hb => bq_skip (by assumption)), kb, kn⟩
     | exact ⟨n - (j + 1), by omega, j + 1, rfl, by omega, by omega, tp_congr htp (fun a b _ hb => bq_next (by omega) (by omega) hb), kb, kn⟩
   ·skip
    have h3' := h3; (try simp only [bb] at h3')
    refine g_n rfl h3 ?_
    refine g_n rfl h3 ?_
    refine g_n rfl h3 ?_
    refine g_n rfl h3 ?_
    refine g_n rfl h3 ?_
    refine g_n rfl h3 ?_
    refine l_cons rfl (p_pickf h3 ?_)
    refine l_nil ?_
    refine k_seq_normal ?_
    refine w_f rfl ?_
    refine w_exit ?_
    refine k_seq_exit ?_
    refine k_seq_exit ?_
    refine k_blk_here ?_
    refine k_blk_normal ?_
    refine k_seq_normal ?_
    refine w_region ?_
    refine l_cons rfl (p_move ?_)
    refine l_cons rfl (p_arith ?_)
    refine l_cons rfl (p_assign ?_)
    refine l_nil ?_
    refine k_seq_normal ?_
    first
    | exact ⟨n - (j + 1), by omega, j + 1, rfl, by omega, by omega, tp_congr htp (fun a b _ hb => bq_skip (by assumption)), kb, kn⟩
    | exact ⟨n - (j + 1), by omega, j + 1, rfl, by omega, by omega, tp_congr htp (fun a b _ hb => bq_next (by omega) (by omega) hb), kb, kn⟩
  ·skip
   have h2' := h2; (try simp only [bb] at h2')
   refine w_exit ?_
   refine k_seq_exit ?_
   refine k_seq_exit ?_
   refine k_blk_here ?_
   refine k_blk_normal ?_
   refine k_seq_normal ?_
   refine w_region ?_
   refine l_cons rfl (p_move ?_)
   refine l_cons rfl (p_arith ?_)
   refine l_cons rfl (p_assign ?_)
   refine l_nil ?_
   refine k_seq_normal ?_
   exact ⟨n - (i + 1), by omega, i + 1, ms2, rfl, by omega, hl2, tp_congr htp (fun a b ha hb => bq_done (by omega) hb), kb, kn⟩
 ·skip
  have h1' := h1; (try simp only [bb] at h1')
  refine w_exit ?_
  refine k_seq_exit ?_
  refine k_seq_exit ?_
  refine k_blk_here ?_
  refine k_seq_normal ?_
  refine w_seq ?_
  refine w_freezeT 5 htp (by omega) kb ?_
  refine w_region ?_
  refine l_cons rfl (p_move ?_)
  refine l_cons rfl (p_assign ?_)
  refine l_nil ?_
  refine k_seq_normal ?_
  refine w_ret ?_
  obtain rfl : i = n := by omega
  exact ret1 rfl ev1 subx ⟨rfl, rfl⟩
end
section
open Go.RowKit
section
variable {P : Program} {w0 : World} {N : Nat} {f : Frame} {base es : List Ent} {K : Exit → Frame → List Ent → Prop}
/-- A slot told otherwise. -/
theorem w_retell {code : Code} (t : Nat) {a b : AV} (hw : ∀ (c : Core) (m : Option (List Ent)) (v : Value), Rep c m a v → Rep c m b v) (h : AWp P w0 N code (upd f t b) es K) (ht : f t = a := by simp only [upd_apply, Nat.reduceEqDiff, ↓reduceIte] <;> exact rfl) : AWp P w0 N code f es K := by
 intro c A Q ok rf hk
 refine h c A Q ok ⟨rf.size, fun u => ?_, rf.defers⟩ hk
 by_cases hu : u = t
 ·subst hu
  rw [upd_same]
  exact hw _ _ _ (ht ▸ rf.rep u)
 ·rw [upd_ne _ _ hu]
  exact rf.rep u
/-- The table is written still, or is a list already: it is a list from here on. -/
theorem w_either {code : Code} (t : Nat) {it st n : Nat} {p : Nat → Nat → Bool} (h : (∃ ms : List (Nat × Nat), ms.length = n ∧ TP es base.length it st ms n p ∧ KB base es ∧ f t = .own it st) ∨ (KB base es ∧ f t = tabAV (tabOf n p)))
  (k : AWp P w0 N code (upd f t (tabAV (tabOf n p))) base K) : AWp P w0 N code f es K := by
 rcases h with ⟨ms, h1, h2, h3, h4⟩ | ⟨h1, h2⟩
 ·exact w_freezeT t h2 h1 h3 k h4
 ·have e : upd f t (tabAV (tabOf n p)) = f := by rw [← h2]; exact upd_self f t _ rfl
  rw [e] at k
  exact w_less (fun _ => .inl rfl) h1.sub k
end
/-! ### the empty word, one byte -/
def dg (i a b : Nat) : Bool := decide (a = b) && decide (a < i)
theorem dg_step {i a b : Nat} : (if a = i ∧ b = i then true else dg i a b) = dg (i + 1) a b := by
 unfold dg
 by_cases h : a = i ∧ b = i
 ·rw [if_pos h]; simp; omega
 ·rw [if_neg h, Bool.eq_iff_iff]; simp; omega
theorem sl_nil {w : List Int} {a b : Nat} (h1 : a ≤ b) (h2 : b ≤ w.length) : sl w a b = [] ↔ a = b := by
 constructor
 ·intro h
  have := sl_len (w := w) (i := a) h2
  rw [h] at this
  simp at this
  omega
 ·rintro rfl; exact sl_self w a
theorem dg_done {L : List Int → Prop} (hL : ∀ x, L x ↔ x = []) {w : List Int} {n a b : Nat} (hn : n = w.length + 1) (ha : a < n) (hb : b < n) : dg n a b = langP L w a b := by
 rw [Bool.eq_iff_iff, langP_iff, hL]
 unfold dg
 simp only [Bool.and_eq_true, decide_eq_true_eq]
 constructor
 ·rintro ⟨rfl, _⟩; exact ⟨Nat.le_refl _, sl_self w a⟩
 ·rintro ⟨h1, h2⟩; exact ⟨(sl_nil h1 (by omega)).1 h2, ha⟩
theorem none_done {L : List Int → Prop} (hL : ∀ x, ¬ L x) {w : List Int} {a b : Nat} : false = langP L w a b := by
 symm
 rw [Bool.eq_false_iff]
 intro h
 exact hL _ (langP_iff.1 h).2
def sg (s : W4) (w : List Int) (i a b : Nat) : Bool := decide (b = a + 1) && decide (a < i) && s.hasI (w.getD a 0)
theorem sg_step {s : W4} {w : List Int} {i a b : Nat} (h : i < w.length) : (if a = i ∧ b = i + 1 then s.hasI w[i] else sg s w i a b) = sg s w (i + 1) a b := by
 unfold sg
 by_cases h1 : a = i ∧ b = i + 1
 ·obtain ⟨rfl, rfl⟩ := h1
  rw [if_pos ⟨rfl, rfl⟩]
  simp [List.getD, h]
 ·rw [if_neg h1]
  congr 1
  rw [Bool.eq_iff_iff]
  simp
  omega
theorem sg_done {s : W4} {L : List Int → Prop} (hL : ∀ x, L x ↔ ∃ c, x = [c] ∧ s.hasI c = true) {w : List Int} {n a b : Nat} (hn : n = w.length + 1) (ha : a < n) (hb : b < n) : sg s w w.length a b = langP L w a b := by
 rw [Bool.eq_iff_iff, langP_iff, hL]
 unfold sg
 simp only [Bool.and_eq_true, decide_eq_true_eq]
 constructor
 ·rintro ⟨⟨rfl, h1⟩, h2⟩
  refine ⟨by omega, w[a], sl_one h1, ?_⟩
  simpa [List.getD, h1] using h2
 ·rintro ⟨h1, c, h2, h3⟩
  have hl := sl_len (w := w) (i := a) (j := b) (by omega)
  rw [h2] at hl
  simp only [List.length_cons, List.length_nil] at hl
  have hb2 : b = a + 1 := by omega
  subst hb2
  have ha2 : a < w.length := by omega
  rw [sl_one ha2] at h2
  simp only [List.cons.injEq, and_true] at h2
  subst h2
  exact ⟨⟨rfl, ha2⟩, by simpa [List.getD, ha2] using h3⟩
/-! ### alternatives, one behind the other -/
theorem alt_step {l : List Rx} {k : Nat} (hk : k < l.length) (w : List Int) (a b : Nat) : (langP (Rx.langAlt (l.take k)) w a b || langP (l[k]).lang w a b) = langP (Rx.langAlt (l.take (k + 1))) w a b := by
 rw [Bool.eq_iff_iff, Bool.or_eq_true, langP_iff, langP_iff, langP_iff, langAlt_iff, langAlt_iff, List.take_add_one, List.getElem?_eq_getElem hk]
 constructor
 ·rintro (⟨h1, x, h2, h3⟩ | ⟨h1, h2⟩)
  ·exact ⟨h1, x, List.mem_append_left _ h2, h3⟩
  ·exact ⟨h1, l[k], List.mem_append_right _ (List.mem_singleton.2 rfl), h2⟩
 ·rintro ⟨h1, x, h2, h3⟩
  rcases List.mem_append.1 h2 with h2 | h2
  ·exact .inl ⟨h1, x, h2, h3⟩
  ·simp at h2; subst h2; exact .inr ⟨h1, h3⟩
theorem alt_none (w : List Int) (l : List Rx) {a b : Nat} : false = langP (Rx.langAlt (l.take 0)) w a b := none_done (fun x => by rw [List.take_zero]; exact langAlt_nil x)
theorem cat_step {l : List Rx} {k : Nat} (hk : k < l.length) {w : List Int} {n a b : Nat} (hn : n = w.length + 1) (hb : b < n) : behindP (langP (Rx.langCat (l.take k)) w) (langP (l[k]).lang w) a b = langP (Rx.langCat (l.take (k + 1))) w a b := by
 rw [behind_lang (by omega)]
 refine langP_congr (fun x => ?_) w a b
 rw [List.take_add_one, List.getElem?_eq_getElem hk]
 show _ ↔ Rx.langCat (l.take k ++ [l[k]]) x
 rw [langCat_app]
 constructor
 ·rintro ⟨u, v, h1, h2, h3⟩; exact ⟨u, v, h1, h2, langCat_one.2 h3⟩
 ·rintro ⟨u, v, h1, h2, h3⟩; exact ⟨u, v, h1, h2, langCat_one.1 h3⟩
/-! ### any number -/
open Classical in
noncomputable def sjb (P : List Int → Prop) (w : List Int) (i j b : Nat) : Bool := decide (b = i ∨ ∃ m, i ≤ m ∧ m < j ∧ m < b ∧ SR P w i m ∧ P (sl w m b))
theorem sjb_iff {P : List Int → Prop} {w : List Int} {i j b : Nat} : sjb P w i j b = true ↔ b = i ∨ ∃ m, i ≤ m ∧ m < j ∧ m < b ∧ SR P w i m ∧ P (sl w m b) := by
 unfold sjb
 simp only [decide_eq_true_eq]
theorem sjb_here {P : List Int → Prop} {w : List Int} {i j : Nat} (hj : j ≤ w.length) : sjb P w i j j = true ↔ SR P w i j := by
 rw [sjb_iff, sr_iff hj]
 constructor
 ·rintro (h | ⟨m, h1, h2, h3, h4, h5⟩)
  ·exact .inl h
  ·exact .inr ⟨m, h1, h3, h4, h5⟩
 ·rintro (h | ⟨m, h1, h2, h3, h4⟩)
  ·exact .inl h
  ·exact .inr ⟨m, h1, h2, h2, h3, h4⟩
theorem sjb_succ {P : List Int → Prop} {w : List Int} {i j b : Nat} (hij : i ≤ j) : sjb P w i (j + 1) b = true ↔ sjb P w i j b = true ∨ (j < b ∧ SR P w i j ∧ P (sl w j b)) := by
 rw [sjb_iff, sjb_iff]
 constructor
 ·rintro (h | ⟨m, h1, h2, h3, h4, h5⟩)
  ·exact .inl (.inl h)
  ·by_cases hm : m = j
   ·subst hm; exact .inr ⟨h3, h4, h5⟩
   ·exact .inl (.inr ⟨m, h1, by omega, h3, h4, h5⟩)
 ·rintro ((h | ⟨m, h1, h2, h3, h4, h5⟩) | ⟨h1, h2, h3⟩)
  ·exact .inl h
  ·exact .inr ⟨m, h1, by omega, h3, h4, h5⟩
  ·exact .inr ⟨j, hij, by omega, h1, h2, h3⟩
noncomputable def sk (P : List Int → Prop) (w : List Int) (i j k b : Nat) : Bool := sjb P w i j b || (decide (j < b) && decide (b < k) && sjb P w i j j && langP P w j b)
/-- The table when rows ahead of i are done, and row i by q. -/
noncomputable def rowI (P : List Int → Prop) (w : List Int) (i : Nat) (q : Nat → Bool) (a b : Nat) : Bool := if a < i then langP (Star P) w a b else if a = i then q b else false
theorem rowI_here {P : List Int → Prop} {w : List Int} {i : Nat} {q : Nat → Bool} {b : Nat} : rowI P w i q i b = q b := by unfold rowI; rw [if_neg (by omega), if_pos rfl]
theorem rowI_set {P : List Int → Prop} {w : List Int} {i k : Nat} {q q' : Nat → Bool} {v : Bool} {a b : Nat} (h : ∀ b, q' b = if b = k then v else q b) : (if a = i ∧ b = k then v else rowI P w i q a b) = rowI P w i q' a b := by
 unfold rowI
 by_cases h1 : a < i
 ·rw [if_neg (by omega), if_pos h1, if_pos h1]
 ·rw [if_neg h1, if_neg h1]
  by_cases h2 : a = i
  ·rw [if_pos h2, if_pos h2, h b]
   by_cases h3 : b = k
   ·rw [if_pos ⟨h2, h3⟩, if_pos h3]
   ·rw [if_neg (fun e => h3 e.2), if_neg h3]
  ·rw [if_neg (fun e => h2 e.1), if_neg h2, if_neg h2]
theorem rowI_congr {P : List Int → Prop} {w : List Int} {i : Nat} {q q' : Nat → Bool} {a b : Nat} (h : q b = q' b) : rowI P w i q a b = rowI P w i q' a b := by
 unfold rowI
 rw [h]
theorem rowI_start {P : List Int → Prop} {w : List Int} {a b : Nat} : false = rowI P w 0 (fun _ => false) a b := by
 unfold rowI
 rw [if_neg (by omega)]
 split <;> rfl
theorem rowI_diag {P : List Int → Prop} {w : List Int} {i b : Nat} : sjb P w i i b = if b = i then true else false := by
 rw [Bool.eq_iff_iff, sjb_iff]
 constructor
 ·rintro (h | ⟨m, h1, h2, _⟩)
  ·simp [h]
  ·omega
 ·intro h
  by_cases hb : b = i
  ·exact .inl hb
  ·simp [hb] at h
theorem sk_start {P : List Int → Prop} {w : List Int} {i j b : Nat} : sjb P w i j b = sk P w i j (j + 1) b := by
 unfold sk
 have : (decide (j < b) && decide (b < j + 1)) = false := by
  rw [Bool.eq_false_iff]
  simp
  omega
 rw [this]
 simp
theorem sk_step {P : List Int → Prop} {w : List Int} {i j k : Nat} (hs : sjb P w i j j = true) (hjk : j < k) : ∀ b, sk P w i j (k + 1) b = if b = k then (sk P w i j k k || langP P w j k) else sk P w i j k b := by
 intro b
 by_cases h : b = k
 ·subst h
  rw [if_pos rfl]
  unfold sk
  have e1 : decide (j < b) = true := by simpa using hjk
  have e2 : decide (b < b + 1) = true := by simp
  have e3 : decide (b < b) = false := by simp
  rw [e1, e2, e3, hs]
  simp
 ·rw [if_neg h]
  unfold sk
  have : decide (b < k + 1) = decide (b < k) := by rw [decide_eq_decide]; omega
  rw [this]
theorem sk_done {P : List Int → Prop} {w : List Int} {i j k n b : Nat} (hij : i ≤ j) (hj : j ≤ w.length) (h : n ≤ k ∨ sjb P w i j j = false ∨ (∀ x, ¬ P x)) (hb : b < n) : sk P w i j k b = sjb P w i (j + 1) b := by
 rw [Bool.eq_iff_iff, sjb_succ hij]
 unfold sk
 simp only [Bool.or_eq_true, Bool.and_eq_true, decide_eq_true_eq, langP_iff]
 constructor
 ·rintro (h1 | ⟨⟨⟨h1, _⟩, h2⟩, h3⟩)
  ·exact .inl h1
  ·exact .inr ⟨h1, (sjb_here hj).1 h2, h3.2⟩
 ·rintro (h1 | ⟨h1, h2, h3⟩)
  ·exact .inl h1
  ·rcases h with h4 | h4 | h4
   ·exact .inr ⟨⟨⟨h1, by omega⟩, (sjb_here hj).2 h2⟩, by omega, h3⟩
   ·rw [(sjb_here hj).2 h2] at h4; cases h4
   ·exact absurd h3 (h4 _)
theorem star_row {P : List Int → Prop} {w : List Int} {i n a b : Nat} (hn : n = w.length + 1) (ha : a < n) (hb : b < n) (hi : i < n) : rowI P w i (sjb P w i n) a b = rowI P w (i + 1) (fun _ => false) a b := by
 unfold rowI
 by_cases h : a < i
 ·rw [if_pos h, if_pos (by omega)]
 ·rw [if_neg h]
  by_cases h2 : a = i
  ·subst h2
   rw [if_pos rfl, if_pos (by omega), Bool.eq_iff_iff, langP_iff, sjb_iff]
   constructor
   ·intro h3
    have h4 : SR P w a b := (sr_iff (by omega)).2 (by
     rcases h3 with h3 | ⟨m, h4, h5, h6, h7, h8⟩
     ·exact .inl h3
     ·exact .inr ⟨m, h4, h6, h7, h8⟩)
    exact ⟨h4.le, (star_iff h4.le (by omega)).2 h4⟩
   ·rintro ⟨h3, h4⟩
    rw [star_iff h3 (by omega), sr_iff (by omega)] at h4
    rcases h4 with h4 | ⟨m, h5, h6, h7, h8⟩
    ·exact .inl h4
    ·exact .inr ⟨m, h5, by omega, h6, h7, h8⟩
  ·rw [if_neg h2, if_neg (by omega)]
   split <;> rfl
theorem star_rows {P L : List Int → Prop} (hL : ∀ x, L x ↔ Star P x) {w : List Int} {n a b : Nat} (ha : a < n) : rowI P w n (fun _ => false) a b = langP L w a b := by
 unfold rowI
 rw [if_pos ha]
 exact langP_congr (fun x => (hL x).symm) w a b
/-- The table of the starred one: empty rows, if there is not just one. -/
noncomputable def rowO (one : Bool) (P : List Int → Prop) (w : List Int) (n j : Nat) : List Bool := if one = true then (List.range n).map (langP P w j) else []
noncomputable def tabO (one : Bool) (P : List Int → Prop) (w : List Int) (n : Nat) : List (List Bool) := (List.range n).map (rowO one P w n)
theorem tabO_len (one : Bool) (P : List Int → Prop) (w : List Int) (n : Nat) : ((tabO one P w n).map fun r => [AV.list 1 (bools r)]).length = n := by simp [tabO]
theorem tabO_row {one : Bool} {P : List Int → Prop} {w : List Int} {n j : Nat} (h : j < n) : ((tabO one P w n).map fun r => [AV.list 1 (bools r)])[j]? = some [.list 1 (bools (rowO one P w n j))] := by simp [tabO, h]
theorem tabO_no (P : List Int → Prop) (w : List Int) (n : Nat) : tabO false P w n = List.replicate n [] := by
 unfold tabO rowO
 refine List.ext_getElem (by simp) fun i h1 h2 => ?_
 simp
theorem tabO_yes (P : List Int → Prop) (w : List Int) (n : Nat) : tabO true P w n = tabOf n (langP P w) := by
 unfold tabO rowO tabOf
 rfl
theorem rep_nils {c : Core} {m : Option (List Ent)} {v : Value} {n : Nat} (P : List Int → Prop) (w : List Int) (h : Rep c m (.list 1 (List.replicate n [AV.nil])) v) : Rep c m (tabAV (tabO false P w n)) v := by
 have h2 := rep_list_nilTo 1 h
 rw [tabO_no]
 unfold tabAV
 have e : (List.replicate n [AV.nil]).map (fun r => r.map (nilTo 1)) = (List.replicate n ([] : List Bool)).map fun r => [AV.list 1 (bools r)] := by
  rw [List.map_replicate, List.map_replicate]
  rfl
 rw [e] at h2
 exact h2
end
set_option maxRecDepth 8000
section
open Go.RowKit Go.Proofs
theorem nils_clean (n : Nat) : (List.replicate n [AV.nil]).all cleans = true := by
 rw [List.all_eq_true]
 intro x hx
 rw [List.eq_of_mem_replicate hx]
 rfl
theorem sk_at {P : List Int → Prop} {w : List Int} {i j k : Nat} : sk P w i j k j = sjb P w i j j := by
 unfold sk
 simp
theorem tabO_row1 {one : Bool} {P : List Int → Prop} {w : List Int} {n j : Nat} (h1 : one = true) (h : j < n) : ((tabO one P w n).map fun r => [AV.list 1 (bools r)])[j]? = some [.list 1 (boolRow n (langP P w j))] := by
 rw [tabO_row h]
 unfold rowO boolRow
 rw [if_pos h1]
theorem rowO_pos {one : Bool} {P : List Int → Prop} {w : List Int} {n j : Nat} (h : 0 < (rowO one P w n j).length) : one = true := by
 cases one with
 | true => rfl
 | false => simp [rowO] at h
theorem one_none {l : List Rx} {w : List Int} {n j : Nat} (hn : 0 < n) (h : ¬ 0 < (rowO (decide (l.length = 1)) (Rx.langOne l) w n j).length) : ∀ x, ¬ Rx.langOne l x := by
 intro x hx
 obtain ⟨a, rfl, _⟩ := langOne_iff.1 hx
 simp [rowO] at h
 omega
theorem one_arg {l : List Rx} (h : l.length = 1) : ∀ x, (l[0]'(by omega)).lang x ↔ Rx.langOne l x := by
 match l, h with
 | [a], _ => intro x; rw [langOne_iff]; simp
open Classical in
noncomputable def inR (r : Rx) (w : List Int) : Bool := decide (r.lang w)
theorem inR_iff {r : Rx} {w : List Int} : inR r w = true ↔ r.lang w := by unfold inR; simp only [decide_eq_true_eq]
theorem inR_eq (r : Rx) (w : List Int) : inR r w = langP r.lang w 0 w.length := by
 rw [Bool.eq_iff_iff, inR_iff, langP_iff, sl_all]
 simp
theorem spans_walk {w0 : World} : ∀ (B : Nat) (r : Rx) (es : List Ent) (w : List Int), r.nodes ≤ B → r.ok → bytesOk w → w.length ≤ 1000 → ACalls Tryd.prog w0 81 [.agg r.cells, bytesAV w] es fun v es' => v = tabAV (spansT r w) ∧ es' = es := by
  intro B
  induction B using Nat.strongRecOn with
  | _ B ih => ?_
  intro r es w hB ho hw hwl
  rw [Rx.cells_eq r]
  unfold bytesAV
  have hne := r.nodes_eq
  have hal := Rx.len_le r.args
  obtain ⟨n, hn⟩ : ∃ n, n = w.length + 1 := ⟨_, rfl⟩
  have hspan : spansT r w = tabOf n (langP r.lang w) := by rw [hn]; rfl
  refine calls2 (N := 194) Tryd.func81 rfl rfl (by decide) ?_
  refine w_seq ?_
  refine w_region ?_
  refine l_cons rfl (p_box fun s2 => ?_)
  refine l_cons rfl (p_assign ?_)
  refine l_nil ?_
  refine k_seq_normal ?_
  refine w_seq ?_
  refine w_region ?_
  refine l_cons rfl (p_move ?_)
  refine l_cons rfl (p_lenl sl_22 ?_)
  refine l_cons rfl (p_arith (r := (n : Int)) ?_ (hb := by rw [hn]; exact add64 (by omega) (by omega)))
  refine l_cons rfl (p_assign ?_)
  refine l_nil ?_
  refine k_seq_normal ?_
  refine w_seq ?_
  refine w_region ?_
  refine l_cons rfl (p_move ?_)
  refine l_cons rfl (p_makeSlice sl_100 by_60 ze_60  fun s21 => ?_)
  refine l_cons rfl (p_assign ?_)
  refine l_nil ?_
  refine k_seq_normal ?_
  refine w_seq ?_
  refine w_seq ?_
  refine w_region ?_
  refine l_cons rfl (p_assign ?_)
  refine l_nil ?_
  refine k_seq_normal ?_
  refine w_block ?_
  refine w_loop (fun m f es2 => ∃ i ms, m = n - i ∧ i ≤ n ∧ ms.length = i ∧ TP es2 (.row s2 29 6 [[.int .i64 r.kind, .int .u64 r.set.w0, .int .u64 r.set.w1, .int .u64 r.set.w2, .int .u64 r.set.w3, .list 6 (r.args.map Rx.cells)]] :: es).length (es.length + 1) s21 ms n (fun _ _ => false) ∧ KB (.row s2 29 6 [[.int .i64 r.kind, .int .u64 r.set.w0, .int .u64 r.set.w1, .int .u64 r.set.w2, .int .u64 r.set.w3, .list 6 (r.args.map Rx.cells)]] :: es) es2 ∧ Knows f [(1, .list 1 (w.map fun n => [.int .u8 n])), (2, .ptr es.length s2 0 0), (5, .int .i64 (n : Int)), (6, .own (es.length + 1) s21), (7, .int .i64 (i : Int))]) (n) (⟨0, [], rfl, Nat.zero_le _, rfl, tp_start (Nat.le_refl _) _, (KB.refl _).push _, kn⟩) ?_
  rintro m f es2 ⟨i, ms, rfl, hi1, hmsl, htp, kb, hk⟩
  have hT := htp.t
  have hlo := htp.lo
  have hbox := (kb.1 es.length (by simp)).trans (at_hit _ _)
  refine w_pins _ (Sub.refl _) (hk) ?_
  simp only [pins]
  refine w_seq ?_
  refine w_seq ?_
  refine w_region ?_
  refine l_cons rfl (p_move ?_)
  refine l_cons rfl (p_move ?_)
  refine l_cons rfl (p_cmp ?_)
  refine l_nil ?_
  refine k_seq_normal ?_
  refine w_b (fun h1 => ?_) (fun h1 => ?_)
  · skip
    have h1' := h1; (try simp only [bb] at h1')
    refine w_skip ?_
    refine k_seq_normal ?_
    refine w_seq ?_
    refine w_block ?_
    refine w_region ?_
    refine l_cons rfl (p_move ?_)
    refine l_cons rfl (p_move ?_)
    refine l_cons rfl (p_move ?_)
    refine l_cons rfl (p_makeSlice sl_60 by_4 ze_4  fun s30 => ?_)
    refine l_cons rfl (p_ixo sl_100 (a := .ptr (es.length + 1) s21 i 0) ?_ (h0 := by omega) (h1 := by rw [tRows_len (by omega)]; omega))
    refine l_cons rfl (p_store ty_60 ?_ (hr := tRows_nil (by omega) (by omega)) (hl := Nat.le_refl 1))
    have htp2 := tp_new (s := s30) htp (by omega) kb.2 (fun _ => false)
    rw [← tRows_new (by omega) (es2.length, s30), ← boolRow_none] at htp2
    have kb2 := (kb.put (id := es.length + 1) (by simp) (.row s21 60 1 ((tRows ms n).set ms.length [.own es2.length s30]))).push (.row s30 4 1 (List.replicate n [AV.bool false]))
    refine l_nil ?_
    refine k_blk_normal ?_
    refine k_seq_normal ?_
    refine w_region ?_
    refine l_cons rfl (p_move ?_)
    refine l_cons rfl (p_arith ?_)
    refine l_cons rfl (p_assign ?_)
    refine l_nil ?_
    refine k_seq_normal ?_
    exact ⟨n - (i + 1), by omega, i + 1, ms ++ [(es2.length, s30)], rfl, by omega, by simp [hmsl], tp_congr (hmsl ▸ htp2) (fun a b _ _ => by split <;> rfl), hmsl ▸ kb2, kn⟩
  · skip
    have h1' := h1; (try simp only [bb] at h1')
    refine w_exit ?_
    refine k_seq_exit ?_
    refine k_seq_exit ?_
    refine k_blk_here ?_
    refine k_seq_normal ?_
    refine w_cut (fun f es' => (∃ ms : List (Nat × Nat), ms.length = n ∧ TP es' (.row s2 29 6 [[.int .i64 r.kind, .int .u64 r.set.w0, .int .u64 r.set.w1, .int .u64 r.set.w2, .int .u64 r.set.w3, .list 6 (r.args.map Rx.cells)]] :: es).length (es.length + 1) s21 ms n (langP r.lang w) ∧ KB (.row s2 29 6 [[.int .i64 r.kind, .int .u64 r.set.w0, .int .u64 r.set.w1, .int .u64 r.set.w2, .int .u64 r.set.w3, .list 6 (r.args.map Rx.cells)]] :: es) es' ∧ f 6 = .own (es.length + 1) s21) ∨ (KB (.row s2 29 6 [[.int .i64 r.kind, .int .u64 r.set.w0, .int .u64 r.set.w1, .int .u64 r.set.w2, .int .u64 r.set.w3, .list 6 (r.args.map Rx.cells)]] :: es) es' ∧ f 6 = tabAV (tabOf n (langP r.lang w)))) ?_ ?_
    · skip
      refine w_seq ?_
      have hin : i = n := by omega
      rw [hin] at hmsl
      refine w_region ?_
      refine l_cons rfl (p_fap fa_29_0 ?_)
      refine l_cons rfl (p_loadp ty_3 ?_)
      refine l_nil ?_
      refine k_seq_normal ?_
      refine w_block ?_
      refine w_seq ?_
      refine w_region ?_
      refine l_cons rfl (p_cmp ?_)
      refine l_cons rfl (p_assign ?_)
      refine l_nil ?_
      refine k_seq_normal ?_
      refine w_b (fun h2 => ?_) (fun h2 => ?_)
      · skip
        have h2' := h2; (try simp only [bb] at h2')
        refine w_seq ?_
        refine w_region ?_
        refine l_cons rfl (p_assign ?_)
        refine l_nil ?_
        refine k_seq_normal ?_
        refine w_block ?_
        refine w_loop (fun m f es2 => ∃ i, m = n - i ∧ i ≤ n ∧ TP es2 (.row s2 29 6 [[.int .i64 r.kind, .int .u64 r.set.w0, .int .u64 r.set.w1, .int .u64 r.set.w2, .int .u64 r.set.w3, .list 6 (r.args.map Rx.cells)]] :: es).length (es.length + 1) s21 ms n (dg i) ∧ KB (.row s2 29 6 [[.int .i64 r.kind, .int .u64 r.set.w0, .int .u64 r.set.w1, .int .u64 r.set.w2, .int .u64 r.set.w3, .list 6 (r.args.map Rx.cells)]] :: es) es2 ∧ Knows f [(1, .list 1 (w.map fun n => [.int .u8 n])), (2, .ptr es.length s2 0 0), (5, .int .i64 (n : Int)), (6, .own (es.length + 1) s21), (8, .int .i64 (i : Int))]) (n) (⟨0, rfl, Nat.zero_le _, tp_congr htp (fun a b _ _ => by unfold dg; simp), kb, kn⟩) ?_
        rintro m f es2 ⟨i, rfl, hi1, htp, kb, hk⟩
        have hT := htp.t
        have hlo := htp.lo
        have hbox := (kb.1 es.length (by simp)).trans (at_hit _ _)
        refine w_pins _ (Sub.refl _) (hk) ?_
        simp only [pins]
        refine w_seq ?_
        refine w_seq ?_
        refine w_region ?_
        refine l_cons rfl (p_move ?_)
        refine l_cons rfl (p_move ?_)
        refine l_cons rfl (p_cmp ?_)
        refine l_nil ?_
        refine k_seq_normal ?_
        refine w_b (fun h3 => ?_) (fun h3 => ?_)
        · skip
          have h3' := h3; (try simp only [bb] at h3')
          refine w_skip ?_
          refine k_seq_normal ?_
          refine w_seq ?_
          refine w_block ?_
          have hR2 := htp.r i (by omega)
          refine w_region ?_
          refine l_cons rfl (p_move ?_)
          refine l_cons rfl (p_move ?_)
          refine l_cons rfl (p_ixo sl_100 (a := .ptr (es.length + 1) s21 i 0) ?_ (h0 := by omega) (h1 := by rw [tRows_len (by omega)]; omega))
          refine l_cons rfl (p_loadp ty_60 (a := .own (ms[i]'(by omega)).1 (ms[i]'(by omega)).2) ?_ (hr := tRows_at (by omega)) (hl := Nat.le_refl 1) (ha := rfl))
          refine l_cons rfl (p_move ?_)
          refine l_cons rfl (p_ixo sl_60 (a := .ptr (ms[i]'(by omega)).1 (ms[i]'(by omega)).2 i 0) ?_ (h0 := by omega) (h1 := by rw [boolRow_len]; omega))
          refine l_cons rfl (p_store ty_4 (rows' := (boolRow n (dg i i)).set i [.bool (true)]) (r' := [.bool (true)]) ?_ (hr := boolRow_at _ (by omega)) (hl := Nat.le_refl 1) (hr' := by first | rfl | (simp only [List.take_zero, List.nil_append, List.drop_succ_cons, List.drop_zero, List.append_nil, List.drop_nil] <;> simp [*])) (hrs := rfl))
          refine l_nil ?_
          refine k_blk_normal ?_
          refine k_seq_normal ?_
          refine w_region ?_
          refine l_cons rfl (p_move ?_)
          refine l_cons rfl (p_arith ?_)
          refine l_cons rfl (p_assign ?_)
          refine l_nil ?_
          refine k_seq_normal ?_
          exact ⟨n - (i + 1), by omega, i + 1, rfl, by omega, tp_congr (tp_set htp (i := i) (j := i) (by omega) (by omega) (true)) (fun a b _ _ => dg_step), kb.put (hlo _ (tp_mem (i := i) (by omega))) _, kn⟩
        · skip
          have h3' := h3; (try simp only [bb] at h3')
          refine w_exit ?_
          refine k_seq_exit ?_
          refine k_seq_exit ?_
          refine k_blk_here ?_
          refine k_blk_normal ?_
          refine k_seq_normal ?_
          first
          | (have hin2 : i = n := by omega
             rw [hin2] at htp
             exact .inl ⟨ms, hmsl, tp_congr htp (fun a b ha hb => dg_done (kind_2 (by omega)) hn (by omega) hb), kb, by first | rfl | (simp only [put, upd_apply, Nat.reduceEqDiff, ↓reduceIte])⟩)
          | exact .inl ⟨ms, hmsl, tp_congr htp (fun a b ha hb => by rw [show i = w.length by omega]; exact sg_done (kind_3 (by omega)) hn (by omega) hb), kb, by first | rfl | (simp only [put, upd_apply, Nat.reduceEqDiff, ↓reduceIte])⟩
          | (obtain rfl : k = r.args.length := by omega
             rw [List.take_length] at htp
             exact .inl ⟨ms, hmsl, tp_congr htp (fun a b ha hb => langP_congr (kind_5 (by omega)) w a b), kb, by first | rfl | (simp only [put, upd_apply, Nat.reduceEqDiff, ↓reduceIte])⟩)
          | (obtain rfl : k = r.args.length := by omega
             refine .inr ⟨KB.refl _, ?_⟩
             rw [tabOf_congr (fun a b _ _ => langP_congr (kind_4 (r := r) (by omega)) w a b)]
             simp only [List.take_length, put, upd_apply, Nat.reduceEqDiff, ↓reduceIte])
          | (have hin2 : i = n := by omega
             rw [hin2] at htp
             exact .inl ⟨ms, hmsl, tp_congr htp (fun a b ha hb => star_rows (kind_6 (by omega)) (by omega)), kb, by first | rfl | (simp only [put, upd_apply, Nat.reduceEqDiff, ↓reduceIte])⟩)
          | exact .inl ⟨ms, hmsl, tp_congr htp (fun a b ha hb => none_done (kind_0 (by omega))), kb, by first | rfl | (simp only [put, upd_apply, Nat.reduceEqDiff, ↓reduceIte])⟩
      · skip
        have h2' := h2; (try simp only [bb] at h2')
        refine w_seq ?_
        refine w_region ?_
        refine l_cons rfl (p_cmp ?_)
        refine l_cons rfl (p_assign ?_)
        refine l_nil ?_
        refine k_seq_normal ?_
        refine w_b (fun h4 => ?_) (fun h4 => ?_)
        · skip
          have h4' := h4; (try simp only [bb] at h4')
          refine w_seq ?_
          refine w_region ?_
          refine l_cons rfl (p_assign ?_)
          refine l_nil ?_
          refine k_seq_normal ?_
          refine w_block ?_
          refine w_loop (fun m f es2 => ∃ i, m = n - i ∧ i + 1 ≤ n ∧ TP es2 (.row s2 29 6 [[.int .i64 r.kind, .int .u64 r.set.w0, .int .u64 r.set.w1, .int .u64 r.set.w2, .int .u64 r.set.w3, .list 6 (r.args.map Rx.cells)]] :: es).length (es.length + 1) s21 ms n (sg r.set w i) ∧ KB (.row s2 29 6 [[.int .i64 r.kind, .int .u64 r.set.w0, .int .u64 r.set.w1, .int .u64 r.set.w2, .int .u64 r.set.w3, .list 6 (r.args.map Rx.cells)]] :: es) es2 ∧ Knows f [(1, .list 1 (w.map fun n => [.int .u8 n])), (2, .ptr es.length s2 0 0), (5, .int .i64 (n : Int)), (6, .own (es.length + 1) s21), (9, .int .i64 (i : Int))]) (n) (⟨0, rfl, by omega, tp_congr htp (fun a b _ _ => by unfold sg; simp), kb, kn⟩) ?_
          rintro m f es2 ⟨i, rfl, hi1, htp, kb, hk⟩
          have hT := htp.t
          have hlo := htp.lo
          have hbox := (kb.1 es.length (by simp)).trans (at_hit _ _)
          have hR := htp.r i (by omega)
          refine w_pins _ (Sub.refl _) (hk) ?_
          simp only [pins]
          refine w_seq ?_
          refine w_seq ?_
          refine w_region ?_
          refine l_cons rfl (p_move ?_)
          refine l_cons rfl (p_arith ?_)
          refine l_cons rfl (p_move ?_)
          refine l_cons rfl (p_cmp ?_)
          refine l_nil ?_
          refine k_seq_normal ?_
          refine w_b (fun h5 => ?_) (fun h5 => ?_)
          · skip
            have h5' := h5; (try simp only [bb] at h5')
            refine w_skip ?_
            refine k_seq_normal ?_
            refine w_seq ?_
            refine w_block ?_
            refine w_drawn 13 [] (fun e => at_ e (es.length + 1) = some (.row s21 60 1 (tRows ms n)) ∧ at_ e (ms[i]'(by omega)).1 = some (.row (ms[i]'(by omega)).2 4 1 (boolRow n (sg r.set w i i))) ∧ at_ e es.length = some (.row s2 29 6 [[.int .i64 r.kind, .int .u64 r.set.w0, .int .u64 r.set.w1, .int .u64 r.set.w2, .int .u64 r.set.w3, .list 6 (r.args.map Rx.cells)]])) mixed (by kernel_rfl) ⟨hT, hR, hbox⟩ ?_
            refine q1 6 (hg := rfl) (hu := rfl) (h := by rintro f _ ⟨hG1, hG2, hG3⟩; exact p_move ⟨rfl, rfl⟩) (k := ?_)
            refine q1 9 (hg := rfl) (hu := rfl) (h := by rintro f _ ⟨hG1, hG2, hG3⟩; exact p_move ⟨rfl, rfl⟩) (k := ?_)
            refine q2 55 56 (hg := rfl) (hu := rfl) (h := by rintro f _ ⟨hG1, hG2, hG3⟩; exact p_ixo sl_100 (a := .ptr (es.length + 1) s21 i 0) ⟨rfl, rfl⟩ (h0 := by omega) (h1 := by rw [tRows_len (by omega)]; omega)) (k := ?_)
            refine q1 57 (hg := rfl) (hu := rfl) (h := by rintro f _ ⟨hG1, hG2, hG3⟩; exact p_loadp ty_60 (a := .own (ms[i]'(by omega)).1 (ms[i]'(by omega)).2) ⟨rfl, rfl⟩ (hr := tRows_at (by omega)) (hl := Nat.le_refl 1) (ha := rfl)) (k := ?_)
            refine q1 9 (hg := rfl) (hu := rfl) (h := by rintro f _ ⟨hG1, hG2, hG3⟩; exact p_move ⟨rfl, rfl⟩) (k := ?_)
            refine q1 59 (hg := rfl) (hu := rfl) (h := by rintro f _ ⟨hG1, hG2, hG3⟩; exact p_arith ⟨rfl, rfl⟩) (k := ?_)
            refine q1 2 (hg := rfl) (hu := rfl) (h := by rintro f _ ⟨hG1, hG2, hG3⟩; exact p_fap fa_29_1 ⟨rfl, rfl⟩) (k := ?_)
            refine q1 61 (hg := rfl) (hu := rfl) (h := by rintro f _ ⟨hG1, hG2, hG3⟩; exact p_loadp ty_26 (a := .agg r.set.row) ⟨rfl, rfl⟩ (hl := Nat.le_of_ble_eq_true rfl) (ha := rfl)) (k := ?_)
            refine q1 1 (hg := rfl) (hu := rfl) (h := by rintro f _ ⟨hG1, hG2, hG3⟩; exact p_move ⟨rfl, rfl⟩) (k := ?_)
            refine q1 9 (hg := rfl) (hu := rfl) (h := by rintro f _ ⟨hG1, hG2, hG3⟩; exact p_move ⟨rfl, rfl⟩) (k := ?_)
            refine q2 63 64 (hg := rfl) (hu := rfl) (h := by rintro f _ ⟨hG1, hG2, hG3⟩; exact p_ixl sl_22 (a := .fptr 1 (w.map fun n => [.int .u8 n]) i 0) ⟨rfl, rfl⟩ (h0 := by omega) (h1 := by simp only [List.length_map]; omega)) (k := ?_)
            refine q1 65 (hg := rfl) (hu := rfl) (h := by rintro f _ ⟨hG1, hG2, hG3⟩; exact p_loadf ty_5 (a := .int .u8 (w[i]'(by omega))) ⟨rfl, rfl⟩ (hr := row_u8 (by omega)) (hl := Nat.le_refl 1) (ha := rfl)) (k := ?_)
            refine q2 62 66 (hg := rfl) (hu := rfl) (h := by rintro f _ ⟨hG1, hG2, hG3⟩; exact p_callr en_55 (ref1Has r.set.w0 r.set.w1 r.set.w2 r.set.w3 (w[i]'(by omega)) (hw _ (List.getElem_mem _)).1 (hw _ (List.getElem_mem _)).2 ho.set.1 ho.set.2.1 ho.set.2.2.1 ho.set.2.2.2.1) ⟨rfl, rfl⟩) (k := ?_)
            refine q_end ?_
            refine m_end ?_
            refine l_cons rfl (p_ixo sl_60 (a := .ptr (ms[i]'(by omega)).1 (ms[i]'(by omega)).2 (i + 1) 0) ?_ (h0 := by omega) (h1 := by rw [boolRow_len]; omega))
            refine l_cons rfl (p_store ty_4 (rows' := (boolRow n (sg r.set w i i)).set (i + 1) [.bool (r.set.hasI (w[i]'(by omega)))]) (r' := [.bool (r.set.hasI (w[i]'(by omega)))]) ?_ (hr := boolRow_at _ (by omega)) (hl := Nat.le_refl 1) (hr' := by first | rfl | (simp only [List.take_zero, List.nil_append, List.drop_succ_cons, List.drop_zero, List.append_nil, List.drop_nil] <;> simp [*])) (hrs := rfl))
            refine l_nil ?_
            refine k_blk_normal ?_
            refine k_seq_normal ?_
            refine w_region ?_
            refine l_cons rfl (p_move ?_)
            refine l_cons rfl (p_arith ?_)
            refine l_cons rfl (p_assign ?_)
            refine l_nil ?_
            refine k_seq_normal ?_
            exact ⟨n - (i + 1), by omega, i + 1, rfl, by omega, tp_congr (tp_set htp (i := i) (j := (i + 1)) (by omega) (by omega) (r.set.hasI (w[i]'(by omega)))) (fun a b _ _ => sg_step (by omega)), kb.put (hlo _ (tp_mem (i := i) (by omega))) _, kn⟩
          · skip
            have h5' := h5; (try simp only [bb] at h5')
            refine w_exit ?_
            refine k_seq_exit ?_
            refine k_seq_exit ?_
            refine k_blk_here ?_
            refine k_blk_normal ?_
            refine k_seq_normal ?_
            first
            | (have hin2 : i = n := by omega
               rw [hin2] at htp
               exact .inl ⟨ms, hmsl, tp_congr htp (fun a b ha hb => dg_done (kind_2 (by omega)) hn (by omega) hb), kb, by first | rfl | (simp only [put, upd_apply, Nat.reduceEqDiff, ↓reduceIte])⟩)
            | exact .inl ⟨ms, hmsl, tp_congr htp (fun a b ha hb => by rw [show i = w.length by omega]; exact sg_done (kind_3 (by omega)) hn (by omega) hb), kb, by first | rfl | (simp only [put, upd_apply, Nat.reduceEqDiff, ↓reduceIte])⟩
            | (obtain rfl : k = r.args.length := by omega
               rw [List.take_length] at htp
               exact .inl ⟨ms, hmsl, tp_congr htp (fun a b ha hb => langP_congr (kind_5 (by omega)) w a b), kb, by first | rfl | (simp only [put, upd_apply, Nat.reduceEqDiff, ↓reduceIte])⟩)
            | (obtain rfl : k = r.args.length := by omega
               refine .inr ⟨KB.refl _, ?_⟩
               rw [tabOf_congr (fun a b _ _ => langP_congr (kind_4 (r := r) (by omega)) w a b)]
               simp only [List.take_length, put, upd_apply, Nat.reduceEqDiff, ↓reduceIte])
            | (have hin2 : i = n := by omega
               rw [hin2] at htp
               exact .inl ⟨ms, hmsl, tp_congr htp (fun a b ha hb => star_rows (kind_6 (by omega)) (by omega)), kb, by first | rfl | (simp only [put, upd_apply, Nat.reduceEqDiff, ↓reduceIte])⟩)
            | exact .inl ⟨ms, hmsl, tp_congr htp (fun a b ha hb => none_done (kind_0 (by omega))), kb, by first | rfl | (simp only [put, upd_apply, Nat.reduceEqDiff, ↓reduceIte])⟩
        · skip
          have h4' := h4; (try simp only [bb] at h4')
          refine w_seq ?_
          refine w_region ?_
          refine l_cons rfl (p_cmp ?_)
          refine l_cons rfl (p_assign ?_)
          refine l_nil ?_
          refine k_seq_normal ?_
          refine w_b (fun h6 => ?_) (fun h6 => ?_)
          · skip
            have h6' := h6; (try simp only [bb] at h6')
            refine w_seq ?_
            refine w_region ?_
            refine l_cons rfl (p_assign ?_)
            refine l_nil ?_
            refine k_seq_normal ?_
            refine w_block ?_
            refine w_loop (fun m f es2 => ∃ k, m = r.args.length - k ∧ k ≤ r.args.length ∧ TP es2 (.row s2 29 6 [[.int .i64 r.kind, .int .u64 r.set.w0, .int .u64 r.set.w1, .int .u64 r.set.w2, .int .u64 r.set.w3, .list 6 (r.args.map Rx.cells)]] :: es).length (es.length + 1) s21 ms n (langP (Rx.langAlt (r.args.take k)) w) ∧ KB (.row s2 29 6 [[.int .i64 r.kind, .int .u64 r.set.w0, .int .u64 r.set.w1, .int .u64 r.set.w2, .int .u64 r.set.w3, .list 6 (r.args.map Rx.cells)]] :: es) es2 ∧ Knows f [(1, .list 1 (w.map fun n => [.int .u8 n])), (2, .ptr es.length s2 0 0), (5, .int .i64 (n : Int)), (6, .own (es.length + 1) s21), (10, .int .i64 (k : Int))]) (r.args.length) (⟨0, rfl, Nat.zero_le _, tp_congr htp (fun a b _ _ => alt_none w r.args), kb, kn⟩) ?_
            rintro m f es2 ⟨k, rfl, hk1, htp, kb, hk⟩
            have hT := htp.t
            have hlo := htp.lo
            have hbox := (kb.1 es.length (by simp)).trans (at_hit _ _)
            refine w_pins _ (Sub.refl _) (hk) ?_
            simp only [pins]
            refine w_seq ?_
            refine w_seq ?_
            refine w_region ?_
            refine l_cons rfl (p_move ?_)
            refine l_cons rfl (p_fap fa_29_2 ?_)
            refine l_cons rfl (p_loadp ty_27 ?_)
            refine l_len 73 fun hl2 => ?_
            simp only [List.length_map, most] at hl2
            first | refine l_cons rfl (p_lenl sl_27 ?_) | refine l_cons rfl (p_leno sl_27 ?_) | refine l_cons rfl (p_lenn sl_27 ?_)
            refine l_cons rfl (p_cmp ?_)
            refine l_nil ?_
            refine k_seq_normal ?_
            refine w_b (fun h7 => ?_) (fun h7 => ?_)
            · skip
              have h7' := h7; (try simp only [bb] at h7')
              refine w_skip ?_
              refine k_seq_normal ?_
              refine w_seq ?_
              refine w_block ?_
              refine w_region ?_
              refine l_cons rfl (p_move ?_)
              refine l_cons rfl (p_fap fa_29_2 ?_)
              refine l_cons rfl (p_loadp ty_27 ?_)
              refine l_cons rfl (p_move ?_)
              refine l_cons rfl (p_ixl sl_27 (a := .fptr 6 (r.args.map Rx.cells) k 0) ?_ (h0 := by omega) (h1 := by simp only [List.length_map]; omega))
              refine l_cons rfl (p_loadf ty_29 (a := .agg (r.args[k]'(by omega)).cells) ?_ (hr := rxrow_at (l := r.args) (k := k) (by omega)) (hl := Nat.le_refl 6) (ha := rfl))
              refine l_cons rfl (p_move ?_)
              refine l_cons rfl (p_callr en_81 (ih (B - 1) (by omega) (r.args[k]'(by omega)) _ w (by have := r.nodes_arg (k := k) (by omega); omega) (ho.arg (by omega)) hw hwl) ?_)
              rw [show spansT (r.args[k]'(by omega)) w = tabOf n (langP (r.args[k]'(by omega)).lang w) by rw [hn]; rfl]
              refine l_cons rfl (p_call en_118 ((join_walk (langP (r.args[k]'(by omega)).lang w) htp hmsl kb (by omega)).mono fun v es3 hv => ?_))
              obtain ⟨rfl, htp3, kb3⟩ := hv
              refine l_nil ?_
              refine k_blk_normal ?_
              refine k_seq_normal ?_
              refine w_region ?_
              refine l_cons rfl (p_move ?_)
              refine l_cons rfl (p_arith ?_)
              refine l_cons rfl (p_assign ?_)
              refine l_nil ?_
              refine k_seq_normal ?_
              exact ⟨r.args.length - (k + 1), by omega, k + 1, rfl, by omega, tp_congr htp3 (fun a b _ _ => alt_step (by omega) w a b), kb3, kn⟩
            · skip
              have h7' := h7; (try simp only [bb] at h7')
              refine w_exit ?_
              refine k_seq_exit ?_
              refine k_seq_exit ?_
              refine k_blk_here ?_
              refine k_blk_normal ?_
              refine k_seq_normal ?_
              first
              | (have hin2 : i = n := by omega
                 rw [hin2] at htp
                 exact .inl ⟨ms, hmsl, tp_congr htp (fun a b ha hb => dg_done (kind_2 (by omega)) hn (by omega) hb), kb, by first | rfl | (simp only [put, upd_apply, Nat.reduceEqDiff, ↓reduceIte])⟩)
              | exact .inl ⟨ms, hmsl, tp_congr htp (fun a b ha hb => by rw [show i = w.length by omega]; exact sg_done (kind_3 (by omega)) hn (by omega) hb), kb, by first | rfl | (simp only [put, upd_apply, Nat.reduceEqDiff, ↓reduceIte])⟩
              | (obtain rfl : k = r.args.length := by omega
                 rw [List.take_length] at htp
                 exact .inl ⟨ms, hmsl, tp_congr htp (fun a b ha hb => langP_congr (kind_5 (by omega)) w a b), kb, by first | rfl | (simp only [put, upd_apply, Nat.reduceEqDiff, ↓reduceIte])⟩)
              | (obtain rfl : k = r.args.length := by omega
                 refine .inr ⟨KB.refl _, ?_⟩
                 rw [tabOf_congr (fun a b _ _ => langP_congr (kind_4 (r := r) (by omega)) w a b)]
                 simp only [List.take_length, put, upd_apply, Nat.reduceEqDiff, ↓reduceIte])
              | (have hin2 : i = n := by omega
                 rw [hin2] at htp
                 exact .inl ⟨ms, hmsl, tp_congr htp (fun a b ha hb => star_rows (kind_6 (by omega)) (by omega)), kb, by first | rfl | (simp only [put, upd_apply, Nat.reduceEqDiff, ↓reduceIte])⟩)
              | exact .inl ⟨ms, hmsl, tp_congr htp (fun a b ha hb => none_done (kind_0 (by omega))), kb, by first | rfl | (simp only [put, upd_apply, Nat.reduceEqDiff, ↓reduceIte])⟩
          · skip
            have h6' := h6; (try simp only [bb] at h6')
            refine w_seq ?_
            refine w_region ?_
            refine l_cons rfl (p_cmp ?_)
            refine l_cons rfl (p_assign ?_)
            refine l_nil ?_
            refine k_seq_normal ?_
            refine w_b (fun h8 => ?_) (fun h8 => ?_)
            · skip
              have h8' := h8; (try simp only [bb] at h8')
              refine w_seq ?_
              refine w_seq ?_
              refine w_region ?_
              refine l_cons rfl (p_assign ?_)
              refine l_nil ?_
              refine k_seq_normal ?_
              refine w_block ?_
              refine w_loop (fun m f es2 => ∃ i, m = n - i ∧ i ≤ n ∧ TP es2 (.row s2 29 6 [[.int .i64 r.kind, .int .u64 r.set.w0, .int .u64 r.set.w1, .int .u64 r.set.w2, .int .u64 r.set.w3, .list 6 (r.args.map Rx.cells)]] :: es).length (es.length + 1) s21 ms n (dg i) ∧ KB (.row s2 29 6 [[.int .i64 r.kind, .int .u64 r.set.w0, .int .u64 r.set.w1, .int .u64 r.set.w2, .int .u64 r.set.w3, .list 6 (r.args.map Rx.cells)]] :: es) es2 ∧ Knows f [(1, .list 1 (w.map fun n => [.int .u8 n])), (2, .ptr es.length s2 0 0), (5, .int .i64 (n : Int)), (6, .own (es.length + 1) s21), (11, .int .i64 (i : Int))]) (n) (⟨0, rfl, Nat.zero_le _, tp_congr htp (fun a b _ _ => by unfold dg; simp), kb, kn⟩) ?_
              rintro m f es2 ⟨i, rfl, hi1, htp, kb, hk⟩
              have hT := htp.t
              have hlo := htp.lo
              have hbox := (kb.1 es.length (by simp)).trans (at_hit _ _)
              refine w_pins _ (Sub.refl _) (hk) ?_
              simp only [pins]
              refine w_seq ?_
              refine w_seq ?_
              refine w_region ?_
              refine l_cons rfl (p_move ?_)
              refine l_cons rfl (p_move ?_)
              refine l_cons rfl (p_cmp ?_)
              refine l_nil ?_
              refine k_seq_normal ?_
              refine w_b (fun h9 => ?_) (fun h9 => ?_)
              · skip
                have h9' := h9; (try simp only [bb] at h9')
                refine w_skip ?_
                refine k_seq_normal ?_
                refine w_seq ?_
                refine w_block ?_
                have hR2 := htp.r i (by omega)
                refine w_region ?_
                refine l_cons rfl (p_move ?_)
                refine l_cons rfl (p_move ?_)
                refine l_cons rfl (p_ixo sl_100 (a := .ptr (es.length + 1) s21 i 0) ?_ (h0 := by omega) (h1 := by rw [tRows_len (by omega)]; omega))
                refine l_cons rfl (p_loadp ty_60 (a := .own (ms[i]'(by omega)).1 (ms[i]'(by omega)).2) ?_ (hr := tRows_at (by omega)) (hl := Nat.le_refl 1) (ha := rfl))
                refine l_cons rfl (p_move ?_)
                refine l_cons rfl (p_ixo sl_60 (a := .ptr (ms[i]'(by omega)).1 (ms[i]'(by omega)).2 i 0) ?_ (h0 := by omega) (h1 := by rw [boolRow_len]; omega))
                refine l_cons rfl (p_store ty_4 (rows' := (boolRow n (dg i i)).set i [.bool (true)]) (r' := [.bool (true)]) ?_ (hr := boolRow_at _ (by omega)) (hl := Nat.le_refl 1) (hr' := by first | rfl | (simp only [List.take_zero, List.nil_append, List.drop_succ_cons, List.drop_zero, List.append_nil, List.drop_nil] <;> simp [*])) (hrs := rfl))
                refine l_nil ?_
                refine k_blk_normal ?_
                refine k_seq_normal ?_
                refine w_region ?_
                refine l_cons rfl (p_move ?_)
                refine l_cons rfl (p_arith ?_)
                refine l_cons rfl (p_assign ?_)
                refine l_nil ?_
                refine k_seq_normal ?_
                exact ⟨n - (i + 1), by omega, i + 1, rfl, by omega, tp_congr (tp_set htp (i := i) (j := i) (by omega) (by omega) (true)) (fun a b _ _ => dg_step), kb.put (hlo _ (tp_mem (i := i) (by omega))) _, kn⟩
              · skip
                have h9' := h9; (try simp only [bb] at h9')
                refine w_exit ?_
                refine k_seq_exit ?_
                refine k_seq_exit ?_
                refine k_blk_here ?_
                refine k_seq_normal ?_
                refine w_seq ?_
                have hin2 : i = n := by omega
                rw [hin2] at htp
                refine w_freezeT 6 htp hmsl kb ?_
                refine w_region ?_
                refine l_cons rfl (p_assign ?_)
                refine l_nil ?_
                refine k_seq_normal ?_
                refine w_block ?_
                refine w_loop (fun m f es2 => ∃ k, m = r.args.length - k ∧ k ≤ r.args.length ∧ es2 = (.row s2 29 6 [[.int .i64 r.kind, .int .u64 r.set.w0, .int .u64 r.set.w1, .int .u64 r.set.w2, .int .u64 r.set.w3, .list 6 (r.args.map Rx.cells)]] :: es) ∧ Knows f [(1, .list 1 (w.map fun n => [.int .u8 n])), (2, .ptr es.length s2 0 0), (6, tabAV (tabOf n (langP (Rx.langCat (r.args.take k)) w))), (12, .int .i64 (k : Int))]) (r.args.length) (⟨0, rfl, Nat.zero_le _, rfl, by rw [tabOf_congr (fun a b ha hb => (dg_done (L := Rx.langCat (r.args.take 0)) (fun x => by rw [List.take_zero]; exact langCat_nil x) hn ha hb).symm)]; exact kn⟩) ?_
                rintro m f es2 ⟨k, rfl, hk1, rfl, hk⟩
                refine w_pins _ (Sub.refl _) (hk) ?_
                simp only [pins]
                refine w_seq ?_
                refine w_seq ?_
                refine w_region ?_
                refine l_cons rfl (p_move ?_)
                refine l_cons rfl (p_fap fa_29_2 ?_)
                refine l_cons rfl (p_loadp ty_27 ?_)
                refine l_len 102 fun hl2 => ?_
                simp only [List.length_map, most] at hl2
                first | refine l_cons rfl (p_lenl sl_27 ?_) | refine l_cons rfl (p_leno sl_27 ?_) | refine l_cons rfl (p_lenn sl_27 ?_)
                refine l_cons rfl (p_cmp ?_)
                refine l_nil ?_
                refine k_seq_normal ?_
                refine w_b (fun h10 => ?_) (fun h10 => ?_)
                · skip
                  have h10' := h10; (try simp only [bb] at h10')
                  refine w_skip ?_
                  refine k_seq_normal ?_
                  refine w_seq ?_
                  refine w_block ?_
                  refine w_region ?_
                  refine l_cons rfl (p_move ?_)
                  refine l_cons rfl (p_fap fa_29_2 ?_)
                  refine l_cons rfl (p_loadp ty_27 ?_)
                  refine l_cons rfl (p_move ?_)
                  refine l_cons rfl (p_ixl sl_27 (a := .fptr 6 (r.args.map Rx.cells) k 0) ?_ (h0 := by omega) (h1 := by simp only [List.length_map]; omega))
                  refine l_cons rfl (p_loadf ty_29 (a := .agg (r.args[k]'(by omega)).cells) ?_ (hr := rxrow_at (l := r.args) (k := k) (by omega)) (hl := Nat.le_refl 6) (ha := rfl))
                  refine l_cons rfl (p_move ?_)
                  refine l_cons rfl (p_callr en_81 (ih (B - 1) (by omega) (r.args[k]'(by omega)) _ w (by have := r.nodes_arg (k := k) (by omega); omega) (ho.arg (by omega)) hw hwl) ?_)
                  rw [show spansT (r.args[k]'(by omega)) w = tabOf n (langP (r.args[k]'(by omega)).lang w) by rw [hn]; rfl]
                  refine l_cons rfl (p_callr en_119 (behind_walk (n := n) (langP (Rx.langCat (r.args.take k)) w) (langP (r.args[k]'(by omega)).lang w) (by omega)) ?_)
                  refine l_cons rfl (p_assign ?_)
                  refine l_nil ?_
                  refine k_blk_normal ?_
                  refine k_seq_normal ?_
                  refine w_region ?_
                  refine l_cons rfl (p_move ?_)
                  refine l_cons rfl (p_arith ?_)
                  refine l_cons rfl (p_assign ?_)
                  refine l_nil ?_
                  refine k_seq_normal ?_
                  exact ⟨r.args.length - (k + 1), by omega, k + 1, rfl, by omega, rfl, by rw [tabOf_congr (p := langP (Rx.langCat (r.args.take (k + 1))) w) (q := behindP (langP (Rx.langCat (r.args.take k)) w) (langP (r.args[k]'(by omega)).lang w)) (fun a b ha hb => (cat_step (l := r.args) (k := k) (by omega) hn hb).symm)]; exact kn⟩
                · skip
                  have h10' := h10; (try simp only [bb] at h10')
                  refine w_exit ?_
                  refine k_seq_exit ?_
                  refine k_seq_exit ?_
                  refine k_blk_here ?_
                  refine k_blk_normal ?_
                  refine k_seq_normal ?_
                  first
                  | (have hin2 : i = n := by omega
                     rw [hin2] at htp
                     exact .inl ⟨ms, hmsl, tp_congr htp (fun a b ha hb => dg_done (kind_2 (by omega)) hn (by omega) hb), kb, by first | rfl | (simp only [put, upd_apply, Nat.reduceEqDiff, ↓reduceIte])⟩)
                  | exact .inl ⟨ms, hmsl, tp_congr htp (fun a b ha hb => by rw [show i = w.length by omega]; exact sg_done (kind_3 (by omega)) hn (by omega) hb), kb, by first | rfl | (simp only [put, upd_apply, Nat.reduceEqDiff, ↓reduceIte])⟩
                  | (obtain rfl : k = r.args.length := by omega
                     rw [List.take_length] at htp
                     exact .inl ⟨ms, hmsl, tp_congr htp (fun a b ha hb => langP_congr (kind_5 (by omega)) w a b), kb, by first | rfl | (simp only [put, upd_apply, Nat.reduceEqDiff, ↓reduceIte])⟩)
                  | (obtain rfl : k = r.args.length := by omega
                     refine .inr ⟨KB.refl _, ?_⟩
                     rw [tabOf_congr (fun a b _ _ => langP_congr (kind_4 (r := r) (by omega)) w a b)]
                     simp only [List.take_length, put, upd_apply, Nat.reduceEqDiff, ↓reduceIte])
                  | (have hin2 : i = n := by omega
                     rw [hin2] at htp
                     exact .inl ⟨ms, hmsl, tp_congr htp (fun a b ha hb => star_rows (kind_6 (by omega)) (by omega)), kb, by first | rfl | (simp only [put, upd_apply, Nat.reduceEqDiff, ↓reduceIte])⟩)
                  | exact .inl ⟨ms, hmsl, tp_congr htp (fun a b ha hb => none_done (kind_0 (by omega))), kb, by first | rfl | (simp only [put, upd_apply, Nat.reduceEqDiff, ↓reduceIte])⟩
            · skip
              have h8' := h8; (try simp only [bb] at h8')
              refine w_seq ?_
              refine w_region ?_
              refine l_cons rfl (p_cmp ?_)
              refine l_cons rfl (p_assign ?_)
              refine l_nil ?_
              refine k_seq_normal ?_
              refine w_b (fun h11 => ?_) (fun h11 => ?_)
              · skip
                have h11' := h11; (try simp only [bb] at h11')
                refine w_seq ?_
                refine w_region ?_
                refine l_cons rfl (p_move ?_)
                refine l_cons rfl (p_makeSlice sl_100 by_60 ze_60  fun s119 => ?_)
                refine l_cons rfl (p_assign ?_)
                refine l_nil ?_
                refine k_seq_normal ?_
                refine w_cut (fun f es3 => TP es3 (.row s2 29 6 [[.int .i64 r.kind, .int .u64 r.set.w0, .int .u64 r.set.w1, .int .u64 r.set.w2, .int .u64 r.set.w3, .list 6 (r.args.map Rx.cells)]] :: es).length (es.length + 1) s21 ms n (fun _ _ => false) ∧ KB (.row s2 29 6 [[.int .i64 r.kind, .int .u64 r.set.w0, .int .u64 r.set.w1, .int .u64 r.set.w2, .int .u64 r.set.w3, .list 6 (r.args.map Rx.cells)]] :: es) es3 ∧ Knows f [(1, .list 1 (w.map fun n => [.int .u8 n])), (2, .ptr es.length s2 0 0), (5, .int .i64 (n : Int)), (6, .own (es.length + 1) s21), (13, .list 1 ((tabO (decide (r.args.length = 1)) (Rx.langOne r.args) w n).map fun r => [AV.list 1 (bools r)]))]) ?_ ?_
                · skip
                  refine w_seq ?_
                  refine w_region ?_
                  refine l_cons rfl (p_fap fa_29_2 ?_)
                  refine l_cons rfl (p_loadp ty_27 ?_)
                  first | refine l_cons rfl (p_lenl sl_27 ?_) | refine l_cons rfl (p_leno sl_27 ?_) | refine l_cons rfl (p_lenn sl_27 ?_)
                  refine l_cons rfl (p_cmp ?_)
                  refine l_nil ?_
                  refine k_seq_normal ?_
                  refine w_b (fun h12 => ?_) (fun h12 => ?_)
                  · skip
                    have h12' := h12; (try simp only [bb] at h12')
                    have hone1 : r.args.length = 1 := by omega
                    refine w_region ?_
                    refine l_cons rfl (p_fap fa_29_2 ?_)
                    refine l_cons rfl (p_loadp ty_27 ?_)
                    refine l_cons rfl (p_ixl sl_27 (a := .fptr 6 (r.args.map Rx.cells) 0 0) ?_ (h0 := by omega) (h1 := by simp only [List.length_map]; omega))
                    refine l_cons rfl (p_loadf ty_29 (a := .agg (r.args[0]'(by omega)).cells) ?_ (hr := rxrow_at (l := r.args) (k := 0) (by omega)) (hl := Nat.le_refl 6) (ha := rfl))
                    refine l_cons rfl (p_move ?_)
                    refine l_cons rfl (p_callr en_81 (ih (B - 1) (by omega) (r.args[0]'(by omega)) _ w (by have := r.nodes_arg (k := 0) (by omega); omega) (ho.arg (by omega)) hw hwl) ?_)
                    refine l_cons rfl (p_assign ?_)
                    refine l_nil ?_
                    refine k_seq_normal ?_
                    first
                    | (have h1x : r.args.length = 1 := by omega
                       refine ⟨htp.push _, kb.push _, ?_⟩
                       rw [show decide (r.args.length = 1) = true by simp [h1x], tabO_yes, ← tabOf_congr (fun a b _ _ => langP_congr (one_arg h1x) w a b), hn]
                       exact kn)
                    | (have h1x : ¬ r.args.length = 1 := by omega
                       refine ⟨htp, kb, ?_⟩
                       rw [show decide (r.args.length = 1) = false by simp [h1x]]
                       exact kn)
                  · skip
                    have h12' := h12; (try simp only [bb] at h12')
                    refine w_freezeTop 13 ?_ (hclean := nils_clean n)
                    refine w_retell 13 (fun c m v h => rep_nils (Rx.langOne r.args) w h) ?_
                    refine w_skip ?_
                    refine k_seq_normal ?_
                    first
                    | (have h1x : r.args.length = 1 := by omega
                       refine ⟨htp.push _, kb.push _, ?_⟩
                       rw [show decide (r.args.length = 1) = true by simp [h1x], tabO_yes, ← tabOf_congr (fun a b _ _ => langP_congr (one_arg h1x) w a b), hn]
                       exact kn)
                    | (have h1x : ¬ r.args.length = 1 := by omega
                       refine ⟨htp, kb, ?_⟩
                       rw [show decide (r.args.length = 1) = false by simp [h1x]]
                       exact kn)
                · skip
                  rintro f es3 ⟨htp, kb, hk⟩
                  refine w_pins _ (Sub.refl _) (hk) ?_
                  simp only [pins]
                  refine w_seq ?_
                  refine w_region ?_
                  refine l_cons rfl (p_assign ?_)
                  refine l_nil ?_
                  refine k_seq_normal ?_
                  refine w_block ?_
                  refine w_loop (fun m f es4 => ∃ i, m = n - i ∧ i ≤ n ∧ TP es4 (.row s2 29 6 [[.int .i64 r.kind, .int .u64 r.set.w0, .int .u64 r.set.w1, .int .u64 r.set.w2, .int .u64 r.set.w3, .list 6 (r.args.map Rx.cells)]] :: es).length (es.length + 1) s21 ms n (rowI (Rx.langOne r.args) w i (fun _ => false)) ∧ KB (.row s2 29 6 [[.int .i64 r.kind, .int .u64 r.set.w0, .int .u64 r.set.w1, .int .u64 r.set.w2, .int .u64 r.set.w3, .list 6 (r.args.map Rx.cells)]] :: es) es4 ∧ Knows f [(1, .list 1 (w.map fun n => [.int .u8 n])), (2, .ptr es.length s2 0 0), (5, .int .i64 (n : Int)), (6, .own (es.length + 1) s21), (13, .list 1 ((tabO (decide (r.args.length = 1)) (Rx.langOne r.args) w n).map fun r => [AV.list 1 (bools r)])), (14, .int .i64 (i : Int))]) (n) (⟨0, rfl, Nat.zero_le _, tp_congr htp (fun a b _ _ => rowI_start), kb, kn⟩) ?_
                  rintro m f es4 ⟨i, rfl, hi1, htp, kb, hk⟩
                  have hT := htp.t
                  have hlo := htp.lo
                  have hbox := (kb.1 es.length (by simp)).trans (at_hit _ _)
                  refine w_pins _ (Sub.refl _) (hk) ?_
                  simp only [pins]
                  refine w_seq ?_
                  refine w_seq ?_
                  refine w_region ?_
                  refine l_cons rfl (p_move ?_)
                  refine l_cons rfl (p_move ?_)
                  refine l_cons rfl (p_cmp ?_)
                  refine l_nil ?_
                  refine k_seq_normal ?_
                  refine w_b (fun h13 => ?_) (fun h13 => ?_)
                  · skip
                    have h13' := h13; (try simp only [bb] at h13')
                    refine w_skip ?_
                    refine k_seq_normal ?_
                    refine w_seq ?_
                    refine w_block ?_
                    refine w_seq ?_
                    have hR2 := htp.r i (by omega)
                    refine w_region ?_
                    refine l_cons rfl (p_move ?_)
                    refine l_cons rfl (p_move ?_)
                    refine l_cons rfl (p_ixo sl_100 (a := .ptr (es.length + 1) s21 i 0) ?_ (h0 := by omega) (h1 := by rw [tRows_len (by omega)]; omega))
                    refine l_cons rfl (p_loadp ty_60 (a := .own (ms[i]'(by omega)).1 (ms[i]'(by omega)).2) ?_ (hr := tRows_at (by omega)) (hl := Nat.le_refl 1) (ha := rfl))
                    refine l_cons rfl (p_move ?_)
                    refine l_cons rfl (p_ixo sl_60 (a := .ptr (ms[i]'(by omega)).1 (ms[i]'(by omega)).2 i 0) ?_ (h0 := by omega) (h1 := by rw [boolRow_len]; omega))
                    refine l_cons rfl (p_store ty_4 (rows' := (boolRow n ((rowI (Rx.langOne r.args) w i (fun _ => false)) i)).set i [.bool (true)]) (r' := [.bool (true)]) ?_ (hr := boolRow_at _ (by omega)) (hl := Nat.le_refl 1) (hr' := by first | rfl | (simp only [List.take_zero, List.nil_append, List.drop_succ_cons, List.drop_zero, List.append_nil, List.drop_nil] <;> simp [*])) (hrs := rfl))
                    refine l_nil ?_
                    refine k_seq_normal ?_
                    refine w_seq ?_
                    refine w_region ?_
                    refine l_cons rfl (p_move ?_)
                    refine l_cons rfl (p_assign ?_)
                    refine l_nil ?_
                    refine k_seq_normal ?_
                    refine w_block ?_
                    refine w_loop (fun m f es5 => ∃ j, m = n - j ∧ i ≤ j ∧ j ≤ n ∧ TP es5 (.row s2 29 6 [[.int .i64 r.kind, .int .u64 r.set.w0, .int .u64 r.set.w1, .int .u64 r.set.w2, .int .u64 r.set.w3, .list 6 (r.args.map Rx.cells)]] :: es).length (es.length + 1) s21 ms n (rowI (Rx.langOne r.args) w i (sjb (Rx.langOne r.args) w i j)) ∧ KB (.row s2 29 6 [[.int .i64 r.kind, .int .u64 r.set.w0, .int .u64 r.set.w1, .int .u64 r.set.w2, .int .u64 r.set.w3, .list 6 (r.args.map Rx.cells)]] :: es) es5 ∧ Knows f [(1, .list 1 (w.map fun n => [.int .u8 n])), (2, .ptr es.length s2 0 0), (5, .int .i64 (n : Int)), (6, .own (es.length + 1) s21), (13, .list 1 ((tabO (decide (r.args.length = 1)) (Rx.langOne r.args) w n).map fun r => [AV.list 1 (bools r)])), (14, .int .i64 (i : Int)), (15, .int .i64 (j : Int))]) (n - i) (⟨i, rfl, Nat.le_refl _, by omega, tp_congr (tp_set htp (i := i) (j := i) (by omega) (by omega) true) (fun a b _ _ => rowI_set (fun b => rowI_diag)), kb.put (hlo _ (tp_mem (i := i) (by omega))) _, kn⟩) ?_
                    rintro m f es5 ⟨j, rfl, hj0, hj1, htp, kb, hk⟩
                    refine w_pins _ (Sub.refl _) (hk) ?_
                    simp only [pins]
                    refine w_seq ?_
                    refine w_seq ?_
                    refine w_region ?_
                    refine l_cons rfl (p_move ?_)
                    refine l_cons rfl (p_move ?_)
                    refine l_cons rfl (p_cmp ?_)
                    refine l_nil ?_
                    refine k_seq_normal ?_
                    refine w_b (fun h14 => ?_) (fun h14 => ?_)
                    · skip
                      have h14' := h14; (try simp only [bb] at h14')
                      refine w_skip ?_
                      refine k_seq_normal ?_
                      refine w_seq ?_
                      refine w_block ?_
                      refine w_seq ?_
                      refine w_region ?_
                      refine l_cons rfl (p_move ?_)
                      refine l_cons rfl (p_arith ?_)
                      refine l_cons rfl (p_assign ?_)
                      refine l_nil ?_
                      refine k_seq_normal ?_
                      refine w_block ?_
                      refine w_loop (fun m f es6 => ∃ k, m = n - k ∧ j < k ∧ k ≤ n ∧ TP es6 (.row s2 29 6 [[.int .i64 r.kind, .int .u64 r.set.w0, .int .u64 r.set.w1, .int .u64 r.set.w2, .int .u64 r.set.w3, .list 6 (r.args.map Rx.cells)]] :: es).length (es.length + 1) s21 ms n (rowI (Rx.langOne r.args) w i ((sk (Rx.langOne r.args) w i j k))) ∧ KB (.row s2 29 6 [[.int .i64 r.kind, .int .u64 r.set.w0, .int .u64 r.set.w1, .int .u64 r.set.w2, .int .u64 r.set.w3, .list 6 (r.args.map Rx.cells)]] :: es) es6 ∧ Knows f [(1, .list 1 (w.map fun n => [.int .u8 n])), (2, .ptr es.length s2 0 0), (5, .int .i64 (n : Int)), (6, .own (es.length + 1) s21), (13, .list 1 ((tabO (decide (r.args.length = 1)) (Rx.langOne r.args) w n).map fun r => [AV.list 1 (bools r)])), (14, .int .i64 (i : Int)), (15, .int .i64 (j : Int)), (16, .int .i64 (k : Int))]) (n - (j + 1)) (⟨j + 1, rfl, by omega, by omega, tp_congr htp (fun a b _ _ => rowI_congr sk_start), kb, kn⟩) ?_
                      rintro m f es6 ⟨k, rfl, hk0, hk1, htp, kb, hk⟩
                      have hT := htp.t
                      have hlo := htp.lo
                      have hbox := (kb.1 es.length (by simp)).trans (at_hit _ _)
                      have hR := htp.r i (by omega)
                      refine w_pins _ (Sub.refl _) (hk) ?_
                      simp only [pins]
                      refine w_seq ?_
                      refine w_seq ?_
                      refine w_region ?_
                      refine l_cons rfl (p_move ?_)
                      refine l_cons rfl (p_move ?_)
                      refine l_cons rfl (p_cmp ?_)
                      refine l_cons rfl (p_move ?_)
                      refine g_b rfl (fun h15 => ?_) (fun h15 => ?_)
                      · skip
                        have h15' := h15; (try simp only [bb] at h15')
                        refine (p_move ?_)
                        refine g_y rfl h15 (p_move ?_)
                        refine g_y rfl h15 (p_ixo sl_100 (a := .ptr (es.length + 1) s21 i 0) ?_ (h0 := by omega) (h1 := by rw [tRows_len (by omega)]; omega))
                        refine g_y rfl h15 (p_loadp ty_60 (a := .own (ms[i]'(by omega)).1 (ms[i]'(by omega)).2) ?_ (hr := tRows_at (by omega)) (hl := Nat.le_refl 1) (ha := rfl))
                        refine g_y rfl h15 (p_move ?_)
                        refine g_y rfl h15 (p_ixo sl_60 (a := .ptr (ms[i]'(by omega)).1 (ms[i]'(by omega)).2 j 0) ?_ (h0 := by omega) (h1 := by rw [boolRow_len]; omega))
                        refine g_y rfl h15 (p_loadp ty_4 (a := .bool (sjb (Rx.langOne r.args) w i j j)) ?_ (hr := boolRow_at _ (by omega)) (hl := Nat.le_refl 1) (ha := by rw [rowI_here, sk_at]; rfl))
                        refine l_cons rfl (p_pickt h15 ?_)
                        refine l_cons rfl (p_move ?_)
                        refine g_b rfl (fun h16 => ?_) (fun h16 => ?_)
                        · skip
                          have h16' := h16; (try simp only [bb] at h16')
                          refine (p_move ?_)
                          refine g_y rfl h16 (p_move ?_)
                          refine g_y rfl h16 (p_ixl sl_100 (a := .fptr 1 ((tabO (decide (r.args.length = 1)) (Rx.langOne r.args) w n).map fun r => [AV.list 1 (bools r)]) j 0) ?_ (h0 := by omega) (h1 := by rw [tabO_len]; omega))
                          refine g_y rfl h16 (p_loadf ty_60 (a := .list 1 (bools (rowO (decide (r.args.length = 1)) (Rx.langOne r.args) w n j))) ?_ (hr := tabO_row (by omega)) (hl := Nat.le_refl 1) (ha := rfl))
                          refine g_y rfl h16 (p_lenl sl_60 ?_)
                          refine g_y rfl h16 (p_cmp ?_)
                          refine l_cons rfl (p_pickt h16 ?_)
                          refine l_nil ?_
                          refine k_seq_normal ?_
                          refine w_b (fun h17 => ?_) (fun h17 => ?_)
                          · skip
                            have h17' := h17; (try simp only [bb] at h17')
                            refine w_skip ?_
                            refine k_seq_normal ?_
                            refine w_seq ?_
                            refine w_block ?_
                            have hone : (decide (r.args.length = 1)) = true := rowO_pos (P := (Rx.langOne r.args)) (w := w) (n := n) (j := j) (by simp only [bools, List.length_map] at *; omega)
                            refine w_drawn 21 [] (fun e => at_ e (es.length + 1) = some (.row s21 60 1 (tRows ms n)) ∧ at_ e (ms[i]'(by omega)).1 = some (.row (ms[i]'(by omega)).2 4 1 (boolRow n ((rowI (Rx.langOne r.args) w i ((sk (Rx.langOne r.args) w i j k))) i))) ∧ at_ e es.length = some (.row s2 29 6 [[.int .i64 r.kind, .int .u64 r.set.w0, .int .u64 r.set.w1, .int .u64 r.set.w2, .int .u64 r.set.w3, .list 6 (r.args.map Rx.cells)]])) mixed (by kernel_rfl) ⟨hT, hR, hbox⟩ ?_
                            refine q1 6 (hg := rfl) (hu := rfl) (h := by rintro f _ ⟨hG1, hG2, hG3⟩; exact p_move ⟨rfl, rfl⟩) (k := ?_)
                            refine q1 14 (hg := rfl) (hu := rfl) (h := by rintro f _ ⟨hG1, hG2, hG3⟩; exact p_move ⟨rfl, rfl⟩) (k := ?_)
                            refine q2 171 172 (hg := rfl) (hu := rfl) (h := by rintro f _ ⟨hG1, hG2, hG3⟩; exact p_ixo sl_100 (a := .ptr (es.length + 1) s21 i 0) ⟨rfl, rfl⟩ (h0 := by omega) (h1 := by rw [tRows_len (by omega)]; omega)) (k := ?_)
                            refine q1 173 (hg := rfl) (hu := rfl) (h := by rintro f _ ⟨hG1, hG2, hG3⟩; exact p_loadp ty_60 (a := .own (ms[i]'(by omega)).1 (ms[i]'(by omega)).2) ⟨rfl, rfl⟩ (hr := tRows_at (by omega)) (hl := Nat.le_refl 1) (ha := rfl)) (k := ?_)
                            refine q1 16 (hg := rfl) (hu := rfl) (h := by rintro f _ ⟨hG1, hG2, hG3⟩; exact p_move ⟨rfl, rfl⟩) (k := ?_)
                            refine q1 6 (hg := rfl) (hu := rfl) (h := by rintro f _ ⟨hG1, hG2, hG3⟩; exact p_move ⟨rfl, rfl⟩) (k := ?_)
                            refine q1 14 (hg := rfl) (hu := rfl) (h := by rintro f _ ⟨hG1, hG2, hG3⟩; exact p_move ⟨rfl, rfl⟩) (k := ?_)
                            refine q2 176 177 (hg := rfl) (hu := rfl) (h := by rintro f _ ⟨hG1, hG2, hG3⟩; exact p_ixo sl_100 (a := .ptr (es.length + 1) s21 i 0) ⟨rfl, rfl⟩ (h0 := by omega) (h1 := by rw [tRows_len (by omega)]; omega)) (k := ?_)
                            refine q1 178 (hg := rfl) (hu := rfl) (h := by rintro f _ ⟨hG1, hG2, hG3⟩; exact p_loadp ty_60 (a := .own (ms[i]'(by omega)).1 (ms[i]'(by omega)).2) ⟨rfl, rfl⟩ (hr := tRows_at (by omega)) (hl := Nat.le_refl 1) (ha := rfl)) (k := ?_)
                            refine q1 16 (hg := rfl) (hu := rfl) (h := by rintro f _ ⟨hG1, hG2, hG3⟩; exact p_move ⟨rfl, rfl⟩) (k := ?_)
                            refine q2 179 180 (hg := rfl) (hu := rfl) (h := by rintro f _ ⟨hG1, hG2, hG3⟩; exact p_ixo sl_60 (a := .ptr (ms[i]'(by omega)).1 (ms[i]'(by omega)).2 k 0) ⟨rfl, rfl⟩ (h0 := by omega) (h1 := by rw [boolRow_len]; omega)) (k := ?_)
                            refine q1 181 (hg := rfl) (hu := rfl) (h := by rintro f _ ⟨hG1, hG2, hG3⟩; exact p_loadp ty_4 (a := .bool ((sk (Rx.langOne r.args) w i j k) k)) ⟨rfl, rfl⟩ (hr := boolRow_at _ (by omega)) (hl := Nat.le_refl 1) (ha := by rw [rowI_here]; rfl)) (k := ?_)
                            refine q1 182 (hg := rfl) (hu := rfl) (h := by rintro f _ ⟨hG1, hG2, hG3⟩; exact p_move ⟨rfl, rfl⟩) (k := ?_)
                            refine qsplit 183 (fun h18 => ?_) (fun h18 => ?_)
                            · skip
                              have h18' := h18; (try simp only [bb] at h18')
                              refine qn rfl h18 ?_
                              refine qn rfl h18 ?_
                              refine qn rfl h18 ?_
                              refine qn rfl h18 ?_
                              refine qn rfl h18 ?_
                              refine qn rfl h18 ?_
                              refine qn rfl h18 ?_
                              refine q2 183 190 (hg := rfl) (hu := rfl) (h := by rintro f _ ⟨hG1, hG2, hG3⟩; exact p_pickt h18 ⟨rfl, rfl⟩) (k := ?_)
                              refine q_end ?_
                              refine m_end ?_
                              refine l_cons rfl (p_ixo sl_60 (a := .ptr (ms[i]'(by omega)).1 (ms[i]'(by omega)).2 k 0) ?_ (h0 := by omega) (h1 := by rw [boolRow_len]; omega))
                              refine l_cons rfl (p_store ty_4 (rows' := (boolRow n ((rowI (Rx.langOne r.args) w i ((sk (Rx.langOne r.args) w i j k))) i)).set k [.bool ((sk (Rx.langOne r.args) w i j k) k || langP (Rx.langOne r.args) w j k)]) (r' := [.bool ((sk (Rx.langOne r.args) w i j k) k || langP (Rx.langOne r.args) w j k)]) ?_ (hr := boolRow_at _ (by omega)) (hl := Nat.le_refl 1) (hr' := by first | rfl | (simp only [List.take_zero, List.nil_append, List.drop_succ_cons, List.drop_zero, List.append_nil, List.drop_nil] <;> simp [*])) (hrs := rfl))
                              refine l_nil ?_
                              refine k_blk_normal ?_
                              refine k_seq_normal ?_
                              refine w_region ?_
                              refine l_cons rfl (p_move ?_)
                              refine l_cons rfl (p_arith ?_)
                              refine l_cons rfl (p_assign ?_)
                              refine l_nil ?_
                              refine k_seq_normal ?_
                              exact ⟨n - (k + 1), by omega, k + 1, rfl, by omega, by omega, tp_congr (tp_set htp (i := i) (j := k) (by omega) (by omega) ((sk (Rx.langOne r.args) w i j k) k || langP (Rx.langOne r.args) w j k)) (fun a b _ _ => rowI_set (sk_step (by assumption) (by omega))), kb.put (hlo _ (tp_mem (i := i) (by omega))) _, kn⟩
                            · skip
                              have h18' := h18; (try simp only [bb] at h18')
                              refine qy1 13 (hg := rfl) (hw := h18) (hu := rfl) (h := by rintro f _ ⟨hG1, hG2, hG3⟩; exact p_move ⟨rfl, rfl⟩) (k := ?_)
                              refine qy1 15 (hg := rfl) (hw := h18) (hu := rfl) (h := by rintro f _ ⟨hG1, hG2, hG3⟩; exact p_move ⟨rfl, rfl⟩) (k := ?_)
                              refine qy2 184 185 (hg := rfl) (hw := h18) (hu := rfl) (h := by rintro f _ ⟨hG1, hG2, hG3⟩; exact p_ixl sl_100 (a := .fptr 1 ((tabO (decide (r.args.length = 1)) (Rx.langOne r.args) w n).map fun r => [AV.list 1 (bools r)]) j 0) ⟨rfl, rfl⟩ (h0 := by omega) (h1 := by rw [tabO_len]; omega)) (k := ?_)
                              refine qy1 186 (hg := rfl) (hw := h18) (hu := rfl) (h := by rintro f _ ⟨hG1, hG2, hG3⟩; exact p_loadf ty_60 (a := .list 1 (boolRow n (langP (Rx.langOne r.args) w j))) ⟨rfl, rfl⟩ (hr := tabO_row1 hone (by omega)) (hl := Nat.le_refl 1) (ha := rfl)) (k := ?_)
                              refine qy1 16 (hg := rfl) (hw := h18) (hu := rfl) (h := by rintro f _ ⟨hG1, hG2, hG3⟩; exact p_move ⟨rfl, rfl⟩) (k := ?_)
                              refine qy2 187 188 (hg := rfl) (hw := h18) (hu := rfl) (h := by rintro f _ ⟨hG1, hG2, hG3⟩; exact p_ixl sl_60 (a := .fptr 1 (boolRow n (langP (Rx.langOne r.args) w j)) k 0) ⟨rfl, rfl⟩ (h0 := by omega) (h1 := by rw [boolRow_len]; omega)) (k := ?_)
                              refine qy1 189 (hg := rfl) (hw := h18) (hu := rfl) (h := by rintro f _ ⟨hG1, hG2, hG3⟩; exact p_loadf ty_4 (a := .bool (langP (Rx.langOne r.args) w j k)) ⟨rfl, rfl⟩ (hr := boolRow_at _ (by omega)) (hl := Nat.le_refl 1) (ha := rfl)) (k := ?_)
                              refine q2 183 190 (hg := rfl) (hu := rfl) (h := by rintro f _ ⟨hG1, hG2, hG3⟩; exact p_pickf h18 ⟨rfl, rfl⟩) (k := ?_)
                              refine q_end ?_
                              refine m_end ?_
                              refine l_cons rfl (p_ixo sl_60 (a := .ptr (ms[i]'(by omega)).1 (ms[i]'(by omega)).2 k 0) ?_ (h0 := by omega) (h1 := by rw [boolRow_len]; omega))
                              refine l_cons rfl (p_store ty_4 (rows' := (boolRow n ((rowI (Rx.langOne r.args) w i ((sk (Rx.langOne r.args) w i j k))) i)).set k [.bool ((sk (Rx.langOne r.args) w i j k) k || langP (Rx.langOne r.args) w j k)]) (r' := [.bool ((sk (Rx.langOne r.args) w i j k) k || langP (Rx.langOne r.args) w j k)]) ?_ (hr := boolRow_at _ (by omega)) (hl := Nat.le_refl 1) (hr' := by first | rfl | (simp only [List.take_zero, List.nil_append, List.drop_succ_cons, List.drop_zero, List.append_nil, List.drop_nil] <;> simp [*])) (hrs := rfl))
                              refine l_nil ?_
                              refine k_blk_normal ?_
                              refine k_seq_normal ?_
                              refine w_region ?_
                              refine l_cons rfl (p_move ?_)
                              refine l_cons rfl (p_arith ?_)
                              refine l_cons rfl (p_assign ?_)
                              refine l_nil ?_
                              refine k_seq_normal ?_
                              exact ⟨n - (k + 1), by omega, k + 1, rfl, by omega, by omega, tp_congr (tp_set htp (i := i) (j := k) (by omega) (by omega) ((sk (Rx.langOne r.args) w i j k) k || langP (Rx.langOne r.args) w j k)) (fun a b _ _ => rowI_set (sk_step (by assumption) (by omega))), kb.put (hlo _ (tp_mem (i := i) (by omega))) _, kn⟩
                          · skip
                            have h17' := h17; (try simp only [bb] at h17')
                            refine w_exit ?_
                            refine k_seq_exit ?_
                            refine k_seq_exit ?_
                            refine k_blk_here ?_
                            refine k_blk_normal ?_
                            refine k_seq_normal ?_
                            refine w_region ?_
                            refine l_cons rfl (p_move ?_)
                            refine l_cons rfl (p_arith ?_)
                            refine l_cons rfl (p_assign ?_)
                            refine l_nil ?_
                            refine k_seq_normal ?_
                            exact ⟨n - (j + 1), by omega, j + 1, rfl, by omega, by omega, tp_congr htp (fun a b _ hb => rowI_congr (sk_done hj0 (by omega) (by first | (left; omega) | (right; left; assumption) | (right; right; exact one_none (l := r.args) (w := w) (n := n) (j := j) (by omega) (by simp only [bools, List.length_map] at *; omega))) hb)), kb, kn⟩
                        · skip
                          have h16' := h16; (try simp only [bb] at h16')
                          refine g_n rfl h16 ?_
                          refine g_n rfl h16 ?_
                          refine g_n rfl h16 ?_
                          refine g_n rfl h16 ?_
                          refine g_n rfl h16 ?_
                          refine l_cons rfl (p_pickf h16 ?_)
                          refine l_nil ?_
                          refine k_seq_normal ?_
                          refine w_f rfl ?_
                          refine w_exit ?_
                          refine k_seq_exit ?_
                          refine k_seq_exit ?_
                          refine k_blk_here ?_
                          refine k_blk_normal ?_
                          refine k_seq_normal ?_
                          refine w_region ?_
                          refine l_cons rfl (p_move ?_)
                          refine l_cons rfl (p_arith ?_)
                          refine l_cons rfl (p_assign ?_)
                          refine l_nil ?_
                          refine k_seq_normal ?_
                          exact ⟨n - (j + 1), by omega, j + 1, rfl, by omega, by omega, tp_congr htp (fun a b _ hb => rowI_congr (sk_done hj0 (by omega) (by first | (left; omega) | (right; left; assumption) | (right; right; exact one_none (l := r.args) (w := w) (n := n) (j := j) (by omega) (by simp only [bools, List.length_map] at *; omega))) hb)), kb, kn⟩
                      · skip
                        have h15' := h15; (try simp only [bb] at h15')
                        refine g_n rfl h15 ?_
                        refine g_n rfl h15 ?_
                        refine g_n rfl h15 ?_
                        refine g_n rfl h15 ?_
                        refine g_n rfl h15 ?_
                        refine g_n rfl h15 ?_
                        refine l_cons rfl (p_pickf h15 ?_)
                        refine l_cons rfl (p_move ?_)
                        refine g_n rfl rfl ?_
                        refine g_n rfl rfl ?_
                        refine g_n rfl rfl ?_
                        refine g_n rfl rfl ?_
                        refine g_n rfl rfl ?_
                        refine g_n rfl rfl ?_
                        refine l_cons rfl (p_pickf rfl ?_)
                        refine l_nil ?_
                        refine k_seq_normal ?_
                        refine w_f rfl ?_
                        refine w_exit ?_
                        refine k_seq_exit ?_
                        refine k_seq_exit ?_
                        refine k_blk_here ?_
                        refine k_blk_normal ?_
                        refine k_seq_normal ?_
                        refine w_region ?_
                        refine l_cons rfl (p_move ?_)
                        refine l_cons rfl (p_arith ?_)
                        refine l_cons rfl (p_assign ?_)
                        refine l_nil ?_
                        refine k_seq_normal ?_
                        exact ⟨n - (j + 1), by omega, j + 1, rfl, by omega, by omega, tp_congr htp (fun a b _ hb => rowI_congr (sk_done hj0 (by omega) (by first | (left; omega) | (right; left; assumption) | (right; right; exact one_none (l := r.args) (w := w) (n := n) (j := j) (by omega) (by simp only [bools, List.length_map] at *; omega))) hb)), kb, kn⟩
                    · skip
                      have h14' := h14; (try simp only [bb] at h14')
                      refine w_exit ?_
                      refine k_seq_exit ?_
                      refine k_seq_exit ?_
                      refine k_blk_here ?_
                      refine k_blk_normal ?_
                      refine k_seq_normal ?_
                      refine w_region ?_
                      refine l_cons rfl (p_move ?_)
                      refine l_cons rfl (p_arith ?_)
                      refine l_cons rfl (p_assign ?_)
                      refine l_nil ?_
                      refine k_seq_normal ?_
                      have hjn : j = n := by omega
                      rw [hjn] at htp
                      exact ⟨n - (i + 1), by omega, i + 1, rfl, by omega, tp_congr htp (fun a b ha hb => star_row hn (by omega) hb (by omega)), kb, kn⟩
                  · skip
                    have h13' := h13; (try simp only [bb] at h13')
                    refine w_exit ?_
                    refine k_seq_exit ?_
                    refine k_seq_exit ?_
                    refine k_blk_here ?_
                    refine k_blk_normal ?_
                    refine k_seq_normal ?_
                    first
                    | (have hin2 : i = n := by omega
                       rw [hin2] at htp
                       exact .inl ⟨ms, hmsl, tp_congr htp (fun a b ha hb => dg_done (kind_2 (by omega)) hn (by omega) hb), kb, by first | rfl | (simp only [put, upd_apply, Nat.reduceEqDiff, ↓reduceIte])⟩)
                    | exact .inl ⟨ms, hmsl, tp_congr htp (fun a b ha hb => by rw [show i = w.length by omega]; exact sg_done (kind_3 (by omega)) hn (by omega) hb), kb, by first | rfl | (simp only [put, upd_apply, Nat.reduceEqDiff, ↓reduceIte])⟩
                    | (obtain rfl : k = r.args.length := by omega
                       rw [List.take_length] at htp
                       exact .inl ⟨ms, hmsl, tp_congr htp (fun a b ha hb => langP_congr (kind_5 (by omega)) w a b), kb, by first | rfl | (simp only [put, upd_apply, Nat.reduceEqDiff, ↓reduceIte])⟩)
                    | (obtain rfl : k = r.args.length := by omega
                       refine .inr ⟨KB.refl _, ?_⟩
                       rw [tabOf_congr (fun a b _ _ => langP_congr (kind_4 (r := r) (by omega)) w a b)]
                       simp only [List.take_length, put, upd_apply, Nat.reduceEqDiff, ↓reduceIte])
                    | (have hin2 : i = n := by omega
                       rw [hin2] at htp
                       exact .inl ⟨ms, hmsl, tp_congr htp (fun a b ha hb => star_rows (kind_6 (by omega)) (by omega)), kb, by first | rfl | (simp only [put, upd_apply, Nat.reduceEqDiff, ↓reduceIte])⟩)
                    | exact .inl ⟨ms, hmsl, tp_congr htp (fun a b ha hb => none_done (kind_0 (by omega))), kb, by first | rfl | (simp only [put, upd_apply, Nat.reduceEqDiff, ↓reduceIte])⟩
              · skip
                have h11' := h11; (try simp only [bb] at h11')
                refine w_skip ?_
                refine k_blk_normal ?_
                refine k_seq_normal ?_
                first
                | (have hin2 : i = n := by omega
                   rw [hin2] at htp
                   exact .inl ⟨ms, hmsl, tp_congr htp (fun a b ha hb => dg_done (kind_2 (by omega)) hn (by omega) hb), kb, by first | rfl | (simp only [put, upd_apply, Nat.reduceEqDiff, ↓reduceIte])⟩)
                | exact .inl ⟨ms, hmsl, tp_congr htp (fun a b ha hb => by rw [show i = w.length by omega]; exact sg_done (kind_3 (by omega)) hn (by omega) hb), kb, by first | rfl | (simp only [put, upd_apply, Nat.reduceEqDiff, ↓reduceIte])⟩
                | (obtain rfl : k = r.args.length := by omega
                   rw [List.take_length] at htp
                   exact .inl ⟨ms, hmsl, tp_congr htp (fun a b ha hb => langP_congr (kind_5 (by omega)) w a b), kb, by first | rfl | (simp only [put, upd_apply, Nat.reduceEqDiff, ↓reduceIte])⟩)
                | (obtain rfl : k = r.args.length := by omega
                   refine .inr ⟨KB.refl _, ?_⟩
                   rw [tabOf_congr (fun a b _ _ => langP_congr (kind_4 (r := r) (by omega)) w a b)]
                   simp only [List.take_length, put, upd_apply, Nat.reduceEqDiff, ↓reduceIte])
                | (have hin2 : i = n := by omega
                   rw [hin2] at htp
                   exact .inl ⟨ms, hmsl, tp_congr htp (fun a b ha hb => star_rows (kind_6 (by omega)) (by omega)), kb, by first | rfl | (simp only [put, upd_apply, Nat.reduceEqDiff, ↓reduceIte])⟩)
                | exact .inl ⟨ms, hmsl, tp_congr htp (fun a b ha hb => none_done (kind_0 (by omega))), kb, by first | rfl | (simp only [put, upd_apply, Nat.reduceEqDiff, ↓reduceIte])⟩
    · skip
      rintro f es' hpost
      refine w_either (base := (.row s2 29 6 [[.int .i64 r.kind, .int .u64 r.set.w0, .int .u64 r.set.w1, .int .u64 r.set.w2, .int .u64 r.set.w3, .list 6 (r.args.map Rx.cells)]] :: es)) 6 hpost ?_
      have hk : Knows (upd f 6 (tabAV (tabOf n (langP r.lang w)))) [(6, tabAV (tabOf n (langP r.lang w)))] := ⟨upd_same _ _ _, trivial⟩
      refine w_pins _ (Sub.refl _) (hk) ?_
      simp only [pins]
      refine w_seq ?_
      refine w_region ?_
      refine l_cons rfl (p_move ?_)
      refine l_cons rfl (p_assign ?_)
      refine l_nil ?_
      refine k_seq_normal ?_
      refine w_ret ?_
      rw [hspan]
      exact ret1 rfl ev1 subx ⟨rfl, rfl⟩
theorem refIn {w0 : World} {es : List Ent} (r : Rx) (w : List Int) (ho : r.ok) (hw : bytesOk w) (hwl : w.length ≤ 1000) : ACalls Tryd.prog w0 32 [.agg r.cells, bytesAV w] es fun v es' => v = .bool (inR r w) ∧ es' = es := by
 unfold bytesAV
 refine calls2 (N := 14) Tryd.func32 rfl rfl (by decide) ?_
 refine w_seq ?_
 refine w_region ?_
 refine l_cons rfl (p_box fun s2 => ?_)
 refine l_cons rfl (p_assign ?_)
 refine l_nil ?_
 refine k_seq_normal ?_
 refine w_seq ?_
 refine w_region ?_
 refine l_cons rfl (p_loadp ty_29 ?_)
 refine l_cons rfl (p_move ?_)
 refine l_cons rfl (p_callr en_81 (spans_walk _ r _ w (Nat.le_refl _) ho hw hwl) ?_)
 refine l_cons rfl (p_ixl sl_100 (a := .fptr 1 ((spansT r w).map fun r => [AV.list 1 (bools r)]) 0 0) ?_ (h1 := by simp [spansT, tabOf]))
 refine l_cons rfl (p_loadf ty_60 (a := .list 1 (boolRow (w.length + 1) (langP r.lang w 0))) ?_ (hr := tabAV_row (by omega)) (hl := Nat.le_refl 1) (ha := rfl))
 refine l_cons rfl (p_move ?_)
 refine l_cons rfl (p_lenl sl_22 ?_)
 refine l_cons rfl (p_ixl sl_60 (a := .fptr 1 (boolRow (w.length + 1) (langP r.lang w 0)) w.length 0) ?_ (h0 := by omega) (h1 := by rw [boolRow_len]; omega))
 refine l_cons rfl (p_loadf ty_4 (a := .bool (langP r.lang w 0 w.length)) ?_ (hr := boolRow_at _ (by omega)) (hl := Nat.le_refl 1) (ha := rfl))
 refine l_cons rfl (p_assign ?_)
 refine l_nil ?_
 refine k_seq_normal ?_
 refine w_ret ?_
 exact ret1 rfl ev1 subx ⟨by rw [inR_eq], rfl⟩
end
end Go.Proofs.YtfdgbghlanbddaaDoor.Av
