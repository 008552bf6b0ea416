import Derived.Test.YtfdgbghlanbddaaDoorAvK0
import Derived.Lib.TrailingZeros
import Derived.Laws.Bits64b
set_option linter.unusedVariables false
set_option linter.unusedSimpArgs false
namespace Go.Proofs.YtfdgbghlanbddaaDoor.Av
section
open Go.RowKit
theorem add64 {m n : Int} (h0 : -9223372036854775808 ≤ m + n) (h1 : m + n < 9223372036854775808) : arithI .add .i64 m n = some (m + n) := by
 simp only [arithI, wrap_i64 h0 h1]
theorem sub64 {m n : Int} (h0 : -9223372036854775808 ≤ m - n) (h1 : m - n < 9223372036854775808) : arithI .sub .i64 m n = some (m - n) := by
 simp only [arithI, wrap_i64 h0 h1]
theorem row_map {α : Type} (g : α → List AV) (xs : List α) (k : Nat) (h : k < xs.length) : (xs.map g)[k]? = some (g xs[k]) := by simp [h]
theorem row_at (xs : List (List AV)) (k : Nat) (h : k < xs.length) : xs[k]? = some xs[k] := List.getElem?_eq_getElem h
theorem intB_some {P : Program} {t : TypeId} {k : IntKind} (h : intB P t k = true) : (P.underlying t).isSome = true := by
 unfold intB at h
 split at h
 ·rename_i h2; rw [h2]; rfl
 ·cases h
section
variable {P : Program} {w0 : World} {N : Nat} {f : Frame} {es : List Ent} {K : Frame → List Ent → Prop}
variable {d : Nat} {ty : TypeId} {pos : String} {aft : Array Edge} {g : Option (Nat × Bool)} {x y z : Operand} {a : AV}
theorem p_move   (k : K (upd f d a) es) (hx : ev f x = a := by simp only [ev_tmp, ev_const, ev_func, ofConst_int, ofConst_bool, ofConst_str, ofConst_nil, upd_apply, Nat.reduceEqDiff, ↓reduceIte] <;> exact rfl) (hd : Nat.blt d N = true := by exact rfl) : AOp P w0 N ⟨some d, .move x, ty, pos, aft, g⟩ f es K := o_move hx k hd
theorem p_assign   (k : K (upd f d a) es) (hx : ev f x = a := by simp only [ev_tmp, ev_const, ev_func, ofConst_int, ofConst_bool, ofConst_str, ofConst_nil, upd_apply, Nat.reduceEqDiff, ↓reduceIte] <;> exact rfl) (hd : Nat.blt d N = true := by exact rfl) : AOp P w0 N ⟨some d, .assign x, ty, pos, aft, g⟩ f es K := o_assign hx k hd
theorem p_pickt {b : Bool} (hb : b = true) (k : K (upd f d a) es) (hx : ev f x = .bool b := by simp only [ev_tmp, ev_const, ev_func, ofConst_int, ofConst_bool, ofConst_str, ofConst_nil, upd_apply, Nat.reduceEqDiff, ↓reduceIte] <;> exact rfl) (ha : ev f y = a := by simp only [ev_tmp, ev_const, ev_func, ofConst_int, ofConst_bool, ofConst_str, ofConst_nil, upd_apply, Nat.reduceEqDiff, ↓reduceIte] <;> exact rfl) (hd : Nat.blt d N = true := by exact rfl) : AOp P w0 N ⟨some d, .pick x y z, ty, pos, aft, g⟩ f es K := o_pick hx ((if_pos hb).trans ha) k hd
theorem p_pickf {b : Bool} (hb : b = false) (k : K (upd f d a) es) (hx : ev f x = .bool b := by simp only [ev_tmp, ev_const, ev_func, ofConst_int, ofConst_bool, ofConst_str, ofConst_nil, upd_apply, Nat.reduceEqDiff, ↓reduceIte] <;> exact rfl) (ha : ev f z = a := by simp only [ev_tmp, ev_const, ev_func, ofConst_int, ofConst_bool, ofConst_str, ofConst_nil, upd_apply, Nat.reduceEqDiff, ↓reduceIte] <;> exact rfl) (hd : Nat.blt d N = true := by exact rfl) : AOp P w0 N ⟨some d, .pick x y z, ty, pos, aft, g⟩ f es K := o_pick hx ((if_neg (by rw [hb]; exact Bool.false_ne_true)).trans ha) k hd
theorem p_loadp {t : TypeId} {agg : Bool} {n id s i off e sz : Nat} {rows : List (List AV)} {r : List AV} {C : Ent → List Ent} (ht : tyB P t agg n = true) (k : K (upd f d a) es) (hx : ev f x = .ptr id s i off := by simp only [ev_tmp, ev_const, ev_func, ofConst_int, ofConst_bool, ofConst_str, ofConst_nil, upd_apply, Nat.reduceEqDiff, ↓reduceIte] <;> exact rfl) (he : Loc es id (.row s e sz rows) C := by first | exact loc_hit | exact (loc_miss loc_hit) | exact (loc_miss (loc_miss loc_hit)) | exact (loc_miss (loc_miss (loc_miss loc_hit))) | exact (loc_miss (loc_miss (loc_miss (loc_miss loc_hit)))) | exact (loc_miss (loc_miss (loc_miss (loc_miss (loc_miss loc_hit))))) | exact (loc_miss (loc_miss (loc_miss (loc_miss (loc_miss (loc_miss loc_hit)))))) | exact (loc_miss (loc_miss (loc_miss (loc_miss (loc_miss (loc_miss (loc_miss loc_hit))))))) | exact (loc_miss (loc_miss (loc_miss (loc_miss (loc_miss (loc_miss (loc_miss (loc_miss loc_hit)))))))) | exact (loc_base (by assumption)) | exact (loc_miss (loc_base (by assumption))) | exact (loc_miss (loc_miss (loc_base (by assumption)))) | exact (loc_miss (loc_miss (loc_miss (loc_base (by assumption))))) | exact (loc_miss (loc_miss (loc_miss (loc_miss (loc_base (by assumption)))))) | exact (loc_miss (loc_miss (loc_miss (loc_miss (loc_miss (loc_base (by assumption))))))) | exact (loc_miss (loc_miss (loc_miss (loc_miss (loc_miss (loc_miss (loc_base (by assumption)))))))) | exact (loc_miss (loc_miss (loc_miss (loc_miss (loc_miss (loc_miss (loc_miss (loc_base (by assumption))))))))) | exact (loc_miss (loc_miss (loc_miss (loc_miss (loc_miss (loc_miss (loc_miss (loc_miss (loc_base (by assumption))))))))))) (hr : rows[i]? = some r := by first | exact rfl | exact row_map _ _ _ (by first | assumption | omega) | exact row_at _ _ (by first | assumption | omega)) (hn : agg = false → n = 1 := by first | (intro h; cases h; done) | exact fun _ => rfl) (hl : off + n ≤ r.length := by first | exact Nat.le_of_ble_eq_true rfl | decide | (simp; done) | omega) (ha : loadAV agg n r off = a := by (conv => lhs; whnf) <;> exact rfl) (hd : Nat.blt d N = true := by exact rfl) : AOp P w0 N ⟨some d, .load t x, ty, pos, aft, g⟩ f es K := o_load_ptr hx he.1 hr ht hn hl ha k hd
theorem p_loadf {t : TypeId} {agg : Bool} {n i off sz : Nat} {rows : List (List AV)} {r : List AV} (ht : tyB P t agg n = true) (k : K (upd f d a) es) (hx : ev f x = .fptr sz rows i off := by simp only [ev_tmp, ev_const, ev_func, ofConst_int, ofConst_bool, ofConst_str, ofConst_nil, upd_apply, Nat.reduceEqDiff, ↓reduceIte] <;> exact rfl) (hr : rows[i]? = some r := by first | exact rfl | exact row_map _ _ _ (by first | assumption | omega) | exact row_at _ _ (by first | assumption | omega)) (hn : agg = false → n = 1 := by first | (intro h; cases h; done) | exact fun _ => rfl) (hl : off + n ≤ r.length := by first | exact Nat.le_of_ble_eq_true rfl | decide | (simp; done) | omega) (ha : loadAV agg n r off = a := by (conv => lhs; whnf) <;> exact rfl) (hd : Nat.blt d N = true := by exact rfl) : AOp P w0 N ⟨some d, .load t x, ty, pos, aft, g⟩ f es K := o_load_fptr hx hr ht hn hl ha k hd
theorem p_store {t : TypeId} {agg : Bool} {n id s i off e sz : Nat} {rows : List (List AV)} {r l r' : List AV} {rows' : List (List AV)} {C : Ent → List Ent} (ht : tyB P t agg n = true) (k : K f (C (.row s e sz rows'))) (hx : ev f x = .ptr id s i off := by simp only [ev_tmp, ev_const, ev_func, ofConst_int, ofConst_bool, ofConst_str, ofConst_nil, upd_apply, Nat.reduceEqDiff, ↓reduceIte] <;> exact rfl) (hy : ev f y = a := by simp only [ev_tmp, ev_const, ev_func, ofConst_int, ofConst_bool, ofConst_str, ofConst_nil, upd_apply, Nat.reduceEqDiff, ↓reduceIte] <;> exact rfl) (he : Loc es id (.row s e sz rows) C := by first | exact loc_hit | exact (loc_miss loc_hit) | exact (loc_miss (loc_miss loc_hit)) | exact (loc_miss (loc_miss (loc_miss loc_hit))) | exact (loc_miss (loc_miss (loc_miss (loc_miss loc_hit)))) | exact (loc_miss (loc_miss (loc_miss (loc_miss (loc_miss loc_hit))))) | exact (loc_miss (loc_miss (loc_miss (loc_miss (loc_miss (loc_miss loc_hit)))))) | exact (loc_miss (loc_miss (loc_miss (loc_miss (loc_miss (loc_miss (loc_miss loc_hit))))))) | exact (loc_miss (loc_miss (loc_miss (loc_miss (loc_miss (loc_miss (loc_miss (loc_miss loc_hit)))))))) | exact (loc_base (by assumption)) | exact (loc_miss (loc_base (by assumption))) | exact (loc_miss (loc_miss (loc_base (by assumption)))) | exact (loc_miss (loc_miss (loc_miss (loc_base (by assumption))))) | exact (loc_miss (loc_miss (loc_miss (loc_miss (loc_base (by assumption)))))) | exact (loc_miss (loc_miss (loc_miss (loc_miss (loc_miss (loc_base (by assumption))))))) | exact (loc_miss (loc_miss (loc_miss (loc_miss (loc_miss (loc_miss (loc_base (by assumption)))))))) | exact (loc_miss (loc_miss (loc_miss (loc_miss (loc_miss (loc_miss (loc_miss (loc_base (by assumption))))))))) | exact (loc_miss (loc_miss (loc_miss (loc_miss (loc_miss (loc_miss (loc_miss (loc_miss (loc_base (by assumption))))))))))) (hr : rows[i]? = some r := by first | exact rfl | exact row_map _ _ _ (by first | assumption | omega) | exact row_at _ _ (by first | assumption | omega)) (hc : cellsAV a = some l := by exact rfl) (hn : l.length = n := by exact rfl) (hl : off + n ≤ r.length := by first | exact Nat.le_of_ble_eq_true rfl | decide | (simp; done) | omega) (hr' : r.take off ++ l ++ r.drop (off + n) = r' := by first | (simp only [chunk, List.replicate_succ, List.replicate_zero, List.flatten_cons, List.flatten_nil, List.append_nil, List.nil_append, List.cons_append, List.take_succ_cons, List.take_zero, List.drop_succ_cons, List.drop_zero, List.drop_nil, List.take_nil, Nat.reduceMul, Nat.reduceAdd, Nat.zero_mul, Nat.zero_add, List.length_cons, List.length_nil, List.set_cons_zero, List.set_cons_succ] <;> exact rfl) | exact rfl) (hrs : rows.set i r' = rows' := by first | (simp only [chunk, List.replicate_succ, List.replicate_zero, List.flatten_cons, List.flatten_nil, List.append_nil, List.nil_append, List.cons_append, List.take_succ_cons, List.take_zero, List.drop_succ_cons, List.drop_zero, List.drop_nil, List.take_nil, Nat.reduceMul, Nat.reduceAdd, Nat.zero_mul, Nat.zero_add, List.length_cons, List.length_nil, List.set_cons_zero, List.set_cons_succ] <;> exact rfl) | exact rfl) : AOp P w0 N ⟨none, .store t x y, ty, pos, aft, g⟩ f es K := o_store hx hy he hr ht hc hn hl hr' (hrs ▸ k)
theorem p_cmp {op : BinOp} {t u : TypeId} {k' : IntKind} {m n : Int} {b : Bool}  (k : K (upd f d (.bool b)) es) (hx : ev f x = .int k' m := by simp only [ev_tmp, ev_const, ev_func, ofConst_int, ofConst_bool, ofConst_str, ofConst_nil, upd_apply, Nat.reduceEqDiff, ↓reduceIte] <;> exact rfl) (hy : ev f y = .int k' n := by simp only [ev_tmp, ev_const, ev_func, ofConst_int, ofConst_bool, ofConst_str, ofConst_nil, upd_apply, Nat.reduceEqDiff, ↓reduceIte] <;> exact rfl) (hb : cmpI op m n = some b := by exact rfl) (hd : Nat.blt d N = true := by exact rfl) : AOp P w0 N ⟨some d, .binOp op t x y u, ty, pos, aft, g⟩ f es K := o_cmp hx hy hb k hd
theorem p_arith {op : BinOp} {t u : TypeId} {k' : IntKind} {m n r : Int}  (k : K (upd f d (.int k' r)) es) (hx : ev f x = .int k' m := by simp only [ev_tmp, ev_const, ev_func, ofConst_int, ofConst_bool, ofConst_str, ofConst_nil, upd_apply, Nat.reduceEqDiff, ↓reduceIte] <;> exact rfl) (hy : ev f y = .int k' n := by simp only [ev_tmp, ev_const, ev_func, ofConst_int, ofConst_bool, ofConst_str, ofConst_nil, upd_apply, Nat.reduceEqDiff, ↓reduceIte] <;> exact rfl) (hb : arithI op k' m n = some r := by first | exact add64 (by omega) (by omega) | exact sub64 (by omega) (by omega) | exact rfl) (hd : Nat.blt d N = true := by exact rfl) : AOp P w0 N ⟨some d, .binOp op t x y u, ty, pos, aft, g⟩ f es K := o_arith hx hy hb k hd
theorem p_not {t : TypeId} {m b : Bool}  (k : K (upd f d (.bool b)) es) (hx : ev f x = .bool m := by simp only [ev_tmp, ev_const, ev_func, ofConst_int, ofConst_bool, ofConst_str, ofConst_nil, upd_apply, Nat.reduceEqDiff, ↓reduceIte] <;> exact rfl) (hb : (!m) = b := by exact rfl) (hd : Nat.blt d N = true := by exact rfl) : AOp P w0 N ⟨some d, .unOp .not t x, ty, pos, aft, g⟩ f es K := o_not hx hb k hd
theorem p_eqb {t u : TypeId} {m n b : Bool} (ht : P.underlying t = some .bool) (k : K (upd f d (.bool b)) es) (hx : ev f x = .bool m := by simp only [ev_tmp, ev_const, ev_func, ofConst_int, ofConst_bool, ofConst_str, ofConst_nil, upd_apply, Nat.reduceEqDiff, ↓reduceIte] <;> exact rfl) (hy : ev f y = .bool n := by simp only [ev_tmp, ev_const, ev_func, ofConst_int, ofConst_bool, ofConst_str, ofConst_nil, upd_apply, Nat.reduceEqDiff, ↓reduceIte] <;> exact rfl) (hb : (m == n) = b := by exact rfl) (hd : Nat.blt d N = true := by exact rfl) : AOp P w0 N ⟨some d, .binOp .eql t x y u, ty, pos, aft, g⟩ f es K := o_eqb ht hx hy hb k hd
theorem p_neb {t u : TypeId} {m n b : Bool} (ht : P.underlying t = some .bool) (k : K (upd f d (.bool b)) es) (hx : ev f x = .bool m := by simp only [ev_tmp, ev_const, ev_func, ofConst_int, ofConst_bool, ofConst_str, ofConst_nil, upd_apply, Nat.reduceEqDiff, ↓reduceIte] <;> exact rfl) (hy : ev f y = .bool n := by simp only [ev_tmp, ev_const, ev_func, ofConst_int, ofConst_bool, ofConst_str, ofConst_nil, upd_apply, Nat.reduceEqDiff, ↓reduceIte] <;> exact rfl) (hb : (m != n) = b := by exact rfl) (hd : Nat.blt d N = true := by exact rfl) : AOp P w0 N ⟨some d, .binOp .neq t x y u, ty, pos, aft, g⟩ f es K := o_neb ht hx hy hb k hd
theorem p_eqa {t u n : Nat} {k' : IntKind} {l1 l2 : List AV} {b : Bool} (ht : arrI P t n k' = true) (k : K (upd f d (.bool b)) es) (hx : ev f x = .agg l1 := by simp only [ev_tmp, ev_const, ev_func, ofConst_int, ofConst_bool, ofConst_str, ofConst_nil, upd_apply, Nat.reduceEqDiff, ↓reduceIte] <;> exact rfl) (hy : ev f y = .agg l2 := by simp only [ev_tmp, ev_const, ev_func, ofConst_int, ofConst_bool, ofConst_str, ofConst_nil, upd_apply, Nat.reduceEqDiff, ↓reduceIte] <;> exact rfl) (h1 : allInts k' l1 = true := by exact rfl) (h2 : allInts k' l2 = true := by exact rfl) (n1 : l1.length = n := by exact rfl) (n2 : l2.length = n := by exact rfl) (hb : (l1.map valOf == l2.map valOf) = b := by exact rfl) (hd : Nat.blt d N = true := by exact rfl) : AOp P w0 N ⟨some d, .binOp .eql t x y u, ty, pos, aft, g⟩ f es K := o_eqa hx hy ht h1 h2 n1 n2 hb k hd
theorem p_nea {t u n : Nat} {k' : IntKind} {l1 l2 : List AV} {b : Bool} (ht : arrI P t n k' = true) (k : K (upd f d (.bool b)) es) (hx : ev f x = .agg l1 := by simp only [ev_tmp, ev_const, ev_func, ofConst_int, ofConst_bool, ofConst_str, ofConst_nil, upd_apply, Nat.reduceEqDiff, ↓reduceIte] <;> exact rfl) (hy : ev f y = .agg l2 := by simp only [ev_tmp, ev_const, ev_func, ofConst_int, ofConst_bool, ofConst_str, ofConst_nil, upd_apply, Nat.reduceEqDiff, ↓reduceIte] <;> exact rfl) (h1 : allInts k' l1 = true := by exact rfl) (h2 : allInts k' l2 = true := by exact rfl) (n1 : l1.length = n := by exact rfl) (n2 : l2.length = n := by exact rfl) (hb : (!(l1.map valOf == l2.map valOf)) = b := by exact rfl) (hd : Nat.blt d N = true := by exact rfl) : AOp P w0 N ⟨some d, .binOp .neq t x y u, ty, pos, aft, g⟩ f es K := o_nea hx hy ht h1 h2 n1 n2 hb k hd
theorem p_shl {t u : TypeId} {k' k2 : IntKind} {m n r : Int}  (k : K (upd f d (.int k' r)) es) (hx : ev f x = .int k' m := by simp only [ev_tmp, ev_const, ev_func, ofConst_int, ofConst_bool, ofConst_str, ofConst_nil, upd_apply, Nat.reduceEqDiff, ↓reduceIte] <;> exact rfl) (hy : ev f y = .int k2 n := by simp only [ev_tmp, ev_const, ev_func, ofConst_int, ofConst_bool, ofConst_str, ofConst_nil, upd_apply, Nat.reduceEqDiff, ↓reduceIte] <;> exact rfl) (hn : 0 ≤ n := by omega) (hb : k'.wrap (m * 2 ^ (min n.toNat k'.bits)) = r := by exact rfl) (hd : Nat.blt d N = true := by exact rfl) : AOp P w0 N ⟨some d, .binOp .shl t x y u, ty, pos, aft, g⟩ f es K := o_shl hx hy hn hb k hd
theorem p_shr {t u : TypeId} {k' k2 : IntKind} {m n r : Int}  (k : K (upd f d (.int k' r)) es) (hx : ev f x = .int k' m := by simp only [ev_tmp, ev_const, ev_func, ofConst_int, ofConst_bool, ofConst_str, ofConst_nil, upd_apply, Nat.reduceEqDiff, ↓reduceIte] <;> exact rfl) (hy : ev f y = .int k2 n := by simp only [ev_tmp, ev_const, ev_func, ofConst_int, ofConst_bool, ofConst_str, ofConst_nil, upd_apply, Nat.reduceEqDiff, ↓reduceIte] <;> exact rfl) (hn : 0 ≤ n := by omega) (hb : m.fdiv (2 ^ (min n.toNat k'.bits)) = r := by exact rfl) (hd : Nat.blt d N = true := by exact rfl) : AOp P w0 N ⟨some d, .binOp .shr t x y u, ty, pos, aft, g⟩ f es K := o_shr hx hy hn hb k hd
theorem p_conv {s t : TypeId} {k1 k' : IntKind} {m r : Int} (hs : intB P s k1 = true) (ht : intB P t k' = true) (k : K (upd f d (.int k' r)) es) (hx : ev f x = .int k1 m := by simp only [ev_tmp, ev_const, ev_func, ofConst_int, ofConst_bool, ofConst_str, ofConst_nil, upd_apply, Nat.reduceEqDiff, ↓reduceIte] <;> exact rfl) (hb : k'.wrap m = r := by exact rfl) (hd : Nat.blt d N = true := by exact rfl) : AOp P w0 N ⟨some d, .convert s t x, ty, pos, aft, g⟩ f es K := o_conv hx (intB_some hs) ht hb k hd
theorem p_fap {t : TypeId} {fl off id s i o : Nat} (hf : fieldB P t fl off = true) (k : K (upd f d a) es) (hx : ev f x = .ptr id s i o := by simp only [ev_tmp, ev_const, ev_func, ofConst_int, ofConst_bool, ofConst_str, ofConst_nil, upd_apply, Nat.reduceEqDiff, ↓reduceIte] <;> exact rfl) (ho : .ptr id s i (o + off) = a := by exact rfl) (hd : Nat.blt d N = true := by exact rfl) : AOp P w0 N ⟨some d, .fieldAddr t x fl, ty, pos, aft, g⟩ f es K := o_fieldAddr_ptr hx hf ho k hd
theorem p_faf {t : TypeId} {fl off sz i o : Nat} {rows : List (List AV)} (hf : fieldB P t fl off = true) (k : K (upd f d a) es) (hx : ev f x = .fptr sz rows i o := by simp only [ev_tmp, ev_const, ev_func, ofConst_int, ofConst_bool, ofConst_str, ofConst_nil, upd_apply, Nat.reduceEqDiff, ↓reduceIte] <;> exact rfl) (ho : .fptr sz rows i (o + off) = a := by exact rfl) (hd : Nat.blt d N = true := by exact rfl) : AOp P w0 N ⟨some d, .fieldAddr t x fl, ty, pos, aft, g⟩ f es K := o_fieldAddr_fptr hx hf ho k hd
theorem p_ixa {t : TypeId} {n e sz id s i o : Nat} {k' : IntKind} {ix : Int} (ht : arrB P t n e sz = true) (k : K (upd f d a) es) (hx : ev f x = .ptr id s i o := by simp only [ev_tmp, ev_const, ev_func, ofConst_int, ofConst_bool, ofConst_str, ofConst_nil, upd_apply, Nat.reduceEqDiff, ↓reduceIte] <;> exact rfl) (hy : ev f y = .int k' ix := by simp only [ev_tmp, ev_const, ev_func, ofConst_int, ofConst_bool, ofConst_str, ofConst_nil, upd_apply, Nat.reduceEqDiff, ↓reduceIte] <;> exact rfl) (h0 : 0 ≤ ix := by first | omega | (simp only [List.length_map, List.length_replicate, List.length_set, List.length_cons, List.length_nil] <;> omega) | (simp; done) | (simp <;> omega)) (h1 : ix < n := by first | omega | (simp only [List.length_map, List.length_replicate, List.length_set, List.length_cons, List.length_nil] <;> omega) | (simp; done) | (simp <;> omega)) (ho : .ptr id s i (o + ix.toNat * sz) = a := by exact rfl) (hd : Nat.blt d N = true := by exact rfl) : AOp P w0 N ⟨some d, .indexAddr t x y, ty, pos, aft, g⟩ f es K := o_indexAddr_arr hx hy ht h0 h1 ho k hd
theorem p_ixl {t : TypeId} {e sz : Nat} {rows : List (List AV)} {k' : IntKind} {ix : Int} (ht : sliceB P t e sz = true) (k : K (upd f d a) es) (hx : ev f x = .list sz rows := by simp only [ev_tmp, ev_const, ev_func, ofConst_int, ofConst_bool, ofConst_str, ofConst_nil, upd_apply, Nat.reduceEqDiff, ↓reduceIte] <;> exact rfl) (hy : ev f y = .int k' ix := by simp only [ev_tmp, ev_const, ev_func, ofConst_int, ofConst_bool, ofConst_str, ofConst_nil, upd_apply, Nat.reduceEqDiff, ↓reduceIte] <;> exact rfl) (hz : sz ≠ 0 := by decide) (h0 : 0 ≤ ix := by first | omega | (simp only [List.length_map, List.length_replicate, List.length_set, List.length_cons, List.length_nil] <;> omega) | (simp; done) | (simp <;> omega)) (h1 : ix < rows.length := by first | omega | (simp only [List.length_map, List.length_replicate, List.length_set, List.length_cons, List.length_nil] <;> omega) | (simp; done) | (simp <;> omega)) (ho : .fptr sz rows ix.toNat 0 = a := by first | (simp only [Int.toNat_natCast, Nat.zero_add]; exact rfl) | exact rfl) (hd : Nat.blt d N = true := by exact rfl) : AOp P w0 N ⟨some d, .indexAddr t x y, ty, pos, aft, g⟩ f es K := o_indexAddr_list hx hy ht hz h0 h1 ho k hd
theorem p_ixo {t : TypeId} {e sz id s : Nat} {rows : List (List AV)} {C : Ent → List Ent} {k' : IntKind} {ix : Int} (ht : sliceB P t e sz = true) (k : K (upd f d a) es) (hx : ev f x = .own id s := by simp only [ev_tmp, ev_const, ev_func, ofConst_int, ofConst_bool, ofConst_str, ofConst_nil, upd_apply, Nat.reduceEqDiff, ↓reduceIte] <;> exact rfl) (hy : ev f y = .int k' ix := by simp only [ev_tmp, ev_const, ev_func, ofConst_int, ofConst_bool, ofConst_str, ofConst_nil, upd_apply, Nat.reduceEqDiff, ↓reduceIte] <;> exact rfl) (he : Loc es id (.row s e sz rows) C := by first | exact loc_hit | exact (loc_miss loc_hit) | exact (loc_miss (loc_miss loc_hit)) | exact (loc_miss (loc_miss (loc_miss loc_hit))) | exact (loc_miss (loc_miss (loc_miss (loc_miss loc_hit)))) | exact (loc_miss (loc_miss (loc_miss (loc_miss (loc_miss loc_hit))))) | exact (loc_miss (loc_miss (loc_miss (loc_miss (loc_miss (loc_miss loc_hit)))))) | exact (loc_miss (loc_miss (loc_miss (loc_miss (loc_miss (loc_miss (loc_miss loc_hit))))))) | exact (loc_miss (loc_miss (loc_miss (loc_miss (loc_miss (loc_miss (loc_miss (loc_miss loc_hit)))))))) | exact (loc_base (by assumption)) | exact (loc_miss (loc_base (by assumption))) | exact (loc_miss (loc_miss (loc_base (by assumption)))) | exact (loc_miss (loc_miss (loc_miss (loc_base (by assumption))))) | exact (loc_miss (loc_miss (loc_miss (loc_miss (loc_base (by assumption)))))) | exact (loc_miss (loc_miss (loc_miss (loc_miss (loc_miss (loc_base (by assumption))))))) | exact (loc_miss (loc_miss (loc_miss (loc_miss (loc_miss (loc_miss (loc_base (by assumption)))))))) | exact (loc_miss (loc_miss (loc_miss (loc_miss (loc_miss (loc_miss (loc_miss (loc_base (by assumption))))))))) | exact (loc_miss (loc_miss (loc_miss (loc_miss (loc_miss (loc_miss (loc_miss (loc_miss (loc_base (by assumption))))))))))) (h0 : 0 ≤ ix := by first | omega | (simp only [List.length_map, List.length_replicate, List.length_set, List.length_cons, List.length_nil] <;> omega) | (simp; done) | (simp <;> omega)) (h1 : ix < rows.length := by first | omega | (simp only [List.length_map, List.length_replicate, List.length_set, List.length_cons, List.length_nil] <;> omega) | (simp; done) | (simp <;> omega)) (ho : .ptr id s ix.toNat 0 = a := by first | (simp only [Int.toNat_natCast, Nat.zero_add]; exact rfl) | exact rfl) (hd : Nat.blt d N = true := by exact rfl) : AOp P w0 N ⟨some d, .indexAddr t x y, ty, pos, aft, g⟩ f es K := o_indexAddr_own hx hy he ht h0 h1 ho k hd
theorem p_lenl {t e sz sz' : Nat} {rows : List (List AV)} (ht : sliceB P t e sz' = true) (k : K (upd f d a) es) (hx : ev f x = .list sz rows := by simp only [ev_tmp, ev_const, ev_func, ofConst_int, ofConst_bool, ofConst_str, ofConst_nil, upd_apply, Nat.reduceEqDiff, ↓reduceIte] <;> exact rfl) (ha : .int .i64 (rows.length : Int) = a := by first | (simp only [List.length_map]; exact rfl) | exact rfl) (hd : Nat.blt d N = true := by exact rfl) : AOp P w0 N ⟨some d, .call { callee := .builtin .len, args := #[x], argTypes := #[t] }, ty, pos, aft, g⟩ f es K := o_len_list hx ht ha k hd
theorem p_leno {t e' sz' id s e sz : Nat} {rows : List (List AV)} {C : Ent → List Ent} (ht : sliceB P t e' sz' = true) (k : K (upd f d a) es) (hx : ev f x = .own id s := by simp only [ev_tmp, ev_const, ev_func, ofConst_int, ofConst_bool, ofConst_str, ofConst_nil, upd_apply, Nat.reduceEqDiff, ↓reduceIte] <;> exact rfl) (he : Loc es id (.row s e sz rows) C := by first | exact loc_hit | exact (loc_miss loc_hit) | exact (loc_miss (loc_miss loc_hit)) | exact (loc_miss (loc_miss (loc_miss loc_hit))) | exact (loc_miss (loc_miss (loc_miss (loc_miss loc_hit)))) | exact (loc_miss (loc_miss (loc_miss (loc_miss (loc_miss loc_hit))))) | exact (loc_miss (loc_miss (loc_miss (loc_miss (loc_miss (loc_miss loc_hit)))))) | exact (loc_miss (loc_miss (loc_miss (loc_miss (loc_miss (loc_miss (loc_miss loc_hit))))))) | exact (loc_miss (loc_miss (loc_miss (loc_miss (loc_miss (loc_miss (loc_miss (loc_miss loc_hit)))))))) | exact (loc_base (by assumption)) | exact (loc_miss (loc_base (by assumption))) | exact (loc_miss (loc_miss (loc_base (by assumption)))) | exact (loc_miss (loc_miss (loc_miss (loc_base (by assumption))))) | exact (loc_miss (loc_miss (loc_miss (loc_miss (loc_base (by assumption)))))) | exact (loc_miss (loc_miss (loc_miss (loc_miss (loc_miss (loc_base (by assumption))))))) | exact (loc_miss (loc_miss (loc_miss (loc_miss (loc_miss (loc_miss (loc_base (by assumption)))))))) | exact (loc_miss (loc_miss (loc_miss (loc_miss (loc_miss (loc_miss (loc_miss (loc_base (by assumption))))))))) | exact (loc_miss (loc_miss (loc_miss (loc_miss (loc_miss (loc_miss (loc_miss (loc_miss (loc_base (by assumption))))))))))) (ha : .int .i64 (rows.length : Int) = a := by first | (simp only [List.length_map]; exact rfl) | exact rfl) (hd : Nat.blt d N = true := by exact rfl) : AOp P w0 N ⟨some d, .call { callee := .builtin .len, args := #[x], argTypes := #[t] }, ty, pos, aft, g⟩ f es K := o_len_own hx he ht ha k hd
theorem p_lenn {t e sz' : Nat} (ht : sliceB P t e sz' = true) (k : K (upd f d (.int .i64 0)) es) (hx : ev f x = .nil := by simp only [ev_tmp, ev_const, ev_func, ofConst_int, ofConst_bool, ofConst_str, ofConst_nil, upd_apply, Nat.reduceEqDiff, ↓reduceIte] <;> exact rfl) (hd : Nat.blt d N = true := by exact rfl) : AOp P w0 N ⟨some d, .call { callee := .builtin .len, args := #[x], argTypes := #[t] }, ty, pos, aft, g⟩ f es K := o_len_nil hx ht k hd
theorem p_ncp {id s i off : Nat}  (k : K (upd f d (.ptr id s i off)) es) (hx : ev f x = .ptr id s i off := by simp only [ev_tmp, ev_const, ev_func, ofConst_int, ofConst_bool, ofConst_str, ofConst_nil, upd_apply, Nat.reduceEqDiff, ↓reduceIte] <;> exact rfl) (hd : Nat.blt d N = true := by exact rfl) : AOp P w0 N ⟨some d, .nilCheck x, ty, pos, aft, g⟩ f es K := o_nilCheck_ptr hx k hd
theorem p_ncf {fn : FuncId} {l1 l2 : List AV}  (k : K (upd f d (.fn (.func fn) l1 l2)) es) (hx : ev f x = .fn (.func fn) l1 l2 := by simp only [ev_tmp, ev_const, ev_func, ofConst_int, ofConst_bool, ofConst_str, ofConst_nil, upd_apply, Nat.reduceEqDiff, ↓reduceIte] <;> exact rfl) (hd : Nat.blt d N = true := by exact rfl) : AOp P w0 N ⟨some d, .nilCheck x, ty, pos, aft, g⟩ f es K := o_nilCheck_fn hx k hd
theorem p_max {t1 t2 : TypeId} {k' : IntKind} {m n r : Int}  (k : K (upd f d (.int k' r)) es) (hx : ev f x = .int k' m := by simp only [ev_tmp, ev_const, ev_func, ofConst_int, ofConst_bool, ofConst_str, ofConst_nil, upd_apply, Nat.reduceEqDiff, ↓reduceIte] <;> exact rfl) (hy : ev f y = .int k' n := by simp only [ev_tmp, ev_const, ev_func, ofConst_int, ofConst_bool, ofConst_str, ofConst_nil, upd_apply, Nat.reduceEqDiff, ↓reduceIte] <;> exact rfl) (hr : (if n > m then n else m) = r := by exact rfl) (hd : Nat.blt d N = true := by exact rfl) : AOp P w0 N ⟨some d, .call { callee := .builtin .max, args := #[x, y], argTypes := #[t1, t2] }, ty, pos, aft, g⟩ f es K := o_max hx hy hr k hd
theorem p_mkfn {fn : Fn} {l1 l2 : List Operand} {m1 m2 : List AV}  (k : K (upd f d (.fn fn m1 m2)) es) (h1 : l1.map (ev f) = m1 := by simp only [List.map_cons, List.map_nil, ev_tmp, upd_apply, Nat.reduceEqDiff, ↓reduceIte] <;> exact rfl) (h2 : l2.map (ev f) = m2 := by simp only [List.map_cons, List.map_nil, ev_tmp, upd_apply, Nat.reduceEqDiff, ↓reduceIte] <;> exact rfl) (hd : Nat.blt d N = true := by exact rfl) : AOp P w0 N ⟨some d, .makeFunc fn l1.toArray l2.toArray, ty, pos, aft, g⟩ f es K := o_makeFunc (h1 ▸ h2 ▸ k) hd
theorem p_box {t : TypeId} {l : List AV} (k : ∀ s, K (upd f d (.ptr es.length s 0 0)) (.row s t l.length [l] :: es)) (hx : ev f x = a := by simp only [ev_tmp, ev_const, ev_func, ofConst_int, ofConst_bool, ofConst_str, ofConst_nil, upd_apply, Nat.reduceEqDiff, ↓reduceIte] <;> exact rfl) (hc : cellsAV a = some l := by exact rfl) (hd : Nat.blt d N = true := by exact rfl) : AOp P w0 N ⟨some d, .box t x, ty, pos, aft, g⟩ f es K := o_box hx hc k hd
theorem p_alloc {t : TypeId} {l : List AV} (hz : zeroAVs P t = some l) (k : ∀ s, K (upd f d (.ptr es.length s 0 0)) (.row s t l.length [l] :: es)) (hd : Nat.blt d N = true := by exact rfl) : AOp P w0 N ⟨some d, .alloc t, ty, pos, aft, g⟩ f es K := o_alloc hz k hd
end
section
variable {K1 : Frame → List Ent → Prop} {K : Exit → Frame → List Ent → Prop} {f : Frame} {es : List Ent}
theorem k_seq_normal (h : K1 f es) : kseq K1 K .normal f es := h
theorem k_seq_exit {id : Nat} (h : K (.exit id) f es) : kseq K1 K (.exit id) f es := h
theorem k_seq_ret (h : K .ret f es) : kseq K1 K .ret f es := h
theorem k_blk_normal {id : Nat} (h : K .normal f es) : kblk id K .normal f es := h
theorem k_blk_here {id : Nat} (h : K .normal f es) : kblk id K (.exit id) f es := by simp only [kblk, if_pos]; exact h
theorem k_blk_there {id id' : Nat} (hn : id' ≠ id) (h : K (.exit id') f es) : kblk id K (.exit id') f es := by simp only [kblk, if_neg hn]; exact h
theorem k_blk_ret {id : Nat} (h : K .ret f es) : kblk id K .ret f es := h
variable {P : Program} {w0 : World} {N : Nat}
theorem w_t {b : Bool} {x : Operand} {c1 c2 : Code} (hb : b = true) (h1 : AWp P w0 N c1 f es K) (hx : ev f x = .bool b := by simp only [ev_tmp, ev_const, ev_func, ofConst_int, ofConst_bool, ofConst_str, ofConst_nil, upd_apply, Nat.reduceEqDiff, ↓reduceIte] <;> exact rfl) : AWp P w0 N (.cond x c1 c2) f es K :=
 w_cond hx (fun _ => h1) (fun e => by rw [hb] at e; cases e)
theorem w_f {b : Bool} {x : Operand} {c1 c2 : Code} (hb : b = false) (h1 : AWp P w0 N c2 f es K) (hx : ev f x = .bool b := by simp only [ev_tmp, ev_const, ev_func, ofConst_int, ofConst_bool, ofConst_str, ofConst_nil, upd_apply, Nat.reduceEqDiff, ↓reduceIte] <;> exact rfl) : AWp P w0 N (.cond x c1 c2) f es K :=
 w_cond hx (fun e => by rw [hb] at e; cases e) (fun _ => h1)
theorem w_b {b : Bool} {x : Operand} {c1 c2 : Code} (h1 : b = true → AWp P w0 N c1 f es K) (h2 : b = false → AWp P w0 N c2 f es K) (hx : ev f x = .bool b := by simp only [ev_tmp, ev_const, ev_func, ofConst_int, ofConst_bool, ofConst_str, ofConst_nil, upd_apply, Nat.reduceEqDiff, ↓reduceIte] <;> exact rfl) : AWp P w0 N (.cond x c1 c2) f es K :=
 w_cond hx h1 h2
end
section
variable {P : Program} {w0 : World} {N : Nat} {ops : Array Oper} {o : Oper} {rest : List Oper} {f : Frame} {es : List Ent} {K : Frame → List Ent → Prop}
theorem g_b {j d : Nat} {want b : Bool} (hg : o.guard = some (j, want)) (h1 : b = want → AOp P w0 N o f es fun f' es' => AList P w0 N ops rest f' es' K) (h2 : b = !want → AList P w0 N ops rest (put f o.dst (.raw undef)) es K)
  (hd : (ops[j]?).bind (·.dst) = some d := by exact rfl) (hN : Nat.blt d N = true := by exact rfl) (hb : f d = .bool b := by simp only [ofConst_int, ofConst_bool, ofConst_str, ofConst_nil, upd_apply, Nat.reduceEqDiff, ↓reduceIte] <;> exact rfl) (hdst : dok N o.dst = true := by exact rfl) : AList P w0 N ops (o :: rest) f es K := l_guard hg hd hN hb hdst h1 h2
theorem g_y {j d : Nat} {want b : Bool} (hg : o.guard = some (j, want)) (hw : b = want) (h1 : AOp P w0 N o f es fun f' es' => AList P w0 N ops rest f' es' K)
  (hd : (ops[j]?).bind (·.dst) = some d := by exact rfl) (hN : Nat.blt d N = true := by exact rfl) (hb : f d = .bool b := by simp only [ofConst_int, ofConst_bool, ofConst_str, ofConst_nil, upd_apply, Nat.reduceEqDiff, ↓reduceIte] <;> exact rfl) (hdst : dok N o.dst = true := by exact rfl) : AList P w0 N ops (o :: rest) f es K := l_guard hg hd hN hb hdst (fun _ => h1) (fun e => by rw [hw] at e; cases want <;> cases e)
theorem g_n {j d : Nat} {want b : Bool} (hg : o.guard = some (j, want)) (hw : b = !want) (h2 : AList P w0 N ops rest (put f o.dst (.raw undef)) es K)
  (hd : (ops[j]?).bind (·.dst) = some d := by exact rfl) (hN : Nat.blt d N = true := by exact rfl) (hb : f d = .bool b := by simp only [ofConst_int, ofConst_bool, ofConst_str, ofConst_nil, upd_apply, Nat.reduceEqDiff, ↓reduceIte] <;> exact rfl) (hdst : dok N o.dst = true := by exact rfl) : AList P w0 N ops (o :: rest) f es K := l_guard hg hd hN hb hdst (fun e => by rw [hw] at e; cases want <;> cases e) (fun _ => h2)
theorem g_u {j d : Nat} {want : Bool} (hg : o.guard = some (j, want)) (h2 : AList P w0 N ops rest (put f o.dst (.raw undef)) es K)
  (hd : (ops[j]?).bind (·.dst) = some d := by exact rfl) (hb : f d = .raw undef := by simp only [put, upd_apply, Nat.reduceEqDiff, ↓reduceIte] <;> exact rfl) (hdst : dok N o.dst = true := by exact rfl) : AList P w0 N ops (o :: rest) f es K := l_guard_undef hg hd hb hdst h2
end
end
section
open Go.RowKit
/-! ### frames of which a few slots are known -/
def pins : List (Nat × AV) → Frame
 | [] => bot
 | (t, a) :: r => upd (pins r) t a
def Knows (f : Frame) : List (Nat × AV) → Prop
 | [] => True
 | (t, a) :: r => f t = a ∧ Knows f r
theorem less_pins {f : Frame} : ∀ {l : List (Nat × AV)}, Knows f l → Less (pins l) f
 | [], _, t => .inr rfl
 | (u, a) :: r, h, t => by
  simp only [pins, upd]
  split
  ·rename_i e
   exact .inl (by rw [e, h.1])
  ·exact less_pins h.2 t
section
variable {P : Program} {w0 : World} {N : Nat} {f : Frame} {es es' : List Ent} {K : Exit → Frame → List Ent → Prop}
/-- Only so much is known from here on. -/
theorem w_pins (l : List (Nat × AV)) {code : Code} (hs : Sub es' es) (hk : Knows f l) (h : AWp P w0 N code (pins l) es' K) : AWp P w0 N code f es K := w_less (less_pins hk) hs h
/-- What follows is shown once, from Post on. -/
theorem w_cut {x y : Code} (Post : Frame → List Ent → Prop) (h1 : AWp P w0 N x f es (kseq Post K)) (h2 : ∀ f es, Post f es → AWp P w0 N y f es K) : AWp P w0 N (.seq x y) f es K :=
 w_seq (h1.mono fun e f' es' h => by
  cases e with
  | normal => exact h2 f' es' h
  | exit id => exact h
  | goto l => exact h
  | ret => exact h
  | panic ch => exact h
  | outgrown => exact h)
end
section
variable {P : Program} {w0 : World} {N : Nat} {f : Frame} {es : List Ent} {K : Frame → List Ent → Prop}
variable {d : Nat} {ty : TypeId} {pos : String} {aft : Array Edge} {g : Option (Nat × Bool)} {x y z : Operand} {a : AV}
theorem p_call {fid : FuncId} {l1 l2 : List AV} {args : List Operand} {ts : Array TypeId} {l : List AV} (hen : enterB P fid = true) (h : ACalls P w0 fid l es fun r es' => K (upd f d r) es')
  (hx : ev f x = .fn (.func fid) l1 l2 := by simp only [ev_tmp, ev_const, ev_func, ofConst_int, ofConst_bool, ofConst_str, ofConst_nil, upd_apply, Nat.reduceEqDiff, ↓reduceIte] <;> exact rfl) (hl : l1 ++ args.map (ev f) ++ l2 = l := by simp only [List.map_cons, List.map_nil, List.nil_append, List.append_nil, List.cons_append, ev_tmp, ev_const, ev_func, ofConst_int, ofConst_bool, ofConst_str, ofConst_nil, upd_apply, Nat.reduceEqDiff, ↓reduceIte] <;> exact rfl) (hd : Nat.blt d N = true := by exact rfl) : AOp P w0 N ⟨some d, .call { callee := .value x, args := args.toArray, argTypes := ts }, ty, pos, aft, g⟩ f es K := o_call hx hen hl h hd
/-- A call of which the answer is known, and that leaves the rows al' they are. -/
theorem p_callr {fid : FuncId} {l1 l2 : List AV} {args : List Operand} {ts : Array TypeId} {l : List AV} {r : AV} (hen : enterB P fid = true) (h : ACalls P w0 fid l es fun r' es' => r' = r ∧ es' = es) (k : K (upd f d r) es)
  (hx : ev f x = .fn (.func fid) l1 l2 := by simp only [ev_tmp, ev_const, ev_func, ofConst_int, ofConst_bool, ofConst_str, ofConst_nil, upd_apply, Nat.reduceEqDiff, ↓reduceIte] <;> exact rfl) (hl : l1 ++ args.map (ev f) ++ l2 = l := by simp only [List.map_cons, List.map_nil, List.nil_append, List.append_nil, List.cons_append, ev_tmp, ev_const, ev_func, ofConst_int, ofConst_bool, ofConst_str, ofConst_nil, upd_apply, Nat.reduceEqDiff, ↓reduceIte] <;> exact rfl) (hd : Nat.blt d N = true := by exact rfl) : AOp P w0 N ⟨some d, .call { callee := .value x, args := args.toArray, argTypes := ts }, ty, pos, aft, g⟩ f es K :=
 o_call hx hen hl (h.mono fun _ _ e => by rw [e.1, e.2]; exact k) hd
theorem p_append {t e sz b id s : Nat} {rows ys : List (List AV)} {zl : List AV} {C : Ent → List Ent} (ht : sliceB P t e sz = true) (hbt : bytesB P e b = true) (hz : zeroAVs P e = some zl)
  (k : ∀ s', K (upd f d (.own id s')) (C (.row s' e sz (rows ++ ys))))
  (hx : ev f x = .own id s := by simp only [ev_tmp, ev_const, ev_func, ofConst_int, ofConst_bool, ofConst_str, ofConst_nil, upd_apply, Nat.reduceEqDiff, ↓reduceIte] <;> exact rfl) (he : Loc es id (.row s e sz rows) C := by first | exact loc_hit | exact (loc_miss loc_hit) | exact (loc_miss (loc_miss loc_hit)) | exact (loc_miss (loc_miss (loc_miss loc_hit))) | exact (loc_miss (loc_miss (loc_miss (loc_miss loc_hit)))) | exact (loc_miss (loc_miss (loc_miss (loc_miss (loc_miss loc_hit))))) | exact (loc_miss (loc_miss (loc_miss (loc_miss (loc_miss (loc_miss loc_hit)))))) | exact (loc_miss (loc_miss (loc_miss (loc_miss (loc_miss (loc_miss (loc_miss loc_hit))))))) | exact (loc_miss (loc_miss (loc_miss (loc_miss (loc_miss (loc_miss (loc_miss (loc_miss loc_hit)))))))) | exact (loc_base (by assumption)) | exact (loc_miss (loc_base (by assumption))) | exact (loc_miss (loc_miss (loc_base (by assumption)))) | exact (loc_miss (loc_miss (loc_miss (loc_base (by assumption))))) | exact (loc_miss (loc_miss (loc_miss (loc_miss (loc_base (by assumption)))))) | exact (loc_miss (loc_miss (loc_miss (loc_miss (loc_miss (loc_base (by assumption))))))) | exact (loc_miss (loc_miss (loc_miss (loc_miss (loc_miss (loc_miss (loc_base (by assumption)))))))) | exact (loc_miss (loc_miss (loc_miss (loc_miss (loc_miss (loc_miss (loc_miss (loc_base (by assumption))))))))) | exact (loc_miss (loc_miss (loc_miss (loc_miss (loc_miss (loc_miss (loc_miss (loc_miss (loc_base (by assumption))))))))))) (hy : ev f y = a := by simp only [ev_tmp, ev_const, ev_func, ofConst_int, ofConst_bool, ofConst_str, ofConst_nil, upd_apply, Nat.reduceEqDiff, ↓reduceIte] <;> exact rfl) (hs : Src es a sz ys := by first | exact src_list | exact src_nil | exact src_own (by first | exact loc_hit | exact (loc_miss loc_hit) | exact (loc_miss (loc_miss loc_hit)) | exact (loc_miss (loc_miss (loc_miss loc_hit))) | exact (loc_miss (loc_miss (loc_miss (loc_miss loc_hit)))) | exact (loc_miss (loc_miss (loc_miss (loc_miss (loc_miss loc_hit))))) | exact (loc_miss (loc_miss (loc_miss (loc_miss (loc_miss (loc_miss loc_hit)))))) | exact (loc_miss (loc_miss (loc_miss (loc_miss (loc_miss (loc_miss (loc_miss loc_hit))))))) | exact (loc_miss (loc_miss (loc_miss (loc_miss (loc_miss (loc_miss (loc_miss (loc_miss loc_hit)))))))) | exact (loc_base (by assumption)) | exact (loc_miss (loc_base (by assumption))) | exact (loc_miss (loc_miss (loc_base (by assumption)))) | exact (loc_miss (loc_miss (loc_miss (loc_base (by assumption))))) | exact (loc_miss (loc_miss (loc_miss (loc_miss (loc_base (by assumption)))))) | exact (loc_miss (loc_miss (loc_miss (loc_miss (loc_miss (loc_base (by assumption))))))) | exact (loc_miss (loc_miss (loc_miss (loc_miss (loc_miss (loc_miss (loc_base (by assumption)))))))) | exact (loc_miss (loc_miss (loc_miss (loc_miss (loc_miss (loc_miss (loc_miss (loc_base (by assumption))))))))) | exact (loc_miss (loc_miss (loc_miss (loc_miss (loc_miss (loc_miss (loc_miss (loc_miss (loc_base (by assumption)))))))))))) (hb : (rows.length + ys.length) * b ≤ most := by first | (simp only [List.length_map, List.length_append, List.length_cons, List.length_nil, most]; omega) | (simp only [most]; omega)) (hsz : 0 < sz := by decide) (hb1 : 0 < b := by decide) (hzl : zl.length = sz := by exact rfl) (hd : Nat.blt d N = true := by exact rfl) : AOp P w0 N ⟨some d, .call { callee := .builtin .append, args := #[x, y], argTypes := #[t, t] }, ty, pos, aft, g⟩ f es K :=
 o_append ht hbt (by rw [hz]; simp [hzl]) hsz hb1 hx he hy hs hb k hd
theorem p_buildSlice {t e sz len : Nat} {zl l : List AV} {rows : List (List AV)} {parts : List (Nat × Operand)} (ht : sliceB P t e sz = true) (hz : zeroAVs P e = some zl)
  (k : ∀ s, K (upd f d (.own es.length s)) (.row s e sz rows :: es)) (hb : len * sz ≤ 2 ^ 24 := by decide) (hzl : zl.length = sz := by exact rfl) (hsz : 0 < sz := by decide)
  (hl : fillAV (fun i => some (i * sz, sz)) (List.replicate len zl).flatten (parts.map fun p => (p.1, ev f p.2)) = some l := by simp only [List.map_cons, List.map_nil, List.nil_append, List.append_nil, List.cons_append, ev_tmp, ev_const, ev_func, ofConst_int, ofConst_bool, ofConst_str, ofConst_nil, upd_apply, Nat.reduceEqDiff, ↓reduceIte] <;> exact rfl) (hll : l.length = len * sz := by exact rfl) (hr : chunk len sz l = rows := by first | (simp only [chunk, List.replicate_succ, List.replicate_zero, List.flatten_cons, List.flatten_nil, List.append_nil, List.nil_append, List.cons_append, List.take_succ_cons, List.take_zero, List.drop_succ_cons, List.drop_zero, List.drop_nil, List.take_nil, Nat.reduceMul, Nat.reduceAdd, Nat.zero_mul, Nat.zero_add, List.length_cons, List.length_nil, List.set_cons_zero, List.set_cons_succ] <;> exact rfl) | exact rfl) (hd : Nat.blt d N = true := by exact rfl) : AOp P w0 N ⟨some d, .buildSlice t len parts.toArray, ty, pos, aft, g⟩ f es K :=
 o_buildSlice ht hb hz hzl hsz hl hll hr k hd
/-- A row that is laid and never written: a list. -/
theorem op_freeze {o : Oper} {sz e : Nat} {rows : List (List AV)} (hc : rows.all cleans = true) (k : K (upd f d (.list sz rows)) es) (h : AOp P w0 N o f es fun f' es' => ∃ s, f' = upd f d (.own es.length s) ∧ es' = .row s e sz rows :: es) : AOp P w0 N o f es K := by
 intro c A next Q ok rf hn
 refine h c A next Q ok rf fun c' es' f' A' x ok' rf' hk => ?_
 obtain ⟨s, rfl, rfl⟩ := hk
 have hid : at_ (.row s e sz rows :: es) es.length = some (.row s e sz rows) := at_hit _ _
 have x2 := ext_freeze (c := c') (es := .row s e sz rows :: es) es.length
 have ok2 := ok_freeze ok' hid
 rw [setAt_hit] at x2 ok2
 have hs : Sub es (Ent.dead :: es) := Sub.tail _ _
 have x3 := x2.trans (hs.ext _)
 refine hn (c'.freeze es.length) es (upd f d (.list sz rows)) A' (x.trans x3) (hs.ok ok2) ⟨rf'.size, fun u => ?_, rf'.defers⟩ k
 by_cases hu : u = d
 ·subst hu
  rw [upd_same]
  have := rf'.rep u
  rw [upd_same] at this
  simp only [Rep] at this
  obtain ⟨_, he, _, h1, h2⟩ := this
  injection he with he
  subst he
  rw [h2 _ _ _ hid]
  exact rep_freeze ok' hid hc _
 ·have := rf'.rep u
  rw [upd_ne _ _ hu] at this ⊢
  exact Rep.ext (es := some _) (es' := some _) _ x3 this
theorem p_buildList {t e sz len : Nat} {zl l : List AV} {rows : List (List AV)} {parts : List (Nat × Operand)} (ht : sliceB P t e sz = true) (hz : zeroAVs P e = some zl)
  (k : K (upd f d (.list sz rows)) es) (hb : len * sz ≤ 2 ^ 24 := by decide) (hzl : zl.length = sz := by exact rfl) (hsz : 0 < sz := by decide)
  (hl : fillAV (fun i => some (i * sz, sz)) (List.replicate len zl).flatten (parts.map fun p => (p.1, ev f p.2)) = some l := by simp only [List.map_cons, List.map_nil, List.nil_append, List.append_nil, List.cons_append, ev_tmp, ev_const, ev_func, ofConst_int, ofConst_bool, ofConst_str, ofConst_nil, upd_apply, Nat.reduceEqDiff, ↓reduceIte] <;> exact rfl) (hll : l.length = len * sz := by exact rfl) (hr : chunk len sz l = rows := by first | (simp only [chunk, List.replicate_succ, List.replicate_zero, List.flatten_cons, List.flatten_nil, List.append_nil, List.nil_append, List.cons_append, List.take_succ_cons, List.take_zero, List.drop_succ_cons, List.drop_zero, List.drop_nil, List.take_nil, Nat.reduceMul, Nat.reduceAdd, Nat.zero_mul, Nat.zero_add, List.length_cons, List.length_nil, List.set_cons_zero, List.set_cons_succ] <;> exact rfl) | exact rfl) (hc : rows.all cleans = true := by exact rfl) (hd : Nat.blt d N = true := by exact rfl) : AOp P w0 N ⟨some d, .buildSlice t len parts.toArray, ty, pos, aft, g⟩ f es K :=
 op_freeze hc k (o_buildSlice ht hb hz hzl hsz hl hll hr (fun s => ⟨s, rfl, rfl⟩) hd)
theorem p_makeSlice {t e sz b : Nat} {zl : List AV} {k1 k2 : IntKind} {n : Int} (ht : sliceB P t e sz = true) (hbt : bytesB P e b = true) (hz : zeroAVs P e = some zl) 
  (k : ∀ s, K (upd f d (.own es.length s)) (.row s e sz (List.replicate n.toNat zl) :: es)) (hzl : zl.length = sz := by exact rfl) (hsz : 0 < sz := by decide) (hx : ev f x = .int k1 n := by simp only [ev_tmp, ev_const, ev_func, ofConst_int, ofConst_bool, ofConst_str, ofConst_nil, upd_apply, Nat.reduceEqDiff, ↓reduceIte] <;> exact rfl) (hy : ev f y = .int k2 n := by simp only [ev_tmp, ev_const, ev_func, ofConst_int, ofConst_bool, ofConst_str, ofConst_nil, upd_apply, Nat.reduceEqDiff, ↓reduceIte] <;> exact rfl) (h0 : 0 ≤ n := by omega) (hn : n ≤ most := by first | (simp only [most]; omega) | omega) (hb : n * b ≤ 281474976710656 := by omega) (hd : Nat.blt d N = true := by exact rfl) : AOp P w0 N ⟨some d, .makeSlice t x y, ty, pos, aft, g⟩ f es K :=
 o_makeSlice ht hbt hz hzl hsz hx hy h0 hn hb k hd
theorem p_slicel {t e sz l h : Nat} {lo hi : Option Operand} {rows : List (List AV)} (ht : sliceB P t e sz = true) (k : K (upd f d (.list sz ((rows.take h).drop l))) es) (hx : ev f x = .list sz rows := by simp only [ev_tmp, ev_const, ev_func, ofConst_int, ofConst_bool, ofConst_str, ofConst_nil, upd_apply, Nat.reduceEqDiff, ↓reduceIte] <;> exact rfl) (hlo : Bnd f lo 0 l := by first | exact rfl | exact List.length_map _ | (refine ⟨.i64, ?_⟩; simp only [ev_tmp, ev_const, ev_func, ofConst_int, ofConst_bool, ofConst_str, ofConst_nil, upd_apply, Nat.reduceEqDiff, ↓reduceIte] <;> first | exact rfl | (congr 1; omega) | (congr 1; simp only [List.length_map]; omega))) (hhi : Bnd f hi rows.length h := by first | exact rfl | exact List.length_map _ | (refine ⟨.i64, ?_⟩; simp only [ev_tmp, ev_const, ev_func, ofConst_int, ofConst_bool, ofConst_str, ofConst_nil, upd_apply, Nat.reduceEqDiff, ↓reduceIte] <;> first | exact rfl | (congr 1; omega) | (congr 1; simp only [List.length_map]; omega))) (hlh : l ≤ h := by omega) (hh : h ≤ rows.length := by first | omega | (simp only [List.length_map]; omega)) (hd : Nat.blt d N = true := by exact rfl) : AOp P w0 N ⟨some d, .slice t x lo hi none, ty, pos, aft, g⟩ f es K := o_slice_list hx ht hlo hhi hlh hh rfl k hd
theorem p_sliceo {t e sz id s h : Nat} {lo hi : Option Operand} {rows : List (List AV)} {C : Ent → List Ent} (ht : sliceB P t e sz = true) (k : ∀ s', K (upd f d (.own id s')) (C (.row s' e sz (rows.take h)))) (hx : ev f x = .own id s := by simp only [ev_tmp, ev_const, ev_func, ofConst_int, ofConst_bool, ofConst_str, ofConst_nil, upd_apply, Nat.reduceEqDiff, ↓reduceIte] <;> exact rfl) (he : Loc es id (.row s e sz rows) C := by first | exact loc_hit | exact (loc_miss loc_hit) | exact (loc_miss (loc_miss loc_hit)) | exact (loc_miss (loc_miss (loc_miss loc_hit))) | exact (loc_miss (loc_miss (loc_miss (loc_miss loc_hit)))) | exact (loc_miss (loc_miss (loc_miss (loc_miss (loc_miss loc_hit))))) | exact (loc_miss (loc_miss (loc_miss (loc_miss (loc_miss (loc_miss loc_hit)))))) | exact (loc_miss (loc_miss (loc_miss (loc_miss (loc_miss (loc_miss (loc_miss loc_hit))))))) | exact (loc_miss (loc_miss (loc_miss (loc_miss (loc_miss (loc_miss (loc_miss (loc_miss loc_hit)))))))) | exact (loc_base (by assumption)) | exact (loc_miss (loc_base (by assumption))) | exact (loc_miss (loc_miss (loc_base (by assumption)))) | exact (loc_miss (loc_miss (loc_miss (loc_base (by assumption))))) | exact (loc_miss (loc_miss (loc_miss (loc_miss (loc_base (by assumption)))))) | exact (loc_miss (loc_miss (loc_miss (loc_miss (loc_miss (loc_base (by assumption))))))) | exact (loc_miss (loc_miss (loc_miss (loc_miss (loc_miss (loc_miss (loc_base (by assumption)))))))) | exact (loc_miss (loc_miss (loc_miss (loc_miss (loc_miss (loc_miss (loc_miss (loc_base (by assumption))))))))) | exact (loc_miss (loc_miss (loc_miss (loc_miss (loc_miss (loc_miss (loc_miss (loc_miss (loc_base (by assumption))))))))))) (hlo : Bnd f lo 0 0 := by first | exact rfl | exact List.length_map _ | (refine ⟨.i64, ?_⟩; simp only [ev_tmp, ev_const, ev_func, ofConst_int, ofConst_bool, ofConst_str, ofConst_nil, upd_apply, Nat.reduceEqDiff, ↓reduceIte] <;> first | exact rfl | (congr 1; omega) | (congr 1; simp only [List.length_map]; omega))) (hhi : Bnd f hi rows.length h := by first | exact rfl | exact List.length_map _ | (refine ⟨.i64, ?_⟩; simp only [ev_tmp, ev_const, ev_func, ofConst_int, ofConst_bool, ofConst_str, ofConst_nil, upd_apply, Nat.reduceEqDiff, ↓reduceIte] <;> first | exact rfl | (congr 1; omega) | (congr 1; simp only [List.length_map]; omega))) (hh : h ≤ rows.length := by first | omega | (simp only [List.length_map]; omega)) (hd : Nat.blt d N = true := by exact rfl) : AOp P w0 N ⟨some d, .slice t x lo hi none, ty, pos, aft, g⟩ f es K := o_slice_own hx he ht hlo hhi hh k hd
theorem p_field {t : TypeId} {fl off n : Nat} {agg : Bool} {l : List AV} (hf : fieldV P t fl off agg n = true) (k : K (upd f d a) es) (hx : ev f x = .agg l := by simp only [ev_tmp, ev_const, ev_func, ofConst_int, ofConst_bool, ofConst_str, ofConst_nil, upd_apply, Nat.reduceEqDiff, ↓reduceIte] <;> exact rfl) (hn : agg = false → n = 1 := by first | (intro h; cases h; done) | exact fun _ => rfl) (hl : off + n ≤ l.length := by first | exact Nat.le_of_ble_eq_true rfl | decide | (simp; done) | omega) (ha : loadAV agg n l off = a := by (conv => lhs; whnf) <;> exact rfl) (hd : Nat.blt d N = true := by exact rfl) : AOp P w0 N ⟨some d, .field t x fl, ty, pos, aft, g⟩ f es K := o_field hx hf hn hl ha k hd
theorem p_cmpl (b : Bool) {op : BinOp} {t u : TypeId} {k' : IntKind} {m n : Int} (k : K (upd f d (.bool b)) es) (hx : ev f x = .int k' m := by simp only [ev_tmp, ev_const, ev_func, ofConst_int, ofConst_bool, ofConst_str, ofConst_nil, upd_apply, Nat.reduceEqDiff, ↓reduceIte] <;> exact rfl) (hy : ev f y = .int k' n := by simp only [ev_tmp, ev_const, ev_func, ofConst_int, ofConst_bool, ofConst_str, ofConst_nil, upd_apply, Nat.reduceEqDiff, ↓reduceIte] <;> exact rfl) (hb : cmpI op m n = some b := by exact rfl) (hd : Nat.blt d N = true := by exact rfl) : AOp P w0 N ⟨some d, .binOp op t x y u, ty, pos, aft, g⟩ f es K := o_cmp hx hy hb k hd
theorem p_arithl (r : Int) {op : BinOp} {t u : TypeId} {k' : IntKind} {m n : Int} (k : K (upd f d (.int k' r)) es) (hx : ev f x = .int k' m := by simp only [ev_tmp, ev_const, ev_func, ofConst_int, ofConst_bool, ofConst_str, ofConst_nil, upd_apply, Nat.reduceEqDiff, ↓reduceIte] <;> exact rfl) (hy : ev f y = .int k' n := by simp only [ev_tmp, ev_const, ev_func, ofConst_int, ofConst_bool, ofConst_str, ofConst_nil, upd_apply, Nat.reduceEqDiff, ↓reduceIte] <;> exact rfl) (hb : arithI op k' m n = some r := by exact rfl) (hd : Nat.blt d N = true := by exact rfl) : AOp P w0 N ⟨some d, .binOp op t x y u, ty, pos, aft, g⟩ f es K := o_arith hx hy hb k hd
theorem p_buildArr {t n e sz : Nat} {zl l : List AV} {parts : List (Nat × Operand)} (hz : zeroAVs P t = some zl) (hq : arrB P t n e sz = true) (k : K (upd f d (.agg l)) es) (hl : fillAV (fun i => some (i * sz, sz)) zl (parts.map fun p => (p.1, ev f p.2)) = some l := by simp only [List.map_cons, List.map_nil, List.nil_append, List.append_nil, List.cons_append, ev_tmp, ev_const, ev_func, ofConst_int, ofConst_bool, ofConst_str, ofConst_nil, upd_apply, Nat.reduceEqDiff, ↓reduceIte] <;> exact rfl) (hd : Nat.blt d N = true := by exact rfl) : AOp P w0 N ⟨some d, .build t parts.toArray, ty, pos, aft, g⟩ f es K := o_build_arr hz hq hl k hd
theorem p_build {t : TypeId} {zl l : List AV} {q : List (Nat × Nat)} {parts : List (Nat × Operand)} (hz : zeroAVs P t = some zl) (hq : placesOf P t = some q) (k : K (upd f d (.agg l)) es) (hl : fillAV (q[·]?) zl (parts.map fun p => (p.1, ev f p.2)) = some l := by simp only [List.map_cons, List.map_nil, List.nil_append, List.append_nil, List.cons_append, ev_tmp, ev_const, ev_func, ofConst_int, ofConst_bool, ofConst_str, ofConst_nil, upd_apply, Nat.reduceEqDiff, ↓reduceIte] <;> exact rfl) (hd : Nat.blt d N = true := by exact rfl) : AOp P w0 N ⟨some d, .build t parts.toArray, ty, pos, aft, g⟩ f es K := o_build hz hq hl k hd
end
/-! ### regions that draw -/
def usesB (o : Oper) (l : List Nat) : Bool := l.all fun t => o.op.operands.toList.any fun x => match x with | .tmp u => u == t | _ => false
theorem uses_get {o : Oper} {l : List Nat} (h : usesB o l = true) (t : Nat) (ht : t ∈ l) (f F : Frame) (hf : ∀ x ∈ o.op.operands, ev f x = ev F x) : f t = F t := by
 have := List.all_eq_true.1 h t ht
 rw [List.any_eq_true] at this
 obtain ⟨x, hx, hb⟩ := this
 have hx : x ∈ o.op.operands := by simpa using hx
 cases x with
 | tmp u =>
  have e : u = t := by simpa using hb
  subst e
  exact hf _ hx
 | _ => simp at hb
section
variable {P : Program} {w0 : World} {N : Nat} {G : List Ent → Prop} {ops : Array Oper} {o : Oper} {rest : List Oper} {F : Frame} {kk : Frame → Prop}
theorem q0 {d : Nat} {v : AV} (hg : o.guard = none) (hu : usesB o [] = true)
  (h : ∀ f es, G es → AOp P w0 N o f es fun f' e' => e' = es ∧ f' = upd f d v) (k : QList P w0 N G ops rest (upd F d v) kk) (hd : o.dst = some d := by exact rfl) (hN : Nat.blt d N = true := by exact rfl) : QList P w0 N G ops (o :: rest) F kk := by
 have mk : ∀ es, G es → QOp P w0 N o F v es := by
  intro es hG f hf
  skip
  have hh := h f es hG
  skip
  exact hh.mono fun f' e' hk => ⟨hk.1, by rw [hk.2, hd]; rfl⟩
 refine ⟨d, v, hd, hN, ?_, k⟩
 unfold QStep
 rw [hg]
 exact fun es hG f hf => mk es hG f hf
theorem q1 (t1 : Nat) {a1 : AV} {d : Nat} {v : AV} (hg : o.guard = none) (h1 : F t1 = a1 := by simp only [ofConst_int, ofConst_bool, ofConst_str, ofConst_nil, upd_apply, Nat.reduceEqDiff, ↓reduceIte] <;> exact rfl) (hu : usesB o [t1] = true)
  (h : ∀ f es, G es → AOp P w0 N o (upd f t1 a1) es fun f' e' => e' = es ∧ f' = upd (upd f t1 a1) d v) (k : QList P w0 N G ops rest (upd F d v) kk) (hd : o.dst = some d := by exact rfl) (hN : Nat.blt d N = true := by exact rfl) : QList P w0 N G ops (o :: rest) F kk := by
 have mk : ∀ es, G es → QOp P w0 N o F v es := by
  intro es hG f hf
  have e1 : f t1 = a1 := (uses_get hu t1 (by simp) f F hf).trans h1
  have hh := h f es hG
  rw [upd_self f t1 a1 e1] at hh;
  exact hh.mono fun f' e' hk => ⟨hk.1, by rw [hk.2, hd]; rfl⟩
 refine ⟨d, v, hd, hN, ?_, k⟩
 unfold QStep
 rw [hg]
 exact fun es hG f hf => mk es hG f hf
theorem qy1 (t1 : Nat) {a1 : AV} {d : Nat} {v : AV} {j gd : Nat} {want b : Bool} (hg : o.guard = some (j, want)) (hw : b = want) (h1 : F t1 = a1 := by simp only [ofConst_int, ofConst_bool, ofConst_str, ofConst_nil, upd_apply, Nat.reduceEqDiff, ↓reduceIte] <;> exact rfl) (hu : usesB o [t1] = true)
  (h : ∀ f es, G es → AOp P w0 N o (upd f t1 a1) es fun f' e' => e' = es ∧ f' = upd (upd f t1 a1) d v) (k : QList P w0 N G ops rest (upd F d v) kk) (hgd : (ops[j]?).bind (·.dst) = some gd := by exact rfl) (hgN : Nat.blt gd N = true := by exact rfl) (hgb : F gd = .bool b := by simp only [ofConst_int, ofConst_bool, ofConst_str, ofConst_nil, upd_apply, Nat.reduceEqDiff, ↓reduceIte] <;> exact rfl) (hd : o.dst = some d := by exact rfl) (hN : Nat.blt d N = true := by exact rfl) : QList P w0 N G ops (o :: rest) F kk := by
 have mk : ∀ es, G es → QOp P w0 N o F v es := by
  intro es hG f hf
  have e1 : f t1 = a1 := (uses_get hu t1 (by simp) f F hf).trans h1
  have hh := h f es hG
  rw [upd_self f t1 a1 e1] at hh;
  exact hh.mono fun f' e' hk => ⟨hk.1, by rw [hk.2, hd]; rfl⟩
 refine ⟨d, v, hd, hN, ?_, k⟩
 unfold QStep
 rw [hg]
 exact ⟨gd, hgd, hgN, .inl ⟨by rw [hgb, hw], fun es hG f hf => mk es hG f hf⟩⟩
theorem q2 (t1 t2 : Nat) {a1 a2 : AV} {d : Nat} {v : AV} (hg : o.guard = none) (h1 : F t1 = a1 := by simp only [ofConst_int, ofConst_bool, ofConst_str, ofConst_nil, upd_apply, Nat.reduceEqDiff, ↓reduceIte] <;> exact rfl) (h2 : F t2 = a2 := by simp only [ofConst_int, ofConst_bool, ofConst_str, ofConst_nil, upd_apply, Nat.reduceEqDiff, ↓reduceIte] <;> exact rfl) (hu : usesB o [t1, t2] = true)
  (h : ∀ f es, G es → AOp P w0 N o (upd (upd f t1 a1) t2 a2) es fun f' e' => e' = es ∧ f' = upd (upd (upd f t1 a1) t2 a2) d v) (k : QList P w0 N G ops rest (upd F d v) kk) (hd : o.dst = some d := by exact rfl) (hN : Nat.blt d N = true := by exact rfl) : QList P w0 N G ops (o :: rest) F kk := by
 have mk : ∀ es, G es → QOp P w0 N o F v es := by
  intro es hG f hf
  have e1 : f t1 = a1 := (uses_get hu t1 (by simp) f F hf).trans h1
  have e2 : f t2 = a2 := (uses_get hu t2 (by simp) f F hf).trans h2
  have hh := h f es hG
  rw [upd_self f t1 a1 e1] at hh; rw [upd_self f t2 a2 e2] at hh;
  exact hh.mono fun f' e' hk => ⟨hk.1, by rw [hk.2, hd]; rfl⟩
 refine ⟨d, v, hd, hN, ?_, k⟩
 unfold QStep
 rw [hg]
 exact fun es hG f hf => mk es hG f hf
theorem qy2 (t1 t2 : Nat) {a1 a2 : AV} {d : Nat} {v : AV} {j gd : Nat} {want b : Bool} (hg : o.guard = some (j, want)) (hw : b = want) (h1 : F t1 = a1 := by simp only [ofConst_int, ofConst_bool, ofConst_str, ofConst_nil, upd_apply, Nat.reduceEqDiff, ↓reduceIte] <;> exact rfl) (h2 : F t2 = a2 := by simp only [ofConst_int, ofConst_bool, ofConst_str, ofConst_nil, upd_apply, Nat.reduceEqDiff, ↓reduceIte] <;> exact rfl) (hu : usesB o [t1, t2] = true)
  (h : ∀ f es, G es → AOp P w0 N o (upd (upd f t1 a1) t2 a2) es fun f' e' => e' = es ∧ f' = upd (upd (upd f t1 a1) t2 a2) d v) (k : QList P w0 N G ops rest (upd F d v) kk) (hgd : (ops[j]?).bind (·.dst) = some gd := by exact rfl) (hgN : Nat.blt gd N = true := by exact rfl) (hgb : F gd = .bool b := by simp only [ofConst_int, ofConst_bool, ofConst_str, ofConst_nil, upd_apply, Nat.reduceEqDiff, ↓reduceIte] <;> exact rfl) (hd : o.dst = some d := by exact rfl) (hN : Nat.blt d N = true := by exact rfl) : QList P w0 N G ops (o :: rest) F kk := by
 have mk : ∀ es, G es → QOp P w0 N o F v es := by
  intro es hG f hf
  have e1 : f t1 = a1 := (uses_get hu t1 (by simp) f F hf).trans h1
  have e2 : f t2 = a2 := (uses_get hu t2 (by simp) f F hf).trans h2
  have hh := h f es hG
  rw [upd_self f t1 a1 e1] at hh; rw [upd_self f t2 a2 e2] at hh;
  exact hh.mono fun f' e' hk => ⟨hk.1, by rw [hk.2, hd]; rfl⟩
 refine ⟨d, v, hd, hN, ?_, k⟩
 unfold QStep
 rw [hg]
 exact ⟨gd, hgd, hgN, .inl ⟨by rw [hgb, hw], fun es hG f hf => mk es hG f hf⟩⟩
theorem q3 (t1 t2 t3 : Nat) {a1 a2 a3 : AV} {d : Nat} {v : AV} (hg : o.guard = none) (h1 : F t1 = a1 := by simp only [ofConst_int, ofConst_bool, ofConst_str, ofConst_nil, upd_apply, Nat.reduceEqDiff, ↓reduceIte] <;> exact rfl) (h2 : F t2 = a2 := by simp only [ofConst_int, ofConst_bool, ofConst_str, ofConst_nil, upd_apply, Nat.reduceEqDiff, ↓reduceIte] <;> exact rfl) (h3 : F t3 = a3 := by simp only [ofConst_int, ofConst_bool, ofConst_str, ofConst_nil, upd_apply, Nat.reduceEqDiff, ↓reduceIte] <;> exact rfl) (hu : usesB o [t1, t2, t3] = true)
  (h : ∀ f es, G es → AOp P w0 N o (upd (upd (upd f t1 a1) t2 a2) t3 a3) es fun f' e' => e' = es ∧ f' = upd (upd (upd (upd f t1 a1) t2 a2) t3 a3) d v) (k : QList P w0 N G ops rest (upd F d v) kk) (hd : o.dst = some d := by exact rfl) (hN : Nat.blt d N = true := by exact rfl) : QList P w0 N G ops (o :: rest) F kk := by
 have mk : ∀ es, G es → QOp P w0 N o F v es := by
  intro es hG f hf
  have e1 : f t1 = a1 := (uses_get hu t1 (by simp) f F hf).trans h1
  have e2 : f t2 = a2 := (uses_get hu t2 (by simp) f F hf).trans h2
  have e3 : f t3 = a3 := (uses_get hu t3 (by simp) f F hf).trans h3
  have hh := h f es hG
  rw [upd_self f t1 a1 e1] at hh; rw [upd_self f t2 a2 e2] at hh; rw [upd_self f t3 a3 e3] at hh;
  exact hh.mono fun f' e' hk => ⟨hk.1, by rw [hk.2, hd]; rfl⟩
 refine ⟨d, v, hd, hN, ?_, k⟩
 unfold QStep
 rw [hg]
 exact fun es hG f hf => mk es hG f hf
theorem q4 (t1 t2 t3 t4 : Nat) {a1 a2 a3 a4 : AV} {d : Nat} {v : AV} (hg : o.guard = none) (h1 : F t1 = a1 := by simp only [ofConst_int, ofConst_bool, ofConst_str, ofConst_nil, upd_apply, Nat.reduceEqDiff, ↓reduceIte] <;> exact rfl) (h2 : F t2 = a2 := by simp only [ofConst_int, ofConst_bool, ofConst_str, ofConst_nil, upd_apply, Nat.reduceEqDiff, ↓reduceIte] <;> exact rfl) (h3 : F t3 = a3 := by simp only [ofConst_int, ofConst_bool, ofConst_str, ofConst_nil, upd_apply, Nat.reduceEqDiff, ↓reduceIte] <;> exact rfl) (h4 : F t4 = a4 := by simp only [ofConst_int, ofConst_bool, ofConst_str, ofConst_nil, upd_apply, Nat.reduceEqDiff, ↓reduceIte] <;> exact rfl) (hu : usesB o [t1, t2, t3, t4] = true)
  (h : ∀ f es, G es → AOp P w0 N o (upd (upd (upd (upd f t1 a1) t2 a2) t3 a3) t4 a4) es fun f' e' => e' = es ∧ f' = upd (upd (upd (upd (upd f t1 a1) t2 a2) t3 a3) t4 a4) d v) (k : QList P w0 N G ops rest (upd F d v) kk) (hd : o.dst = some d := by exact rfl) (hN : Nat.blt d N = true := by exact rfl) : QList P w0 N G ops (o :: rest) F kk := by
 have mk : ∀ es, G es → QOp P w0 N o F v es := by
  intro es hG f hf
  have e1 : f t1 = a1 := (uses_get hu t1 (by simp) f F hf).trans h1
  have e2 : f t2 = a2 := (uses_get hu t2 (by simp) f F hf).trans h2
  have e3 : f t3 = a3 := (uses_get hu t3 (by simp) f F hf).trans h3
  have e4 : f t4 = a4 := (uses_get hu t4 (by simp) f F hf).trans h4
  have hh := h f es hG
  rw [upd_self f t1 a1 e1] at hh; rw [upd_self f t2 a2 e2] at hh; rw [upd_self f t3 a3 e3] at hh; rw [upd_self f t4 a4 e4] at hh;
  exact hh.mono fun f' e' hk => ⟨hk.1, by rw [hk.2, hd]; rfl⟩
 refine ⟨d, v, hd, hN, ?_, k⟩
 unfold QStep
 rw [hg]
 exact fun es hG f hf => mk es hG f hf
theorem q5 (t1 t2 t3 t4 t5 : Nat) {a1 a2 a3 a4 a5 : AV} {d : Nat} {v : AV} (hg : o.guard = none) (h1 : F t1 = a1 := by simp only [ofConst_int, ofConst_bool, ofConst_str, ofConst_nil, upd_apply, Nat.reduceEqDiff, ↓reduceIte] <;> exact rfl) (h2 : F t2 = a2 := by simp only [ofConst_int, ofConst_bool, ofConst_str, ofConst_nil, upd_apply, Nat.reduceEqDiff, ↓reduceIte] <;> exact rfl) (h3 : F t3 = a3 := by simp only [ofConst_int, ofConst_bool, ofConst_str, ofConst_nil, upd_apply, Nat.reduceEqDiff, ↓reduceIte] <;> exact rfl) (h4 : F t4 = a4 := by simp only [ofConst_int, ofConst_bool, ofConst_str, ofConst_nil, upd_apply, Nat.reduceEqDiff, ↓reduceIte] <;> exact rfl) (h5 : F t5 = a5 := by simp only [ofConst_int, ofConst_bool, ofConst_str, ofConst_nil, upd_apply, Nat.reduceEqDiff, ↓reduceIte] <;> exact rfl) (hu : usesB o [t1, t2, t3, t4, t5] = true)
  (h : ∀ f es, G es → AOp P w0 N o (upd (upd (upd (upd (upd f t1 a1) t2 a2) t3 a3) t4 a4) t5 a5) es fun f' e' => e' = es ∧ f' = upd (upd (upd (upd (upd (upd f t1 a1) t2 a2) t3 a3) t4 a4) t5 a5) d v) (k : QList P w0 N G ops rest (upd F d v) kk) (hd : o.dst = some d := by exact rfl) (hN : Nat.blt d N = true := by exact rfl) : QList P w0 N G ops (o :: rest) F kk := by
 have mk : ∀ es, G es → QOp P w0 N o F v es := by
  intro es hG f hf
  have e1 : f t1 = a1 := (uses_get hu t1 (by simp) f F hf).trans h1
  have e2 : f t2 = a2 := (uses_get hu t2 (by simp) f F hf).trans h2
  have e3 : f t3 = a3 := (uses_get hu t3 (by simp) f F hf).trans h3
  have e4 : f t4 = a4 := (uses_get hu t4 (by simp) f F hf).trans h4
  have e5 : f t5 = a5 := (uses_get hu t5 (by simp) f F hf).trans h5
  have hh := h f es hG
  rw [upd_self f t1 a1 e1] at hh; rw [upd_self f t2 a2 e2] at hh; rw [upd_self f t3 a3 e3] at hh; rw [upd_self f t4 a4 e4] at hh; rw [upd_self f t5 a5 e5] at hh;
  exact hh.mono fun f' e' hk => ⟨hk.1, by rw [hk.2, hd]; rfl⟩
 refine ⟨d, v, hd, hN, ?_, k⟩
 unfold QStep
 rw [hg]
 exact fun es hG f hf => mk es hG f hf
theorem qn {j gd d : Nat} {want b : Bool} (hg : o.guard = some (j, want)) (hw : b = !want) (k : QList P w0 N G ops rest (upd F d (.raw undef)) kk) (hd : o.dst = some d := by exact rfl) (hN : Nat.blt d N = true := by exact rfl)
  (hgd : (ops[j]?).bind (·.dst) = some gd := by exact rfl) (hgN : Nat.blt gd N = true := by exact rfl) (hgb : F gd = .bool b := by simp only [ofConst_int, ofConst_bool, ofConst_str, ofConst_nil, upd_apply, Nat.reduceEqDiff, ↓reduceIte] <;> exact rfl) : QList P w0 N G ops (o :: rest) F kk := by
 refine ⟨d, .raw undef, hd, hN, ?_, k⟩
 unfold QStep
 rw [hg]
 exact ⟨gd, hgd, hgN, .inr ⟨.inl (by rw [hgb, hw]), rfl⟩⟩
theorem q_end (h : kk F) : QList P w0 N G ops [] F kk := h
variable {es : List Ent} {k2 : Frame → List Ent → Prop}
theorem qsplit (gd : Nat) {b : Bool} (h1 : b = true → QList P w0 N G ops rest F kk) (h2 : b = false → QList P w0 N G ops rest F kk) (hgb : F gd = .bool b := by simp only [ofConst_int, ofConst_bool, ofConst_str, ofConst_nil, upd_apply, Nat.reduceEqDiff, ↓reduceIte] <;> exact rfl) : QList P w0 N G ops rest F kk := by
 cases b with
 | true => exact h1 rfl
 | false => exact h2 rfl
theorem m0 {d : Nat} (hu : usesB o [] = true) (h : ∀ f, AOp P w0 N o f es fun f' es' => ∃ v, f' = upd f d v ∧ G es' ∧ MList P w0 N G rest (upd F d v) es' k2) (hd : o.dst = some d := by exact rfl) : MList P w0 N G (o :: rest) F es k2 := by
 intro f hf
 skip
 have hh := h f
 skip
 exact hh.mono fun f' e' ⟨v, h1, h2, h3⟩ => ⟨v, by rw [hd]; exact h1, h2, by rw [hd]; exact h3⟩
theorem m1 (t1 : Nat) {a1 : AV} {d : Nat} (h1 : F t1 = a1 := by simp only [ofConst_int, ofConst_bool, ofConst_str, ofConst_nil, upd_apply, Nat.reduceEqDiff, ↓reduceIte] <;> exact rfl) (hu : usesB o [t1] = true) (h : ∀ f, AOp P w0 N o (upd f t1 a1) es fun f' es' => ∃ v, f' = upd (upd f t1 a1) d v ∧ G es' ∧ MList P w0 N G rest (upd F d v) es' k2) (hd : o.dst = some d := by exact rfl) : MList P w0 N G (o :: rest) F es k2 := by
 intro f hf
 have e1 : f t1 = a1 := (uses_get hu t1 (by simp) f F hf).trans h1
 have hh := h f
 rw [upd_self f t1 a1 e1] at hh;
 exact hh.mono fun f' e' ⟨v, h1, h2, h3⟩ => ⟨v, by rw [hd]; exact h1, h2, by rw [hd]; exact h3⟩
theorem m2 (t1 t2 : Nat) {a1 a2 : AV} {d : Nat} (h1 : F t1 = a1 := by simp only [ofConst_int, ofConst_bool, ofConst_str, ofConst_nil, upd_apply, Nat.reduceEqDiff, ↓reduceIte] <;> exact rfl) (h2 : F t2 = a2 := by simp only [ofConst_int, ofConst_bool, ofConst_str, ofConst_nil, upd_apply, Nat.reduceEqDiff, ↓reduceIte] <;> exact rfl) (hu : usesB o [t1, t2] = true) (h : ∀ f, AOp P w0 N o (upd (upd f t1 a1) t2 a2) es fun f' es' => ∃ v, f' = upd (upd (upd f t1 a1) t2 a2) d v ∧ G es' ∧ MList P w0 N G rest (upd F d v) es' k2) (hd : o.dst = some d := by exact rfl) : MList P w0 N G (o :: rest) F es k2 := by
 intro f hf
 have e1 : f t1 = a1 := (uses_get hu t1 (by simp) f F hf).trans h1
 have e2 : f t2 = a2 := (uses_get hu t2 (by simp) f F hf).trans h2
 have hh := h f
 rw [upd_self f t1 a1 e1] at hh; rw [upd_self f t2 a2 e2] at hh;
 exact hh.mono fun f' e' ⟨v, h1, h2, h3⟩ => ⟨v, by rw [hd]; exact h1, h2, by rw [hd]; exact h3⟩
theorem m5 (t1 t2 t3 t4 t5 : Nat) {a1 a2 a3 a4 a5 : AV} {d : Nat} (h1 : F t1 = a1 := by simp only [ofConst_int, ofConst_bool, ofConst_str, ofConst_nil, upd_apply, Nat.reduceEqDiff, ↓reduceIte] <;> exact rfl) (h2 : F t2 = a2 := by simp only [ofConst_int, ofConst_bool, ofConst_str, ofConst_nil, upd_apply, Nat.reduceEqDiff, ↓reduceIte] <;> exact rfl) (h3 : F t3 = a3 := by simp only [ofConst_int, ofConst_bool, ofConst_str, ofConst_nil, upd_apply, Nat.reduceEqDiff, ↓reduceIte] <;> exact rfl) (h4 : F t4 = a4 := by simp only [ofConst_int, ofConst_bool, ofConst_str, ofConst_nil, upd_apply, Nat.reduceEqDiff, ↓reduceIte] <;> exact rfl) (h5 : F t5 = a5 := by simp only [ofConst_int, ofConst_bool, ofConst_str, ofConst_nil, upd_apply, Nat.reduceEqDiff, ↓reduceIte] <;> exact rfl) (hu : usesB o [t1, t2, t3, t4, t5] = true) (h : ∀ f, AOp P w0 N o (upd (upd (upd (upd (upd f t1 a1) t2 a2) t3 a3) t4 a4) t5 a5) es fun f' es' => ∃ v, f' = upd (upd (upd (upd (upd (upd f t1 a1) t2 a2) t3 a3) t4 a4) t5 a5) d v ∧ G es' ∧ MList P w0 N G rest (upd F d v) es' k2) (hd : o.dst = some d := by exact rfl) : MList P w0 N G (o :: rest) F es k2 := by
 intro f hf
 have e1 : f t1 = a1 := (uses_get hu t1 (by simp) f F hf).trans h1
 have e2 : f t2 = a2 := (uses_get hu t2 (by simp) f F hf).trans h2
 have e3 : f t3 = a3 := (uses_get hu t3 (by simp) f F hf).trans h3
 have e4 : f t4 = a4 := (uses_get hu t4 (by simp) f F hf).trans h4
 have e5 : f t5 = a5 := (uses_get hu t5 (by simp) f F hf).trans h5
 have hh := h f
 rw [upd_self f t1 a1 e1] at hh; rw [upd_self f t2 a2 e2] at hh; rw [upd_self f t3 a3 e3] at hh; rw [upd_self f t4 a4 e4] at hh; rw [upd_self f t5 a5 e5] at hh;
 exact hh.mono fun f' e' ⟨v, h1, h2, h3⟩ => ⟨v, by rw [hd]; exact h1, h2, by rw [hd]; exact h3⟩
theorem ms2 (t1 t2 : Nat) {a1 a2 : AV} (h1 : F t1 = a1 := by simp only [ofConst_int, ofConst_bool, ofConst_str, ofConst_nil, upd_apply, Nat.reduceEqDiff, ↓reduceIte] <;> exact rfl) (h2 : F t2 = a2 := by simp only [ofConst_int, ofConst_bool, ofConst_str, ofConst_nil, upd_apply, Nat.reduceEqDiff, ↓reduceIte] <;> exact rfl) (hu : usesB o [t1, t2] = true) (h : ∀ f, AOp P w0 N o (upd (upd f t1 a1) t2 a2) es fun f' es' => f' = (upd (upd f t1 a1) t2 a2) ∧ G es' ∧ MList P w0 N G rest F es' k2) (hd : o.dst = none := by exact rfl) : MList P w0 N G (o :: rest) F es k2 := by
 intro f hf
 have e1 : f t1 = a1 := (uses_get hu t1 (by simp) f F hf).trans h1
 have e2 : f t2 = a2 := (uses_get hu t2 (by simp) f F hf).trans h2
 have hh := h f
 rw [upd_self f t1 a1 e1] at hh; rw [upd_self f t2 a2 e2] at hh;
 exact hh.mono fun f' e' ⟨h1, h2, h3⟩ => ⟨.any, by rw [hd]; exact h1, h2, by rw [hd]; exact h3⟩
theorem m_end (h : k2 F es) : MList P w0 N G [] F es k2 := h
end
section
variable {P : Program} {w0 : World} {N : Nat}
theorem w_drawn {id : Nat} {l : List Oper} {f : Frame} {es : List Ent} {K : Exit → Frame → List Ent → Prop} (m : Nat) (ms : List Nat) (G : List Ent → Prop) (hm : P.follows .mixedOrders = true) (hq : (drawOk l m ms && l.all fun o => dok N o.dst) = true) (hG : G es)
  (h : QList P w0 N G l.toArray (quietsFrom ms (l.take m) 0) f fun F => MList P w0 N G (mainsOf l ms) F es fun F' es' => AList P w0 N l.toArray (l.drop m) F' es' (K .normal)) : AWp P w0 N (.region id l.toArray true) f es K := by
 rw [Bool.and_eq_true, List.all_eq_true] at hq
 exact w_draw m ms G hm hq.1 hG hq.2 h
end
end
section
/-! ### shorter words for what the printed walks say often (the packer puts them in) -/
theorem bb : (∀ (p : Prop) [Decidable p], (decide p = true) = p) ∧ (∀ (p : Prop) [Decidable p], (decide p = false) = ¬p) ∧ (∀ b : Bool, ((!b) = true) = (b = false)) ∧ ((!false) = true) ∧ ((!true) = false) ∧ (∀ b : Bool, ((!b) = false) = (b = true)) :=
 ⟨fun p _ => decide_eq_true_eq, fun p _ => by simp, fun b => by cases b <;> simp, rfl, rfl, fun b => by cases b <;> simp⟩
theorem kn {f : Frame} {l : List (Nat × AV)} (h : Knows f l := by simp only [Knows, upd_apply, put, Nat.reduceEqDiff, ↓reduceIte, and_true, true_and, eq_self] <;> and_intros <;> rfl) : Knows f l := h
theorem ev1 {α : Type} {a b : α} (h : a = b := by simp only [ev_const, ev_tmp, ev_func, ofConst_int, ofConst_bool, ofConst_str, ofConst_nil, upd_apply, Nat.reduceEqDiff, ↓reduceIte] <;> exact rfl) : a = b := h
end
section
open Go.RowKit
/-! How the program's data are told. -/
def ints (l : List Int) : AV := .list 1 (l.map fun n => [.int .i64 n])
def bytesAV (l : List Int) : AV := .list 1 (l.map fun n => [.int .u8 n])
structure St where
 (w0 w1 w2 w3 : Int)
 to : Int
 free : List Int
def St.row (s : St) : List AV := [.int .u64 s.w0, .int .u64 s.w1, .int .u64 s.w2, .int .u64 s.w3, .int .i64 s.to, .list 1 (s.free.map fun n => [.int .i64 n])]
structure Nf where
 st : List St
 (start stop : Int)
def Nf.cells (n : Nf) : List AV := [.list 6 (n.st.map St.row), .int .i64 n.start, .int .i64 n.stop]
def Nf.av (n : Nf) : AV := .agg [.list 6 (n.st.map St.row), .int .i64 n.start, .int .i64 n.stop]
end
section
/-! ### expressions -/
structure W4 where
 (w0 w1 w2 w3 : Int)
def W4.row (s : W4) : List AV := [.int .u64 s.w0, .int .u64 s.w1, .int .u64 s.w2, .int .u64 s.w3]
def W4.ok (s : W4) : Prop := 0 ≤ s.w0 ∧ 0 ≤ s.w1 ∧ 0 ≤ s.w2 ∧ 0 ≤ s.w3 ∧ s.w0 < 18446744073709551616 ∧ s.w1 < 18446744073709551616 ∧ s.w2 < 18446744073709551616 ∧ s.w3 < 18446744073709551616
inductive Rx where
 | mk (kind : Int) (set : W4) (args : List Rx)
instance : Inhabited Rx := ⟨.mk 0 ⟨0, 0, 0, 0⟩ []⟩
def Rx.kind : Rx → Int
 | .mk k _ _ => k
def Rx.set : Rx → W4
 | .mk _ s _ => s
def Rx.args : Rx → List Rx
 | .mk _ _ l => l
mutual
def Rx.cellsM : Rx → List AV
 | .mk k s l => [.int .i64 k, .int .u64 s.w0, .int .u64 s.w1, .int .u64 s.w2, .int .u64 s.w3, .list 6 (Rx.rows l)]
def Rx.rows : List Rx → List (List AV)
 | [] => []
 | r :: t => r.cellsM :: Rx.rows t
end
/-- The same, open to whoever reads a field. -/
def Rx.cells (r : Rx) : List AV := [.int .i64 r.kind, .int .u64 r.set.w0, .int .u64 r.set.w1, .int .u64 r.set.w2, .int .u64 r.set.w3, .list 6 (Rx.rows r.args)]
theorem Rx.cellsM_eq (r : Rx) : r.cellsM = r.cells := by
 cases r
 simp only [Rx.cellsM, Rx.cells, Rx.kind, Rx.set, Rx.args]
theorem Rx.rows_eq : ∀ l : List Rx, Rx.rows l = l.map Rx.cells
 | [] => by simp only [Rx.rows, List.map_nil]
 | r :: t => by simp only [Rx.rows, List.map_cons, Rx.rows_eq t, Rx.cellsM_eq]
mutual
def Rx.ok : Rx → Prop
 | .mk k s l => (-9223372036854775808 ≤ k ∧ k < 9223372036854775808) ∧ s.ok ∧ Rx.oks l
def Rx.oks : List Rx → Prop
 | [] => True
 | r :: t => r.ok ∧ Rx.oks t
end
theorem Rx.oks_iff : ∀ l : List Rx, Rx.oks l ↔ ∀ r ∈ l, r.ok
 | [] => by simp [Rx.oks]
 | r :: t => by simp [Rx.oks, Rx.oks_iff t]
mutual
/-- How many parts, how deep. -/
def Rx.nodes : Rx → Nat
 | .mk _ _ l => 1 + Rx.nodesL l
def Rx.nodesL : List Rx → Nat
 | [] => 0
 | r :: t => r.nodes + Rx.nodesL t
end
mutual
def Rx.depth : Rx → Nat
 | .mk _ _ l => Rx.depthL l + 1
def Rx.depthL : List Rx → Nat
 | [] => 0
 | r :: t => max r.depth (Rx.depthL t)
end
end
section
theorem Rx.nodesL_take (l : List Rx) (k : Nat) (hk : k < l.length) : Rx.nodesL (l.take (k + 1)) = Rx.nodesL (l.take k) + l[k].nodes := by
 induction l generalizing k with
 | nil => simp at hk
 | cons a t ih =>
  cases k with
  | zero => simp [Rx.nodesL]
  | succ k =>
   simp only [List.take_succ_cons, Rx.nodesL, List.getElem_cons_succ]
   rw [ih k (by simpa using hk)]
   omega
theorem Rx.nodesL_le (l : List Rx) (k : Nat) : Rx.nodesL (l.take k) ≤ Rx.nodesL l := by
 induction l generalizing k with
 | nil => simp
 | cons a t ih =>
  cases k with
  | zero => simp [Rx.nodesL]
  | succ k =>
   simp only [List.take_succ_cons, Rx.nodesL]
   have := ih k
   omega
theorem Rx.nodes_pos (r : Rx) : 1 ≤ r.nodes := by
 cases r
 simp only [Rx.nodes]
 omega
theorem Rx.nodes_mem {l : List Rx} {k : Nat} (hk : k < l.length) : l[k].nodes ≤ Rx.nodesL l := by
 have h1 := Rx.nodesL_take l k hk
 have h2 := Rx.nodesL_le l (k + 1)
 omega
theorem Rx.len_le (l : List Rx) : l.length ≤ Rx.nodesL l := by
 induction l with
 | nil => simp
 | cons a t ih =>
  simp only [Rx.nodesL, List.length_cons]
  have := a.nodes_pos
  omega
end
section
theorem Rx.depthL_take (l : List Rx) (k : Nat) (hk : k < l.length) : Rx.depthL (l.take (k + 1)) = max (Rx.depthL (l.take k)) l[k].depth := by
 induction l generalizing k with
 | nil => simp at hk
 | cons a t ih =>
  cases k with
  | zero => simp [Rx.depthL]
  | succ k =>
   simp only [List.take_succ_cons, Rx.depthL, List.getElem_cons_succ]
   rw [ih k (by simpa using hk)]
   omega
mutual
theorem Rx.depth_le : ∀ r : Rx, r.depth ≤ r.nodes
 | .mk _ _ l => by
  simp only [Rx.depth, Rx.nodes]
  have := Rx.depthL_le l
  omega
theorem Rx.depthL_le : ∀ l : List Rx, Rx.depthL l ≤ Rx.nodesL l
 | [] => by simp only [Rx.depthL, Rx.nodesL]; omega
 | r :: t => by
  simp only [Rx.depthL, Rx.nodesL]
  have := Rx.depth_le r
  have := Rx.depthL_le t
  omega
end
theorem Rx.depthL_takele (l : List Rx) (k : Nat) : Rx.depthL (l.take k) ≤ Rx.nodesL l := Nat.le_trans (Rx.depthL_le _) (Rx.nodesL_le l k)
end
section
/-- Where the first element lies of which p holds: -1 if nowhere. -/
def firstIdx {α : Type} (p : α → Bool) (l : List α) : Int := match l.findIdx? p with
 | some i => i
 | none => -1
theorem firstIdx_at {α : Type} {p : α → Bool} {l : List α} {k : Nat} (hk : k < l.length) (h : ∀ j (hj : j < k), p (l[j]'(by omega)) = false) (hp : p l[k] = true) : firstIdx p l = k := by
 unfold firstIdx
 have : l.findIdx? p = some k := by
  rw [List.findIdx?_eq_some_iff_getElem]
  exact ⟨hk, hp, fun j hj => by simp [h j hj]⟩
 rw [this]
theorem firstIdx_no {α : Type} {p : α → Bool} {l : List α} (h : ∀ j (hj : j < l.length), p l[j] = false) : firstIdx p l = -1 := by
 unfold firstIdx
 have : l.findIdx? p = none := by
  rw [List.findIdx?_eq_none_iff]
  intro x hx
  obtain ⟨j, hj, rfl⟩ := List.mem_iff_getElem.1 hx
  exact h j hj
 rw [this]
theorem firstIdx_ge {α : Type} (p : α → Bool) (l : List α) : decide (0 ≤ firstIdx p l) = l.any p := by
 unfold firstIdx
 cases h : l.findIdx? p with
 | some i =>
  rw [List.findIdx?_eq_some_iff_getElem] at h
  obtain ⟨hi, hp, _⟩ := h
  have : l.any p = true := List.any_eq_true.2 ⟨_, List.getElem_mem hi, hp⟩
  simp [this]
 | none =>
  rw [List.findIdx?_eq_none_iff] at h
  have : l.any p = false := by
   rw [List.any_eq_false]
   intro x hx
   simp [h x hx]
  rw [this]
  decide
theorem lt_succ_cases {k : Nat} {P : Nat → Prop} (h : ∀ j, j < k → P j) (hk : P k) : ∀ j, j < k + 1 → P j := by
 intro j hj
 rcases Nat.lt_or_eq_of_le (Nat.le_of_lt_succ hj) with h1 | h1
 ·exact h j h1
 ·exact h1 ▸ hk
end
section
/-! ### machines -/
def inN (n : Nf) (k : Int) : Bool := decide (0 ≤ k) && decide (k < n.st.length)
def okS (n : Nf) (s : St) : Bool := decide (s.free.length ≤ 8) && decide (s.to < n.st.length) && s.free.all (inN n)
def mayN (n : Nf) : Bool := decide (n.st.length ≤ 2000) && inN n n.start && inN n n.stop && n.st.all (okS n)
def lightN (n : Nf) (k : Int) : Bool := decide ((n.st.length : Int) ≤ k) && n.st.all fun s => decide (s.free.length ≤ 20)
def word (w0 w1 w2 w3 b : Int) : Int := if b < 64 then w0 else if b < 128 then w1 else if b < 192 then w2 else w3
def hasW (w0 w1 w2 w3 b : Int) : Bool := decide ((word w0 w1 w2 w3 b).fdiv (2 ^ (min (b % 64).toNat 64)) % 2 = 1)
def St.has (s : St) (b : Int) : Bool := hasW s.w0 s.w1 s.w2 s.w3 b
inductive Reach (n : Nf) (l : List Int) : Nat → Prop
 | base {i : Nat} : i < n.st.length → (i : Int) ∈ l → Reach n l i
 | step {i j : Nat} (h : i < n.st.length) : Reach n l i → (j : Int) ∈ (n.st[i]).free → j < n.st.length → Reach n l j
open Classical in
noncomputable def closed (n : Nf) (l : List Int) : List Int := ((List.range n.st.length).filter fun i => decide (Reach n l i)).map Int.ofNat
noncomputable def closeN (n : Nf) (l : List Int) : List Int := if mayN n then closed n l else []
def stepTo (n : Nf) (l : List Int) (b : Int) : List Int := l.filterMap fun k => if h : 0 ≤ k ∧ k.toNat < n.st.length then (if 0 ≤ (n.st[k.toNat]).to ∧ (n.st[k.toNat]).has b = true then some (n.st[k.toNat]).to else none) else none
noncomputable def stepped (n : Nf) (l : List Int) (b : Int) : List Int := closed n (stepTo n l b)
noncomputable def stepN (n : Nf) (l : List Int) (b : Int) : List Int := if mayN n then stepped n l b else []
noncomputable def runN (n : Nf) (w : List Int) : Bool := mayN n && (w.foldl (stepped n) (closed n [n.start])).contains n.stop
theorem take_all {α : Type} {p : α → Bool} {l : List α} {k : Nat} (hk : k < l.length) (h : (l.take k).all p = true) (hp : p l[k] = true) : (l.take (k + 1)).all p = true := by
 rw [List.take_add_one, List.getElem?_eq_getElem hk, List.all_append, h]
 simp [hp]
theorem all_no {α : Type} {p : α → Bool} {l : List α} {k : Nat} (hk : k < l.length) (hp : p l[k] = false) : l.all p = false := by
 rw [List.all_eq_false]
 exact ⟨_, List.getElem_mem hk, by simp [hp]⟩
end
section
theorem may_no1 {n : Nf} (h : 2000 < n.st.length ∨ (inN n n.start && inN n n.stop) = false) : mayN n = false := by
 unfold mayN
 rcases h with h | h
 ·rw [show decide (n.st.length ≤ 2000) = false by simpa using h]; rfl
 ·rw [Bool.and_assoc (decide _), h]; simp
theorem may_no2 {n : Nf} {k : Nat} (hk : k < n.st.length) (h : okS n n.st[k] = false) : mayN n = false := by
 unfold mayN
 rw [all_no hk h]
 simp
theorem may_yes {n : Nf} (h1 : n.st.length ≤ 2000) (h2 : inN n n.start = true) (h3 : inN n n.stop = true) (h4 : n.st.all (okS n) = true) : mayN n = true := by
 unfold mayN
 rw [h2, h3, h4, show decide (n.st.length ≤ 2000) = true by simpa using h1]; rfl
end
section
/-! ### sets of bytes -/
instance : DecidableEq W4 := fun a b => decidable_of_iff (a.w0 = b.w0 ∧ a.w1 = b.w1 ∧ a.w2 = b.w2 ∧ a.w3 = b.w3) (by cases a; cases b; simp)
def W4.has (s : W4) (b : Nat) : Bool := hasW s.w0 s.w1 s.w2 s.w3 (b : Int)
def noSet : W4 := ⟨0, 0, 0, 0⟩
def W4.wd (s : W4) (q : Nat) : Int := if q = 0 then s.w0 else if q = 1 then s.w1 else if q = 2 then s.w2 else s.w3
theorem bit_int {w : Int} (h : 0 ≤ w) (k : Nat) : decide (w.fdiv (2 ^ k) % 2 = 1) = w.toNat.testBit k := by
 obtain ⟨n, rfl⟩ := Int.eq_ofNat_of_zero_le h
 have e2 : ((2:Int) ^ k) = ((2 ^ k : Nat) : Int) := by simp
 have e : (n : Int).fdiv (2 ^ k) % 2 = ((n / 2 ^ k % 2 : Nat) : Int) := by
  rw [e2, Int.fdiv_eq_ediv_of_nonneg _ (Int.natCast_nonneg _)]
  simp
 rw [e, Int.toNat_natCast, Nat.testBit_eq_decide_div_mod_eq, decide_eq_decide]
 omega
theorem W4.wd_ok {s : W4} (h : s.ok) (q : Nat) : 0 ≤ s.wd q ∧ s.wd q < 18446744073709551616 := by
 unfold W4.ok at h
 unfold W4.wd
 split
 ·omega
 ·split
  ·omega
  ·split <;> omega
theorem W4.has_eq {s : W4} (h : s.ok) {b : Nat} (hb : b < 256) : s.has b = (s.wd (b / 64)).toNat.testBit (b % 64) := by
 have hw : word s.w0 s.w1 s.w2 s.w3 (b : Int) = s.wd (b / 64) := by
  unfold word W4.wd
  split
  ·rw [if_pos (by omega)]
  ·split
   ·rw [if_neg (by omega), if_pos (by omega)]
   ·split
    ·rw [if_neg (by omega), if_neg (by omega), if_pos (by omega)]
    ·rw [if_neg (by omega), if_neg (by omega), if_neg (by omega)]
 unfold W4.has hasW
 rw [hw, show min ((b : Int) % 64).toNat 64 = b % 64 by omega]
 exact bit_int (W4.wd_ok h _).1 _
theorem W4.ext {a b : W4} (ha : a.ok) (hb : b.ok) (h : ∀ i, i < 256 → a.has i = b.has i) : a = b := by
 have key : ∀ q, q < 4 → a.wd q = b.wd q := by
  intro q hq
  have h1 := W4.wd_ok ha q
  have h2 := W4.wd_ok hb q
  have e : (a.wd q).toNat = (b.wd q).toNat := by
   refine Nat.eq_of_testBit_eq fun i => ?_
   by_cases hi : i < 64
   ·have := h (64 * q + i) (by omega)
    rw [W4.has_eq ha (by omega), W4.has_eq hb (by omega), show (64 * q + i) / 64 = q by omega, show (64 * q + i) % 64 = i by omega] at this
    exact this
   ·have hp : (18446744073709551616 : Nat) ≤ 2 ^ i := by
     have : (2 : Nat) ^ 64 ≤ 2 ^ i := Nat.pow_le_pow_right (by omega) (by omega)
     simpa using this
    rw [Nat.testBit_lt_two_pow (by omega), Nat.testBit_lt_two_pow (by omega)]
  omega
 have k0 := key 0 (by omega)
 have k1 := key 1 (by omega)
 have k2 := key 2 (by omega)
 have k3 := key 3 (by omega)
 cases a; cases b
 simp only [W4.wd] at k0 k1 k2 k3
 simp_all
def W4.less (a b : W4) : Bool := match (List.range 256).find? (fun i => a.has i != b.has i) with
 | some i => a.has i
 | none => false
theorem W4.less_at {a b : W4} {k : Nat} (hk : k < 256) (h : ∀ j, j < k → a.has j = b.has j) (hd : a.has k ≠ b.has k) : a.less b = a.has k := by
 unfold W4.less
 have e : (List.range 256).find? (fun i => a.has i != b.has i) = some k := List.find?_range_eq_some.2 ⟨by simpa using hd, List.mem_range.2 hk, fun j hj => by simp [h j hj]⟩
 rw [e]
theorem W4.less_no {a b : W4} (h : ∀ j, j < 256 → a.has j = b.has j) : a.less b = false := by
 unfold W4.less
 have : (List.range 256).find? (fun i => a.has i != b.has i) = none := by
  rw [List.find?_eq_none]
  intro x hx
  simp [h x (List.mem_range.1 hx)]
 rw [this]
theorem W4.first_diff {a b : W4} (ha : a.ok) (hb : b.ok) (hne : a ≠ b) : ∃ k, k < 256 ∧ (∀ j, j < k → a.has j = b.has j) ∧ a.has k ≠ b.has k := by
 have hex : ∃ k, k < 256 ∧ a.has k ≠ b.has k := Classical.byContradiction fun hc => hne (W4.ext ha hb fun i hi => Classical.byContradiction fun hn => hc ⟨i, hi, hn⟩)
 cases hf : (List.range 256).find? (fun i => a.has i != b.has i) with
 | some i =>
  obtain ⟨h1, h2, h3⟩ := List.find?_range_eq_some.1 hf
  exact ⟨i, List.mem_range.1 h2, fun j hj => by simpa using h3 j hj, by simpa using h1⟩
 | none =>
  obtain ⟨k, hk, hd⟩ := hex
  rw [List.find?_eq_none] at hf
  exact absurd (hf k (List.mem_range.2 hk)) (by simpa using hd)
theorem W4.less_swap {a b : W4} (ha : a.ok) (hb : b.ok) (hne : a ≠ b) : b.less a = !(a.less b) := by
 obtain ⟨k, hk, h, hd⟩ := W4.first_diff ha hb hne
 rw [W4.less_at hk h hd, W4.less_at hk (fun j hj => (h j hj).symm) (Ne.symm hd)]
 cases h1 : a.has k <;> cases h2 : b.has k <;> simp_all
theorem W4.less_trans {a b c : W4} (ha : a.ok) (hb : b.ok) (hc : c.ok) (h1 : a.less b = true) (h2 : b.less c = true) (n1 : a ≠ b) (n2 : b ≠ c) : a ≠ c ∧ a.less c = true := by
 obtain ⟨k, hk, ek, dk⟩ := W4.first_diff ha hb n1
 obtain ⟨m, hm, em, dm⟩ := W4.first_diff hb hc n2
 rw [W4.less_at hk ek dk] at h1
 rw [W4.less_at hm em dm] at h2
 have bk : b.has k = false := by cases h : b.has k <;> simp_all
 have cm : c.has m = false := by cases h : c.has m <;> simp_all
 rcases Nat.lt_trichotomy k m with h | h | h
 ·have ck : c.has k = false := by rw [← em k h]; exact bk
  have hd : a.has k ≠ c.has k := by rw [h1, ck]; simp
  exact ⟨fun e => hd (by rw [e]), by rw [W4.less_at hk (fun j hj => (ek j hj).trans (em j (by omega))) hd, h1]⟩
 ·subst h; rw [bk] at h2; cases h2
 ·have am : a.has m = true := by rw [ek m h]; exact h2
  have hd : a.has m ≠ c.has m := by rw [am, cm]; simp
  exact ⟨fun e => hd (by rw [e]), by rw [W4.less_at hm (fun j hj => (ek j (by omega)).trans (em j hj)) hd, am]⟩
/-! ### how two expressions compare -/
mutual
def Rx.cmp : Rx → Rx → Int
 | .mk k s l, .mk k' s' l' => if k < k' then -1 else if k' < k then 1 else if k = 3 ∧ s ≠ s' then (if s.less s' = true then -1 else 1) else Rx.cmpL l l'
def Rx.cmpL : List Rx → List Rx → Int
 | [], [] => 0
 | [], _ :: _ => -1
 | _ :: _, [] => 1
 | a :: t, b :: u => if a.cmp b = 0 then Rx.cmpL t u else a.cmp b
end
mutual
/-- A set stands at kind 3 alone. -/
def Rx.tidy : Rx → Prop
 | .mk k s l => (k ≠ 3 → s = noSet) ∧ s.ok ∧ Rx.tidyL l
def Rx.tidyL : List Rx → Prop
 | [] => True
 | r :: t => r.tidy ∧ Rx.tidyL t
end
theorem Rx.tidyL_iff : ∀ l : List Rx, Rx.tidyL l ↔ ∀ r ∈ l, r.tidy
 | [] => by simp [Rx.tidyL]
 | r :: t => by simp [Rx.tidyL, Rx.tidyL_iff t]
mutual
theorem Rx.cmp_range : ∀ a b : Rx, a.cmp b = -1 ∨ a.cmp b = 0 ∨ a.cmp b = 1
 | .mk k s l, .mk k' s' l' => by
  simp only [Rx.cmp]
  split
  ·exact .inl rfl
  ·split
   ·exact .inr (.inr rfl)
   ·split
    ·split
     ·exact .inl rfl
     ·exact .inr (.inr rfl)
    ·exact Rx.cmpL_range l l'
theorem Rx.cmpL_range : ∀ a b : List Rx, Rx.cmpL a b = -1 ∨ Rx.cmpL a b = 0 ∨ Rx.cmpL a b = 1
 | [], [] => by simp [Rx.cmpL]
 | [], _ :: _ => by simp [Rx.cmpL]
 | _ :: _, [] => by simp [Rx.cmpL]
 | a :: t, b :: u => by
  simp only [Rx.cmpL]
  split
  ·exact Rx.cmpL_range t u
  ·exact Rx.cmp_range a b
end
mutual
theorem Rx.cmp_swap : ∀ a b : Rx, a.tidy → b.tidy → b.cmp a = -(a.cmp b)
 | .mk k s l, .mk k' s' l', ha, hb => by
  simp only [Rx.tidy] at ha hb
  simp only [Rx.cmp]
  rcases Int.lt_trichotomy k k' with h | h | h
  ·rw [if_pos h, if_neg (by omega), if_pos h]; rfl
  ·subst h
   simp only [Int.lt_irrefl, if_false]
   by_cases hk : k = 3 ∧ s ≠ s'
   ·rw [if_pos ⟨hk.1, Ne.symm hk.2⟩, if_pos hk, W4.less_swap ha.2.1 hb.2.1 hk.2]
    cases s.less s' <;> rfl
   ·rw [if_neg (fun e => hk ⟨e.1, Ne.symm e.2⟩), if_neg hk]
    exact Rx.cmpL_swap l l' ha.2.2 hb.2.2
  ·rw [if_pos h, if_neg (by omega), if_pos h]
theorem Rx.cmpL_swap : ∀ a b : List Rx, Rx.tidyL a → Rx.tidyL b → Rx.cmpL b a = -(Rx.cmpL a b)
 | [], [], _, _ => by simp [Rx.cmpL]
 | [], _ :: _, _, _ => by simp [Rx.cmpL]
 | _ :: _, [], _, _ => by simp [Rx.cmpL]
 | a :: t, b :: u, ha, hb => by
  simp only [Rx.tidyL] at ha hb
  have h1 := Rx.cmp_swap a b ha.1 hb.1
  have h2 := Rx.cmpL_swap t u ha.2 hb.2
  simp only [Rx.cmpL]
  by_cases h : a.cmp b = 0
  ·rw [if_pos h, if_pos (by omega)]; exact h2
  ·rw [if_neg h, if_neg (by omega)]; exact h1
end
mutual
theorem Rx.cmp_refl : ∀ a : Rx, a.cmp a = 0
 | .mk k s l => by
  simp only [Rx.cmp]
  simp only [Int.lt_irrefl, if_false]
  rw [if_neg (by simp)]
  exact Rx.cmpL_refl l
theorem Rx.cmpL_refl : ∀ l : List Rx, Rx.cmpL l l = 0
 | [] => by simp [Rx.cmpL]
 | a :: t => by
  simp only [Rx.cmpL]
  rw [if_pos (Rx.cmp_refl a)]
  exact Rx.cmpL_refl t
end
mutual
theorem Rx.cmp_eq : ∀ a b : Rx, a.tidy → b.tidy → a.cmp b = 0 → a = b
 | .mk k s l, .mk k' s' l', ha, hb, h => by
  simp only [Rx.tidy] at ha hb
  simp only [Rx.cmp] at h
  split at h
  ·simp at h
  ·split at h
   ·simp at h
   ·have hk : k = k' := by omega
    subst hk
    split at h
    ·split at h <;> simp at h
    ·rename_i hs
     have hl := Rx.cmpL_eq l l' ha.2.2 hb.2.2 h
     subst hl
     by_cases hk : k = 3
     ·have : s = s' := Classical.byContradiction fun e => hs ⟨hk, e⟩
      rw [this]
     ·rw [ha.1 hk, hb.1 hk]
theorem Rx.cmpL_eq : ∀ a b : List Rx, Rx.tidyL a → Rx.tidyL b → Rx.cmpL a b = 0 → a = b
 | [], [], _, _, _ => rfl
 | [], _ :: _, _, _, h => by simp [Rx.cmpL] at h
 | _ :: _, [], _, _, h => by simp [Rx.cmpL] at h
 | a :: t, b :: u, ha, hb, h => by
  simp only [Rx.tidyL] at ha hb
  simp only [Rx.cmpL] at h
  split at h
  ·rename_i h0
   rw [Rx.cmp_eq a b ha.1 hb.1 h0, Rx.cmpL_eq t u ha.2 hb.2 h]
  ·contradiction
end
mutual
theorem Rx.cmp_trans : ∀ a b c : Rx, a.tidy → b.tidy → c.tidy → a.cmp b = -1 → b.cmp c = -1 → a.cmp c = -1
 | .mk k s l, .mk k' s' l', .mk k2 s2 l2, ha, hb, hc, h1, h2 => by
  simp only [Rx.tidy] at ha hb hc
  simp only [Rx.cmp] at h1 h2 ⊢
  by_cases a1 : k < k'
  ·by_cases a2 : k' < k2
   ·rw [if_pos (by omega)]
   ·rw [if_neg a2] at h2
    by_cases a3 : k2 < k'
    ·rw [if_pos a3] at h2; simp at h2
    ·rw [if_pos (by omega)]
  ·rw [if_neg a1] at h1
   by_cases a2 : k' < k
   ·rw [if_pos a2] at h1; simp at h1
   ·rw [if_neg a2] at h1
    have hk : k = k' := by omega
    subst hk
    by_cases a3 : k < k2
    ·rw [if_pos a3]
    ·rw [if_neg a3] at h2 ⊢
     by_cases a4 : k2 < k
     ·rw [if_pos a4] at h2; simp at h2
     ·rw [if_neg a4] at h2 ⊢
      by_cases hk3 : k = 3
      ·by_cases e1 : s = s'
       ·subst e1
        rw [if_neg (fun e => e.2 rfl)] at h1
        by_cases e2 : s = s2
        ·subst e2
         rw [if_neg (fun e => e.2 rfl)] at h2 ⊢
         exact Rx.cmpL_trans l l' l2 ha.2.2 hb.2.2 hc.2.2 h1 h2
        ·rw [if_pos ⟨hk3, e2⟩] at h2 ⊢
         exact h2
       ·rw [if_pos ⟨hk3, e1⟩] at h1
        have l1 : s.less s' = true := Classical.byContradiction fun e => by rw [if_neg e] at h1; simp at h1
        by_cases e2 : s' = s2
        ·subst e2
         rw [if_pos ⟨hk3, e1⟩, if_pos l1]
        ·rw [if_pos ⟨hk3, e2⟩] at h2
         have l2 : s'.less s2 = true := Classical.byContradiction fun e => by rw [if_neg e] at h2; simp at h2
         obtain ⟨n, l3⟩ := W4.less_trans ha.2.1 hb.2.1 hc.2.1 l1 l2 e1 e2
         rw [if_pos ⟨hk3, n⟩, if_pos l3]
      ·rw [if_neg (fun e => hk3 e.1)] at h1 h2 ⊢
       exact Rx.cmpL_trans l l' l2 ha.2.2 hb.2.2 hc.2.2 h1 h2
theorem Rx.cmpL_trans : ∀ a b c : List Rx, Rx.tidyL a → Rx.tidyL b → Rx.tidyL c → Rx.cmpL a b = -1 → Rx.cmpL b c = -1 → Rx.cmpL a c = -1
 | [], [], _, _, _, _, h1, _ => by simp [Rx.cmpL] at h1
 | [], _ :: _, [], _, _, _, _, h2 => by simp [Rx.cmpL] at h2
 | [], _ :: _, _ :: _, _, _, _, _, _ => by simp [Rx.cmpL]
 | _ :: _, [], _, _, _, _, h1, _ => by simp [Rx.cmpL] at h1
 | _ :: _, _ :: _, [], _, _, _, _, h2 => by simp [Rx.cmpL] at h2
 | a :: t, b :: u, c :: v, ha, hb, hc, h1, h2 => by
  simp only [Rx.tidyL] at ha hb hc
  simp only [Rx.cmpL] at h1 h2 ⊢
  by_cases e1 : a.cmp b = 0
  ·have := Rx.cmp_eq a b ha.1 hb.1 e1
   subst this
   rw [if_pos e1] at h1
   by_cases e2 : a.cmp c = 0
   ·rw [if_pos e2] at h2 ⊢
    exact Rx.cmpL_trans t u v ha.2 hb.2 hc.2 h1 h2
   ·rw [if_neg e2] at h2 ⊢
    exact h2
  ·rw [if_neg e1] at h1
   by_cases e2 : b.cmp c = 0
   ·have := Rx.cmp_eq b c hb.1 hc.1 e2
    subst this
    rw [if_neg e1]; exact h1
   ·rw [if_neg e2] at h2
    have := Rx.cmp_trans a b c ha.1 hb.1 hc.1 h1 h2
    rw [if_neg (by omega)]; exact this
end
end
section
/-! ### what the constructors make -/
def orI (x y : Int) : Int := ((x.toNat ||| y.toNat : Nat) : Int)
def W4.or (a b : W4) : W4 := ⟨orI a.w0 b.w0, orI a.w1 b.w1, orI a.w2 b.w2, orI a.w3 b.w3⟩
mutual
def Rx.same : Rx → Rx → Bool
 | .mk k s l, .mk k' s' l' => decide (k = k') && decide (s = s') && Rx.sameL l l'
def Rx.sameL : List Rx → List Rx → Bool
 | [], [] => true
 | [], _ :: _ => false
 | _ :: _, [] => false
 | a :: t, b :: u => a.same b && Rx.sameL t u
end
mutual
theorem Rx.same_iff : ∀ a b : Rx, a.same b = true ↔ a = b
 | .mk k s l, .mk k' s' l' => by
  simp only [Rx.same, Bool.and_eq_true, decide_eq_true_eq, Rx.sameL_iff l l', Rx.mk.injEq, and_assoc]
theorem Rx.sameL_iff : ∀ a b : List Rx, Rx.sameL a b = true ↔ a = b
 | [], [] => by simp [Rx.sameL]
 | [], _ :: _ => by simp [Rx.sameL]
 | _ :: _, [] => by simp [Rx.sameL]
 | a :: t, b :: u => by simp only [Rx.sameL, Bool.and_eq_true, Rx.same_iff a b, Rx.sameL_iff t u, List.cons.injEq]
end
def flatR (k : Int) : List Rx → List Rx
 | [] => []
 | r :: t => (if r.kind = k then r.args else [r]) ++ flatR k t
def insR : List Rx → Rx → List Rx
 | [], r => [r]
 | a :: t, r => if a.cmp r = -1 then a :: insR t r else if a.cmp r = 0 then a :: t else r :: a :: t
def noneR : Rx := .mk 1 noSet []
def emptyR : Rx := .mk 2 noSet []
def bytesR (s : W4) : Rx := if s = noSet then noneR else .mk 3 s []
def catOf : List Rx → Rx
 | [] => emptyR
 | [x] => x
 | x :: y :: t => .mk 4 noSet (x :: y :: t)
def altOf : List Rx → Rx
 | [] => noneR
 | [x] => x
 | x :: y :: t => .mk 5 noSet (x :: y :: t)
def catR (l : List Rx) : Rx := if (flatR 4 l).any (fun r => decide (r.kind = 1)) = true then noneR else catOf ((flatR 4 l).filter fun r => decide (r.kind ≠ 2))
def altSet (s : W4) (l : List Rx) : W4 := l.foldl (fun s r => if r.kind = 3 then s.or r.set else s) s
def altOuts (o : List Rx) (l : List Rx) : List Rx := l.foldl (fun o r => if r.kind = 1 ∨ r.kind = 3 then o else insR o r) o
def altFin (o : List Rx) (s : W4) : List Rx := if s = noSet then o else insR o (.mk 3 s [])
def altR (l : List Rx) : Rx := altOf (altFin (altOuts [] (flatR 5 l)) (altSet noSet (flatR 5 l)))
/-! ### plain ones -/
def chainR : List Rx → Bool
 | a :: b :: t => decide (a.cmp b = -1) && chainR (b :: t)
 | _ => true
def setsR (l : List Rx) : Nat := l.countP fun r => decide (r.kind = 3)
def notIn (ks : List Int) (l : List Rx) : Bool := l.all fun r => !(ks.contains r.kind)
def right (k : Int) (s : W4) (l : List Rx) : Bool :=
 if k = 1 ∨ k = 2 then decide (s = noSet) && decide (l.length = 0)
 else if k = 3 then !decide (s = noSet) && decide (l.length = 0)
 else if k = 4 then decide (s = noSet) && decide (1 < l.length) && notIn [4, 1, 2] l
 else if k = 5 then decide (s = noSet) && decide (1 < l.length) && notIn [5, 1] l && (chainR l && decide (setsR l ≤ 1))
 else if k = 6 then decide (s = noSet) && decide (l.length = 1) && notIn [6, 1, 2] l
 else false
def right5 (k : Int) (s : W4) (l : List Rx) : Bool :=
 if k = 1 ∨ k = 2 then decide (s = noSet) && decide (l.length = 0)
 else if k = 3 then !decide (s = noSet) && decide (l.length = 0)
 else if k = 4 then decide (s = noSet) && decide (1 < l.length) && (catR l).same (.mk k s l)
 else if k = 5 then decide (s = noSet) && decide (1 < l.length) && (altR l).same (.mk k s l)
 else if k = 6 then decide (s = noSet) && decide (l.length = 1) && notIn [6, 1, 2] l
 else false
mutual
def Rx.plain : Rx → Bool
 | .mk k s l => right k s l && Rx.plainL l
def Rx.plainL : List Rx → Bool
 | [] => true
 | r :: t => r.plain && Rx.plainL t
end
mutual
def Rx.plain5 : Rx → Bool
 | .mk k s l => Rx.plainL5 l && right5 k s l
def Rx.plainL5 : List Rx → Bool
 | [] => true
 | r :: t => r.plain5 && Rx.plainL5 t
end
theorem Rx.plainL_iff : ∀ l : List Rx, Rx.plainL l = true ↔ ∀ r ∈ l, r.plain = true
 | [] => by simp [Rx.plainL]
 | r :: t => by simp [Rx.plainL, Rx.plainL_iff t]
theorem right_kinds {k : Int} {s : W4} {l : List Rx} (h : right k s l = true) : k = 1 ∨ k = 2 ∨ k = 3 ∨ k = 4 ∨ k = 5 ∨ k = 6 := by
 unfold right at h
 by_cases h1 : k = 1 ∨ k = 2
 ·omega
 ·by_cases h3 : k = 3
  ·omega
  ·by_cases h4 : k = 4
   ·omega
   ·by_cases h5 : k = 5
    ·omega
    ·by_cases h6 : k = 6
     ·omega
     ·rw [if_neg h1, if_neg h3, if_neg h4, if_neg h5, if_neg h6] at h; cases h
theorem right_set {k : Int} {s : W4} {l : List Rx} (h : right k s l = true) (hk : k ≠ 3) : s = noSet := by
 unfold right at h
 rw [if_neg hk] at h
 split at h
 ·simp at h; exact h.1
 ·split at h
  ·simp at h; exact h.1.1
  ·split at h
   ·simp at h; exact h.1.1.1
   ·split at h
    ·simp at h; exact h.1.1
    ·cases h
mutual
theorem Rx.plain_tidy : ∀ r : Rx, r.ok → r.plain = true → r.tidy
 | .mk k s l, ho, h => by
  simp only [Rx.ok] at ho
  simp only [Rx.plain, Bool.and_eq_true] at h
  simp only [Rx.tidy]
  exact ⟨right_set h.1, ho.2.1, Rx.plain_tidyL l ho.2.2 h.2⟩
theorem Rx.plain_tidyL : ∀ l : List Rx, Rx.oks l → Rx.plainL l = true → Rx.tidyL l
 | [], _, _ => by simp [Rx.tidyL]
 | r :: t, ho, h => by
  simp only [Rx.oks] at ho
  simp only [Rx.plainL, Bool.and_eq_true] at h
  simp only [Rx.tidyL]
  exact ⟨Rx.plain_tidy r ho.1 h.1, Rx.plain_tidyL t ho.2 h.2⟩
end
def SortedR (l : List Rx) : Prop := l.Pairwise fun a b => a.cmp b = -1
theorem chain_sorted : ∀ {l : List Rx}, Rx.tidyL l → (chainR l = true ↔ SortedR l)
 | [], _ => by simp [chainR, SortedR]
 | [a], _ => by simp [chainR, SortedR]
 | a :: b :: t, h => by
  simp only [Rx.tidyL] at h
  have ih := chain_sorted (l := b :: t) (by simp only [Rx.tidyL]; exact h.2)
  simp only [chainR, Bool.and_eq_true, decide_eq_true_eq, ih]
  unfold SortedR
  rw [List.pairwise_cons (a := a)]
  constructor
  ·rintro ⟨h1, h2⟩
   refine ⟨fun c hc => ?_, h2⟩
   rcases List.mem_cons.1 hc with rfl | hc
   ·exact h1
   ·exact Rx.cmp_trans a b c h.1 h.2.1 ((Rx.tidyL_iff t).1 h.2.2 c hc) h1 ((List.pairwise_cons.1 h2).1 c hc)
  ·rintro ⟨h1, h2⟩
   exact ⟨h1 b (by simp), h2⟩
theorem insR_mem : ∀ {l : List Rx} {r : Rx}, Rx.tidyL l → r.tidy → ∀ x, x ∈ insR l r ↔ x = r ∨ x ∈ l
 | [], r, _, _, x => by simp [insR]
 | a :: t, r, h, hr, x => by
  simp only [Rx.tidyL] at h
  simp only [insR]
  split
  ·simp only [List.mem_cons, insR_mem h.2 hr x]
   constructor
   ·rintro (h1 | h1 | h1) <;> simp [h1]
   ·rintro (h1 | h1 | h1) <;> simp [h1]
  ·split
   ·rename_i h0
    have := Rx.cmp_eq a r h.1 hr h0
    subst this
    simp
   ·simp
theorem insR_tidy {l : List Rx} {r : Rx} (h : Rx.tidyL l) (hr : r.tidy) : Rx.tidyL (insR l r) := by
 rw [Rx.tidyL_iff] at h ⊢
 intro x hx
 rcases (insR_mem ((Rx.tidyL_iff l).2 h) hr x).1 hx with rfl | hx
 ·exact hr
 ·exact h x hx
theorem insR_sorted : ∀ {l : List Rx} {r : Rx}, Rx.tidyL l → r.tidy → SortedR l → SortedR (insR l r)
 | [], r, _, _, _ => by simp [insR, SortedR]
 | a :: t, r, h, hr, hs => by
  simp only [Rx.tidyL] at h
  unfold SortedR at hs
  rw [List.pairwise_cons] at hs
  simp only [insR]
  split
  ·rename_i h1
   unfold SortedR
   rw [List.pairwise_cons]
   refine ⟨fun x hx => ?_, insR_sorted h.2 hr hs.2⟩
   rcases (insR_mem h.2 hr x).1 hx with rfl | hx
   ·exact h1
   ·exact hs.1 x hx
  ·rename_i h1
   split
   ·unfold SortedR; rw [List.pairwise_cons]; exact hs
   ·rename_i h2
    unfold SortedR
    rw [List.pairwise_cons, List.pairwise_cons]
    have h3 : r.cmp a = -1 := by
     rw [Rx.cmp_swap a r h.1 hr]
     rcases Rx.cmp_range a r with h4 | h4 | h4 <;> omega
    refine ⟨fun x hx => ?_, hs⟩
    rcases List.mem_cons.1 hx with rfl | hx
    ·exact h3
    ·exact Rx.cmp_trans r a x hr h.1 ((Rx.tidyL_iff t).1 h.2 x hx) h3 (hs.1 x hx)
theorem sorted_unique : ∀ {l m : List Rx}, Rx.tidyL l → Rx.tidyL m → SortedR l → SortedR m → (∀ x, x ∈ l ↔ x ∈ m) → l = m
 | [], [], _, _, _, _, _ => rfl
 | [], b :: u, _, _, _, _, h => absurd ((h b).2 (by simp)) (by simp)
 | a :: t, [], _, _, _, _, h => absurd ((h a).1 (by simp)) (by simp)
 | a :: t, b :: u, hl, hm, sl, sm, h => by
  simp only [Rx.tidyL] at hl hm
  unfold SortedR at sl sm
  rw [List.pairwise_cons] at sl sm
  have hab : a = b := by
   rcases List.mem_cons.1 ((h a).1 (by simp)) with e | ha
   ·exact e
   ·rcases List.mem_cons.1 ((h b).2 (by simp)) with e | hb
    ·exact e.symm
    ·have h1 := sm.1 a ha
     have h2 := sl.1 b hb
     rw [Rx.cmp_swap a b hl.1 hm.1] at h1
     omega
  subst hab
  have hirr : a.cmp a ≠ -1 := by rw [Rx.cmp_refl]; omega
  refine congrArg (a :: ·) (sorted_unique hl.2 hm.2 sl.2 sm.2 fun x => ?_)
  constructor
  ·intro hx
   rcases List.mem_cons.1 ((h x).1 (by simp [hx])) with rfl | h1
   ·exact absurd (sl.1 x hx) hirr
   ·exact h1
  ·intro hx
   rcases List.mem_cons.1 ((h x).2 (by simp [hx])) with rfl | h1
   ·exact absurd (sm.1 x hx) hirr
   ·exact h1
theorem flat_id {k : Int} : ∀ {l : List Rx}, (∀ r ∈ l, r.kind ≠ k) → flatR k l = l
 | [], _ => rfl
 | r :: t, h => by
  simp only [flatR]
  rw [if_neg (h r (by simp)), flat_id (fun x hx => h x (by simp [hx]))]
  rfl
theorem flat_mem {k : Int} : ∀ {l : List Rx} {x : Rx}, x ∈ flatR k l → (x ∈ l ∧ x.kind ≠ k) ∨ ∃ r ∈ l, r.kind = k ∧ x ∈ r.args
 | [], x, h => by simp [flatR] at h
 | r :: t, x, h => by
  simp only [flatR, List.mem_append] at h
  rcases h with h | h
  ·split at h
   ·rename_i hk
    exact .inr ⟨r, by simp, hk, h⟩
   ·rename_i hk
    simp only [List.mem_singleton] at h
    subst h
    exact .inl ⟨by simp, hk⟩
  ·rcases flat_mem h with ⟨h1, h2⟩ | ⟨r', h1, h2, h3⟩
   ·exact .inl ⟨by simp [h1], h2⟩
   ·exact .inr ⟨r', by simp [h1], h2, h3⟩
theorem notIn_iff {ks : List Int} {l : List Rx} : notIn ks l = true ↔ ∀ r ∈ l, r.kind ∉ ks := by
 unfold notIn
 simp
theorem plain_args {r : Rx} (h : r.plain = true) : ∀ a ∈ r.args, a.plain = true := by
 obtain ⟨k, s, l⟩ := r
 simp only [Rx.plain, Bool.and_eq_true, Rx.plainL_iff] at h
 exact h.2
theorem plain_right {r : Rx} (h : r.plain = true) : right r.kind r.set r.args = true := by
 obtain ⟨k, s, l⟩ := r
 simp only [Rx.plain, Bool.and_eq_true] at h
 exact h.1
theorem plain_cat {r : Rx} (h : r.plain = true) (hk : r.kind = 4) : 1 < r.args.length ∧ ∀ a ∈ r.args, a.kind ∉ [(4 : Int), 1, 2] := by
 have h1 := plain_right h
 unfold right at h1
 rw [hk] at h1
 simp only [show ¬((4 : Int) = 1 ∨ (4 : Int) = 2) by omega, show ¬((4 : Int) = 3) by omega, if_false, if_true, Bool.and_eq_true, decide_eq_true_eq, notIn_iff] at h1
 exact ⟨h1.1.2, h1.2⟩
theorem plain_alt {r : Rx} (h : r.plain = true) (hk : r.kind = 5) : 1 < r.args.length ∧ (∀ a ∈ r.args, a.kind ∉ [(5 : Int), 1]) ∧ chainR r.args = true ∧ setsR r.args ≤ 1 := by
 have h1 := plain_right h
 unfold right at h1
 rw [hk] at h1
 simp only [show ¬((5 : Int) = 1 ∨ (5 : Int) = 2) by omega, show ¬((5 : Int) = 3) by omega, show ¬((5 : Int) = 4) by omega, if_false, if_true, Bool.and_eq_true, decide_eq_true_eq, notIn_iff] at h1
 exact ⟨h1.1.1.2, h1.1.2, h1.2.1, h1.2.2⟩
theorem plain_setR {r : Rx} (h : r.plain = true) (hk : r.kind = 3) : r = .mk 3 r.set [] ∧ r.set ≠ noSet := by
 have h1 := plain_right h
 unfold right at h1
 rw [hk] at h1
 simp only [show ¬((3 : Int) = 1 ∨ (3 : Int) = 2) by omega, if_false, if_true, Bool.and_eq_true, decide_eq_true_eq, Bool.not_eq_true', decide_eq_false_iff_not] at h1
 obtain ⟨k, s, l⟩ := r
 simp only [Rx.kind, Rx.set, Rx.args] at hk h1 ⊢
 exact ⟨by rw [hk, List.eq_nil_of_length_eq_zero h1.2], h1.1⟩
theorem catOf_two {l : List Rx} (h : 1 < l.length) : catOf l = .mk 4 noSet l := by
 match l, h with
 | x :: y :: t, _ => rfl
theorem altOf_two {l : List Rx} (h : 1 < l.length) : altOf l = .mk 5 noSet l := by
 match l, h with
 | x :: y :: t, _ => rfl
theorem cat_same {l : List Rx} (hp : Rx.plainL l = true) (hl : 1 < l.length) : (catR l).same (.mk 4 noSet l) = notIn [4, 1, 2] l := by
 rw [Bool.eq_iff_iff, Rx.same_iff, notIn_iff]
 rw [Rx.plainL_iff] at hp
 constructor
 ·intro h r hr
  unfold catR at h
  split at h
  ·simp [noneR] at h
  ·rename_i h0
   have h0 : ∀ x ∈ flatR 4 l, x.kind ≠ 1 := by simpa using h0
   have hel : ∀ x ∈ (flatR 4 l).filter (fun r => decide (r.kind ≠ 2)), x.kind ∉ [(4 : Int), 1, 2] := by
    intro x hx
    rw [List.mem_filter] at hx
    have h2 : x.kind ≠ 2 := by simpa using hx.2
    have h1 := h0 x hx.1
    have h4 : x.kind ≠ 4 := by
     rcases flat_mem hx.1 with ⟨_, h⟩ | ⟨r', h1, h2, h3⟩
     ·exact h
     ·have := (plain_cat (hp r' h1) h2).2 x h3
      simp at this
      exact this.1
    simp [h1, h2, h4]
   have e : (flatR 4 l).filter (fun r => decide (r.kind ≠ 2)) = l := by
    generalize (flatR 4 l).filter (fun r => decide (r.kind ≠ 2)) = o at h hel
    match o, h, hel with
    | [], h, _ => simp [catOf, emptyR] at h
    | [x], h, hel => simp only [catOf] at h; have := hel x (by simp); rw [h] at this; simp [Rx.kind] at this
    | x :: y :: t, h, _ => simp only [catOf, Rx.mk.injEq, true_and] at h; exact h
   rw [e] at hel
   exact hel r hr
 ·intro h
  have hf : flatR 4 l = l := flat_id fun r hr => by have := h r hr; simp at this; exact this.1
  unfold catR
  rw [hf, if_neg (by simp only [List.any_eq_true, decide_eq_true_eq, not_exists, not_and]; intro x hx; have := h x hx; simp at this; exact this.2.1),
   List.filter_eq_self.2 (fun x hx => by have := h x hx; simp at this; simpa using this.2.2), catOf_two hl]
theorem altOuts_props : ∀ {l o : List Rx}, Rx.tidyL l → Rx.tidyL o → SortedR o → Rx.tidyL (altOuts o l) ∧ SortedR (altOuts o l) ∧ ∀ x, x ∈ altOuts o l ↔ x ∈ o ∨ (x ∈ l ∧ x.kind ≠ 1 ∧ x.kind ≠ 3)
 | [], o, _, ho, hs => ⟨ho, hs, fun x => by simp [altOuts]⟩
 | r :: t, o, hl, ho, hs => by
  simp only [Rx.tidyL] at hl
  have e : altOuts o (r :: t) = altOuts (if r.kind = 1 ∨ r.kind = 3 then o else insR o r) t := rfl
  rw [e]
  by_cases hk : r.kind = 1 ∨ r.kind = 3
  ·rw [if_pos hk]
   obtain ⟨h1, h2, h3⟩ := altOuts_props hl.2 ho hs
   refine ⟨h1, h2, fun x => ?_⟩
   rw [h3]
   constructor
   ·rintro (h | h)
    ·exact .inl h
    ·exact .inr ⟨by simp [h.1], h.2⟩
   ·rintro (h | ⟨h, h', h''⟩)
    ·exact .inl h
    ·rcases List.mem_cons.1 h with rfl | h
     ·exact absurd hk (by omega)
     ·exact .inr ⟨h, h', h''⟩
  ·rw [if_neg hk]
   obtain ⟨h1, h2, h3⟩ := altOuts_props hl.2 (insR_tidy ho hl.1) (insR_sorted ho hl.1 hs)
   refine ⟨h1, h2, fun x => ?_⟩
   rw [h3, insR_mem ho hl.1]
   constructor
   ·rintro ((h | h) | h)
    ·subst h; exact .inr ⟨by simp, by omega⟩
    ·exact .inl h
    ·exact .inr ⟨by simp [h.1], h.2⟩
   ·rintro (h | ⟨h, h'⟩)
    ·exact .inl (.inr h)
    ·rcases List.mem_cons.1 h with rfl | h
     ·exact .inl (.inl rfl)
     ·exact .inr ⟨h, h'⟩
theorem or_none_left {s : W4} (h : s.ok) : noSet.or s = s := by
 obtain ⟨a, b, c, d⟩ := s
 simp only [W4.ok] at h
 simp only [W4.or, noSet, orI, W4.mk.injEq]
 simp
 omega
theorem altSet_none : ∀ {l : List Rx} {s : W4}, setsR l = 0 → altSet s l = s
 | [], s, _ => rfl
 | r :: t, s, h => by
  unfold setsR at h
  rw [List.countP_cons] at h
  have hk : ¬ r.kind = 3 := by
   intro e
   simp [e] at h
  show altSet (if r.kind = 3 then s.or r.set else s) t = s
  rw [if_neg hk]
  exact altSet_none (by unfold setsR; omega)
theorem altSet_one : ∀ {l : List Rx}, setsR l = 1 → (∀ r ∈ l, r.set.ok) → ∃ r ∈ l, r.kind = 3 ∧ altSet noSet l = r.set ∧ ∀ x ∈ l, x.kind = 3 → x = r
 | [], h, _ => by simp [setsR] at h
 | r :: t, h, ho => by
  unfold setsR at h
  rw [List.countP_cons] at h
  by_cases hk : r.kind = 3
  ·have h0 : setsR t = 0 := by simp [hk] at h; unfold setsR; simpa using h
   refine ⟨r, by simp, hk, ?_, fun x hx hx3 => ?_⟩
   ·show altSet (if r.kind = 3 then noSet.or r.set else noSet) t = r.set
    rw [if_pos hk, altSet_none h0, or_none_left (ho r (by simp))]
   ·rcases List.mem_cons.1 hx with rfl | hx
    ·rfl
    ·unfold setsR at h0
     rw [List.countP_eq_zero] at h0
     exact absurd hx3 (by simpa using h0 x hx)
  ·have h1 : setsR t = 1 := by simp [hk] at h; unfold setsR; simpa using h
   obtain ⟨r', h2, h3, h4, h5⟩ := altSet_one h1 (fun x hx => ho x (by simp [hx]))
   refine ⟨r', by simp [h2], h3, ?_, fun x hx hx3 => ?_⟩
   ·show altSet (if r.kind = 3 then noSet.or r.set else noSet) t = r'.set
    rw [if_neg hk]; exact h4
   ·rcases List.mem_cons.1 hx with rfl | hx
    ·exact absurd hx3 hk
    ·exact h5 x hx hx3
theorem insR_sets : ∀ (l : List Rx) (r : Rx), setsR (insR l r) ≤ setsR l + 1
 | [], r => by simp only [insR, setsR, List.countP_cons, List.countP_nil]; split <;> omega
 | a :: t, r => by
  have ih := insR_sets t r
  unfold setsR at ih ⊢
  simp only [insR]
  split
  ·rw [List.countP_cons, List.countP_cons]; omega
  ·split
   ·omega
   ·rw [List.countP_cons (l := a :: t)]; split <;> omega
theorem sets_zero {l : List Rx} (h : ∀ x ∈ l, x.kind ≠ 3) : setsR l = 0 := by
 unfold setsR
 rw [List.countP_eq_zero]
 intro x hx
 simpa using h x hx
theorem tidy_args {r : Rx} (h : r.tidy) : Rx.tidyL r.args := by
 cases r
 simp only [Rx.tidy] at h
 exact h.2.2
theorem flat_tidy {k : Int} {l : List Rx} (h : Rx.tidyL l) : Rx.tidyL (flatR k l) := by
 rw [Rx.tidyL_iff] at h ⊢
 intro x hx
 rcases flat_mem hx with ⟨h1, _⟩ | ⟨r, h1, _, h3⟩
 ·exact h x h1
 ·exact (Rx.tidyL_iff _).1 (tidy_args (h r h1)) x h3
theorem tidy_set {r : Rx} (h : r.tidy) : r.set.ok := by
 cases r
 simp only [Rx.tidy] at h
 exact h.2.1
theorem or_lt {x y : Int} (hx : x < 18446744073709551616) (hy : y < 18446744073709551616) : 0 ≤ orI x y ∧ orI x y < 18446744073709551616 := by
 unfold orI
 have : x.toNat ||| y.toNat < 2 ^ 64 := Nat.or_lt_two_pow (by omega) (by omega)
 omega
theorem or_ok {a b : W4} (ha : a.ok) (hb : b.ok) : (a.or b).ok := by
 unfold W4.ok at ha hb ⊢
 simp only [W4.or]
 have h0 := or_lt (x := a.w0) (y := b.w0) (by omega) (by omega)
 have h1 := or_lt (x := a.w1) (y := b.w1) (by omega) (by omega)
 have h2 := or_lt (x := a.w2) (y := b.w2) (by omega) (by omega)
 have h3 := or_lt (x := a.w3) (y := b.w3) (by omega) (by omega)
 omega
theorem noSet_ok : noSet.ok := by unfold W4.ok noSet; simp
theorem altSet_ok : ∀ {l : List Rx} {s : W4}, s.ok → (∀ r ∈ l, r.set.ok) → (altSet s l).ok
 | [], s, h, _ => h
 | r :: t, s, h, ho => by
  show (altSet (if r.kind = 3 then s.or r.set else s) t).ok
  refine altSet_ok ?_ (fun x hx => ho x (by simp [hx]))
  split
  ·exact or_ok h (ho r (by simp))
  ·exact h
theorem tidy_mkset {s : W4} (h : s.ok) : (Rx.mk 3 s []).tidy := by
 simp only [Rx.tidy, Rx.tidyL]
 exact ⟨fun e => absurd rfl e, h, trivial⟩
theorem altFin_props {o : List Rx} {s : W4} (ho : Rx.tidyL o) (hs : SortedR o) (hok : s.ok) : Rx.tidyL (altFin o s) ∧ SortedR (altFin o s) ∧ ∀ x, x ∈ altFin o s ↔ x ∈ o ∨ (s ≠ noSet ∧ x = .mk 3 s []) := by
 unfold altFin
 split
 ·rename_i h
  exact ⟨ho, hs, fun x => by simp [h]⟩
 ·rename_i h
  refine ⟨insR_tidy ho (tidy_mkset hok), insR_sorted ho (tidy_mkset hok) hs, fun x => ?_⟩
  rw [insR_mem ho (tidy_mkset hok)]
  simp [h, or_comm]
theorem alt_same {l : List Rx} (ho : Rx.oks l) (hp : Rx.plainL l = true) (hl : 1 < l.length) : (altR l).same (.mk 5 noSet l) = (notIn [5, 1] l && (chainR l && decide (setsR l ≤ 1))) := by
  have ht := Rx.plain_tidyL l ho hp
  rw [Bool.eq_iff_iff, Rx.same_iff, Bool.and_eq_true, Bool.and_eq_true, decide_eq_true_eq, notIn_iff]
  rw [Rx.plainL_iff] at hp
  have hft := flat_tidy (k := 5) ht
  have hfo : ∀ r ∈ flatR 5 l, r.set.ok := fun r hr => tidy_set ((Rx.tidyL_iff _).1 hft r hr)
  obtain ⟨o1, o2, o3⟩ := altOuts_props (o := []) hft (by simp [Rx.tidyL]) (by simp [SortedR])
  have hsok := altSet_ok (s := noSet) noSet_ok hfo
  obtain ⟨p1, p2, p3⟩ := altFin_props o1 o2 hsok
  constructor
  · intro h
    unfold altR at h
    have hel : ∀ x ∈ altFin (altOuts [] (flatR 5 l)) (altSet noSet (flatR 5 l)), x.kind ∉ [(5 : Int), 1] := by
      intro x hx
      rcases (p3 x).1 hx with h1 | ⟨_, rfl⟩
      · rcases (o3 x).1 h1 with h2 | ⟨h2, h3, h4⟩
        · simp at h2
        · have h5 : x.kind ≠ 5 := by
            rcases flat_mem h2 with ⟨_, h⟩ | ⟨r', q1, q2, q3⟩
            · exact h
            · have := (plain_alt (hp r' q1) q2).2.1 x q3
              simp at this
              exact this.1
          simp [h3, h5]
      · simp [Rx.kind]
    have hsets : setsR (altFin (altOuts [] (flatR 5 l)) (altSet noSet (flatR 5 l))) ≤ 1 := by
      have h0 : setsR (altOuts [] (flatR 5 l)) = 0 := sets_zero fun x hx => by
        rcases (o3 x).1 hx with h2 | ⟨_, _, h4⟩
        · simp at h2
        · exact h4
      unfold altFin
      split
      · omega
      · have := insR_sets (altOuts [] (flatR 5 l)) (.mk 3 (altSet noSet (flatR 5 l)) [])
        omega
    have e : altFin (altOuts [] (flatR 5 l)) (altSet noSet (flatR 5 l)) = l := by
      generalize altFin (altOuts [] (flatR 5 l)) (altSet noSet (flatR 5 l)) = o at h hel
      match o, h, hel with
      | [], h, _ => simp [altOf, noneR] at h
      | [x], h, hel => simp only [altOf] at h; have := hel x (by simp); rw [h] at this; simp [Rx.kind] at this
      | x :: y :: t, h, _ => simp only [altOf, Rx.mk.injEq, true_and] at h; exact h
    rw [e] at hel hsets p2
    exact ⟨hel, (chain_sorted ht).2 p2, hsets⟩
  · rintro ⟨h1, h2, h3⟩
    have hf : flatR 5 l = l := flat_id fun r hr => by have := h1 r hr; simp at this; exact this.1
    rw [hf] at o3 p1 p2 p3 hfo hsok
    unfold altR
    rw [hf]
    have e : altFin (altOuts [] l) (altSet noSet l) = l := by
      refine sorted_unique p1 ht p2 ((chain_sorted ht).1 h2) fun x => ?_
      rw [p3, o3]
      rcases Nat.lt_or_ge (setsR l) 1 with h0 | h0
      · have h0 : setsR l = 0 := by omega
        rw [altSet_none h0]
        unfold setsR at h0
        rw [List.countP_eq_zero] at h0
        constructor
        · rintro ((h | h) | h)
          · simp at h
          · exact h.1
          · exact absurd rfl h.1
        · intro hx
          have := h1 x hx
          simp at this
          exact .inl (.inr ⟨hx, this.2, by simpa using h0 x hx⟩)
      · obtain ⟨r, q1, q2, q3, q4⟩ := altSet_one (l := l) (by omega) hfo
        obtain ⟨q5, q6⟩ := plain_setR (hp r q1) q2
        rw [q3]
        constructor
        · rintro ((h | h) | h)
          · simp at h
          · exact h.1
          · rw [h.2, ← q5]; exact q1
        · intro hx
          by_cases hk : x.kind = 3
          · have := q4 x hx hk
            subst this
            exact .inr ⟨q6, q5⟩
          · have := h1 x hx
            simp at this
            exact .inl (.inr ⟨hx, this.2, hk⟩)
    rw [e, altOf_two hl]
theorem right_same {k : Int} {s : W4} {l : List Rx} (ho : Rx.oks l) (hp : Rx.plainL l = true) : right5 k s l = right k s l := by
 unfold right5 right
 by_cases hs : s = noSet
 ·subst hs
  by_cases hl : 1 < l.length
  ·by_cases h4 : k = 4
   ·subst h4; simp [cat_same hp hl]
   ·by_cases h5 : k = 5
    ·subst h5; rw [alt_same ho hp hl]; simp [Bool.and_assoc]
    ·simp only [if_neg h4, if_neg h5]
  ·simp [hl]
 ·simp [hs]
mutual
/-- The document's plain ones are the program's. -/
theorem Rx.plain_same : ∀ r : Rx, r.ok → r.plain5 = r.plain
 | .mk k s l, h => by
  simp only [Rx.ok] at h
  simp only [Rx.plain5, Rx.plain, Rx.plainL_same l h.2.2]
  cases hp : Rx.plainL l with
  | false => simp
  | true => rw [right_same h.2.2 hp]; simp
theorem Rx.plainL_same : ∀ l : List Rx, Rx.oks l → Rx.plainL5 l = Rx.plainL l
 | [], _ => by simp [Rx.plainL5, Rx.plainL]
 | r :: t, h => by
  simp only [Rx.oks] at h
  simp only [Rx.plainL5, Rx.plainL, Rx.plain_same r h.1, Rx.plainL_same t h.2]
end
/-- May an expression be? -/
def mayR (r : Rx) : Int := if 400 < r.nodes then 4 else if 30 < r.depth then 5 else if r.plain = true then 0 else 3
end
section
open Go.RowKit
section
variable {P : Program} {w0 : World} {N : Nat} {f : Frame} {es : List Ent} {K : Exit → Frame → List Ent → Prop}
/-- No list is longer than most. -/
theorem w_len {code : Code} (t : Nat) {sz : Nat} {rows : List (List AV)} (h : rows.length ≤ most → AWp P w0 N code f es K) (ht : f t = .list sz rows := by simp only [upd_apply, Nat.reduceEqDiff, ↓reduceIte] <;> exact rfl) : AWp P w0 N code f es K := by
 intro c A Q ok rf hk
 have hr := rf.rep t
 rw [ht] at hr
 simp only [Rep] at hr
 obtain ⟨_, _, _, _, _, hm, _⟩ := hr
 exact h hm c A Q ok rf hk
theorem l_len {ops : Array Oper} {rest : List Oper} {K : Frame → List Ent → Prop} (t : Nat) {sz : Nat} {rows : List (List AV)} (h : rows.length ≤ most → AList P w0 N ops rest f es K) (ht : f t = .list sz rows := by simp only [upd_apply, Nat.reduceEqDiff, ↓reduceIte] <;> exact rfl) : AList P w0 N ops rest f es K := by
 intro c A Q ok rf hk
 have hr := rf.rep t
 rw [ht] at hr
 simp only [Rep] at hr
 obtain ⟨_, _, _, _, _, hm, _⟩ := hr
 exact h hm c A Q ok rf hk
/-- The nil slice is an empty list. -/
theorem w_nilList {code : Code} (t sz : Nat) (h : AWp P w0 N code (upd f t (.list sz [])) es K) (ht : f t = .nil := by simp only [upd_apply, Nat.reduceEqDiff, ↓reduceIte] <;> exact rfl) : AWp P w0 N code f es K := by
 intro c A Q ok rf hk
 refine h c A Q ok ⟨rf.size, fun u => ?_, rf.defers⟩ hk
 by_cases hu : u = t
 ·subst hu
  rw [upd_same]
  have := rf.rep u
  rw [ht] at this
  simp only [Rep] at this ⊢
  exact ⟨none, 0, [], this, Nat.le_refl _, Nat.zero_le _, rfl, fun e => absurd rfl e⟩
 ·rw [upd_ne _ _ hu]
  exact rf.rep u
end
end
section
open Go.RowKit
section
variable {P : Program} {w0 : World} {N : Nat} {f : Frame} {es es2 : List Ent}
theorem retn0 {fn : Func} {R : AV → List Ent → Prop} (hr : fn.results = #[]) (hs : Sub es2 es) (h : R (.tup []) es2) : kret P w0 N fn R .normal f es := ⟨.tup [], es2, res_none hr, hs, h⟩
end
/-- The rows of Closed: the wait list, its variable, the marks' variable, the marks. -/
def clE (T : List Ent) (sS s5 s6 sW : Nat) (bs : List Bool) (ws : List Int) : List Ent :=
 .row sW 3 1 (ws.map fun n => [.int .i64 n]) :: .row s6 48 1 [[.own (T.length + 3) sW]] :: .row s5 60 1 [[.own T.length sS]] :: .row sS 4 1 (bs.map fun b => [.bool b]) :: T
end
section
open Go.RowKit
theorem sub5 (a b c d e : Ent) (es : List Ent) : Sub es (a :: b :: c :: d :: e :: es) := (sub4 b c d e es).trans (Sub.tail a _)
theorem subx {a b : List Ent} (h : Sub a b := by first | exact Sub.refl _ | exact sub1 _ _ | exact sub2 _ _ _ | exact sub3 _ _ _ _ | exact sub4 _ _ _ _ _ | exact sub5 _ _ _ _ _ _) : Sub a b := h
section
variable {P : Program} {w0 : World} {N : Nat} {f : Frame} {T : List Ent} {K : Exit → Frame → List Ent → Prop}
/-- The topmost row is written no more: it is a list from here on. -/
theorem w_freezeTop {code : Code} (t : Nat) {id s e sz : Nat} {rows : List (List AV)} (h : AWp P w0 N code (upd f t (.list sz rows)) T K) (ht : f t = .own id s := by simp only [upd_apply, Nat.reduceEqDiff, ↓reduceIte] <;> exact rfl) (hid : id = T.length := by exact rfl) (hclean : rows.all cleans = true := by first | exact rfl | simp [cleans, clean]) : AWp P w0 N code f (.row s e sz rows :: T) K := by
 subst hid
 refine w_freeze t ht (at_hit _ _) hclean ?_
 rw [setAt_hit]
 exact w_less (fun _ => .inl rfl) (Sub.tail _ _) h
end
end
section
open Go.RowKit
section
variable {P : Program} {w0 : World} {N : Nat} {f : Frame} {es es2 : List Ent}
/-- What is read at a place of one's own. -/
theorem run_cell {c : Core} (ok : Ok w0 c es) {t : TypeId} {agg : Bool} {n id s i off e sz : Nat} {rows : List (List AV)} {r : List AV} {a : AV} {v : Value} (h : Rep c (some es) (.ptr id s i off) v) (he : at_ es id = some (.row s e sz rows)) (hr : rows[i]? = some r)
  (ht : tyB P t agg n = true) (hn : agg = false → n = 1) (hl : off + n ≤ r.length) (ha : loadAV agg n r off = a) : ∃ p u, v = .pointer (some p) ∧ (loadVar t p).run P c.w = .ok u c.w ∧ Rep c (some es) a u := by
 obtain ⟨gb, cap, hp, hv⟩ := rep_ptr h he
 obtain ⟨xs, cur, h4, _, _, _, _, _, h5⟩ := own_cells ok he hp
 obtain ⟨g1, g2, g3⟩ := h4.get i r hr
 have hlen : ((xs.drop (i * sz)).take sz).length = sz := by rw [List.length_take, List.length_drop]; omega
 have hrun := run_loadVar (P := P) ht hn (w := c.w) (b := gb) (k := i * sz + off) (vs := ((((xs.drop (i * sz)).take sz).drop off).take n)) (by rw [List.length_take, List.length_drop, hlen]; omega)
  (fun j u hj => by
   rw [List.getElem?_take] at hj
   split at hj
   ·rw [List.getElem?_drop, List.getElem?_take] at hj
    split at hj
    ·rw [List.getElem?_drop] at hj
     rw [Nat.add_assoc]
     exact h5 _ u hj
    ·cases hj
   ·cases hj)
 exact ⟨_, _, hv, hrun, ha ▸ rep_load g3 (fun u hu => h4.one u (List.mem_of_mem_drop (List.mem_of_mem_take hu))) agg hn hl⟩
theorem res_cell {fn : Func} {t u : Nat} {agg : Bool} {n id s i off e sz : Nat} {rows : List (List AV)} {r : List AV} {a : AV} (hres : fn.results = #[.cell t u]) (hf : f t = .ptr id s i off) (he : at_ es id = some (.row s e sz rows)) (hr : rows[i]? = some r)
  (ht : tyB P u agg n = true) (hn : agg = false → n = 1) (hl : off + n ≤ r.length) (ha : loadAV agg n r off = a) : ARes P w0 N fn f es a := by
 intro c A ok rf
 obtain ⟨p, w, hv, hrun, hrep⟩ := run_cell (P := P) ok (hf ▸ rf.rep t) he hr ht hn hl ha
 refine ⟨w, ?_, hrep⟩
 have hv' : (A.tmps[t]?).getD undef = .pointer (some p) := by simpa using hv
 simp [results, hres, hv', asAddr, hrun]
/-- What a function answers out of a variable. -/
theorem retc {fn : Func} {t u : Nat} {agg : Bool} {n id s e sz : Nat} {r : List AV} {rest : List (List AV)} {a : AV} {C : Ent → List Ent} {R : AV → List Ent → Prop} (hres : fn.results = #[.cell t u]) (ht : tyB P u agg n = true) (hs : Sub es2 es) (h : R a es2)
  (hf : f t = .ptr id s 0 0 := by simp only [upd_apply, Nat.reduceEqDiff, ↓reduceIte] <;> exact rfl) (he : Loc es id (.row s e sz (r :: rest)) C := by first | exact loc_hit | exact (loc_miss loc_hit) | exact (loc_miss (loc_miss loc_hit)) | exact (loc_miss (loc_miss (loc_miss loc_hit))) | exact (loc_miss (loc_miss (loc_miss (loc_miss loc_hit)))))
  (hn : agg = false → n = 1 := by first | (intro h; cases h; done) | exact fun _ => rfl) (hl : 0 + n ≤ r.length := by first | exact Nat.le_of_ble_eq_true rfl | decide) (ha : loadAV agg n r 0 = a := by exact rfl) : kret P w0 N fn R .ret f es :=
 ⟨a, es2, res_cell hres hf he.1 rfl ht hn hl ha, hs, h⟩
/-! ### the nil slice al' an empty list, in rows -/
def nilTo (sz : Nat) : AV → AV
 | .nil => .list sz []
 | a => a
theorem rep_nilTo {c : Core} {m : Option (List Ent)} (sz : Nat) {a : AV} {v : Value} (h : Rep c m a v) : Rep c m (nilTo sz a) v := by
 cases a with
 | nil =>
  simp only [nilTo, Rep] at h ⊢
  exact ⟨none, 0, [], h, Nat.le_refl _, Nat.zero_le _, by simp only [RepRows], fun e => absurd rfl e⟩
 | _ => exact h
theorem reps_nilTo {c : Core} {m : Option (List Ent)} (sz : Nat) : ∀ {l : List AV} {vs : List Value}, Reps c m l vs → Reps c m (l.map (nilTo sz)) vs
 | [], _, h => h
 | a :: t, _, h => by
  simp only [Reps, List.map_cons] at h ⊢
  obtain ⟨v, vs', e, h1, h2⟩ := h
  exact ⟨v, vs', e, rep_nilTo sz h1, reps_nilTo sz h2⟩
theorem repRows_nilTo {c : Core} {m : Option (List Ent)} (sz : Nat) {k : Nat} : ∀ {rows : List (List AV)} {vs : List Value}, RepRows c m k rows vs → RepRows c m k (rows.map fun r => r.map (nilTo sz)) vs
 | [], _, h => h
 | r :: t, _, h => by
  simp only [RepRows, List.map_cons] at h ⊢
  obtain ⟨v1, v2, e, hl, h1, ho, h2⟩ := h
  exact ⟨v1, v2, e, by rw [List.length_map]; exact hl, reps_nilTo sz h1, ho, repRows_nilTo sz h2⟩
theorem rep_list_nilTo {c : Core} {m : Option (List Ent)} (sz : Nat) {k : Nat} {rows : List (List AV)} {v : Value} (h : Rep c m (.list k rows) v) : Rep c m (.list k (rows.map fun r => r.map (nilTo sz))) v := by
 simp only [Rep] at h ⊢
 obtain ⟨A, cap, vs, e, h1, h2, h3, h4⟩ := h
 exact ⟨A, cap, vs, by rw [List.length_map]; exact e, by rw [List.length_map]; exact h1, by rw [List.length_map]; exact h2, repRows_nilTo sz h3, h4⟩
/-- A slot told otherwise. -/
theorem l_retell {ops : Array Oper} {rest : List Oper} {K : Frame → List Ent → Prop} (t : Nat) {a b : AV} (hw : ∀ (c : Core) (m : Option (List Ent)) (v : Value), Rep c m a v → Rep c m b v) (h : AList P w0 N ops rest (upd f t b) es K) (ht : f t = a := by simp only [upd_apply, Nat.reduceEqDiff, ↓reduceIte] <;> exact rfl) : AList P w0 N ops rest f es K := by
 intro c A Q ok rf hk
 refine h c A Q ok ⟨rf.size, fun u => ?_, rf.defers⟩ hk
 by_cases hu : u = t
 ·subst hu
  rw [upd_same]
  exact hw _ _ _ (ht ▸ rf.rep u)
 ·rw [upd_ne _ _ hu]
  exact rf.rep u
end
end
section
/-! ### how states are closed -/
def On (bs : List Bool) (i : Nat) : Prop := bs[i]? = some true
def meetB (bs : List Bool) (k : Int) : Bool := decide (0 ≤ k) && decide (k < bs.length) && !(bs.getD k.toNat true)
def meetS (bs : List Bool) (k : Int) : List Bool := if meetB bs k then bs.set k.toNat true else bs
def meetW (bs : List Bool) (ws : List Int) (k : Int) : List Int := if meetB bs k then ws ++ [k] else ws
/-- Which of a state's ways on must have been gone: of the state that is looked at, the first j. -/
def gone (n : Nf) (ex : Option (Nat × Nat)) (i : Nat) (h : i < n.st.length) : List Int :=
 match ex with
 | some (c, j) => if i = c then (n.st[i]).free.take j else (n.st[i]).free
 | none => (n.st[i]).free
structure CI (n : Nf) (l : List Int) (bs : List Bool) (ws : List Int) (done : List Int) (ex : Option (Nat × Nat)) : Prop where
 len : bs.length = n.st.length
 nodup : ws.Nodup
 cnt : ws.length ≤ bs.count true
 wait : ∀ w ∈ ws, 0 ≤ w ∧ On bs w.toNat
 sound : ∀ i, On bs i → Reach n l i
 roots : ∀ x ∈ done, 0 ≤ x → x.toNat < n.st.length → On bs x.toNat
 cur : ∀ c j, ex = some (c, j) → On bs c
 next : ∀ i (h : i < n.st.length), On bs i → (i : Int) ∉ ws → ∀ x ∈ gone n ex i h, 0 ≤ x → x.toNat < n.st.length → On bs x.toNat
theorem CI.pop {n : Nf} {l : List Int} {bs : List Bool} {ws done : List Int} (hw : 0 < ws.length) (h : CI n l bs ws done none) : CI n l bs (ws.take (ws.length - 1)) done (some ((ws[ws.length - 1]).toNat, 0)) := by
 have hl : ws = ws.take (ws.length - 1) ++ [ws[ws.length - 1]] := by
  have := List.take_add_one (l := ws) (i := ws.length - 1)
  rw [List.getElem?_eq_getElem (by omega), show ws.length - 1 + 1 = ws.length by omega, List.take_length] at this
  exact this
 have hlast := h.wait (ws[ws.length - 1]) (List.getElem_mem _)
 have hsub : ∀ w ∈ ws.take (ws.length - 1), w ∈ ws := fun w hw => List.mem_of_mem_take hw
 refine ⟨h.len, h.nodup.sublist (List.take_sublist _ _), by rw [List.length_take]; have := h.cnt; omega, fun w hw => h.wait w (hsub w hw), h.sound, h.roots, fun c j e => ?_, fun i hi ho hiw x hx h0 h1 => ?_⟩
 ·injection e with e
  injection e with e1 e2
  subst e1
  exact hlast.2
 ·by_cases hic : i = (ws[ws.length - 1]).toNat
  ·simp only [gone, if_pos hic, List.take_zero, List.not_mem_nil] at hx
  ·refine h.next i hi ho ?_ x (by simpa only [gone, if_neg hic] using hx) h0 h1
   intro hin
   rw [hl] at hin
   rcases List.mem_append.1 hin with h3 | h3
   ·exact hiw h3
   ·simp only [List.mem_singleton] at h3
    exact hic (by omega)
theorem CI.start (n : Nf) (l : List Int) : CI n l (List.replicate n.st.length false) [] (l.take 0) none := by
 have no : ∀ i, ¬ On (List.replicate n.st.length false) i := by
  intro i h
  unfold On at h
  rw [List.getElem?_replicate] at h
  split at h <;> cases h
 exact ⟨by simp, List.nodup_nil, Nat.zero_le _, fun w hw => by simp at hw, fun i hi => absurd hi (no i), fun x hx => by simp at hx, fun c j e => (by cases e), fun i hi ho => absurd ho (no i)⟩
/-- Those that are marked. -/
def marks (bs : List Bool) (k : Nat) : List Int := ((List.range k).filter fun i => bs.getD i false).map Int.ofNat
end
section
end
section
/-- Where a byte leads from one state. -/
def stepOne (n : Nf) (b : Int) (k : Int) : Option Int := if h : 0 ≤ k ∧ k.toNat < n.st.length then (if 0 ≤ (n.st[k.toNat]).to ∧ (n.st[k.toNat]).has b = true then some (n.st[k.toNat]).to else none) else none
/-! ### bits of a set -/
theorem quo64 {b : Int} (h0 : 0 ≤ b) (h1 : b < 256) : arithI .quo .u8 b 64 = some (b / 64) := by
 have : b.tdiv 64 = b / 64 := Int.tdiv_eq_ediv_of_nonneg h0
 simp only [arithI, this]
 rw [if_neg (by decide)]
 congr 1
 simp only [IntKind.wrap, IntKind.bits, IntKind.signed]
 simp
 omega
theorem rem64 {b : Int} (h0 : 0 ≤ b) : arithI .rem .u8 b 64 = some (b % 64) := by
 have : b.tmod 64 = b % 64 := Int.tmod_eq_emod_of_nonneg h0
 simp only [arithI, this]
 rw [if_neg (by decide)]
theorem and1 (x : Int) : arithI .and .u64 x 1 = some (x % 2) := by
 have h : (BitVec.ofInt IntKind.u64.bits x &&& BitVec.ofInt IntKind.u64.bits 1).toNat = (x % 2).toNat := by
  show (BitVec.ofInt 64 x &&& 1#64).toNat = _
  rw [BitVec.toNat_and, BitVec.toNat_ofInt]
  show (x % (2 ^ 64 : Nat)).toNat &&& 1 = _
  rw [Nat.and_one_is_mod]
  omega
 simp only [arithI, h]
 congr 1
 simp only [IntKind.wrap, IntKind.bits, IntKind.signed]
 simp
 omega
end
section
theorem word_at (c0 c1 c2 c3 : Int) {b : Int} (h0 : 0 ≤ b) (h1 : b < 256) : ∃ q : Nat, q < 4 ∧ b / 64 = (q : Int) ∧ loadAV false 1 [.int .u64 c0, .int .u64 c1, .int .u64 c2, .int .u64 c3] q = .int .u64 (word c0 c1 c2 c3 b) := by
 unfold word
 by_cases h2 : b < 64
 ·exact ⟨0, by omega, by omega, by rw [if_pos h2]; rfl⟩
 ·by_cases h3 : b < 128
  ·exact ⟨1, by omega, by omega, by rw [if_neg h2, if_pos h3]; rfl⟩
  ·by_cases h4 : b < 192
   ·exact ⟨2, by omega, by omega, by rw [if_neg h2, if_neg h3, if_pos h4]; rfl⟩
   ·exact ⟨3, by omega, by omega, by rw [if_neg h2, if_neg h3, if_neg h4]; rfl⟩
theorem word_nonneg {c0 c1 c2 c3 : Int} (h0 : 0 ≤ c0) (h1 : 0 ≤ c1) (h2 : 0 ≤ c2) (h3 : 0 ≤ c3) (b : Int) : 0 ≤ word c0 c1 c2 c3 b := by
 unfold word
 split
 ·exact h0
 ·split
  ·exact h1
  ·split
   ·exact h2
   ·exact h3
theorem shr_nonneg {x : Int} (h : 0 ≤ x) (k : Nat) : 0 ≤ x.fdiv (2 ^ k) := Int.fdiv_nonneg h (Int.le_of_lt (Int.pow_pos (by decide)))
theorem rem2 {x : Int} (h : 0 ≤ x) : arithI .rem .u64 x 2 = some (x % 2) := by
 have : x.tmod 2 = x % 2 := Int.tmod_eq_emod_of_nonneg h
 simp only [arithI, this]
 rw [if_neg (by decide)]
end
section
open Go.RowKit
section
variable {P : Program} {w0 : World} {N : Nat} {f : Frame} {es : List Ent} {K : Frame → List Ent → Prop}
variable {d : Nat} {ty : TypeId} {pos : String} {aft : Array Edge} {g : Option (Nat × Bool)} {x y z : Operand} {a : AV}
def markObj (n : Nat) : Obj → Obj
 | .cells cc el (lo, hi) => .cells cc el (if lo == hi then (n, n + 1) else (min lo n, max hi (n + 1)))
 | o => o
/-- A literal's bytes, turned to the type that they have: the row is marked, and a list from here on. -/
theorem o_convBytes {t e s ee : Nat} {T : List Ent} {r : List AV} {rows : List (List AV)} (hx : ev f x = .own T.length s) (ht : sliceB P t e 1 = true) (he : intB P e .u8 = true) (hc : (r :: rows).all cleans = true)
  (k : K (upd f d (.list 1 (r :: rows))) T) (hd : Nat.blt d N = true := by rfl) : AOp P w0 N ⟨some d, .convert t t x, ty, pos, aft, g⟩ f (.row s ee 1 (r :: rows) :: T) K := by
 refine op_run hd fun c A ok rf => ?_
 have hid : at_ (Ent.row s ee 1 (r :: rows) :: T) T.length = some (.row s ee 1 (r :: rows)) := at_hit _ _
 have hv := rep_own (hx ▸ rep_ev rf x) hid
 obtain ⟨h1, hm, hnf, xs, hr, ho⟩ := ok.ent _ _ hid
 rw [← hv] at ho
 obtain ⟨hxl, hor⟩ := ho
 rcases hor with ⟨_, h0⟩ | ⟨gb, cap, cur, hval, _, hheap, hcap, _, hcur, htake⟩
 ·simp at h0
 have hphi : c.phi T.length = some (gb, cap) := by
  rw [hv] at hval
  cases hp : c.phi T.length with
  | none => rw [hp] at hval; simp [ownVal] at hval
  | some q =>
   obtain ⟨q1, q2⟩ := q
   rw [hp] at hval
   simp only [ownVal, Value.slice.injEq, Option.some.injEq, Addr.mk.injEq] at hval
   obtain ⟨⟨rfl, _⟩, _, rfl⟩ := hval
   rfl
 have hgf : ¬ c.fro gb := hnf gb cap hphi
 have hgl : gb < c.w.heap.size := (Array.getElem?_eq_some_iff.1 hheap).1
 let w2 : World := c.w.freeze ⟨gb, cur.size, none⟩ 1
 have hfz : w2.heap = c.w.heap.modify gb (markObj cur.size) := rfl
 have hblk : ∀ b, b ≠ gb → w2.heap[b]? = c.w.heap[b]? := by
  intro b hb
  rw [hfz, Array.getElem?_modify, if_neg (Ne.symm hb)]
 have hsize : w2.heap.size = c.w.heap.size := by rw [hfz, Array.size_modify]
 have hnew : w2.heap[gb]? = some (.cells cur ee (cur.size, cur.size + 1)) := by
  rw [hfz, Array.getElem?_modify, if_pos rfl, hheap]
  rfl
 let c2 : Core := { c with w := w2, fro := fun b => c.fro b ∨ b = gb }
 have xx : Ext c (Ent.row s ee 1 (r :: rows) :: T) c2 T := by
  refine ⟨Nat.le_refl _, Nat.le_refl _, fun b hb => ⟨.inl hb, hblk b (fun e => hgf (e ▸ hb))⟩, fun id s' e' sz' rows' h _ => ⟨rows', at_miss _ h, rfl, rfl⟩, fun id s' kvs' h _ => ⟨kvs', at_miss _ h, rfl⟩⟩
 have ok2 : Ok w0 c2 T := by
  refine ⟨⟨ok.below.os, ok.below.tape, ok.below.output, by rw [hsize]; exact ok.below.size, fun b hb => ?_⟩, fun b hb => .inl (ok.old b hb), fun b hb => ?_, fun id y hy => ?_, fun i j s e sz rows s' e' sz' rows' g cap cap' hi hj => ok.inj i j _ _ _ _ _ _ _ _ _ _ _ (at_miss _ hi) (at_miss _ hj), fun i j s kvs s' kvs' g cap cap' hi hj => ok.injm i j _ _ _ _ _ _ _ (at_miss _ hi) (at_miss _ hj)⟩
  ·rw [show c2.w.heap[b]? = c.w.heap[b]? from hblk b (fun e => hgf (ok.old b hb |> fun h => e ▸ h))]
   exact ok.below.block b hb
  ·show b < w2.heap.size
   rw [hsize]
   rcases hb with hb | rfl
   ·exact ok.lt b hb
   ·exact hgl
  ·have hy2 := at_miss (Ent.row s ee 1 (r :: rows)) hy
   have hent := ok.ent id y hy2
   cases y with
   | dead => trivial
   | mp s3 kvs3 =>
    have hne : ∀ g3 cap3, c.phi id = some (g3, cap3) → g3 ≠ gb := by
     rintro g3 cap3 hp rfl
     obtain ⟨_, _, g4, cap4, h3, ent, clock, h4, _⟩ := hent
     rw [hp] at h3
     injection h3 with h3
     injection h3 with h3 _
     subst h3
     rw [hheap] at h4
     cases h4
    refine hent.extm xx rfl (fun g3 cap3 hp hf => ?_) (fun g3 cap3 hp => hblk g3 (hne g3 cap3 hp))
    rcases hf with hf | hf
    ·exact hent.2.1 g3 cap3 hp hf
    ·exact hne g3 cap3 hp hf
   | row s3 e3 sz3 rows3 =>
    have hne : ∀ g3 cap3, c.phi id = some (g3, cap3) → g3 ≠ gb := by
     rintro g3 cap3 hp rfl
     have := ok.inj id T.length _ _ _ _ _ _ _ _ _ _ _ hy2 hid hp hphi
     have := at_lt hy
     omega
    refine hent.ext xx rfl (fun g3 cap3 hp hf => ?_) (fun ys hown => ?_)
    ·rcases hf with hf | hf
     ·exact hent.2.2.1 g3 cap3 hp hf
     ·exact hne g3 cap3 hp hf
    ·obtain ⟨q1, q2⟩ := hown
     refine ⟨q1, ?_⟩
     rcases q2 with q2 | ⟨g3, cap3, cur3, e1, e2, e3', e4⟩
     ·exact .inl q2
     ·refine .inr ⟨g3, cap3, cur3, e1, e2, ?_, e4⟩
      have : g3 ≠ gb := by
       cases hp : c.phi id with
       | none => rw [hp] at e1; simp [ownVal] at e1
       | some q =>
        obtain ⟨q3, q4⟩ := q
        rw [hp] at e1
        simp only [ownVal, Value.slice.injEq, Option.some.injEq, Addr.mk.injEq] at e1
        have := hne q3 q4 hp
        rw [← e1.1.1]
        exact this
      rw [show c2.w.heap[g3]? = c.w.heap[g3]? from hblk g3 this]
      exact e3'
 have hrep : Rep c2 (some T) (.list 1 (r :: rows)) (.slice (some ⟨gb, 0, none⟩) (r :: rows).length cap) := by
  simp only [Rep]
  refine ⟨_, cap, xs, rfl, hcap, hm, RepRows.ext (es := none) (es' := none) _ (show ExtM c none c2 none from ⟨xx.now, xx.fro⟩) (hr.down _ hc), fun _ => ⟨gb, 0, rfl, .inr rfl, fun j hj => ?_⟩⟩
  rw [Nat.zero_add]
  show w2.cell? _ = _
  simp only [World.cell?, hnew, Option.isSome_none, Bool.false_eq_true, if_false]
  rw [← htake, List.getElem?_take, if_pos (by rw [← htake, List.length_take] at hj; omega), Array.getElem?_toList]
 refine ⟨.slice (some ⟨gb, 0, none⟩) (r :: rows).length cap, c2, T, .list 1 (r :: rows), ?_, xx, ok2, hrep, k⟩
 unfold sliceB at ht
 split at ht
 ·rename_i e' ii hu hui
  simp only [Bool.and_eq_true, beq_iff_eq] at ht
  obtain ⟨he', _⟩ := ht
  subst he'
  unfold intB at he
  split at he
  ·rename_i k2 hu2
   obtain rfl : k2 = .u8 := by simpa using he
   have hshape : c.w.shape? gb = some (ee, cur.size) := by simp [World.shape?, hheap]
   have hmark : (markStringish ⟨gb, 0, none⟩).run P c.w = .ok () w2 := by
    simp only [markStringish, Sem.run_bind, run_shape, Result.andThen_ok, hshape, run_freeze]
    rfl
   simp only [execOp, hval, convert, Sem.run_bind, run_underlying hu, run_underlying hu2, Result.andThen_ok, beq_self_eq_true, hmark, Sem.run_pure]
   rfl
  ·cases he
 ·cases ht
end
end
section
open Go.RowKit
section
variable {P : Program} {w0 : World} {N : Nat} {f : Frame} {K : Frame → List Ent → Prop}
variable {d : Nat} {ty : TypeId} {pos : String} {aft : Array Edge} {g : Option (Nat × Bool)} {x : Operand}
theorem p_convBytes {t e s ee : Nat} {T : List Ent} {r : List AV} {rows : List (List AV)} (ht : sliceB P t e 1 = true) (he : intB P e .u8 = true) (k : K (upd f d (.list 1 (r :: rows))) T)
  (hx : ev f x = .own T.length s := by simp only [ev_tmp, upd_apply, Nat.reduceEqDiff, ↓reduceIte] <;> exact rfl) (hc : (r :: rows).all cleans = true := by exact rfl) (hd : Nat.blt d N = true := by exact rfl) : AOp P w0 N ⟨some d, .convert t t x, ty, pos, aft, g⟩ f (.row s ee 1 (r :: rows) :: T) K := o_convBytes hx ht he hc k hd
end
end
section
theorem Reach.lt {n : Nf} {l : List Int} {i : Nat} (h : Reach n l i) : i < n.st.length := by cases h <;> assumption
theorem Reach.mono {n : Nf} {l l' : List Int} (h : ∀ x ∈ l, x ∈ l') {i : Nat} (hr : Reach n l i) : Reach n l' i := by
 induction hr with
 | base hi hm => exact .base hi (h _ hm)
 | step hi _ hm hj ih => exact .step hi ih hm hj
end
section
end
set_option maxRecDepth 8000
section
open Go.RowKit Go.Proofs
theorem may_is {w0 : World} {es : List Ent} {id s : Nat} {n : Nf} {k : Int} (hb : at_ es id = some (.row s 36 3 [n.cells])) : ACalls Tryd.prog w0 75 [.int .i64 k, .ptr id s 0 0] es fun v es' => v = .bool (inN n k) ∧ es' = es := by
 unfold Nf.cells at hb
 refine calls2 (N := 13) Tryd.func75 rfl rfl (by decide) ?_
 refine w_seq ?_
 refine w_region ?_
 refine l_cons rfl (p_assign ?_)
 refine l_nil ?_
 refine k_seq_normal ?_
 refine w_seq ?_
 refine w_region ?_
 refine l_cons rfl (p_move ?_)
 refine l_cons rfl (p_cmp ?_)
 refine l_cons rfl (p_move ?_)
 refine g_b rfl (fun h1 => ?_) (fun h1 => ?_)
 ·skip
  have h1' := h1; (try simp only [bb] at h1')
  refine (p_move ?_)
  refine g_y rfl h1 (p_fap fa_36_0 ?_)
  refine g_y rfl h1 (p_loadp ty_34 ?_)
  first | refine g_y rfl h1 (p_lenl sl_34 ?_) | refine g_y rfl h1 (p_leno sl_34 ?_) | refine g_y rfl h1 (p_lenn sl_34 ?_)
  refine g_y rfl h1 (p_cmp ?_)
  refine l_cons rfl (p_pickt h1 ?_)
  refine l_cons rfl (p_assign ?_)
  refine l_nil ?_
  refine k_seq_normal ?_
  refine w_ret ?_
  exact ret1 rfl ev1 subx ⟨by first | (simp_all [inN]; done) | (simp_all [inN]; omega), rfl⟩
 ·skip
  have h1' := h1; (try simp only [bb] at h1')
  refine g_n rfl h1 ?_
  refine g_n rfl h1 ?_
  refine g_n rfl h1 ?_
  refine g_n rfl h1 ?_
  refine l_cons rfl (p_pickf h1 ?_)
  refine l_cons rfl (p_assign ?_)
  refine l_nil ?_
  refine k_seq_normal ?_
  refine w_ret ?_
  exact ret1 rfl ev1 subx ⟨by first | (simp_all [inN]; done) | (simp_all [inN]; omega), rfl⟩
theorem indexFunc {w0 : World} {es : List Ent} {l : List Int} {g : Nat} {l1 l2 : List AV} (p : Int → Bool) (hg : enterB Tryd.prog g = true) (hp : ∀ k, ACalls Tryd.prog w0 g (l1 ++ [.int .i64 k] ++ l2) es fun v es' => v = .bool (p k) ∧ es' = es) :
  ACalls Tryd.prog w0 115 [ints l, .fn (.func g) l1 l2] es fun v es' => v = .int .i64 (firstIdx p l) ∧ es' = es := by
 unfold ints
 refine calls2 (N := 19) Tryd.func115 rfl rfl (by decide) ?_
 refine w_seq ?_
 refine w_region ?_
 refine l_cons rfl (p_assign ?_)
 refine l_nil ?_
 refine k_seq_normal ?_
 refine w_seq ?_
 refine w_seq ?_
 refine w_len 0 fun hl => ?_
 rw [List.length_map] at hl
 simp only [most] at hl
 refine w_region ?_
 refine l_cons rfl (p_move ?_)
 refine l_cons rfl (p_lenl sl_48 ?_)
 refine l_cons rfl (p_move ?_)
 refine l_nil ?_
 refine k_seq_normal ?_
 refine w_block ?_
 refine w_loop (fun n f es' => ∃ k, n = l.length - k ∧ k ≤ l.length ∧ (∀ j (hj : j < k) (hjl : j < l.length), p l[j] = false) ∧ es' = es ∧ Knows f [(0, .list 1 (l.map fun n => [.int .i64 n])), (1, .fn (.func g) l1 l2), (7, .int .i64 l.length), (8, .int .i64 k)]) (l.length) (⟨0, rfl, Nat.zero_le _, fun j hj => absurd hj (Nat.not_lt_zero _), rfl, by simp only [Knows, upd_apply, Nat.reduceEqDiff, ↓reduceIte, and_true, true_and, eq_self] <;> and_intros <;> rfl⟩) ?_
 rintro n f es' ⟨k, rfl, hk1, hk2, rfl, hk⟩
 refine w_pins _ (Sub.refl _) (hk) ?_
 simp only [pins]
 refine w_seq ?_
 refine w_region ?_
 refine l_cons rfl (p_cmp ?_)
 refine l_nil ?_
 refine k_seq_normal ?_
 refine w_seq ?_
 refine w_b (fun h1 => ?_) (fun h1 => ?_)
 ·skip
  have h1' := h1; (try simp only [bb] at h1')
  refine w_skip ?_
  refine k_seq_normal ?_
  refine w_seq ?_
  refine w_block ?_
  refine w_seq ?_
  refine w_region ?_
  refine l_cons rfl (p_move ?_)
  refine l_cons rfl (p_assign ?_)
  refine l_nil ?_
  refine k_seq_normal ?_
  refine w_seq ?_
  refine w_region ?_
  refine l_cons rfl (p_move ?_)
  refine l_cons rfl (p_move ?_)
  refine l_cons rfl (p_move ?_)
  refine l_cons rfl (p_ixl sl_48 ?_)
  refine l_cons rfl (p_loadf ty_3 ?_)
  refine l_cons rfl (p_callr hg (hp _) ?_)
  refine l_nil ?_
  refine k_seq_normal ?_
  refine w_b (fun h2 => ?_) (fun h2 => ?_)
  ·skip
   have h2' := h2; (try simp only [bb] at h2')
   refine w_seq ?_
   refine w_region ?_
   refine l_cons rfl (p_move ?_)
   refine l_cons rfl (p_assign ?_)
   refine l_nil ?_
   refine k_seq_normal ?_
   refine w_ret ?_
   refine k_blk_ret ?_
   refine k_seq_ret ?_
   refine k_seq_ret ?_
   refine k_blk_ret ?_
   refine k_seq_ret ?_
   exact ret1 rfl ev1 (Sub.refl _) ⟨by rw [firstIdx_at (p := p) (l := l) (k := k) (by omega) (fun j hj => hk2 j hj (by omega)) (by assumption)], rfl⟩
  ·skip
   have h2' := h2; (try simp only [bb] at h2')
   refine w_skip ?_
   refine k_blk_normal ?_
   refine k_seq_normal ?_
   refine w_region ?_
   refine l_cons rfl (p_arith ?_)
   refine l_cons rfl (p_move ?_)
   refine l_nil ?_
   refine k_seq_normal ?_
   exact ⟨l.length - (k + 1), by omega, k + 1, rfl, by omega, fun j hj hjl => by
    rcases Nat.lt_or_eq_of_le (Nat.le_of_lt_succ hj) with h9 | h9
    ·exact hk2 j h9 hjl
    ·subst h9; assumption, rfl, by simp only [Knows, upd_apply, Nat.reduceEqDiff, ↓reduceIte, and_true, true_and, eq_self] <;> and_intros <;> rfl⟩
 ·skip
  have h1' := h1; (try simp only [bb] at h1')
  refine w_exit ?_
  refine k_seq_exit ?_
  refine k_seq_exit ?_
  refine k_blk_here ?_
  refine k_seq_normal ?_
  refine w_seq ?_
  refine w_region ?_
  refine l_cons rfl (p_assign ?_)
  refine l_nil ?_
  refine k_seq_normal ?_
  refine w_ret ?_
  exact ret1 rfl ev1 (Sub.refl _) ⟨by rw [firstIdx_no (p := p) (l := l) (fun j hj => hk2 j (by omega) hj)], rfl⟩
end
set_option maxRecDepth 8000
section
open Go.RowKit Go.Proofs
theorem containsFunc {w0 : World} {es : List Ent} {l : List Int} {g : Nat} {l1 l2 : List AV} (p : Int → Bool) (hg : enterB Tryd.prog g = true) (hp : ∀ k, ACalls Tryd.prog w0 g (l1 ++ [.int .i64 k] ++ l2) es fun v es' => v = .bool (p k) ∧ es' = es) :
  ACalls Tryd.prog w0 76 [ints l, .fn (.func g) l1 l2] es fun v es' => v = .bool (l.any p) ∧ es' = es := by
 refine calls2 (N := 9) Tryd.func76 rfl rfl (by decide) ?_
 refine w_seq ?_
 refine w_region ?_
 refine l_cons rfl (p_assign ?_)
 refine l_nil ?_
 refine k_seq_normal ?_
 refine w_seq ?_
 refine w_region ?_
 refine l_cons rfl (p_move ?_)
 refine l_cons rfl (p_move ?_)
 refine l_cons rfl (p_callr en_115 (indexFunc p hg hp) ?_)
 refine l_cons rfl (p_cmp ?_)
 refine l_cons rfl (p_assign ?_)
 refine l_nil ?_
 refine k_seq_normal ?_
 refine w_ret ?_
 exact ret1 rfl ev1 subx ⟨by rw [← firstIdx_ge], rfl⟩
theorem may_isnt {w0 : World} {es : List Ent} {id s id2 s2 : Nat} {n : Nf} {k : Int} (hv : at_ es id2 = some (.row s2 97 1 [[.fn (.func 75) [] [.ptr id s 0 0]]])) (hb : at_ es id = some (.row s 36 3 [n.cells])) :
  ACalls Tryd.prog w0 77 [.int .i64 k, .ptr id2 s2 0 0] es fun v es' => v = .bool (!inN n k) ∧ es' = es := by
 refine calls2 (N := 8) Tryd.func77 rfl rfl (by decide) ?_
 refine w_seq ?_
 refine w_region ?_
 refine l_cons rfl (p_assign ?_)
 refine l_nil ?_
 refine k_seq_normal ?_
 refine w_seq ?_
 refine w_region ?_
 refine l_cons rfl (p_loadp ty_97 ?_)
 refine l_cons rfl (p_move ?_)
 refine l_cons rfl (p_callr en_75 (may_is hb) ?_)
 refine l_cons rfl (p_not ?_)
 refine l_cons rfl (p_assign ?_)
 refine l_nil ?_
 refine k_seq_normal ?_
 refine w_ret ?_
 exact ret1 rfl ev1 subx ⟨rfl, rfl⟩
theorem may {w0 : World} {es : List Ent} (n : Nf) : ACalls Tryd.prog w0 30 [n.av] es fun v es' => v = .bool (mayN n) ∧ es' = es := by
 unfold Nf.av
 refine calls1 (N := 51) Tryd.func30 rfl rfl (by decide) ?_
 refine w_seq ?_
 refine w_region ?_
 refine l_cons rfl (p_box fun s1 => ?_)
 refine l_cons rfl (p_assign ?_)
 refine l_nil ?_
 refine k_seq_normal ?_
 refine w_seq ?_
 refine w_region ?_
 refine l_cons rfl (p_mkfn ?_)
 refine l_cons rfl (p_alloc ze_97 fun s3 => ?_)
 refine l_cons rfl (p_store ty_97 ?_)
 refine l_nil ?_
 refine k_seq_normal ?_
 refine w_seq ?_
 refine w_seq ?_
 refine w_region ?_
 refine l_cons rfl (p_fap fa_36_0 ?_)
 refine l_cons rfl (p_loadp ty_34 ?_)
 first | refine l_cons rfl (p_lenl sl_34 ?_) | refine l_cons rfl (p_leno sl_34 ?_) | refine l_cons rfl (p_lenn sl_34 ?_)
 refine l_cons rfl (p_cmp ?_)
 refine l_cons rfl (p_move ?_)
 refine g_b rfl (fun h1 => ?_) (fun h1 => ?_)
 ·skip
  have h1' := h1; (try simp only [bb] at h1')
  refine (p_loadp ty_97 ?_)
  refine g_y rfl h1 (p_fap fa_36_1 ?_)
  refine g_y rfl h1 (p_loadp ty_3 ?_)
  refine g_y rfl h1 (p_callr en_75 (may_is (at_miss _ (at_hit _ _))) ?_)
  refine g_y rfl h1 (p_not ?_)
  refine l_cons rfl (p_pickf h1 ?_)
  refine l_cons rfl (p_move ?_)
  refine g_b rfl (fun h2 => ?_) (fun h2 => ?_)
  ·skip
   have h2' := h2; (try simp only [bb] at h2')
   refine (p_loadp ty_97 ?_)
   refine g_y rfl h2 (p_fap fa_36_2 ?_)
   refine g_y rfl h2 (p_loadp ty_3 ?_)
   refine g_y rfl h2 (p_callr en_75 (may_is (at_miss _ (at_hit _ _))) ?_)
   refine g_y rfl h2 (p_not ?_)
   refine l_cons rfl (p_pickf h2 ?_)
   refine l_nil ?_
   refine k_seq_normal ?_
   refine w_b (fun h3 => ?_) (fun h3 => ?_)
   ·skip
    have h3' := h3; (try simp only [bb] at h3')
    refine w_seq ?_
    refine w_region ?_
    refine l_cons rfl (p_assign ?_)
    refine l_nil ?_
    refine k_seq_normal ?_
    refine w_ret ?_
    refine k_seq_ret ?_
    exact ret1 rfl ev1 subx ⟨by rw [may_no1 (by first | (left; omega) | (right; simp_all; done))], rfl⟩
   ·skip
    have h3' := h3; (try simp only [bb] at h3')
    refine w_skip ?_
    refine k_seq_normal ?_
    refine w_seq ?_
    refine w_seq ?_
    have hst : n.st.length ≤ 2000 := by omega
    refine w_region ?_
    refine l_cons rfl (p_fap fa_36_0 ?_)
    refine l_cons rfl (p_loadp ty_34 ?_)
    refine l_len 26 fun hlen => ?_
    first | refine l_cons rfl (p_lenl sl_34 ?_) | refine l_cons rfl (p_leno sl_34 ?_) | refine l_cons rfl (p_lenn sl_34 ?_)
    refine l_cons rfl (p_move ?_)
    refine l_nil ?_
    refine k_seq_normal ?_
    refine w_block ?_
    refine w_loop (fun m f es' => ∃ k, m = n.st.length - k ∧ k ≤ n.st.length ∧ (n.st.take k).all (okS n) = true ∧ Sub (.row s3 97 1 [[.fn (.func 75) [] [.ptr es.length s1 0 0]]] :: .row s1 36 3 [n.cells] :: es) es' ∧ Knows f [(1, .ptr es.length s1 0 0), (3, .ptr (es.length + 1) s3 0 0), (26, .list 6 (n.st.map St.row)), (27, .int .i64 n.st.length), (28, .int .i64 k)]) (n.st.length) (⟨0, rfl, Nat.zero_le _, rfl, Sub.refl _, by simp only [Knows, upd_apply, Nat.reduceEqDiff, ↓reduceIte, and_true, true_and, eq_self] <;> and_intros <;> rfl⟩) ?_
    rintro m f es' ⟨k, rfl, hk1, hk2, hsub, hk⟩
    refine w_pins _ hsub (hk) ?_
    simp only [pins]
    refine w_seq ?_
    refine w_region ?_
    refine l_cons rfl (p_cmp ?_)
    refine l_nil ?_
    refine k_seq_normal ?_
    refine w_seq ?_
    refine w_b (fun h4 => ?_) (fun h4 => ?_)
    ·skip
     have h4' := h4; (try simp only [bb] at h4')
     refine w_skip ?_
     refine k_seq_normal ?_
     refine w_seq ?_
     refine w_block ?_
     refine w_seq ?_
     refine w_region ?_
     refine l_cons rfl (p_ixl sl_34 ?_)
     refine l_cons rfl (p_loadf ty_75 ?_)
     refine l_cons rfl (p_alloc ze_75 fun s5 => ?_)
     refine l_cons rfl (p_store ty_75 ?_)
     refine l_nil ?_
     refine k_seq_normal ?_
     refine w_seq ?_
     refine w_region ?_
     refine l_cons rfl (p_fap fa_75_2 ?_)
     refine l_cons rfl (p_loadp ty_48 ?_)
     first | refine l_cons rfl (p_lenl sl_48 ?_) | refine l_cons rfl (p_leno sl_48 ?_) | refine l_cons rfl (p_lenn sl_48 ?_)
     refine l_cons rfl (p_cmp ?_)
     refine l_cons rfl (p_move ?_)
     refine g_b rfl (fun h5 => ?_) (fun h5 => ?_)
     ·skip
      have h5' := h5; (try simp only [bb] at h5')
      refine (p_fap fa_75_1 ?_)
      refine g_y rfl h5 (p_loadp ty_3 ?_)
      refine g_y rfl h5 (p_fap fa_36_0 ?_)
      refine g_y rfl h5 (p_loadp ty_34 ?_)
      first | refine g_y rfl h5 (p_lenl sl_34 ?_) | refine g_y rfl h5 (p_leno sl_34 ?_) | refine g_y rfl h5 (p_lenn sl_34 ?_)
      refine g_y rfl h5 (p_cmp ?_)
      refine l_cons rfl (p_pickf h5 ?_)
      refine l_cons rfl (p_move ?_)
      refine g_b rfl (fun h6 => ?_) (fun h6 => ?_)
      ·skip
       have h6' := h6; (try simp only [bb] at h6')
       refine (p_fap fa_75_2 ?_)
       refine g_y rfl h6 (p_loadp ty_48 ?_)
       refine g_y rfl h6 (p_mkfn ?_)
       refine g_y rfl h6 (p_callr en_76 (containsFunc (fun k => !inN n k) en_77 (fun k => may_isnt (n := n) (at_miss _ (at_hit _ _)) (at_miss _ (at_miss _ (at_hit _ _))))) ?_)
       refine l_cons rfl (p_pickf h6 ?_)
       refine l_nil ?_
       refine k_seq_normal ?_
       refine w_b (fun h7 => ?_) (fun h7 => ?_)
       ·skip
        have h7' := h7; (try simp only [bb] at h7')
        refine w_seq ?_
        refine w_region ?_
        refine l_cons rfl (p_assign ?_)
        refine l_nil ?_
        refine k_seq_normal ?_
        refine w_ret ?_
        refine k_blk_ret ?_
        refine k_seq_ret ?_
        refine k_seq_ret ?_
        refine k_blk_ret ?_
        refine k_seq_ret ?_
        exact ret1 rfl ev1 subx ⟨by rw [may_no2 (k := k) (by omega) (by unfold okS; first | (simp_all; done) | (simp_all; omega))], rfl⟩
       ·skip
        have h7' := h7; (try simp only [bb] at h7')
        refine w_skip ?_
        refine k_blk_normal ?_
        refine k_seq_normal ?_
        refine w_region ?_
        refine l_cons rfl (p_arith ?_)
        refine l_cons rfl (p_move ?_)
        refine l_nil ?_
        refine k_seq_normal ?_
        exact ⟨n.st.length - (k + 1), by omega, k + 1, rfl, by omega, take_all (by omega) hk2 (by unfold okS; first | (simp_all; done) | (simp_all; omega)), (by first | exact Sub.refl _ | exact sub1 _ _), by simp only [Knows, upd_apply, Nat.reduceEqDiff, ↓reduceIte, and_true, true_and, eq_self] <;> and_intros <;> rfl⟩
      ·skip
       have h6' := h6; (try simp only [bb] at h6')
       refine g_n rfl h6 ?_
       refine g_n rfl h6 ?_
       refine g_n rfl h6 ?_
       refine l_cons rfl (p_pickt h6 ?_)
       refine l_nil ?_
       refine k_seq_normal ?_
       refine w_t rfl ?_
       refine w_seq ?_
       refine w_region ?_
       refine l_cons rfl (p_assign ?_)
       refine l_nil ?_
       refine k_seq_normal ?_
       refine w_ret ?_
       refine k_blk_ret ?_
       refine k_seq_ret ?_
       refine k_seq_ret ?_
       refine k_blk_ret ?_
       refine k_seq_ret ?_
       exact ret1 rfl ev1 subx ⟨by rw [may_no2 (k := k) (by omega) (by unfold okS; first | (simp_all; done) | (simp_all; omega))], rfl⟩
     ·skip
      have h5' := h5; (try simp only [bb] at h5')
      refine g_n rfl h5 ?_
      refine g_n rfl h5 ?_
      refine g_n rfl h5 ?_
      refine g_n rfl h5 ?_
      refine g_n rfl h5 ?_
      refine l_cons rfl (p_pickt h5 ?_)
      refine l_cons rfl (p_move ?_)
      refine g_n rfl rfl ?_
      refine g_n rfl rfl ?_
      refine g_n rfl rfl ?_
      refine g_n rfl rfl ?_
      refine l_cons rfl (p_pickt rfl ?_)
      refine l_nil ?_
      refine k_seq_normal ?_
      refine w_t rfl ?_
      refine w_seq ?_
      refine w_region ?_
      refine l_cons rfl (p_assign ?_)
      refine l_nil ?_
      refine k_seq_normal ?_
      refine w_ret ?_
      refine k_blk_ret ?_
      refine k_seq_ret ?_
      refine k_seq_ret ?_
      refine k_blk_ret ?_
      refine k_seq_ret ?_
      exact ret1 rfl ev1 subx ⟨by rw [may_no2 (k := k) (by omega) (by unfold okS; first | (simp_all; done) | (simp_all; omega))], rfl⟩
    ·skip
     have h4' := h4; (try simp only [bb] at h4')
     refine w_exit ?_
     refine k_seq_exit ?_
     refine k_seq_exit ?_
     refine k_blk_here ?_
     refine k_seq_normal ?_
     refine w_seq ?_
     refine w_region ?_
     refine l_cons rfl (p_assign ?_)
     refine l_nil ?_
     refine k_seq_normal ?_
     refine w_ret ?_
     exact ret1 rfl ev1 subx ⟨by rw [may_yes (by omega) (by simp_all) (by simp_all) (by rw [← hk2, List.take_of_length_le (by omega)])], rfl⟩
  ·skip
   have h2' := h2; (try simp only [bb] at h2')
   refine g_n rfl h2 ?_
   refine g_n rfl h2 ?_
   refine g_n rfl h2 ?_
   refine g_n rfl h2 ?_
   refine l_cons rfl (p_pickt h2 ?_)
   refine l_nil ?_
   refine k_seq_normal ?_
   refine w_t rfl ?_
   refine w_seq ?_
   refine w_region ?_
   refine l_cons rfl (p_assign ?_)
   refine l_nil ?_
   refine k_seq_normal ?_
   refine w_ret ?_
   refine k_seq_ret ?_
   exact ret1 rfl ev1 subx ⟨by rw [may_no1 (by first | (left; omega) | (right; simp_all; done))], rfl⟩
 ·skip
  have h1' := h1; (try simp only [bb] at h1')
  refine g_n rfl h1 ?_
  refine g_n rfl h1 ?_
  refine g_n rfl h1 ?_
  refine g_n rfl h1 ?_
  refine l_cons rfl (p_pickt h1 ?_)
  refine l_cons rfl (p_move ?_)
  refine g_n rfl rfl ?_
  refine g_n rfl rfl ?_
  refine g_n rfl rfl ?_
  refine g_n rfl rfl ?_
  refine g_n rfl rfl ?_
  refine l_cons rfl (p_pickt rfl ?_)
  refine l_nil ?_
  refine k_seq_normal ?_
  refine w_t rfl ?_
  refine w_seq ?_
  refine w_region ?_
  refine l_cons rfl (p_assign ?_)
  refine l_nil ?_
  refine k_seq_normal ?_
  refine w_ret ?_
  refine k_seq_ret ?_
  exact ret1 rfl ev1 subx ⟨by rw [may_no1 (by first | (left; omega) | (right; simp_all; done))], rfl⟩
end
set_option maxRecDepth 8000
section
open Go.RowKit Go.Proofs
end
set_option maxRecDepth 8000
section
open Go.RowKit Go.Proofs
theorem bytesetHas {w0 : World} {es : List Ent} (c0 c1 c2 c3 b : Int) (hb0 : 0 ≤ b) (hb1 : b < 256) : ACalls Tryd.prog w0 100 [.agg [.int .u64 c0, .int .u64 c1, .int .u64 c2, .int .u64 c3], .int .u8 b] es fun v es' => v = .bool (hasW c0 c1 c2 c3 b) ∧ es' = es := by
 obtain ⟨q, hq4, hq, hw⟩ := word_at c0 c1 c2 c3 hb0 hb1
 refine calls2 (N := 14) Tryd.func100 rfl rfl (by decide) ?_
 refine w_seq ?_
 refine w_region ?_
 refine l_cons rfl (p_box fun s2 => ?_)
 refine l_cons rfl (p_assign ?_)
 refine l_nil ?_
 refine k_seq_normal ?_
 refine w_seq ?_
 refine w_region ?_
 refine l_cons rfl (p_move ?_)
 refine l_cons rfl (p_arith ?_ (hb := quo64 hb0 hb1))
 refine l_cons rfl (p_ixa ar_26 (a := .ptr es.length s2 0 q) ?_ (h0 := by omega) (h1 := by omega) (ho := by rw [hq]; simp))
 refine l_cons rfl (p_loadp ty_24 (a := .int .u64 (word c0 c1 c2 c3 b)) ?_ (hl := by simp only [List.length_cons, List.length_nil]; omega) (ha := hw))
 refine l_cons rfl (p_move ?_)
 refine l_cons rfl (p_arith ?_ (hb := rem64 hb0))
 refine l_cons rfl (p_shr ?_)
 refine l_cons rfl (p_arith ?_ (hb := and1 _))
 refine l_cons rfl (p_cmp ?_)
 refine l_cons rfl (p_assign ?_)
 refine l_nil ?_
 refine k_seq_normal ?_
 refine w_ret ?_
 exact ret1 rfl ev1 subx ⟨rfl, rfl⟩
theorem ref1Has {w0 : World} {es : List Ent} (c0 c1 c2 c3 b : Int) (hb0 : 0 ≤ b) (hb1 : b < 256) (hc0 : 0 ≤ c0) (hc1 : 0 ≤ c1) (hc2 : 0 ≤ c2) (hc3 : 0 ≤ c3) : ACalls Tryd.prog w0 55 [.agg [.int .u64 c0, .int .u64 c1, .int .u64 c2, .int .u64 c3], .int .u8 b] es fun v es' => v = .bool (hasW c0 c1 c2 c3 b) ∧ es' = es := by
 obtain ⟨q, hq4, hq, hw⟩ := word_at c0 c1 c2 c3 hb0 hb1
 refine calls2 (N := 14) Tryd.func55 rfl rfl (by decide) ?_
 refine w_seq ?_
 refine w_region ?_
 refine l_cons rfl (p_box fun s2 => ?_)
 refine l_cons rfl (p_assign ?_)
 refine l_nil ?_
 refine k_seq_normal ?_
 refine w_seq ?_
 refine w_region ?_
 refine l_cons rfl (p_move ?_)
 refine l_cons rfl (p_arith ?_ (hb := quo64 hb0 hb1))
 refine l_cons rfl (p_ixa ar_26 (a := .ptr es.length s2 0 q) ?_ (h0 := by omega) (h1 := by omega) (ho := by rw [hq]; simp))
 refine l_cons rfl (p_loadp ty_24 (a := .int .u64 (word c0 c1 c2 c3 b)) ?_ (hl := by simp only [List.length_cons, List.length_nil]; omega) (ha := hw))
 refine l_cons rfl (p_move ?_)
 refine l_cons rfl (p_arith ?_ (hb := rem64 hb0))
 refine l_cons rfl (p_shr ?_)
 refine l_cons rfl (p_arith ?_ (hb := rem2 (shr_nonneg (word_nonneg hc0 hc1 hc2 hc3 b) _)))
 refine l_cons rfl (p_cmp ?_)
 refine l_cons rfl (p_assign ?_)
 refine l_nil ?_
 refine k_seq_normal ?_
 refine w_ret ?_
 exact ret1 rfl ev1 subx ⟨rfl, rfl⟩
end
set_option maxRecDepth 8000
section
open Go.RowKit Go.Proofs
end
set_option maxRecDepth 8000
section
open Go.RowKit Go.Proofs
def nfA : Nf := ⟨[⟨0, 0, 0, 0, -1, []⟩, ⟨0, 8589934592, 0, 0, 0, []⟩], 1, 0⟩
end
set_option maxRecDepth 8000
section
open Go.RowKit Go.Proofs
theorem of_a {w0 : World} {es : List Ent} : ACalls Tryd.prog w0 68 [.list 1 [[.int .u8 97]]] es fun v es' => v = .agg [AV.int .u64 0, .int .u64 8589934592, .int .u64 0, .int .u64 0] ∧ es' = es := by
 refine calls1 (N := 27) Tryd.func68 rfl rfl (by decide) ?_
 refine w_seq ?_
 refine w_region ?_
 refine l_cons rfl (p_alloc ze_26 fun s2 => ?_)
 refine l_nil ?_
 refine k_seq_normal ?_
 refine w_seq ?_
 refine w_region ?_
 refine l_cons rfl (p_alloc ze_26 fun s3 => ?_)
 refine l_nil ?_
 refine k_seq_normal ?_
 refine w_seq ?_
 refine w_seq ?_
 refine w_region ?_
 refine l_cons rfl (p_assign ?_)
 refine l_nil ?_
 refine k_seq_normal ?_
 refine w_block ?_
 refine w_loop (fun m f es' => (m = 1 ∧ es' = .row s3 26 4 [[AV.int .u64 0, .int .u64 0, .int .u64 0, .int .u64 0]] :: .row s2 26 4 [[AV.int .u64 0, .int .u64 0, .int .u64 0, .int .u64 0]] :: es ∧ Knows f [(0, .list 1 [[.int .u8 97]]), (2, .ptr es.length s2 0 0), (3, .ptr (es.length + 1) s3 0 0), (4, .int .i64 0)]) ∨ (m = 0 ∧ es' = .row s3 26 4 [[AV.int .u64 0, .int .u64 8589934592, .int .u64 0, .int .u64 0]] :: .row s2 26 4 [[AV.int .u64 0, .int .u64 0, .int .u64 0, .int .u64 0]] :: es ∧ Knows f [(0, .list 1 [[.int .u8 97]]), (2, .ptr es.length s2 0 0), (3, .ptr (es.length + 1) s3 0 0), (4, .int .i64 1)])) (1) (Or.inl ⟨rfl, rfl, by simp only [Knows, upd_apply, Nat.reduceEqDiff, ↓reduceIte, and_true, true_and, eq_self] <;> and_intros <;> rfl⟩) ?_
 rintro m f es' (⟨rfl, rfl, hk⟩ | ⟨rfl, rfl, hk⟩)
 ·refine w_pins _ (Sub.refl _) hk ?_
  simp only [pins]
  refine w_seq ?_
  refine w_seq ?_
  refine w_region ?_
  refine l_cons rfl (p_move ?_)
  refine l_cons rfl (p_move ?_)
  refine l_cons rfl (p_lenl sl_22 ?_)
  refine l_cons rfl (p_cmpl true ?_)
  refine l_nil ?_
  refine k_seq_normal ?_
  refine w_t rfl ?_
  refine w_skip ?_
  refine k_seq_normal ?_
  refine w_seq ?_
  refine w_block ?_
  refine w_drawn 14 [] (fun e => e = _) mixed (by kernel_rfl) rfl ?_
  refine q1 0 (hg := rfl) (hu := rfl) (h := by rintro f _ rfl; exact p_move ⟨rfl, rfl⟩) (k := ?_)
  refine q1 4 (hg := rfl) (hu := rfl) (h := by rintro f _ rfl; exact p_move ⟨rfl, rfl⟩) (k := ?_)
  refine q2 11 12 (hg := rfl) (hu := rfl) (h := by rintro f _ rfl; exact p_ixl sl_22 ⟨rfl, rfl⟩) (k := ?_)
  refine q1 13 (hg := rfl) (hu := rfl) (h := by rintro f _ rfl; exact p_loadf ty_5 ⟨rfl, rfl⟩) (k := ?_)
  refine q1 14 (hg := rfl) (hu := rfl) (h := by rintro f _ rfl; exact p_arithl 1 ⟨rfl, rfl⟩) (k := ?_)
  refine q2 3 15 (hg := rfl) (hu := rfl) (h := by rintro f _ rfl; exact p_ixa ar_26 ⟨rfl, rfl⟩) (k := ?_)
  refine q1 16 (hg := rfl) (hu := rfl) (h := by rintro f _ rfl; exact p_loadp ty_24 ⟨rfl, rfl⟩) (k := ?_)
  refine q1 0 (hg := rfl) (hu := rfl) (h := by rintro f _ rfl; exact p_move ⟨rfl, rfl⟩) (k := ?_)
  refine q1 4 (hg := rfl) (hu := rfl) (h := by rintro f _ rfl; exact p_move ⟨rfl, rfl⟩) (k := ?_)
  refine q2 18 19 (hg := rfl) (hu := rfl) (h := by rintro f _ rfl; exact p_ixl sl_22 ⟨rfl, rfl⟩) (k := ?_)
  refine q1 20 (hg := rfl) (hu := rfl) (h := by rintro f _ rfl; exact p_loadf ty_5 ⟨rfl, rfl⟩) (k := ?_)
  refine q1 21 (hg := rfl) (hu := rfl) (h := by rintro f _ rfl; exact p_arithl 33 ⟨rfl, rfl⟩) (k := ?_)
  refine q1 22 (hg := rfl) (hu := rfl) (h := by rintro f _ rfl; exact p_shl ⟨rfl, rfl⟩) (k := ?_)
  refine q2 17 23 (hg := rfl) (hu := rfl) (h := by rintro f _ rfl; exact p_arithl 8589934592 ⟨rfl, rfl⟩) (k := ?_)
  refine q_end ?_
  refine m_end ?_
  refine l_cons rfl (p_ixa ar_26 ?_)
  refine l_cons rfl (p_store ty_24 ?_)
  refine l_nil ?_
  refine k_blk_normal ?_
  refine k_seq_normal ?_
  refine w_region ?_
  refine l_cons rfl (p_move ?_)
  refine l_cons rfl (p_arith ?_)
  refine l_cons rfl (p_assign ?_)
  refine l_nil ?_
  refine k_seq_normal ?_
  exact ⟨0, by omega, Or.inr ⟨rfl, rfl, by simp only [Knows, upd_apply, Nat.reduceEqDiff, ↓reduceIte, and_true, true_and, eq_self] <;> and_intros <;> rfl⟩⟩
 ·refine w_pins _ (Sub.refl _) hk ?_
  simp only [pins]
  refine w_seq ?_
  refine w_seq ?_
  refine w_region ?_
  refine l_cons rfl (p_move ?_)
  refine l_cons rfl (p_move ?_)
  refine l_cons rfl (p_lenl sl_22 ?_)
  refine l_cons rfl (p_cmpl false ?_)
  refine l_nil ?_
  refine k_seq_normal ?_
  refine w_f rfl ?_
  refine w_exit ?_
  refine k_seq_exit ?_
  refine k_seq_exit ?_
  refine k_blk_here ?_
  refine k_seq_normal ?_
  refine w_seq ?_
  refine w_region ?_
  refine l_cons rfl (p_loadp ty_26 ?_)
  refine l_cons rfl (p_store ty_26 ?_)
  refine l_nil ?_
  refine k_seq_normal ?_
  refine w_ret ?_
  exact retc rfl ty_26 (sub2 _ _ _) ⟨rfl, rfl⟩
end
set_option maxRecDepth 8000
section
open Go.RowKit Go.Proofs
/-- Arguments told otherwise. -/
theorem ACalls.args {P : Program} {w0 : World} {fid : FuncId} {a b : List AV} {es : List Ent} {R : AV → List Ent → Prop} (h : ∀ (c : Core) (m : Option (List Ent)) (vs : List Value), Reps c m b vs → Reps c m a vs) (k : ACalls P w0 fid a es R) : ACalls P w0 fid b es R :=
 fun c vs ok rs => k c vs ok (h _ _ _ rs)
end
set_option maxRecDepth 8000
section
open Go.RowKit Go.Proofs
end
section
open Go.RowKit
/-- The library's table, al' it is laid. -/
def Tab (w : World) : Prop := 0 < w.heap.size ∧ ∀ i, i < 64 → w.cell? ⟨0, i, none⟩ = some (.int .u8 (Lib.deBruijn64tab.getD i 0 : Nat))
section
variable {P : Program} {w0 : World} {N : Nat} {f : Frame} {es : List Ent} {K : Frame → List Ent → Prop}
variable {d : Nat} {ty : TypeId} {pos : String} {aft : Array Edge} {g : Option (Nat × Bool)} {x y z : Operand} {a : AV}
theorem Tab.now {c : Core} (h : Tab w0) (ok : Ok w0 c es) {i : Nat} (hi : i < 64) : c.w.cell? ⟨0, i, none⟩ = some (.int .u8 (Lib.deBruijn64tab.getD i 0 : Nat)) := by
 rw [← h.2 i hi]
 unfold World.cell?
 simp only [ok.below.block 0 h.1]
theorem p_ixg {t : TypeId} {n e gl : Nat} {k' : IntKind} {ix : Int} (ht : arrB P t n e 1 = true) (k : K (upd f d (.raw (.pointer (some ⟨gl, ix.toNat, none⟩)))) es) (hx : ev f x = .raw (.pointer (some ⟨gl, 0, none⟩)) := by exact rfl) (hy : ev f y = .int k' ix := by simp only [ev_tmp, ev_const, ev_func, ofConst_int, ofConst_bool, ofConst_str, ofConst_nil, upd_apply, Nat.reduceEqDiff, ↓reduceIte] <;> exact rfl) (h0 : 0 ≤ ix := by omega) (h1 : ix < n := by omega) (hd : Nat.blt d N = true := by exact rfl) : AOp P w0 N ⟨some d, .indexAddr t x y, ty, pos, aft, g⟩ f es K := by
 refine op_look hd (fun c A ok rf => ⟨.pointer (some ⟨gl, ix.toNat, none⟩), ?_, by simp only [Rep]⟩) k
 have h := rep_ev rf x
 rw [hx] at h
 simp only [Rep] at h
 have hiy := ev_int rf hy
 unfold arrB at ht
 split at ht
 ·rename_i n' e' i' hu hi
  simp only [Bool.and_eq_true, beq_iff_eq] at ht
  obtain ⟨⟨rfl, rfl⟩, hz⟩ := ht
  simp only [execOp, h, hiy, Instr.indexAt, asIntOf, Sem.run_bind, Sem.run_pure, Result.andThen_ok, run_underlying hu, Instr.sureAddr, Sem.run_ite, h0, h1, and_self, if_true, sizeOf, typeInfo, run_program, hi, hz, Nat.mul_one, add_eq, Nat.zero_add]
 ·cases ht
theorem p_neg {t : TypeId} {k' : IntKind} {m r : Int} (k : K (upd f d (.int k' r)) es) (hx : ev f x = .int k' m := by simp only [ev_tmp, ev_const, ev_func, ofConst_int, ofConst_bool, ofConst_str, ofConst_nil, upd_apply, Nat.reduceEqDiff, ↓reduceIte] <;> exact rfl) (hb : k'.wrap (0 - m) = r := by exact rfl) (hd : Nat.blt d N = true := by exact rfl) : AOp P w0 N ⟨some d, .unOp .neg t x, ty, pos, aft, g⟩ f es K := o_neg hx hb k hd
theorem p_ldg {t : TypeId} {i : Nat} (hT : Tab w0) (hi : i < 64) (ht : tyB P t false 1 = true) (k : K (upd f d (.int .u8 (Lib.deBruijn64tab.getD i 0 : Nat))) es) (hx : ev f x = .raw (.pointer (some ⟨0, i, none⟩)) := by simp only [ev_tmp, ev_const, ev_func, ofConst_int, ofConst_bool, ofConst_str, ofConst_nil, upd_apply, Nat.reduceEqDiff, ↓reduceIte] <;> exact rfl) (hd : Nat.blt d N = true := by exact rfl) : AOp P w0 N ⟨some d, .load t x, ty, pos, aft, g⟩ f es K := by
 refine op_look hd (fun c A ok rf => ⟨.int .u8 (Lib.deBruijn64tab.getD i 0 : Nat), ?_, by simp only [Rep]⟩) k
 have h := rep_ev rf x
 rw [hx] at h
 simp only [Rep] at h
 have hc := hT.now ok hi
 have hrun := run_loadVar (P := P) ht (fun _ => rfl) (w := c.w) (b := 0) (k := i) (vs := [.int .u8 (Lib.deBruijn64tab.getD i 0 : Nat)]) rfl (fun j u hj => by
  cases j with
  | zero => simp at hj; subst hj; exact hc
  | succ j => simp at hj)
 simp only [Bool.false_eq_true, if_false, List.getD_cons_zero] at hrun
 simp only [execOp, h, Instr.loadAt, Instr.sureAddr, Sem.run_bind, asAddr, Sem.run_pure, Result.andThen_ok, hrun]
end
/-! ### bits -/
theorem wrap_u64_id {n : Int} (h0 : 0 ≤ n) (h1 : n < 18446744073709551616) : IntKind.u64.wrap n = n := by
 rw [IntKind.wrap_u64]
 exact Int.emod_eq_of_lt h0 h1
theorem arith_and64 {a b : Int} (ha : 0 ≤ a ∧ a < 18446744073709551616) (hb : 0 ≤ b ∧ b < 18446744073709551616) : arithI .and .u64 a b = some ((a.toNat &&& b.toNat : Nat) : Int) := by
 obtain ⟨m, rfl⟩ := Int.eq_ofNat_of_zero_le ha.1
 obtain ⟨n, rfl⟩ := Int.eq_ofNat_of_zero_le hb.1
 have := bits_and_u64_nat m n (by omega) (by omega)
 simp only [arithI, Int.toNat_natCast]
 exact congrArg some this
theorem arith_or64 {a b : Int} (ha : 0 ≤ a ∧ a < 18446744073709551616) (hb : 0 ≤ b ∧ b < 18446744073709551616) : arithI .or .u64 a b = some (orI a b) := by
 obtain ⟨m, rfl⟩ := Int.eq_ofNat_of_zero_le ha.1
 obtain ⟨n, rfl⟩ := Int.eq_ofNat_of_zero_le hb.1
 have := bits_or_u64_nat m n (by omega) (by omega)
 simp only [arithI, orI, Int.toNat_natCast]
 exact congrArg some this
def xorI (x y : Int) : Int := ((x.toNat ^^^ y.toNat : Nat) : Int)
theorem arith_xor64 {a b : Int} (ha : 0 ≤ a ∧ a < 18446744073709551616) (hb : 0 ≤ b ∧ b < 18446744073709551616) : arithI .xor .u64 a b = some (xorI a b) := by
 obtain ⟨m, rfl⟩ := Int.eq_ofNat_of_zero_le ha.1
 obtain ⟨n, rfl⟩ := Int.eq_ofNat_of_zero_le hb.1
 simp only [arithI, xorI, Int.toNat_natCast]
 have hx : m ^^^ n < 2 ^ 64 := Nat.xor_lt_two_pow (by omega) (by omega)
 have h1 : (BitVec.ofInt 64 (m : Int)).toNat = m := by
  rw [BitVec.ofInt_natCast, BitVec.toNat_ofNat]; exact Nat.mod_eq_of_lt (by omega)
 have h2 : (BitVec.ofInt 64 (n : Int)).toNat = n := by
  rw [BitVec.ofInt_natCast, BitVec.toNat_ofNat]; exact Nat.mod_eq_of_lt (by omega)
 show some (IntKind.u64.wrap ((BitVec.ofInt 64 (m : Int) ^^^ BitVec.ofInt 64 (n : Int)).toNat : Int)) = _
 rw [BitVec.toNat_xor, h1, h2, wrap_u64_id (by omega) (by omega)]
theorem xor_range {a b : Int} (ha : 0 ≤ a ∧ a < 18446744073709551616) (hb : 0 ≤ b ∧ b < 18446744073709551616) : 0 ≤ xorI a b ∧ xorI a b < 18446744073709551616 := by
 unfold xorI
 have : a.toNat ^^^ b.toNat < 2 ^ 64 := Nat.xor_lt_two_pow (by omega) (by omega)
 omega
theorem xor_zero {a b : Int} (ha : 0 ≤ a) (hb : 0 ≤ b) : xorI a b = 0 ↔ a = b := by
 unfold xorI
 constructor
 ·intro h
  have h1 : a.toNat ^^^ b.toNat = 0 := by omega
  have : a.toNat = b.toNat := by
   refine Nat.eq_of_testBit_eq fun i => ?_
   have := congrArg (·.testBit i) h1
   simp only [Nat.testBit_xor, Nat.zero_testBit] at this
   cases h1 : a.toNat.testBit i <;> cases h2 : b.toNat.testBit i <;> simp_all
  omega
 ·rintro rfl
  simp
/-- The lowest bit of a number other than 0. -/
def tz (x : Int) : Nat := Lib.ctz 64 x.toNat
theorem ctz_spec {x : Nat} (h0 : x ≠ 0) (h : x < 2 ^ 64) : Lib.ctz 64 x < 64 ∧ x.testBit (Lib.ctz 64 x) = true ∧ ∀ j, j < Lib.ctz 64 x → x.testBit j = false := by
 obtain ⟨m, hm, hk⟩ := Lib.ctzFrom_spec 64 x (by omega) h
 have e : Lib.ctz 64 x = Lib.ctzFrom 64 x := by simp [Lib.ctz, h0]
 rw [e]
 generalize Lib.ctzFrom 64 x = t at hm hk
 subst hm
 refine ⟨hk, ?_, fun j hj => ?_⟩
 ·rw [Nat.mul_comm, Nat.testBit_mul_two_pow]
  simp [Nat.testBit_zero]
 ·rw [Nat.mul_comm, Nat.testBit_mul_two_pow]
  simp
  omega
theorem tz_spec {x : Int} (h0 : x ≠ 0) (h : 0 ≤ x ∧ x < 18446744073709551616) : tz x < 64 ∧ x.toNat.testBit (tz x) = true ∧ ∀ j, j < tz x → x.toNat.testBit j = false :=
  ctz_spec (by omega) (by have : (2:Nat)^64 = 18446744073709551616 := by decide
                          omega)
/-- The first bit in which two numbers differ. -/
theorem tz_xor {a b : Int} (ha : 0 ≤ a ∧ a < 18446744073709551616) (hb : 0 ≤ b ∧ b < 18446744073709551616) (hne : a ≠ b) :
  tz (xorI a b) < 64 ∧ a.toNat.testBit (tz (xorI a b)) ≠ b.toNat.testBit (tz (xorI a b)) ∧ ∀ j, j < tz (xorI a b) → a.toNat.testBit j = b.toNat.testBit j := by
 obtain ⟨h1, h2, h3⟩ := tz_spec (x := xorI a b) (fun e => hne ((xor_zero ha.1 hb.1).1 e)) (xor_range ha hb)
 refine ⟨h1, ?_, fun j hj => ?_⟩
 ·have : (xorI a b).toNat = a.toNat ^^^ b.toNat := by simp [xorI]
  rw [this, Nat.testBit_xor] at h2
  intro e
  rw [e] at h2
  simp at h2
 ·have := h3 j hj
  rw [show (xorI a b).toNat = a.toNat ^^^ b.toNat by simp [xorI], Nat.testBit_xor] at this
  cases h1 : a.toNat.testBit j <;> cases h2 : b.toNat.testBit j <;> simp_all
end
set_option maxRecDepth 8000
section
open Go.RowKit Go.Proofs
end
set_option maxRecDepth 8000
section
open Go.RowKit Go.Proofs
theorem neg_u64 {x : Int} (h0 : x ≠ 0) (hx : 0 ≤ x ∧ x < 18446744073709551616) : IntKind.u64.wrap (0 - x) = 18446744073709551616 - x := by
 rw [IntKind.wrap_u64]
 omega
theorem tz_key {x : Int} (h0 : x ≠ 0) (hx : 0 ≤ x ∧ x < 18446744073709551616) :
  (IntKind.u64.wrap (((x.toNat &&& (18446744073709551616 - x).toNat : Nat) : Int) * 285870213051353865)).fdiv (2 ^ (min (58 : Int).toNat IntKind.u64.bits)) = ((2 ^ tz x * 285870213051353865 % 18446744073709551616 / 288230376151711744 : Nat) : Int) := by
 have e : (18446744073709551616 - x).toNat = 2 ^ 64 - x.toNat := by omega
 have h := (Lib.lowest_bit 64 x.toNat (by omega) (by omega)).1
 rw [e, h, IntKind.wrap_u64]
 have e2 : ((2 : Int) ^ (min (58 : Int).toNat IntKind.u64.bits)) = 288230376151711744 := by decide
 rw [e2, Int.fdiv_eq_ediv_of_nonneg _ (by omega)]
 unfold tz
 omega
theorem tz_steps {x : Int} (h0 : x ≠ 0) (hx : 0 ≤ x ∧ x < 18446744073709551616) : ∃ (nx a4 m5 : Int) (q : Nat), IntKind.u64.wrap (0 - x) = nx ∧ arithI .and .u64 x nx = some a4 ∧ arithI .mul .u64 a4 285870213051353865 = some m5 ∧
  m5.fdiv (2 ^ (min (58 : Int).toNat IntKind.u64.bits)) = (q : Int) ∧ q < 64 ∧ IntKind.i64.wrap ((Lib.deBruijn64tab.getD q 0 : Nat) : Int) = tz x := by
 obtain ⟨hd1, hd2⟩ := Lib.deBruijn64_at _ (tz_spec h0 hx).1
 refine ⟨_, _, _, _, neg_u64 h0 hx, arith_and64 hx (by omega), rfl, tz_key h0 hx, hd1, ?_⟩
 rw [hd2]
 have := (tz_spec h0 hx).1
 exact wrap_i64 (by omega) (by omega)
theorem wd_load (s : W4) {k : Nat} (hk : k < 4) : loadAV false 1 [.int .u64 s.w0, .int .u64 s.w1, .int .u64 s.w2, .int .u64 s.w3] k = .int .u64 (s.wd k) := by
 rcases k with _ | _ | _ | _ | k
 ·rfl
 ·rfl
 ·rfl
 ·rfl
 ·omega
theorem less_word {a b : W4} (ha : a.ok) (hb : b.ok) {k : Nat} (hk : k < 4) (h : ∀ j, j < k → a.wd j = b.wd j) (hd : a.wd k ≠ b.wd k) : a.less b = decide ((a.wd k).fdiv (2 ^ min ((tz (xorI (a.wd k) (b.wd k)) : Nat) : Int).toNat IntKind.u64.bits) % 2 = 1) := by
 obtain ⟨h1, h2, h3⟩ := tz_xor (W4.wd_ok ha k) (W4.wd_ok hb k) hd
 rw [show min ((tz (xorI (a.wd k) (b.wd k)) : Nat) : Int).toNat IntKind.u64.bits = tz (xorI (a.wd k) (b.wd k)) by rw [show IntKind.u64.bits = 64 from rfl, Int.toNat_natCast]; omega, bit_int (W4.wd_ok ha k).1]
 have e1 : (64 * k + tz (xorI (a.wd k) (b.wd k))) / 64 = k := by omega
 have e2 : (64 * k + tz (xorI (a.wd k) (b.wd k))) % 64 = tz (xorI (a.wd k) (b.wd k)) := by omega
 rw [W4.less_at (k := 64 * k + tz (xorI (a.wd k) (b.wd k))) (by omega) (fun j hj => ?_) (by rw [W4.has_eq ha (by omega), W4.has_eq hb (by omega), e1, e2]; exact h2), W4.has_eq ha (by omega), e1, e2]
 rw [W4.has_eq ha (by omega), W4.has_eq hb (by omega)]
 by_cases hjk : j / 64 < k
 ·rw [h _ hjk]
 ·have : j / 64 = k := by omega
  rw [this]
  exact h3 _ (by omega)
theorem less_words {a b : W4} (ha : a.ok) (hb : b.ok) (h : ∀ j, j < 4 → a.wd j = b.wd j) : a.less b = false :=
 W4.less_no fun j hj => by rw [W4.has_eq ha hj, W4.has_eq hb hj, h _ (by omega)]
theorem isNaN_walk {w0 : World} {es : List Ent} (x : Int) : ACalls Tryd.prog w0 170 [.int .i64 x] es fun v es' => v = .bool false ∧ es' = es := by
 refine calls1 (N := 6) Tryd.func170 rfl rfl (by decide) ?_
 refine w_seq ?_
 refine w_region ?_
 refine l_cons rfl (p_assign ?_)
 refine l_nil ?_
 refine k_seq_normal ?_
 refine w_seq ?_
 refine w_region ?_
 refine l_cons rfl (p_move ?_)
 refine l_cons rfl (p_move ?_)
 refine l_cons rfl (p_cmp ?_)
 refine l_cons rfl (p_assign ?_)
 refine l_nil ?_
 refine k_seq_normal ?_
 refine w_ret ?_
 exact ret1 rfl ev1 subx ⟨by simp, rfl⟩
theorem cmpInt_walk {w0 : World} {es : List Ent} (x y : Int) : ACalls Tryd.prog w0 153 [.int .i64 x, .int .i64 y] es fun v es' => v = .int .i64 (if x < y then -1 else if y < x then 1 else 0) ∧ es' = es := by
 refine calls2 (N := 20) Tryd.func153 rfl rfl (by decide) ?_
 refine w_seq ?_
 refine w_region ?_
 refine l_cons rfl (p_assign ?_)
 refine l_nil ?_
 refine k_seq_normal ?_
 refine w_seq ?_
 refine w_region ?_
 refine l_cons rfl (p_move ?_)
 refine l_cons rfl (p_callr en_170 (isNaN_walk _) ?_)
 refine l_cons rfl (p_assign ?_)
 refine l_nil ?_
 refine k_seq_normal ?_
 refine w_seq ?_
 refine w_region ?_
 refine l_cons rfl (p_move ?_)
 refine l_cons rfl (p_callr en_170 (isNaN_walk _) ?_)
 refine l_cons rfl (p_assign ?_)
 refine l_nil ?_
 refine k_seq_normal ?_
 refine w_seq ?_
 refine w_seq ?_
 refine w_region ?_
 refine l_cons rfl (p_move ?_)
 refine l_nil ?_
 refine k_seq_normal ?_
 refine w_f rfl ?_
 refine w_skip ?_
 refine k_seq_normal ?_
 refine w_seq ?_
 refine w_seq ?_
 refine w_region ?_
 refine l_cons rfl (p_move ?_)
 refine l_nil ?_
 refine k_seq_normal ?_
 refine w_f rfl ?_
 refine w_skip ?_
 refine k_seq_normal ?_
 refine w_seq ?_
 refine w_seq ?_
 refine w_region ?_
 refine l_cons rfl (p_move ?_)
 refine l_cons rfl (p_move ?_)
 refine l_cons rfl (p_cmp ?_)
 refine l_nil ?_
 refine k_seq_normal ?_
 refine w_b (fun h1 => ?_) (fun h1 => ?_)
 ·skip
  have h1' := h1; (try simp only [bb] at h1')
  refine w_seq ?_
  refine w_region ?_
  refine l_cons rfl (p_assign ?_)
  refine l_nil ?_
  refine k_seq_normal ?_
  refine w_ret ?_
  refine k_seq_ret ?_
  exact ret1 rfl ev1 subx ⟨by rw [if_pos (by omega)], rfl⟩
 ·skip
  have h1' := h1; (try simp only [bb] at h1')
  refine w_skip ?_
  refine k_seq_normal ?_
  refine w_seq ?_
  refine w_seq ?_
  refine w_region ?_
  refine l_cons rfl (p_move ?_)
  refine l_cons rfl (p_move ?_)
  refine l_cons rfl (p_cmp ?_)
  refine l_nil ?_
  refine k_seq_normal ?_
  refine w_b (fun h2 => ?_) (fun h2 => ?_)
  ·skip
   have h2' := h2; (try simp only [bb] at h2')
   refine w_seq ?_
   refine w_region ?_
   refine l_cons rfl (p_assign ?_)
   refine l_nil ?_
   refine k_seq_normal ?_
   refine w_ret ?_
   refine k_seq_ret ?_
   exact ret1 rfl ev1 subx ⟨by rw [if_neg (by omega), if_pos (by omega)], rfl⟩
  ·skip
   have h2' := h2; (try simp only [bb] at h2')
   refine w_skip ?_
   refine k_seq_normal ?_
   refine w_seq ?_
   refine w_region ?_
   refine l_cons rfl (p_assign ?_)
   refine l_nil ?_
   refine k_seq_normal ?_
   refine w_ret ?_
   exact ret1 rfl ev1 subx ⟨by rw [if_neg (by omega), if_neg (by omega)], rfl⟩
theorem tz64_walk {w0 : World} (hT : Tab w0) {es : List Ent} (x : Int) (h0 : x ≠ 0) (hx : 0 ≤ x ∧ x < 18446744073709551616) : ACalls Tryd.prog w0 171 [.int .u64 x] es fun v es' => v = .int .i64 (tz x) ∧ es' = es := by
 obtain ⟨nx, a4, m5, q, hneg, hand, hmul, hkey, hq, htz⟩ := tz_steps h0 hx
 refine calls1 (N := 14) Tryd.func171 rfl rfl (by decide) ?_
 refine w_seq ?_
 refine w_region ?_
 refine l_cons rfl (p_assign ?_)
 refine l_nil ?_
 refine k_seq_normal ?_
 refine w_seq ?_
 refine w_seq ?_
 refine w_region ?_
 refine l_cons rfl (p_move ?_)
 refine l_cons rfl (p_cmp ?_)
 refine l_nil ?_
 refine k_seq_normal ?_
 refine w_b (fun h1 => ?_) (fun h1 => ?_)
 ·skip
  have h1' := h1; (try simp only [bb] at h1')
  refine w_seq ?_
  refine w_region ?_
  refine l_cons rfl (p_assign ?_)
  refine l_nil ?_
  refine k_seq_normal ?_
  refine w_ret ?_
  refine k_seq_ret ?_
  exact absurd h1' h0
 ·skip
  have h1' := h1; (try simp only [bb] at h1')
  refine w_skip ?_
  refine k_seq_normal ?_
  refine w_seq ?_
  refine w_region ?_
  refine l_cons rfl (p_move ?_)
  refine l_cons rfl (p_move ?_)
  refine l_cons rfl (p_neg ?_ (hb := hneg))
  refine l_cons rfl (p_arith ?_ (hb := hand))
  refine l_cons rfl (p_arith ?_ (hb := hmul))
  refine l_cons rfl (p_shr ?_ (hb := hkey))
  refine l_cons rfl (p_ixg ar_171 ?_ (h0 := by omega) (h1 := by omega))
  refine l_cons rfl (p_ldg hT (i := q) hq ty_5 ?_)
  refine l_cons rfl (p_conv in_5 in_3 ?_)
  refine l_cons rfl (p_assign ?_)
  refine l_nil ?_
  refine k_seq_normal ?_
  refine w_ret ?_
  exact ret1 rfl ev1 subx ⟨by rw [htz], rfl⟩
theorem setLess_walk {w0 : World} (hT : Tab w0) {es : List Ent} (a b : W4) (ha : a.ok) (hb : b.ok) : ACalls Tryd.prog w0 154 [.agg a.row, .agg b.row] es fun v es' => v = .bool (a.less b) ∧ es' = es := by
 unfold W4.row
 refine calls2 (N := 28) Tryd.func154 rfl rfl (by decide) ?_
 refine w_seq ?_
 refine w_region ?_
 refine l_cons rfl (p_box fun s2 => ?_)
 refine l_cons rfl (p_box fun s3 => ?_)
 refine l_cons rfl (p_assign ?_)
 refine l_nil ?_
 refine k_seq_normal ?_
 refine w_seq ?_
 refine w_seq ?_
 refine w_region ?_
 refine l_cons rfl (p_move ?_)
 refine l_nil ?_
 refine k_seq_normal ?_
 refine w_block ?_
 refine w_loop (fun m f es' => ∃ k, m = 4 - k ∧ k ≤ 4 ∧ (∀ j, j < k → a.wd j = b.wd j) ∧ es' = .row s3 26 4 [[.int .u64 b.w0, .int .u64 b.w1, .int .u64 b.w2, .int .u64 b.w3]] :: .row s2 26 4 [[.int .u64 a.w0, .int .u64 a.w1, .int .u64 a.w2, .int .u64 a.w3]] :: es ∧ Knows f [(2, .ptr es.length s2 0 0), (3, .ptr (es.length + 1) s3 0 0), (7, .int .i64 k)]) (4) (⟨0, rfl, Nat.zero_le _, fun j hj => absurd hj (Nat.not_lt_zero _), rfl, kn⟩) ?_
 rintro m f es' ⟨k, rfl, hk1, hk2, rfl, hk⟩
 refine w_pins _ (Sub.refl _) (hk) ?_
 simp only [pins]
 refine w_seq ?_
 refine w_region ?_
 refine l_cons rfl (p_cmp ?_)
 refine l_nil ?_
 refine k_seq_normal ?_
 refine w_seq ?_
 refine w_b (fun h1 => ?_) (fun h1 => ?_)
 ·skip
  have h1' := h1; (try simp only [bb] at h1')
  refine w_skip ?_
  refine k_seq_normal ?_
  refine w_seq ?_
  refine w_block ?_
  refine w_seq ?_
  refine w_region ?_
  refine l_cons rfl (p_move ?_)
  refine l_cons rfl (p_assign ?_)
  refine l_nil ?_
  refine k_seq_normal ?_
  refine w_seq ?_
  refine w_drawn 6 [] (fun e => e = _) mixed (by kernel_rfl) rfl ?_
  refine q1 5 (hg := rfl) (hu := rfl) (h := by rintro f _ rfl; exact p_move ⟨rfl, rfl⟩) (k := ?_)
  refine q2 2 10 (hg := rfl) (hu := rfl) (h := by rintro f _ rfl; exact p_ixa ar_26 (a := .ptr es.length s2 0 k) ⟨rfl, rfl⟩ (h0 := by omega) (h1 := by omega) (ho := by simp)) (k := ?_)
  refine q1 11 (hg := rfl) (hu := rfl) (h := by rintro f _ rfl; exact p_loadp ty_24 (a := .int .u64 (a.wd k)) ⟨rfl, rfl⟩ (hl := by simp only [List.length_cons, List.length_nil]; omega) (ha := wd_load a (by omega))) (k := ?_)
  refine q1 5 (hg := rfl) (hu := rfl) (h := by rintro f _ rfl; exact p_move ⟨rfl, rfl⟩) (k := ?_)
  refine q2 3 13 (hg := rfl) (hu := rfl) (h := by rintro f _ rfl; exact p_ixa ar_26 (a := .ptr (es.length + 1) s3 0 k) ⟨rfl, rfl⟩ (h0 := by omega) (h1 := by omega) (ho := by simp)) (k := ?_)
  refine q1 14 (hg := rfl) (hu := rfl) (h := by rintro f _ rfl; exact p_loadp ty_24 (a := .int .u64 (b.wd k)) ⟨rfl, rfl⟩ (hl := by simp only [List.length_cons, List.length_nil]; omega) (ha := wd_load b (by omega))) (k := ?_)
  refine q_end ?_
  refine m_end ?_
  refine l_cons rfl (p_arith ?_ (hb := arith_xor64 (W4.wd_ok ha k) (W4.wd_ok hb k)))
  refine l_cons rfl (p_assign ?_)
  refine l_nil ?_
  refine k_seq_normal ?_
  refine w_seq ?_
  refine w_region ?_
  refine l_cons rfl (p_move ?_)
  refine l_cons rfl (p_cmp ?_)
  refine l_nil ?_
  refine k_seq_normal ?_
  refine w_b (fun h2 => ?_) (fun h2 => ?_)
  ·skip
   have h2' := h2; (try simp only [bb] at h2')
   refine w_seq ?_
   refine w_drawn 5 [] (fun e => e = _) mixed (by kernel_rfl) rfl ?_
   refine q1 5 (hg := rfl) (hu := rfl) (h := by rintro f _ rfl; exact p_move ⟨rfl, rfl⟩) (k := ?_)
   refine q2 2 19 (hg := rfl) (hu := rfl) (h := by rintro f _ rfl; exact p_ixa ar_26 (a := .ptr es.length s2 0 k) ⟨rfl, rfl⟩ (h0 := by omega) (h1 := by omega) (ho := by simp)) (k := ?_)
   refine q1 20 (hg := rfl) (hu := rfl) (h := by rintro f _ rfl; exact p_loadp ty_24 (a := .int .u64 (a.wd k)) ⟨rfl, rfl⟩ (hl := by simp only [List.length_cons, List.length_nil]; omega) (ha := wd_load a (by omega))) (k := ?_)
   refine q1 6 (hg := rfl) (hu := rfl) (h := by rintro f _ rfl; exact p_move ⟨rfl, rfl⟩) (k := ?_)
   refine q1 22 (hg := rfl) (hu := rfl) (h := by rintro f _ rfl; exact p_callr en_171 (tz64_walk hT (xorI (a.wd k) (b.wd k)) (by assumption) (xor_range (W4.wd_ok ha k) (W4.wd_ok hb k))) ⟨rfl, rfl⟩) (k := ?_)
   refine q_end ?_
   refine m_end ?_
   refine l_cons rfl (p_shr ?_)
   refine l_cons rfl (p_arith ?_ (hb := and1 _))
   refine l_cons rfl (p_cmp ?_)
   refine l_cons rfl (p_assign ?_)
   refine l_nil ?_
   refine k_seq_normal ?_
   refine w_ret ?_
   refine k_blk_ret ?_
   refine k_seq_ret ?_
   refine k_seq_ret ?_
   refine k_blk_ret ?_
   refine k_seq_ret ?_
   exact ret1 rfl ev1 subx ⟨by rw [less_word ha hb (by omega) hk2 (fun e => h2' ((xor_zero (W4.wd_ok ha k).1 (W4.wd_ok hb k).1).2 e))], rfl⟩
  ·skip
   have h2' := h2; (try simp only [bb] at h2')
   refine w_skip ?_
   refine k_blk_normal ?_
   refine k_seq_normal ?_
   refine w_region ?_
   refine l_cons rfl (p_arith ?_)
   refine l_cons rfl (p_move ?_)
   refine l_nil ?_
   refine k_seq_normal ?_
   exact ⟨4 - (k + 1), by omega, k + 1, rfl, by omega, lt_succ_cases hk2 ((xor_zero (W4.wd_ok ha k).1 (W4.wd_ok hb k).1).1 (by simpa using h2')), rfl, kn⟩
 ·skip
  have h1' := h1; (try simp only [bb] at h1')
  refine w_exit ?_
  refine k_seq_exit ?_
  refine k_seq_exit ?_
  refine k_blk_here ?_
  refine k_seq_normal ?_
  refine w_seq ?_
  refine w_region ?_
  refine l_cons rfl (p_assign ?_)
  refine l_nil ?_
  refine k_seq_normal ?_
  refine w_ret ?_
  exact ret1 rfl ev1 subx ⟨by rw [less_words ha hb (fun j hj => hk2 j (by omega))], rfl⟩
end
end Go.Proofs.YtfdgbghlanbddaaDoor.Av
