import Derived.Test.YtfdgbghlanbddaaDoorAvRules
set_option linter.unusedVariables false
set_option linter.unusedSimpArgs false
namespace Go.Proofs.YtfdgbghlanbddaaDoor.Av
open Go.RowKit
/-! ### frames of which a few slots are known -/
def pins : List (Nat × AV) → Frame
  | [] => bot
  | (t, a) :: r => upd (pins r) t a
def Knows (f : Frame) : List (Nat × AV) → Prop
  | [] => True
  | (t, a) :: r => f t = a ∧ Knows f r
theorem less_pins {f : Frame} : ∀ {l : List (Nat × AV)}, Knows f l → Less (pins l) f
  | [], _, t => .inr rfl
  | (u, a) :: r, h, t => by
    simp only [pins, upd]
    split
    · rename_i e
      exact .inl (by rw [e, h.1])
    · exact less_pins h.2 t
section
variable {P : Program} {w0 : World} {N : Nat} {f : Frame} {es es' : List Ent} {K : Exit → Frame → List Ent → Prop}
/-- Only so much is known from here on. -/
theorem w_pins (l : List (Nat × AV)) {code : Code} (hs : Sub es' es) (hk : Knows f l) (h : AWp P w0 N code (pins l) es' K) : AWp P w0 N code f es K := w_less (less_pins hk) hs h
/-- What follows is shown once, from Post on. -/
theorem w_cut {x y : Code} (Post : Frame → List Ent → Prop) (h1 : AWp P w0 N x f es (kseq Post K)) (h2 : ∀ f es, Post f es → AWp P w0 N y f es K) : AWp P w0 N (.seq x y) f es K :=
  w_seq (h1.mono fun e f' es' h => by
    cases e with
    | normal => exact h2 f' es' h
    | exit id => exact h
    | goto l => exact h
    | ret => exact h
    | panic ch => exact h
    | outgrown => exact h)
end
section
variable {P : Program} {w0 : World} {N : Nat} {f : Frame} {es : List Ent} {K : Frame → List Ent → Prop}
variable {d : Nat} {ty : TypeId} {pos : String} {aft : Array Edge} {g : Option (Nat × Bool)} {x y z : Operand} {a : AV}
theorem p_call {fid : FuncId} {l1 l2 : List AV} {args : List Operand} {ts : Array TypeId} {l : List AV} (hen : enterB P fid = true) (h : ACalls P w0 fid l es fun r es' => K (upd f d r) es')
    (hx : ev f x = .fn (.func fid) l1 l2 := by simp only [ev_tmp, ev_const, ev_func, ofConst_int, ofConst_bool, ofConst_str, ofConst_nil, upd_apply, Nat.reduceEqDiff, ↓reduceIte] <;> exact rfl) (hl : l1 ++ args.map (ev f) ++ l2 = l := by simp only [List.map_cons, List.map_nil, List.nil_append, List.append_nil, List.cons_append, ev_tmp, ev_const, ev_func, ofConst_int, ofConst_bool, ofConst_str, ofConst_nil, upd_apply, Nat.reduceEqDiff, ↓reduceIte] <;> exact rfl) (hd : Nat.blt d N = true := by exact rfl) : AOp P w0 N ⟨some d, .call { callee := .value x, args := args.toArray, argTypes := ts }, ty, pos, aft, g⟩ f es K := o_call hx hen hl h hd
/-- A call of which the answer is known, and that leaves the rows as they are. -/
theorem p_callr {fid : FuncId} {l1 l2 : List AV} {args : List Operand} {ts : Array TypeId} {l : List AV} {r : AV} (hen : enterB P fid = true) (h : ACalls P w0 fid l es fun r' es' => r' = r ∧ es' = es) (k : K (upd f d r) es)
    (hx : ev f x = .fn (.func fid) l1 l2 := by simp only [ev_tmp, ev_const, ev_func, ofConst_int, ofConst_bool, ofConst_str, ofConst_nil, upd_apply, Nat.reduceEqDiff, ↓reduceIte] <;> exact rfl) (hl : l1 ++ args.map (ev f) ++ l2 = l := by simp only [List.map_cons, List.map_nil, List.nil_append, List.append_nil, List.cons_append, ev_tmp, ev_const, ev_func, ofConst_int, ofConst_bool, ofConst_str, ofConst_nil, upd_apply, Nat.reduceEqDiff, ↓reduceIte] <;> exact rfl) (hd : Nat.blt d N = true := by exact rfl) : AOp P w0 N ⟨some d, .call { callee := .value x, args := args.toArray, argTypes := ts }, ty, pos, aft, g⟩ f es K :=
  o_call hx hen hl (h.mono fun _ _ e => by rw [e.1, e.2]; exact k) hd
theorem p_append {t e sz b id s : Nat} {rows ys : List (List AV)} {zl : List AV} {C : Ent → List Ent} (ht : sliceB P t e sz = true) (hbt : bytesB P e b = true) (hz : zeroAVs P e = some zl)
    (k : ∀ s', K (upd f d (.own id s')) (C (.row s' e sz (rows ++ ys))))
    (hx : ev f x = .own id s := by simp only [ev_tmp, ev_const, ev_func, ofConst_int, ofConst_bool, ofConst_str, ofConst_nil, upd_apply, Nat.reduceEqDiff, ↓reduceIte] <;> exact rfl) (he : Loc es id (.row s e sz rows) C := by first | exact loc_hit | exact (loc_miss loc_hit) | exact (loc_miss (loc_miss loc_hit)) | exact (loc_miss (loc_miss (loc_miss loc_hit))) | exact (loc_miss (loc_miss (loc_miss (loc_miss loc_hit)))) | exact (loc_miss (loc_miss (loc_miss (loc_miss (loc_miss loc_hit))))) | exact (loc_miss (loc_miss (loc_miss (loc_miss (loc_miss (loc_miss loc_hit)))))) | exact (loc_miss (loc_miss (loc_miss (loc_miss (loc_miss (loc_miss (loc_miss loc_hit))))))) | exact (loc_miss (loc_miss (loc_miss (loc_miss (loc_miss (loc_miss (loc_miss (loc_miss loc_hit)))))))) | exact (loc_base (by assumption)) | exact (loc_miss (loc_base (by assumption))) | exact (loc_miss (loc_miss (loc_base (by assumption)))) | exact (loc_miss (loc_miss (loc_miss (loc_base (by assumption))))) | exact (loc_miss (loc_miss (loc_miss (loc_miss (loc_base (by assumption)))))) | exact (loc_miss (loc_miss (loc_miss (loc_miss (loc_miss (loc_base (by assumption))))))) | exact (loc_miss (loc_miss (loc_miss (loc_miss (loc_miss (loc_miss (loc_base (by assumption)))))))) | exact (loc_miss (loc_miss (loc_miss (loc_miss (loc_miss (loc_miss (loc_miss (loc_base (by assumption))))))))) | exact (loc_miss (loc_miss (loc_miss (loc_miss (loc_miss (loc_miss (loc_miss (loc_miss (loc_base (by assumption))))))))))) (hy : ev f y = a := by simp only [ev_tmp, ev_const, ev_func, ofConst_int, ofConst_bool, ofConst_str, ofConst_nil, upd_apply, Nat.reduceEqDiff, ↓reduceIte] <;> exact rfl) (hs : Src es a sz ys := by first | exact src_list | exact src_nil | exact src_own (by first | exact loc_hit | exact (loc_miss loc_hit) | exact (loc_miss (loc_miss loc_hit)) | exact (loc_miss (loc_miss (loc_miss loc_hit))) | exact (loc_miss (loc_miss (loc_miss (loc_miss loc_hit)))) | exact (loc_miss (loc_miss (loc_miss (loc_miss (loc_miss loc_hit))))) | exact (loc_miss (loc_miss (loc_miss (loc_miss (loc_miss (loc_miss loc_hit)))))) | exact (loc_miss (loc_miss (loc_miss (loc_miss (loc_miss (loc_miss (loc_miss loc_hit))))))) | exact (loc_miss (loc_miss (loc_miss (loc_miss (loc_miss (loc_miss (loc_miss (loc_miss loc_hit)))))))) | exact (loc_base (by assumption)) | exact (loc_miss (loc_base (by assumption))) | exact (loc_miss (loc_miss (loc_base (by assumption)))) | exact (loc_miss (loc_miss (loc_miss (loc_base (by assumption))))) | exact (loc_miss (loc_miss (loc_miss (loc_miss (loc_base (by assumption)))))) | exact (loc_miss (loc_miss (loc_miss (loc_miss (loc_miss (loc_base (by assumption))))))) | exact (loc_miss (loc_miss (loc_miss (loc_miss (loc_miss (loc_miss (loc_base (by assumption)))))))) | exact (loc_miss (loc_miss (loc_miss (loc_miss (loc_miss (loc_miss (loc_miss (loc_base (by assumption))))))))) | exact (loc_miss (loc_miss (loc_miss (loc_miss (loc_miss (loc_miss (loc_miss (loc_miss (loc_base (by assumption)))))))))))) (hb : (rows.length + ys.length) * b ≤ most := by first | (simp only [List.length_map, List.length_append, List.length_cons, List.length_nil, most]; omega) | (simp only [most]; omega)) (hsz : 0 < sz := by decide) (hb1 : 0 < b := by decide) (hzl : zl.length = sz := by exact rfl) (hd : Nat.blt d N = true := by exact rfl) : AOp P w0 N ⟨some d, .call { callee := .builtin .append, args := #[x, y], argTypes := #[t, t] }, ty, pos, aft, g⟩ f es K :=
  o_append ht hbt (by rw [hz]; simp [hzl]) hsz hb1 hx he hy hs hb k hd
theorem p_buildSlice {t e sz len : Nat} {zl l : List AV} {rows : List (List AV)} {parts : List (Nat × Operand)} (ht : sliceB P t e sz = true) (hz : zeroAVs P e = some zl)
    (k : ∀ s, K (upd f d (.own es.length s)) (.row s e sz rows :: es)) (hb : len * sz ≤ 2 ^ 24 := by decide) (hzl : zl.length = sz := by exact rfl) (hsz : 0 < sz := by decide)
    (hl : fillAV (fun i => some (i * sz, sz)) (List.replicate len zl).flatten (parts.map fun p => (p.1, ev f p.2)) = some l := by simp only [List.map_cons, List.map_nil, List.nil_append, List.append_nil, List.cons_append, ev_tmp, ev_const, ev_func, ofConst_int, ofConst_bool, ofConst_str, ofConst_nil, upd_apply, Nat.reduceEqDiff, ↓reduceIte] <;> exact rfl) (hll : l.length = len * sz := by exact rfl) (hr : chunk len sz l = rows := by first | (simp only [chunk, List.replicate_succ, List.replicate_zero, List.flatten_cons, List.flatten_nil, List.append_nil, List.nil_append, List.cons_append, List.take_succ_cons, List.take_zero, List.drop_succ_cons, List.drop_zero, List.drop_nil, List.take_nil, Nat.reduceMul, Nat.reduceAdd, Nat.zero_mul, Nat.zero_add, List.length_cons, List.length_nil, List.set_cons_zero, List.set_cons_succ] <;> exact rfl) | exact rfl) (hd : Nat.blt d N = true := by exact rfl) : AOp P w0 N ⟨some d, .buildSlice t len parts.toArray, ty, pos, aft, g⟩ f es K :=
  o_buildSlice ht hb hz hzl hsz hl hll hr k hd
/-- A row that is laid and never written: a list. -/
theorem op_freeze {o : Oper} {sz e : Nat} {rows : List (List AV)} (hc : rows.all cleans = true) (k : K (upd f d (.list sz rows)) es) (h : AOp P w0 N o f es fun f' es' => ∃ s, f' = upd f d (.own es.length s) ∧ es' = .row s e sz rows :: es) : AOp P w0 N o f es K := by
  intro c A next Q ok rf hn
  refine h c A next Q ok rf fun c' es' f' A' x ok' rf' hk => ?_
  obtain ⟨s, rfl, rfl⟩ := hk
  have hid : at_ (.row s e sz rows :: es) es.length = some (.row s e sz rows) := at_hit _ _
  have x2 := ext_freeze (c := c') (es := .row s e sz rows :: es) es.length
  have ok2 := ok_freeze ok' hid
  rw [setAt_hit] at x2 ok2
  have hs : Sub es (Ent.dead :: es) := Sub.tail _ _
  have x3 := x2.trans (hs.ext _)
  refine hn (c'.freeze es.length) es (upd f d (.list sz rows)) A' (x.trans x3) (hs.ok ok2) ⟨rf'.size, fun u => ?_, rf'.defers⟩ k
  by_cases hu : u = d
  · subst hu
    rw [upd_same]
    have := rf'.rep u
    rw [upd_same] at this
    simp only [Rep] at this
    obtain ⟨_, he, _, h1, h2⟩ := this
    injection he with he
    subst he
    rw [h2 _ _ _ hid]
    exact rep_freeze ok' hid hc _
  · have := rf'.rep u
    rw [upd_ne _ _ hu] at this ⊢
    exact Rep.ext (es := some _) (es' := some _) _ x3 this
theorem p_buildList {t e sz len : Nat} {zl l : List AV} {rows : List (List AV)} {parts : List (Nat × Operand)} (ht : sliceB P t e sz = true) (hz : zeroAVs P e = some zl)
    (k : K (upd f d (.list sz rows)) es) (hb : len * sz ≤ 2 ^ 24 := by decide) (hzl : zl.length = sz := by exact rfl) (hsz : 0 < sz := by decide)
    (hl : fillAV (fun i => some (i * sz, sz)) (List.replicate len zl).flatten (parts.map fun p => (p.1, ev f p.2)) = some l := by simp only [List.map_cons, List.map_nil, List.nil_append, List.append_nil, List.cons_append, ev_tmp, ev_const, ev_func, ofConst_int, ofConst_bool, ofConst_str, ofConst_nil, upd_apply, Nat.reduceEqDiff, ↓reduceIte] <;> exact rfl) (hll : l.length = len * sz := by exact rfl) (hr : chunk len sz l = rows := by first | (simp only [chunk, List.replicate_succ, List.replicate_zero, List.flatten_cons, List.flatten_nil, List.append_nil, List.nil_append, List.cons_append, List.take_succ_cons, List.take_zero, List.drop_succ_cons, List.drop_zero, List.drop_nil, List.take_nil, Nat.reduceMul, Nat.reduceAdd, Nat.zero_mul, Nat.zero_add, List.length_cons, List.length_nil, List.set_cons_zero, List.set_cons_succ] <;> exact rfl) | exact rfl) (hc : rows.all cleans = true := by exact rfl) (hd : Nat.blt d N = true := by exact rfl) : AOp P w0 N ⟨some d, .buildSlice t len parts.toArray, ty, pos, aft, g⟩ f es K :=
  op_freeze hc k (o_buildSlice ht hb hz hzl hsz hl hll hr (fun s => ⟨s, rfl, rfl⟩) hd)
theorem p_makeSlice {t e sz b : Nat} {zl : List AV} {k1 k2 : IntKind} {n : Int} (ht : sliceB P t e sz = true) (hbt : bytesB P e b = true) (hz : zeroAVs P e = some zl) 
    (k : ∀ s, K (upd f d (.own es.length s)) (.row s e sz (List.replicate n.toNat zl) :: es)) (hzl : zl.length = sz := by exact rfl) (hsz : 0 < sz := by decide) (hx : ev f x = .int k1 n := by simp only [ev_tmp, ev_const, ev_func, ofConst_int, ofConst_bool, ofConst_str, ofConst_nil, upd_apply, Nat.reduceEqDiff, ↓reduceIte] <;> exact rfl) (hy : ev f y = .int k2 n := by simp only [ev_tmp, ev_const, ev_func, ofConst_int, ofConst_bool, ofConst_str, ofConst_nil, upd_apply, Nat.reduceEqDiff, ↓reduceIte] <;> exact rfl) (h0 : 0 ≤ n := by omega) (hn : n ≤ most := by first | (simp only [most]; omega) | omega) (hb : n * b ≤ 281474976710656 := by omega) (hd : Nat.blt d N = true := by exact rfl) : AOp P w0 N ⟨some d, .makeSlice t x y, ty, pos, aft, g⟩ f es K :=
  o_makeSlice ht hbt hz hzl hsz hx hy h0 hn hb k hd
theorem p_slicel {t e sz l h : Nat} {lo hi : Option Operand} {rows : List (List AV)} (ht : sliceB P t e sz = true) (k : K (upd f d (.list sz ((rows.take h).drop l))) es) (hx : ev f x = .list sz rows := by simp only [ev_tmp, ev_const, ev_func, ofConst_int, ofConst_bool, ofConst_str, ofConst_nil, upd_apply, Nat.reduceEqDiff, ↓reduceIte] <;> exact rfl) (hlo : Bnd f lo 0 l := by first | exact rfl | exact List.length_map _ | (refine ⟨.i64, ?_⟩; simp only [ev_tmp, ev_const, ev_func, ofConst_int, ofConst_bool, ofConst_str, ofConst_nil, upd_apply, Nat.reduceEqDiff, ↓reduceIte] <;> first | exact rfl | (congr 1; omega) | (congr 1; simp only [List.length_map]; omega))) (hhi : Bnd f hi rows.length h := by first | exact rfl | exact List.length_map _ | (refine ⟨.i64, ?_⟩; simp only [ev_tmp, ev_const, ev_func, ofConst_int, ofConst_bool, ofConst_str, ofConst_nil, upd_apply, Nat.reduceEqDiff, ↓reduceIte] <;> first | exact rfl | (congr 1; omega) | (congr 1; simp only [List.length_map]; omega))) (hlh : l ≤ h := by omega) (hh : h ≤ rows.length := by first | omega | (simp only [List.length_map]; omega)) (hd : Nat.blt d N = true := by exact rfl) : AOp P w0 N ⟨some d, .slice t x lo hi none, ty, pos, aft, g⟩ f es K := o_slice_list hx ht hlo hhi hlh hh rfl k hd
theorem p_sliceo {t e sz id s h : Nat} {lo hi : Option Operand} {rows : List (List AV)} {C : Ent → List Ent} (ht : sliceB P t e sz = true) (k : ∀ s', K (upd f d (.own id s')) (C (.row s' e sz (rows.take h)))) (hx : ev f x = .own id s := by simp only [ev_tmp, ev_const, ev_func, ofConst_int, ofConst_bool, ofConst_str, ofConst_nil, upd_apply, Nat.reduceEqDiff, ↓reduceIte] <;> exact rfl) (he : Loc es id (.row s e sz rows) C := by first | exact loc_hit | exact (loc_miss loc_hit) | exact (loc_miss (loc_miss loc_hit)) | exact (loc_miss (loc_miss (loc_miss loc_hit))) | exact (loc_miss (loc_miss (loc_miss (loc_miss loc_hit)))) | exact (loc_miss (loc_miss (loc_miss (loc_miss (loc_miss loc_hit))))) | exact (loc_miss (loc_miss (loc_miss (loc_miss (loc_miss (loc_miss loc_hit)))))) | exact (loc_miss (loc_miss (loc_miss (loc_miss (loc_miss (loc_miss (loc_miss loc_hit))))))) | exact (loc_miss (loc_miss (loc_miss (loc_miss (loc_miss (loc_miss (loc_miss (loc_miss loc_hit)))))))) | exact (loc_base (by assumption)) | exact (loc_miss (loc_base (by assumption))) | exact (loc_miss (loc_miss (loc_base (by assumption)))) | exact (loc_miss (loc_miss (loc_miss (loc_base (by assumption))))) | exact (loc_miss (loc_miss (loc_miss (loc_miss (loc_base (by assumption)))))) | exact (loc_miss (loc_miss (loc_miss (loc_miss (loc_miss (loc_base (by assumption))))))) | exact (loc_miss (loc_miss (loc_miss (loc_miss (loc_miss (loc_miss (loc_base (by assumption)))))))) | exact (loc_miss (loc_miss (loc_miss (loc_miss (loc_miss (loc_miss (loc_miss (loc_base (by assumption))))))))) | exact (loc_miss (loc_miss (loc_miss (loc_miss (loc_miss (loc_miss (loc_miss (loc_miss (loc_base (by assumption))))))))))) (hlo : Bnd f lo 0 0 := by first | exact rfl | exact List.length_map _ | (refine ⟨.i64, ?_⟩; simp only [ev_tmp, ev_const, ev_func, ofConst_int, ofConst_bool, ofConst_str, ofConst_nil, upd_apply, Nat.reduceEqDiff, ↓reduceIte] <;> first | exact rfl | (congr 1; omega) | (congr 1; simp only [List.length_map]; omega))) (hhi : Bnd f hi rows.length h := by first | exact rfl | exact List.length_map _ | (refine ⟨.i64, ?_⟩; simp only [ev_tmp, ev_const, ev_func, ofConst_int, ofConst_bool, ofConst_str, ofConst_nil, upd_apply, Nat.reduceEqDiff, ↓reduceIte] <;> first | exact rfl | (congr 1; omega) | (congr 1; simp only [List.length_map]; omega))) (hh : h ≤ rows.length := by first | omega | (simp only [List.length_map]; omega)) (hd : Nat.blt d N = true := by exact rfl) : AOp P w0 N ⟨some d, .slice t x lo hi none, ty, pos, aft, g⟩ f es K := o_slice_own hx he ht hlo hhi hh k hd
theorem p_strBytes {s t e : Nat} {b : ByteArray} (ht : strSlice P s t e = true) (hb : b.size ≤ most) (k : K (upd f d (.list 1 (bytesRows b))) es) (hx : ev f x = .str b := by simp only [ev_tmp, ev_const, ev_func, ofConst_int, ofConst_bool, ofConst_str, ofConst_nil, upd_apply, Nat.reduceEqDiff, ↓reduceIte] <;> exact rfl) (hd : Nat.blt d N = true := by exact rfl) : AOp P w0 N ⟨some d, .convert s t x, ty, pos, aft, g⟩ f es K := o_strBytes hx ht hb rfl k hd
theorem p_field {t : TypeId} {fl off n : Nat} {agg : Bool} {l : List AV} (hf : fieldV P t fl off agg n = true) (k : K (upd f d a) es) (hx : ev f x = .agg l := by simp only [ev_tmp, ev_const, ev_func, ofConst_int, ofConst_bool, ofConst_str, ofConst_nil, upd_apply, Nat.reduceEqDiff, ↓reduceIte] <;> exact rfl) (hn : agg = false → n = 1 := by first | (intro h; cases h; done) | exact fun _ => rfl) (hl : off + n ≤ l.length := by first | exact Nat.le_of_ble_eq_true rfl | decide | (simp; done) | omega) (ha : loadAV agg n l off = a := by (conv => lhs; whnf) <;> exact rfl) (hd : Nat.blt d N = true := by exact rfl) : AOp P w0 N ⟨some d, .field t x fl, ty, pos, aft, g⟩ f es K := o_field hx hf hn hl ha k hd
theorem p_cmpl (b : Bool) {op : BinOp} {t u : TypeId} {k' : IntKind} {m n : Int} (k : K (upd f d (.bool b)) es) (hx : ev f x = .int k' m := by simp only [ev_tmp, ev_const, ev_func, ofConst_int, ofConst_bool, ofConst_str, ofConst_nil, upd_apply, Nat.reduceEqDiff, ↓reduceIte] <;> exact rfl) (hy : ev f y = .int k' n := by simp only [ev_tmp, ev_const, ev_func, ofConst_int, ofConst_bool, ofConst_str, ofConst_nil, upd_apply, Nat.reduceEqDiff, ↓reduceIte] <;> exact rfl) (hb : cmpI op m n = some b := by exact rfl) (hd : Nat.blt d N = true := by exact rfl) : AOp P w0 N ⟨some d, .binOp op t x y u, ty, pos, aft, g⟩ f es K := o_cmp hx hy hb k hd
theorem p_arithl (r : Int) {op : BinOp} {t u : TypeId} {k' : IntKind} {m n : Int} (k : K (upd f d (.int k' r)) es) (hx : ev f x = .int k' m := by simp only [ev_tmp, ev_const, ev_func, ofConst_int, ofConst_bool, ofConst_str, ofConst_nil, upd_apply, Nat.reduceEqDiff, ↓reduceIte] <;> exact rfl) (hy : ev f y = .int k' n := by simp only [ev_tmp, ev_const, ev_func, ofConst_int, ofConst_bool, ofConst_str, ofConst_nil, upd_apply, Nat.reduceEqDiff, ↓reduceIte] <;> exact rfl) (hb : arithI op k' m n = some r := by exact rfl) (hd : Nat.blt d N = true := by exact rfl) : AOp P w0 N ⟨some d, .binOp op t x y u, ty, pos, aft, g⟩ f es K := o_arith hx hy hb k hd
theorem p_buildArr {t n e sz : Nat} {zl l : List AV} {parts : List (Nat × Operand)} (hz : zeroAVs P t = some zl) (hq : arrB P t n e sz = true) (k : K (upd f d (.agg l)) es) (hl : fillAV (fun i => some (i * sz, sz)) zl (parts.map fun p => (p.1, ev f p.2)) = some l := by simp only [List.map_cons, List.map_nil, List.nil_append, List.append_nil, List.cons_append, ev_tmp, ev_const, ev_func, ofConst_int, ofConst_bool, ofConst_str, ofConst_nil, upd_apply, Nat.reduceEqDiff, ↓reduceIte] <;> exact rfl) (hd : Nat.blt d N = true := by exact rfl) : AOp P w0 N ⟨some d, .build t parts.toArray, ty, pos, aft, g⟩ f es K := o_build_arr hz hq hl k hd
theorem p_build {t : TypeId} {zl l : List AV} {q : List (Nat × Nat)} {parts : List (Nat × Operand)} (hz : zeroAVs P t = some zl) (hq : placesOf P t = some q) (k : K (upd f d (.agg l)) es) (hl : fillAV (q[·]?) zl (parts.map fun p => (p.1, ev f p.2)) = some l := by simp only [List.map_cons, List.map_nil, List.nil_append, List.append_nil, List.cons_append, ev_tmp, ev_const, ev_func, ofConst_int, ofConst_bool, ofConst_str, ofConst_nil, upd_apply, Nat.reduceEqDiff, ↓reduceIte] <;> exact rfl) (hd : Nat.blt d N = true := by exact rfl) : AOp P w0 N ⟨some d, .build t parts.toArray, ty, pos, aft, g⟩ f es K := o_build hz hq hl k hd
end
/-! ### regions that draw -/
def usesB (o : Oper) (l : List Nat) : Bool := l.all fun t => o.op.operands.toList.any fun x => match x with | .tmp u => u == t | _ => false
theorem uses_get {o : Oper} {l : List Nat} (h : usesB o l = true) (t : Nat) (ht : t ∈ l) (f F : Frame) (hf : ∀ x ∈ o.op.operands, ev f x = ev F x) : f t = F t := by
  have := List.all_eq_true.1 h t ht
  rw [List.any_eq_true] at this
  obtain ⟨x, hx, hb⟩ := this
  have hx : x ∈ o.op.operands := by simpa using hx
  cases x with
  | tmp u =>
    have e : u = t := by simpa using hb
    subst e
    exact hf _ hx
  | _ => simp at hb
section
variable {P : Program} {w0 : World} {N : Nat} {G : List Ent → Prop} {ops : Array Oper} {o : Oper} {rest : List Oper} {F : Frame} {kk : Frame → Prop}
theorem q0 {d : Nat} {v : AV} (hg : o.guard = none) (hu : usesB o [] = true)
    (h : ∀ f es, G es → AOp P w0 N o f es fun f' e' => e' = es ∧ f' = upd f d v) (k : QList P w0 N G ops rest (upd F d v) kk) (hd : o.dst = some d := by exact rfl) (hN : Nat.blt d N = true := by exact rfl) : QList P w0 N G ops (o :: rest) F kk := by
  have mk : ∀ es, G es → QOp P w0 N o F v es := by
    intro es hG f hf
    skip
    have hh := h f es hG
    skip
    exact hh.mono fun f' e' hk => ⟨hk.1, by rw [hk.2, hd]; rfl⟩
  refine ⟨d, v, hd, hN, ?_, k⟩
  unfold QStep
  rw [hg]
  exact fun es hG f hf => mk es hG f hf
theorem qy0 {d : Nat} {v : AV} {j gd : Nat} {want b : Bool} (hg : o.guard = some (j, want)) (hw : b = want) (hu : usesB o [] = true)
    (h : ∀ f es, G es → AOp P w0 N o f es fun f' e' => e' = es ∧ f' = upd f d v) (k : QList P w0 N G ops rest (upd F d v) kk) (hgd : (ops[j]?).bind (·.dst) = some gd := by exact rfl) (hgN : Nat.blt gd N = true := by exact rfl) (hgb : F gd = .bool b := by simp only [ofConst_int, ofConst_bool, ofConst_str, ofConst_nil, upd_apply, Nat.reduceEqDiff, ↓reduceIte] <;> exact rfl) (hd : o.dst = some d := by exact rfl) (hN : Nat.blt d N = true := by exact rfl) : QList P w0 N G ops (o :: rest) F kk := by
  have mk : ∀ es, G es → QOp P w0 N o F v es := by
    intro es hG f hf
    skip
    have hh := h f es hG
    skip
    exact hh.mono fun f' e' hk => ⟨hk.1, by rw [hk.2, hd]; rfl⟩
  refine ⟨d, v, hd, hN, ?_, k⟩
  unfold QStep
  rw [hg]
  exact ⟨gd, hgd, hgN, .inl ⟨by rw [hgb, hw], fun es hG f hf => mk es hG f hf⟩⟩
theorem q1 (t1 : Nat) {a1 : AV} {d : Nat} {v : AV} (hg : o.guard = none) (h1 : F t1 = a1 := by simp only [ofConst_int, ofConst_bool, ofConst_str, ofConst_nil, upd_apply, Nat.reduceEqDiff, ↓reduceIte] <;> exact rfl) (hu : usesB o [t1] = true)
    (h : ∀ f es, G es → AOp P w0 N o (upd f t1 a1) es fun f' e' => e' = es ∧ f' = upd (upd f t1 a1) d v) (k : QList P w0 N G ops rest (upd F d v) kk) (hd : o.dst = some d := by exact rfl) (hN : Nat.blt d N = true := by exact rfl) : QList P w0 N G ops (o :: rest) F kk := by
  have mk : ∀ es, G es → QOp P w0 N o F v es := by
    intro es hG f hf
    have e1 : f t1 = a1 := (uses_get hu t1 (by simp) f F hf).trans h1
    have hh := h f es hG
    rw [upd_self f t1 a1 e1] at hh;
    exact hh.mono fun f' e' hk => ⟨hk.1, by rw [hk.2, hd]; rfl⟩
  refine ⟨d, v, hd, hN, ?_, k⟩
  unfold QStep
  rw [hg]
  exact fun es hG f hf => mk es hG f hf
theorem qy1 (t1 : Nat) {a1 : AV} {d : Nat} {v : AV} {j gd : Nat} {want b : Bool} (hg : o.guard = some (j, want)) (hw : b = want) (h1 : F t1 = a1 := by simp only [ofConst_int, ofConst_bool, ofConst_str, ofConst_nil, upd_apply, Nat.reduceEqDiff, ↓reduceIte] <;> exact rfl) (hu : usesB o [t1] = true)
    (h : ∀ f es, G es → AOp P w0 N o (upd f t1 a1) es fun f' e' => e' = es ∧ f' = upd (upd f t1 a1) d v) (k : QList P w0 N G ops rest (upd F d v) kk) (hgd : (ops[j]?).bind (·.dst) = some gd := by exact rfl) (hgN : Nat.blt gd N = true := by exact rfl) (hgb : F gd = .bool b := by simp only [ofConst_int, ofConst_bool, ofConst_str, ofConst_nil, upd_apply, Nat.reduceEqDiff, ↓reduceIte] <;> exact rfl) (hd : o.dst = some d := by exact rfl) (hN : Nat.blt d N = true := by exact rfl) : QList P w0 N G ops (o :: rest) F kk := by
  have mk : ∀ es, G es → QOp P w0 N o F v es := by
    intro es hG f hf
    have e1 : f t1 = a1 := (uses_get hu t1 (by simp) f F hf).trans h1
    have hh := h f es hG
    rw [upd_self f t1 a1 e1] at hh;
    exact hh.mono fun f' e' hk => ⟨hk.1, by rw [hk.2, hd]; rfl⟩
  refine ⟨d, v, hd, hN, ?_, k⟩
  unfold QStep
  rw [hg]
  exact ⟨gd, hgd, hgN, .inl ⟨by rw [hgb, hw], fun es hG f hf => mk es hG f hf⟩⟩
theorem q2 (t1 t2 : Nat) {a1 a2 : AV} {d : Nat} {v : AV} (hg : o.guard = none) (h1 : F t1 = a1 := by simp only [ofConst_int, ofConst_bool, ofConst_str, ofConst_nil, upd_apply, Nat.reduceEqDiff, ↓reduceIte] <;> exact rfl) (h2 : F t2 = a2 := by simp only [ofConst_int, ofConst_bool, ofConst_str, ofConst_nil, upd_apply, Nat.reduceEqDiff, ↓reduceIte] <;> exact rfl) (hu : usesB o [t1, t2] = true)
    (h : ∀ f es, G es → AOp P w0 N o (upd (upd f t1 a1) t2 a2) es fun f' e' => e' = es ∧ f' = upd (upd (upd f t1 a1) t2 a2) d v) (k : QList P w0 N G ops rest (upd F d v) kk) (hd : o.dst = some d := by exact rfl) (hN : Nat.blt d N = true := by exact rfl) : QList P w0 N G ops (o :: rest) F kk := by
  have mk : ∀ es, G es → QOp P w0 N o F v es := by
    intro es hG f hf
    have e1 : f t1 = a1 := (uses_get hu t1 (by simp) f F hf).trans h1
    have e2 : f t2 = a2 := (uses_get hu t2 (by simp) f F hf).trans h2
    have hh := h f es hG
    rw [upd_self f t1 a1 e1] at hh; rw [upd_self f t2 a2 e2] at hh;
    exact hh.mono fun f' e' hk => ⟨hk.1, by rw [hk.2, hd]; rfl⟩
  refine ⟨d, v, hd, hN, ?_, k⟩
  unfold QStep
  rw [hg]
  exact fun es hG f hf => mk es hG f hf
theorem qy2 (t1 t2 : Nat) {a1 a2 : AV} {d : Nat} {v : AV} {j gd : Nat} {want b : Bool} (hg : o.guard = some (j, want)) (hw : b = want) (h1 : F t1 = a1 := by simp only [ofConst_int, ofConst_bool, ofConst_str, ofConst_nil, upd_apply, Nat.reduceEqDiff, ↓reduceIte] <;> exact rfl) (h2 : F t2 = a2 := by simp only [ofConst_int, ofConst_bool, ofConst_str, ofConst_nil, upd_apply, Nat.reduceEqDiff, ↓reduceIte] <;> exact rfl) (hu : usesB o [t1, t2] = true)
    (h : ∀ f es, G es → AOp P w0 N o (upd (upd f t1 a1) t2 a2) es fun f' e' => e' = es ∧ f' = upd (upd (upd f t1 a1) t2 a2) d v) (k : QList P w0 N G ops rest (upd F d v) kk) (hgd : (ops[j]?).bind (·.dst) = some gd := by exact rfl) (hgN : Nat.blt gd N = true := by exact rfl) (hgb : F gd = .bool b := by simp only [ofConst_int, ofConst_bool, ofConst_str, ofConst_nil, upd_apply, Nat.reduceEqDiff, ↓reduceIte] <;> exact rfl) (hd : o.dst = some d := by exact rfl) (hN : Nat.blt d N = true := by exact rfl) : QList P w0 N G ops (o :: rest) F kk := by
  have mk : ∀ es, G es → QOp P w0 N o F v es := by
    intro es hG f hf
    have e1 : f t1 = a1 := (uses_get hu t1 (by simp) f F hf).trans h1
    have e2 : f t2 = a2 := (uses_get hu t2 (by simp) f F hf).trans h2
    have hh := h f es hG
    rw [upd_self f t1 a1 e1] at hh; rw [upd_self f t2 a2 e2] at hh;
    exact hh.mono fun f' e' hk => ⟨hk.1, by rw [hk.2, hd]; rfl⟩
  refine ⟨d, v, hd, hN, ?_, k⟩
  unfold QStep
  rw [hg]
  exact ⟨gd, hgd, hgN, .inl ⟨by rw [hgb, hw], fun es hG f hf => mk es hG f hf⟩⟩
theorem q3 (t1 t2 t3 : Nat) {a1 a2 a3 : AV} {d : Nat} {v : AV} (hg : o.guard = none) (h1 : F t1 = a1 := by simp only [ofConst_int, ofConst_bool, ofConst_str, ofConst_nil, upd_apply, Nat.reduceEqDiff, ↓reduceIte] <;> exact rfl) (h2 : F t2 = a2 := by simp only [ofConst_int, ofConst_bool, ofConst_str, ofConst_nil, upd_apply, Nat.reduceEqDiff, ↓reduceIte] <;> exact rfl) (h3 : F t3 = a3 := by simp only [ofConst_int, ofConst_bool, ofConst_str, ofConst_nil, upd_apply, Nat.reduceEqDiff, ↓reduceIte] <;> exact rfl) (hu : usesB o [t1, t2, t3] = true)
    (h : ∀ f es, G es → AOp P w0 N o (upd (upd (upd f t1 a1) t2 a2) t3 a3) es fun f' e' => e' = es ∧ f' = upd (upd (upd (upd f t1 a1) t2 a2) t3 a3) d v) (k : QList P w0 N G ops rest (upd F d v) kk) (hd : o.dst = some d := by exact rfl) (hN : Nat.blt d N = true := by exact rfl) : QList P w0 N G ops (o :: rest) F kk := by
  have mk : ∀ es, G es → QOp P w0 N o F v es := by
    intro es hG f hf
    have e1 : f t1 = a1 := (uses_get hu t1 (by simp) f F hf).trans h1
    have e2 : f t2 = a2 := (uses_get hu t2 (by simp) f F hf).trans h2
    have e3 : f t3 = a3 := (uses_get hu t3 (by simp) f F hf).trans h3
    have hh := h f es hG
    rw [upd_self f t1 a1 e1] at hh; rw [upd_self f t2 a2 e2] at hh; rw [upd_self f t3 a3 e3] at hh;
    exact hh.mono fun f' e' hk => ⟨hk.1, by rw [hk.2, hd]; rfl⟩
  refine ⟨d, v, hd, hN, ?_, k⟩
  unfold QStep
  rw [hg]
  exact fun es hG f hf => mk es hG f hf
theorem qy3 (t1 t2 t3 : Nat) {a1 a2 a3 : AV} {d : Nat} {v : AV} {j gd : Nat} {want b : Bool} (hg : o.guard = some (j, want)) (hw : b = want) (h1 : F t1 = a1 := by simp only [ofConst_int, ofConst_bool, ofConst_str, ofConst_nil, upd_apply, Nat.reduceEqDiff, ↓reduceIte] <;> exact rfl) (h2 : F t2 = a2 := by simp only [ofConst_int, ofConst_bool, ofConst_str, ofConst_nil, upd_apply, Nat.reduceEqDiff, ↓reduceIte] <;> exact rfl) (h3 : F t3 = a3 := by simp only [ofConst_int, ofConst_bool, ofConst_str, ofConst_nil, upd_apply, Nat.reduceEqDiff, ↓reduceIte] <;> exact rfl) (hu : usesB o [t1, t2, t3] = true)
    (h : ∀ f es, G es → AOp P w0 N o (upd (upd (upd f t1 a1) t2 a2) t3 a3) es fun f' e' => e' = es ∧ f' = upd (upd (upd (upd f t1 a1) t2 a2) t3 a3) d v) (k : QList P w0 N G ops rest (upd F d v) kk) (hgd : (ops[j]?).bind (·.dst) = some gd := by exact rfl) (hgN : Nat.blt gd N = true := by exact rfl) (hgb : F gd = .bool b := by simp only [ofConst_int, ofConst_bool, ofConst_str, ofConst_nil, upd_apply, Nat.reduceEqDiff, ↓reduceIte] <;> exact rfl) (hd : o.dst = some d := by exact rfl) (hN : Nat.blt d N = true := by exact rfl) : QList P w0 N G ops (o :: rest) F kk := by
  have mk : ∀ es, G es → QOp P w0 N o F v es := by
    intro es hG f hf
    have e1 : f t1 = a1 := (uses_get hu t1 (by simp) f F hf).trans h1
    have e2 : f t2 = a2 := (uses_get hu t2 (by simp) f F hf).trans h2
    have e3 : f t3 = a3 := (uses_get hu t3 (by simp) f F hf).trans h3
    have hh := h f es hG
    rw [upd_self f t1 a1 e1] at hh; rw [upd_self f t2 a2 e2] at hh; rw [upd_self f t3 a3 e3] at hh;
    exact hh.mono fun f' e' hk => ⟨hk.1, by rw [hk.2, hd]; rfl⟩
  refine ⟨d, v, hd, hN, ?_, k⟩
  unfold QStep
  rw [hg]
  exact ⟨gd, hgd, hgN, .inl ⟨by rw [hgb, hw], fun es hG f hf => mk es hG f hf⟩⟩
theorem q4 (t1 t2 t3 t4 : Nat) {a1 a2 a3 a4 : AV} {d : Nat} {v : AV} (hg : o.guard = none) (h1 : F t1 = a1 := by simp only [ofConst_int, ofConst_bool, ofConst_str, ofConst_nil, upd_apply, Nat.reduceEqDiff, ↓reduceIte] <;> exact rfl) (h2 : F t2 = a2 := by simp only [ofConst_int, ofConst_bool, ofConst_str, ofConst_nil, upd_apply, Nat.reduceEqDiff, ↓reduceIte] <;> exact rfl) (h3 : F t3 = a3 := by simp only [ofConst_int, ofConst_bool, ofConst_str, ofConst_nil, upd_apply, Nat.reduceEqDiff, ↓reduceIte] <;> exact rfl) (h4 : F t4 = a4 := by simp only [ofConst_int, ofConst_bool, ofConst_str, ofConst_nil, upd_apply, Nat.reduceEqDiff, ↓reduceIte] <;> exact rfl) (hu : usesB o [t1, t2, t3, t4] = true)
    (h : ∀ f es, G es → AOp P w0 N o (upd (upd (upd (upd f t1 a1) t2 a2) t3 a3) t4 a4) es fun f' e' => e' = es ∧ f' = upd (upd (upd (upd (upd f t1 a1) t2 a2) t3 a3) t4 a4) d v) (k : QList P w0 N G ops rest (upd F d v) kk) (hd : o.dst = some d := by exact rfl) (hN : Nat.blt d N = true := by exact rfl) : QList P w0 N G ops (o :: rest) F kk := by
  have mk : ∀ es, G es → QOp P w0 N o F v es := by
    intro es hG f hf
    have e1 : f t1 = a1 := (uses_get hu t1 (by simp) f F hf).trans h1
    have e2 : f t2 = a2 := (uses_get hu t2 (by simp) f F hf).trans h2
    have e3 : f t3 = a3 := (uses_get hu t3 (by simp) f F hf).trans h3
    have e4 : f t4 = a4 := (uses_get hu t4 (by simp) f F hf).trans h4
    have hh := h f es hG
    rw [upd_self f t1 a1 e1] at hh; rw [upd_self f t2 a2 e2] at hh; rw [upd_self f t3 a3 e3] at hh; rw [upd_self f t4 a4 e4] at hh;
    exact hh.mono fun f' e' hk => ⟨hk.1, by rw [hk.2, hd]; rfl⟩
  refine ⟨d, v, hd, hN, ?_, k⟩
  unfold QStep
  rw [hg]
  exact fun es hG f hf => mk es hG f hf
theorem qy4 (t1 t2 t3 t4 : Nat) {a1 a2 a3 a4 : AV} {d : Nat} {v : AV} {j gd : Nat} {want b : Bool} (hg : o.guard = some (j, want)) (hw : b = want) (h1 : F t1 = a1 := by simp only [ofConst_int, ofConst_bool, ofConst_str, ofConst_nil, upd_apply, Nat.reduceEqDiff, ↓reduceIte] <;> exact rfl) (h2 : F t2 = a2 := by simp only [ofConst_int, ofConst_bool, ofConst_str, ofConst_nil, upd_apply, Nat.reduceEqDiff, ↓reduceIte] <;> exact rfl) (h3 : F t3 = a3 := by simp only [ofConst_int, ofConst_bool, ofConst_str, ofConst_nil, upd_apply, Nat.reduceEqDiff, ↓reduceIte] <;> exact rfl) (h4 : F t4 = a4 := by simp only [ofConst_int, ofConst_bool, ofConst_str, ofConst_nil, upd_apply, Nat.reduceEqDiff, ↓reduceIte] <;> exact rfl) (hu : usesB o [t1, t2, t3, t4] = true)
    (h : ∀ f es, G es → AOp P w0 N o (upd (upd (upd (upd f t1 a1) t2 a2) t3 a3) t4 a4) es fun f' e' => e' = es ∧ f' = upd (upd (upd (upd (upd f t1 a1) t2 a2) t3 a3) t4 a4) d v) (k : QList P w0 N G ops rest (upd F d v) kk) (hgd : (ops[j]?).bind (·.dst) = some gd := by exact rfl) (hgN : Nat.blt gd N = true := by exact rfl) (hgb : F gd = .bool b := by simp only [ofConst_int, ofConst_bool, ofConst_str, ofConst_nil, upd_apply, Nat.reduceEqDiff, ↓reduceIte] <;> exact rfl) (hd : o.dst = some d := by exact rfl) (hN : Nat.blt d N = true := by exact rfl) : QList P w0 N G ops (o :: rest) F kk := by
  have mk : ∀ es, G es → QOp P w0 N o F v es := by
    intro es hG f hf
    have e1 : f t1 = a1 := (uses_get hu t1 (by simp) f F hf).trans h1
    have e2 : f t2 = a2 := (uses_get hu t2 (by simp) f F hf).trans h2
    have e3 : f t3 = a3 := (uses_get hu t3 (by simp) f F hf).trans h3
    have e4 : f t4 = a4 := (uses_get hu t4 (by simp) f F hf).trans h4
    have hh := h f es hG
    rw [upd_self f t1 a1 e1] at hh; rw [upd_self f t2 a2 e2] at hh; rw [upd_self f t3 a3 e3] at hh; rw [upd_self f t4 a4 e4] at hh;
    exact hh.mono fun f' e' hk => ⟨hk.1, by rw [hk.2, hd]; rfl⟩
  refine ⟨d, v, hd, hN, ?_, k⟩
  unfold QStep
  rw [hg]
  exact ⟨gd, hgd, hgN, .inl ⟨by rw [hgb, hw], fun es hG f hf => mk es hG f hf⟩⟩
theorem q5 (t1 t2 t3 t4 t5 : Nat) {a1 a2 a3 a4 a5 : AV} {d : Nat} {v : AV} (hg : o.guard = none) (h1 : F t1 = a1 := by simp only [ofConst_int, ofConst_bool, ofConst_str, ofConst_nil, upd_apply, Nat.reduceEqDiff, ↓reduceIte] <;> exact rfl) (h2 : F t2 = a2 := by simp only [ofConst_int, ofConst_bool, ofConst_str, ofConst_nil, upd_apply, Nat.reduceEqDiff, ↓reduceIte] <;> exact rfl) (h3 : F t3 = a3 := by simp only [ofConst_int, ofConst_bool, ofConst_str, ofConst_nil, upd_apply, Nat.reduceEqDiff, ↓reduceIte] <;> exact rfl) (h4 : F t4 = a4 := by simp only [ofConst_int, ofConst_bool, ofConst_str, ofConst_nil, upd_apply, Nat.reduceEqDiff, ↓reduceIte] <;> exact rfl) (h5 : F t5 = a5 := by simp only [ofConst_int, ofConst_bool, ofConst_str, ofConst_nil, upd_apply, Nat.reduceEqDiff, ↓reduceIte] <;> exact rfl) (hu : usesB o [t1, t2, t3, t4, t5] = true)
    (h : ∀ f es, G es → AOp P w0 N o (upd (upd (upd (upd (upd f t1 a1) t2 a2) t3 a3) t4 a4) t5 a5) es fun f' e' => e' = es ∧ f' = upd (upd (upd (upd (upd (upd f t1 a1) t2 a2) t3 a3) t4 a4) t5 a5) d v) (k : QList P w0 N G ops rest (upd F d v) kk) (hd : o.dst = some d := by exact rfl) (hN : Nat.blt d N = true := by exact rfl) : QList P w0 N G ops (o :: rest) F kk := by
  have mk : ∀ es, G es → QOp P w0 N o F v es := by
    intro es hG f hf
    have e1 : f t1 = a1 := (uses_get hu t1 (by simp) f F hf).trans h1
    have e2 : f t2 = a2 := (uses_get hu t2 (by simp) f F hf).trans h2
    have e3 : f t3 = a3 := (uses_get hu t3 (by simp) f F hf).trans h3
    have e4 : f t4 = a4 := (uses_get hu t4 (by simp) f F hf).trans h4
    have e5 : f t5 = a5 := (uses_get hu t5 (by simp) f F hf).trans h5
    have hh := h f es hG
    rw [upd_self f t1 a1 e1] at hh; rw [upd_self f t2 a2 e2] at hh; rw [upd_self f t3 a3 e3] at hh; rw [upd_self f t4 a4 e4] at hh; rw [upd_self f t5 a5 e5] at hh;
    exact hh.mono fun f' e' hk => ⟨hk.1, by rw [hk.2, hd]; rfl⟩
  refine ⟨d, v, hd, hN, ?_, k⟩
  unfold QStep
  rw [hg]
  exact fun es hG f hf => mk es hG f hf
theorem qy5 (t1 t2 t3 t4 t5 : Nat) {a1 a2 a3 a4 a5 : AV} {d : Nat} {v : AV} {j gd : Nat} {want b : Bool} (hg : o.guard = some (j, want)) (hw : b = want) (h1 : F t1 = a1 := by simp only [ofConst_int, ofConst_bool, ofConst_str, ofConst_nil, upd_apply, Nat.reduceEqDiff, ↓reduceIte] <;> exact rfl) (h2 : F t2 = a2 := by simp only [ofConst_int, ofConst_bool, ofConst_str, ofConst_nil, upd_apply, Nat.reduceEqDiff, ↓reduceIte] <;> exact rfl) (h3 : F t3 = a3 := by simp only [ofConst_int, ofConst_bool, ofConst_str, ofConst_nil, upd_apply, Nat.reduceEqDiff, ↓reduceIte] <;> exact rfl) (h4 : F t4 = a4 := by simp only [ofConst_int, ofConst_bool, ofConst_str, ofConst_nil, upd_apply, Nat.reduceEqDiff, ↓reduceIte] <;> exact rfl) (h5 : F t5 = a5 := by simp only [ofConst_int, ofConst_bool, ofConst_str, ofConst_nil, upd_apply, Nat.reduceEqDiff, ↓reduceIte] <;> exact rfl) (hu : usesB o [t1, t2, t3, t4, t5] = true)
    (h : ∀ f es, G es → AOp P w0 N o (upd (upd (upd (upd (upd f t1 a1) t2 a2) t3 a3) t4 a4) t5 a5) es fun f' e' => e' = es ∧ f' = upd (upd (upd (upd (upd (upd f t1 a1) t2 a2) t3 a3) t4 a4) t5 a5) d v) (k : QList P w0 N G ops rest (upd F d v) kk) (hgd : (ops[j]?).bind (·.dst) = some gd := by exact rfl) (hgN : Nat.blt gd N = true := by exact rfl) (hgb : F gd = .bool b := by simp only [ofConst_int, ofConst_bool, ofConst_str, ofConst_nil, upd_apply, Nat.reduceEqDiff, ↓reduceIte] <;> exact rfl) (hd : o.dst = some d := by exact rfl) (hN : Nat.blt d N = true := by exact rfl) : QList P w0 N G ops (o :: rest) F kk := by
  have mk : ∀ es, G es → QOp P w0 N o F v es := by
    intro es hG f hf
    have e1 : f t1 = a1 := (uses_get hu t1 (by simp) f F hf).trans h1
    have e2 : f t2 = a2 := (uses_get hu t2 (by simp) f F hf).trans h2
    have e3 : f t3 = a3 := (uses_get hu t3 (by simp) f F hf).trans h3
    have e4 : f t4 = a4 := (uses_get hu t4 (by simp) f F hf).trans h4
    have e5 : f t5 = a5 := (uses_get hu t5 (by simp) f F hf).trans h5
    have hh := h f es hG
    rw [upd_self f t1 a1 e1] at hh; rw [upd_self f t2 a2 e2] at hh; rw [upd_self f t3 a3 e3] at hh; rw [upd_self f t4 a4 e4] at hh; rw [upd_self f t5 a5 e5] at hh;
    exact hh.mono fun f' e' hk => ⟨hk.1, by rw [hk.2, hd]; rfl⟩
  refine ⟨d, v, hd, hN, ?_, k⟩
  unfold QStep
  rw [hg]
  exact ⟨gd, hgd, hgN, .inl ⟨by rw [hgb, hw], fun es hG f hf => mk es hG f hf⟩⟩
theorem qn {j gd d : Nat} {want b : Bool} (hg : o.guard = some (j, want)) (hw : b = !want) (k : QList P w0 N G ops rest (upd F d (.raw undef)) kk) (hd : o.dst = some d := by exact rfl) (hN : Nat.blt d N = true := by exact rfl)
    (hgd : (ops[j]?).bind (·.dst) = some gd := by exact rfl) (hgN : Nat.blt gd N = true := by exact rfl) (hgb : F gd = .bool b := by simp only [ofConst_int, ofConst_bool, ofConst_str, ofConst_nil, upd_apply, Nat.reduceEqDiff, ↓reduceIte] <;> exact rfl) : QList P w0 N G ops (o :: rest) F kk := by
  refine ⟨d, .raw undef, hd, hN, ?_, k⟩
  unfold QStep
  rw [hg]
  exact ⟨gd, hgd, hgN, .inr ⟨.inl (by rw [hgb, hw]), rfl⟩⟩
theorem qu {j gd d : Nat} {want : Bool} (hg : o.guard = some (j, want)) (k : QList P w0 N G ops rest (upd F d (.raw undef)) kk) (hd : o.dst = some d := by exact rfl) (hN : Nat.blt d N = true := by exact rfl)
    (hgd : (ops[j]?).bind (·.dst) = some gd := by exact rfl) (hgN : Nat.blt gd N = true := by exact rfl) (hgb : F gd = .raw undef := by simp only [ofConst_int, ofConst_bool, ofConst_str, ofConst_nil, upd_apply, Nat.reduceEqDiff, ↓reduceIte] <;> exact rfl) : QList P w0 N G ops (o :: rest) F kk := by
  refine ⟨d, .raw undef, hd, hN, ?_, k⟩
  unfold QStep
  rw [hg]
  exact ⟨gd, hgd, hgN, .inr ⟨.inr hgb, rfl⟩⟩
theorem q_end (h : kk F) : QList P w0 N G ops [] F kk := h
variable {es : List Ent} {k2 : Frame → List Ent → Prop}
theorem qsplit (gd : Nat) {b : Bool} (h1 : b = true → QList P w0 N G ops rest F kk) (h2 : b = false → QList P w0 N G ops rest F kk) (hgb : F gd = .bool b := by simp only [ofConst_int, ofConst_bool, ofConst_str, ofConst_nil, upd_apply, Nat.reduceEqDiff, ↓reduceIte] <;> exact rfl) : QList P w0 N G ops rest F kk := by
  cases b with
  | true => exact h1 rfl
  | false => exact h2 rfl
theorem m0 {d : Nat} (hu : usesB o [] = true) (h : ∀ f, AOp P w0 N o f es fun f' es' => ∃ v, f' = upd f d v ∧ G es' ∧ MList P w0 N G rest (upd F d v) es' k2) (hd : o.dst = some d := by exact rfl) : MList P w0 N G (o :: rest) F es k2 := by
  intro f hf
  skip
  have hh := h f
  skip
  exact hh.mono fun f' e' ⟨v, h1, h2, h3⟩ => ⟨v, by rw [hd]; exact h1, h2, by rw [hd]; exact h3⟩
theorem m1 (t1 : Nat) {a1 : AV} {d : Nat} (h1 : F t1 = a1 := by simp only [ofConst_int, ofConst_bool, ofConst_str, ofConst_nil, upd_apply, Nat.reduceEqDiff, ↓reduceIte] <;> exact rfl) (hu : usesB o [t1] = true) (h : ∀ f, AOp P w0 N o (upd f t1 a1) es fun f' es' => ∃ v, f' = upd (upd f t1 a1) d v ∧ G es' ∧ MList P w0 N G rest (upd F d v) es' k2) (hd : o.dst = some d := by exact rfl) : MList P w0 N G (o :: rest) F es k2 := by
  intro f hf
  have e1 : f t1 = a1 := (uses_get hu t1 (by simp) f F hf).trans h1
  have hh := h f
  rw [upd_self f t1 a1 e1] at hh;
  exact hh.mono fun f' e' ⟨v, h1, h2, h3⟩ => ⟨v, by rw [hd]; exact h1, h2, by rw [hd]; exact h3⟩
theorem m2 (t1 t2 : Nat) {a1 a2 : AV} {d : Nat} (h1 : F t1 = a1 := by simp only [ofConst_int, ofConst_bool, ofConst_str, ofConst_nil, upd_apply, Nat.reduceEqDiff, ↓reduceIte] <;> exact rfl) (h2 : F t2 = a2 := by simp only [ofConst_int, ofConst_bool, ofConst_str, ofConst_nil, upd_apply, Nat.reduceEqDiff, ↓reduceIte] <;> exact rfl) (hu : usesB o [t1, t2] = true) (h : ∀ f, AOp P w0 N o (upd (upd f t1 a1) t2 a2) es fun f' es' => ∃ v, f' = upd (upd (upd f t1 a1) t2 a2) d v ∧ G es' ∧ MList P w0 N G rest (upd F d v) es' k2) (hd : o.dst = some d := by exact rfl) : MList P w0 N G (o :: rest) F es k2 := by
  intro f hf
  have e1 : f t1 = a1 := (uses_get hu t1 (by simp) f F hf).trans h1
  have e2 : f t2 = a2 := (uses_get hu t2 (by simp) f F hf).trans h2
  have hh := h f
  rw [upd_self f t1 a1 e1] at hh; rw [upd_self f t2 a2 e2] at hh;
  exact hh.mono fun f' e' ⟨v, h1, h2, h3⟩ => ⟨v, by rw [hd]; exact h1, h2, by rw [hd]; exact h3⟩
theorem m3 (t1 t2 t3 : Nat) {a1 a2 a3 : AV} {d : Nat} (h1 : F t1 = a1 := by simp only [ofConst_int, ofConst_bool, ofConst_str, ofConst_nil, upd_apply, Nat.reduceEqDiff, ↓reduceIte] <;> exact rfl) (h2 : F t2 = a2 := by simp only [ofConst_int, ofConst_bool, ofConst_str, ofConst_nil, upd_apply, Nat.reduceEqDiff, ↓reduceIte] <;> exact rfl) (h3 : F t3 = a3 := by simp only [ofConst_int, ofConst_bool, ofConst_str, ofConst_nil, upd_apply, Nat.reduceEqDiff, ↓reduceIte] <;> exact rfl) (hu : usesB o [t1, t2, t3] = true) (h : ∀ f, AOp P w0 N o (upd (upd (upd f t1 a1) t2 a2) t3 a3) es fun f' es' => ∃ v, f' = upd (upd (upd (upd f t1 a1) t2 a2) t3 a3) d v ∧ G es' ∧ MList P w0 N G rest (upd F d v) es' k2) (hd : o.dst = some d := by exact rfl) : MList P w0 N G (o :: rest) F es k2 := by
  intro f hf
  have e1 : f t1 = a1 := (uses_get hu t1 (by simp) f F hf).trans h1
  have e2 : f t2 = a2 := (uses_get hu t2 (by simp) f F hf).trans h2
  have e3 : f t3 = a3 := (uses_get hu t3 (by simp) f F hf).trans h3
  have hh := h f
  rw [upd_self f t1 a1 e1] at hh; rw [upd_self f t2 a2 e2] at hh; rw [upd_self f t3 a3 e3] at hh;
  exact hh.mono fun f' e' ⟨v, h1, h2, h3⟩ => ⟨v, by rw [hd]; exact h1, h2, by rw [hd]; exact h3⟩
theorem m4 (t1 t2 t3 t4 : Nat) {a1 a2 a3 a4 : AV} {d : Nat} (h1 : F t1 = a1 := by simp only [ofConst_int, ofConst_bool, ofConst_str, ofConst_nil, upd_apply, Nat.reduceEqDiff, ↓reduceIte] <;> exact rfl) (h2 : F t2 = a2 := by simp only [ofConst_int, ofConst_bool, ofConst_str, ofConst_nil, upd_apply, Nat.reduceEqDiff, ↓reduceIte] <;> exact rfl) (h3 : F t3 = a3 := by simp only [ofConst_int, ofConst_bool, ofConst_str, ofConst_nil, upd_apply, Nat.reduceEqDiff, ↓reduceIte] <;> exact rfl) (h4 : F t4 = a4 := by simp only [ofConst_int, ofConst_bool, ofConst_str, ofConst_nil, upd_apply, Nat.reduceEqDiff, ↓reduceIte] <;> exact rfl) (hu : usesB o [t1, t2, t3, t4] = true) (h : ∀ f, AOp P w0 N o (upd (upd (upd (upd f t1 a1) t2 a2) t3 a3) t4 a4) es fun f' es' => ∃ v, f' = upd (upd (upd (upd (upd f t1 a1) t2 a2) t3 a3) t4 a4) d v ∧ G es' ∧ MList P w0 N G rest (upd F d v) es' k2) (hd : o.dst = some d := by exact rfl) : MList P w0 N G (o :: rest) F es k2 := by
  intro f hf
  have e1 : f t1 = a1 := (uses_get hu t1 (by simp) f F hf).trans h1
  have e2 : f t2 = a2 := (uses_get hu t2 (by simp) f F hf).trans h2
  have e3 : f t3 = a3 := (uses_get hu t3 (by simp) f F hf).trans h3
  have e4 : f t4 = a4 := (uses_get hu t4 (by simp) f F hf).trans h4
  have hh := h f
  rw [upd_self f t1 a1 e1] at hh; rw [upd_self f t2 a2 e2] at hh; rw [upd_self f t3 a3 e3] at hh; rw [upd_self f t4 a4 e4] at hh;
  exact hh.mono fun f' e' ⟨v, h1, h2, h3⟩ => ⟨v, by rw [hd]; exact h1, h2, by rw [hd]; exact h3⟩
theorem m5 (t1 t2 t3 t4 t5 : Nat) {a1 a2 a3 a4 a5 : AV} {d : Nat} (h1 : F t1 = a1 := by simp only [ofConst_int, ofConst_bool, ofConst_str, ofConst_nil, upd_apply, Nat.reduceEqDiff, ↓reduceIte] <;> exact rfl) (h2 : F t2 = a2 := by simp only [ofConst_int, ofConst_bool, ofConst_str, ofConst_nil, upd_apply, Nat.reduceEqDiff, ↓reduceIte] <;> exact rfl) (h3 : F t3 = a3 := by simp only [ofConst_int, ofConst_bool, ofConst_str, ofConst_nil, upd_apply, Nat.reduceEqDiff, ↓reduceIte] <;> exact rfl) (h4 : F t4 = a4 := by simp only [ofConst_int, ofConst_bool, ofConst_str, ofConst_nil, upd_apply, Nat.reduceEqDiff, ↓reduceIte] <;> exact rfl) (h5 : F t5 = a5 := by simp only [ofConst_int, ofConst_bool, ofConst_str, ofConst_nil, upd_apply, Nat.reduceEqDiff, ↓reduceIte] <;> exact rfl) (hu : usesB o [t1, t2, t3, t4, t5] = true) (h : ∀ f, AOp P w0 N o (upd (upd (upd (upd (upd f t1 a1) t2 a2) t3 a3) t4 a4) t5 a5) es fun f' es' => ∃ v, f' = upd (upd (upd (upd (upd (upd f t1 a1) t2 a2) t3 a3) t4 a4) t5 a5) d v ∧ G es' ∧ MList P w0 N G rest (upd F d v) es' k2) (hd : o.dst = some d := by exact rfl) : MList P w0 N G (o :: rest) F es k2 := by
  intro f hf
  have e1 : f t1 = a1 := (uses_get hu t1 (by simp) f F hf).trans h1
  have e2 : f t2 = a2 := (uses_get hu t2 (by simp) f F hf).trans h2
  have e3 : f t3 = a3 := (uses_get hu t3 (by simp) f F hf).trans h3
  have e4 : f t4 = a4 := (uses_get hu t4 (by simp) f F hf).trans h4
  have e5 : f t5 = a5 := (uses_get hu t5 (by simp) f F hf).trans h5
  have hh := h f
  rw [upd_self f t1 a1 e1] at hh; rw [upd_self f t2 a2 e2] at hh; rw [upd_self f t3 a3 e3] at hh; rw [upd_self f t4 a4 e4] at hh; rw [upd_self f t5 a5 e5] at hh;
  exact hh.mono fun f' e' ⟨v, h1, h2, h3⟩ => ⟨v, by rw [hd]; exact h1, h2, by rw [hd]; exact h3⟩
theorem ms1 (t1 : Nat) {a1 : AV} (h1 : F t1 = a1 := by simp only [ofConst_int, ofConst_bool, ofConst_str, ofConst_nil, upd_apply, Nat.reduceEqDiff, ↓reduceIte] <;> exact rfl) (hu : usesB o [t1] = true) (h : ∀ f, AOp P w0 N o (upd f t1 a1) es fun f' es' => f' = (upd f t1 a1) ∧ G es' ∧ MList P w0 N G rest F es' k2) (hd : o.dst = none := by exact rfl) : MList P w0 N G (o :: rest) F es k2 := by
  intro f hf
  have e1 : f t1 = a1 := (uses_get hu t1 (by simp) f F hf).trans h1
  have hh := h f
  rw [upd_self f t1 a1 e1] at hh;
  exact hh.mono fun f' e' ⟨h1, h2, h3⟩ => ⟨.any, by rw [hd]; exact h1, h2, by rw [hd]; exact h3⟩
theorem ms2 (t1 t2 : Nat) {a1 a2 : AV} (h1 : F t1 = a1 := by simp only [ofConst_int, ofConst_bool, ofConst_str, ofConst_nil, upd_apply, Nat.reduceEqDiff, ↓reduceIte] <;> exact rfl) (h2 : F t2 = a2 := by simp only [ofConst_int, ofConst_bool, ofConst_str, ofConst_nil, upd_apply, Nat.reduceEqDiff, ↓reduceIte] <;> exact rfl) (hu : usesB o [t1, t2] = true) (h : ∀ f, AOp P w0 N o (upd (upd f t1 a1) t2 a2) es fun f' es' => f' = (upd (upd f t1 a1) t2 a2) ∧ G es' ∧ MList P w0 N G rest F es' k2) (hd : o.dst = none := by exact rfl) : MList P w0 N G (o :: rest) F es k2 := by
  intro f hf
  have e1 : f t1 = a1 := (uses_get hu t1 (by simp) f F hf).trans h1
  have e2 : f t2 = a2 := (uses_get hu t2 (by simp) f F hf).trans h2
  have hh := h f
  rw [upd_self f t1 a1 e1] at hh; rw [upd_self f t2 a2 e2] at hh;
  exact hh.mono fun f' e' ⟨h1, h2, h3⟩ => ⟨.any, by rw [hd]; exact h1, h2, by rw [hd]; exact h3⟩
theorem ms3 (t1 t2 t3 : Nat) {a1 a2 a3 : AV} (h1 : F t1 = a1 := by simp only [ofConst_int, ofConst_bool, ofConst_str, ofConst_nil, upd_apply, Nat.reduceEqDiff, ↓reduceIte] <;> exact rfl) (h2 : F t2 = a2 := by simp only [ofConst_int, ofConst_bool, ofConst_str, ofConst_nil, upd_apply, Nat.reduceEqDiff, ↓reduceIte] <;> exact rfl) (h3 : F t3 = a3 := by simp only [ofConst_int, ofConst_bool, ofConst_str, ofConst_nil, upd_apply, Nat.reduceEqDiff, ↓reduceIte] <;> exact rfl) (hu : usesB o [t1, t2, t3] = true) (h : ∀ f, AOp P w0 N o (upd (upd (upd f t1 a1) t2 a2) t3 a3) es fun f' es' => f' = (upd (upd (upd f t1 a1) t2 a2) t3 a3) ∧ G es' ∧ MList P w0 N G rest F es' k2) (hd : o.dst = none := by exact rfl) : MList P w0 N G (o :: rest) F es k2 := by
  intro f hf
  have e1 : f t1 = a1 := (uses_get hu t1 (by simp) f F hf).trans h1
  have e2 : f t2 = a2 := (uses_get hu t2 (by simp) f F hf).trans h2
  have e3 : f t3 = a3 := (uses_get hu t3 (by simp) f F hf).trans h3
  have hh := h f
  rw [upd_self f t1 a1 e1] at hh; rw [upd_self f t2 a2 e2] at hh; rw [upd_self f t3 a3 e3] at hh;
  exact hh.mono fun f' e' ⟨h1, h2, h3⟩ => ⟨.any, by rw [hd]; exact h1, h2, by rw [hd]; exact h3⟩
theorem m_end (h : k2 F es) : MList P w0 N G [] F es k2 := h
end
section
variable {P : Program} {w0 : World} {N : Nat}
theorem w_drawn {id : Nat} {l : List Oper} {f : Frame} {es : List Ent} {K : Exit → Frame → List Ent → Prop} (m : Nat) (ms : List Nat) (G : List Ent → Prop) (hm : P.follows .mixedOrders = true) (hq : (drawOk l m ms && l.all fun o => dok N o.dst) = true) (hG : G es)
    (h : QList P w0 N G l.toArray (quietsFrom ms (l.take m) 0) f fun F => MList P w0 N G (mainsOf l ms) F es fun F' es' => AList P w0 N l.toArray (l.drop m) F' es' (K .normal)) : AWp P w0 N (.region id l.toArray true) f es K := by
  rw [Bool.and_eq_true, List.all_eq_true] at hq
  exact w_draw m ms G hm hq.1 hG hq.2 h
end
end Go.Proofs.YtfdgbghlanbddaaDoor.Av
