import Derived.Test.YtfdgbghlanbddaaDoorAvMore
import Derived.Laws.OwnMore
import Derived.Laws.BytesArg
import Derived.ChangeKeysEq
set_option linter.unusedVariables false
set_option linter.unusedSimpArgs false
namespace Go.Proofs.YtfdgbghlanbddaaDoor.Av
open Go.RowKit
section
variable {P : Program} {w0 : World} {N : Nat} {f : Frame} {es : List Ent} {K : Frame → List Ent → Prop}
variable {d : Nat} {ty : TypeId} {pos : String} {aft : Array Edge} {g : Option (Nat × Bool)} {x y z : Operand} {a : AV}
variable {ops : Array Oper} {rest : List Oper}

theorem wrap_i64 {n : Int} (h0 : -9223372036854775808 ≤ n) (h1 : n < 9223372036854775808) : IntKind.i64.wrap n = n := by
  have h64 : (2 : Int) ^ 64 = 18446744073709551616 := by decide
  have h63 : (2 : Int) ^ 63 = 9223372036854775808 := by decide
  simp only [IntKind.wrap, IntKind.bits, IntKind.signed, Bool.true_and, decide_eq_true_eq, Nat.reduceSub, h64, h63, ge_iff_le]
  split <;> omega

/-! ### ghosts within a region -/
theorem l_less {f' : Frame} {es' : List Ent} (l : Less f' f) (s : Sub es' es) (h : AList P w0 N ops rest f' es' K) : AList P w0 N ops rest f es K :=
  fun c A Q ok rf hk => h c A Q (s.ok ok) ((rf.less l).ext (s.ext c)) fun c' es2 f2 A2 x ok2 rf2 k => hk c' es2 f2 A2 ((s.ext c).trans x) ok2 rf2 k
theorem l_adopt (t e sz : Nat) (ht : f t = .nil) (h : ∀ s, AList P w0 N ops rest (upd f t (.own es.length s)) (.row s e sz [] :: es) K) : AList P w0 N ops rest f es K := by
  intro c A Q ok rf hk
  have x := ext_adopt (w0 := w0) (c := c) (es := es) e sz
  refine h c.now (c.adopt es) A Q (ok_adopt ok e sz) ⟨rf.size, fun u => ?_, rf.defers⟩ fun c' es2 f2 A2 x2 ok2 rf2 k => hk c' es2 f2 A2 (x.trans x2) ok2 rf2 k
  by_cases hu : u = t
  · subst hu
    rw [upd_same]
    have := rf.rep u
    rw [ht] at this
    simp only [Rep] at this ⊢
    refine ⟨_, rfl, ⟨_, _, _, this⟩, Nat.lt_succ_self _, fun e' sz' rows' hr => ?_⟩
    rw [at_hit] at hr
    injection hr with hr
    injection hr with _ _ _ hr
    subst hr
    simp [Core.adopt, ownVal, this]
  · rw [upd_ne _ _ hu]
    exact Rep.ext (es := some es) (es' := some _) _ x (rf.rep u)
theorem l_freeze (t : Nat) {id s e sz : Nat} {rows : List (List AV)} {C : Ent → List Ent} (ht : f t = .own id s) (hid : Loc es id (.row s e sz rows) C) (hclean : rows.all cleans = true) (h : AList P w0 N ops rest (upd f t (.list sz rows)) (C .dead) K) : AList P w0 N ops rest f es K := by
  intro c A Q ok rf hk
  have x := ext_freeze (c := c) (es := es) id
  rw [← hid.2] at h
  refine h (c.freeze id) A Q (ok_freeze ok hid.1) ⟨rf.size, fun u => ?_, rf.defers⟩ fun c' es2 f2 A2 x2 ok2 rf2 k => hk c' es2 f2 A2 (x.trans x2) ok2 rf2 k
  by_cases hu : u = t
  · subst hu
    rw [upd_same]
    have := rf.rep u
    rw [ht] at this
    rw [rep_own this hid.1]
    exact rep_freeze ok hid.1 hclean _
  · rw [upd_ne _ _ hu]
    exact Rep.ext (es := some es) (es' := some _) _ x (rf.rep u)

/-! ### rows made -/
def chunk : Nat → Nat → List AV → List (List AV)
  | 0, _, _ => []
  | n + 1, sz, l => l.take sz :: chunk n sz (l.drop sz)
theorem chunk_length : ∀ (n sz : Nat) (l : List AV), (chunk n sz l).length = n
  | 0, _, _ => rfl
  | n + 1, sz, l => by simp [chunk, chunk_length n]
theorem rep_chunk {c : Core} {m : Option (List Ent)} : ∀ {n sz : Nat} {l : List AV} {vs : List Value}, Reps c m l vs → l.length = n * sz → (∀ u ∈ vs, u.oneCell' = true) → RepRows c m sz (chunk n sz l) vs
  | 0, sz, l, vs, h, hl, _ => by
    have : vs = [] := List.eq_nil_of_length_eq_zero (by rw [h.length, hl, Nat.zero_mul])
    exact this
  | n + 1, sz, l, vs, h, hl, ho => by
    rw [Nat.succ_mul] at hl
    refine ⟨vs.take sz, vs.drop sz, (List.take_append_drop _ _).symm, by rw [List.length_take]; omega, h.take sz, fun u hu => ho u (List.mem_of_mem_take hu), ?_⟩
    exact rep_chunk (h.drop sz) (by rw [List.length_drop]; omega) fun u hu => ho u (List.mem_of_mem_drop hu)
theorem zeros_list (z : Array Value) (hz : 0 < z.size) : ∀ n : Nat, ((Array.range (n * z.size)).map fun i => z[i % z.size]!).toList = (List.replicate n z.toList).flatten
  | 0 => by simp
  | n + 1 => by
    have ih := zeros_list z hz n
    simp only [Array.toList_map, Array.toList_range] at ih ⊢
    rw [List.replicate_succ, List.flatten_cons, ← ih, Nat.succ_mul, Nat.add_comm, List.range_add, List.map_append, List.map_map]
    congr 1
    · apply List.ext_getElem
      · simp
      · intro i h1 h2
        simp at h1
        simp [Nat.mod_eq_of_lt h1, h1]
    · apply List.map_congr_left
      intro i _
      simp
theorem rep_zeros {c : Core} {m : Option (List Ent)} {zl : List AV} {zs : List Value} (h : Reps c m zl zs) : ∀ n, Reps c m (List.replicate n zl).flatten (List.replicate n zs).flatten
  | 0 => rfl
  | n + 1 => by
    rw [List.replicate_succ, List.replicate_succ, List.flatten_cons, List.flatten_cons]
    exact h.append (rep_zeros h n)
theorem rep_zrows {c : Core} {m : Option (List Ent)} {zl : List AV} {zs : List Value} (h : Reps c m zl zs) (ho : ∀ u ∈ zs, u.oneCell' = true) : ∀ n, RepRows c m zl.length (List.replicate n zl) (List.replicate n zs).flatten
  | 0 => rfl
  | n + 1 => by
    rw [List.replicate_succ, List.replicate_succ, List.flatten_cons]
    exact ⟨zs, _, rfl, rfl, h, ho, rep_zrows h ho n⟩
theorem o_buildSlice {t e sz len : Nat} {zl l : List AV} {rows : List (List AV)} {parts : List (Nat × Operand)} (ht : sliceB P t e sz = true) (hb : len * sz ≤ 2 ^ 24) (hz : zeroAVs P e = some zl) (hzl : zl.length = sz) (hsz : 0 < sz)
    (hl : fillAV (fun i => some (i * sz, sz)) (List.replicate len zl).flatten (parts.map fun p => (p.1, ev f p.2)) = some l) (hll : l.length = len * sz) (hr : chunk len sz l = rows)
    (k : ∀ s, K (upd f d (.own es.length s)) (.row s e sz rows :: es)) (hd : Nat.blt d N = true := by rfl) : AOp P w0 N ⟨some d, .buildSlice t len parts.toArray, ty, pos, aft, g⟩ f es K := by
  refine op_run hd fun c A ok rf => ?_
  obtain ⟨zv, hrun, hzv, hone⟩ := zero_run hz c.w
  have hcs : zv.cells.size = sz := by rw [← Array.length_toList, ← hzl, ← hzv, List.length_map]
  have hreps : Reps c (some es) zl zv.cells.toList := hzv ▸ reps_const c _ _
  have hzl2 : ((Array.range (len * sz)).map fun i => (if len * sz = 0 then (#[] : Array Value) else zv.cells)[i % (if len * sz = 0 then (#[] : Array Value) else zv.cells).size]!).toList = (List.replicate len zv.cells.toList).flatten := by
    by_cases h0 : len = 0
    · subst h0; simp
    · rw [if_neg (by intro e; rcases Nat.mul_eq_zero.1 e with e | e <;> omega), ← hcs]
      exact zeros_list zv.cells (by omega) len
  have hrz : Reps c (some es) (List.replicate len zl).flatten ((Array.range (len * sz)).map fun i => (if len * sz = 0 then (#[] : Array Value) else zv.cells)[i % (if len * sz = 0 then (#[] : Array Value) else zv.cells).size]!).toList := by
    rw [hzl2]; exact rep_zeros hreps len
  obtain ⟨vl, h1, h2, h3⟩ := rep_fill (c := c) (m := some es) (place := fun i => some (i * sz, sz)) (parts := parts.map fun p => (p.1, ev f p.2)) (vparts := parts.map fun p => (p.1, A.eval p.2)) (by simp) (mapped rf parts) hrz
    (fun u hu => by
      rw [hzl2] at hu
      obtain ⟨q, hq, hu⟩ := List.mem_flatten.1 hu
      rw [List.eq_of_mem_replicate hq] at hu
      exact hone u hu) hl
  have hrows : RepRows c (some es) sz rows vl.toList := hr ▸ rep_chunk h2 hll h3
  have hlen : rows.length = len := by rw [← hr, chunk_length]
  refine ⟨.slice (some ⟨c.w.heap.size, 0, none⟩) rows.length rows.length, c.alloc es vl e rows.length, .row c.now e sz rows :: es, .own es.length c.now, ?_, ext_alloc ok _ _ _ _ _, ok_alloc ok _ _ _ rows hrows ?_, rep_new_own, k c.now⟩
  · unfold sliceB at ht
    split at ht
    · rename_i e' i' hu hi
      simp only [Bool.and_eq_true, beq_iff_eq] at ht
      obtain ⟨rfl, rfl⟩ := ht
      by_cases h0 : len * i'.size = 0
      · simp only [h0, if_true] at h1
        simp only [execOp, Instr.buildSlice, Sem.run_bind, run_underlying hu, Result.andThen_ok, sizeOf, typeInfo, run_program, hi, Sem.run_pure, Nat.not_lt.2 hb, if_false, gt_iff_lt, List.map_toArray, h0, if_true, Nat.not_lt_zero, h1, newRow, run_newObj, hlen]
        rfl
      · simp only [h0, if_false] at h1
        simp only [execOp, Instr.buildSlice, Sem.run_bind, run_underlying hu, Result.andThen_ok, sizeOf, typeInfo, run_program, hi, Sem.run_pure, Nat.not_lt.2 hb, if_false, gt_iff_lt, List.map_toArray, h0, hrun, h1, newRow, run_newObj, hlen]
        rfl
    · cases ht
  · rw [hlen]
    simp only [most]
    have : len ≤ len * sz := Nat.le_mul_of_pos_right _ hsz
    omega
def bytesB (P : Program) (e b : Nat) : Bool :=
  match P.info? e with
  | some i => i.bytes == b
  | none => false
theorem o_makeSlice {t e sz b : Nat} {zl : List AV} {k1 k2 : IntKind} {n : Int} (ht : sliceB P t e sz = true) (hbt : bytesB P e b = true) (hz : zeroAVs P e = some zl) (hzl : zl.length = sz) (hsz : 0 < sz) (hx : ev f x = .int k1 n) (hy : ev f y = .int k2 n) (h0 : 0 ≤ n) (hn : n ≤ most) (hb : n * b ≤ 281474976710656)
    (k : ∀ s, K (upd f d (.own es.length s)) (.row s e sz (List.replicate n.toNat zl) :: es)) (hd : Nat.blt d N = true := by rfl) : AOp P w0 N ⟨some d, .makeSlice t x y, ty, pos, aft, g⟩ f es K := by
  refine op_run hd fun c A ok rf => ?_
  obtain ⟨zv, hrun, hzv, hone⟩ := zero_run hz c.w
  have hcs : zv.cells.size = sz := by rw [← Array.length_toList, ← hzl, ← hzv, List.length_map]
  have hreps : Reps c (some es) zl zv.cells.toList := hzv ▸ reps_const c _ _
  have h1 := ev_int rf hx
  have h2 := ev_int rf hy
  have hzl2 : ((Array.range (n.toNat * sz)).map fun i => (if n.toNat * sz = 0 then (#[] : Array Value) else zv.cells)[i % (if n.toNat * sz = 0 then (#[] : Array Value) else zv.cells).size]!).toList = (List.replicate n.toNat zv.cells.toList).flatten := by
    by_cases h0 : n.toNat = 0
    · rw [h0]; simp
    · rw [if_neg (by intro e; rcases Nat.mul_eq_zero.1 e with e | e <;> omega), ← hcs]
      exact zeros_list zv.cells (by omega) n.toNat
  have hrows : RepRows c (some es) sz (List.replicate n.toNat zl) ((Array.range (n.toNat * sz)).map fun i => (if n.toNat * sz = 0 then (#[] : Array Value) else zv.cells)[i % (if n.toNat * sz = 0 then (#[] : Array Value) else zv.cells).size]!).toList := by
    rw [hzl2, ← hzl]; exact rep_zrows hreps hone _
  have hwrap : IntKind.i64.wrap n = n := by
    simp only [most] at hn
    exact wrap_i64 (by omega) (by omega)
  refine ⟨.slice (some ⟨c.w.heap.size, 0, none⟩) (List.replicate n.toNat zl).length (List.replicate n.toNat zl).length, c.alloc es _ e (List.replicate n.toNat zl).length, .row c.now e sz (List.replicate n.toNat zl) :: es, .own es.length c.now, ?_, ext_alloc ok _ _ _ _ _, ok_alloc ok _ _ _ _ hrows (by rw [List.length_replicate]; omega), rep_new_own, k c.now⟩
  unfold bytesB at hbt
  unfold sliceB at ht
  split at ht
  · rename_i e' i' hu hi
    simp only [Bool.and_eq_true, beq_iff_eq] at ht
    obtain ⟨rfl, rfl⟩ := ht
    rw [hi] at hbt
    have hbt : i'.bytes = b := by simpa using hbt
    have hneg : ¬ n < 0 := by omega
    have h48 : (2 : Int) ^ 48 = 281474976710656 := by decide
    have hbig : ¬ ((2 : Int) ^ 48 < (i'.bytes : Int) * n) := by rw [hbt, Int.mul_comm, h48]; omega
    by_cases h0 : n.toNat * i'.size = 0
    · simp only [execOp, Instr.makeSlice, Sem.run_bind, run_underlying hu, Result.andThen_ok, h1, h2, asInt, asIntOf, Sem.run_pure, typeInfo, run_program, hi, hwrap, hneg, hbig, gt_iff_lt, decide_false, Bool.or_false, Int.lt_irrefl, Bool.false_eq_true, if_false, run_askRoom, sizeOf, h0, if_true, newRow, run_newObj, List.length_replicate]
      rfl
    · simp only [execOp, Instr.makeSlice, Sem.run_bind, run_underlying hu, Result.andThen_ok, h1, h2, asInt, asIntOf, Sem.run_pure, typeInfo, run_program, hi, hwrap, hneg, hbig, gt_iff_lt, decide_false, Bool.or_false, Int.lt_irrefl, Bool.false_eq_true, if_false, run_askRoom, sizeOf, h0, hrun, newRow, run_newObj, List.length_replicate]
      rfl
  · cases ht
end
end Go.Proofs.YtfdgbghlanbddaaDoor.Av
