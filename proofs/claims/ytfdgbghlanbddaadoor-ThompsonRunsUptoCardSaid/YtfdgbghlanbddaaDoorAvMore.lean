import Derived.Test.YtfdgbghlanbddaaDoorAvLook
set_option linter.unusedVariables false
set_option linter.unusedSimpArgs false
namespace Go.Proofs.YtfdgbghlanbddaaDoor.Av
open Go.RowKit
section
variable {P : Program} {w0 : World} {N : Nat} {f : Frame} {es : List Ent} {K : Frame → List Ent → Prop}
variable {d : Nat} {ty : TypeId} {pos : String} {aft : Array Edge} {g : Option (Nat × Bool)} {x y z : Operand} {a : AV}

/-! ### parts of values -/
theorem run_part {t : TypeId} {agg : Bool} {n : Nat} (ht : tyB P t agg n = true) (hn : agg = false → n = 1) {cs : Array Value} {off : Nat} (hl : off + n ≤ cs.size) (w : World) :
    (part t cs off).run P w = .ok (if agg then .agg ((cs.toList.drop off).take n).toArray else ((cs.toList.drop off).take n).getD 0 undef) w := by
  cases agg with
  | true =>
    simp only [part, Sem.run_bind, run_isAgg ht, Result.andThen_ok, if_true, run_sizeOf ht, Sem.run_pure]
    congr 2
    apply Array.ext'
    simp [List.take_drop, Nat.add_comm]
  | false =>
    have := hn rfl
    subst this
    simp only [part, Sem.run_bind, run_isAgg ht, Result.andThen_ok, Bool.false_eq_true, if_false]
    have hlt : off < cs.size := by omega
    simp [hlt, List.getD, List.getElem?_take, List.getElem?_drop]
def fieldV (P : Program) (t : TypeId) (fl off : Nat) (agg : Bool) (n : Nat) : Bool :=
  match P.underlying t with
  | some (.struct fs) => match fs[fl]? with
    | some f => f.offset == off && tyB P f.type agg n
    | none => false
  | _ => false
theorem o_field {t : TypeId} {fl off n : Nat} {agg : Bool} {l : List AV} (hx : ev f x = .agg l) (hf : fieldV P t fl off agg n = true) (hn : agg = false → n = 1) (hl : off + n ≤ l.length) (ha : loadAV agg n l off = a) (kk : K (upd f d a) es) (hd : Nat.blt d N = true := by rfl) : AOp P w0 N ⟨some d, .field t x fl, ty, pos, aft, g⟩ f es K := by
  refine op_look hd (fun c A ok rf => ?_) kk
  have h := rep_ev rf x
  rw [hx] at h
  simp only [Rep] at h
  obtain ⟨cs, hv, hr, ho⟩ := h
  unfold fieldV at hf
  split at hf
  · rename_i fs hu
    split at hf
    · rename_i fd hfd
      simp only [Bool.and_eq_true, beq_iff_eq] at hf
      obtain ⟨rfl, hf⟩ := hf
      have hl2 := hr.length
      refine ⟨_, ?_, ha ▸ rep_load hr ho agg hn hl⟩
      simp only [execOp, hv, Instr.field, Sem.run_bind, run_underlying hu, Result.andThen_ok, hfd, asAgg, Sem.run_pure, run_part hf hn (by rw [← Array.length_toList]; omega : fd.offset + n ≤ cs.size)]
    · cases hf
  · cases hf
theorem o_index_arr {t : TypeId} {m e n : Nat} {agg : Bool} {l : List AV} {k : IntKind} {ix : Int} (hx : ev f x = .agg l) (hy : ev f y = .int k ix) (ht : arrB P t m e n = true) (hte : tyB P e agg n = true) (hn : agg = false → n = 1) (h0 : 0 ≤ ix) (h1 : ix < m) (hl : ix.toNat * n + n ≤ l.length) (ha : loadAV agg n l (ix.toNat * n) = a) (kk : K (upd f d a) es) (hd : Nat.blt d N = true := by rfl) : AOp P w0 N ⟨some d, .index t x y, ty, pos, aft, g⟩ f es K := by
  refine op_look hd (fun c A ok rf => ?_) kk
  have h := rep_ev rf x
  rw [hx] at h
  have hiy := ev_int rf hy
  simp only [Rep] at h
  obtain ⟨cs, hv, hr, ho⟩ := h
  unfold arrB at ht
  split at ht
  · rename_i n' e' i' hu hi
    simp only [Bool.and_eq_true, beq_iff_eq] at ht
    obtain ⟨⟨rfl, rfl⟩, rfl⟩ := ht
    have hl2 := hr.length
    refine ⟨_, ?_, ha ▸ rep_load hr ho agg hn hl⟩
    simp only [execOp, hv, hiy, Instr.index, asIntOf, Sem.run_bind, Sem.run_pure, Result.andThen_ok, run_underlying hu, Sem.run_ite, h0, h1, and_self, if_true, sizeOf, typeInfo, run_program, hi, run_part hte hn (by rw [← Array.length_toList]; omega : ix.toNat * i'.size + i'.size ≤ cs.size)]
  · cases ht
theorem o_index_str {t : TypeId} {s : ByteArray} {k : IntKind} {ix : Int} (hx : ev f x = .str s) (hy : ev f y = .int k ix) (ht : P.underlying t = some .string) (h0 : 0 ≤ ix) (h1 : ix.toNat < s.size) (ha : .int .u8 ((s[ix.toNat]'h1).toNat : Int) = a) (kk : K (upd f d a) es) (hd : Nat.blt d N = true := by rfl) : AOp P w0 N ⟨some d, .index t x y, ty, pos, aft, g⟩ f es K := by
  refine op_look hd (fun c A ok rf => ?_) kk
  have h := ev_str rf hx
  have hiy := ev_int rf hy
  refine ⟨.int .u8 ((s[ix.toNat]'h1).toNat : Int), ?_, by rw [← ha]; simp only [Rep]⟩
  simp only [execOp, h, hiy, Instr.index, asIntOf, Sem.run_bind, Sem.run_pure, Result.andThen_ok, run_underlying ht, h0, if_true]
  rw [getElem?_pos s ix.toNat h1]
  simp
theorem o_extract {n : Nat} {l : List AV} (hx : ev f x = .tup l) (hl : n < l.length) (ha : l.getD n .any = a) (kk : K (upd f d a) es) (hd : Nat.blt d N = true := by rfl) : AOp P w0 N ⟨some d, .extract x n, ty, pos, aft, g⟩ f es K := by
  refine op_look hd (fun c A ok rf => ?_) kk
  have h := rep_ev rf x
  rw [hx] at h
  simp only [Rep] at h
  obtain ⟨cs, hv, hr⟩ := h
  have hg := hr.get n
  have hlt : n < cs.size := by rw [← Array.length_toList, hr.length]; exact hl
  refine ⟨cs[n], ?_, ?_⟩
  · simp [execOp, hv, Instr.extract, hlt]
  · rw [← ha]
    have : cs.toList.getD n undef = cs[n] := by simp [List.getD, hlt]
    rwa [this] at hg
theorem o_len_str {t : TypeId} {s : ByteArray} (hx : ev f x = .str s) (ht : P.underlying t = some .string) (ha : .int .i64 (s.size : Int) = a) (kk : K (upd f d a) es) (hd : Nat.blt d N = true := by rfl) : AOp P w0 N ⟨some d, .call { callee := .builtin .len, args := #[x], argTypes := #[t] }, ty, pos, aft, g⟩ f es K := by
  refine op_look hd (fun c A ok rf => ?_) kk
  have h := ev_str rf hx
  refine ⟨.int .i64 s.size, ?_, by rw [← ha]; simp only [Rep]⟩
  simp [execOp, resolve, invoke, builtin, Builtin.len_, run_underlying ht, h, goInt]
theorem run_len_slice {t e sz : Nat} (ht : sliceB P t e sz = true) (A : Option Addr) (n k : Nat) (w : World) : (Builtin.len_ #[t] ty #[.slice A n k]).run P w = .ok (.int .i64 (n : Int)) w := by
  unfold sliceB at ht
  split at ht
  · rename_i e' i' hu hi
    simp [Builtin.len_, run_underlying hu, goInt]
  · cases ht
theorem o_len_list {t e sz sz' : Nat} {rows : List (List AV)} (hx : ev f x = .list sz rows) (ht : sliceB P t e sz' = true) (ha : .int .i64 (rows.length : Int) = a) (kk : K (upd f d a) es) (hd : Nat.blt d N = true := by rfl) : AOp P w0 N ⟨some d, .call { callee := .builtin .len, args := #[x], argTypes := #[t] }, ty, pos, aft, g⟩ f es K := by
  refine op_look hd (fun c A ok rf => ?_) kk
  have h := rep_ev rf x
  rw [hx] at h
  simp only [Rep] at h
  obtain ⟨B, cap, vs, hv, _⟩ := h
  refine ⟨.int .i64 rows.length, ?_, by rw [← ha]; simp only [Rep]⟩
  simp [execOp, resolve, invoke, builtin, hv, run_len_slice ht]
theorem o_len_nil {t e sz' : Nat} (hx : ev f x = .nil) (ht : sliceB P t e sz' = true) (kk : K (upd f d (.int .i64 0)) es) (hd : Nat.blt d N = true := by rfl) : AOp P w0 N ⟨some d, .call { callee := .builtin .len, args := #[x], argTypes := #[t] }, ty, pos, aft, g⟩ f es K := by
  refine op_look hd (fun c A ok rf => ?_) kk
  have h := rep_ev rf x
  rw [hx] at h
  simp only [Rep] at h
  refine ⟨.int .i64 0, ?_, by simp only [Rep]⟩
  simp [execOp, resolve, invoke, builtin, h, run_len_slice ht]
theorem own_slice {c : Core} (ok : Ok w0 c es) {id s e sz : Nat} {rows : List (List AV)} (he : at_ es id = some (.row s e sz rows)) {v : Value} (h : Rep c (some es) (.own id s) v) : ∃ A k, v = .slice A rows.length k ∧ rows.length ≤ k := by
  have hv := rep_own h he
  obtain ⟨_, _, _, xs, hr, hown⟩ := ok.ent id _ he
  cases hp : c.phi id with
  | none =>
    rw [hp] at hown hv
    rcases hown.2 with ⟨_, h6⟩ | ⟨g, cap, cur, h6, _⟩
    · exact ⟨none, 0, by rw [hv, ownVal, h6], by omega⟩
    · cases h6
  | some q =>
    obtain ⟨gb, cap⟩ := q
    obtain ⟨_, _, _, _, h4, _⟩ := own_cells ok he hp
    rw [hp] at hv
    exact ⟨_, _, hv, h4⟩
theorem o_len_own {t e' sz' id s e sz : Nat} {rows : List (List AV)} {C : Ent → List Ent} (hx : ev f x = .own id s) (he : Loc es id (.row s e sz rows) C) (ht : sliceB P t e' sz' = true) (ha : .int .i64 (rows.length : Int) = a) (kk : K (upd f d a) es) (hd : Nat.blt d N = true := by rfl) : AOp P w0 N ⟨some d, .call { callee := .builtin .len, args := #[x], argTypes := #[t] }, ty, pos, aft, g⟩ f es K := by
  refine op_look hd (fun c A ok rf => ?_) kk
  have h := rep_ev rf x
  rw [hx] at h
  obtain ⟨B, cap, hv, _⟩ := own_slice ok he.1 h
  refine ⟨.int .i64 rows.length, ?_, by rw [← ha]; simp only [Rep]⟩
  simp [execOp, resolve, invoke, builtin, hv, run_len_slice ht]
theorem reps_map {c : Core} {A : Act} (rf : RepF N c es f A) : ∀ l : List Operand, Reps c (some es) (l.map (ev f)) (l.map A.eval)
  | [] => rfl
  | o :: l => ⟨_, _, rfl, rep_ev rf o, reps_map rf l⟩
theorem o_makeFunc {fn : Fn} {l1 l2 : List Operand} (kk : K (upd f d (.fn fn (l1.map (ev f)) (l2.map (ev f)))) es) (hd : Nat.blt d N = true := by rfl) : AOp P w0 N ⟨some d, .makeFunc fn l1.toArray l2.toArray, ty, pos, aft, g⟩ f es K := by
  refine op_look hd (fun c A ok rf => ?_) kk
  refine ⟨.func fn (l1.map A.eval).toArray (l2.map A.eval).toArray, ?_, ?_⟩
  · simp [execOp, Instr.makeFunc]
  · simp only [Rep]
    exact ⟨_, _, rfl, by simpa using reps_map rf l1, by simpa using reps_map rf l2⟩
theorem o_max {t1 t2 : TypeId} {k : IntKind} {m n r : Int} (hx : ev f x = .int k m) (hy : ev f y = .int k n) (hr : (if n > m then n else m) = r) (kk : K (upd f d (.int k r)) es) (hd : Nat.blt d N = true := by rfl) : AOp P w0 N ⟨some d, .call { callee := .builtin .max, args := #[x, y], argTypes := #[t1, t2] }, ty, pos, aft, g⟩ f es K := by
  refine op_look hd (fun c A ok rf => ?_) kk
  have h1 := ev_int rf hx
  have h2 := ev_int rf hy
  refine ⟨.int k r, ?_, by simp only [Rep]⟩
  simp [execOp, resolve, invoke, builtin, Builtin.max_, Builtin.max2, h1, h2, ← hr]

/-! ### calls of Go functions -/
theorem call_run {c : Core} {A : Act} {fid : FuncId} {l1 l2 : List AV} {args : List Operand} {ts : Array TypeId} (rf : RepF N c es f A) (hx : ev f x = .fn (.func fid) l1 l2) (hen : enterB P fid = true) :
    ∃ vs : Array Value, (execOp A.eval ⟨some d, .call { callee := .value x, args := args.toArray, argTypes := ts }, ty, pos, aft, g⟩).run P c.w = .ok (.enter fid vs) c.w ∧ Reps c (some es) (l1 ++ args.map (ev f) ++ l2) vs.toList := by
  have h := rep_ev rf x
  rw [hx] at h
  simp only [Rep] at h
  obtain ⟨fs, cs, hv, h1, h2⟩ := h
  unfold enterB at hen
  split at hen
  · rename_i fn hfn
    simp only [Bool.and_eq_true, bne_iff_ne, ne_eq] at hen
    obtain ⟨hname, hbody⟩ := hen
    refine ⟨fs ++ (args.map A.eval).toArray ++ cs, ?_, ?_⟩
    · have hb : ¬ fn.body = none := by intro e; rw [e] at hbody; cases hbody
      simp [execOp, resolve, hv, Deferred.ofValue, invoke, callFunc, hfn, hname, hb]
    · simp only [Array.toList_append]
      exact (h1.append (reps_map rf args)).append h2
  · cases hen
theorem o_call {fid : FuncId} {l1 l2 : List AV} {args : List Operand} {ts : Array TypeId} {l : List AV} (hx : ev f x = .fn (.func fid) l1 l2) (hen : enterB P fid = true) (hl : l1 ++ args.map (ev f) ++ l2 = l)
    (h : ACalls P w0 fid l es fun r es' => K (upd f d r) es') (hd : Nat.blt d N = true := by rfl) : AOp P w0 N ⟨some d, .call { callee := .value x, args := args.toArray, argTypes := ts }, ty, pos, aft, g⟩ f es K := by
  intro c A next Q ok rf hn
  obtain ⟨vs, hrun, hreps⟩ := call_run (d := d) (ty := ty) (pos := pos) (aft := aft) (g := g) (args := args) (ts := ts) rf hx hen
  simp only [Oper.wp, hrun, Oper.upon]
  refine (h c vs ok (hl ▸ hreps)).mono fun e w' => ?_
  rintro ⟨v, c', es', r, rfl, rfl, x, ok', rep, k⟩
  exact hn c' es' _ _ x ok' ((rf.ext x).put (d := some d) hd rep) k
end
end Go.Proofs.YtfdgbghlanbddaaDoor.Av
