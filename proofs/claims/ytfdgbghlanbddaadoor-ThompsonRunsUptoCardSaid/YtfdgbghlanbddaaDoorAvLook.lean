import Derived.Test.YtfdgbghlanbddaaDoorAvMake
import Derived.Laws.StructEq
set_option linter.unusedVariables false
set_option linter.unusedSimpArgs false
namespace Go.Proofs.YtfdgbghlanbddaaDoor.Av
open Go.RowKit
section
variable {P : Program} {w0 : World} {N : Nat} {f : Frame} {es : List Ent} {K : Frame → List Ent → Prop}
variable {d : Nat} {ty : TypeId} {pos : String} {aft : Array Edge} {g : Option (Nat × Bool)} {x y z : Operand} {a : AV}

/-! ### numbers, bools, strings -/
theorem ev_int {c : Core} {A : Act} (rf : RepF N c es f A) {k : IntKind} {n : Int} (hx : ev f x = .int k n) : A.eval x = .int k n := by
  have h := rep_ev rf x
  rw [hx] at h
  simpa only [Rep] using h
theorem ev_bool {c : Core} {A : Act} (rf : RepF N c es f A) {b : Bool} (hx : ev f x = .bool b) : A.eval x = .bool b := by
  have h := rep_ev rf x
  rw [hx] at h
  simpa only [Rep] using h
theorem ev_str {c : Core} {A : Act} (rf : RepF N c es f A) {b : ByteArray} (hx : ev f x = .str b) : A.eval x = .string b := by
  have h := rep_ev rf x
  rw [hx] at h
  simpa only [Rep] using h
def cmpI : BinOp → Int → Int → Option Bool
  | .eql, a, b => some (decide (a = b))
  | .neq, a, b => some (!decide (a = b))
  | .lss, a, b => some (decide (a < b))
  | .leq, a, b => some (decide (a ≤ b))
  | .gtr, a, b => some (decide (a > b))
  | .geq, a, b => some (decide (a ≥ b))
  | _, _, _ => none
theorem run_eqGuard_int {op : BinOp} {t : TypeId} {k k' : IntKind} {m n : Int} {w : World} : (eqGuard op t x y (.int k m) (.int k' n)).run P w = .ok () w := by
  unfold eqGuard
  cases op <;> simp
theorem run_eqGuard_bool {op : BinOp} {t : TypeId} {m n : Bool} {w : World} : (eqGuard op t x y (.bool m) (.bool n)).run P w = .ok () w := by
  unfold eqGuard
  cases op <;> simp
theorem run_eqGuard_str {op : BinOp} {t : TypeId} {m n : ByteArray} {w : World} : (eqGuard op t x y (.string m) (.string n)).run P w = .ok () w := by
  unfold eqGuard
  cases op <;> simp
theorem o_cmp {op : BinOp} {t u : TypeId} {k : IntKind} {m n : Int} {b : Bool} (hx : ev f x = .int k m) (hy : ev f y = .int k n) (hb : cmpI op m n = some b) (kk : K (upd f d (.bool b)) es) (hd : Nat.blt d N = true := by rfl) : AOp P w0 N ⟨some d, .binOp op t x y u, ty, pos, aft, g⟩ f es K := by
  refine op_look hd (fun c A ok rf => ⟨.bool b, ?_, by simp only [Rep]⟩) kk
  have h1 := ev_int rf hx
  have h2 := ev_int rf hy
  simp only [execOp, h1, h2, Sem.run_bind, run_eqGuard_int, Result.andThen_ok]
  cases op <;> simp only [cmpI] at hb <;> first | (cases hb; done) | (injection hb with hb; subst hb; simp [binOp, Op.intCmp]; done) | (injection hb with hb; subst hb; simp only [binOp, Op.intCmp, ne_eq, not_true_eq_false, if_false, Sem.run_pure, Result.andThen_ok]; rfl)
def arithI : BinOp → IntKind → Int → Int → Option Int
  | .add, k, a, b => some (k.wrap (a + b))
  | .sub, k, a, b => some (k.wrap (a - b))
  | .mul, k, a, b => some (k.wrap (a * b))
  | .quo, k, a, b => if b = 0 then none else some (k.wrap (a.tdiv b))
  | .rem, k, a, b => if b = 0 then none else some (a.tmod b)
  | .and, k, a, b => some (k.wrap (BitVec.ofInt k.bits a &&& BitVec.ofInt k.bits b).toNat)
  | .or, k, a, b => some (k.wrap (BitVec.ofInt k.bits a ||| BitVec.ofInt k.bits b).toNat)
  | .xor, k, a, b => some (k.wrap (BitVec.ofInt k.bits a ^^^ BitVec.ofInt k.bits b).toNat)
  | _, _, _, _ => none
theorem o_arith {op : BinOp} {t u : TypeId} {k : IntKind} {m n r : Int} (hx : ev f x = .int k m) (hy : ev f y = .int k n) (hb : arithI op k m n = some r) (kk : K (upd f d (.int k r)) es) (hd : Nat.blt d N = true := by rfl) : AOp P w0 N ⟨some d, .binOp op t x y u, ty, pos, aft, g⟩ f es K := by
  refine op_look hd (fun c A ok rf => ⟨.int k r, ?_, by simp only [Rep]⟩) kk
  have h1 := ev_int rf hx
  have h2 := ev_int rf hy
  simp only [execOp, h1, h2, Sem.run_bind, run_eqGuard_int, Result.andThen_ok]
  cases op <;> simp only [arithI] at hb <;> first
    | (cases hb; done)
    | (injection hb with hb; subst hb; simp [binOp, Op.intArith, Op.intBits])
    | (split at hb
       · cases hb
       · injection hb with hb; subst hb; rename_i hz; simp [binOp, Op.intDiv, hz])
theorem o_shl {t u : TypeId} {k k' : IntKind} {m n r : Int} (hx : ev f x = .int k m) (hy : ev f y = .int k' n) (hn : 0 ≤ n) (hb : k.wrap (m * 2 ^ (min n.toNat k.bits)) = r) (kk : K (upd f d (.int k r)) es) (hd : Nat.blt d N = true := by rfl) : AOp P w0 N ⟨some d, .binOp .shl t x y u, ty, pos, aft, g⟩ f es K := by
  refine op_look hd (fun c A ok rf => ⟨.int k r, ?_, by simp only [Rep]⟩) kk
  have h1 := ev_int rf hx
  have h2 := ev_int rf hy
  subst hb
  simp only [execOp, h1, h2, Sem.run_bind, run_eqGuard_int, Result.andThen_ok]
  simp [binOp, Op.shift, Int.not_lt.2 hn]
theorem o_shr {t u : TypeId} {k k' : IntKind} {m n r : Int} (hx : ev f x = .int k m) (hy : ev f y = .int k' n) (hn : 0 ≤ n) (hb : m.fdiv (2 ^ (min n.toNat k.bits)) = r) (kk : K (upd f d (.int k r)) es) (hd : Nat.blt d N = true := by rfl) : AOp P w0 N ⟨some d, .binOp .shr t x y u, ty, pos, aft, g⟩ f es K := by
  refine op_look hd (fun c A ok rf => ⟨.int k r, ?_, by simp only [Rep]⟩) kk
  have h1 := ev_int rf hx
  have h2 := ev_int rf hy
  subst hb
  simp only [execOp, h1, h2, Sem.run_bind, run_eqGuard_int, Result.andThen_ok]
  simp [binOp, Op.shift, Int.not_lt.2 hn]
theorem o_eqb {t u : TypeId} {m n b : Bool} (ht : P.underlying t = some .bool) (hx : ev f x = .bool m) (hy : ev f y = .bool n) (hb : (m == n) = b) (kk : K (upd f d (.bool b)) es) (hd : Nat.blt d N = true := by rfl) : AOp P w0 N ⟨some d, .binOp .eql t x y u, ty, pos, aft, g⟩ f es K := by
  refine op_look hd (fun c A ok rf => ⟨.bool b, ?_, by simp only [Rep]⟩) kk
  have h1 := ev_bool rf hx
  have h2 := ev_bool rf hy
  subst hb
  simp only [execOp, h1, h2, Sem.run_bind, run_eqGuard_bool, Result.andThen_ok]
  have h3 := run_equalIn_bool' (P := P) c.w 9999 t m n ht
  rw [show binOp .eql t (.bool m) (.bool n) = (do pure (.bool (← Op.equalIn (9999 + 1) t (.bool m) (.bool n)))) from rfl, Sem.run_bind, h3]
  rfl
theorem o_neb {t u : TypeId} {m n b : Bool} (ht : P.underlying t = some .bool) (hx : ev f x = .bool m) (hy : ev f y = .bool n) (hb : (m != n) = b) (kk : K (upd f d (.bool b)) es) (hd : Nat.blt d N = true := by rfl) : AOp P w0 N ⟨some d, .binOp .neq t x y u, ty, pos, aft, g⟩ f es K := by
  refine op_look hd (fun c A ok rf => ⟨.bool b, ?_, by simp only [Rep]⟩) kk
  have h1 := ev_bool rf hx
  have h2 := ev_bool rf hy
  subst hb
  simp only [execOp, h1, h2, Sem.run_bind, run_eqGuard_bool, Result.andThen_ok]
  have h3 := run_equalIn_bool' (P := P) c.w 9999 t m n ht
  rw [show binOp .neq t (.bool m) (.bool n) = (do pure (.bool (!(← Op.equalIn (9999 + 1) t (.bool m) (.bool n))))) from rfl, Sem.run_bind, h3]
  rfl
theorem o_not {t : TypeId} {m b : Bool} (hx : ev f x = .bool m) (hb : (!m) = b) (kk : K (upd f d (.bool b)) es) (hd : Nat.blt d N = true := by rfl) : AOp P w0 N ⟨some d, .unOp .not t x, ty, pos, aft, g⟩ f es K := by
  refine op_look hd (fun c A ok rf => ⟨.bool b, ?_, by simp only [Rep]⟩) kk
  have h1 := ev_bool rf hx
  subst hb
  simp [execOp, h1, Op.unary]
theorem o_neg {t : TypeId} {k : IntKind} {m r : Int} (hx : ev f x = .int k m) (hb : k.wrap (0 - m) = r) (kk : K (upd f d (.int k r)) es) (hd : Nat.blt d N = true := by rfl) : AOp P w0 N ⟨some d, .unOp .neg t x, ty, pos, aft, g⟩ f es K := by
  refine op_look hd (fun c A ok rf => ⟨.int k r, ?_, by simp only [Rep]⟩) kk
  have h1 := ev_int rf hx
  subst hb
  simp [execOp, h1, Op.unary, Op.intArith]
theorem o_xor1 {t : TypeId} {k : IntKind} {m r : Int} (hx : ev f x = .int k m) (hb : k.wrap (BitVec.ofInt k.bits (if k.signed then -1 else k.max) ^^^ BitVec.ofInt k.bits m).toNat = r) (kk : K (upd f d (.int k r)) es) (hd : Nat.blt d N = true := by rfl) : AOp P w0 N ⟨some d, .unOp .xor t x, ty, pos, aft, g⟩ f es K := by
  refine op_look hd (fun c A ok rf => ⟨.int k r, ?_, by simp only [Rep]⟩) kk
  have h1 := ev_int rf hx
  subst hb
  simp [execOp, h1, Op.unary, Op.intBits]
/-- The kind of a type of whole numbers. -/
def intB (P : Program) (t : TypeId) (k : IntKind) : Bool :=
  match P.underlying t with
  | some (.int k') => k' == k
  | _ => false
theorem o_conv {s t : TypeId} {k k' : IntKind} {m r : Int} (hx : ev f x = .int k m) (hs : (P.underlying s).isSome = true) (ht : intB P t k' = true) (hb : k'.wrap m = r) (kk : K (upd f d (.int k' r)) es) (hd : Nat.blt d N = true := by rfl) : AOp P w0 N ⟨some d, .convert s t x, ty, pos, aft, g⟩ f es K := by
  refine op_look hd (fun c A ok rf => ⟨.int k' r, ?_, by simp only [Rep]⟩) kk
  have h1 := ev_int rf hx
  subst hb
  unfold intB at ht
  split at ht
  · rename_i k2 hu
    obtain rfl : k2 = k' := by simpa using ht
    obtain ⟨ds, hs⟩ := Option.isSome_iff_exists.1 hs
    simp only [execOp, h1, convert, Sem.run_bind, run_underlying hs, run_underlying hu, Result.andThen_ok]
    cases ds <;> simp [Conv.intToInt]
  · cases ht

/-! ### places -/
theorem o_nilCheck_ptr {id s i off : Nat} (hx : ev f x = .ptr id s i off) (kk : K (upd f d (.ptr id s i off)) es) (hd : Nat.blt d N = true := by rfl) : AOp P w0 N ⟨some d, .nilCheck x, ty, pos, aft, g⟩ f es K := by
  refine op_look hd (fun c A ok rf => ?_) kk
  have h := rep_ev rf x
  rw [hx] at h
  have h' := h
  simp only [Rep] at h'
  obtain ⟨_, _, ⟨p, hp⟩, _⟩ := h'
  rw [hp] at h
  exact ⟨_, by simp [execOp, hp], h⟩
theorem o_nilCheck_fptr {sz i off : Nat} {rows : List (List AV)} (hx : ev f x = .fptr sz rows i off) (kk : K (upd f d (.fptr sz rows i off)) es) (hd : Nat.blt d N = true := by rfl) : AOp P w0 N ⟨some d, .nilCheck x, ty, pos, aft, g⟩ f es K := by
  refine op_look hd (fun c A ok rf => ?_) kk
  have h := rep_ev rf x
  rw [hx] at h
  have h' := h
  simp only [Rep] at h'
  obtain ⟨_, _, _, hp, _⟩ := h'
  rw [hp] at h
  exact ⟨_, by simp [execOp, hp], h⟩
theorem o_nilCheck_fn {fn : FuncId} {l1 l2 : List AV} (hx : ev f x = .fn (.func fn) l1 l2) (kk : K (upd f d (.fn (.func fn) l1 l2)) es) (hd : Nat.blt d N = true := by rfl) : AOp P w0 N ⟨some d, .nilCheck x, ty, pos, aft, g⟩ f es K := by
  refine op_look hd (fun c A ok rf => ?_) kk
  have h := rep_ev rf x
  rw [hx] at h
  have h' := h
  simp only [Rep] at h'
  obtain ⟨_, _, hp, _⟩ := h'
  rw [hp] at h
  exact ⟨_, by simp [execOp, hp], h⟩
theorem add_eq (b o n : Nat) : (⟨b, o, none⟩ : Addr).add n = ⟨b, o + n, none⟩ := by unfold Addr.add; split <;> simp_all
theorem run_fieldAt {t : TypeId} {fl off : Nat} (hf : fieldB P t fl off = true) (p : Addr) (w : World) : (Instr.fieldAt t (.pointer (some p)) fl).run P w = .ok (.pointer (some (p.add off))) w := by
  unfold fieldB at hf
  split at hf
  · rename_i fs hu
    split at hf
    · rename_i fd hfd
      simp only [Bool.and_eq_true, beq_iff_eq] at hf
      obtain ⟨rfl, hf⟩ := hf
      split at hf
      · rename_i i hi
        have hz : i.size ≠ 0 := by simpa using hf
        simp only [Instr.fieldAt, Sem.run_bind, run_underlying hu, Result.andThen_ok, hfd, Instr.sureAddr, Sem.run_pure, fieldPlace, sizeOf, typeInfo, run_program, hi, hz, if_false, Sem.run_ite]
      · cases hf
    · cases hf
  · cases hf
/-- A place further on. -/
theorem rep_on {c : Core} {m : Option (List Ent)} {id s i o k : Nat} {p : Addr} (h : Rep c m (.ptr id s i o) (.pointer (some p))) : Rep c m (.ptr id s i (o + k)) (.pointer (some (p.add k))) := by
  simp only [Rep] at h ⊢
  obtain ⟨es', rfl, _, h2, h3⟩ := h
  refine ⟨es', rfl, ⟨_, rfl⟩, h2, fun e sz rows he => ?_⟩
  obtain ⟨gb, cap, hp, hv⟩ := h3 e sz rows he
  injection hv with hv
  injection hv with hv
  subst hv
  exact ⟨gb, cap, hp, by rw [add_eq, Nat.add_assoc]⟩
theorem rep_fon {c : Core} {m : Option (List Ent)} {sz i o k : Nat} {rows : List (List AV)} {p : Addr} (h : Rep c m (.fptr sz rows i o) (.pointer (some p))) : Rep c m (.fptr sz rows i (o + k)) (.pointer (some (p.add k))) := by
  simp only [Rep] at h ⊢
  obtain ⟨b, o', vs, hv, h2⟩ := h
  injection hv with hv
  injection hv with hv
  subst hv
  exact ⟨b, o', vs, by rw [add_eq, ← Nat.add_assoc, ← Nat.add_assoc, ← Nat.add_assoc], h2⟩
theorem shape_ptr {c : Core} {m : Option (List Ent)} {id s i o : Nat} {v : Value} (h : Rep c m (.ptr id s i o) v) : ∃ p, v = .pointer (some p) := by
  simp only [Rep] at h
  obtain ⟨_, _, hp, _⟩ := h
  exact hp
theorem shape_fptr {c : Core} {m : Option (List Ent)} {sz i o : Nat} {rows : List (List AV)} {v : Value} (h : Rep c m (.fptr sz rows i o) v) : ∃ p, v = .pointer (some p) := by
  simp only [Rep] at h
  obtain ⟨_, _, _, hp, _⟩ := h
  exact ⟨_, hp⟩
theorem o_fieldAddr_ptr {t : TypeId} {fl off id s i o : Nat} (hx : ev f x = .ptr id s i o) (hf : fieldB P t fl off = true) (ho : .ptr id s i (o + off) = a) (kk : K (upd f d a) es) (hd : Nat.blt d N = true := by rfl) : AOp P w0 N ⟨some d, .fieldAddr t x fl, ty, pos, aft, g⟩ f es K := by
  refine op_look hd (fun c A ok rf => ?_) kk
  have h := rep_ev rf x
  rw [hx] at h
  obtain ⟨p, hp⟩ := shape_ptr h
  rw [hp] at h
  exact ⟨_, by simp only [execOp, hp, Sem.run_bind, run_fieldAt hf, Result.andThen_ok, Sem.run_pure], ho ▸ rep_on h⟩
theorem o_fieldAddr_fptr {t : TypeId} {fl off sz i o : Nat} {rows : List (List AV)} (hx : ev f x = .fptr sz rows i o) (hf : fieldB P t fl off = true) (ho : .fptr sz rows i (o + off) = a) (kk : K (upd f d a) es) (hd : Nat.blt d N = true := by rfl) : AOp P w0 N ⟨some d, .fieldAddr t x fl, ty, pos, aft, g⟩ f es K := by
  refine op_look hd (fun c A ok rf => ?_) kk
  have h := rep_ev rf x
  rw [hx] at h
  obtain ⟨p, hp⟩ := shape_fptr h
  rw [hp] at h
  exact ⟨_, by simp only [execOp, hp, Sem.run_bind, run_fieldAt hf, Result.andThen_ok, Sem.run_pure], ho ▸ rep_fon h⟩
/-- The place of an array's element. -/
theorem o_indexAddr_arr {t : TypeId} {n e sz id s i o : Nat} {k : IntKind} {ix : Int} (hx : ev f x = .ptr id s i o) (hy : ev f y = .int k ix) (ht : arrB P t n e sz = true) (h0 : 0 ≤ ix) (h1 : ix < n) (ho : .ptr id s i (o + ix.toNat * sz) = a) (kk : K (upd f d a) es) (hd : Nat.blt d N = true := by rfl) : AOp P w0 N ⟨some d, .indexAddr t x y, ty, pos, aft, g⟩ f es K := by
  refine op_look hd (fun c A ok rf => ?_) kk
  have h := rep_ev rf x
  rw [hx] at h
  obtain ⟨p, hp⟩ := shape_ptr h
  rw [hp] at h
  have hiy := ev_int rf hy
  unfold arrB at ht
  split at ht
  · rename_i n' e' i' hu hi
    simp only [Bool.and_eq_true, beq_iff_eq] at ht
    obtain ⟨⟨rfl, rfl⟩, rfl⟩ := ht
    refine ⟨_, ?_, ho ▸ rep_on h⟩
    simp only [execOp, hp, hiy, Instr.indexAt, asIntOf, Sem.run_bind, Sem.run_pure, Result.andThen_ok, run_underlying hu, Instr.sureAddr, Sem.run_ite, h0, h1, and_self, if_true, sizeOf, typeInfo, run_program, hi]
  · cases ht
/-- The place of an element of a list. -/
theorem o_indexAddr_list {t : TypeId} {e sz : Nat} {rows : List (List AV)} {k : IntKind} {ix : Int} (hx : ev f x = .list sz rows) (hy : ev f y = .int k ix) (ht : sliceB P t e sz = true) (hz : sz ≠ 0) (h0 : 0 ≤ ix) (h1 : ix < rows.length) (ho : .fptr sz rows ix.toNat 0 = a) (kk : K (upd f d a) es) (hd : Nat.blt d N = true := by rfl) : AOp P w0 N ⟨some d, .indexAddr t x y, ty, pos, aft, g⟩ f es K := by
  refine op_look hd (fun c A ok rf => ?_) kk
  have h := rep_ev rf x
  rw [hx] at h
  have hiy := ev_int rf hy
  simp only [Rep] at h
  obtain ⟨B, cap, vs, hv, hcap, hm, hr, hc⟩ := h
  have hl := hr.length
  have hne : vs ≠ [] := by
    intro e
    subst e
    simp only [List.length_nil] at hl
    rcases Nat.mul_eq_zero.1 hl.symm with h2 | h2
    · omega
    · exact hz h2
  obtain ⟨b, o, rfl, hb, hcell⟩ := hc hne
  unfold sliceB at ht
  split at ht
  · rename_i e' i' hu hi
    simp only [Bool.and_eq_true, beq_iff_eq] at ht
    obtain ⟨rfl, rfl⟩ := ht
    refine ⟨.pointer (some ⟨b, o + (ix.toNat * i'.size), none⟩), ?_, ?_⟩
    · simp only [execOp, hv, hiy, Instr.indexAt, asIntOf, Sem.run_bind, Sem.run_pure, Result.andThen_ok, run_underlying hu, Sem.run_ite, h0, h1, and_self, if_true, sizeOf, typeInfo, run_program, hi, add_eq]
    · rw [← ho]
      simp only [Rep]
      exact ⟨b, o, vs, by simp, hr, hb, hcell⟩
  · cases ht
/-- The place of an element of a row of one's own. -/
theorem o_indexAddr_own {t : TypeId} {e sz id s : Nat} {rows : List (List AV)} {C : Ent → List Ent} {k : IntKind} {ix : Int} (hx : ev f x = .own id s) (hy : ev f y = .int k ix) (he : Loc es id (.row s e sz rows) C) (ht : sliceB P t e sz = true) (h0 : 0 ≤ ix) (h1 : ix < rows.length) (ho : .ptr id s ix.toNat 0 = a) (kk : K (upd f d a) es) (hd : Nat.blt d N = true := by rfl) : AOp P w0 N ⟨some d, .indexAddr t x y, ty, pos, aft, g⟩ f es K := by
  refine op_look hd (fun c A ok rf => ?_) kk
  have h := rep_ev rf x
  rw [hx] at h
  have hiy := ev_int rf hy
  have hv := rep_own h he.1
  have hlt := (ok.ent id _ he.1).1
  obtain ⟨_, _, _, xs, hr, hown⟩ := ok.ent id _ he.1
  cases hp : c.phi id with
  | none =>
    rw [hp] at hown
    rcases hown.2 with ⟨_, h6⟩ | ⟨g, cap, cur, h6, _⟩
    · omega
    · cases h6
  | some q =>
    obtain ⟨gb, cap⟩ := q
    rw [hp] at hv
    unfold sliceB at ht
    split at ht
    · rename_i e' i' hu hi
      simp only [Bool.and_eq_true, beq_iff_eq] at ht
      obtain ⟨rfl, rfl⟩ := ht
      refine ⟨.pointer (some ⟨gb, 0 + (ix.toNat * i'.size), none⟩), ?_, ?_⟩
      · simp only [execOp, hv, ownVal, hiy, Instr.indexAt, asIntOf, Sem.run_bind, Sem.run_pure, Result.andThen_ok, run_underlying hu, Sem.run_ite, h0, h1, and_self, if_true, sizeOf, typeInfo, run_program, hi, add_eq]
      · rw [← ho]
        simp only [Rep]
        refine ⟨es, rfl, ⟨_, rfl⟩, hlt, fun e2 sz2 rows2 h2 => ?_⟩
        rw [he.1] at h2
        injection h2 with h2
        injection h2 with _ _ h3 _
        subst h3
        exact ⟨gb, cap, hp, by simp⟩
    · cases ht
end
end Go.Proofs.YtfdgbghlanbddaaDoor.Av
