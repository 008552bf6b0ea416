import Derived.Test.YtfdgbghlanbddaaDoorAvFacts
set_option linter.unusedVariables false
namespace Go.Proofs.YtfdgbghlanbddaaDoor.Av
open Go.RowKit
/-- The frame in which nothing is known. -/
def bot : Frame := fun _ => .any
theorem entry0 : entry [] = bot := by funext t; simp [entry, bot]
theorem entry1 (a : AV) : entry [a] = upd bot 0 a := by
  funext t; rcases t with _ | t <;> simp [entry, bot, upd]
theorem entry2 (a b : AV) : entry [a, b] = upd (upd bot 0 a) 1 b := by
  funext t; rcases t with _ | _ | t <;> simp [entry, bot, upd]
theorem entry3 (a b c : AV) : entry [a, b, c] = upd (upd (upd bot 0 a) 1 b) 2 c := by
  funext t; rcases t with _ | _ | _ | t <;> simp [entry, bot, upd]
theorem entry4 (a b c d : AV) : entry [a, b, c, d] = upd (upd (upd (upd bot 0 a) 1 b) 2 c) 3 d := by
  funext t; rcases t with _ | _ | _ | _ | t <;> simp [entry, bot, upd]
theorem upd_apply (f : Frame) (t u : Nat) (a : AV) : upd f t a u = if u = t then a else f u := rfl
theorem ev_tmp (f : Frame) (t : Nat) : ev f (.tmp t) = f t := rfl
theorem ev_const (f : Frame) (v : Value) : ev f (.const v) = ofConst v := rfl
theorem ev_func (f : Frame) (g : Nat) : ev f (.func g) = .fn (.func g) [] [] := rfl
theorem ofConst_int (k : IntKind) (n : Int) : ofConst (.int k n) = .int k n := rfl
theorem ofConst_bool (b : Bool) : ofConst (.bool b) = .bool b := rfl
theorem ofConst_str (b : ByteArray) : ofConst (.string b) = .str b := rfl
theorem ofConst_nil : ofConst (.slice none 0 0) = .nil := rfl
theorem upd_self (f : Frame) (t : Nat) (a : AV) (h : f t = a) : upd f t a = f := by
  funext u
  simp only [upd]
  split
  · rename_i e; rw [e, h]
  · rfl
theorem upd_upd (f : Frame) (t : Nat) (a b : AV) : upd (upd f t a) t b = upd f t b := by
  funext u; simp only [upd]; split <;> rfl
section
variable {P : Program} {w0 : World} {N : Nat} {es : List Ent}
theorem calls0 {fid : FuncId} {fn : Func} {cd : Code} {R : AV → List Ent → Prop} (hf : P.funcs[fid]? = some fn) (hb : fn.body = some cd) (hN : fn.ntmps = N)
    (h : AWp P w0 N cd bot es (kret P w0 N fn R)) : ACalls P w0 fid [] es R := calls_intro hf hb hN (Nat.zero_le _) (entry0 ▸ h)
theorem calls1 {fid : FuncId} {fn : Func} {cd : Code} {a : AV} {R : AV → List Ent → Prop} (hf : P.funcs[fid]? = some fn) (hb : fn.body = some cd) (hN : fn.ntmps = N) (hl : 1 ≤ N)
    (h : AWp P w0 N cd (upd bot 0 a) es (kret P w0 N fn R)) : ACalls P w0 fid [a] es R := calls_intro hf hb hN hl (entry1 a ▸ h)
theorem calls2 {fid : FuncId} {fn : Func} {cd : Code} {a b : AV} {R : AV → List Ent → Prop} (hf : P.funcs[fid]? = some fn) (hb : fn.body = some cd) (hN : fn.ntmps = N) (hl : 2 ≤ N)
    (h : AWp P w0 N cd (upd (upd bot 0 a) 1 b) es (kret P w0 N fn R)) : ACalls P w0 fid [a, b] es R := calls_intro hf hb hN hl (entry2 a b ▸ h)
theorem calls3 {fid : FuncId} {fn : Func} {cd : Code} {a b c : AV} {R : AV → List Ent → Prop} (hf : P.funcs[fid]? = some fn) (hb : fn.body = some cd) (hN : fn.ntmps = N) (hl : 3 ≤ N)
    (h : AWp P w0 N cd (upd (upd (upd bot 0 a) 1 b) 2 c) es (kret P w0 N fn R)) : ACalls P w0 fid [a, b, c] es R := calls_intro hf hb hN hl (entry3 a b c ▸ h)
theorem calls4 {fid : FuncId} {fn : Func} {cd : Code} {a b c d : AV} {R : AV → List Ent → Prop} (hf : P.funcs[fid]? = some fn) (hb : fn.body = some cd) (hN : fn.ntmps = N) (hl : 4 ≤ N)
    (h : AWp P w0 N cd (upd (upd (upd (upd bot 0 a) 1 b) 2 c) 3 d) es (kret P w0 N fn R)) : ACalls P w0 fid [a, b, c, d] es R := calls_intro hf hb hN hl (entry4 a b c d ▸ h)
theorem ret1 {fn : Func} {t : Nat} {f : Frame} {a : AV} {R : AV → List Ent → Prop} {es2 : List Ent} (hr : fn.results = #[.tmp t]) (ha : f t = a) (hs : Sub es2 es) (h : R a es2) : kret P w0 N fn R .ret f es :=
  ⟨a, es2, ha ▸ res_tmp hr, hs, h⟩
theorem ret2 {fn : Func} {t u : Nat} {f : Frame} {a b : AV} {R : AV → List Ent → Prop} {es2 : List Ent} (hr : fn.results = #[.tmp t, .tmp u]) (ha : f t = a) (hb : f u = b) (hs : Sub es2 es) (h : R (.tup [a, b]) es2) : kret P w0 N fn R .ret f es :=
  ⟨.tup [a, b], es2, ha ▸ hb ▸ res_tmp2 hr, hs, h⟩
end
theorem sub1 (a : Ent) (es : List Ent) : Sub es (a :: es) := Sub.tail a es
theorem sub2 (a b : Ent) (es : List Ent) : Sub es (a :: b :: es) := (Sub.tail b es).trans (Sub.tail a _)
theorem sub3 (a b c : Ent) (es : List Ent) : Sub es (a :: b :: c :: es) := (sub2 b c es).trans (Sub.tail a _)
theorem sub4 (a b c d : Ent) (es : List Ent) : Sub es (a :: b :: c :: d :: es) := (sub3 b c d es).trans (Sub.tail a _)
end Go.Proofs.YtfdgbghlanbddaaDoor.Av
