import Derived.Test.YtfdgbghlanbddaaDoorAvRead
set_option linter.unusedVariables false
set_option linter.unusedSimpArgs false
set_option maxRecDepth 8000
namespace Go.Proofs.YtfdgbghlanbddaaDoor.Av
open Go.RowKit Go.Proofs Go.Proofs.YtfdgbghlanbddaaDoor Go.Deep
theorem ce3 : Tryd.prog.cellsOf 3 = 1 := by kernel_rfl
theorem ce5 : Tryd.prog.cellsOf 5 = 1 := by kernel_rfl
theorem ce22 : Tryd.prog.cellsOf 22 = 1 := by kernel_rfl
theorem ce24 : Tryd.prog.cellsOf 24 = 1 := by kernel_rfl
theorem ce26 : Tryd.prog.cellsOf 26 = 4 := by kernel_rfl
theorem ce27 : Tryd.prog.cellsOf 27 = 1 := by kernel_rfl
theorem ce29 : Tryd.prog.cellsOf 29 = 6 := by kernel_rfl
theorem ce34 : Tryd.prog.cellsOf 34 = 1 := by kernel_rfl
theorem ce36 : Tryd.prog.cellsOf 36 = 3 := by kernel_rfl
theorem ce48 : Tryd.prog.cellsOf 48 = 1 := by kernel_rfl
theorem ce75 : Tryd.prog.cellsOf 75 = 6 := by kernel_rfl
structure W4 where
  (w0 w1 w2 w3 : Int)
def W4.row (s : W4) : List AV := [.int .u64 s.w0, .int .u64 s.w1, .int .u64 s.w2, .int .u64 s.w3]
def W4.ok (s : W4) : Prop := 0 ≤ s.w0 ∧ 0 ≤ s.w1 ∧ 0 ≤ s.w2 ∧ 0 ≤ s.w3 ∧ s.w0 < 18446744073709551616 ∧ s.w1 < 18446744073709551616 ∧ s.w2 < 18446744073709551616 ∧ s.w3 < 18446744073709551616
def St.ok (s : St) : Prop := 0 ≤ s.w0 ∧ 0 ≤ s.w1 ∧ 0 ≤ s.w2 ∧ 0 ≤ s.w3
def Nf.ok (n : Nf) : Prop := ∀ s ∈ n.st, s.ok
instance : Inhabited St := ⟨⟨0, 0, 0, 0, 0, []⟩⟩
theorem wf_u64 {n : Int} (h : (Lit.int .u64 n).wf = true) : 0 ≤ n ∧ n < 18446744073709551616 := by
  simp only [Lit.wf, Bool.and_eq_true, decide_eq_true_eq] at h
  have h1 : IntKind.u64.min = 0 := by decide
  have h2 : IntKind.u64.max = 18446744073709551615 := by decide
  omega
theorem wf_u8 {n : Int} (h : (Lit.int .u8 n).wf = true) : 0 ≤ n ∧ n < 256 := by
  simp only [Lit.wf, Bool.and_eq_true, decide_eq_true_eq] at h
  have h1 : IntKind.u8.min = 0 := by decide
  have h2 : IntKind.u8.max = 255 := by decide
  omega
variable {W : World}
theorem rd_i64 : RD Tryd.prog W 3 1 (fun n : Int => [AV.int .i64 n]) (fun n => (Lit.int .i64 n).wf = true) := rd_int Tryd.underlying3
theorem rd_u8 : RD Tryd.prog W 5 1 (fun n : Int => [AV.int .u8 n]) (fun n => (Lit.int .u8 n).wf = true) := rd_int Tryd.underlying5
theorem rd_u64 : RD Tryd.prog W 24 1 (fun n : Int => [AV.int .u64 n]) (fun n => (Lit.int .u64 n).wf = true) := rd_int Tryd.underlying24
theorem rd_ints : RD Tryd.prog W 48 1 (fun l : List Int => [ints l]) (fun l => ∀ n ∈ l, (Lit.int .i64 n).wf = true) := rd_slice Tryd.underlying48 ce3 (by decide) rd_i64
theorem rd_bytes : RD Tryd.prog W 22 1 (fun l : List Int => [bytesAV l]) (fun l => ∀ n ∈ l, (Lit.int .u8 n).wf = true) := rd_slice Tryd.underlying22 ce5 (by decide) rd_u8
theorem rd_set : RD Tryd.prog W 26 4 W4.row W4.ok := by
  intro H enc n cs x h hb
  obtain ⟨xs, m, _, rfl, hl, hlen, hi⟩ := DataW.trod_array Tryd.underlying26 h
  rw [ce26] at hl
  rw [ce24] at hi
  have one : ∀ i (hi4 : i < 4), ∃ v : Int, (cs.drop i).take 1 = [.int .u64 v] ∧ 0 ≤ v ∧ v < 18446744073709551616 := by
    intro i hi4
    have h1 := hi i hi4
    rw [List.getElem?_eq_getElem (by omega), Nat.mul_one] at h1
    obtain ⟨v, h2, _, h3⟩ := DataW.trod_int Tryd.underlying24 h1
    exact ⟨v, h2, wf_u64 h3⟩
  obtain ⟨v0, e0, a0, b0⟩ := one 0 (by omega)
  obtain ⟨v1, e1, a1, b1⟩ := one 1 (by omega)
  obtain ⟨v2, e2, a2, b2⟩ := one 2 (by omega)
  obtain ⟨v3, e3, a3, b3⟩ := one 3 (by omega)
  match cs, hl with
  | [c0, c1, c2, c3], _ =>
    simp at e0 e1 e2 e3
    subst e0; subst e1; subst e2; subst e3
    refine ⟨⟨v0, v1, v2, v3⟩, ⟨a0, a1, a2, a3, b0, b1, b2, b3⟩, ?_, rfl, by simp [Value.oneCell']⟩
    simp only [W4.row, Reps, Rep]
    exact ⟨_, _, rfl, rfl, _, _, rfl, rfl, _, _, rfl, rfl, _, _, rfl, rfl, rfl⟩
theorem rd_st : RD Tryd.prog W 75 6 St.row St.ok := by
  intro H enc n cs x h hb
  obtain ⟨y0, y1, y2, m, rfl, hl, h0, h1, h2⟩ := trod_struct3 Tryd.underlying75 h
  rw [ce75] at hl
  simp only [ce26, ce3, ce48] at h0 h1 h2
  simp only [Rows.uptoBulk, Rows.uptoBulkAll] at hb
  obtain ⟨s, q0, r0, l0, o0⟩ := rd_set (W := W) H enc _ _ _ h0 (by omega)
  obtain ⟨k, q1, r1, l1, o1⟩ := rd_i64 (W := W) H enc _ _ _ h1 (by omega)
  obtain ⟨f, q2, r2, l2, o2⟩ := rd_ints (W := W) H enc _ _ _ h2 (by omega)
  refine ⟨⟨s.w0, s.w1, s.w2, s.w3, k, f⟩, ⟨q0.1, q0.2.1, q0.2.2.1, q0.2.2.2.1⟩, ?_, rfl, ?_⟩
  · have := (r0.append r1).append r2
    have e : (cs.drop 0).take 4 ++ (cs.drop 4).take 1 ++ (cs.drop 5).take 1 = cs := by
      match cs, hl with
      | [c0, c1, c2, c3, c4, c5], _ => rfl
    rw [e] at this
    exact this
  · match cs, hl with
    | [c0, c1, c2, c3, c4, c5], _ =>
      simp at o0 o1 o2
      simp [o0, o1, o2]
theorem rd_nf : RD Tryd.prog W 36 3 Nf.cells Nf.ok := by
  intro H enc n cs x h hb
  obtain ⟨y0, y1, y2, m, rfl, hl, h0, h1, h2⟩ := trod_struct3 Tryd.underlying36 h
  rw [ce36] at hl
  simp only [ce34, ce3] at h0 h1 h2
  simp only [Rows.uptoBulk, Rows.uptoBulkAll] at hb
  obtain ⟨s, q0, r0, l0, o0⟩ := rd_slice (W := W) Tryd.underlying34 ce75 (by decide) rd_st H enc _ _ _ h0 (by omega)
  obtain ⟨k, q1, r1, l1, o1⟩ := rd_i64 (W := W) H enc _ _ _ h1 (by omega)
  obtain ⟨f, q2, r2, l2, o2⟩ := rd_i64 (W := W) H enc _ _ _ h2 (by omega)
  refine ⟨⟨s, k, f⟩, q0, ?_, rfl, ?_⟩
  · have := (r0.append r1).append r2
    have e : (cs.drop 0).take 1 ++ (cs.drop 1).take 1 ++ (cs.drop 2).take 1 = cs := by
      match cs, hl with
      | [c0, c1, c2], _ => rfl
    rw [e] at this
    exact this
  · match cs, hl with
    | [c0, c1, c2], _ =>
      simp at o0 o1 o2
      simp [o0, o1, o2]

/-! ### arguments -/
/-- A value of a type of one cell. -/
theorem arg_one {α : Type} {t : TypeId} {en : α → AV} {Q : α → Prop} (hr : RD Tryd.prog W t 1 (fun a => [en a]) Q) {H : Type} {enc : TypeId × Value → H} {v : Value} {d : DataW H} {ps : List MemPlace} (hv : ∀ cs, v ≠ .agg cs)
    (h : DataW.Trod enc Tryd.prog W 0 (fun _ => true) true t v d ps) (hb : Rows.uptoBulk d ≤ 1048576) : ∃ a : α, Q a ∧ Rep (start W) none (en a) v := by
  obtain ⟨n, h⟩ := h
  obtain ⟨a, q, r, _, _⟩ := hr H enc n _ _ h hb
  refine ⟨a, q, ?_⟩
  simp only [Reps] at r
  obtain ⟨v', vs', e, r, rfl⟩ := r
  have : v.cells.toList = [v] := by
    cases v <;> first | rfl | exact absurd rfl (hv _)
  rw [this] at e
  injection e with e _
  subst e
  exact r
/-- A struct. -/
theorem arg_agg {α : Type} {t : TypeId} {sz : Nat} {en : α → List AV} {Q : α → Prop} (hr : RD Tryd.prog W t sz en Q) {H : Type} {enc : TypeId × Value → H} {v : Value} {d : DataW H} {ps : List MemPlace} (hv : ∃ cs, v = .agg cs)
    (h : DataW.Trod enc Tryd.prog W 0 (fun _ => true) true t v d ps) (hb : Rows.uptoBulk d ≤ 1048576) : ∃ a : α, Q a ∧ Rep (start W) none (.agg (en a)) v := by
  obtain ⟨n, h⟩ := h
  obtain ⟨cs, rfl⟩ := hv
  obtain ⟨a, q, r, _, o⟩ := hr H enc n _ _ h hb
  refine ⟨a, q, ?_⟩
  simp only [Rep]
  exact ⟨cs, rfl, r, o⟩
end Go.Proofs.YtfdgbghlanbddaaDoor.Av
