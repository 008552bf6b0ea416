import Derived.Test.YtfdgbghlanbddaaDoorAvHead3
import Derived.Test.YtfdgbghlanbddaaDoorAvG13
set_option linter.unusedVariables false
set_option linter.unusedSimpArgs false
set_option maxRecDepth 100000
namespace Go.Proofs.YtfdgbghlanbddaaDoor.lawThompsonRuns
open Go.Proofs.YtfdgbghlanbddaaDoor.Av Go.Proofs Go.Proofs.YtfdgbghlanbddaaDoor Go.ChangeShapes Go.WideShapes Go.ChangeAt Go.RowKit
theorem contract (H : Type) (enc : TypeId × Value → H) (W : World) (base : Nat) (args : Array Value) (ds gs : List (DataW H)) (before : List MemPlace)
    (hval : ∀ (j : Nat) t v, Tryd.f7.params[j]? = some t → args[j]? = some v → Value.okWide Tryd.prog W .any base t v)
    (hW : DataW.Whole enc Tryd.prog Tryd.f7.params.toList Rows.thompsonRunsSpec.vars false W args.toList ds gs before) (hk : Rows.uptoSmall H (ds ++ gs) = true) :
    Calls Tryd.prog 7 args W fun e W' => ∃ v, e = .returned v ∧ Rows.thompsonRunsSpec.post enc Tryd.prog Tryd.f7 false true false false W args v W' := by
  have hW' := hW
  obtain ⟨p, q, hA0, hV, rfl, hfz, hnd⟩ := hW
  have hA : DataW.TrodAll enc Tryd.prog W 0 (fun _ => true) true Tryd.f7.params.toList args.toList ds p := hA0
  rw [Tryd.params7] at hA hval
  obtain ⟨v0, vs0, d0, ds0, p0, q0, hargs, rfl, rfl, h0, r0⟩ := trodAll_cons hA
  obtain ⟨v1, vs1, d1, ds1, p1, q1, rfl, rfl, rfl, h1, r1⟩ := trodAll_cons r0
  obtain ⟨v2, vs2, d2, ds2, p2, q2, rfl, rfl, rfl, h2, r2⟩ := trodAll_cons r1
  obtain ⟨v3, vs3, d3, ds3, p3, q3, rfl, rfl, rfl, h3, r3⟩ := trodAll_cons r2
  obtain ⟨rfl, rfl, rfl⟩ := trodAll_nil r3
  obtain rfl : args = #[v0, v1, v2, v3] := by cases args; simp_all
  obtain ⟨rfl, rfl⟩ := trodVars_none hV
  clear hA0
  have hb := bulk_of hk
  simp only [List.append_nil, Rows.uptoBulkAll] at hb
  obtain ⟨x0, y0, z0⟩ := arg_agg rd_nf (okw_agg Tryd.underlying36 (hval 0 36 v0 rfl rfl)) h0 (by omega)
  obtain ⟨x1, y1, z1⟩ := arg_one rd_ints (okw_slice Tryd.underlying48 (hval 1 48 v1 rfl rfl)) h1 (by omega)
  obtain ⟨x2, y2, z2⟩ := arg_one rd_bytes (okw_slice Tryd.underlying22 (hval 2 22 v2 rfl rfl)) h2 (by omega)
  obtain ⟨x3, y3, z3⟩ := arg_one rd_u8 (okw_int Tryd.underlying5 (hval 3 5 v3 rfl rfl)) h3 (by omega)
  exact law_post (avs := [.agg (Nf.cells x0), ints x1, bytesAV x2, .int .u8 x3]) (by kernel_rfl) rfl (by kernel_rfl) hW' rfl rfl rfl (runs_walk x0 y0 x1 x2 x3 (fun b hb => wf_u8 (y2 b hb)) (wf_u8 y3).1 (wf_u8 y3).2) (by simp only [Reps]; exact ⟨_, _, rfl, z0, _, _, rfl, z1, _, _, rfl, z2, _, _, rfl, z3, rfl⟩)
theorem laid_met (os : Os) : laidMet Tryd.prog Rows.thompsonRunsUptoRow.laid ((laidWorld os).forCall (fun _ _ => 0) ⟨#[], #[(.agg #[.slice none 0 0, .int .i64 0, .int .i64 0] : Value), (.slice none 0 0 : Value), (.slice none 0 0 : Value), (.int .u8 0 : Value)], []⟩).memory :=
  laidMet_of_run' 8 (by kernel_rfl) (by kernel_rfl)
theorem reads (os : Os) {H : Type} (enc : TypeId × Value → H) : ∃ places, DataW.whole enc Tryd.prog ((laidWorld os).forCall (fun _ _ => 0) ⟨#[], #[(.agg #[.slice none 0 0, .int .i64 0, .int .i64 0] : Value), (.slice none 0 0 : Value), (.slice none 0 0 : Value), (.int .u8 0 : Value)], []⟩).memory Tryd.f7.params.toList Rows.thompsonRunsSpec.vars false (#[(.agg #[.slice none 0 0, .int .i64 0, .int .i64 0] : Value), (.slice none 0 0 : Value), (.slice none 0 0 : Value), (.int .u8 0 : Value)] : Array Value).toList 8 = some ([.agg [.nil, .lit (.int .i64 0), .lit (.int .i64 0)], .nil, .nil, .lit (.int .u8 0)], [], places) :=
  ⟨[], by kernel_rfl⟩
theorem liftedUpto (os : Os) (started : os.Started) (H : Type) (enc : TypeId × Value → H) (F : Stop.Interp) :
    ReturnsInHanded {} Tryd.checked os 7 .any ((Rows.OpenSpec.upto Rows.thompsonRunsSpec).preRow enc Tryd.prog Tryd.f7 Rows.thompsonRunsUptoRow.domain false Rows.thompsonRunsUptoRow.laid) (((Rows.OpenSpec.upto Rows.thompsonRunsSpec).at F).post enc Tryd.prog Tryd.f7 false true false false) := by
  obtain ⟨places, hx⟩ := reads os enc
  refine returnsInHanded_of_row (C := Tryd.checked) (s := Rows.OpenSpec.upto Rows.thompsonRunsSpec) ownk started (by kernel_rfl) Tryd.func7
    (witness_row_at (enc := enc) (C := Tryd.checked) false (laidWorld os) #[(.agg #[.slice none 0 0, .int .i64 0, .int .i64 0] : Value), (.slice none 0 0 : Value), (.slice none 0 0 : Value), (.int .u8 0 : Value)] rfl (by kernel_rfl) (by kernel_rfl) (by kernel_rfl)
      (OpenSpec.preRow_of_cond 8 hx (by kernel_rfl) (fun k hk => by cases hk; kernel_rfl) (by kernel_rfl) (laid_met os))) ?_
  intro W base args ds gs before hval hW _ hcond _ hL _ _
  exact contract H enc W base args ds gs before hval hW (hcond _ rfl)
theorem at4 : (([] : List String) == Tryd.prog.inPlace 7) = true := by kernel_rfl
theorem at5 : (true == Tryd.prog.unfollowed 7) = true := by kernel_rfl
theorem at6 : (true == Tryd.prog.recurses 7) = true := by kernel_rfl
theorem at7 : (["math/bits.deBruijn64tab"] == Tryd.prog.varsNamed 7) = true := by kernel_rfl
theorem named : Tryd.prog.funcNamed "scriptory/scriptorylaw9.ThompsonRuns" = some 7 := by kernel_rfl
theorem facts : joinedFacts Tryd.prog 7 Tryd.f7 (Rows.OpenSpec.upto Rows.thompsonRunsSpec).bare Rows.thompsonRunsUptoRow = true :=
  facts_of (by kernel_rfl) (by kernel_rfl) (by kernel_rfl) at4 at5 at6 at7 (by kernel_rfl) rfl rfl (by kernel_rfl)
theorem saidUpto : Rows.ThompsonRunsUptoSaid :=
  OpenClaim.holds_of_cond 7 Tryd.f7 rfl rfl rfl rfl rfl rfl rfl ⟨rfl, rfl, rfl, rfl, rfl⟩ rfl rfl rfl rfl rfl named Tryd.func7 facts
    (of_decide_eq_true (by kernel_rfl)) (by unfold Func.isWrapper; first | (rw [if_pos (by decide +kernel)]; kernel_rfl) | (rw [if_neg (by decide +kernel)]; exact ⟨rfl, rfl⟩))
    (fun os started H enc _ F => by rw [OpenClaim.pre_eq_preRow]; exact liftedUpto os started H enc F)
theorem looks_no : false = Tryd.prog.looks [] := by kernel_rfl
theorem plain (f : FuncId) (fn : Func) (hf : Tryd.pinned.checked.prog.funcNamed "scriptory/scriptorylaw9.ThompsonRuns" = some f) (hfn : Tryd.pinned.checked.prog.funcs[f]? = some fn) :
    false = Tryd.pinned.checked.prog.looks [] ∧ ∀ (j : Nat) t, fn.params[j]? = some t → Tryd.pinned.checked.prog.wantsStandIn t = false := by
  obtain rfl : f = 7 := Option.some.inj (named.symm.trans hf) |>.symm
  obtain rfl : fn = Tryd.f7 := (Option.some.inj (Tryd.func7.symm.trans hfn)).symm
  refine ⟨looks_no, fun j t ht => ?_⟩
  rw [Tryd.params7] at ht
  have hall : ∀ t ∈ (#[36, 48, 22, 5] : Array Nat), Tryd.prog.wantsStandIn t = false := by
    intro t ht
    simp only [List.mem_toArray, List.mem_cons, List.not_mem_nil, or_false] at ht
    rcases ht with rfl | rfl | rfl | rfl
    all_goals kernel_rfl
  exact hall t (Array.mem_of_getElem? ht)
theorem goes : false = Rows.thompsonRunsUptoRow.goesBy Tryd.prog := by kernel_rfl
theorem cardUpto : Rows.ThompsonRunsUptoCardSaid :=
  Claim7.holds_tied_plain_at .later [] _ _ _ _ saidUpto (fun _ h => by cases h) (by kernel_rfl) (fun _ h => by cases h) thompsonRunsUpto_row_tie rfl ⟨rfl, rfl⟩ main_ok rfl plain goes
end Go.Proofs.YtfdgbghlanbddaaDoor.lawThompsonRuns
