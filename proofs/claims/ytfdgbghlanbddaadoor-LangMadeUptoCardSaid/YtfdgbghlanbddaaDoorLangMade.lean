/- My own text: the walk of LangMade taken to the given statement. -/
import Derived.Test.YtfdgbghlanbddaaDoorAvK0
import Derived.Test.YtfdgbghlanbddaaDoorAvK1
import Derived.Test.YtfdgbghlanbddaaDoorAvK2
import Derived.Test.YtfdgbghlanbddaaDoorAvK3
import Derived.Test.YtfdgbghlanbddaaDoorAvK4
import Derived.Test.YtfdgbghlanbddaaDoorAvK5
import Derived.Test.YtfdgbghlanbddaaDoorAvK6
set_option linter.unusedVariables false
set_option linter.unusedSimpArgs false
set_option maxRecDepth 100000
namespace Go.Proofs.YtfdgbghlanbddaaDoor.lawLangMade
open Go.Proofs.YtfdgbghlanbddaaDoor.Av Go.Proofs Go.Proofs.YtfdgbghlanbddaaDoor Go.ChangeShapes Go.WideShapes Go.ChangeAt Go.RowKit
theorem contract (H : Type) (enc : TypeId × Value → H) (W : World) (base : Nat) (args : Array Value) (ds gs : List (DataW H)) (before : List MemPlace)
    (hval : ∀ (j : Nat) t v, Tryd.f16.params[j]? = some t → args[j]? = some v → Value.okWide Tryd.prog W .any base t v)
    (hW : DataW.Whole enc Tryd.prog Tryd.f16.params.toList Rows.langMadeSpec.vars false W args.toList ds gs before) (hk : Rows.uptoSmall H (ds ++ gs) = true) (hT : Tab W) :
    Calls Tryd.prog 16 args W fun e W' => ∃ v, e = .returned v ∧ Rows.langMadeSpec.post enc Tryd.prog Tryd.f16 false true false false W args v W' := by
  have hW' := hW
  obtain ⟨p, q, hA0, hV, rfl, hfz, hnd⟩ := hW
  have hA : DataW.TrodAll enc Tryd.prog W 0 (fun _ => true) true Tryd.f16.params.toList args.toList ds p := hA0
  rw [Tryd.params16] at hA hval
  obtain ⟨v0, vs0, d0, ds0, p0, q0, hargs, rfl, rfl, h0, r0⟩ := trodAll_cons hA
  obtain ⟨v1, vs1, d1, ds1, p1, q1, rfl, rfl, rfl, h1, r1⟩ := trodAll_cons r0
  obtain ⟨v2, vs2, d2, ds2, p2, q2, rfl, rfl, rfl, h2, r2⟩ := trodAll_cons r1
  obtain ⟨rfl, rfl, rfl⟩ := trodAll_nil r2
  obtain rfl : args = #[v0, v1, v2] := by cases args; simp_all
  obtain ⟨rfl, rfl⟩ := trodVars_none hV
  clear hA0
  have hb := bulk_of hk
  simp only [List.append_nil, Rows.uptoBulkAll] at hb
  obtain ⟨x0, y0, z0⟩ := arg_one rd_bytes (okw_slice Tryd.underlying22 (hval 0 22 v0 rfl rfl)) h0 (by omega)
  obtain ⟨x1, y1, z1⟩ := arg_one rd_bytes (okw_slice Tryd.underlying22 (hval 1 22 v1 rfl rfl)) h1 (by omega)
  obtain ⟨x2, y2, z2⟩ := arg_one rd_u8 (okw_int Tryd.underlying5 (hval 2 5 v2 rfl rfl)) h2 (by omega)
  exact law_post (avs := [bytesAV x0, bytesAV x1, .int .u8 x2]) (by kernel_rfl) rfl (by kernel_rfl) hW' rfl rfl rfl (langMade_walk hT x0 x1 x2 (fun b hb => wf_u8 (y0 b hb)) (fun b hb => wf_u8 (y1 b hb)) (wf_u8 y2)) (by simp only [Reps]; exact ⟨_, _, rfl, z0, _, _, rfl, z1, _, _, rfl, z2, rfl⟩)
theorem laid_met (os : Os) : laidMet Tryd.prog Rows.langMadeUptoRow.laid ((laidWorld os).forCall (fun _ _ => 0) ⟨#[], #[(.slice none 0 0 : Value), (.slice none 0 0 : Value), (.int .u8 0 : Value)], []⟩).memory :=
  laidMet_of_run' 8 (by kernel_rfl) (by kernel_rfl)
theorem reads (os : Os) {H : Type} (enc : TypeId × Value → H) : ∃ places, DataW.whole enc Tryd.prog ((laidWorld os).forCall (fun _ _ => 0) ⟨#[], #[(.slice none 0 0 : Value), (.slice none 0 0 : Value), (.int .u8 0 : Value)], []⟩).memory Tryd.f16.params.toList Rows.langMadeSpec.vars false (#[(.slice none 0 0 : Value), (.slice none 0 0 : Value), (.int .u8 0 : Value)] : Array Value).toList 8 = some ([.nil, .nil, .lit (.int .u8 0)], [], places) :=
  ⟨[], by kernel_rfl⟩
theorem liftedUpto (os : Os) (started : os.Started) (H : Type) (enc : TypeId × Value → H) (F : Stop.Interp) :
    ReturnsInHanded {} Tryd.checked os 16 .any ((Rows.OpenSpec.upto Rows.langMadeSpec).preRow enc Tryd.prog Tryd.f16 Rows.langMadeUptoRow.domain false Rows.langMadeUptoRow.laid) (((Rows.OpenSpec.upto Rows.langMadeSpec).at F).post enc Tryd.prog Tryd.f16 false true false false) := by
  obtain ⟨places, hx⟩ := reads os enc
  refine returnsInHanded_of_row (C := Tryd.checked) (s := Rows.OpenSpec.upto Rows.langMadeSpec) ownk started (by kernel_rfl) Tryd.func16
    (witness_row_at (enc := enc) (C := Tryd.checked) false (laidWorld os) #[(.slice none 0 0 : Value), (.slice none 0 0 : Value), (.int .u8 0 : Value)] rfl (by kernel_rfl) (by kernel_rfl) (by kernel_rfl)
      (OpenSpec.preRow_of_cond 8 hx (by kernel_rfl) (fun k hk => by cases hk; kernel_rfl) (by kernel_rfl) (laid_met os))) ?_
  intro W base args ds gs before hval hW _ hcond _ hL _ _
  exact contract H enc W base args ds gs before hval hW (hcond _ rfl) (tab_in hL)
theorem at4 : (([] : List String) == Tryd.prog.inPlace 16) = true := by kernel_rfl
theorem at5 : (true == Tryd.prog.unfollowed 16) = true := by kernel_rfl
theorem at6 : (true == Tryd.prog.recurses 16) = true := by kernel_rfl
theorem at7 : (["math/bits.deBruijn64tab"] == Tryd.prog.varsNamed 16) = true := by kernel_rfl
theorem named : Tryd.prog.funcNamed "scriptory/scriptorylaw8.LangMade" = some 16 := by kernel_rfl
theorem facts : joinedFacts Tryd.prog 16 Tryd.f16 (Rows.OpenSpec.upto Rows.langMadeSpec).bare Rows.langMadeUptoRow = true :=
  facts_of (by kernel_rfl) (by kernel_rfl) (by kernel_rfl) at4 at5 at6 at7 (by kernel_rfl) rfl rfl (by kernel_rfl)
theorem saidUpto : Rows.LangMadeUptoSaid :=
  OpenClaim.holds_of_cond 16 Tryd.f16 rfl rfl rfl rfl rfl rfl rfl ⟨rfl, rfl, rfl, rfl, rfl⟩ rfl rfl rfl rfl rfl named Tryd.func16 facts
    (of_decide_eq_true (by kernel_rfl)) (by unfold Func.isWrapper; first | (rw [if_pos (by decide +kernel)]; kernel_rfl) | (rw [if_neg (by decide +kernel)]; exact ⟨rfl, rfl⟩))
    (fun os started H enc _ F => by rw [OpenClaim.pre_eq_preRow]; exact liftedUpto os started H enc F)
theorem looks_no : false = Tryd.prog.looks [] := by kernel_rfl
theorem plain (f : FuncId) (fn : Func) (hf : Tryd.pinned.checked.prog.funcNamed "scriptory/scriptorylaw8.LangMade" = some f) (hfn : Tryd.pinned.checked.prog.funcs[f]? = some fn) :
    false = Tryd.pinned.checked.prog.looks [] ∧ ∀ (j : Nat) t, fn.params[j]? = some t → Tryd.pinned.checked.prog.wantsStandIn t = false := by
  obtain rfl : f = 16 := Option.some.inj (named.symm.trans hf) |>.symm
  obtain rfl : fn = Tryd.f16 := (Option.some.inj (Tryd.func16.symm.trans hfn)).symm
  refine ⟨looks_no, fun j t ht => ?_⟩
  rw [Tryd.params16] at ht
  have hall : ∀ t ∈ (#[22, 22, 5] : Array Nat), Tryd.prog.wantsStandIn t = false := by
    intro t ht
    simp only [List.mem_toArray, List.mem_cons, List.not_mem_nil, or_false] at ht
    rcases ht with rfl | rfl | rfl
    all_goals kernel_rfl
  exact hall t (Array.mem_of_getElem? ht)
theorem goes : false = Rows.langMadeUptoRow.goesBy Tryd.prog := by kernel_rfl
theorem cardUpto : Rows.LangMadeUptoCardSaid :=
  Claim7.holds_tied_plain_at .later [] _ _ _ _ saidUpto (fun _ h => by cases h) (by kernel_rfl) (fun _ h => by cases h) langMadeUpto_row_tie rfl ⟨rfl, rfl⟩ main_ok rfl plain goes
end Go.Proofs.YtfdgbghlanbddaaDoor.lawLangMade
