import Derived.Test.YtfdgbghlanbddaaDoorAvK0
import Derived.Test.YtfdgbghlanbddaaDoorAvK1
import Derived.Test.YtfdgbghlanbddaaDoorAvK2
import Derived.Test.YtfdgbghlanbddaaDoorAvK3
import Derived.Test.YtfdgbghlanbddaaDoorAvK4
import Derived.KernelRfl
set_option maxRecDepth 100000
namespace Go.Proofs.YtfdgbghlanbddaaDoor.Av
open Go.Proofs Go.Proofs.YtfdgbghlanbddaaDoor
theorem io : Tryd.prog.initOrder = "harness d8d313f7324173a1e48e18dbbd53aea0b652cc2db0b3cb826d55cdaae13b972b cut at scriptory/scriptorylaw9.ThompsonBuilds scriptory/scriptorylaw9.ThompsonRefuses scriptory/scriptorylaw9.ThompsonCloses scriptory/scriptorylaw9.ThompsonJoins scriptory/scriptorylaw9.ThompsonRuns scriptory/scriptorylaw9.ThompsonGoes scriptory/scriptorylaw10.SubsetAll scriptory/scriptorylaw10.SubsetMade scriptory/scriptorylaw10.SubsetRuns scriptory/scriptorylaw10.SubsetBudget scriptory/scriptorylaw10.SubsetReach scriptory/scriptorylaw10.SubsetStep scriptory/scriptorylaw8.LangAll scriptory/scriptorylaw8.LangMade scriptory/scriptorylaw8.LangSteps scriptory/scriptorylaw8.LangMeans scriptory/scriptorylaw8.LangFirst scriptory/scriptorylaw8.LangStar scriptory/scriptorylaw8.LangSame scriptory/scriptorylaw8.LangNone" := by kernel_rfl
def headChars : List Char := [104, 97, 114, 110, 101, 115, 115, 32, 100, 56, 100, 51, 49, 51, 102, 55, 51, 50, 52, 49, 55, 51, 97, 49, 101, 52, 56, 101, 49, 56, 100, 98, 98, 100, 53, 51, 97, 101, 97, 48, 98, 54, 53, 50, 99, 99, 50, 100, 98, 48, 98, 51, 99, 98, 56, 50, 54, 100, 53, 53, 99, 100, 97, 97, 101, 49, 51, 98, 57, 55, 50, 98, 32, 99, 117, 116, 32, 97, 116, 32, 115, 99, 114, 105, 112, 116, 111, 114, 121, 47, 115, 99, 114, 105, 112, 116, 111, 114, 121, 108, 97, 119, 57, 46, 84, 104, 111, 109, 112, 115, 111, 110, 66, 117, 105, 108, 100, 115, 32, 115, 99, 114, 105, 112, 116, 111, 114, 121, 47, 115, 99, 114, 105, 112, 116, 111, 114, 121, 108, 97, 119, 57, 46, 84, 104, 111, 109, 112, 115, 111, 110, 82, 101, 102, 117, 115, 101, 115, 32, 115, 99, 114, 105, 112, 116, 111, 114, 121, 47, 115, 99, 114, 105, 112, 116, 111, 114, 121, 108, 97, 119, 57, 46, 84, 104, 111, 109, 112, 115, 111, 110, 67, 108, 111, 115, 101, 115, 32, 115, 99, 114, 105, 112, 116, 111, 114, 121, 47, 115, 99, 114, 105, 112, 116, 111, 114, 121, 108, 97, 119, 57, 46, 84, 104, 111, 109, 112, 115, 111, 110, 74, 111, 105, 110, 115, 32, 115, 99, 114, 105, 112, 116, 111, 114, 121, 47, 115, 99, 114, 105, 112, 116, 111, 114, 121, 108, 97, 119, 57, 46, 84, 104, 111, 109, 112, 115, 111, 110, 82, 117, 110, 115, 32, 115, 99, 114, 105, 112, 116, 111, 114, 121, 47, 115, 99, 114, 105, 112, 116, 111, 114, 121, 108, 97, 119, 57, 46, 84, 104, 111, 109, 112, 115, 111, 110, 71, 111, 101, 115, 32, 115, 99, 114, 105, 112, 116, 111, 114, 121, 47, 115, 99, 114, 105, 112, 116, 111, 114, 121, 108, 97, 119, 49, 48, 46, 83, 117, 98, 115, 101, 116, 65, 108, 108, 32, 115, 99, 114, 105, 112, 116, 111, 114, 121, 47, 115, 99, 114, 105, 112, 116, 111, 114, 121, 108, 97, 119, 49, 48, 46, 83, 117, 98, 115, 101, 116, 77, 97, 100, 101, 32, 115, 99, 114, 105, 112, 116, 111, 114, 121, 47, 115, 99, 114, 105, 112, 116, 111, 114, 121, 108, 97, 119, 49, 48, 46, 83, 117, 98, 115, 101, 116, 82, 117, 110, 115, 32, 115, 99, 114, 105, 112, 116, 111, 114, 121, 47, 115, 99, 114, 105, 112, 116, 111, 114, 121, 108, 97, 119, 49, 48, 46, 83, 117, 98, 115, 101, 116, 66, 117, 100, 103, 101, 116, 32, 115, 99, 114, 105, 112, 116, 111, 114, 121, 47, 115, 99, 114, 105, 112, 116, 111, 114, 121, 108, 97, 119, 49, 48, 46, 83, 117, 98, 115, 101, 116, 82, 101, 97, 99, 104, 32, 115, 99, 114, 105, 112, 116, 111, 114, 121, 47, 115, 99, 114, 105, 112, 116, 111, 114, 121, 108, 97, 119, 49, 48, 46, 83, 117, 98, 115, 101, 116, 83, 116, 101, 112, 32, 115, 99, 114, 105, 112, 116, 111, 114, 121, 47, 115, 99, 114, 105, 112, 116, 111, 114, 121, 108, 97, 119, 56, 46, 76, 97, 110, 103, 65, 108, 108, 32, 115, 99, 114, 105, 112, 116, 111, 114, 121, 47, 115, 99, 114, 105, 112, 116, 111, 114, 121, 108, 97, 119, 56, 46, 76, 97, 110, 103, 77, 97, 100, 101, 32, 115, 99, 114, 105, 112, 116, 111, 114, 121, 47, 115, 99, 114, 105, 112, 116, 111, 114, 121, 108, 97, 119, 56, 46, 76, 97, 110, 103, 83, 116, 101, 112, 115, 32, 115, 99, 114, 105, 112, 116, 111, 114, 121, 47, 115, 99, 114, 105, 112, 116, 111, 114, 121, 108, 97, 119, 56, 46, 76, 97, 110, 103, 77, 101, 97, 110, 115, 32, 115, 99, 114, 105, 112, 116, 111, 114, 121, 47, 115, 99, 114, 105, 112, 116, 111, 114, 121, 108, 97, 119, 56, 46, 76, 97, 110, 103, 70, 105, 114, 115, 116, 32, 115, 99, 114, 105, 112, 116, 111, 114, 121, 47, 115, 99, 114, 105, 112, 116, 111, 114, 121, 108, 97, 119, 56, 46, 76, 97, 110, 103, 83, 116, 97, 114, 32, 115, 99, 114, 105, 112, 116, 111, 114, 121, 47, 115, 99, 114, 105, 112, 116, 111, 114, 121, 108, 97, 119, 56, 46, 76, 97, 110, 103, 83, 97, 109, 101, 32, 115, 99, 114, 105, 112, 116, 111, 114, 121, 47, 115, 99, 114, 105, 112, 116, 111, 114, 121, 108, 97, 119, 56, 46, 76, 97, 110, 103, 78, 111, 110, 101].map Char.ofNat
theorem iol : Tryd.prog.initOrder.toList = headChars := by
  rw [io]
  exact String.toList_ofList
def headWords : List (List Char) := [[104, 97, 114, 110, 101, 115, 115], [100, 56, 100, 51, 49, 51, 102, 55, 51, 50, 52, 49, 55, 51, 97, 49, 101, 52, 56, 101, 49, 56, 100, 98, 98, 100, 53, 51, 97, 101, 97, 48, 98, 54, 53, 50, 99, 99, 50, 100, 98, 48, 98, 51, 99, 98, 56, 50, 54, 100, 53, 53, 99, 100, 97, 97, 101, 49, 51, 98, 57, 55, 50, 98], [99, 117, 116], [97, 116], [115, 99, 114, 105, 112, 116, 111, 114, 121, 47, 115, 99, 114, 105, 112, 116, 111, 114, 121, 108, 97, 119, 57, 46, 84, 104, 111, 109, 112, 115, 111, 110, 66, 117, 105, 108, 100, 115], [115, 99, 114, 105, 112, 116, 111, 114, 121, 47, 115, 99, 114, 105, 112, 116, 111, 114, 121, 108, 97, 119, 57, 46, 84, 104, 111, 109, 112, 115, 111, 110, 82, 101, 102, 117, 115, 101, 115], [115, 99, 114, 105, 112, 116, 111, 114, 121, 47, 115, 99, 114, 105, 112, 116, 111, 114, 121, 108, 97, 119, 57, 46, 84, 104, 111, 109, 112, 115, 111, 110, 67, 108, 111, 115, 101, 115], [115, 99, 114, 105, 112, 116, 111, 114, 121, 47, 115, 99, 114, 105, 112, 116, 111, 114, 121, 108, 97, 119, 57, 46, 84, 104, 111, 109, 112, 115, 111, 110, 74, 111, 105, 110, 115], [115, 99, 114, 105, 112, 116, 111, 114, 121, 47, 115, 99, 114, 105, 112, 116, 111, 114, 121, 108, 97, 119, 57, 46, 84, 104, 111, 109, 112, 115, 111, 110, 82, 117, 110, 115], [115, 99, 114, 105, 112, 116, 111, 114, 121, 47, 115, 99, 114, 105, 112, 116, 111, 114, 121, 108, 97, 119, 57, 46, 84, 104, 111, 109, 112, 115, 111, 110, 71, 111, 101, 115], [115, 99, 114, 105, 112, 116, 111, 114, 121, 47, 115, 99, 114, 105, 112, 116, 111, 114, 121, 108, 97, 119, 49, 48, 46, 83, 117, 98, 115, 101, 116, 65, 108, 108], [115, 99, 114, 105, 112, 116, 111, 114, 121, 47, 115, 99, 114, 105, 112, 116, 111, 114, 121, 108, 97, 119, 49, 48, 46, 83, 117, 98, 115, 101, 116, 77, 97, 100, 101], [115, 99, 114, 105, 112, 116, 111, 114, 121, 47, 115, 99, 114, 105, 112, 116, 111, 114, 121, 108, 97, 119, 49, 48, 46, 83, 117, 98, 115, 101, 116, 82, 117, 110, 115], [115, 99, 114, 105, 112, 116, 111, 114, 121, 47, 115, 99, 114, 105, 112, 116, 111, 114, 121, 108, 97, 119, 49, 48, 46, 83, 117, 98, 115, 101, 116, 66, 117, 100, 103, 101, 116], [115, 99, 114, 105, 112, 116, 111, 114, 121, 47, 115, 99, 114, 105, 112, 116, 111, 114, 121, 108, 97, 119, 49, 48, 46, 83, 117, 98, 115, 101, 116, 82, 101, 97, 99, 104], [115, 99, 114, 105, 112, 116, 111, 114, 121, 47, 115, 99, 114, 105, 112, 116, 111, 114, 121, 108, 97, 119, 49, 48, 46, 83, 117, 98, 115, 101, 116, 83, 116, 101, 112], [115, 99, 114, 105, 112, 116, 111, 114, 121, 47, 115, 99, 114, 105, 112, 116, 111, 114, 121, 108, 97, 119, 56, 46, 76, 97, 110, 103, 65, 108, 108], [115, 99, 114, 105, 112, 116, 111, 114, 121, 47, 115, 99, 114, 105, 112, 116, 111, 114, 121, 108, 97, 119, 56, 46, 76, 97, 110, 103, 77, 97, 100, 101], [115, 99, 114, 105, 112, 116, 111, 114, 121, 47, 115, 99, 114, 105, 112, 116, 111, 114, 121, 108, 97, 119, 56, 46, 76, 97, 110, 103, 83, 116, 101, 112, 115], [115, 99, 114, 105, 112, 116, 111, 114, 121, 47, 115, 99, 114, 105, 112, 116, 111, 114, 121, 108, 97, 119, 56, 46, 76, 97, 110, 103, 77, 101, 97, 110, 115], [115, 99, 114, 105, 112, 116, 111, 114, 121, 47, 115, 99, 114, 105, 112, 116, 111, 114, 121, 108, 97, 119, 56, 46, 76, 97, 110, 103, 70, 105, 114, 115, 116], [115, 99, 114, 105, 112, 116, 111, 114, 121, 47, 115, 99, 114, 105, 112, 116, 111, 114, 121, 108, 97, 119, 56, 46, 76, 97, 110, 103, 83, 116, 97, 114], [115, 99, 114, 105, 112, 116, 111, 114, 121, 47, 115, 99, 114, 105, 112, 116, 111, 114, 121, 108, 97, 119, 56, 46, 76, 97, 110, 103, 83, 97, 109, 101], [115, 99, 114, 105, 112, 116, 111, 114, 121, 47, 115, 99, 114, 105, 112, 116, 111, 114, 121, 108, 97, 119, 56, 46, 76, 97, 110, 103, 78, 111, 110, 101]].map fun l : List Nat => l.map Char.ofNat
theorem iow : wordsSigns headChars = headWords := by kernel_rfl
end Go.Proofs.YtfdgbghlanbddaaDoor.Av
set_option maxRecDepth 100000
namespace Go.Proofs.YtfdgbghlanbddaaDoor.Av
open Go.Proofs Go.Proofs.YtfdgbghlanbddaaDoor
theorem tl_finals : "finals".toList = ([102, 105, 110, 97, 108, 115].map Char.ofNat) := String.toList_ofList
theorem tl_reflectrows : "reflectrows".toList = ([114, 101, 102, 108, 101, 99, 116, 114, 111, 119, 115].map Char.ofNat) := String.toList_ofList
theorem tl_leanrows : "leanrows".toList = ([108, 101, 97, 110, 114, 111, 119, 115].map Char.ofNat) := String.toList_ofList
theorem tl_onebuild : "onebuild".toList = ([111, 110, 101, 98, 117, 105, 108, 100].map Char.ofNat) := String.toList_ofList
theorem tl_publicsums : "publicsums".toList = ([112, 117, 98, 108, 105, 99, 115, 117, 109, 115].map Char.ofNat) := String.toList_ofList
theorem tl_eqguard : "eqguard".toList = ([101, 113, 103, 117, 97, 114, 100].map Char.ofNat) := String.toList_ofList
theorem tl_ownunsafe : "ownunsafe".toList = ([111, 119, 110, 117, 110, 115, 97, 102, 101].map Char.ofNat) := String.toList_ofList
theorem tl_libbeside : "libbeside".toList = ([108, 105, 98, 98, 101, 115, 105, 100, 101].map Char.ofNat) := String.toList_ofList
theorem tl_ownbeside : "ownbeside".toList = ([111, 119, 110, 98, 101, 115, 105, 100, 101].map Char.ofNat) := String.toList_ofList
theorem tl_reflbeside : "reflbeside".toList = ([114, 101, 102, 108, 98, 101, 115, 105, 100, 101].map Char.ofNat) := String.toList_ofList
theorem tl_aliases : "aliases".toList = ([97, 108, 105, 97, 115, 101, 115].map Char.ofNat) := String.toList_ofList
theorem tl_afterinit : "afterinit".toList = ([97, 102, 116, 101, 114, 105, 110, 105, 116].map Char.ofNat) := String.toList_ofList
theorem tl_crcplain : "crcplain".toList = ([99, 114, 99, 112, 108, 97, 105, 110].map Char.ofNat) := String.toList_ofList
theorem tl_roadunsafe : "roadunsafe".toList = ([114, 111, 97, 100, 117, 110, 115, 97, 102, 101].map Char.ofNat) := String.toList_ofList
theorem tl_fmthandon : "fmthandon".toList = ([102, 109, 116, 104, 97, 110, 100, 111, 110].map Char.ofNat) := String.toList_ofList
theorem tl_harness : "harness".toList = ([104, 97, 114, 110, 101, 115, 115].map Char.ofNat) := String.toList_ofList
theorem tl_ownmain : "ownmain".toList = ([111, 119, 110, 109, 97, 105, 110].map Char.ofNat) := String.toList_ofList
theorem tl_gc : "gc".toList = ([103, 99].map Char.ofNat) := String.toList_ofList
theorem tl_spec : "spec".toList = ([115, 112, 101, 99].map Char.ofNat) := String.toList_ofList
theorem tl_stop : "stop".toList = ([115, 116, 111, 112].map Char.ofNat) := String.toList_ofList
theorem tl_carried : "carried".toList = ([99, 97, 114, 114, 105, 101, 100].map Char.ofNat) := String.toList_ofList
theorem tl_cut : "cut".toList = ([99, 117, 116].map Char.ofNat) := String.toList_ofList
theorem tl_sum : "d8d313f7324173a1e48e18dbbd53aea0b652cc2db0b3cb826d55cdaae13b972b".toList = ([100, 56, 100, 51, 49, 51, 102, 55, 51, 50, 52, 49, 55, 51, 97, 49, 101, 52, 56, 101, 49, 56, 100, 98, 98, 100, 53, 51, 97, 101, 97, 48, 98, 54, 53, 50, 99, 99, 50, 100, 98, 48, 98, 51, 99, 98, 56, 50, 54, 100, 53, 53, 99, 100, 97, 97, 101, 49, 51, 98, 57, 55, 50, 98].map Char.ofNat) := String.toList_ofList
end Go.Proofs.YtfdgbghlanbddaaDoor.Av
set_option maxRecDepth 100000
namespace Go.Proofs.YtfdgbghlanbddaaDoor.Av
open Go.Proofs Go.Proofs.YtfdgbghlanbddaaDoor
theorem words_ok : wordsSigns Tryd.prog.initOrder.toList = headWords := (congrArg wordsSigns iol).trans iow
theorem main_gen {P : Program} {h s : List Char} {r : List (List Char)} (hw : wordsSigns P.initOrder.toList = h :: s :: r) (hs : isSumSigns s = true) (hh : (h == "harness".toList) = true) : P.mainIs = some (true, s) := by
  unfold Program.mainIs
  rw [hw]
  simp only [hs, hh, Bool.not_true, Bool.false_eq_true, if_false, if_true]
theorem main_ok : Tryd.prog.mainIs = some (true, "d8d313f7324173a1e48e18dbbd53aea0b652cc2db0b3cb826d55cdaae13b972b".toList) := by
  rw [tl_sum]
  exact main_gen (h := (([104, 97, 114, 110, 101, 115, 115] : List Nat).map Char.ofNat)) (s := (([100, 56, 100, 51, 49, 51, 102, 55, 51, 50, 52, 49, 55, 51, 97, 49, 101, 52, 56, 101, 49, 56, 100, 98, 98, 100, 53, 51, 97, 101, 97, 48, 98, 54, 53, 50, 99, 99, 50, 100, 98, 48, 98, 51, 99, 98, 56, 50, 54, 100, 53, 53, 99, 100, 97, 97, 101, 49, 51, 98, 57, 55, 50, 98] : List Nat).map Char.ofNat)) (r := headWords.drop 2) words_ok (by kernel_rfl) (by rw [tl_harness]; kernel_rfl)
theorem behind_ok : behindMainWord headWords = headWords.drop 2 := by
  unfold behindMainWord
  rw [tl_harness, tl_ownmain]
  kernel_rfl
theorem behind_words : behindMainWord (wordsSigns Tryd.prog.initOrder.toList) = headWords.drop 2 := by rw [words_ok, behind_ok]
theorem strip_none {w : List Char} {ws : List (List Char)} : ∀ {os : List String}, (∀ o ∈ os, (w == o.toList) = false) → stripLifts os (w :: ws) = ([], w :: ws)
  | [], _ => rfl
  | o :: os, h => by
    unfold stripLifts
    rw [if_neg (by rw [h o (by simp)]; decide)]
    exact strip_none fun x hx => h x (by simp [hx])
theorem strip_ok : stripLifts liftWords (headWords.drop 2) = ([], headWords.drop 2) := by
  show stripLifts liftWords (([99, 117, 116].map Char.ofNat) :: headWords.drop 3) = ([], ([99, 117, 116].map Char.ofNat) :: headWords.drop 3)
  refine strip_none fun o ho => ?_
  simp only [liftWords, List.mem_cons, List.not_mem_nil, or_false] at ho
  rcases ho with rfl | rfl | rfl | rfl | rfl | rfl | rfl | rfl | rfl | rfl | rfl | rfl | rfl | rfl | rfl
  all_goals first | (rw [tl_finals]; kernel_rfl) | (rw [tl_reflectrows]; kernel_rfl) | (rw [tl_leanrows]; kernel_rfl) | (rw [tl_onebuild]; kernel_rfl) | (rw [tl_publicsums]; kernel_rfl) | (rw [tl_eqguard]; kernel_rfl) | (rw [tl_ownunsafe]; kernel_rfl) | (rw [tl_libbeside]; kernel_rfl) | (rw [tl_ownbeside]; kernel_rfl) | (rw [tl_reflbeside]; kernel_rfl) | (rw [tl_aliases]; kernel_rfl) | (rw [tl_afterinit]; kernel_rfl) | (rw [tl_crcplain]; kernel_rfl) | (rw [tl_roadunsafe]; kernel_rfl) | (rw [tl_fmthandon]; kernel_rfl)
theorem later_no : Tryd.prog.laysLater = false := by kernel_rfl
theorem reflect_no : Tryd.prog.bearsReflect = false := by kernel_rfl
theorem door_ok : Tryd.prog.doorFits [] = true := by kernel_rfl
theorem head_lifts : Tryd.prog.headLifts = [] := by
  unfold Program.headLifts
  simp only [behind_words, strip_ok, tl_cut]
  kernel_rfl
theorem cut_ok : (([99, 117, 116] : List Nat).map Char.ofNat == "cut".toList) = true := by rw [tl_cut]; kernel_rfl
theorem enter_gen {P : Program} {c : List Char} {rest : List (List Char)} (hw : behindMainWord (wordsSigns P.initOrder.toList) = c :: rest) (hs : stripLifts liftWords (c :: rest) = ([], c :: rest)) (hc : (c == "cut".toList) = true) (h1 : P.laysLater = false) (h2 : P.bearsReflect = false) (h3 : P.doorFits [] = true) : P.mayEnter = true := by
  have hc2 : (some c == some "cut".toList) = true := hc
  unfold Program.mayEnter
  rw [hw]
  simp only [hs, h1, h2, h3, List.head?_cons, hc2, Bool.not_false, Bool.or_true, Bool.and_true, Bool.true_and]
  simp
theorem enter_ok : Tryd.prog.mayEnter = true := enter_gen (c := ([99, 117, 116] : List Nat).map Char.ofNat) (rest := headWords.drop 3) behind_words strip_ok cut_ok later_no reflect_no door_ok
theorem lifts_gen {P : Program} (hl : P.headLifts = []) {c : List Char} {rest : List (List Char)} (hw : behindMainWord (wordsSigns P.initOrder.toList) = c :: rest) (hc : (c == "carried".toList) = false) : P.liftsFinal = false := by
  have hc2 : (some c == some "carried".toList) = false := hc
  unfold Program.liftsFinal
  rw [hw, hl]
  simp only [List.head?_cons, hc2, Bool.false_and, Bool.false_or]
  rfl
theorem lifts_ok : Tryd.prog.liftsFinal = false := lifts_gen head_lifts (c := ([99, 117, 116] : List Nat).map Char.ofNat) (rest := headWords.drop 3) behind_words (by rw [tl_carried]; kernel_rfl)
theorem make_gen {P : Program} {c : List Char} {rest : List (List Char)} (hw : behindMainWord (wordsSigns P.initOrder.toList) = c :: rest) (h1 : (c == "gc".toList) = false) (h2 : (c == "spec".toList) = false) (hc : (c == "cut".toList) = true) : P.make = some .cut := by
  unfold Program.make
  rw [hw]
  simp only [h1, h2, hc, Bool.or_false, Bool.true_or, Bool.false_eq_true, if_false, if_true]
theorem make_ok : Tryd.prog.make = some .cut := make_gen (c := ([99, 117, 116] : List Nat).map Char.ofNat) (rest := headWords.drop 3) behind_words (by rw [tl_gc]; kernel_rfl) (by rw [tl_spec]; kernel_rfl) cut_ok
end Go.Proofs.YtfdgbghlanbddaaDoor.Av
set_option maxRecDepth 100000
namespace Go.Proofs.YtfdgbghlanbddaaDoor.Av
open Go.Proofs Go.Proofs.YtfdgbghlanbddaaDoor
theorem rowed_ok : mapsRowed Tryd.prog = true := by kernel_rfl
theorem heard_ok : Tryd.prog.stopsHeard = true := by kernel_rfl
/-- What a row asks of the program, in parts. -/
theorem facts_of {f : FuncId} {fn : Func} {s : ChangeSpec} {c : OpenClaim} (h1 : c.wf (OpenSpec.ofChange s) = true) (h2 : (fn.params.all (Tryd.prog.readableRec ·) && namedTie Tryd.prog c.named s.vars) = true)
    (h3 : ((c.stops == []) && (Tryd.prog.stops == []) && (c.knobs == []) && (Tryd.prog.stopKnobs == [])) = true) (h4 : (c.inPlace == Tryd.prog.inPlace f) = true) (h5 : (c.unfollowed == Tryd.prog.unfollowed f) = true) (h6 : (c.recurses == Tryd.prog.recurses f) = true) (h7 : (c.named == Tryd.prog.varsNamed f) = true)
    (h8 : ((c.maps == (fn.params.toList ++ s.plain.varTypes Tryd.prog).any (Tryd.prog.mapsRec ·)) && (c.ifaces == (fn.params.toList ++ s.plain.varTypes Tryd.prog).any (Tryd.prog.ifacesRec ·)) && (c.mapsOut == Tryd.prog.mapsAmong fn.resultTypes.toList) &&
      (c.loops == (fn.params.toList ++ s.plain.varTypes Tryd.prog).any (Tryd.prog.loopsFrom ·)) && (c.wideKeys == (fn.params.toList ++ s.plain.varTypes Tryd.prog ++ fn.resultTypes.toList).any (Tryd.prog.wideKeysFrom ·)) &&
      s.vars.all (Tryd.prog.varReadable ·) && fn.resultTypes.all (fun t => Tryd.prog.readableRec t && decide (t < Tryd.prog.types.size)) && (c.ifacesOut == fn.resultTypes.toList.any (Tryd.prog.ifacesRec ·)) && (c.loopsOut == fn.resultTypes.toList.any (Tryd.prog.loopsFrom ·)) && (c.plainKeys == Tryd.prog.plainKeys) && c.shortTexts.isNone) = true)
    (hl : c.lifted = false) (hm : c.make = .cut)
    (h9 : ((c.kinds == (if c.domain.isEmpty then [] else fn.params.toList.map fun t => match Tryd.prog.underlying t with | some (.int k) => some k | _ => none)) && (c.pinned == c.pinnedBy) &&
      (c.veiled == (fn.params.toList ++ s.plain.varTypes Tryd.prog ++ fn.resultTypes.toList).any (Tryd.prog.veiledRec ·)) && c.veiledFits Tryd.prog fn.params.toList (fn.params.toList ++ s.plain.varTypes Tryd.prog ++ fn.resultTypes.toList)) = true) : joinedFacts Tryd.prog f fn s c = true := by
  have a1 : (c.lifted == Tryd.prog.liftsFinal) = true := by rw [hl, lifts_ok]; simp
  have a2 : (Tryd.prog.make == some c.make) = true := by rw [hm, make_ok]; simp
  simp only [Bool.and_eq_true] at h2 h3 h8 h9
  simp only [joinedFacts, Bool.and_eq_true]
  refine ⟨⟨⟨⟨⟨⟨⟨⟨⟨⟨⟨⟨⟨⟨⟨⟨⟨⟨⟨⟨⟨⟨⟨⟨⟨⟨⟨⟨⟨⟨⟨h1, laidOut⟩, rowed_ok⟩, h2.1⟩, h2.2⟩, ?_⟩, ?_⟩, ?_⟩, ?_⟩, h4⟩, h5⟩, h6⟩, h7⟩, ?_⟩, ?_⟩, ?_⟩, ?_⟩, ?_⟩, ?_⟩, ?_⟩, ?_⟩, ?_⟩, ?_⟩, ?_⟩, heard_ok⟩, enter_ok⟩, a1⟩, a2⟩, ?_⟩, ?_⟩, ?_⟩, ?_⟩
  all_goals first | exact h3.1.1.1 | exact h3.1.1.2 | exact h3.1.2 | exact h3.2 | exact h8.1.1.1.1.1.1.1.1.1.1 | exact h8.1.1.1.1.1.1.1.1.1.2 | exact h8.1.1.1.1.1.1.1.1.2 | exact h8.1.1.1.1.1.1.1.2 | exact h8.1.1.1.1.1.1.2 | exact h8.1.1.1.1.1.2 | exact h8.1.1.1.1.2 | exact h8.1.1.1.2 | exact h8.1.1.2 | exact h8.1.2 | exact h8.2 | exact h9.1.1.1 | exact h9.1.1.2 | exact h9.1.2 | exact h9.2
end Go.Proofs.YtfdgbghlanbddaaDoor.Av
