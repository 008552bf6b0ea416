import Derived.Test.YtfdgbghlanbddaaDoorAvHead1
set_option maxRecDepth 100000
namespace Go.Proofs.YtfdgbghlanbddaaDoor.Av
open Go.Proofs Go.Proofs.YtfdgbghlanbddaaDoor
theorem words_ok : wordsSigns Tryd.prog.initOrder.toList = headWords := (congrArg wordsSigns iol).trans iow
theorem main_gen {P : Program} {h s : List Char} {r : List (List Char)} (hw : wordsSigns P.initOrder.toList = h :: s :: r) (hs : isSumSigns s = true) (hh : (h == "harness".toList) = true) : P.mainIs = some (true, s) := by
  unfold Program.mainIs
  rw [hw]
  simp only [hs, hh, Bool.not_true, Bool.false_eq_true, if_false, if_true]
theorem main_ok : Tryd.prog.mainIs = some (true, "d8d313f7324173a1e48e18dbbd53aea0b652cc2db0b3cb826d55cdaae13b972b".toList) := by
  rw [tl_sum]
  exact main_gen (h := (([104, 97, 114, 110, 101, 115, 115] : List Nat).map Char.ofNat)) (s := (([100, 56, 100, 51, 49, 51, 102, 55, 51, 50, 52, 49, 55, 51, 97, 49, 101, 52, 56, 101, 49, 56, 100, 98, 98, 100, 53, 51, 97, 101, 97, 48, 98, 54, 53, 50, 99, 99, 50, 100, 98, 48, 98, 51, 99, 98, 56, 50, 54, 100, 53, 53, 99, 100, 97, 97, 101, 49, 51, 98, 57, 55, 50, 98] : List Nat).map Char.ofNat)) (r := headWords.drop 2) words_ok (by kernel_rfl) (by rw [tl_harness]; kernel_rfl)
theorem behind_ok : behindMainWord headWords = headWords.drop 2 := by
  unfold behindMainWord
  rw [tl_harness, tl_ownmain]
  kernel_rfl
theorem behind_words : behindMainWord (wordsSigns Tryd.prog.initOrder.toList) = headWords.drop 2 := by rw [words_ok, behind_ok]
theorem strip_none {w : List Char} {ws : List (List Char)} : ∀ {os : List String}, (∀ o ∈ os, (w == o.toList) = false) → stripLifts os (w :: ws) = ([], w :: ws)
  | [], _ => rfl
  | o :: os, h => by
    unfold stripLifts
    rw [if_neg (by rw [h o (by simp)]; decide)]
    exact strip_none fun x hx => h x (by simp [hx])
theorem strip_ok : stripLifts liftWords (headWords.drop 2) = ([], headWords.drop 2) := by
  show stripLifts liftWords (([99, 117, 116].map Char.ofNat) :: headWords.drop 3) = ([], ([99, 117, 116].map Char.ofNat) :: headWords.drop 3)
  refine strip_none fun o ho => ?_
  simp only [liftWords, List.mem_cons, List.not_mem_nil, or_false] at ho
  rcases ho with rfl | rfl | rfl | rfl | rfl | rfl | rfl | rfl | rfl | rfl | rfl | rfl | rfl | rfl | rfl
  all_goals first | (rw [tl_finals]; kernel_rfl) | (rw [tl_reflectrows]; kernel_rfl) | (rw [tl_leanrows]; kernel_rfl) | (rw [tl_onebuild]; kernel_rfl) | (rw [tl_publicsums]; kernel_rfl) | (rw [tl_eqguard]; kernel_rfl) | (rw [tl_ownunsafe]; kernel_rfl) | (rw [tl_libbeside]; kernel_rfl) | (rw [tl_ownbeside]; kernel_rfl) | (rw [tl_reflbeside]; kernel_rfl) | (rw [tl_aliases]; kernel_rfl) | (rw [tl_afterinit]; kernel_rfl) | (rw [tl_crcplain]; kernel_rfl) | (rw [tl_roadunsafe]; kernel_rfl) | (rw [tl_fmthandon]; kernel_rfl)
theorem later_no : Tryd.prog.laysLater = false := by kernel_rfl
theorem reflect_no : Tryd.prog.bearsReflect = false := by kernel_rfl
theorem door_ok : Tryd.prog.doorFits [] = true := by kernel_rfl
theorem head_lifts : Tryd.prog.headLifts = [] := by
  unfold Program.headLifts
  simp only [behind_words, strip_ok, tl_cut]
  kernel_rfl
theorem cut_ok : (([99, 117, 116] : List Nat).map Char.ofNat == "cut".toList) = true := by rw [tl_cut]; kernel_rfl
theorem enter_gen {P : Program} {c : List Char} {rest : List (List Char)} (hw : behindMainWord (wordsSigns P.initOrder.toList) = c :: rest) (hs : stripLifts liftWords (c :: rest) = ([], c :: rest)) (hc : (c == "cut".toList) = true) (h1 : P.laysLater = false) (h2 : P.bearsReflect = false) (h3 : P.doorFits [] = true) : P.mayEnter = true := by
  have hc2 : (some c == some "cut".toList) = true := hc
  unfold Program.mayEnter
  rw [hw]
  simp only [hs, h1, h2, h3, List.head?_cons, hc2, Bool.not_false, Bool.or_true, Bool.and_true, Bool.true_and]
  simp
theorem enter_ok : Tryd.prog.mayEnter = true := enter_gen (c := ([99, 117, 116] : List Nat).map Char.ofNat) (rest := headWords.drop 3) behind_words strip_ok cut_ok later_no reflect_no door_ok
theorem lifts_gen {P : Program} (hl : P.headLifts = []) {c : List Char} {rest : List (List Char)} (hw : behindMainWord (wordsSigns P.initOrder.toList) = c :: rest) (hc : (c == "carried".toList) = false) : P.liftsFinal = false := by
  have hc2 : (some c == some "carried".toList) = false := hc
  unfold Program.liftsFinal
  rw [hw, hl]
  simp only [List.head?_cons, hc2, Bool.false_and, Bool.false_or]
  rfl
theorem lifts_ok : Tryd.prog.liftsFinal = false := lifts_gen head_lifts (c := ([99, 117, 116] : List Nat).map Char.ofNat) (rest := headWords.drop 3) behind_words (by rw [tl_carried]; kernel_rfl)
theorem make_gen {P : Program} {c : List Char} {rest : List (List Char)} (hw : behindMainWord (wordsSigns P.initOrder.toList) = c :: rest) (h1 : (c == "gc".toList) = false) (h2 : (c == "spec".toList) = false) (hc : (c == "cut".toList) = true) : P.make = some .cut := by
  unfold Program.make
  rw [hw]
  simp only [h1, h2, hc, Bool.or_false, Bool.true_or, Bool.false_eq_true, if_false, if_true]
theorem make_ok : Tryd.prog.make = some .cut := make_gen (c := ([99, 117, 116] : List Nat).map Char.ofNat) (rest := headWords.drop 3) behind_words (by rw [tl_gc]; kernel_rfl) (by rw [tl_spec]; kernel_rfl) cut_ok
end Go.Proofs.YtfdgbghlanbddaaDoor.Av
