/-
  DERIVED. GIVEN WITH THE SEED: THE CARDS: each row of YtfdgbghlanbddaaDoorRows.lean that lists a variable, with what it lists TIED to the program's text (the seventh form; the later family's looks); each row that meets fmt, with fmt's text TOLD by the authors' own Lean function (tested against real Go, not proved from fmt's source: count such statements apart). THE CARD IS WHAT COUNTS. Prove the row's statement (the work); the ties are given (YtfdgbghlanbddaaDoorTie.lean); close each card by the builder's one call (the guide's Derived/Test/ToyasCard.lean, 'card_holds'). Laid BY PROGRAM, IN A SANDBOX (cutbox-door.mjs). By AI agents, Wed Nov 11 2026. No macro, syntax, notation, axiom, sorry.
-/
import Derived.Test.YtfdgbghlanbddaaDoorRows
import GoSem.ClaimSeven
namespace Go.Proofs.YtfdgbghlanbddaaDoor
namespace Rows

/-- THE TIED CARD OF 'scriptorylaw9.ThompsonBuilds'. -/
def thompsonBuildsCard : Claim7 := { stood := { row := thompsonBuildsRow, standIns := [], harness := (true, "d8d313f7324173a1e48e18dbbd53aea0b652cc2db0b3cb826d55cdaae13b972b"), looks := false }, kinds := [], alts := [], laidByText := true, laidKinds := [.data], laidTests := true, laidLooks := .later }
def ThompsonBuildsCardSaid : Prop := Claim7.holds Tryd.pinned (.plain (OpenSpec.ofChange thompsonBuildsSpec)) thompsonBuildsCard

/-- THE TIED CARD OF 'scriptorylaw9.ThompsonRefuses'. -/
def thompsonRefusesCard : Claim7 := { stood := { row := thompsonRefusesRow, standIns := [], harness := (true, "d8d313f7324173a1e48e18dbbd53aea0b652cc2db0b3cb826d55cdaae13b972b"), looks := false }, kinds := [], alts := [], laidByText := true, laidKinds := [.data], laidTests := true, laidLooks := .later }
def ThompsonRefusesCardSaid : Prop := Claim7.holds Tryd.pinned (.plain (OpenSpec.ofChange thompsonRefusesSpec)) thompsonRefusesCard

/-- THE TIED CARD OF 'scriptorylaw9.ThompsonCloses'. -/
def thompsonClosesCard : Claim7 := { stood := { row := thompsonClosesRow, standIns := [], harness := (true, "d8d313f7324173a1e48e18dbbd53aea0b652cc2db0b3cb826d55cdaae13b972b"), looks := false }, kinds := [], alts := [], laidByText := true, laidKinds := [.data], laidTests := true, laidLooks := .later }
def ThompsonClosesCardSaid : Prop := Claim7.holds Tryd.pinned (.plain (OpenSpec.ofChange thompsonClosesSpec)) thompsonClosesCard

/-- THE TIED CARD OF 'scriptorylaw9.ThompsonJoins'. -/
def thompsonJoinsCard : Claim7 := { stood := { row := thompsonJoinsRow, standIns := [], harness := (true, "d8d313f7324173a1e48e18dbbd53aea0b652cc2db0b3cb826d55cdaae13b972b"), looks := false }, kinds := [], alts := [], laidByText := true, laidKinds := [.data], laidTests := true, laidLooks := .later }
def ThompsonJoinsCardSaid : Prop := Claim7.holds Tryd.pinned (.plain (OpenSpec.ofChange thompsonJoinsSpec)) thompsonJoinsCard

/-- THE TIED CARD OF 'scriptorylaw9.ThompsonRuns'. -/
def thompsonRunsCard : Claim7 := { stood := { row := thompsonRunsRow, standIns := [], harness := (true, "d8d313f7324173a1e48e18dbbd53aea0b652cc2db0b3cb826d55cdaae13b972b"), looks := false }, kinds := [], alts := [], laidByText := true, laidKinds := [.data], laidTests := true, laidLooks := .later }
def ThompsonRunsCardSaid : Prop := Claim7.holds Tryd.pinned (.plain (OpenSpec.ofChange thompsonRunsSpec)) thompsonRunsCard

/-- THE TIED CARD OF 'scriptorylaw9.ThompsonGoes'. -/
def thompsonGoesCard : Claim7 := { stood := { row := thompsonGoesRow, standIns := [], harness := (true, "d8d313f7324173a1e48e18dbbd53aea0b652cc2db0b3cb826d55cdaae13b972b"), looks := false }, kinds := [], alts := [], laidByText := true, laidKinds := [.data], laidTests := true, laidLooks := .later }
def ThompsonGoesCardSaid : Prop := Claim7.holds Tryd.pinned (.plain (OpenSpec.ofChange thompsonGoesSpec)) thompsonGoesCard

/-- THE TIED CARD OF 'scriptorylaw10.SubsetAll'. -/
def subsetAllCard : Claim7 := { stood := { row := subsetAllRow, standIns := [], harness := (true, "d8d313f7324173a1e48e18dbbd53aea0b652cc2db0b3cb826d55cdaae13b972b"), looks := false }, kinds := [], alts := [], laidByText := true, laidKinds := [.data], laidTests := true, laidLooks := .later }
def SubsetAllCardSaid : Prop := Claim7.holds Tryd.pinned (.plain (OpenSpec.ofChange subsetAllSpec)) subsetAllCard

/-- THE TIED CARD OF 'scriptorylaw10.SubsetMade'. -/
def subsetMadeCard : Claim7 := { stood := { row := subsetMadeRow, standIns := [], harness := (true, "d8d313f7324173a1e48e18dbbd53aea0b652cc2db0b3cb826d55cdaae13b972b"), looks := false }, kinds := [], alts := [], laidByText := true, laidKinds := [.data], laidTests := true, laidLooks := .later }
def SubsetMadeCardSaid : Prop := Claim7.holds Tryd.pinned (.plain (OpenSpec.ofChange subsetMadeSpec)) subsetMadeCard

/-- THE TIED CARD OF 'scriptorylaw10.SubsetRuns'. -/
def subsetRunsCard : Claim7 := { stood := { row := subsetRunsRow, standIns := [], harness := (true, "d8d313f7324173a1e48e18dbbd53aea0b652cc2db0b3cb826d55cdaae13b972b"), looks := false }, kinds := [], alts := [], laidByText := true, laidKinds := [.data], laidTests := true, laidLooks := .later }
def SubsetRunsCardSaid : Prop := Claim7.holds Tryd.pinned (.plain (OpenSpec.ofChange subsetRunsSpec)) subsetRunsCard

/-- THE TIED CARD OF 'scriptorylaw10.SubsetBudget'. -/
def subsetBudgetCard : Claim7 := { stood := { row := subsetBudgetRow, standIns := [], harness := (true, "d8d313f7324173a1e48e18dbbd53aea0b652cc2db0b3cb826d55cdaae13b972b"), looks := false }, kinds := [], alts := [], laidByText := true, laidKinds := [.data], laidTests := true, laidLooks := .later }
def SubsetBudgetCardSaid : Prop := Claim7.holds Tryd.pinned (.plain (OpenSpec.ofChange subsetBudgetSpec)) subsetBudgetCard

/-- THE TIED CARD OF 'scriptorylaw10.SubsetReach'. -/
def subsetReachCard : Claim7 := { stood := { row := subsetReachRow, standIns := [], harness := (true, "d8d313f7324173a1e48e18dbbd53aea0b652cc2db0b3cb826d55cdaae13b972b"), looks := false }, kinds := [], alts := [], laidByText := true, laidKinds := [.data], laidTests := true, laidLooks := .later }
def SubsetReachCardSaid : Prop := Claim7.holds Tryd.pinned (.plain (OpenSpec.ofChange subsetReachSpec)) subsetReachCard

/-- THE TIED CARD OF 'scriptorylaw10.SubsetStep'. -/
def subsetStepCard : Claim7 := { stood := { row := subsetStepRow, standIns := [], harness := (true, "d8d313f7324173a1e48e18dbbd53aea0b652cc2db0b3cb826d55cdaae13b972b"), looks := false }, kinds := [], alts := [], laidByText := true, laidKinds := [.data], laidTests := true, laidLooks := .later }
def SubsetStepCardSaid : Prop := Claim7.holds Tryd.pinned (.plain (OpenSpec.ofChange subsetStepSpec)) subsetStepCard

/-- THE TIED CARD OF 'scriptorylaw8.LangAll'. -/
def langAllCard : Claim7 := { stood := { row := langAllRow, standIns := [], harness := (true, "d8d313f7324173a1e48e18dbbd53aea0b652cc2db0b3cb826d55cdaae13b972b"), looks := false }, kinds := [], alts := [], laidByText := true, laidKinds := [.data], laidTests := true, laidLooks := .later }
def LangAllCardSaid : Prop := Claim7.holds Tryd.pinned (.plain (OpenSpec.ofChange langAllSpec)) langAllCard

/-- THE TIED CARD OF 'scriptorylaw8.LangMade'. -/
def langMadeCard : Claim7 := { stood := { row := langMadeRow, standIns := [], harness := (true, "d8d313f7324173a1e48e18dbbd53aea0b652cc2db0b3cb826d55cdaae13b972b"), looks := false }, kinds := [], alts := [], laidByText := true, laidKinds := [.data], laidTests := true, laidLooks := .later }
def LangMadeCardSaid : Prop := Claim7.holds Tryd.pinned (.plain (OpenSpec.ofChange langMadeSpec)) langMadeCard

/-- THE TIED CARD OF 'scriptorylaw8.LangSteps'. -/
def langStepsCard : Claim7 := { stood := { row := langStepsRow, standIns := [], harness := (true, "d8d313f7324173a1e48e18dbbd53aea0b652cc2db0b3cb826d55cdaae13b972b"), looks := false }, kinds := [], alts := [], laidByText := true, laidKinds := [.data], laidTests := true, laidLooks := .later }
def LangStepsCardSaid : Prop := Claim7.holds Tryd.pinned (.plain (OpenSpec.ofChange langStepsSpec)) langStepsCard

/-- THE TIED CARD OF 'scriptorylaw8.LangMeans'. -/
def langMeansCard : Claim7 := { stood := { row := langMeansRow, standIns := [], harness := (true, "d8d313f7324173a1e48e18dbbd53aea0b652cc2db0b3cb826d55cdaae13b972b"), looks := false }, kinds := [], alts := [], laidByText := true, laidKinds := [.data], laidTests := true, laidLooks := .later }
def LangMeansCardSaid : Prop := Claim7.holds Tryd.pinned (.plain (OpenSpec.ofChange langMeansSpec)) langMeansCard

/-- THE TIED CARD OF 'scriptorylaw8.LangFirst'. -/
def langFirstCard : Claim7 := { stood := { row := langFirstRow, standIns := [], harness := (true, "d8d313f7324173a1e48e18dbbd53aea0b652cc2db0b3cb826d55cdaae13b972b"), looks := false }, kinds := [], alts := [], laidByText := true, laidKinds := [.data], laidTests := true, laidLooks := .later }
def LangFirstCardSaid : Prop := Claim7.holds Tryd.pinned (.plain (OpenSpec.ofChange langFirstSpec)) langFirstCard

/-- THE TIED CARD OF 'scriptorylaw8.LangStar'. -/
def langStarCard : Claim7 := { stood := { row := langStarRow, standIns := [], harness := (true, "d8d313f7324173a1e48e18dbbd53aea0b652cc2db0b3cb826d55cdaae13b972b"), looks := false }, kinds := [], alts := [], laidByText := true, laidKinds := [.data], laidTests := true, laidLooks := .later }
def LangStarCardSaid : Prop := Claim7.holds Tryd.pinned (.plain (OpenSpec.ofChange langStarSpec)) langStarCard

/-- THE TIED CARD OF 'scriptorylaw8.LangSame'. -/
def langSameCard : Claim7 := { stood := { row := langSameRow, standIns := [], harness := (true, "d8d313f7324173a1e48e18dbbd53aea0b652cc2db0b3cb826d55cdaae13b972b"), looks := false }, kinds := [], alts := [], laidByText := true, laidKinds := [.data], laidTests := true, laidLooks := .later }
def LangSameCardSaid : Prop := Claim7.holds Tryd.pinned (.plain (OpenSpec.ofChange langSameSpec)) langSameCard

/-- THE TIED CARD OF 'scriptorylaw8.LangNone'. -/
def langNoneCard : Claim7 := { stood := { row := langNoneRow, standIns := [], harness := (true, "d8d313f7324173a1e48e18dbbd53aea0b652cc2db0b3cb826d55cdaae13b972b"), looks := false }, kinds := [], alts := [], laidByText := true, laidKinds := [.data], laidTests := true, laidLooks := .later }
def LangNoneCardSaid : Prop := Claim7.holds Tryd.pinned (.plain (OpenSpec.ofChange langNoneSpec)) langNoneCard

/-- THE SECOND FORM's CARD OF 'scriptorylaw9.ThompsonBuilds'. -/
def thompsonBuildsUptoCard : Claim7 := { stood := { row := thompsonBuildsUptoRow, standIns := [], harness := (true, "d8d313f7324173a1e48e18dbbd53aea0b652cc2db0b3cb826d55cdaae13b972b"), looks := false }, kinds := [], alts := [], laidByText := true, laidKinds := [.data], laidTests := true, laidLooks := .later }
def ThompsonBuildsUptoCardSaid : Prop := Claim7.holds Tryd.pinned (.plain (OpenSpec.upto thompsonBuildsSpec)) thompsonBuildsUptoCard

/-- THE SECOND FORM's CARD OF 'scriptorylaw9.ThompsonRefuses'. -/
def thompsonRefusesUptoCard : Claim7 := { stood := { row := thompsonRefusesUptoRow, standIns := [], harness := (true, "d8d313f7324173a1e48e18dbbd53aea0b652cc2db0b3cb826d55cdaae13b972b"), looks := false }, kinds := [], alts := [], laidByText := true, laidKinds := [.data], laidTests := true, laidLooks := .later }
def ThompsonRefusesUptoCardSaid : Prop := Claim7.holds Tryd.pinned (.plain (OpenSpec.upto thompsonRefusesSpec)) thompsonRefusesUptoCard

/-- THE SECOND FORM's CARD OF 'scriptorylaw9.ThompsonCloses'. -/
def thompsonClosesUptoCard : Claim7 := { stood := { row := thompsonClosesUptoRow, standIns := [], harness := (true, "d8d313f7324173a1e48e18dbbd53aea0b652cc2db0b3cb826d55cdaae13b972b"), looks := false }, kinds := [], alts := [], laidByText := true, laidKinds := [.data], laidTests := true, laidLooks := .later }
def ThompsonClosesUptoCardSaid : Prop := Claim7.holds Tryd.pinned (.plain (OpenSpec.upto thompsonClosesSpec)) thompsonClosesUptoCard

/-- THE SECOND FORM's CARD OF 'scriptorylaw9.ThompsonJoins'. -/
def thompsonJoinsUptoCard : Claim7 := { stood := { row := thompsonJoinsUptoRow, standIns := [], harness := (true, "d8d313f7324173a1e48e18dbbd53aea0b652cc2db0b3cb826d55cdaae13b972b"), looks := false }, kinds := [], alts := [], laidByText := true, laidKinds := [.data], laidTests := true, laidLooks := .later }
def ThompsonJoinsUptoCardSaid : Prop := Claim7.holds Tryd.pinned (.plain (OpenSpec.upto thompsonJoinsSpec)) thompsonJoinsUptoCard

/-- THE SECOND FORM's CARD OF 'scriptorylaw9.ThompsonRuns'. -/
def thompsonRunsUptoCard : Claim7 := { stood := { row := thompsonRunsUptoRow, standIns := [], harness := (true, "d8d313f7324173a1e48e18dbbd53aea0b652cc2db0b3cb826d55cdaae13b972b"), looks := false }, kinds := [], alts := [], laidByText := true, laidKinds := [.data], laidTests := true, laidLooks := .later }
def ThompsonRunsUptoCardSaid : Prop := Claim7.holds Tryd.pinned (.plain (OpenSpec.upto thompsonRunsSpec)) thompsonRunsUptoCard

/-- THE SECOND FORM's CARD OF 'scriptorylaw9.ThompsonGoes'. -/
def thompsonGoesUptoCard : Claim7 := { stood := { row := thompsonGoesUptoRow, standIns := [], harness := (true, "d8d313f7324173a1e48e18dbbd53aea0b652cc2db0b3cb826d55cdaae13b972b"), looks := false }, kinds := [], alts := [], laidByText := true, laidKinds := [.data], laidTests := true, laidLooks := .later }
def ThompsonGoesUptoCardSaid : Prop := Claim7.holds Tryd.pinned (.plain (OpenSpec.upto thompsonGoesSpec)) thompsonGoesUptoCard

/-- THE SECOND FORM's CARD OF 'scriptorylaw10.SubsetAll'. -/
def subsetAllUptoCard : Claim7 := { stood := { row := subsetAllUptoRow, standIns := [], harness := (true, "d8d313f7324173a1e48e18dbbd53aea0b652cc2db0b3cb826d55cdaae13b972b"), looks := false }, kinds := [], alts := [], laidByText := true, laidKinds := [.data], laidTests := true, laidLooks := .later }
def SubsetAllUptoCardSaid : Prop := Claim7.holds Tryd.pinned (.plain (OpenSpec.upto subsetAllSpec)) subsetAllUptoCard

/-- THE SECOND FORM's CARD OF 'scriptorylaw10.SubsetMade'. -/
def subsetMadeUptoCard : Claim7 := { stood := { row := subsetMadeUptoRow, standIns := [], harness := (true, "d8d313f7324173a1e48e18dbbd53aea0b652cc2db0b3cb826d55cdaae13b972b"), looks := false }, kinds := [], alts := [], laidByText := true, laidKinds := [.data], laidTests := true, laidLooks := .later }
def SubsetMadeUptoCardSaid : Prop := Claim7.holds Tryd.pinned (.plain (OpenSpec.upto subsetMadeSpec)) subsetMadeUptoCard

/-- THE SECOND FORM's CARD OF 'scriptorylaw10.SubsetRuns'. -/
def subsetRunsUptoCard : Claim7 := { stood := { row := subsetRunsUptoRow, standIns := [], harness := (true, "d8d313f7324173a1e48e18dbbd53aea0b652cc2db0b3cb826d55cdaae13b972b"), looks := false }, kinds := [], alts := [], laidByText := true, laidKinds := [.data], laidTests := true, laidLooks := .later }
def SubsetRunsUptoCardSaid : Prop := Claim7.holds Tryd.pinned (.plain (OpenSpec.upto subsetRunsSpec)) subsetRunsUptoCard

/-- THE SECOND FORM's CARD OF 'scriptorylaw10.SubsetBudget'. -/
def subsetBudgetUptoCard : Claim7 := { stood := { row := subsetBudgetUptoRow, standIns := [], harness := (true, "d8d313f7324173a1e48e18dbbd53aea0b652cc2db0b3cb826d55cdaae13b972b"), looks := false }, kinds := [], alts := [], laidByText := true, laidKinds := [.data], laidTests := true, laidLooks := .later }
def SubsetBudgetUptoCardSaid : Prop := Claim7.holds Tryd.pinned (.plain (OpenSpec.upto subsetBudgetSpec)) subsetBudgetUptoCard

/-- THE SECOND FORM's CARD OF 'scriptorylaw10.SubsetReach'. -/
def subsetReachUptoCard : Claim7 := { stood := { row := subsetReachUptoRow, standIns := [], harness := (true, "d8d313f7324173a1e48e18dbbd53aea0b652cc2db0b3cb826d55cdaae13b972b"), looks := false }, kinds := [], alts := [], laidByText := true, laidKinds := [.data], laidTests := true, laidLooks := .later }
def SubsetReachUptoCardSaid : Prop := Claim7.holds Tryd.pinned (.plain (OpenSpec.upto subsetReachSpec)) subsetReachUptoCard

/-- THE SECOND FORM's CARD OF 'scriptorylaw10.SubsetStep'. -/
def subsetStepUptoCard : Claim7 := { stood := { row := subsetStepUptoRow, standIns := [], harness := (true, "d8d313f7324173a1e48e18dbbd53aea0b652cc2db0b3cb826d55cdaae13b972b"), looks := false }, kinds := [], alts := [], laidByText := true, laidKinds := [.data], laidTests := true, laidLooks := .later }
def SubsetStepUptoCardSaid : Prop := Claim7.holds Tryd.pinned (.plain (OpenSpec.upto subsetStepSpec)) subsetStepUptoCard

/-- THE SECOND FORM's CARD OF 'scriptorylaw8.LangAll'. -/
def langAllUptoCard : Claim7 := { stood := { row := langAllUptoRow, standIns := [], harness := (true, "d8d313f7324173a1e48e18dbbd53aea0b652cc2db0b3cb826d55cdaae13b972b"), looks := false }, kinds := [], alts := [], laidByText := true, laidKinds := [.data], laidTests := true, laidLooks := .later }
def LangAllUptoCardSaid : Prop := Claim7.holds Tryd.pinned (.plain (OpenSpec.upto langAllSpec)) langAllUptoCard

/-- THE SECOND FORM's CARD OF 'scriptorylaw8.LangMade'. -/
def langMadeUptoCard : Claim7 := { stood := { row := langMadeUptoRow, standIns := [], harness := (true, "d8d313f7324173a1e48e18dbbd53aea0b652cc2db0b3cb826d55cdaae13b972b"), looks := false }, kinds := [], alts := [], laidByText := true, laidKinds := [.data], laidTests := true, laidLooks := .later }
def LangMadeUptoCardSaid : Prop := Claim7.holds Tryd.pinned (.plain (OpenSpec.upto langMadeSpec)) langMadeUptoCard

/-- THE SECOND FORM's CARD OF 'scriptorylaw8.LangSteps'. -/
def langStepsUptoCard : Claim7 := { stood := { row := langStepsUptoRow, standIns := [], harness := (true, "d8d313f7324173a1e48e18dbbd53aea0b652cc2db0b3cb826d55cdaae13b972b"), looks := false }, kinds := [], alts := [], laidByText := true, laidKinds := [.data], laidTests := true, laidLooks := .later }
def LangStepsUptoCardSaid : Prop := Claim7.holds Tryd.pinned (.plain (OpenSpec.upto langStepsSpec)) langStepsUptoCard

/-- THE SECOND FORM's CARD OF 'scriptorylaw8.LangMeans'. -/
def langMeansUptoCard : Claim7 := { stood := { row := langMeansUptoRow, standIns := [], harness := (true, "d8d313f7324173a1e48e18dbbd53aea0b652cc2db0b3cb826d55cdaae13b972b"), looks := false }, kinds := [], alts := [], laidByText := true, laidKinds := [.data], laidTests := true, laidLooks := .later }
def LangMeansUptoCardSaid : Prop := Claim7.holds Tryd.pinned (.plain (OpenSpec.upto langMeansSpec)) langMeansUptoCard

/-- THE SECOND FORM's CARD OF 'scriptorylaw8.LangFirst'. -/
def langFirstUptoCard : Claim7 := { stood := { row := langFirstUptoRow, standIns := [], harness := (true, "d8d313f7324173a1e48e18dbbd53aea0b652cc2db0b3cb826d55cdaae13b972b"), looks := false }, kinds := [], alts := [], laidByText := true, laidKinds := [.data], laidTests := true, laidLooks := .later }
def LangFirstUptoCardSaid : Prop := Claim7.holds Tryd.pinned (.plain (OpenSpec.upto langFirstSpec)) langFirstUptoCard

/-- THE SECOND FORM's CARD OF 'scriptorylaw8.LangStar'. -/
def langStarUptoCard : Claim7 := { stood := { row := langStarUptoRow, standIns := [], harness := (true, "d8d313f7324173a1e48e18dbbd53aea0b652cc2db0b3cb826d55cdaae13b972b"), looks := false }, kinds := [], alts := [], laidByText := true, laidKinds := [.data], laidTests := true, laidLooks := .later }
def LangStarUptoCardSaid : Prop := Claim7.holds Tryd.pinned (.plain (OpenSpec.upto langStarSpec)) langStarUptoCard

/-- THE SECOND FORM's CARD OF 'scriptorylaw8.LangSame'. -/
def langSameUptoCard : Claim7 := { stood := { row := langSameUptoRow, standIns := [], harness := (true, "d8d313f7324173a1e48e18dbbd53aea0b652cc2db0b3cb826d55cdaae13b972b"), looks := false }, kinds := [], alts := [], laidByText := true, laidKinds := [.data], laidTests := true, laidLooks := .later }
def LangSameUptoCardSaid : Prop := Claim7.holds Tryd.pinned (.plain (OpenSpec.upto langSameSpec)) langSameUptoCard

/-- THE SECOND FORM's CARD OF 'scriptorylaw8.LangNone'. -/
def langNoneUptoCard : Claim7 := { stood := { row := langNoneUptoRow, standIns := [], harness := (true, "d8d313f7324173a1e48e18dbbd53aea0b652cc2db0b3cb826d55cdaae13b972b"), looks := false }, kinds := [], alts := [], laidByText := true, laidKinds := [.data], laidTests := true, laidLooks := .later }
def LangNoneUptoCardSaid : Prop := Claim7.holds Tryd.pinned (.plain (OpenSpec.upto langNoneSpec)) langNoneUptoCard
end Rows
end Go.Proofs.YtfdgbghlanbddaaDoor
