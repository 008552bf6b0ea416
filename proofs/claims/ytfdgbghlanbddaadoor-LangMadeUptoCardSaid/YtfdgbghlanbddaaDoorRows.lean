/-
  NARROWER THAN 'FOR EVERY INPUT', by the rows' own cells (each row's printed sentence says how): ThompsonBuilds: laid · ThompsonRefuses: loops, laid · ThompsonCloses: laid · ThompsonJoins: laid · ThompsonRuns: laid · ThompsonGoes: laid · SubsetAll: laid · SubsetMade: laid · SubsetRuns: laid · SubsetBudget: laid · SubsetReach: laid · SubsetStep: laid · LangAll: loops, laid · LangMade: laid · LangSteps: laid · LangMeans: laid · LangFirst: laid · LangStar: laid · LangSame: laid · LangNone: laid.
  DERIVED. THE GIVEN ROWS OF THIS SEAT. 20 by the template 'for every input the law returns true; each argument reads behind the call as it read before'; 0 by the template 'total and deterministic' (their statements: YtfdgbghlanbddaaDoorTotals.lean).
  GIVEN WITH THE SEED: the statements are not yours to turn. If you find one false, say at which input.
  Laid BY PROGRAM, IN A SANDBOX (cutbox-rows.mjs): the forced cells as the released guide's own fill.sh prints them over the translation ab42655724c8b464… (all of the seat's roots in one cut). By AI agents, Wed Nov 11 2026. No macro, syntax, notation, axiom, sorry.
-/
import Derived.Test.YtfdgbghlanbddaaDoorChecked
import GoSem.Claim
import GoSem.ClaimJoined
import GoSem.ClaimMapViews
import Derived.JoinedTies
import Derived.KernelRfl
namespace Go.Proofs.YtfdgbghlanbddaaDoor
/- THE CELL 'sum', in the pinned program and in every row, IS THE sha256 OF THE DUMP (.gsa) THAT YtfdgbghlanbddaaDoorProg.lean LOADS. Nothing in Lean hashes anything: it is a label: what it is worth is what the hold of that sum in a sandbox is worth. -/
noncomputable def Tryd.pinned : Pinned := { name := "ytfdgbghlanbddaadoor", sum := "ab42655724c8b464a3f82b8e5587359888b6bbecd7b664ef64cb21d83f1c1bee", checked := Tryd.checked }
namespace Rows
def none {H : Type} : Left H := { results := [], args := [] }

/- WHAT THE LISTED PACKAGE-LEVEL VARIABLES READ AS WHEN THE CALL BEGINS. Each datum BY PROGRAM (the guide's laid-datum.mjs) off the statement by which the dump's own 'gosem.cut.vars' lays the variable. In a bare row this is a premise. The card (YtfdgbghlanbddaaDoorCards.lean) ties it to the program's text. -/
def laid_math_bits_deBruijn64tab {H : Type} : DataW H := .agg [.lit (.int .u8 0), .lit (.int .u8 1), .lit (.int .u8 56), .lit (.int .u8 2), .lit (.int .u8 57), .lit (.int .u8 49), .lit (.int .u8 28), .lit (.int .u8 3), .lit (.int .u8 61), .lit (.int .u8 58), .lit (.int .u8 42), .lit (.int .u8 50), .lit (.int .u8 38), .lit (.int .u8 29), .lit (.int .u8 17), .lit (.int .u8 4), .lit (.int .u8 62), .lit (.int .u8 47), .lit (.int .u8 59), .lit (.int .u8 36), .lit (.int .u8 45), .lit (.int .u8 43), .lit (.int .u8 51), .lit (.int .u8 22), .lit (.int .u8 53), .lit (.int .u8 39), .lit (.int .u8 33), .lit (.int .u8 30), .lit (.int .u8 24), .lit (.int .u8 18), .lit (.int .u8 12), .lit (.int .u8 5), .lit (.int .u8 63), .lit (.int .u8 55), .lit (.int .u8 48), .lit (.int .u8 27), .lit (.int .u8 60), .lit (.int .u8 41), .lit (.int .u8 37), .lit (.int .u8 16), .lit (.int .u8 46), .lit (.int .u8 35), .lit (.int .u8 44), .lit (.int .u8 21), .lit (.int .u8 52), .lit (.int .u8 32), .lit (.int .u8 23), .lit (.int .u8 11), .lit (.int .u8 54), .lit (.int .u8 26), .lit (.int .u8 40), .lit (.int .u8 15), .lit (.int .u8 34), .lit (.int .u8 20), .lit (.int .u8 31), .lit (.int .u8 10), .lit (.int .u8 25), .lit (.int .u8 14), .lit (.int .u8 19), .lit (.int .u8 9), .lit (.int .u8 13), .lit (.int .u8 8), .lit (.int .u8 7), .lit (.int .u8 6)]

/-- 'scriptorylaw9.ThompsonBuilds': WHATEVER THE INPUT: true; the input reads as it did. -/
def thompsonBuildsSpec : ChangeSpec := { name := "thompsonBuilds", fn := fun _ => fun
  | [d1, d2] => { results := [.lit (.bool true)], args := [d1, d2] }
  | _ => none }
def thompsonBuildsRow : OpenClaim := { program := "ytfdgbghlanbddaadoor", sum := "ab42655724c8b464a3f82b8e5587359888b6bbecd7b664ef64cb21d83f1c1bee", func := "scriptory/scriptorylaw9.ThompsonBuilds", spec := "thompsonBuilds", unfollowed := true, recurses := true, named := ["math/bits.deBruijn64tab"], apart := false, laid := [("math/bits.deBruijn64tab", laid_math_bits_deBruijn64tab)] }
def ThompsonBuildsSaid : Prop := thompsonBuildsRow.holds Tryd.pinned (OpenSpec.ofChange thompsonBuildsSpec)

/-- ITS FALSE NEIGHBOUR: 'it returns false'. Refute it at one input. -/
def thompsonBuildsWrong : ChangeSpec := { name := "thompsonBuilds", fn := fun _ => fun
  | [d1, d2] => { results := [.lit (.bool false)], args := [d1, d2] }
  | _ => none }
def ThompsonBuildsWrongFalsely : Prop := thompsonBuildsRow.holds Tryd.pinned (OpenSpec.ofChange thompsonBuildsWrong)

/-- 'scriptorylaw9.ThompsonRefuses': WHATEVER THE INPUT: true; the input reads as it did. -/
def thompsonRefusesSpec : ChangeSpec := { name := "thompsonRefuses", fn := fun _ => fun
  | [d] => { results := [.lit (.bool true)], args := [d] }
  | _ => none }
def thompsonRefusesRow : OpenClaim := { program := "ytfdgbghlanbddaadoor", sum := "ab42655724c8b464a3f82b8e5587359888b6bbecd7b664ef64cb21d83f1c1bee", func := "scriptory/scriptorylaw9.ThompsonRefuses", spec := "thompsonRefuses", unfollowed := true, recurses := true, named := ["math/bits.deBruijn64tab"], loops := true, apart := false, laid := [("math/bits.deBruijn64tab", laid_math_bits_deBruijn64tab)] }
def ThompsonRefusesSaid : Prop := thompsonRefusesRow.holds Tryd.pinned (OpenSpec.ofChange thompsonRefusesSpec)

/-- ITS FALSE NEIGHBOUR: 'it returns false'. Refute it at one input. -/
def thompsonRefusesWrong : ChangeSpec := { name := "thompsonRefuses", fn := fun _ => fun
  | [d] => { results := [.lit (.bool false)], args := [d] }
  | _ => none }
def ThompsonRefusesWrongFalsely : Prop := thompsonRefusesRow.holds Tryd.pinned (OpenSpec.ofChange thompsonRefusesWrong)

/-- 'scriptorylaw9.ThompsonCloses': WHATEVER THE INPUT: true; the input reads as it did. -/
def thompsonClosesSpec : ChangeSpec := { name := "thompsonCloses", fn := fun _ => fun
  | [d1, d2, d3] => { results := [.lit (.bool true)], args := [d1, d2, d3] }
  | _ => none }
def thompsonClosesRow : OpenClaim := { program := "ytfdgbghlanbddaadoor", sum := "ab42655724c8b464a3f82b8e5587359888b6bbecd7b664ef64cb21d83f1c1bee", func := "scriptory/scriptorylaw9.ThompsonCloses", spec := "thompsonCloses", unfollowed := true, recurses := true, named := ["math/bits.deBruijn64tab"], apart := false, laid := [("math/bits.deBruijn64tab", laid_math_bits_deBruijn64tab)] }
def ThompsonClosesSaid : Prop := thompsonClosesRow.holds Tryd.pinned (OpenSpec.ofChange thompsonClosesSpec)

/-- ITS FALSE NEIGHBOUR: 'it returns false'. Refute it at one input. -/
def thompsonClosesWrong : ChangeSpec := { name := "thompsonCloses", fn := fun _ => fun
  | [d1, d2, d3] => { results := [.lit (.bool false)], args := [d1, d2, d3] }
  | _ => none }
def ThompsonClosesWrongFalsely : Prop := thompsonClosesRow.holds Tryd.pinned (OpenSpec.ofChange thompsonClosesWrong)

/-- 'scriptorylaw9.ThompsonJoins': WHATEVER THE INPUT: true; the input reads as it did. -/
def thompsonJoinsSpec : ChangeSpec := { name := "thompsonJoins", fn := fun _ => fun
  | [d1, d2, d3] => { results := [.lit (.bool true)], args := [d1, d2, d3] }
  | _ => none }
def thompsonJoinsRow : OpenClaim := { program := "ytfdgbghlanbddaadoor", sum := "ab42655724c8b464a3f82b8e5587359888b6bbecd7b664ef64cb21d83f1c1bee", func := "scriptory/scriptorylaw9.ThompsonJoins", spec := "thompsonJoins", unfollowed := true, recurses := true, named := ["math/bits.deBruijn64tab"], apart := false, laid := [("math/bits.deBruijn64tab", laid_math_bits_deBruijn64tab)] }
def ThompsonJoinsSaid : Prop := thompsonJoinsRow.holds Tryd.pinned (OpenSpec.ofChange thompsonJoinsSpec)

/-- ITS FALSE NEIGHBOUR: 'it returns false'. Refute it at one input. -/
def thompsonJoinsWrong : ChangeSpec := { name := "thompsonJoins", fn := fun _ => fun
  | [d1, d2, d3] => { results := [.lit (.bool false)], args := [d1, d2, d3] }
  | _ => none }
def ThompsonJoinsWrongFalsely : Prop := thompsonJoinsRow.holds Tryd.pinned (OpenSpec.ofChange thompsonJoinsWrong)

/-- 'scriptorylaw9.ThompsonRuns': WHATEVER THE INPUT: true; the input reads as it did. -/
def thompsonRunsSpec : ChangeSpec := { name := "thompsonRuns", fn := fun _ => fun
  | [d1, d2, d3, d4] => { results := [.lit (.bool true)], args := [d1, d2, d3, d4] }
  | _ => none }
def thompsonRunsRow : OpenClaim := { program := "ytfdgbghlanbddaadoor", sum := "ab42655724c8b464a3f82b8e5587359888b6bbecd7b664ef64cb21d83f1c1bee", func := "scriptory/scriptorylaw9.ThompsonRuns", spec := "thompsonRuns", unfollowed := true, recurses := true, named := ["math/bits.deBruijn64tab"], apart := false, laid := [("math/bits.deBruijn64tab", laid_math_bits_deBruijn64tab)] }
def ThompsonRunsSaid : Prop := thompsonRunsRow.holds Tryd.pinned (OpenSpec.ofChange thompsonRunsSpec)

/-- ITS FALSE NEIGHBOUR: 'it returns false'. Refute it at one input. -/
def thompsonRunsWrong : ChangeSpec := { name := "thompsonRuns", fn := fun _ => fun
  | [d1, d2, d3, d4] => { results := [.lit (.bool false)], args := [d1, d2, d3, d4] }
  | _ => none }
def ThompsonRunsWrongFalsely : Prop := thompsonRunsRow.holds Tryd.pinned (OpenSpec.ofChange thompsonRunsWrong)

/-- 'scriptorylaw9.ThompsonGoes': WHATEVER THE INPUT: true; the input reads as it did. -/
def thompsonGoesSpec : ChangeSpec := { name := "thompsonGoes", fn := fun _ => fun
  | [d1, d2] => { results := [.lit (.bool true)], args := [d1, d2] }
  | _ => none }
def thompsonGoesRow : OpenClaim := { program := "ytfdgbghlanbddaadoor", sum := "ab42655724c8b464a3f82b8e5587359888b6bbecd7b664ef64cb21d83f1c1bee", func := "scriptory/scriptorylaw9.ThompsonGoes", spec := "thompsonGoes", unfollowed := true, recurses := true, named := ["math/bits.deBruijn64tab"], apart := false, laid := [("math/bits.deBruijn64tab", laid_math_bits_deBruijn64tab)] }
def ThompsonGoesSaid : Prop := thompsonGoesRow.holds Tryd.pinned (OpenSpec.ofChange thompsonGoesSpec)

/-- ITS FALSE NEIGHBOUR: 'it returns false'. Refute it at one input. -/
def thompsonGoesWrong : ChangeSpec := { name := "thompsonGoes", fn := fun _ => fun
  | [d1, d2] => { results := [.lit (.bool false)], args := [d1, d2] }
  | _ => none }
def ThompsonGoesWrongFalsely : Prop := thompsonGoesRow.holds Tryd.pinned (OpenSpec.ofChange thompsonGoesWrong)

/-- 'scriptorylaw10.SubsetAll': WHATEVER THE INPUT: true; the input reads as it did. -/
def subsetAllSpec : ChangeSpec := { name := "subsetAll", fn := fun _ => fun
  | [d1, d2] => { results := [.lit (.bool true)], args := [d1, d2] }
  | _ => none }
def subsetAllRow : OpenClaim := { program := "ytfdgbghlanbddaadoor", sum := "ab42655724c8b464a3f82b8e5587359888b6bbecd7b664ef64cb21d83f1c1bee", func := "scriptory/scriptorylaw10.SubsetAll", spec := "subsetAll", unfollowed := true, recurses := true, named := ["math/bits.deBruijn64tab"], apart := false, laid := [("math/bits.deBruijn64tab", laid_math_bits_deBruijn64tab)] }
def SubsetAllSaid : Prop := subsetAllRow.holds Tryd.pinned (OpenSpec.ofChange subsetAllSpec)

/-- ITS FALSE NEIGHBOUR: 'it returns false'. Refute it at one input. -/
def subsetAllWrong : ChangeSpec := { name := "subsetAll", fn := fun _ => fun
  | [d1, d2] => { results := [.lit (.bool false)], args := [d1, d2] }
  | _ => none }
def SubsetAllWrongFalsely : Prop := subsetAllRow.holds Tryd.pinned (OpenSpec.ofChange subsetAllWrong)

/-- 'scriptorylaw10.SubsetMade': WHATEVER THE INPUT: true; the input reads as it did. -/
def subsetMadeSpec : ChangeSpec := { name := "subsetMade", fn := fun _ => fun
  | [d1, d2] => { results := [.lit (.bool true)], args := [d1, d2] }
  | _ => none }
def subsetMadeRow : OpenClaim := { program := "ytfdgbghlanbddaadoor", sum := "ab42655724c8b464a3f82b8e5587359888b6bbecd7b664ef64cb21d83f1c1bee", func := "scriptory/scriptorylaw10.SubsetMade", spec := "subsetMade", unfollowed := true, recurses := true, named := ["math/bits.deBruijn64tab"], apart := false, laid := [("math/bits.deBruijn64tab", laid_math_bits_deBruijn64tab)] }
def SubsetMadeSaid : Prop := subsetMadeRow.holds Tryd.pinned (OpenSpec.ofChange subsetMadeSpec)

/-- ITS FALSE NEIGHBOUR: 'it returns false'. Refute it at one input. -/
def subsetMadeWrong : ChangeSpec := { name := "subsetMade", fn := fun _ => fun
  | [d1, d2] => { results := [.lit (.bool false)], args := [d1, d2] }
  | _ => none }
def SubsetMadeWrongFalsely : Prop := subsetMadeRow.holds Tryd.pinned (OpenSpec.ofChange subsetMadeWrong)

/-- 'scriptorylaw10.SubsetRuns': WHATEVER THE INPUT: true; the input reads as it did. -/
def subsetRunsSpec : ChangeSpec := { name := "subsetRuns", fn := fun _ => fun
  | [d1, d2] => { results := [.lit (.bool true)], args := [d1, d2] }
  | _ => none }
def subsetRunsRow : OpenClaim := { program := "ytfdgbghlanbddaadoor", sum := "ab42655724c8b464a3f82b8e5587359888b6bbecd7b664ef64cb21d83f1c1bee", func := "scriptory/scriptorylaw10.SubsetRuns", spec := "subsetRuns", unfollowed := true, recurses := true, named := ["math/bits.deBruijn64tab"], apart := false, laid := [("math/bits.deBruijn64tab", laid_math_bits_deBruijn64tab)] }
def SubsetRunsSaid : Prop := subsetRunsRow.holds Tryd.pinned (OpenSpec.ofChange subsetRunsSpec)

/-- ITS FALSE NEIGHBOUR: 'it returns false'. Refute it at one input. -/
def subsetRunsWrong : ChangeSpec := { name := "subsetRuns", fn := fun _ => fun
  | [d1, d2] => { results := [.lit (.bool false)], args := [d1, d2] }
  | _ => none }
def SubsetRunsWrongFalsely : Prop := subsetRunsRow.holds Tryd.pinned (OpenSpec.ofChange subsetRunsWrong)

/-- 'scriptorylaw10.SubsetBudget': WHATEVER THE INPUT: true; the input reads as it did. -/
def subsetBudgetSpec : ChangeSpec := { name := "subsetBudget", fn := fun _ => fun
  | [d1, d2] => { results := [.lit (.bool true)], args := [d1, d2] }
  | _ => none }
def subsetBudgetRow : OpenClaim := { program := "ytfdgbghlanbddaadoor", sum := "ab42655724c8b464a3f82b8e5587359888b6bbecd7b664ef64cb21d83f1c1bee", func := "scriptory/scriptorylaw10.SubsetBudget", spec := "subsetBudget", unfollowed := true, recurses := true, named := ["math/bits.deBruijn64tab"], apart := false, laid := [("math/bits.deBruijn64tab", laid_math_bits_deBruijn64tab)] }
def SubsetBudgetSaid : Prop := subsetBudgetRow.holds Tryd.pinned (OpenSpec.ofChange subsetBudgetSpec)

/-- ITS FALSE NEIGHBOUR: 'it returns false'. Refute it at one input. -/
def subsetBudgetWrong : ChangeSpec := { name := "subsetBudget", fn := fun _ => fun
  | [d1, d2] => { results := [.lit (.bool false)], args := [d1, d2] }
  | _ => none }
def SubsetBudgetWrongFalsely : Prop := subsetBudgetRow.holds Tryd.pinned (OpenSpec.ofChange subsetBudgetWrong)

/-- 'scriptorylaw10.SubsetReach': WHATEVER THE INPUT: true; the input reads as it did. -/
def subsetReachSpec : ChangeSpec := { name := "subsetReach", fn := fun _ => fun
  | [d] => { results := [.lit (.bool true)], args := [d] }
  | _ => none }
def subsetReachRow : OpenClaim := { program := "ytfdgbghlanbddaadoor", sum := "ab42655724c8b464a3f82b8e5587359888b6bbecd7b664ef64cb21d83f1c1bee", func := "scriptory/scriptorylaw10.SubsetReach", spec := "subsetReach", unfollowed := true, recurses := true, named := ["math/bits.deBruijn64tab"], apart := false, laid := [("math/bits.deBruijn64tab", laid_math_bits_deBruijn64tab)] }
def SubsetReachSaid : Prop := subsetReachRow.holds Tryd.pinned (OpenSpec.ofChange subsetReachSpec)

/-- ITS FALSE NEIGHBOUR: 'it returns false'. Refute it at one input. -/
def subsetReachWrong : ChangeSpec := { name := "subsetReach", fn := fun _ => fun
  | [d] => { results := [.lit (.bool false)], args := [d] }
  | _ => none }
def SubsetReachWrongFalsely : Prop := subsetReachRow.holds Tryd.pinned (OpenSpec.ofChange subsetReachWrong)

/-- 'scriptorylaw10.SubsetStep': WHATEVER THE INPUT: true; the input reads as it did. -/
def subsetStepSpec : ChangeSpec := { name := "subsetStep", fn := fun _ => fun
  | [d1, d2, d3] => { results := [.lit (.bool true)], args := [d1, d2, d3] }
  | _ => none }
def subsetStepRow : OpenClaim := { program := "ytfdgbghlanbddaadoor", sum := "ab42655724c8b464a3f82b8e5587359888b6bbecd7b664ef64cb21d83f1c1bee", func := "scriptory/scriptorylaw10.SubsetStep", spec := "subsetStep", unfollowed := true, recurses := true, named := ["math/bits.deBruijn64tab"], apart := false, laid := [("math/bits.deBruijn64tab", laid_math_bits_deBruijn64tab)] }
def SubsetStepSaid : Prop := subsetStepRow.holds Tryd.pinned (OpenSpec.ofChange subsetStepSpec)

/-- ITS FALSE NEIGHBOUR: 'it returns false'. Refute it at one input. -/
def subsetStepWrong : ChangeSpec := { name := "subsetStep", fn := fun _ => fun
  | [d1, d2, d3] => { results := [.lit (.bool false)], args := [d1, d2, d3] }
  | _ => none }
def SubsetStepWrongFalsely : Prop := subsetStepRow.holds Tryd.pinned (OpenSpec.ofChange subsetStepWrong)

/-- 'scriptorylaw8.LangAll': WHATEVER THE INPUT: true; the input reads as it did. -/
def langAllSpec : ChangeSpec := { name := "langAll", fn := fun _ => fun
  | [d1, d2] => { results := [.lit (.bool true)], args := [d1, d2] }
  | _ => none }
def langAllRow : OpenClaim := { program := "ytfdgbghlanbddaadoor", sum := "ab42655724c8b464a3f82b8e5587359888b6bbecd7b664ef64cb21d83f1c1bee", func := "scriptory/scriptorylaw8.LangAll", spec := "langAll", unfollowed := true, recurses := true, named := ["math/bits.deBruijn64tab"], loops := true, apart := false, laid := [("math/bits.deBruijn64tab", laid_math_bits_deBruijn64tab)] }
def LangAllSaid : Prop := langAllRow.holds Tryd.pinned (OpenSpec.ofChange langAllSpec)

/-- ITS FALSE NEIGHBOUR: 'it returns false'. Refute it at one input. -/
def langAllWrong : ChangeSpec := { name := "langAll", fn := fun _ => fun
  | [d1, d2] => { results := [.lit (.bool false)], args := [d1, d2] }
  | _ => none }
def LangAllWrongFalsely : Prop := langAllRow.holds Tryd.pinned (OpenSpec.ofChange langAllWrong)

/-- 'scriptorylaw8.LangMade': WHATEVER THE INPUT: true; the input reads as it did. -/
def langMadeSpec : ChangeSpec := { name := "langMade", fn := fun _ => fun
  | [d1, d2, d3] => { results := [.lit (.bool true)], args := [d1, d2, d3] }
  | _ => none }
def langMadeRow : OpenClaim := { program := "ytfdgbghlanbddaadoor", sum := "ab42655724c8b464a3f82b8e5587359888b6bbecd7b664ef64cb21d83f1c1bee", func := "scriptory/scriptorylaw8.LangMade", spec := "langMade", unfollowed := true, recurses := true, named := ["math/bits.deBruijn64tab"], apart := false, laid := [("math/bits.deBruijn64tab", laid_math_bits_deBruijn64tab)] }
def LangMadeSaid : Prop := langMadeRow.holds Tryd.pinned (OpenSpec.ofChange langMadeSpec)

/-- ITS FALSE NEIGHBOUR: 'it returns false'. Refute it at one input. -/
def langMadeWrong : ChangeSpec := { name := "langMade", fn := fun _ => fun
  | [d1, d2, d3] => { results := [.lit (.bool false)], args := [d1, d2, d3] }
  | _ => none }
def LangMadeWrongFalsely : Prop := langMadeRow.holds Tryd.pinned (OpenSpec.ofChange langMadeWrong)

/-- 'scriptorylaw8.LangSteps': WHATEVER THE INPUT: true; the input reads as it did. -/
def langStepsSpec : ChangeSpec := { name := "langSteps", fn := fun _ => fun
  | [d1, d2] => { results := [.lit (.bool true)], args := [d1, d2] }
  | _ => none }
def langStepsRow : OpenClaim := { program := "ytfdgbghlanbddaadoor", sum := "ab42655724c8b464a3f82b8e5587359888b6bbecd7b664ef64cb21d83f1c1bee", func := "scriptory/scriptorylaw8.LangSteps", spec := "langSteps", unfollowed := true, recurses := true, named := ["math/bits.deBruijn64tab"], apart := false, laid := [("math/bits.deBruijn64tab", laid_math_bits_deBruijn64tab)] }
def LangStepsSaid : Prop := langStepsRow.holds Tryd.pinned (OpenSpec.ofChange langStepsSpec)

/-- ITS FALSE NEIGHBOUR: 'it returns false'. Refute it at one input. -/
def langStepsWrong : ChangeSpec := { name := "langSteps", fn := fun _ => fun
  | [d1, d2] => { results := [.lit (.bool false)], args := [d1, d2] }
  | _ => none }
def LangStepsWrongFalsely : Prop := langStepsRow.holds Tryd.pinned (OpenSpec.ofChange langStepsWrong)

/-- 'scriptorylaw8.LangMeans': WHATEVER THE INPUT: true; the input reads as it did. -/
def langMeansSpec : ChangeSpec := { name := "langMeans", fn := fun _ => fun
  | [d1, d2, d3] => { results := [.lit (.bool true)], args := [d1, d2, d3] }
  | _ => none }
def langMeansRow : OpenClaim := { program := "ytfdgbghlanbddaadoor", sum := "ab42655724c8b464a3f82b8e5587359888b6bbecd7b664ef64cb21d83f1c1bee", func := "scriptory/scriptorylaw8.LangMeans", spec := "langMeans", unfollowed := true, recurses := true, named := ["math/bits.deBruijn64tab"], apart := false, laid := [("math/bits.deBruijn64tab", laid_math_bits_deBruijn64tab)] }
def LangMeansSaid : Prop := langMeansRow.holds Tryd.pinned (OpenSpec.ofChange langMeansSpec)

/-- ITS FALSE NEIGHBOUR: 'it returns false'. Refute it at one input. -/
def langMeansWrong : ChangeSpec := { name := "langMeans", fn := fun _ => fun
  | [d1, d2, d3] => { results := [.lit (.bool false)], args := [d1, d2, d3] }
  | _ => none }
def LangMeansWrongFalsely : Prop := langMeansRow.holds Tryd.pinned (OpenSpec.ofChange langMeansWrong)

/-- 'scriptorylaw8.LangFirst': WHATEVER THE INPUT: true; the input reads as it did. -/
def langFirstSpec : ChangeSpec := { name := "langFirst", fn := fun _ => fun
  | [d1, d2] => { results := [.lit (.bool true)], args := [d1, d2] }
  | _ => none }
def langFirstRow : OpenClaim := { program := "ytfdgbghlanbddaadoor", sum := "ab42655724c8b464a3f82b8e5587359888b6bbecd7b664ef64cb21d83f1c1bee", func := "scriptory/scriptorylaw8.LangFirst", spec := "langFirst", unfollowed := true, recurses := true, named := ["math/bits.deBruijn64tab"], apart := false, laid := [("math/bits.deBruijn64tab", laid_math_bits_deBruijn64tab)] }
def LangFirstSaid : Prop := langFirstRow.holds Tryd.pinned (OpenSpec.ofChange langFirstSpec)

/-- ITS FALSE NEIGHBOUR: 'it returns false'. Refute it at one input. -/
def langFirstWrong : ChangeSpec := { name := "langFirst", fn := fun _ => fun
  | [d1, d2] => { results := [.lit (.bool false)], args := [d1, d2] }
  | _ => none }
def LangFirstWrongFalsely : Prop := langFirstRow.holds Tryd.pinned (OpenSpec.ofChange langFirstWrong)

/-- 'scriptorylaw8.LangStar': WHATEVER THE INPUT: true; the input reads as it did. -/
def langStarSpec : ChangeSpec := { name := "langStar", fn := fun _ => fun
  | [d1, d2] => { results := [.lit (.bool true)], args := [d1, d2] }
  | _ => none }
def langStarRow : OpenClaim := { program := "ytfdgbghlanbddaadoor", sum := "ab42655724c8b464a3f82b8e5587359888b6bbecd7b664ef64cb21d83f1c1bee", func := "scriptory/scriptorylaw8.LangStar", spec := "langStar", unfollowed := true, recurses := true, named := ["math/bits.deBruijn64tab"], apart := false, laid := [("math/bits.deBruijn64tab", laid_math_bits_deBruijn64tab)] }
def LangStarSaid : Prop := langStarRow.holds Tryd.pinned (OpenSpec.ofChange langStarSpec)

/-- ITS FALSE NEIGHBOUR: 'it returns false'. Refute it at one input. -/
def langStarWrong : ChangeSpec := { name := "langStar", fn := fun _ => fun
  | [d1, d2] => { results := [.lit (.bool false)], args := [d1, d2] }
  | _ => none }
def LangStarWrongFalsely : Prop := langStarRow.holds Tryd.pinned (OpenSpec.ofChange langStarWrong)

/-- 'scriptorylaw8.LangSame': WHATEVER THE INPUT: true; the input reads as it did. -/
def langSameSpec : ChangeSpec := { name := "langSame", fn := fun _ => fun
  | [d1, d2, d3, d4] => { results := [.lit (.bool true)], args := [d1, d2, d3, d4] }
  | _ => none }
def langSameRow : OpenClaim := { program := "ytfdgbghlanbddaadoor", sum := "ab42655724c8b464a3f82b8e5587359888b6bbecd7b664ef64cb21d83f1c1bee", func := "scriptory/scriptorylaw8.LangSame", spec := "langSame", unfollowed := true, recurses := true, named := ["math/bits.deBruijn64tab"], apart := false, laid := [("math/bits.deBruijn64tab", laid_math_bits_deBruijn64tab)] }
def LangSameSaid : Prop := langSameRow.holds Tryd.pinned (OpenSpec.ofChange langSameSpec)

/-- ITS FALSE NEIGHBOUR: 'it returns false'. Refute it at one input. -/
def langSameWrong : ChangeSpec := { name := "langSame", fn := fun _ => fun
  | [d1, d2, d3, d4] => { results := [.lit (.bool false)], args := [d1, d2, d3, d4] }
  | _ => none }
def LangSameWrongFalsely : Prop := langSameRow.holds Tryd.pinned (OpenSpec.ofChange langSameWrong)

/-- 'scriptorylaw8.LangNone': WHATEVER THE INPUT: true; the input reads as it did. -/
def langNoneSpec : ChangeSpec := { name := "langNone", fn := fun _ => fun
  | [d] => { results := [.lit (.bool true)], args := [d] }
  | _ => none }
def langNoneRow : OpenClaim := { program := "ytfdgbghlanbddaadoor", sum := "ab42655724c8b464a3f82b8e5587359888b6bbecd7b664ef64cb21d83f1c1bee", func := "scriptory/scriptorylaw8.LangNone", spec := "langNone", unfollowed := true, recurses := true, named := ["math/bits.deBruijn64tab"], apart := false, laid := [("math/bits.deBruijn64tab", laid_math_bits_deBruijn64tab)] }
def LangNoneSaid : Prop := langNoneRow.holds Tryd.pinned (OpenSpec.ofChange langNoneSpec)

/-- ITS FALSE NEIGHBOUR: 'it returns false'. Refute it at one input. -/
def langNoneWrong : ChangeSpec := { name := "langNone", fn := fun _ => fun
  | [d] => { results := [.lit (.bool false)], args := [d] }
  | _ => none }
def LangNoneWrongFalsely : Prop := langNoneRow.holds Tryd.pinned (OpenSpec.ofChange langNoneWrong)

/- THE SECOND FORM. 'bulk': how many values and letters a reading holds, each counted each time it is reached (what is shared counts as often as it is met; a slice's spare places count too). A statement '..UptoSaid' is the law's where the arguments, and the package variables that the reading takes, are together of bulk at most 1048576: NARROWER than '..Said'. Prove '..Said' where nothing that the law and all that it calls make is longer than what came in: it says more and counts as full. Else prove '..UptoSaid'. A law counts once. -/
mutual
def uptoBulk {H : Type} : DataW H → Nat
  | .lit (.string bytes) => bytes.length + 1
  | .lit _ => 1
  | .nil => 1
  | .ptr d => uptoBulk d + 1
  | .slice elems spare => uptoBulkAll elems + uptoBulkAll spare + 1
  | .agg parts => uptoBulkAll parts + 1
  | .iface _ d => uptoBulk d + 1
  | .map entries => uptoBulkEntries entries + 1
  | .held _ => 1
def uptoBulkAll {H : Type} : List (DataW H) → Nat
  | [] => 0
  | d :: r => uptoBulk d + uptoBulkAll r
def uptoBulkEntries {H : Type} : List (Lit × DataW H) → Nat
  | [] => 0
  | x :: r => uptoBulkEntry x + uptoBulkEntries r
def uptoBulkEntry {H : Type} : Lit × DataW H → Nat
  | (.string bytes, d) => bytes.length + uptoBulk d + 1
  | (_, d) => uptoBulk d + 1
 end
def uptoSmall : (H : Type) → List (DataW H) → Bool := fun _ ds => decide (uptoBulkAll ds ≤ 1048576)
def OpenSpec.upto (s : _root_.Go.ChangeSpec) : _root_.Go.OpenSpec := { _root_.Go.OpenSpec.ofChange s with cond := some uptoSmall }

/-- 'scriptorylaw9.ThompsonBuilds', WHERE WHAT IT READS IS OF BULK AT MOST 1048576: true; the input reads as it did. -/
def thompsonBuildsUptoRow : OpenClaim := { program := "ytfdgbghlanbddaadoor", sum := "ab42655724c8b464a3f82b8e5587359888b6bbecd7b664ef64cb21d83f1c1bee", func := "scriptory/scriptorylaw9.ThompsonBuilds", spec := "thompsonBuilds", unfollowed := true, recurses := true, named := ["math/bits.deBruijn64tab"], apart := false, laid := [("math/bits.deBruijn64tab", laid_math_bits_deBruijn64tab)], narrowed := true }
def ThompsonBuildsUptoSaid : Prop := thompsonBuildsUptoRow.holds Tryd.pinned (OpenSpec.upto thompsonBuildsSpec)

/-- 'scriptorylaw9.ThompsonRefuses', WHERE WHAT IT READS IS OF BULK AT MOST 1048576: true; the input reads as it did. -/
def thompsonRefusesUptoRow : OpenClaim := { program := "ytfdgbghlanbddaadoor", sum := "ab42655724c8b464a3f82b8e5587359888b6bbecd7b664ef64cb21d83f1c1bee", func := "scriptory/scriptorylaw9.ThompsonRefuses", spec := "thompsonRefuses", unfollowed := true, recurses := true, named := ["math/bits.deBruijn64tab"], loops := true, apart := false, laid := [("math/bits.deBruijn64tab", laid_math_bits_deBruijn64tab)], narrowed := true }
def ThompsonRefusesUptoSaid : Prop := thompsonRefusesUptoRow.holds Tryd.pinned (OpenSpec.upto thompsonRefusesSpec)

/-- 'scriptorylaw9.ThompsonCloses', WHERE WHAT IT READS IS OF BULK AT MOST 1048576: true; the input reads as it did. -/
def thompsonClosesUptoRow : OpenClaim := { program := "ytfdgbghlanbddaadoor", sum := "ab42655724c8b464a3f82b8e5587359888b6bbecd7b664ef64cb21d83f1c1bee", func := "scriptory/scriptorylaw9.ThompsonCloses", spec := "thompsonCloses", unfollowed := true, recurses := true, named := ["math/bits.deBruijn64tab"], apart := false, laid := [("math/bits.deBruijn64tab", laid_math_bits_deBruijn64tab)], narrowed := true }
def ThompsonClosesUptoSaid : Prop := thompsonClosesUptoRow.holds Tryd.pinned (OpenSpec.upto thompsonClosesSpec)

/-- 'scriptorylaw9.ThompsonJoins', WHERE WHAT IT READS IS OF BULK AT MOST 1048576: true; the input reads as it did. -/
def thompsonJoinsUptoRow : OpenClaim := { program := "ytfdgbghlanbddaadoor", sum := "ab42655724c8b464a3f82b8e5587359888b6bbecd7b664ef64cb21d83f1c1bee", func := "scriptory/scriptorylaw9.ThompsonJoins", spec := "thompsonJoins", unfollowed := true, recurses := true, named := ["math/bits.deBruijn64tab"], apart := false, laid := [("math/bits.deBruijn64tab", laid_math_bits_deBruijn64tab)], narrowed := true }
def ThompsonJoinsUptoSaid : Prop := thompsonJoinsUptoRow.holds Tryd.pinned (OpenSpec.upto thompsonJoinsSpec)

/-- 'scriptorylaw9.ThompsonRuns', WHERE WHAT IT READS IS OF BULK AT MOST 1048576: true; the input reads as it did. -/
def thompsonRunsUptoRow : OpenClaim := { program := "ytfdgbghlanbddaadoor", sum := "ab42655724c8b464a3f82b8e5587359888b6bbecd7b664ef64cb21d83f1c1bee", func := "scriptory/scriptorylaw9.ThompsonRuns", spec := "thompsonRuns", unfollowed := true, recurses := true, named := ["math/bits.deBruijn64tab"], apart := false, laid := [("math/bits.deBruijn64tab", laid_math_bits_deBruijn64tab)], narrowed := true }
def ThompsonRunsUptoSaid : Prop := thompsonRunsUptoRow.holds Tryd.pinned (OpenSpec.upto thompsonRunsSpec)

/-- 'scriptorylaw9.ThompsonGoes', WHERE WHAT IT READS IS OF BULK AT MOST 1048576: true; the input reads as it did. -/
def thompsonGoesUptoRow : OpenClaim := { program := "ytfdgbghlanbddaadoor", sum := "ab42655724c8b464a3f82b8e5587359888b6bbecd7b664ef64cb21d83f1c1bee", func := "scriptory/scriptorylaw9.ThompsonGoes", spec := "thompsonGoes", unfollowed := true, recurses := true, named := ["math/bits.deBruijn64tab"], apart := false, laid := [("math/bits.deBruijn64tab", laid_math_bits_deBruijn64tab)], narrowed := true }
def ThompsonGoesUptoSaid : Prop := thompsonGoesUptoRow.holds Tryd.pinned (OpenSpec.upto thompsonGoesSpec)

/-- 'scriptorylaw10.SubsetAll', WHERE WHAT IT READS IS OF BULK AT MOST 1048576: true; the input reads as it did. -/
def subsetAllUptoRow : OpenClaim := { program := "ytfdgbghlanbddaadoor", sum := "ab42655724c8b464a3f82b8e5587359888b6bbecd7b664ef64cb21d83f1c1bee", func := "scriptory/scriptorylaw10.SubsetAll", spec := "subsetAll", unfollowed := true, recurses := true, named := ["math/bits.deBruijn64tab"], apart := false, laid := [("math/bits.deBruijn64tab", laid_math_bits_deBruijn64tab)], narrowed := true }
def SubsetAllUptoSaid : Prop := subsetAllUptoRow.holds Tryd.pinned (OpenSpec.upto subsetAllSpec)

/-- 'scriptorylaw10.SubsetMade', WHERE WHAT IT READS IS OF BULK AT MOST 1048576: true; the input reads as it did. -/
def subsetMadeUptoRow : OpenClaim := { program := "ytfdgbghlanbddaadoor", sum := "ab42655724c8b464a3f82b8e5587359888b6bbecd7b664ef64cb21d83f1c1bee", func := "scriptory/scriptorylaw10.SubsetMade", spec := "subsetMade", unfollowed := true, recurses := true, named := ["math/bits.deBruijn64tab"], apart := false, laid := [("math/bits.deBruijn64tab", laid_math_bits_deBruijn64tab)], narrowed := true }
def SubsetMadeUptoSaid : Prop := subsetMadeUptoRow.holds Tryd.pinned (OpenSpec.upto subsetMadeSpec)

/-- 'scriptorylaw10.SubsetRuns', WHERE WHAT IT READS IS OF BULK AT MOST 1048576: true; the input reads as it did. -/
def subsetRunsUptoRow : OpenClaim := { program := "ytfdgbghlanbddaadoor", sum := "ab42655724c8b464a3f82b8e5587359888b6bbecd7b664ef64cb21d83f1c1bee", func := "scriptory/scriptorylaw10.SubsetRuns", spec := "subsetRuns", unfollowed := true, recurses := true, named := ["math/bits.deBruijn64tab"], apart := false, laid := [("math/bits.deBruijn64tab", laid_math_bits_deBruijn64tab)], narrowed := true }
def SubsetRunsUptoSaid : Prop := subsetRunsUptoRow.holds Tryd.pinned (OpenSpec.upto subsetRunsSpec)

/-- 'scriptorylaw10.SubsetBudget', WHERE WHAT IT READS IS OF BULK AT MOST 1048576: true; the input reads as it did. -/
def subsetBudgetUptoRow : OpenClaim := { program := "ytfdgbghlanbddaadoor", sum := "ab42655724c8b464a3f82b8e5587359888b6bbecd7b664ef64cb21d83f1c1bee", func := "scriptory/scriptorylaw10.SubsetBudget", spec := "subsetBudget", unfollowed := true, recurses := true, named := ["math/bits.deBruijn64tab"], apart := false, laid := [("math/bits.deBruijn64tab", laid_math_bits_deBruijn64tab)], narrowed := true }
def SubsetBudgetUptoSaid : Prop := subsetBudgetUptoRow.holds Tryd.pinned (OpenSpec.upto subsetBudgetSpec)

/-- 'scriptorylaw10.SubsetReach', WHERE WHAT IT READS IS OF BULK AT MOST 1048576: true; the input reads as it did. -/
def subsetReachUptoRow : OpenClaim := { program := "ytfdgbghlanbddaadoor", sum := "ab42655724c8b464a3f82b8e5587359888b6bbecd7b664ef64cb21d83f1c1bee", func := "scriptory/scriptorylaw10.SubsetReach", spec := "subsetReach", unfollowed := true, recurses := true, named := ["math/bits.deBruijn64tab"], apart := false, laid := [("math/bits.deBruijn64tab", laid_math_bits_deBruijn64tab)], narrowed := true }
def SubsetReachUptoSaid : Prop := subsetReachUptoRow.holds Tryd.pinned (OpenSpec.upto subsetReachSpec)

/-- 'scriptorylaw10.SubsetStep', WHERE WHAT IT READS IS OF BULK AT MOST 1048576: true; the input reads as it did. -/
def subsetStepUptoRow : OpenClaim := { program := "ytfdgbghlanbddaadoor", sum := "ab42655724c8b464a3f82b8e5587359888b6bbecd7b664ef64cb21d83f1c1bee", func := "scriptory/scriptorylaw10.SubsetStep", spec := "subsetStep", unfollowed := true, recurses := true, named := ["math/bits.deBruijn64tab"], apart := false, laid := [("math/bits.deBruijn64tab", laid_math_bits_deBruijn64tab)], narrowed := true }
def SubsetStepUptoSaid : Prop := subsetStepUptoRow.holds Tryd.pinned (OpenSpec.upto subsetStepSpec)

/-- 'scriptorylaw8.LangAll', WHERE WHAT IT READS IS OF BULK AT MOST 1048576: true; the input reads as it did. -/
def langAllUptoRow : OpenClaim := { program := "ytfdgbghlanbddaadoor", sum := "ab42655724c8b464a3f82b8e5587359888b6bbecd7b664ef64cb21d83f1c1bee", func := "scriptory/scriptorylaw8.LangAll", spec := "langAll", unfollowed := true, recurses := true, named := ["math/bits.deBruijn64tab"], loops := true, apart := false, laid := [("math/bits.deBruijn64tab", laid_math_bits_deBruijn64tab)], narrowed := true }
def LangAllUptoSaid : Prop := langAllUptoRow.holds Tryd.pinned (OpenSpec.upto langAllSpec)

/-- 'scriptorylaw8.LangMade', WHERE WHAT IT READS IS OF BULK AT MOST 1048576: true; the input reads as it did. -/
def langMadeUptoRow : OpenClaim := { program := "ytfdgbghlanbddaadoor", sum := "ab42655724c8b464a3f82b8e5587359888b6bbecd7b664ef64cb21d83f1c1bee", func := "scriptory/scriptorylaw8.LangMade", spec := "langMade", unfollowed := true, recurses := true, named := ["math/bits.deBruijn64tab"], apart := false, laid := [("math/bits.deBruijn64tab", laid_math_bits_deBruijn64tab)], narrowed := true }
def LangMadeUptoSaid : Prop := langMadeUptoRow.holds Tryd.pinned (OpenSpec.upto langMadeSpec)

/-- 'scriptorylaw8.LangSteps', WHERE WHAT IT READS IS OF BULK AT MOST 1048576: true; the input reads as it did. -/
def langStepsUptoRow : OpenClaim := { program := "ytfdgbghlanbddaadoor", sum := "ab42655724c8b464a3f82b8e5587359888b6bbecd7b664ef64cb21d83f1c1bee", func := "scriptory/scriptorylaw8.LangSteps", spec := "langSteps", unfollowed := true, recurses := true, named := ["math/bits.deBruijn64tab"], apart := false, laid := [("math/bits.deBruijn64tab", laid_math_bits_deBruijn64tab)], narrowed := true }
def LangStepsUptoSaid : Prop := langStepsUptoRow.holds Tryd.pinned (OpenSpec.upto langStepsSpec)

/-- 'scriptorylaw8.LangMeans', WHERE WHAT IT READS IS OF BULK AT MOST 1048576: true; the input reads as it did. -/
def langMeansUptoRow : OpenClaim := { program := "ytfdgbghlanbddaadoor", sum := "ab42655724c8b464a3f82b8e5587359888b6bbecd7b664ef64cb21d83f1c1bee", func := "scriptory/scriptorylaw8.LangMeans", spec := "langMeans", unfollowed := true, recurses := true, named := ["math/bits.deBruijn64tab"], apart := false, laid := [("math/bits.deBruijn64tab", laid_math_bits_deBruijn64tab)], narrowed := true }
def LangMeansUptoSaid : Prop := langMeansUptoRow.holds Tryd.pinned (OpenSpec.upto langMeansSpec)

/-- 'scriptorylaw8.LangFirst', WHERE WHAT IT READS IS OF BULK AT MOST 1048576: true; the input reads as it did. -/
def langFirstUptoRow : OpenClaim := { program := "ytfdgbghlanbddaadoor", sum := "ab42655724c8b464a3f82b8e5587359888b6bbecd7b664ef64cb21d83f1c1bee", func := "scriptory/scriptorylaw8.LangFirst", spec := "langFirst", unfollowed := true, recurses := true, named := ["math/bits.deBruijn64tab"], apart := false, laid := [("math/bits.deBruijn64tab", laid_math_bits_deBruijn64tab)], narrowed := true }
def LangFirstUptoSaid : Prop := langFirstUptoRow.holds Tryd.pinned (OpenSpec.upto langFirstSpec)

/-- 'scriptorylaw8.LangStar', WHERE WHAT IT READS IS OF BULK AT MOST 1048576: true; the input reads as it did. -/
def langStarUptoRow : OpenClaim := { program := "ytfdgbghlanbddaadoor", sum := "ab42655724c8b464a3f82b8e5587359888b6bbecd7b664ef64cb21d83f1c1bee", func := "scriptory/scriptorylaw8.LangStar", spec := "langStar", unfollowed := true, recurses := true, named := ["math/bits.deBruijn64tab"], apart := false, laid := [("math/bits.deBruijn64tab", laid_math_bits_deBruijn64tab)], narrowed := true }
def LangStarUptoSaid : Prop := langStarUptoRow.holds Tryd.pinned (OpenSpec.upto langStarSpec)

/-- 'scriptorylaw8.LangSame', WHERE WHAT IT READS IS OF BULK AT MOST 1048576: true; the input reads as it did. -/
def langSameUptoRow : OpenClaim := { program := "ytfdgbghlanbddaadoor", sum := "ab42655724c8b464a3f82b8e5587359888b6bbecd7b664ef64cb21d83f1c1bee", func := "scriptory/scriptorylaw8.LangSame", spec := "langSame", unfollowed := true, recurses := true, named := ["math/bits.deBruijn64tab"], apart := false, laid := [("math/bits.deBruijn64tab", laid_math_bits_deBruijn64tab)], narrowed := true }
def LangSameUptoSaid : Prop := langSameUptoRow.holds Tryd.pinned (OpenSpec.upto langSameSpec)

/-- 'scriptorylaw8.LangNone', WHERE WHAT IT READS IS OF BULK AT MOST 1048576: true; the input reads as it did. -/
def langNoneUptoRow : OpenClaim := { program := "ytfdgbghlanbddaadoor", sum := "ab42655724c8b464a3f82b8e5587359888b6bbecd7b664ef64cb21d83f1c1bee", func := "scriptory/scriptorylaw8.LangNone", spec := "langNone", unfollowed := true, recurses := true, named := ["math/bits.deBruijn64tab"], apart := false, laid := [("math/bits.deBruijn64tab", laid_math_bits_deBruijn64tab)], narrowed := true }
def LangNoneUptoSaid : Prop := langNoneUptoRow.holds Tryd.pinned (OpenSpec.upto langNoneSpec)

end Rows
end Go.Proofs.YtfdgbghlanbddaaDoor
