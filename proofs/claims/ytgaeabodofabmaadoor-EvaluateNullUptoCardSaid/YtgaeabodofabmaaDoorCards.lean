/-
  DERIVED. GIVEN WITH THE SEED: THE CARDS: each row of YtgaeabodofabmaaDoorRows.lean that lists a variable, with what it lists TIED to the program's text (the seventh form; the later family's looks); each row that meets fmt, with fmt's text TOLD by the authors' own Lean function (tested against real Go, not proved from fmt's source: count such statements apart). THE CARD IS WHAT COUNTS. Prove the row's statement (the work); the ties are given (YtgaeabodofabmaaDoorTie.lean); close each card by the builder's one call (the guide's Derived/Test/ToyasCard.lean, 'card_holds'). Laid BY PROGRAM, IN A SANDBOX (cutbox-door.mjs). By AI agents, Wed Nov 11 2026. No macro, syntax, notation, axiom, sorry.
-/
import Derived.Test.YtgaeabodofabmaaDoorRows
import GoSem.ClaimSeven
namespace Go.Proofs.YtgaeabodofabmaaDoor
namespace Rows

/-- THE TIED CARD OF 'disjointlaw14.EvaluateValue'. -/
def evaluateValueCard : Claim7 := { stood := { row := evaluateValueRow, standIns := [], harness := (true, "f4d7f8adcbf029aaf6b1937198320c3a5f52ca58fa64ca34fc0166088edbf149"), looks := false }, kinds := [], alts := [], laidByText := true, laidKinds := [.data], laidTests := true, laidLooks := .later }
def EvaluateValueCardSaid : Prop := Claim7.holds Tryd.pinned (.plain (OpenSpec.ofChange evaluateValueSpec)) evaluateValueCard

/-- THE TIED CARD OF 'disjointlaw14.EvaluateCondition'. -/
def evaluateConditionCard : Claim7 := { stood := { row := evaluateConditionRow, standIns := [], harness := (true, "f4d7f8adcbf029aaf6b1937198320c3a5f52ca58fa64ca34fc0166088edbf149"), looks := false }, kinds := [], alts := [], laidByText := true, laidKinds := [.data], laidTests := true, laidLooks := .later }
def EvaluateConditionCardSaid : Prop := Claim7.holds Tryd.pinned (.plain (OpenSpec.ofChange evaluateConditionSpec)) evaluateConditionCard

/-- THE TIED CARD OF 'disjointlaw14.EvaluateMatches'. -/
def evaluateMatchesCard : Claim7 := { stood := { row := evaluateMatchesRow, standIns := [], harness := (true, "f4d7f8adcbf029aaf6b1937198320c3a5f52ca58fa64ca34fc0166088edbf149"), looks := false }, kinds := [], alts := [], laidByText := true, laidKinds := [.data], laidTests := true, laidLooks := .later }
def EvaluateMatchesCardSaid : Prop := Claim7.holds Tryd.pinned (.plain (OpenSpec.ofChange evaluateMatchesSpec)) evaluateMatchesCard

/-- THE TIED CARD OF 'disjointlaw14.EvaluateConstant'. -/
def evaluateConstantCard : Claim7 := { stood := { row := evaluateConstantRow, standIns := [], harness := (true, "f4d7f8adcbf029aaf6b1937198320c3a5f52ca58fa64ca34fc0166088edbf149"), looks := false }, kinds := [], alts := [], laidByText := true, laidKinds := [.data], laidTests := true, laidLooks := .later }
def EvaluateConstantCardSaid : Prop := Claim7.holds Tryd.pinned (.plain (OpenSpec.ofChange evaluateConstantSpec)) evaluateConstantCard

/-- THE TIED CARD OF 'disjointlaw14.EvaluateLikeParts'. -/
def evaluateLikePartsCard : Claim7 := { stood := { row := evaluateLikePartsRow, standIns := [], harness := (true, "f4d7f8adcbf029aaf6b1937198320c3a5f52ca58fa64ca34fc0166088edbf149"), looks := false }, kinds := [], alts := [], laidByText := true, laidKinds := [.data], laidTests := true, laidLooks := .later }
def EvaluateLikePartsCardSaid : Prop := Claim7.holds Tryd.pinned (.plain (OpenSpec.ofChange evaluateLikePartsSpec)) evaluateLikePartsCard

/-- THE TIED CARD OF 'disjointlaw14.EvaluateNull'. -/
def evaluateNullCard : Claim7 := { stood := { row := evaluateNullRow, standIns := [], harness := (true, "f4d7f8adcbf029aaf6b1937198320c3a5f52ca58fa64ca34fc0166088edbf149"), looks := false }, kinds := [], alts := [], laidByText := true, laidKinds := [.data], laidTests := true, laidLooks := .later }
def EvaluateNullCardSaid : Prop := Claim7.holds Tryd.pinned (.plain (OpenSpec.ofChange evaluateNullSpec)) evaluateNullCard

/-- THE TIED CARD OF 'disjointlaw14.EvaluateMonotone'. -/
def evaluateMonotoneCard : Claim7 := { stood := { row := evaluateMonotoneRow, standIns := [], harness := (true, "f4d7f8adcbf029aaf6b1937198320c3a5f52ca58fa64ca34fc0166088edbf149"), looks := false }, kinds := [], alts := [], laidByText := true, laidKinds := [.data], laidTests := true, laidLooks := .later }
def EvaluateMonotoneCardSaid : Prop := Claim7.holds Tryd.pinned (.plain (OpenSpec.ofChange evaluateMonotoneSpec)) evaluateMonotoneCard

/-- THE TIED CARD OF 'disjointlaw14.EvaluateDivision'. -/
def evaluateDivisionCard : Claim7 := { stood := { row := evaluateDivisionRow, standIns := [], harness := (true, "f4d7f8adcbf029aaf6b1937198320c3a5f52ca58fa64ca34fc0166088edbf149"), looks := false }, kinds := [], alts := [], laidByText := true, laidKinds := [.data], laidTests := true, laidLooks := .later }
def EvaluateDivisionCardSaid : Prop := Claim7.holds Tryd.pinned (.plain (OpenSpec.ofChange evaluateDivisionSpec)) evaluateDivisionCard

/-- THE SECOND FORM's CARD OF 'disjointlaw14.EvaluateValue'. -/
def evaluateValueUptoCard : Claim7 := { stood := { row := evaluateValueUptoRow, standIns := [], harness := (true, "f4d7f8adcbf029aaf6b1937198320c3a5f52ca58fa64ca34fc0166088edbf149"), looks := false }, kinds := [], alts := [], laidByText := true, laidKinds := [.data], laidTests := true, laidLooks := .later }
def EvaluateValueUptoCardSaid : Prop := Claim7.holds Tryd.pinned (.plain (OpenSpec.upto evaluateValueSpec)) evaluateValueUptoCard

/-- THE SECOND FORM's CARD OF 'disjointlaw14.EvaluateCondition'. -/
def evaluateConditionUptoCard : Claim7 := { stood := { row := evaluateConditionUptoRow, standIns := [], harness := (true, "f4d7f8adcbf029aaf6b1937198320c3a5f52ca58fa64ca34fc0166088edbf149"), looks := false }, kinds := [], alts := [], laidByText := true, laidKinds := [.data], laidTests := true, laidLooks := .later }
def EvaluateConditionUptoCardSaid : Prop := Claim7.holds Tryd.pinned (.plain (OpenSpec.upto evaluateConditionSpec)) evaluateConditionUptoCard

/-- THE SECOND FORM's CARD OF 'disjointlaw14.EvaluateMatches'. -/
def evaluateMatchesUptoCard : Claim7 := { stood := { row := evaluateMatchesUptoRow, standIns := [], harness := (true, "f4d7f8adcbf029aaf6b1937198320c3a5f52ca58fa64ca34fc0166088edbf149"), looks := false }, kinds := [], alts := [], laidByText := true, laidKinds := [.data], laidTests := true, laidLooks := .later }
def EvaluateMatchesUptoCardSaid : Prop := Claim7.holds Tryd.pinned (.plain (OpenSpec.upto evaluateMatchesSpec)) evaluateMatchesUptoCard

/-- THE SECOND FORM's CARD OF 'disjointlaw14.EvaluateConstant'. -/
def evaluateConstantUptoCard : Claim7 := { stood := { row := evaluateConstantUptoRow, standIns := [], harness := (true, "f4d7f8adcbf029aaf6b1937198320c3a5f52ca58fa64ca34fc0166088edbf149"), looks := false }, kinds := [], alts := [], laidByText := true, laidKinds := [.data], laidTests := true, laidLooks := .later }
def EvaluateConstantUptoCardSaid : Prop := Claim7.holds Tryd.pinned (.plain (OpenSpec.upto evaluateConstantSpec)) evaluateConstantUptoCard

/-- THE SECOND FORM's CARD OF 'disjointlaw14.EvaluateLikeParts'. -/
def evaluateLikePartsUptoCard : Claim7 := { stood := { row := evaluateLikePartsUptoRow, standIns := [], harness := (true, "f4d7f8adcbf029aaf6b1937198320c3a5f52ca58fa64ca34fc0166088edbf149"), looks := false }, kinds := [], alts := [], laidByText := true, laidKinds := [.data], laidTests := true, laidLooks := .later }
def EvaluateLikePartsUptoCardSaid : Prop := Claim7.holds Tryd.pinned (.plain (OpenSpec.upto evaluateLikePartsSpec)) evaluateLikePartsUptoCard

/-- THE SECOND FORM's CARD OF 'disjointlaw14.EvaluateNull'. -/
def evaluateNullUptoCard : Claim7 := { stood := { row := evaluateNullUptoRow, standIns := [], harness := (true, "f4d7f8adcbf029aaf6b1937198320c3a5f52ca58fa64ca34fc0166088edbf149"), looks := false }, kinds := [], alts := [], laidByText := true, laidKinds := [.data], laidTests := true, laidLooks := .later }
def EvaluateNullUptoCardSaid : Prop := Claim7.holds Tryd.pinned (.plain (OpenSpec.upto evaluateNullSpec)) evaluateNullUptoCard

/-- THE SECOND FORM's CARD OF 'disjointlaw14.EvaluateMonotone'. -/
def evaluateMonotoneUptoCard : Claim7 := { stood := { row := evaluateMonotoneUptoRow, standIns := [], harness := (true, "f4d7f8adcbf029aaf6b1937198320c3a5f52ca58fa64ca34fc0166088edbf149"), looks := false }, kinds := [], alts := [], laidByText := true, laidKinds := [.data], laidTests := true, laidLooks := .later }
def EvaluateMonotoneUptoCardSaid : Prop := Claim7.holds Tryd.pinned (.plain (OpenSpec.upto evaluateMonotoneSpec)) evaluateMonotoneUptoCard

/-- THE SECOND FORM's CARD OF 'disjointlaw14.EvaluateDivision'. -/
def evaluateDivisionUptoCard : Claim7 := { stood := { row := evaluateDivisionUptoRow, standIns := [], harness := (true, "f4d7f8adcbf029aaf6b1937198320c3a5f52ca58fa64ca34fc0166088edbf149"), looks := false }, kinds := [], alts := [], laidByText := true, laidKinds := [.data], laidTests := true, laidLooks := .later }
def EvaluateDivisionUptoCardSaid : Prop := Claim7.holds Tryd.pinned (.plain (OpenSpec.upto evaluateDivisionSpec)) evaluateDivisionUptoCard
end Rows
end Go.Proofs.YtgaeabodofabmaaDoor
