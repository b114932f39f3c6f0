/-
  DERIVED. GIVEN WITH THE SEED: THE CARDS: each row of YtofjebmoebhiiaaGreatDoorRows.lean that lists a variable, with what it lists TIED to the program's text (the seventh form; the later family's looks); each row that meets fmt, with fmt's text TOLD by the authors' own Lean function (tested against real Go, not proved from fmt's source: count such statements apart). THE CARD IS WHAT COUNTS. Prove the row's statement (the work); the ties are given (YtofjebmoebhiiaaGreatDoorTie.lean); close each card by the builder's one call (the guide's Derived/Test/ToyasCard.lean, 'card_holds'). Laid BY PROGRAM, IN A SANDBOX (cutbox-door.mjs). By AI agents, Wed Nov 11 2026. No macro, syntax, notation, axiom, sorry.
-/
import Derived.Test.YtofjebmoebhiiaaGreatDoorRows
import GoSem.ClaimSeven
namespace Go.Proofs.YtofjebmoebhiiaaGreatDoor
namespace Rows

/-- THE TIED CARD OF 'toruslaw22.ClearDualMatches'. -/
def clearDualMatchesCard : Claim7 := { stood := { row := clearDualMatchesRow, standIns := [], harness := (true, "646fabaf2cebbacc9a084797f15646a8f53b2861734cfa52447632ca260b63f2"), looks := false }, kinds := [], alts := [], laidByText := true, laidKinds := [.funcs, .funcs], laidTests := true, laidLooks := .later }
def ClearDualMatchesCardSaid : Prop := Claim7.holds Tryz.pinned (.plain (OpenSpec.ofChange clearDualMatchesSpec)) clearDualMatchesCard

/-- THE TIED CARD OF 'toruslaw22.ClearStandardMatches'. -/
def clearStandardMatchesCard : Claim7 := { stood := { row := clearStandardMatchesRow, standIns := [], harness := (true, "646fabaf2cebbacc9a084797f15646a8f53b2861734cfa52447632ca260b63f2"), looks := false }, kinds := [], alts := [], laidByText := true, laidKinds := [.funcs, .funcs], laidTests := true, laidLooks := .later }
def ClearStandardMatchesCardSaid : Prop := Claim7.holds Tryz.pinned (.plain (OpenSpec.ofChange clearStandardMatchesSpec)) clearStandardMatchesCard

/-- THE TIED CARD OF 'toruslaw22.ClearTwistMatches'. -/
def clearTwistMatchesCard : Claim7 := { stood := { row := clearTwistMatchesRow, standIns := [], harness := (true, "646fabaf2cebbacc9a084797f15646a8f53b2861734cfa52447632ca260b63f2"), looks := false }, kinds := [], alts := [], laidByText := true, laidKinds := [.funcs, .funcs], laidTests := true, laidLooks := .later }
def ClearTwistMatchesCardSaid : Prop := Claim7.holds Tryz.pinned (.plain (OpenSpec.ofChange clearTwistMatchesSpec)) clearTwistMatchesCard

/-- THE TIED CARD OF 'toruslaw22.ClearCohomologyMatches'. -/
def clearCohomologyMatchesCard : Claim7 := { stood := { row := clearCohomologyMatchesRow, standIns := [], harness := (true, "646fabaf2cebbacc9a084797f15646a8f53b2861734cfa52447632ca260b63f2"), looks := false }, kinds := [], alts := [], laidByText := true, laidKinds := [.funcs, .funcs], laidTests := true, laidLooks := .later }
def ClearCohomologyMatchesCardSaid : Prop := Claim7.holds Tryz.pinned (.plain (OpenSpec.ofChange clearCohomologyMatchesSpec)) clearCohomologyMatchesCard

/-- THE TIED CARD OF 'toruslaw22.ClearExamples'. -/
def clearExamplesCard : Claim7 := { stood := { row := clearExamplesRow, standIns := [], harness := (true, "646fabaf2cebbacc9a084797f15646a8f53b2861734cfa52447632ca260b63f2"), looks := false }, kinds := [], alts := [], laidByText := true, laidKinds := [.funcs, .funcs], laidTests := true, laidLooks := .later }
def ClearExamplesCardSaid : Prop := Claim7.holds Tryz.pinned (.plain (OpenSpec.ofChange clearExamplesSpec)) clearExamplesCard

/-- THE TIED CARD OF 'toruslaw22.ClearInvolution'. -/
def clearInvolutionCard : Claim7 := { stood := { row := clearInvolutionRow, standIns := [], harness := (true, "646fabaf2cebbacc9a084797f15646a8f53b2861734cfa52447632ca260b63f2"), looks := false }, kinds := [], alts := [], laidByText := true, laidKinds := [.funcs, .funcs], laidTests := true, laidLooks := .later }
def ClearInvolutionCardSaid : Prop := Claim7.holds Tryz.pinned (.plain (OpenSpec.ofChange clearInvolutionSpec)) clearInvolutionCard

/-- THE TIED CARD OF 'toruslaw22.ClearDuality'. -/
def clearDualityCard : Claim7 := { stood := { row := clearDualityRow, standIns := [], harness := (true, "646fabaf2cebbacc9a084797f15646a8f53b2861734cfa52447632ca260b63f2"), looks := false }, kinds := [], alts := [], laidByText := true, laidKinds := [.funcs, .funcs], laidTests := true, laidLooks := .later }
def ClearDualityCardSaid : Prop := Claim7.holds Tryz.pinned (.plain (OpenSpec.ofChange clearDualitySpec)) clearDualityCard

/-- THE TIED CARD OF 'toruslaw22.ClearLess'. -/
def clearLessCard : Claim7 := { stood := { row := clearLessRow, standIns := [], harness := (true, "646fabaf2cebbacc9a084797f15646a8f53b2861734cfa52447632ca260b63f2"), looks := false }, kinds := [], alts := [], laidByText := true, laidKinds := [.funcs, .funcs], laidTests := true, laidLooks := .later }
def ClearLessCardSaid : Prop := Claim7.holds Tryz.pinned (.plain (OpenSpec.ofChange clearLessSpec)) clearLessCard

/-- THE TIED CARD OF 'toruslaw22.ClearAgree'. -/
def clearAgreeCard : Claim7 := { stood := { row := clearAgreeRow, standIns := [], harness := (true, "646fabaf2cebbacc9a084797f15646a8f53b2861734cfa52447632ca260b63f2"), looks := false }, kinds := [], alts := [], laidByText := true, laidKinds := [.funcs, .funcs], laidTests := true, laidLooks := .later }
def ClearAgreeCardSaid : Prop := Claim7.holds Tryz.pinned (.plain (OpenSpec.ofChange clearAgreeSpec)) clearAgreeCard

/-- THE SECOND FORM's CARD OF 'toruslaw22.ClearDualMatches'. -/
def clearDualMatchesUptoCard : Claim7 := { stood := { row := clearDualMatchesUptoRow, standIns := [], harness := (true, "646fabaf2cebbacc9a084797f15646a8f53b2861734cfa52447632ca260b63f2"), looks := false }, kinds := [], alts := [], laidByText := true, laidKinds := [.funcs, .funcs], laidTests := true, laidLooks := .later }
def ClearDualMatchesUptoCardSaid : Prop := Claim7.holds Tryz.pinned (.plain (OpenSpec.upto clearDualMatchesSpec)) clearDualMatchesUptoCard

/-- THE SECOND FORM's CARD OF 'toruslaw22.ClearStandardMatches'. -/
def clearStandardMatchesUptoCard : Claim7 := { stood := { row := clearStandardMatchesUptoRow, standIns := [], harness := (true, "646fabaf2cebbacc9a084797f15646a8f53b2861734cfa52447632ca260b63f2"), looks := false }, kinds := [], alts := [], laidByText := true, laidKinds := [.funcs, .funcs], laidTests := true, laidLooks := .later }
def ClearStandardMatchesUptoCardSaid : Prop := Claim7.holds Tryz.pinned (.plain (OpenSpec.upto clearStandardMatchesSpec)) clearStandardMatchesUptoCard

/-- THE SECOND FORM's CARD OF 'toruslaw22.ClearTwistMatches'. -/
def clearTwistMatchesUptoCard : Claim7 := { stood := { row := clearTwistMatchesUptoRow, standIns := [], harness := (true, "646fabaf2cebbacc9a084797f15646a8f53b2861734cfa52447632ca260b63f2"), looks := false }, kinds := [], alts := [], laidByText := true, laidKinds := [.funcs, .funcs], laidTests := true, laidLooks := .later }
def ClearTwistMatchesUptoCardSaid : Prop := Claim7.holds Tryz.pinned (.plain (OpenSpec.upto clearTwistMatchesSpec)) clearTwistMatchesUptoCard

/-- THE SECOND FORM's CARD OF 'toruslaw22.ClearCohomologyMatches'. -/
def clearCohomologyMatchesUptoCard : Claim7 := { stood := { row := clearCohomologyMatchesUptoRow, standIns := [], harness := (true, "646fabaf2cebbacc9a084797f15646a8f53b2861734cfa52447632ca260b63f2"), looks := false }, kinds := [], alts := [], laidByText := true, laidKinds := [.funcs, .funcs], laidTests := true, laidLooks := .later }
def ClearCohomologyMatchesUptoCardSaid : Prop := Claim7.holds Tryz.pinned (.plain (OpenSpec.upto clearCohomologyMatchesSpec)) clearCohomologyMatchesUptoCard

/-- THE SECOND FORM's CARD OF 'toruslaw22.ClearExamples'. -/
def clearExamplesUptoCard : Claim7 := { stood := { row := clearExamplesUptoRow, standIns := [], harness := (true, "646fabaf2cebbacc9a084797f15646a8f53b2861734cfa52447632ca260b63f2"), looks := false }, kinds := [], alts := [], laidByText := true, laidKinds := [.funcs, .funcs], laidTests := true, laidLooks := .later }
def ClearExamplesUptoCardSaid : Prop := Claim7.holds Tryz.pinned (.plain (OpenSpec.upto clearExamplesSpec)) clearExamplesUptoCard

/-- THE SECOND FORM's CARD OF 'toruslaw22.ClearInvolution'. -/
def clearInvolutionUptoCard : Claim7 := { stood := { row := clearInvolutionUptoRow, standIns := [], harness := (true, "646fabaf2cebbacc9a084797f15646a8f53b2861734cfa52447632ca260b63f2"), looks := false }, kinds := [], alts := [], laidByText := true, laidKinds := [.funcs, .funcs], laidTests := true, laidLooks := .later }
def ClearInvolutionUptoCardSaid : Prop := Claim7.holds Tryz.pinned (.plain (OpenSpec.upto clearInvolutionSpec)) clearInvolutionUptoCard

/-- THE SECOND FORM's CARD OF 'toruslaw22.ClearDuality'. -/
def clearDualityUptoCard : Claim7 := { stood := { row := clearDualityUptoRow, standIns := [], harness := (true, "646fabaf2cebbacc9a084797f15646a8f53b2861734cfa52447632ca260b63f2"), looks := false }, kinds := [], alts := [], laidByText := true, laidKinds := [.funcs, .funcs], laidTests := true, laidLooks := .later }
def ClearDualityUptoCardSaid : Prop := Claim7.holds Tryz.pinned (.plain (OpenSpec.upto clearDualitySpec)) clearDualityUptoCard

/-- THE SECOND FORM's CARD OF 'toruslaw22.ClearLess'. -/
def clearLessUptoCard : Claim7 := { stood := { row := clearLessUptoRow, standIns := [], harness := (true, "646fabaf2cebbacc9a084797f15646a8f53b2861734cfa52447632ca260b63f2"), looks := false }, kinds := [], alts := [], laidByText := true, laidKinds := [.funcs, .funcs], laidTests := true, laidLooks := .later }
def ClearLessUptoCardSaid : Prop := Claim7.holds Tryz.pinned (.plain (OpenSpec.upto clearLessSpec)) clearLessUptoCard

/-- THE SECOND FORM's CARD OF 'toruslaw22.ClearAgree'. -/
def clearAgreeUptoCard : Claim7 := { stood := { row := clearAgreeUptoRow, standIns := [], harness := (true, "646fabaf2cebbacc9a084797f15646a8f53b2861734cfa52447632ca260b63f2"), looks := false }, kinds := [], alts := [], laidByText := true, laidKinds := [.funcs, .funcs], laidTests := true, laidLooks := .later }
def ClearAgreeUptoCardSaid : Prop := Claim7.holds Tryz.pinned (.plain (OpenSpec.upto clearAgreeSpec)) clearAgreeUptoCard
end Rows
end Go.Proofs.YtofjebmoebhiiaaGreatDoor
