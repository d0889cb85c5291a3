/-
  DERIVED. GIVEN WITH THE SEED: THE CARDS: each row of YtpojnobgijoddaaDoorRows.lean that lists a variable, with what it lists TIED to the program's text (the seventh form; the later family's looks); each row that meets fmt, with fmt's text TOLD by the authors' own Lean function (tested against real Go, not proved from fmt's source: count such statements apart). THE CARD IS WHAT COUNTS. Prove the row's statement (the work); the ties are given (YtpojnobgijoddaaDoorTie.lean); close each card by the builder's one call (the guide's Derived/Test/ToyasCard.lean, 'card_holds'). Laid BY PROGRAM, IN A SANDBOX (cutbox-door.mjs). By AI agents, Wed Nov 11 2026. No macro, syntax, notation, axiom, sorry.
-/
import Derived.Test.YtpojnobgijoddaaDoorRows
import GoSem.ClaimSeven
namespace Go.Proofs.YtpojnobgijoddaaDoor
namespace Rows

/-- THE TIED CARD OF 'laws.FnExactStrainOf'. -/
def fnExactStrainOfCard : Claim7 := { stood := { row := fnExactStrainOfRow, standIns := [], harness := (true, "f35521ca9b23a7300210d85882e5526660475bb4885cbb0315ff34c42be0a49d"), looks := false }, kinds := [], alts := [], laidByText := true, laidKinds := [.data], laidTests := true, laidLooks := .later }
def FnExactStrainOfCardSaid : Prop := Claim7.holds Tryd.pinned (.plain (OpenSpec.ofChange fnExactStrainOfSpec)) fnExactStrainOfCard

/-- THE TIED CARD OF 'laws.FnExactCompareStrains'. -/
def fnExactCompareStrainsCard : Claim7 := { stood := { row := fnExactCompareStrainsRow, standIns := [], harness := (true, "f35521ca9b23a7300210d85882e5526660475bb4885cbb0315ff34c42be0a49d"), looks := false }, kinds := [], alts := [], laidByText := true, laidKinds := [.data], laidTests := true, laidLooks := .later }
def FnExactCompareStrainsCardSaid : Prop := Claim7.holds Tryd.pinned (.plain (OpenSpec.ofChange fnExactCompareStrainsSpec)) fnExactCompareStrainsCard

/-- THE TIED CARD OF 'laws.FnExactStrainAfter'. -/
def fnExactStrainAfterCard : Claim7 := { stood := { row := fnExactStrainAfterRow, standIns := [], harness := (true, "f35521ca9b23a7300210d85882e5526660475bb4885cbb0315ff34c42be0a49d"), looks := false }, kinds := [], alts := [], laidByText := true, laidKinds := [.data], laidTests := true, laidLooks := .later }
def FnExactStrainAfterCardSaid : Prop := Claim7.holds Tryd.pinned (.plain (OpenSpec.ofChange fnExactStrainAfterSpec)) fnExactStrainAfterCard

/-- THE TIED CARD OF 'laws.FnExactStrainWithout'. -/
def fnExactStrainWithoutCard : Claim7 := { stood := { row := fnExactStrainWithoutRow, standIns := [], harness := (true, "f35521ca9b23a7300210d85882e5526660475bb4885cbb0315ff34c42be0a49d"), looks := false }, kinds := [], alts := [], laidByText := true, laidKinds := [.data], laidTests := true, laidLooks := .later }
def FnExactStrainWithoutCardSaid : Prop := Claim7.holds Tryd.pinned (.plain (OpenSpec.ofChange fnExactStrainWithoutSpec)) fnExactStrainWithoutCard

/-- THE TIED CARD OF 'laws.FnExactBestFix'. -/
def fnExactBestFixCard : Claim7 := { stood := { row := fnExactBestFixRow, standIns := [], harness := (true, "f35521ca9b23a7300210d85882e5526660475bb4885cbb0315ff34c42be0a49d"), looks := false }, kinds := [], alts := [], laidByText := true, laidKinds := [.data], laidTests := true, laidLooks := .later }
def FnExactBestFixCardSaid : Prop := Claim7.holds Tryd.pinned (.plain (OpenSpec.ofChange fnExactBestFixSpec)) fnExactBestFixCard

/-- THE TIED CARD OF 'laws.FnExactSuspectLeg'. -/
def fnExactSuspectLegCard : Claim7 := { stood := { row := fnExactSuspectLegRow, standIns := [], harness := (true, "f35521ca9b23a7300210d85882e5526660475bb4885cbb0315ff34c42be0a49d"), looks := false }, kinds := [], alts := [], laidByText := true, laidKinds := [.data], laidTests := true, laidLooks := .later }
def FnExactSuspectLegCardSaid : Prop := Claim7.holds Tryd.pinned (.plain (OpenSpec.ofChange fnExactSuspectLegSpec)) fnExactSuspectLegCard

/-- THE TIED CARD OF 'laws.FnExactCleanLegs'. -/
def fnExactCleanLegsCard : Claim7 := { stood := { row := fnExactCleanLegsRow, standIns := [], harness := (true, "f35521ca9b23a7300210d85882e5526660475bb4885cbb0315ff34c42be0a49d"), looks := false }, kinds := [], alts := [], laidByText := true, laidKinds := [.data], laidTests := true, laidLooks := .later }
def FnExactCleanLegsCardSaid : Prop := Claim7.holds Tryd.pinned (.plain (OpenSpec.ofChange fnExactCleanLegsSpec)) fnExactCleanLegsCard

/-- THE SECOND FORM's CARD OF 'laws.FnExactStrainOf'. -/
def fnExactStrainOfUptoCard : Claim7 := { stood := { row := fnExactStrainOfUptoRow, standIns := [], harness := (true, "f35521ca9b23a7300210d85882e5526660475bb4885cbb0315ff34c42be0a49d"), looks := false }, kinds := [], alts := [], laidByText := true, laidKinds := [.data], laidTests := true, laidLooks := .later }
def FnExactStrainOfUptoCardSaid : Prop := Claim7.holds Tryd.pinned (.plain (OpenSpec.upto fnExactStrainOfSpec)) fnExactStrainOfUptoCard

/-- THE SECOND FORM's CARD OF 'laws.FnExactCompareStrains'. -/
def fnExactCompareStrainsUptoCard : Claim7 := { stood := { row := fnExactCompareStrainsUptoRow, standIns := [], harness := (true, "f35521ca9b23a7300210d85882e5526660475bb4885cbb0315ff34c42be0a49d"), looks := false }, kinds := [], alts := [], laidByText := true, laidKinds := [.data], laidTests := true, laidLooks := .later }
def FnExactCompareStrainsUptoCardSaid : Prop := Claim7.holds Tryd.pinned (.plain (OpenSpec.upto fnExactCompareStrainsSpec)) fnExactCompareStrainsUptoCard

/-- THE SECOND FORM's CARD OF 'laws.FnExactStrainAfter'. -/
def fnExactStrainAfterUptoCard : Claim7 := { stood := { row := fnExactStrainAfterUptoRow, standIns := [], harness := (true, "f35521ca9b23a7300210d85882e5526660475bb4885cbb0315ff34c42be0a49d"), looks := false }, kinds := [], alts := [], laidByText := true, laidKinds := [.data], laidTests := true, laidLooks := .later }
def FnExactStrainAfterUptoCardSaid : Prop := Claim7.holds Tryd.pinned (.plain (OpenSpec.upto fnExactStrainAfterSpec)) fnExactStrainAfterUptoCard

/-- THE SECOND FORM's CARD OF 'laws.FnExactStrainWithout'. -/
def fnExactStrainWithoutUptoCard : Claim7 := { stood := { row := fnExactStrainWithoutUptoRow, standIns := [], harness := (true, "f35521ca9b23a7300210d85882e5526660475bb4885cbb0315ff34c42be0a49d"), looks := false }, kinds := [], alts := [], laidByText := true, laidKinds := [.data], laidTests := true, laidLooks := .later }
def FnExactStrainWithoutUptoCardSaid : Prop := Claim7.holds Tryd.pinned (.plain (OpenSpec.upto fnExactStrainWithoutSpec)) fnExactStrainWithoutUptoCard

/-- THE SECOND FORM's CARD OF 'laws.FnExactBestFix'. -/
def fnExactBestFixUptoCard : Claim7 := { stood := { row := fnExactBestFixUptoRow, standIns := [], harness := (true, "f35521ca9b23a7300210d85882e5526660475bb4885cbb0315ff34c42be0a49d"), looks := false }, kinds := [], alts := [], laidByText := true, laidKinds := [.data], laidTests := true, laidLooks := .later }
def FnExactBestFixUptoCardSaid : Prop := Claim7.holds Tryd.pinned (.plain (OpenSpec.upto fnExactBestFixSpec)) fnExactBestFixUptoCard

/-- THE SECOND FORM's CARD OF 'laws.FnExactSuspectLeg'. -/
def fnExactSuspectLegUptoCard : Claim7 := { stood := { row := fnExactSuspectLegUptoRow, standIns := [], harness := (true, "f35521ca9b23a7300210d85882e5526660475bb4885cbb0315ff34c42be0a49d"), looks := false }, kinds := [], alts := [], laidByText := true, laidKinds := [.data], laidTests := true, laidLooks := .later }
def FnExactSuspectLegUptoCardSaid : Prop := Claim7.holds Tryd.pinned (.plain (OpenSpec.upto fnExactSuspectLegSpec)) fnExactSuspectLegUptoCard

/-- THE SECOND FORM's CARD OF 'laws.FnExactCleanLegs'. -/
def fnExactCleanLegsUptoCard : Claim7 := { stood := { row := fnExactCleanLegsUptoRow, standIns := [], harness := (true, "f35521ca9b23a7300210d85882e5526660475bb4885cbb0315ff34c42be0a49d"), looks := false }, kinds := [], alts := [], laidByText := true, laidKinds := [.data], laidTests := true, laidLooks := .later }
def FnExactCleanLegsUptoCardSaid : Prop := Claim7.holds Tryd.pinned (.plain (OpenSpec.upto fnExactCleanLegsSpec)) fnExactCleanLegsUptoCard
end Rows
end Go.Proofs.YtpojnobgijoddaaDoor
