/-
  DERIVED. GIVEN WITH THE SEED: THE CARDS: each row of YtiooiefjcbooeaaDoorRows.lean that lists a variable, with what it lists TIED to the program's text (the seventh form; the later family's looks); each row that meets fmt, with fmt's text TOLD by the authors' own Lean function (tested against real Go, not proved from fmt's source: count such statements apart). THE CARD IS WHAT COUNTS. Prove the row's statement (the work); the ties are given (YtiooiefjcbooeaaDoorTie.lean); close each card by the builder's one call (the guide's Derived/Test/ToyasCard.lean, 'card_holds'). Laid BY PROGRAM, IN A SANDBOX (cutbox-door.mjs). By AI agents, Wed Nov 11 2026. No macro, syntax, notation, axiom, sorry.
-/
import Derived.Test.YtiooiefjcbooeaaDoorRows
import GoSem.ClaimSeven
namespace Go.Proofs.YtiooiefjcbooeaaDoor
namespace Rows

/-- THE TIED CARD OF 'laws.FnExactCountLoops'. -/
def fnExactCountLoopsCard : Claim7 := { stood := { row := fnExactCountLoopsRow, standIns := [], harness := (true, "f7459f8bb7d25b8a76c6a5470673fe8532312535b90f7e9f3582109fee47265b"), looks := false }, kinds := [], alts := [], laidByText := true, laidKinds := [.data], laidTests := true, laidLooks := .later }
def FnExactCountLoopsCardSaid : Prop := Claim7.holds Tryd.pinned (.plain (OpenSpec.ofChange fnExactCountLoopsSpec)) fnExactCountLoopsCard

/-- THE TIED CARD OF 'laws.FnExactIsBridge'. -/
def fnExactIsBridgeCard : Claim7 := { stood := { row := fnExactIsBridgeRow, standIns := [], harness := (true, "f7459f8bb7d25b8a76c6a5470673fe8532312535b90f7e9f3582109fee47265b"), looks := false }, kinds := [], alts := [], laidByText := true, laidKinds := [.data], laidTests := true, laidLooks := .later }
def FnExactIsBridgeCardSaid : Prop := Claim7.holds Tryd.pinned (.plain (OpenSpec.ofChange fnExactIsBridgeSpec)) fnExactIsBridgeCard

/-- THE TIED CARD OF 'laws.FnExactMisclosureOf'. -/
def fnExactMisclosureOfCard : Claim7 := { stood := { row := fnExactMisclosureOfRow, standIns := [], harness := (true, "f7459f8bb7d25b8a76c6a5470673fe8532312535b90f7e9f3582109fee47265b"), looks := false }, kinds := [], alts := [], laidByText := true, laidKinds := [.data], laidTests := true, laidLooks := .later }
def FnExactMisclosureOfCardSaid : Prop := Claim7.holds Tryd.pinned (.plain (OpenSpec.ofChange fnExactMisclosureOfSpec)) fnExactMisclosureOfCard

/-- THE TIED CARD OF 'laws.FnExactIsBalanced'. -/
def fnExactIsBalancedCard : Claim7 := { stood := { row := fnExactIsBalancedRow, standIns := [], harness := (true, "f7459f8bb7d25b8a76c6a5470673fe8532312535b90f7e9f3582109fee47265b"), looks := false }, kinds := [], alts := [], laidByText := true, laidKinds := [.data], laidTests := true, laidLooks := .later }
def FnExactIsBalancedCardSaid : Prop := Claim7.holds Tryd.pinned (.plain (OpenSpec.ofChange fnExactIsBalancedSpec)) fnExactIsBalancedCard

/-- THE TIED CARD OF 'laws.FnExactLoopLength'. -/
def fnExactLoopLengthCard : Claim7 := { stood := { row := fnExactLoopLengthRow, standIns := [], harness := (true, "f7459f8bb7d25b8a76c6a5470673fe8532312535b90f7e9f3582109fee47265b"), looks := false }, kinds := [], alts := [], laidByText := true, laidKinds := [.data], laidTests := true, laidLooks := .later }
def FnExactLoopLengthCardSaid : Prop := Claim7.holds Tryd.pinned (.plain (OpenSpec.ofChange fnExactLoopLengthSpec)) fnExactLoopLengthCard

/-- THE TIED CARD OF 'laws.FnExactFixLeg'. -/
def fnExactFixLegCard : Claim7 := { stood := { row := fnExactFixLegRow, standIns := [], harness := (true, "f7459f8bb7d25b8a76c6a5470673fe8532312535b90f7e9f3582109fee47265b"), looks := false }, kinds := [], alts := [], laidByText := true, laidKinds := [.data], laidTests := true, laidLooks := .later }
def FnExactFixLegCardSaid : Prop := Claim7.holds Tryd.pinned (.plain (OpenSpec.ofChange fnExactFixLegSpec)) fnExactFixLegCard

/-- THE TIED CARD OF 'laws.FnExactBridgesOf'. -/
def fnExactBridgesOfCard : Claim7 := { stood := { row := fnExactBridgesOfRow, standIns := [], harness := (true, "f7459f8bb7d25b8a76c6a5470673fe8532312535b90f7e9f3582109fee47265b"), looks := false }, kinds := [], alts := [], laidByText := true, laidKinds := [.data], laidTests := true, laidLooks := .later }
def FnExactBridgesOfCardSaid : Prop := Claim7.holds Tryd.pinned (.plain (OpenSpec.ofChange fnExactBridgesOfSpec)) fnExactBridgesOfCard

/-- THE TIED CARD OF 'laws.FnExactStationsWithin'. -/
def fnExactStationsWithinCard : Claim7 := { stood := { row := fnExactStationsWithinRow, standIns := [], harness := (true, "f7459f8bb7d25b8a76c6a5470673fe8532312535b90f7e9f3582109fee47265b"), looks := false }, kinds := [], alts := [], laidByText := true, laidKinds := [.data], laidTests := true, laidLooks := .later }
def FnExactStationsWithinCardSaid : Prop := Claim7.holds Tryd.pinned (.plain (OpenSpec.ofChange fnExactStationsWithinSpec)) fnExactStationsWithinCard

/-- THE TIED CARD OF 'laws.FnExactLoopLegs'. -/
def fnExactLoopLegsCard : Claim7 := { stood := { row := fnExactLoopLegsRow, standIns := [], harness := (true, "f7459f8bb7d25b8a76c6a5470673fe8532312535b90f7e9f3582109fee47265b"), looks := false }, kinds := [], alts := [], laidByText := true, laidKinds := [.data], laidTests := true, laidLooks := .later }
def FnExactLoopLegsCardSaid : Prop := Claim7.holds Tryd.pinned (.plain (OpenSpec.ofChange fnExactLoopLegsSpec)) fnExactLoopLegsCard

/-- THE TIED CARD OF 'laws.FnExactLoopsThrough'. -/
def fnExactLoopsThroughCard : Claim7 := { stood := { row := fnExactLoopsThroughRow, standIns := [], harness := (true, "f7459f8bb7d25b8a76c6a5470673fe8532312535b90f7e9f3582109fee47265b"), looks := false }, kinds := [], alts := [], laidByText := true, laidKinds := [.data], laidTests := true, laidLooks := .later }
def FnExactLoopsThroughCardSaid : Prop := Claim7.holds Tryd.pinned (.plain (OpenSpec.ofChange fnExactLoopsThroughSpec)) fnExactLoopsThroughCard

/-- THE TIED CARD OF 'laws.FnExactLoopOf'. -/
def fnExactLoopOfCard : Claim7 := { stood := { row := fnExactLoopOfRow, standIns := [], harness := (true, "f7459f8bb7d25b8a76c6a5470673fe8532312535b90f7e9f3582109fee47265b"), looks := false }, kinds := [], alts := [], laidByText := true, laidKinds := [.data], laidTests := true, laidLooks := .later }
def FnExactLoopOfCardSaid : Prop := Claim7.holds Tryd.pinned (.plain (OpenSpec.ofChange fnExactLoopOfSpec)) fnExactLoopOfCard

/-- THE TIED CARD OF 'laws.FnExactWorstLoop'. -/
def fnExactWorstLoopCard : Claim7 := { stood := { row := fnExactWorstLoopRow, standIns := [], harness := (true, "f7459f8bb7d25b8a76c6a5470673fe8532312535b90f7e9f3582109fee47265b"), looks := false }, kinds := [], alts := [], laidByText := true, laidKinds := [.data], laidTests := true, laidLooks := .later }
def FnExactWorstLoopCardSaid : Prop := Claim7.holds Tryd.pinned (.plain (OpenSpec.ofChange fnExactWorstLoopSpec)) fnExactWorstLoopCard

/-- THE SECOND FORM's CARD OF 'laws.FnExactCountLoops'. -/
def fnExactCountLoopsUptoCard : Claim7 := { stood := { row := fnExactCountLoopsUptoRow, standIns := [], harness := (true, "f7459f8bb7d25b8a76c6a5470673fe8532312535b90f7e9f3582109fee47265b"), looks := false }, kinds := [], alts := [], laidByText := true, laidKinds := [.data], laidTests := true, laidLooks := .later }
def FnExactCountLoopsUptoCardSaid : Prop := Claim7.holds Tryd.pinned (.plain (OpenSpec.upto fnExactCountLoopsSpec)) fnExactCountLoopsUptoCard

/-- THE SECOND FORM's CARD OF 'laws.FnExactIsBridge'. -/
def fnExactIsBridgeUptoCard : Claim7 := { stood := { row := fnExactIsBridgeUptoRow, standIns := [], harness := (true, "f7459f8bb7d25b8a76c6a5470673fe8532312535b90f7e9f3582109fee47265b"), looks := false }, kinds := [], alts := [], laidByText := true, laidKinds := [.data], laidTests := true, laidLooks := .later }
def FnExactIsBridgeUptoCardSaid : Prop := Claim7.holds Tryd.pinned (.plain (OpenSpec.upto fnExactIsBridgeSpec)) fnExactIsBridgeUptoCard

/-- THE SECOND FORM's CARD OF 'laws.FnExactMisclosureOf'. -/
def fnExactMisclosureOfUptoCard : Claim7 := { stood := { row := fnExactMisclosureOfUptoRow, standIns := [], harness := (true, "f7459f8bb7d25b8a76c6a5470673fe8532312535b90f7e9f3582109fee47265b"), looks := false }, kinds := [], alts := [], laidByText := true, laidKinds := [.data], laidTests := true, laidLooks := .later }
def FnExactMisclosureOfUptoCardSaid : Prop := Claim7.holds Tryd.pinned (.plain (OpenSpec.upto fnExactMisclosureOfSpec)) fnExactMisclosureOfUptoCard

/-- THE SECOND FORM's CARD OF 'laws.FnExactIsBalanced'. -/
def fnExactIsBalancedUptoCard : Claim7 := { stood := { row := fnExactIsBalancedUptoRow, standIns := [], harness := (true, "f7459f8bb7d25b8a76c6a5470673fe8532312535b90f7e9f3582109fee47265b"), looks := false }, kinds := [], alts := [], laidByText := true, laidKinds := [.data], laidTests := true, laidLooks := .later }
def FnExactIsBalancedUptoCardSaid : Prop := Claim7.holds Tryd.pinned (.plain (OpenSpec.upto fnExactIsBalancedSpec)) fnExactIsBalancedUptoCard

/-- THE SECOND FORM's CARD OF 'laws.FnExactLoopLength'. -/
def fnExactLoopLengthUptoCard : Claim7 := { stood := { row := fnExactLoopLengthUptoRow, standIns := [], harness := (true, "f7459f8bb7d25b8a76c6a5470673fe8532312535b90f7e9f3582109fee47265b"), looks := false }, kinds := [], alts := [], laidByText := true, laidKinds := [.data], laidTests := true, laidLooks := .later }
def FnExactLoopLengthUptoCardSaid : Prop := Claim7.holds Tryd.pinned (.plain (OpenSpec.upto fnExactLoopLengthSpec)) fnExactLoopLengthUptoCard

/-- THE SECOND FORM's CARD OF 'laws.FnExactFixLeg'. -/
def fnExactFixLegUptoCard : Claim7 := { stood := { row := fnExactFixLegUptoRow, standIns := [], harness := (true, "f7459f8bb7d25b8a76c6a5470673fe8532312535b90f7e9f3582109fee47265b"), looks := false }, kinds := [], alts := [], laidByText := true, laidKinds := [.data], laidTests := true, laidLooks := .later }
def FnExactFixLegUptoCardSaid : Prop := Claim7.holds Tryd.pinned (.plain (OpenSpec.upto fnExactFixLegSpec)) fnExactFixLegUptoCard

/-- THE SECOND FORM's CARD OF 'laws.FnExactBridgesOf'. -/
def fnExactBridgesOfUptoCard : Claim7 := { stood := { row := fnExactBridgesOfUptoRow, standIns := [], harness := (true, "f7459f8bb7d25b8a76c6a5470673fe8532312535b90f7e9f3582109fee47265b"), looks := false }, kinds := [], alts := [], laidByText := true, laidKinds := [.data], laidTests := true, laidLooks := .later }
def FnExactBridgesOfUptoCardSaid : Prop := Claim7.holds Tryd.pinned (.plain (OpenSpec.upto fnExactBridgesOfSpec)) fnExactBridgesOfUptoCard

/-- THE SECOND FORM's CARD OF 'laws.FnExactStationsWithin'. -/
def fnExactStationsWithinUptoCard : Claim7 := { stood := { row := fnExactStationsWithinUptoRow, standIns := [], harness := (true, "f7459f8bb7d25b8a76c6a5470673fe8532312535b90f7e9f3582109fee47265b"), looks := false }, kinds := [], alts := [], laidByText := true, laidKinds := [.data], laidTests := true, laidLooks := .later }
def FnExactStationsWithinUptoCardSaid : Prop := Claim7.holds Tryd.pinned (.plain (OpenSpec.upto fnExactStationsWithinSpec)) fnExactStationsWithinUptoCard

/-- THE SECOND FORM's CARD OF 'laws.FnExactLoopLegs'. -/
def fnExactLoopLegsUptoCard : Claim7 := { stood := { row := fnExactLoopLegsUptoRow, standIns := [], harness := (true, "f7459f8bb7d25b8a76c6a5470673fe8532312535b90f7e9f3582109fee47265b"), looks := false }, kinds := [], alts := [], laidByText := true, laidKinds := [.data], laidTests := true, laidLooks := .later }
def FnExactLoopLegsUptoCardSaid : Prop := Claim7.holds Tryd.pinned (.plain (OpenSpec.upto fnExactLoopLegsSpec)) fnExactLoopLegsUptoCard

/-- THE SECOND FORM's CARD OF 'laws.FnExactLoopsThrough'. -/
def fnExactLoopsThroughUptoCard : Claim7 := { stood := { row := fnExactLoopsThroughUptoRow, standIns := [], harness := (true, "f7459f8bb7d25b8a76c6a5470673fe8532312535b90f7e9f3582109fee47265b"), looks := false }, kinds := [], alts := [], laidByText := true, laidKinds := [.data], laidTests := true, laidLooks := .later }
def FnExactLoopsThroughUptoCardSaid : Prop := Claim7.holds Tryd.pinned (.plain (OpenSpec.upto fnExactLoopsThroughSpec)) fnExactLoopsThroughUptoCard

/-- THE SECOND FORM's CARD OF 'laws.FnExactLoopOf'. -/
def fnExactLoopOfUptoCard : Claim7 := { stood := { row := fnExactLoopOfUptoRow, standIns := [], harness := (true, "f7459f8bb7d25b8a76c6a5470673fe8532312535b90f7e9f3582109fee47265b"), looks := false }, kinds := [], alts := [], laidByText := true, laidKinds := [.data], laidTests := true, laidLooks := .later }
def FnExactLoopOfUptoCardSaid : Prop := Claim7.holds Tryd.pinned (.plain (OpenSpec.upto fnExactLoopOfSpec)) fnExactLoopOfUptoCard

/-- THE SECOND FORM's CARD OF 'laws.FnExactWorstLoop'. -/
def fnExactWorstLoopUptoCard : Claim7 := { stood := { row := fnExactWorstLoopUptoRow, standIns := [], harness := (true, "f7459f8bb7d25b8a76c6a5470673fe8532312535b90f7e9f3582109fee47265b"), looks := false }, kinds := [], alts := [], laidByText := true, laidKinds := [.data], laidTests := true, laidLooks := .later }
def FnExactWorstLoopUptoCardSaid : Prop := Claim7.holds Tryd.pinned (.plain (OpenSpec.upto fnExactWorstLoopSpec)) fnExactWorstLoopUptoCard
end Rows
end Go.Proofs.YtiooiefjcbooeaaDoor
