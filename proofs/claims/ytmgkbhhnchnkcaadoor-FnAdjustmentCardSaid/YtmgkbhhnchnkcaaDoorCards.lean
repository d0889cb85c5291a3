/-
  DERIVED. GIVEN WITH THE SEED: THE CARDS: each row of YtmgkbhhnchnkcaaDoorRows.lean that lists a variable, with what it lists TIED to the program's text (the seventh form; the later family's looks); each row that meets fmt, with fmt's text TOLD by the authors' own Lean function (tested against real Go, not proved from fmt's source: count such statements apart). THE CARD IS WHAT COUNTS. Prove the row's statement (the work); the ties are given (YtmgkbhhnchnkcaaDoorTie.lean); close each card by the builder's one call (the guide's Derived/Test/ToyasCard.lean, 'card_holds'). Laid BY PROGRAM, IN A SANDBOX (cutbox-door.mjs). By AI agents, Wed Nov 11 2026. No macro, syntax, notation, axiom, sorry.
-/
import Derived.Test.YtmgkbhhnchnkcaaDoorRows
import GoSem.ClaimSeven
namespace Go.Proofs.YtmgkbhhnchnkcaaDoor
namespace Rows

/-- THE TIED CARD OF 'laws.FnAdjustment'. -/
def fnAdjustmentCard : Claim7 := { stood := { row := fnAdjustmentRow, standIns := [], harness := (true, "0423aab4f36743ea19d43a558bad6b029d02dcf1ba0a973a45ddb1b834770533"), looks := false }, kinds := [], alts := [], laidByText := true, laidKinds := [.data], laidTests := true, laidLooks := .later }
def FnAdjustmentCardSaid : Prop := Claim7.holds Tryd.pinned (.plain (OpenSpec.ofChange fnAdjustmentSpec)) fnAdjustmentCard

/-- THE SECOND FORM's CARD OF 'laws.FnAdjustment'. -/
def fnAdjustmentUptoCard : Claim7 := { stood := { row := fnAdjustmentUptoRow, standIns := [], harness := (true, "0423aab4f36743ea19d43a558bad6b029d02dcf1ba0a973a45ddb1b834770533"), looks := false }, kinds := [], alts := [], laidByText := true, laidKinds := [.data], laidTests := true, laidLooks := .later }
def FnAdjustmentUptoCardSaid : Prop := Claim7.holds Tryd.pinned (.plain (OpenSpec.upto fnAdjustmentSpec)) fnAdjustmentUptoCard
end Rows
end Go.Proofs.YtmgkbhhnchnkcaaDoor
