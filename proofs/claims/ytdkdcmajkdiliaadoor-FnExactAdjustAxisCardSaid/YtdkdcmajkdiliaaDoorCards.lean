/-
  DERIVED. GIVEN WITH THE SEED: THE CARDS: each row of YtdkdcmajkdiliaaDoorRows.lean that lists a variable, with what it lists TIED to the program's text (the seventh form; the later family's looks); each row that meets fmt, with fmt's text TOLD by the authors' own Lean function (tested against real Go, not proved from fmt's source: count such statements apart). THE CARD IS WHAT COUNTS. Prove the row's statement (the work); the ties are given (YtdkdcmajkdiliaaDoorTie.lean); close each card by the builder's one call (the guide's Derived/Test/ToyasCard.lean, 'card_holds'). Laid BY PROGRAM, IN A SANDBOX (cutbox-door.mjs). By AI agents, Wed Nov 11 2026. No macro, syntax, notation, axiom, sorry.
-/
import Derived.Test.YtdkdcmajkdiliaaDoorRows
import GoSem.ClaimSeven
namespace Go.Proofs.YtdkdcmajkdiliaaDoor
namespace Rows

/-- THE TIED CARD OF 'laws.FnExactTreeCount'. -/
def fnExactTreeCountCard : Claim7 := { stood := { row := fnExactTreeCountRow, standIns := [], harness := (true, "2a1488de45d53d4053078259442d334a7a51650e156427b65766a65846706ff2"), looks := false }, kinds := [], alts := [], laidByText := true, laidKinds := [.data], laidTests := true, laidLooks := .later }
def FnExactTreeCountCardSaid : Prop := Claim7.holds Tryd.pinned (.plain (OpenSpec.ofChange fnExactTreeCountSpec)) fnExactTreeCountCard

/-- THE TIED CARD OF 'laws.FnExactAdjustAxis'. -/
def fnExactAdjustAxisCard : Claim7 := { stood := { row := fnExactAdjustAxisRow, standIns := [], harness := (true, "2a1488de45d53d4053078259442d334a7a51650e156427b65766a65846706ff2"), looks := false }, kinds := [], alts := [], laidByText := true, laidKinds := [.data], laidTests := true, laidLooks := .later }
def FnExactAdjustAxisCardSaid : Prop := Claim7.holds Tryd.pinned (.plain (OpenSpec.ofChange fnExactAdjustAxisSpec)) fnExactAdjustAxisCard

/-- THE SECOND FORM's CARD OF 'laws.FnExactTreeCount'. -/
def fnExactTreeCountUptoCard : Claim7 := { stood := { row := fnExactTreeCountUptoRow, standIns := [], harness := (true, "2a1488de45d53d4053078259442d334a7a51650e156427b65766a65846706ff2"), looks := false }, kinds := [], alts := [], laidByText := true, laidKinds := [.data], laidTests := true, laidLooks := .later }
def FnExactTreeCountUptoCardSaid : Prop := Claim7.holds Tryd.pinned (.plain (OpenSpec.upto fnExactTreeCountSpec)) fnExactTreeCountUptoCard

/-- THE SECOND FORM's CARD OF 'laws.FnExactAdjustAxis'. -/
def fnExactAdjustAxisUptoCard : Claim7 := { stood := { row := fnExactAdjustAxisUptoRow, standIns := [], harness := (true, "2a1488de45d53d4053078259442d334a7a51650e156427b65766a65846706ff2"), looks := false }, kinds := [], alts := [], laidByText := true, laidKinds := [.data], laidTests := true, laidLooks := .later }
def FnExactAdjustAxisUptoCardSaid : Prop := Claim7.holds Tryd.pinned (.plain (OpenSpec.upto fnExactAdjustAxisSpec)) fnExactAdjustAxisUptoCard
end Rows
end Go.Proofs.YtdkdcmajkdiliaaDoor
