/-
  DERIVED. GIVEN WITH THE SEED: THE CARDS: each row of YtcafgpincnkcdaaDoorRows.lean that lists a variable, with what it lists TIED to the program's text (the seventh form; the later family's looks); each row that meets fmt, with fmt's text TOLD by the authors' own Lean function (tested against real Go, not proved from fmt's source: count such statements apart). THE CARD IS WHAT COUNTS. Prove the row's statement (the work); the ties are given (YtcafgpincnkcdaaDoorTie.lean); close each card by the builder's one call (the guide's Derived/Test/ToyasCard.lean, 'card_holds'). Laid BY PROGRAM, IN A SANDBOX (cutbox-door.mjs). By AI agents, Wed Nov 11 2026. No macro, syntax, notation, axiom, sorry.
-/
import Derived.Test.YtcafgpincnkcdaaDoorRows
import GoSem.ClaimSeven
namespace Go.Proofs.YtcafgpincnkcdaaDoor
namespace Rows

/-- THE TIED CARD OF 'laws.FnPlaces'. -/
def fnPlacesCard : Claim7 := { stood := { row := fnPlacesRow, standIns := [], harness := (true, "7decbdd7b4d761a81d44944185676c0b4027964f33349372c29193d97e889cd6"), looks := false }, kinds := [], alts := [], laidByText := true, laidKinds := [.data], laidTests := true, laidLooks := .later }
def FnPlacesCardSaid : Prop := Claim7.holds Tryd.pinned (.plain (OpenSpec.ofChange fnPlacesSpec)) fnPlacesCard

/-- THE TIED CARD OF 'laws.FnExtents'. -/
def fnExtentsCard : Claim7 := { stood := { row := fnExtentsRow, standIns := [], harness := (true, "7decbdd7b4d761a81d44944185676c0b4027964f33349372c29193d97e889cd6"), looks := false }, kinds := [], alts := [], laidByText := true, laidKinds := [.data], laidTests := true, laidLooks := .later }
def FnExtentsCardSaid : Prop := Claim7.holds Tryd.pinned (.plain (OpenSpec.ofChange fnExtentsSpec)) fnExtentsCard

/-- THE TIED CARD OF 'laws.FnBridges'. -/
def fnBridgesCard : Claim7 := { stood := { row := fnBridgesRow, standIns := [], harness := (true, "7decbdd7b4d761a81d44944185676c0b4027964f33349372c29193d97e889cd6"), looks := false }, kinds := [], alts := [], laidByText := true, laidKinds := [.data], laidTests := true, laidLooks := .later }
def FnBridgesCardSaid : Prop := Claim7.holds Tryd.pinned (.plain (OpenSpec.ofChange fnBridgesSpec)) fnBridgesCard

/-- THE TIED CARD OF 'laws.FnLoops'. -/
def fnLoopsCard : Claim7 := { stood := { row := fnLoopsRow, standIns := [], harness := (true, "7decbdd7b4d761a81d44944185676c0b4027964f33349372c29193d97e889cd6"), looks := false }, kinds := [], alts := [], laidByText := true, laidKinds := [.data], laidTests := true, laidLooks := .later }
def FnLoopsCardSaid : Prop := Claim7.holds Tryd.pinned (.plain (OpenSpec.ofChange fnLoopsSpec)) fnLoopsCard

/-- THE SECOND FORM's CARD OF 'laws.FnPlaces'. -/
def fnPlacesUptoCard : Claim7 := { stood := { row := fnPlacesUptoRow, standIns := [], harness := (true, "7decbdd7b4d761a81d44944185676c0b4027964f33349372c29193d97e889cd6"), looks := false }, kinds := [], alts := [], laidByText := true, laidKinds := [.data], laidTests := true, laidLooks := .later }
def FnPlacesUptoCardSaid : Prop := Claim7.holds Tryd.pinned (.plain (OpenSpec.upto fnPlacesSpec)) fnPlacesUptoCard

/-- THE SECOND FORM's CARD OF 'laws.FnExtents'. -/
def fnExtentsUptoCard : Claim7 := { stood := { row := fnExtentsUptoRow, standIns := [], harness := (true, "7decbdd7b4d761a81d44944185676c0b4027964f33349372c29193d97e889cd6"), looks := false }, kinds := [], alts := [], laidByText := true, laidKinds := [.data], laidTests := true, laidLooks := .later }
def FnExtentsUptoCardSaid : Prop := Claim7.holds Tryd.pinned (.plain (OpenSpec.upto fnExtentsSpec)) fnExtentsUptoCard

/-- THE SECOND FORM's CARD OF 'laws.FnBridges'. -/
def fnBridgesUptoCard : Claim7 := { stood := { row := fnBridgesUptoRow, standIns := [], harness := (true, "7decbdd7b4d761a81d44944185676c0b4027964f33349372c29193d97e889cd6"), looks := false }, kinds := [], alts := [], laidByText := true, laidKinds := [.data], laidTests := true, laidLooks := .later }
def FnBridgesUptoCardSaid : Prop := Claim7.holds Tryd.pinned (.plain (OpenSpec.upto fnBridgesSpec)) fnBridgesUptoCard

/-- THE SECOND FORM's CARD OF 'laws.FnLoops'. -/
def fnLoopsUptoCard : Claim7 := { stood := { row := fnLoopsUptoRow, standIns := [], harness := (true, "7decbdd7b4d761a81d44944185676c0b4027964f33349372c29193d97e889cd6"), looks := false }, kinds := [], alts := [], laidByText := true, laidKinds := [.data], laidTests := true, laidLooks := .later }
def FnLoopsUptoCardSaid : Prop := Claim7.holds Tryd.pinned (.plain (OpenSpec.upto fnLoopsSpec)) fnLoopsUptoCard
end Rows
end Go.Proofs.YtcafgpincnkcdaaDoor
