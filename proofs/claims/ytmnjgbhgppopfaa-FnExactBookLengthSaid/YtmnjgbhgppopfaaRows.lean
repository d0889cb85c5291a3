/-
  No cell of these rows narrows 'for every input' (looked for: loops, veiled, ifaces, maps, wideKeys, modest, calm, conditions, laid).
  DERIVED. THE GIVEN ROWS OF THIS SEAT. 12 by the template 'for every input the law returns true; each argument reads behind the call as it read before'; 0 by the template 'total and deterministic' (their statements: YtmnjgbhgppopfaaTotals.lean).
  GIVEN WITH THE SEED: the statements are not yours to turn. If you find one false, say at which input.
  Laid BY PROGRAM, IN A SANDBOX (cutbox-rows.mjs): the forced cells as the released guide's own fill.sh prints them over the translation 8c0640c69b51091b… (all of the seat's roots in one cut). By AI agents, Wed Nov 11 2026. No macro, syntax, notation, axiom, sorry.
-/
import Derived.Test.YtmnjgbhgppopfaaChecked
import GoSem.Claim
import GoSem.ClaimJoined
import GoSem.ClaimMapViews
import Derived.JoinedTies
import Derived.KernelRfl
namespace Go.Proofs.Ytmnjgbhgppopfaa
/- THE CELL 'sum', in the pinned program and in every row, IS THE sha256 OF THE DUMP (.gsa) THAT YtmnjgbhgppopfaaProg.lean LOADS. Nothing in Lean hashes anything: it is a label: what it is worth is what the hold of that sum in a sandbox is worth. -/
noncomputable def Try.pinned : Pinned := { name := "ytmnjgbhgppopfaa", sum := "8c0640c69b51091b4389ae728c600d4dfd739129648f1c51fe3a957725b8e032", checked := Try.checked }
namespace Rows
def none {H : Type} : Left H := { results := [], args := [] }

/-- 'laws.FnExactIsEntry': WHATEVER THE INPUT: true; the input reads as it did. -/
def fnExactIsEntrySpec : ChangeSpec := { name := "fnExactIsEntry", fn := fun _ => fun
  | [d] => { results := [.lit (.bool true)], args := [d] }
  | _ => none }
def fnExactIsEntryRow : OpenClaim := { program := "ytmnjgbhgppopfaa", sum := "8c0640c69b51091b4389ae728c600d4dfd739129648f1c51fe3a957725b8e032", func := "loop.example/g00933/laws.FnExactIsEntry", spec := "fnExactIsEntry", apart := false }
def FnExactIsEntrySaid : Prop := fnExactIsEntryRow.holds Try.pinned (OpenSpec.ofChange fnExactIsEntrySpec)

/-- ITS FALSE NEIGHBOUR: 'it returns false'. Refute it at one input. -/
def fnExactIsEntryWrong : ChangeSpec := { name := "fnExactIsEntry", fn := fun _ => fun
  | [d] => { results := [.lit (.bool false)], args := [d] }
  | _ => none }
def FnExactIsEntryWrongFalsely : Prop := fnExactIsEntryRow.holds Try.pinned (OpenSpec.ofChange fnExactIsEntryWrong)

/-- 'laws.FnExactMirrorPassage': WHATEVER THE INPUT: true; the input reads as it did. -/
def fnExactMirrorPassageSpec : ChangeSpec := { name := "fnExactMirrorPassage", fn := fun _ => fun
  | [d] => { results := [.lit (.bool true)], args := [d] }
  | _ => none }
def fnExactMirrorPassageRow : OpenClaim := { program := "ytmnjgbhgppopfaa", sum := "8c0640c69b51091b4389ae728c600d4dfd739129648f1c51fe3a957725b8e032", func := "loop.example/g00933/laws.FnExactMirrorPassage", spec := "fnExactMirrorPassage", apart := false }
def FnExactMirrorPassageSaid : Prop := fnExactMirrorPassageRow.holds Try.pinned (OpenSpec.ofChange fnExactMirrorPassageSpec)

/-- ITS FALSE NEIGHBOUR: 'it returns false'. Refute it at one input. -/
def fnExactMirrorPassageWrong : ChangeSpec := { name := "fnExactMirrorPassage", fn := fun _ => fun
  | [d] => { results := [.lit (.bool false)], args := [d] }
  | _ => none }
def FnExactMirrorPassageWrongFalsely : Prop := fnExactMirrorPassageRow.holds Try.pinned (OpenSpec.ofChange fnExactMirrorPassageWrong)

/-- 'laws.FnExactArePoints': WHATEVER THE INPUT: true; the input reads as it did. -/
def fnExactArePointsSpec : ChangeSpec := { name := "fnExactArePoints", fn := fun _ => fun
  | [d] => { results := [.lit (.bool true)], args := [d] }
  | _ => none }
def fnExactArePointsRow : OpenClaim := { program := "ytmnjgbhgppopfaa", sum := "8c0640c69b51091b4389ae728c600d4dfd739129648f1c51fe3a957725b8e032", func := "loop.example/g00933/laws.FnExactArePoints", spec := "fnExactArePoints", apart := false }
def FnExactArePointsSaid : Prop := fnExactArePointsRow.holds Try.pinned (OpenSpec.ofChange fnExactArePointsSpec)

/-- ITS FALSE NEIGHBOUR: 'it returns false'. Refute it at one input. -/
def fnExactArePointsWrong : ChangeSpec := { name := "fnExactArePoints", fn := fun _ => fun
  | [d] => { results := [.lit (.bool false)], args := [d] }
  | _ => none }
def FnExactArePointsWrongFalsely : Prop := fnExactArePointsRow.holds Try.pinned (OpenSpec.ofChange fnExactArePointsWrong)

/-- 'laws.FnExactLegOf': WHATEVER THE INPUT: true; the input reads as it did. -/
def fnExactLegOfSpec : ChangeSpec := { name := "fnExactLegOf", fn := fun _ => fun
  | [d] => { results := [.lit (.bool true)], args := [d] }
  | _ => none }
def fnExactLegOfRow : OpenClaim := { program := "ytmnjgbhgppopfaa", sum := "8c0640c69b51091b4389ae728c600d4dfd739129648f1c51fe3a957725b8e032", func := "loop.example/g00933/laws.FnExactLegOf", spec := "fnExactLegOf", apart := false }
def FnExactLegOfSaid : Prop := fnExactLegOfRow.holds Try.pinned (OpenSpec.ofChange fnExactLegOfSpec)

/-- ITS FALSE NEIGHBOUR: 'it returns false'. Refute it at one input. -/
def fnExactLegOfWrong : ChangeSpec := { name := "fnExactLegOf", fn := fun _ => fun
  | [d] => { results := [.lit (.bool false)], args := [d] }
  | _ => none }
def FnExactLegOfWrongFalsely : Prop := fnExactLegOfRow.holds Try.pinned (OpenSpec.ofChange fnExactLegOfWrong)

/-- 'laws.FnExactArePassages': WHATEVER THE INPUT: true; the input reads as it did. -/
def fnExactArePassagesSpec : ChangeSpec := { name := "fnExactArePassages", fn := fun _ => fun
  | [d] => { results := [.lit (.bool true)], args := [d] }
  | _ => none }
def fnExactArePassagesRow : OpenClaim := { program := "ytmnjgbhgppopfaa", sum := "8c0640c69b51091b4389ae728c600d4dfd739129648f1c51fe3a957725b8e032", func := "loop.example/g00933/laws.FnExactArePassages", spec := "fnExactArePassages", apart := false }
def FnExactArePassagesSaid : Prop := fnExactArePassagesRow.holds Try.pinned (OpenSpec.ofChange fnExactArePassagesSpec)

/-- ITS FALSE NEIGHBOUR: 'it returns false'. Refute it at one input. -/
def fnExactArePassagesWrong : ChangeSpec := { name := "fnExactArePassages", fn := fun _ => fun
  | [d] => { results := [.lit (.bool false)], args := [d] }
  | _ => none }
def FnExactArePassagesWrongFalsely : Prop := fnExactArePassagesRow.holds Try.pinned (OpenSpec.ofChange fnExactArePassagesWrong)

/-- 'laws.FnExactWidestPassage': WHATEVER THE INPUT: true; the input reads as it did. -/
def fnExactWidestPassageSpec : ChangeSpec := { name := "fnExactWidestPassage", fn := fun _ => fun
  | [d] => { results := [.lit (.bool true)], args := [d] }
  | _ => none }
def fnExactWidestPassageRow : OpenClaim := { program := "ytmnjgbhgppopfaa", sum := "8c0640c69b51091b4389ae728c600d4dfd739129648f1c51fe3a957725b8e032", func := "loop.example/g00933/laws.FnExactWidestPassage", spec := "fnExactWidestPassage", apart := false }
def FnExactWidestPassageSaid : Prop := fnExactWidestPassageRow.holds Try.pinned (OpenSpec.ofChange fnExactWidestPassageSpec)

/-- ITS FALSE NEIGHBOUR: 'it returns false'. Refute it at one input. -/
def fnExactWidestPassageWrong : ChangeSpec := { name := "fnExactWidestPassage", fn := fun _ => fun
  | [d] => { results := [.lit (.bool false)], args := [d] }
  | _ => none }
def FnExactWidestPassageWrongFalsely : Prop := fnExactWidestPassageRow.holds Try.pinned (OpenSpec.ofChange fnExactWidestPassageWrong)

/-- 'laws.FnExactChangeBetween': WHATEVER THE INPUT: true; the input reads as it did. -/
def fnExactChangeBetweenSpec : ChangeSpec := { name := "fnExactChangeBetween", fn := fun _ => fun
  | [d1, d2, d3] => { results := [.lit (.bool true)], args := [d1, d2, d3] }
  | _ => none }
def fnExactChangeBetweenRow : OpenClaim := { program := "ytmnjgbhgppopfaa", sum := "8c0640c69b51091b4389ae728c600d4dfd739129648f1c51fe3a957725b8e032", func := "loop.example/g00933/laws.FnExactChangeBetween", spec := "fnExactChangeBetween", recurses := true, apart := false }
def FnExactChangeBetweenSaid : Prop := fnExactChangeBetweenRow.holds Try.pinned (OpenSpec.ofChange fnExactChangeBetweenSpec)

/-- ITS FALSE NEIGHBOUR: 'it returns false'. Refute it at one input. -/
def fnExactChangeBetweenWrong : ChangeSpec := { name := "fnExactChangeBetween", fn := fun _ => fun
  | [d1, d2, d3] => { results := [.lit (.bool false)], args := [d1, d2, d3] }
  | _ => none }
def FnExactChangeBetweenWrongFalsely : Prop := fnExactChangeBetweenRow.holds Try.pinned (OpenSpec.ofChange fnExactChangeBetweenWrong)

/-- 'laws.FnExactDeclinationOn': WHATEVER THE INPUT: true; the input reads as it did. -/
def fnExactDeclinationOnSpec : ChangeSpec := { name := "fnExactDeclinationOn", fn := fun _ => fun
  | [d1, d2] => { results := [.lit (.bool true)], args := [d1, d2] }
  | _ => none }
def fnExactDeclinationOnRow : OpenClaim := { program := "ytmnjgbhgppopfaa", sum := "8c0640c69b51091b4389ae728c600d4dfd739129648f1c51fe3a957725b8e032", func := "loop.example/g00933/laws.FnExactDeclinationOn", spec := "fnExactDeclinationOn", recurses := true, apart := false }
def FnExactDeclinationOnSaid : Prop := fnExactDeclinationOnRow.holds Try.pinned (OpenSpec.ofChange fnExactDeclinationOnSpec)

/-- ITS FALSE NEIGHBOUR: 'it returns false'. Refute it at one input. -/
def fnExactDeclinationOnWrong : ChangeSpec := { name := "fnExactDeclinationOn", fn := fun _ => fun
  | [d1, d2] => { results := [.lit (.bool false)], args := [d1, d2] }
  | _ => none }
def FnExactDeclinationOnWrongFalsely : Prop := fnExactDeclinationOnRow.holds Try.pinned (OpenSpec.ofChange fnExactDeclinationOnWrong)

/-- 'laws.FnExactBookLength': WHATEVER THE INPUT: true; the input reads as it did. -/
def fnExactBookLengthSpec : ChangeSpec := { name := "fnExactBookLength", fn := fun _ => fun
  | [d] => { results := [.lit (.bool true)], args := [d] }
  | _ => none }
def fnExactBookLengthRow : OpenClaim := { program := "ytmnjgbhgppopfaa", sum := "8c0640c69b51091b4389ae728c600d4dfd739129648f1c51fe3a957725b8e032", func := "loop.example/g00933/laws.FnExactBookLength", spec := "fnExactBookLength", unfollowed := true, recurses := true, apart := false }
def FnExactBookLengthSaid : Prop := fnExactBookLengthRow.holds Try.pinned (OpenSpec.ofChange fnExactBookLengthSpec)

/-- ITS FALSE NEIGHBOUR: 'it returns false'. Refute it at one input. -/
def fnExactBookLengthWrong : ChangeSpec := { name := "fnExactBookLength", fn := fun _ => fun
  | [d] => { results := [.lit (.bool false)], args := [d] }
  | _ => none }
def FnExactBookLengthWrongFalsely : Prop := fnExactBookLengthRow.holds Try.pinned (OpenSpec.ofChange fnExactBookLengthWrong)

/-- 'laws.FnExactMagneticBearing': WHATEVER THE INPUT: true; the input reads as it did. -/
def fnExactMagneticBearingSpec : ChangeSpec := { name := "fnExactMagneticBearing", fn := fun _ => fun
  | [d1, d2, d3] => { results := [.lit (.bool true)], args := [d1, d2, d3] }
  | _ => none }
def fnExactMagneticBearingRow : OpenClaim := { program := "ytmnjgbhgppopfaa", sum := "8c0640c69b51091b4389ae728c600d4dfd739129648f1c51fe3a957725b8e032", func := "loop.example/g00933/laws.FnExactMagneticBearing", spec := "fnExactMagneticBearing", recurses := true, apart := false }
def FnExactMagneticBearingSaid : Prop := fnExactMagneticBearingRow.holds Try.pinned (OpenSpec.ofChange fnExactMagneticBearingSpec)

/-- ITS FALSE NEIGHBOUR: 'it returns false'. Refute it at one input. -/
def fnExactMagneticBearingWrong : ChangeSpec := { name := "fnExactMagneticBearing", fn := fun _ => fun
  | [d1, d2, d3] => { results := [.lit (.bool false)], args := [d1, d2, d3] }
  | _ => none }
def FnExactMagneticBearingWrongFalsely : Prop := fnExactMagneticBearingRow.holds Try.pinned (OpenSpec.ofChange fnExactMagneticBearingWrong)

/-- 'laws.FnExactTrueBearing': WHATEVER THE INPUT: true; the input reads as it did. -/
def fnExactTrueBearingSpec : ChangeSpec := { name := "fnExactTrueBearing", fn := fun _ => fun
  | [d1, d2, d3] => { results := [.lit (.bool true)], args := [d1, d2, d3] }
  | _ => none }
def fnExactTrueBearingRow : OpenClaim := { program := "ytmnjgbhgppopfaa", sum := "8c0640c69b51091b4389ae728c600d4dfd739129648f1c51fe3a957725b8e032", func := "loop.example/g00933/laws.FnExactTrueBearing", spec := "fnExactTrueBearing", recurses := true, apart := false }
def FnExactTrueBearingSaid : Prop := fnExactTrueBearingRow.holds Try.pinned (OpenSpec.ofChange fnExactTrueBearingSpec)

/-- ITS FALSE NEIGHBOUR: 'it returns false'. Refute it at one input. -/
def fnExactTrueBearingWrong : ChangeSpec := { name := "fnExactTrueBearing", fn := fun _ => fun
  | [d1, d2, d3] => { results := [.lit (.bool false)], args := [d1, d2, d3] }
  | _ => none }
def FnExactTrueBearingWrongFalsely : Prop := fnExactTrueBearingRow.holds Try.pinned (OpenSpec.ofChange fnExactTrueBearingWrong)

/-- 'laws.FnExactDaysWith': WHATEVER THE INPUT: true; the input reads as it did. -/
def fnExactDaysWithSpec : ChangeSpec := { name := "fnExactDaysWith", fn := fun _ => fun
  | [d1, d2] => { results := [.lit (.bool true)], args := [d1, d2] }
  | _ => none }
def fnExactDaysWithRow : OpenClaim := { program := "ytmnjgbhgppopfaa", sum := "8c0640c69b51091b4389ae728c600d4dfd739129648f1c51fe3a957725b8e032", func := "loop.example/g00933/laws.FnExactDaysWith", spec := "fnExactDaysWith", recurses := true, apart := false }
def FnExactDaysWithSaid : Prop := fnExactDaysWithRow.holds Try.pinned (OpenSpec.ofChange fnExactDaysWithSpec)

/-- ITS FALSE NEIGHBOUR: 'it returns false'. Refute it at one input. -/
def fnExactDaysWithWrong : ChangeSpec := { name := "fnExactDaysWith", fn := fun _ => fun
  | [d1, d2] => { results := [.lit (.bool false)], args := [d1, d2] }
  | _ => none }
def FnExactDaysWithWrongFalsely : Prop := fnExactDaysWithRow.holds Try.pinned (OpenSpec.ofChange fnExactDaysWithWrong)

/- THE SECOND FORM. 'bulk': how many values and letters a reading holds, each counted each time it is reached (what is shared counts as often as it is met; a slice's spare places count too). A statement '..UptoSaid' is the law's where the arguments, and the package variables that the reading takes, are together of bulk at most 1048576: NARROWER than '..Said'. Prove '..Said' where nothing that the law and all that it calls make is longer than what came in: it says more and counts as full. Else prove '..UptoSaid'. A law counts once. -/
mutual
def uptoBulk {H : Type} : DataW H → Nat
  | .lit (.string bytes) => bytes.length + 1
  | .lit _ => 1
  | .nil => 1
  | .ptr d => uptoBulk d + 1
  | .slice elems spare => uptoBulkAll elems + uptoBulkAll spare + 1
  | .agg parts => uptoBulkAll parts + 1
  | .iface _ d => uptoBulk d + 1
  | .map entries => uptoBulkEntries entries + 1
  | .held _ => 1
def uptoBulkAll {H : Type} : List (DataW H) → Nat
  | [] => 0
  | d :: r => uptoBulk d + uptoBulkAll r
def uptoBulkEntries {H : Type} : List (Lit × DataW H) → Nat
  | [] => 0
  | x :: r => uptoBulkEntry x + uptoBulkEntries r
def uptoBulkEntry {H : Type} : Lit × DataW H → Nat
  | (.string bytes, d) => bytes.length + uptoBulk d + 1
  | (_, d) => uptoBulk d + 1
 end
def uptoSmall : (H : Type) → List (DataW H) → Bool := fun _ ds => decide (uptoBulkAll ds ≤ 1048576)
def OpenSpec.upto (s : _root_.Go.ChangeSpec) : _root_.Go.OpenSpec := { _root_.Go.OpenSpec.ofChange s with cond := some uptoSmall }

/-- 'laws.FnExactIsEntry', WHERE WHAT IT READS IS OF BULK AT MOST 1048576: true; the input reads as it did. -/
def fnExactIsEntryUptoRow : OpenClaim := { program := "ytmnjgbhgppopfaa", sum := "8c0640c69b51091b4389ae728c600d4dfd739129648f1c51fe3a957725b8e032", func := "loop.example/g00933/laws.FnExactIsEntry", spec := "fnExactIsEntry", apart := false, narrowed := true }
def FnExactIsEntryUptoSaid : Prop := fnExactIsEntryUptoRow.holds Try.pinned (OpenSpec.upto fnExactIsEntrySpec)

/-- 'laws.FnExactMirrorPassage', WHERE WHAT IT READS IS OF BULK AT MOST 1048576: true; the input reads as it did. -/
def fnExactMirrorPassageUptoRow : OpenClaim := { program := "ytmnjgbhgppopfaa", sum := "8c0640c69b51091b4389ae728c600d4dfd739129648f1c51fe3a957725b8e032", func := "loop.example/g00933/laws.FnExactMirrorPassage", spec := "fnExactMirrorPassage", apart := false, narrowed := true }
def FnExactMirrorPassageUptoSaid : Prop := fnExactMirrorPassageUptoRow.holds Try.pinned (OpenSpec.upto fnExactMirrorPassageSpec)

/-- 'laws.FnExactArePoints', WHERE WHAT IT READS IS OF BULK AT MOST 1048576: true; the input reads as it did. -/
def fnExactArePointsUptoRow : OpenClaim := { program := "ytmnjgbhgppopfaa", sum := "8c0640c69b51091b4389ae728c600d4dfd739129648f1c51fe3a957725b8e032", func := "loop.example/g00933/laws.FnExactArePoints", spec := "fnExactArePoints", apart := false, narrowed := true }
def FnExactArePointsUptoSaid : Prop := fnExactArePointsUptoRow.holds Try.pinned (OpenSpec.upto fnExactArePointsSpec)

/-- 'laws.FnExactLegOf', WHERE WHAT IT READS IS OF BULK AT MOST 1048576: true; the input reads as it did. -/
def fnExactLegOfUptoRow : OpenClaim := { program := "ytmnjgbhgppopfaa", sum := "8c0640c69b51091b4389ae728c600d4dfd739129648f1c51fe3a957725b8e032", func := "loop.example/g00933/laws.FnExactLegOf", spec := "fnExactLegOf", apart := false, narrowed := true }
def FnExactLegOfUptoSaid : Prop := fnExactLegOfUptoRow.holds Try.pinned (OpenSpec.upto fnExactLegOfSpec)

/-- 'laws.FnExactArePassages', WHERE WHAT IT READS IS OF BULK AT MOST 1048576: true; the input reads as it did. -/
def fnExactArePassagesUptoRow : OpenClaim := { program := "ytmnjgbhgppopfaa", sum := "8c0640c69b51091b4389ae728c600d4dfd739129648f1c51fe3a957725b8e032", func := "loop.example/g00933/laws.FnExactArePassages", spec := "fnExactArePassages", apart := false, narrowed := true }
def FnExactArePassagesUptoSaid : Prop := fnExactArePassagesUptoRow.holds Try.pinned (OpenSpec.upto fnExactArePassagesSpec)

/-- 'laws.FnExactWidestPassage', WHERE WHAT IT READS IS OF BULK AT MOST 1048576: true; the input reads as it did. -/
def fnExactWidestPassageUptoRow : OpenClaim := { program := "ytmnjgbhgppopfaa", sum := "8c0640c69b51091b4389ae728c600d4dfd739129648f1c51fe3a957725b8e032", func := "loop.example/g00933/laws.FnExactWidestPassage", spec := "fnExactWidestPassage", apart := false, narrowed := true }
def FnExactWidestPassageUptoSaid : Prop := fnExactWidestPassageUptoRow.holds Try.pinned (OpenSpec.upto fnExactWidestPassageSpec)

/-- 'laws.FnExactChangeBetween', WHERE WHAT IT READS IS OF BULK AT MOST 1048576: true; the input reads as it did. -/
def fnExactChangeBetweenUptoRow : OpenClaim := { program := "ytmnjgbhgppopfaa", sum := "8c0640c69b51091b4389ae728c600d4dfd739129648f1c51fe3a957725b8e032", func := "loop.example/g00933/laws.FnExactChangeBetween", spec := "fnExactChangeBetween", recurses := true, apart := false, narrowed := true }
def FnExactChangeBetweenUptoSaid : Prop := fnExactChangeBetweenUptoRow.holds Try.pinned (OpenSpec.upto fnExactChangeBetweenSpec)

/-- 'laws.FnExactDeclinationOn', WHERE WHAT IT READS IS OF BULK AT MOST 1048576: true; the input reads as it did. -/
def fnExactDeclinationOnUptoRow : OpenClaim := { program := "ytmnjgbhgppopfaa", sum := "8c0640c69b51091b4389ae728c600d4dfd739129648f1c51fe3a957725b8e032", func := "loop.example/g00933/laws.FnExactDeclinationOn", spec := "fnExactDeclinationOn", recurses := true, apart := false, narrowed := true }
def FnExactDeclinationOnUptoSaid : Prop := fnExactDeclinationOnUptoRow.holds Try.pinned (OpenSpec.upto fnExactDeclinationOnSpec)

/-- 'laws.FnExactBookLength', WHERE WHAT IT READS IS OF BULK AT MOST 1048576: true; the input reads as it did. -/
def fnExactBookLengthUptoRow : OpenClaim := { program := "ytmnjgbhgppopfaa", sum := "8c0640c69b51091b4389ae728c600d4dfd739129648f1c51fe3a957725b8e032", func := "loop.example/g00933/laws.FnExactBookLength", spec := "fnExactBookLength", unfollowed := true, recurses := true, apart := false, narrowed := true }
def FnExactBookLengthUptoSaid : Prop := fnExactBookLengthUptoRow.holds Try.pinned (OpenSpec.upto fnExactBookLengthSpec)

/-- 'laws.FnExactMagneticBearing', WHERE WHAT IT READS IS OF BULK AT MOST 1048576: true; the input reads as it did. -/
def fnExactMagneticBearingUptoRow : OpenClaim := { program := "ytmnjgbhgppopfaa", sum := "8c0640c69b51091b4389ae728c600d4dfd739129648f1c51fe3a957725b8e032", func := "loop.example/g00933/laws.FnExactMagneticBearing", spec := "fnExactMagneticBearing", recurses := true, apart := false, narrowed := true }
def FnExactMagneticBearingUptoSaid : Prop := fnExactMagneticBearingUptoRow.holds Try.pinned (OpenSpec.upto fnExactMagneticBearingSpec)

/-- 'laws.FnExactTrueBearing', WHERE WHAT IT READS IS OF BULK AT MOST 1048576: true; the input reads as it did. -/
def fnExactTrueBearingUptoRow : OpenClaim := { program := "ytmnjgbhgppopfaa", sum := "8c0640c69b51091b4389ae728c600d4dfd739129648f1c51fe3a957725b8e032", func := "loop.example/g00933/laws.FnExactTrueBearing", spec := "fnExactTrueBearing", recurses := true, apart := false, narrowed := true }
def FnExactTrueBearingUptoSaid : Prop := fnExactTrueBearingUptoRow.holds Try.pinned (OpenSpec.upto fnExactTrueBearingSpec)

/-- 'laws.FnExactDaysWith', WHERE WHAT IT READS IS OF BULK AT MOST 1048576: true; the input reads as it did. -/
def fnExactDaysWithUptoRow : OpenClaim := { program := "ytmnjgbhgppopfaa", sum := "8c0640c69b51091b4389ae728c600d4dfd739129648f1c51fe3a957725b8e032", func := "loop.example/g00933/laws.FnExactDaysWith", spec := "fnExactDaysWith", recurses := true, apart := false, narrowed := true }
def FnExactDaysWithUptoSaid : Prop := fnExactDaysWithUptoRow.holds Try.pinned (OpenSpec.upto fnExactDaysWithSpec)

end Rows
end Go.Proofs.Ytmnjgbhgppopfaa
