/-
  No cell of these rows narrows 'for every input' (looked for: loops, veiled, ifaces, maps, wideKeys, modest, calm, conditions, laid).
  DERIVED. THE GIVEN ROWS OF THIS SEAT. 3 by the template 'for every input the law returns true; each argument reads behind the call as it read before'; 0 by the template 'total and deterministic' (their statements: YtlipaiabjcaeiaaTotals.lean).
  GIVEN WITH THE SEED: the statements are not yours to turn. If you find one false, say at which input.
  Laid BY PROGRAM, IN A SANDBOX (cutbox-rows.mjs): the forced cells as the released guide's own fill.sh prints them over the translation 8aa80d05770f9839… (all of the seat's roots in one cut). By AI agents, Wed Nov 11 2026. No macro, syntax, notation, axiom, sorry.
-/
import Derived.Test.YtlipaiabjcaeiaaChecked
import GoSem.Claim
import GoSem.ClaimJoined
import GoSem.ClaimMapViews
import Derived.JoinedTies
import Derived.KernelRfl
namespace Go.Proofs.Ytlipaiabjcaeiaa
/- THE CELL 'sum', in the pinned program and in every row, IS THE sha256 OF THE DUMP (.gsa) THAT YtlipaiabjcaeiaaProg.lean LOADS. Nothing in Lean hashes anything: it is a label: what it is worth is what the hold of that sum in a sandbox is worth. -/
noncomputable def Try.pinned : Pinned := { name := "ytlipaiabjcaeiaa", sum := "8aa80d05770f983966680585fb62124313b6cab0fc23d8f92986aae0689d12d0", checked := Try.checked }
namespace Rows
def none {H : Type} : Left H := { results := [], args := [] }

/-- 'laws.FnDeclinations': WHATEVER THE INPUT: true; the input reads as it did. -/
def fnDeclinationsSpec : ChangeSpec := { name := "fnDeclinations", fn := fun _ => fun
  | [d] => { results := [.lit (.bool true)], args := [d] }
  | _ => none }
def fnDeclinationsRow : OpenClaim := { program := "ytlipaiabjcaeiaa", sum := "8aa80d05770f983966680585fb62124313b6cab0fc23d8f92986aae0689d12d0", func := "loop.example/g00933/laws.FnDeclinations", spec := "fnDeclinations", recurses := true, apart := false }
def FnDeclinationsSaid : Prop := fnDeclinationsRow.holds Try.pinned (OpenSpec.ofChange fnDeclinationsSpec)

/-- ITS FALSE NEIGHBOUR: 'it returns false'. Refute it at one input. -/
def fnDeclinationsWrong : ChangeSpec := { name := "fnDeclinations", fn := fun _ => fun
  | [d] => { results := [.lit (.bool false)], args := [d] }
  | _ => none }
def FnDeclinationsWrongFalsely : Prop := fnDeclinationsRow.holds Try.pinned (OpenSpec.ofChange fnDeclinationsWrong)

/-- 'laws.FnReverses': WHATEVER THE INPUT: true; the input reads as it did. -/
def fnReversesSpec : ChangeSpec := { name := "fnReverses", fn := fun _ => fun
  | [d] => { results := [.lit (.bool true)], args := [d] }
  | _ => none }
def fnReversesRow : OpenClaim := { program := "ytlipaiabjcaeiaa", sum := "8aa80d05770f983966680585fb62124313b6cab0fc23d8f92986aae0689d12d0", func := "loop.example/g00933/laws.FnReverses", spec := "fnReverses", unfollowed := true, recurses := true, apart := false }
def FnReversesSaid : Prop := fnReversesRow.holds Try.pinned (OpenSpec.ofChange fnReversesSpec)

/-- ITS FALSE NEIGHBOUR: 'it returns false'. Refute it at one input. -/
def fnReversesWrong : ChangeSpec := { name := "fnReverses", fn := fun _ => fun
  | [d] => { results := [.lit (.bool false)], args := [d] }
  | _ => none }
def FnReversesWrongFalsely : Prop := fnReversesRow.holds Try.pinned (OpenSpec.ofChange fnReversesWrong)

/-- 'laws.FnPoints': WHATEVER THE INPUT: true; the input reads as it did. -/
def fnPointsSpec : ChangeSpec := { name := "fnPoints", fn := fun _ => fun
  | [d] => { results := [.lit (.bool true)], args := [d] }
  | _ => none }
def fnPointsRow : OpenClaim := { program := "ytlipaiabjcaeiaa", sum := "8aa80d05770f983966680585fb62124313b6cab0fc23d8f92986aae0689d12d0", func := "loop.example/g00933/laws.FnPoints", spec := "fnPoints", inPlace := ["slices.overlaps[loop.example/g00933/impl.DecPoint]"], unfollowed := true, recurses := true, apart := false }
def FnPointsSaid : Prop := fnPointsRow.holds Try.pinned (OpenSpec.ofChange fnPointsSpec)

/-- ITS FALSE NEIGHBOUR: 'it returns false'. Refute it at one input. -/
def fnPointsWrong : ChangeSpec := { name := "fnPoints", fn := fun _ => fun
  | [d] => { results := [.lit (.bool false)], args := [d] }
  | _ => none }
def FnPointsWrongFalsely : Prop := fnPointsRow.holds Try.pinned (OpenSpec.ofChange fnPointsWrong)

/- THE SECOND FORM. 'bulk': how many values and letters a reading holds, each counted each time it is reached (what is shared counts as often as it is met; a slice's spare places count too). A statement '..UptoSaid' is the law's where the arguments, and the package variables that the reading takes, are together of bulk at most 1048576: NARROWER than '..Said'. Prove '..Said' where nothing that the law and all that it calls make is longer than what came in: it says more and counts as full. Else prove '..UptoSaid'. A law counts once. -/
mutual
def uptoBulk {H : Type} : DataW H → Nat
  | .lit (.string bytes) => bytes.length + 1
  | .lit _ => 1
  | .nil => 1
  | .ptr d => uptoBulk d + 1
  | .slice elems spare => uptoBulkAll elems + uptoBulkAll spare + 1
  | .agg parts => uptoBulkAll parts + 1
  | .iface _ d => uptoBulk d + 1
  | .map entries => uptoBulkEntries entries + 1
  | .held _ => 1
def uptoBulkAll {H : Type} : List (DataW H) → Nat
  | [] => 0
  | d :: r => uptoBulk d + uptoBulkAll r
def uptoBulkEntries {H : Type} : List (Lit × DataW H) → Nat
  | [] => 0
  | x :: r => uptoBulkEntry x + uptoBulkEntries r
def uptoBulkEntry {H : Type} : Lit × DataW H → Nat
  | (.string bytes, d) => bytes.length + uptoBulk d + 1
  | (_, d) => uptoBulk d + 1
 end
def uptoSmall : (H : Type) → List (DataW H) → Bool := fun _ ds => decide (uptoBulkAll ds ≤ 1048576)
def OpenSpec.upto (s : _root_.Go.ChangeSpec) : _root_.Go.OpenSpec := { _root_.Go.OpenSpec.ofChange s with cond := some uptoSmall }

/-- 'laws.FnDeclinations', WHERE WHAT IT READS IS OF BULK AT MOST 1048576: true; the input reads as it did. -/
def fnDeclinationsUptoRow : OpenClaim := { program := "ytlipaiabjcaeiaa", sum := "8aa80d05770f983966680585fb62124313b6cab0fc23d8f92986aae0689d12d0", func := "loop.example/g00933/laws.FnDeclinations", spec := "fnDeclinations", recurses := true, apart := false, narrowed := true }
def FnDeclinationsUptoSaid : Prop := fnDeclinationsUptoRow.holds Try.pinned (OpenSpec.upto fnDeclinationsSpec)

/-- 'laws.FnReverses', WHERE WHAT IT READS IS OF BULK AT MOST 1048576: true; the input reads as it did. -/
def fnReversesUptoRow : OpenClaim := { program := "ytlipaiabjcaeiaa", sum := "8aa80d05770f983966680585fb62124313b6cab0fc23d8f92986aae0689d12d0", func := "loop.example/g00933/laws.FnReverses", spec := "fnReverses", unfollowed := true, recurses := true, apart := false, narrowed := true }
def FnReversesUptoSaid : Prop := fnReversesUptoRow.holds Try.pinned (OpenSpec.upto fnReversesSpec)

/-- 'laws.FnPoints', WHERE WHAT IT READS IS OF BULK AT MOST 1048576: true; the input reads as it did. -/
def fnPointsUptoRow : OpenClaim := { program := "ytlipaiabjcaeiaa", sum := "8aa80d05770f983966680585fb62124313b6cab0fc23d8f92986aae0689d12d0", func := "loop.example/g00933/laws.FnPoints", spec := "fnPoints", inPlace := ["slices.overlaps[loop.example/g00933/impl.DecPoint]"], unfollowed := true, recurses := true, apart := false, narrowed := true }
def FnPointsUptoSaid : Prop := fnPointsUptoRow.holds Try.pinned (OpenSpec.upto fnPointsSpec)

end Rows
end Go.Proofs.Ytlipaiabjcaeiaa
