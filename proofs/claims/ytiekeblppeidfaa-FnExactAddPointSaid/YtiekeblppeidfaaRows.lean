/-
  No cell of these rows narrows 'for every input' (looked for: loops, veiled, ifaces, maps, wideKeys, modest, calm, conditions, laid).
  DERIVED. THE GIVEN ROWS OF THIS SEAT. 3 by the template 'for every input the law returns true; each argument reads behind the call as it read before'; 0 by the template 'total and deterministic' (their statements: YtiekeblppeidfaaTotals.lean).
  GIVEN WITH THE SEED: the statements are not yours to turn. If you find one false, say at which input.
  Laid BY PROGRAM, IN A SANDBOX (cutbox-rows.mjs): the forced cells as the released guide's own fill.sh prints them over the translation b66fe745d62cb91d… (all of the seat's roots in one cut). By AI agents, Wed Nov 11 2026. No macro, syntax, notation, axiom, sorry.
-/
import Derived.Test.YtiekeblppeidfaaChecked
import GoSem.Claim
import GoSem.ClaimJoined
import GoSem.ClaimMapViews
import Derived.JoinedTies
import Derived.KernelRfl
namespace Go.Proofs.Ytiekeblppeidfaa
/- THE CELL 'sum', in the pinned program and in every row, IS THE sha256 OF THE DUMP (.gsa) THAT YtiekeblppeidfaaProg.lean LOADS. Nothing in Lean hashes anything: it is a label: what it is worth is what the hold of that sum in a sandbox is worth. -/
noncomputable def Try.pinned : Pinned := { name := "ytiekeblppeidfaa", sum := "b66fe745d62cb91d3e362bd5a45e3eec073dd7fc2f766c3e5f4e9fcd6c0414ad", checked := Try.checked }
namespace Rows
def none {H : Type} : Left H := { results := [], args := [] }

/-- 'laws.FnExactReverseBook': WHATEVER THE INPUT: true; the input reads as it did. -/
def fnExactReverseBookSpec : ChangeSpec := { name := "fnExactReverseBook", fn := fun _ => fun
  | [d] => { results := [.lit (.bool true)], args := [d] }
  | _ => none }
def fnExactReverseBookRow : OpenClaim := { program := "ytiekeblppeidfaa", sum := "b66fe745d62cb91d3e362bd5a45e3eec073dd7fc2f766c3e5f4e9fcd6c0414ad", func := "loop.example/g00933/laws.FnExactReverseBook", spec := "fnExactReverseBook", unfollowed := true, recurses := true, apart := false }
def FnExactReverseBookSaid : Prop := fnExactReverseBookRow.holds Try.pinned (OpenSpec.ofChange fnExactReverseBookSpec)

/-- ITS FALSE NEIGHBOUR: 'it returns false'. Refute it at one input. -/
def fnExactReverseBookWrong : ChangeSpec := { name := "fnExactReverseBook", fn := fun _ => fun
  | [d] => { results := [.lit (.bool false)], args := [d] }
  | _ => none }
def FnExactReverseBookWrongFalsely : Prop := fnExactReverseBookRow.holds Try.pinned (OpenSpec.ofChange fnExactReverseBookWrong)

/-- 'laws.FnExactAddPoint': WHATEVER THE INPUT: true; the input reads as it did. -/
def fnExactAddPointSpec : ChangeSpec := { name := "fnExactAddPoint", fn := fun _ => fun
  | [d1, d2] => { results := [.lit (.bool true)], args := [d1, d2] }
  | _ => none }
def fnExactAddPointRow : OpenClaim := { program := "ytiekeblppeidfaa", sum := "b66fe745d62cb91d3e362bd5a45e3eec073dd7fc2f766c3e5f4e9fcd6c0414ad", func := "loop.example/g00933/laws.FnExactAddPoint", spec := "fnExactAddPoint", inPlace := ["slices.overlaps[loop.example/g00933/impl.DecPoint]"], unfollowed := true, recurses := true, apart := false }
def FnExactAddPointSaid : Prop := fnExactAddPointRow.holds Try.pinned (OpenSpec.ofChange fnExactAddPointSpec)

/-- ITS FALSE NEIGHBOUR: 'it returns false'. Refute it at one input. -/
def fnExactAddPointWrong : ChangeSpec := { name := "fnExactAddPoint", fn := fun _ => fun
  | [d1, d2] => { results := [.lit (.bool false)], args := [d1, d2] }
  | _ => none }
def FnExactAddPointWrongFalsely : Prop := fnExactAddPointRow.holds Try.pinned (OpenSpec.ofChange fnExactAddPointWrong)

/-- 'laws.FnExactNeedlessPoints': WHATEVER THE INPUT: true; the input reads as it did. -/
def fnExactNeedlessPointsSpec : ChangeSpec := { name := "fnExactNeedlessPoints", fn := fun _ => fun
  | [d] => { results := [.lit (.bool true)], args := [d] }
  | _ => none }
def fnExactNeedlessPointsRow : OpenClaim := { program := "ytiekeblppeidfaa", sum := "b66fe745d62cb91d3e362bd5a45e3eec073dd7fc2f766c3e5f4e9fcd6c0414ad", func := "loop.example/g00933/laws.FnExactNeedlessPoints", spec := "fnExactNeedlessPoints", recurses := true, apart := false }
def FnExactNeedlessPointsSaid : Prop := fnExactNeedlessPointsRow.holds Try.pinned (OpenSpec.ofChange fnExactNeedlessPointsSpec)

/-- ITS FALSE NEIGHBOUR: 'it returns false'. Refute it at one input. -/
def fnExactNeedlessPointsWrong : ChangeSpec := { name := "fnExactNeedlessPoints", fn := fun _ => fun
  | [d] => { results := [.lit (.bool false)], args := [d] }
  | _ => none }
def FnExactNeedlessPointsWrongFalsely : Prop := fnExactNeedlessPointsRow.holds Try.pinned (OpenSpec.ofChange fnExactNeedlessPointsWrong)

/- THE SECOND FORM. 'bulk': how many values and letters a reading holds, each counted each time it is reached (what is shared counts as often as it is met; a slice's spare places count too). A statement '..UptoSaid' is the law's where the arguments, and the package variables that the reading takes, are together of bulk at most 1048576: NARROWER than '..Said'. Prove '..Said' where nothing that the law and all that it calls make is longer than what came in: it says more and counts as full. Else prove '..UptoSaid'. A law counts once. -/
mutual
def uptoBulk {H : Type} : DataW H → Nat
  | .lit (.string bytes) => bytes.length + 1
  | .lit _ => 1
  | .nil => 1
  | .ptr d => uptoBulk d + 1
  | .slice elems spare => uptoBulkAll elems + uptoBulkAll spare + 1
  | .agg parts => uptoBulkAll parts + 1
  | .iface _ d => uptoBulk d + 1
  | .map entries => uptoBulkEntries entries + 1
  | .held _ => 1
def uptoBulkAll {H : Type} : List (DataW H) → Nat
  | [] => 0
  | d :: r => uptoBulk d + uptoBulkAll r
def uptoBulkEntries {H : Type} : List (Lit × DataW H) → Nat
  | [] => 0
  | x :: r => uptoBulkEntry x + uptoBulkEntries r
def uptoBulkEntry {H : Type} : Lit × DataW H → Nat
  | (.string bytes, d) => bytes.length + uptoBulk d + 1
  | (_, d) => uptoBulk d + 1
 end
def uptoSmall : (H : Type) → List (DataW H) → Bool := fun _ ds => decide (uptoBulkAll ds ≤ 1048576)
def OpenSpec.upto (s : _root_.Go.ChangeSpec) : _root_.Go.OpenSpec := { _root_.Go.OpenSpec.ofChange s with cond := some uptoSmall }

/-- 'laws.FnExactReverseBook', WHERE WHAT IT READS IS OF BULK AT MOST 1048576: true; the input reads as it did. -/
def fnExactReverseBookUptoRow : OpenClaim := { program := "ytiekeblppeidfaa", sum := "b66fe745d62cb91d3e362bd5a45e3eec073dd7fc2f766c3e5f4e9fcd6c0414ad", func := "loop.example/g00933/laws.FnExactReverseBook", spec := "fnExactReverseBook", unfollowed := true, recurses := true, apart := false, narrowed := true }
def FnExactReverseBookUptoSaid : Prop := fnExactReverseBookUptoRow.holds Try.pinned (OpenSpec.upto fnExactReverseBookSpec)

/-- 'laws.FnExactAddPoint', WHERE WHAT IT READS IS OF BULK AT MOST 1048576: true; the input reads as it did. -/
def fnExactAddPointUptoRow : OpenClaim := { program := "ytiekeblppeidfaa", sum := "b66fe745d62cb91d3e362bd5a45e3eec073dd7fc2f766c3e5f4e9fcd6c0414ad", func := "loop.example/g00933/laws.FnExactAddPoint", spec := "fnExactAddPoint", inPlace := ["slices.overlaps[loop.example/g00933/impl.DecPoint]"], unfollowed := true, recurses := true, apart := false, narrowed := true }
def FnExactAddPointUptoSaid : Prop := fnExactAddPointUptoRow.holds Try.pinned (OpenSpec.upto fnExactAddPointSpec)

/-- 'laws.FnExactNeedlessPoints', WHERE WHAT IT READS IS OF BULK AT MOST 1048576: true; the input reads as it did. -/
def fnExactNeedlessPointsUptoRow : OpenClaim := { program := "ytiekeblppeidfaa", sum := "b66fe745d62cb91d3e362bd5a45e3eec073dd7fc2f766c3e5f4e9fcd6c0414ad", func := "loop.example/g00933/laws.FnExactNeedlessPoints", spec := "fnExactNeedlessPoints", recurses := true, apart := false, narrowed := true }
def FnExactNeedlessPointsUptoSaid : Prop := fnExactNeedlessPointsUptoRow.holds Try.pinned (OpenSpec.upto fnExactNeedlessPointsSpec)

end Rows
end Go.Proofs.Ytiekeblppeidfaa
