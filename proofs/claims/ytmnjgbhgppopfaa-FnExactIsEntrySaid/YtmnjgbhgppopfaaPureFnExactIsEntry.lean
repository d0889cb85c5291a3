/- The law FnExactIsEntry, as a plain statement: the program's IsEntry answers what the reference's answers. Conditions: those of the row's own reading. -/
import Derived.Test.YtmnjgbhgppopfaaEnt
import Derived.Test.YtmnjgbhgppopfaaA3
import Derived.Test.YtmnjgbhgppopfaaA5
namespace Go.Proofs.Ytmnjgbhgppopfaa.Pure
open Go.RowKit Go.Proofs.YtmnjgbhgppopfaaW.PrintWords Go.Proofs.Ytmnjgbhgppopfaa.Plain Go.Proofs.Ytmnjgbhgppopfaa.A Go.Proofs.Ytmnjgbhgppopfaa.Ent
theorem FnExactIsEntry (a b c d e : Int) (f : Bool) (_ : (Lit.int .i64 a).wf = true ∧ (Lit.int .i64 b).wf = true ∧ (Lit.int .i64 c).wf = true ∧ (Lit.int .i64 d).wf = true ∧ (Lit.int .i64 e).wf = true) : laws_FnExactIsEntry.f a b c d e f = some true := by
  simp only [laws_FnExactIsEntry.f, laws_toEntry.f, spec_IsEntry.f, isEntry_eq, l7One_eq, Option.bind_some]
  simp
end Go.Proofs.Ytmnjgbhgppopfaa.Pure
