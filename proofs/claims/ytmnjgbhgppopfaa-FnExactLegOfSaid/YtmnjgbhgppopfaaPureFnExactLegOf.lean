/- The law FnExactLegOf, as a plain statement: the program's LegOf answers what the reference's answers. Conditions: those of the row's own reading. -/
import Derived.Test.YtmnjgbhgppopfaaEnt
import Derived.Test.YtmnjgbhgppopfaaA3
import Derived.Test.YtmnjgbhgppopfaaA4
import Derived.Test.YtmnjgbhgppopfaaA17
import Derived.Test.YtmnjgbhgppopfaaA18
import Derived.Test.YtmnjgbhgppopfaaA19
import Derived.Test.YtmnjgbhgppopfaaA20
namespace Go.Proofs.Ytmnjgbhgppopfaa.Pure
open Go.RowKit Go.Proofs.YtmnjgbhgppopfaaW.PrintWords Go.Proofs.Ytmnjgbhgppopfaa.Plain Go.Proofs.Ytmnjgbhgppopfaa.A Go.Proofs.Ytmnjgbhgppopfaa.Ent
set_option linter.unusedSimpArgs false
theorem FnExactLegOf (a b c d e : Int) (f : Bool) (_ : (Lit.int .i64 a).wf = true ∧ (Lit.int .i64 b).wf = true ∧ (Lit.int .i64 c).wf = true ∧ (Lit.int .i64 d).wf = true ∧ (Lit.int .i64 e).wf = true) : laws_FnExactLegOf.f a b c d e f = some true := by
  simp only [laws_FnExactLegOf.f, laws_toEntry.f, spec_LegOf.f, impl_LegOf.f, isEntry_eq, l7One_eq, spec_l7Leg.f, impl_Entry_forwards.f, impl_Entry_leg.f, impl_back.f, Option.bind_some]
  cases legB a b c d e <;> cases f <;> simp [laws_eqLeg.f]
end Go.Proofs.Ytmnjgbhgppopfaa.Pure
