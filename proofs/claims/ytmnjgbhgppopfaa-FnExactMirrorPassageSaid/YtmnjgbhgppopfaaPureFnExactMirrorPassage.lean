/- The law FnExactMirrorPassage, as a plain statement: the program's MirrorPassage answers what the reference's answers. Conditions: those of the row's own reading. -/
import Derived.Test.YtmnjgbhgppopfaaPass
import Derived.Test.YtmnjgbhgppopfaaA6
import Derived.Test.YtmnjgbhgppopfaaA7
import Derived.Test.YtmnjgbhgppopfaaA8
import Derived.Test.YtmnjgbhgppopfaaA9
namespace Go.Proofs.Ytmnjgbhgppopfaa.Pure
open Go.RowKit Go.Proofs.YtmnjgbhgppopfaaW.PrintWords Go.Proofs.Ytmnjgbhgppopfaa.Plain Go.Proofs.Ytmnjgbhgppopfaa.A Go.Proofs.Ytmnjgbhgppopfaa.Pas
theorem FnExactMirrorPassage (a b c d e : Int) (_ : (Lit.int .i64 a).wf = true ∧ (Lit.int .i64 b).wf = true ∧ (Lit.int .i64 c).wf = true ∧ (Lit.int .i64 d).wf = true ∧ (Lit.int .i64 e).wf = true) : laws_FnExactMirrorPassage.f a b c d e = some true := by
  simp only [laws_FnExactMirrorPassage.f, laws_toPassage.f, spec_MirrorPassage.f, impl_MirrorPassage.f, one_eq, isPassage_eq, Option.bind_some]
  cases oneB a b c d e <;> simp [laws_eqPassage.f]
end Go.Proofs.Ytmnjgbhgppopfaa.Pure
