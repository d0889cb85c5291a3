/- Points: the list that a law makes of its argument, and that it compares with itself. -/
import Derived.Test.YtmnjgbhgppopfaaDec
import Derived.Test.YtmnjgbhgppopfaaA0
import Derived.Test.YtmnjgbhgppopfaaA9
import Derived.Test.YtmnjgbhgppopfaaA11
import Derived.Test.YtmnjgbhgppopfaaA12
import Derived.Test.YtmnjgbhgppopfaaA15
import Derived.Test.YtmnjgbhgppopfaaA16
namespace Go.Proofs.Ytmnjgbhgppopfaa.Dec
open Go.RowKit Go.Proofs.YtmnjgbhgppopfaaW.PrintWords Go.Proofs.Ytmnjgbhgppopfaa.Plain Go.Proofs.Ytmnjgbhgppopfaa.A
set_option linter.unusedVariables false
theorem to_ev (l : List LP) (hb : l.length ≤ 140737488351232 / 16) : Ev (fun k => laws_toDecPointS.f k l) (l.map cv) := by
  unfold laws_toDecPointS.f
  refine Ev.pos (by omega) ?_
  refine Ev.pos (by omega) ?_
  exact copy_all laws_toDecPointS.l0 cv z76 _ (fun k x0 x3 x4 => by simp only [laws_toDecPointS.l0, laws_toDecPoint.f, Option.bind_some]; rfl) l (by omega)
theorem same_ev (l : List DP) (hb : l.length ≤ 140737488351232) : Ev (fun k => laws_eqDecPointS.f k l l) true := by
  unfold laws_eqDecPointS.f
  refine Ev.pos rfl ?_
  exact eq_all laws_eqDecPointS.l0 (fun k x0 x4 h0 => by
    simp only [laws_eqDecPointS.l0, laws_eqDecPoint.f, if_true, Option.bind_some]
    by_cases h : x4 < (x0.length : Int)
    · rw [if_pos h, if_pos h0, if_pos h, if_pos h]
    · rw [if_neg h, if_neg h]) l hb
theorem sz_ev (l : List LP) (hb : l.length ≤ 140737488351232) : laws_szDecPointS.f l 1048576 = some (if 1048576 - (l.length : Int) < 0 then -1 else 1048576 - (l.length : Int)) := by
  unfold laws_szDecPointS.f
  rw [w64 (by omega) (by omega)]
  split <;> rfl
end Go.Proofs.Ytmnjgbhgppopfaa.Dec
