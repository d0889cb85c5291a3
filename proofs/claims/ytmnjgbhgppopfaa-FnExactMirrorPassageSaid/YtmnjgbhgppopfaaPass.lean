/- Passages: what the program's and the reference's functions on them come to. -/
import Derived.Test.YtmnjgbhgppopfaaPlain
import Derived.Test.YtmnjgbhgppopfaaA0
import Derived.Test.YtmnjgbhgppopfaaA1
import Derived.Test.YtmnjgbhgppopfaaA3
import Derived.Test.YtmnjgbhgppopfaaA5
import Derived.Test.YtmnjgbhgppopfaaA6
import Derived.Test.YtmnjgbhgppopfaaA7
namespace Go.Proofs.Ytmnjgbhgppopfaa.Pas
open Go.RowKit Go.Proofs.YtmnjgbhgppopfaaW.PrintWords Go.Proofs.Ytmnjgbhgppopfaa.Plain Go.Proofs.Ytmnjgbhgppopfaa.A
set_option linter.unusedVariables false
abbrev PP := S30
abbrev LP := S29
abbrev z : PP := z30
def cv (x : LP) : PP := ⟨x.f0, x.f1, x.f2, x.f3, x.f4⟩
def at_ (l : List PP) (i : Nat) : PP := l.getD i z

def oneB (a b c d e : Int) : Bool := inR a 0 7 && (inR b 0 200 && (inR c 0 200 && (inR d 0 200 && inR e 0 200)))
theorem within_eq (x a b : Int) : impl_within.f x a b = some (inR x a b) := by unfold impl_within.f inR; split <;> rfl
theorem in_eq (x a b : Int) : spec_l1In.f x a b = some (inR x a b) := by unfold spec_l1In.f inR; split <;> rfl
theorem station_eq (x : Int) : impl_isStation.f x = some (inR x 0 7) := by unfold impl_isStation.f; rw [within_eq]; rfl
theorem l4Station_eq (x : Int) : spec_l4Station.f x = some (inR x 0 7) := by unfold spec_l4Station.f; rw [in_eq]; rfl
theorem far_eq (x : Int) : spec_l12Far.f x = some (inR x 0 200) := by unfold spec_l12Far.f; rw [in_eq]; rfl
theorem isPassage_eq (a b c d e : Int) : impl_isPassage.f a b c d e = some (oneB a b c d e) := by
  unfold impl_isPassage.f oneB
  simp only [station_eq, within_eq, Option.bind_some]
  cases inR a 0 7 <;> cases inR b 0 200 <;> cases inR c 0 200 <;> cases inR d 0 200 <;> simp
theorem one_eq (a b c d e : Int) : spec_l12One.f a b c d e = some (oneB a b c d e) := by
  unfold spec_l12One.f oneB
  simp only [l4Station_eq, far_eq, Option.bind_some]
  cases inR a 0 7 <;> cases inR b 0 200 <;> cases inR c 0 200 <;> cases inR d 0 200 <;> simp
end Go.Proofs.Ytmnjgbhgppopfaa.Pas
