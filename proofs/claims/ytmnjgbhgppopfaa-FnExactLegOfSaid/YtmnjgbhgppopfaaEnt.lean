/- Entries of a field book: when one is valid. -/
import Derived.Test.YtmnjgbhgppopfaaPlain
import Derived.Test.YtmnjgbhgppopfaaA1
import Derived.Test.YtmnjgbhgppopfaaA2
import Derived.Test.YtmnjgbhgppopfaaA3
import Derived.Test.YtmnjgbhgppopfaaA4
import Derived.Test.YtmnjgbhgppopfaaA5
namespace Go.Proofs.Ytmnjgbhgppopfaa.Ent
open Go.RowKit Go.Proofs.YtmnjgbhgppopfaaW.PrintWords Go.Proofs.Ytmnjgbhgppopfaa.Plain Go.Proofs.Ytmnjgbhgppopfaa.A
set_option linter.unusedVariables false
theorem within_eq (x a b : Int) : impl_within.f x a b = some (inR x a b) := by unfold impl_within.f inR; split <;> rfl
theorem in_eq (x a b : Int) : spec_l1In.f x a b = some (inR x a b) := by unfold spec_l1In.f inR; split <;> rfl
theorem station_eq (x : Int) : impl_isStation.f x = some (inR x 0 7) := by unfold impl_isStation.f; rw [within_eq]; rfl
theorem bearing_eq (x : Int) : impl_isBearing.f x = some (inR x 0 359) := by unfold impl_isBearing.f; rw [within_eq]; rfl
theorem l4Station_eq (x : Int) : spec_l4Station.f x = some (inR x 0 7) := by unfold spec_l4Station.f; rw [in_eq]; rfl
theorem l2Bearing_eq (x : Int) : spec_l2Bearing.f x = some (inR x 0 359) := by unfold spec_l2Bearing.f; rw [in_eq]; rfl
def legB (a b c d e : Int) : Bool := inR a 0 7 && (inR b 0 7 && (decide (a ≠ b) && (inR c 1 500 && (inR d 0 359 && inR e (-90) 90))))
theorem isLeg_eq (a b c d e : Int) : impl_IsLeg.f a b c d e = some (legB a b c d e) := by
  unfold impl_IsLeg.f legB
  simp only [station_eq, within_eq, bearing_eq, Option.bind_some]
  cases inR a 0 7 <;> cases inR b 0 7 <;> by_cases h : a = b <;> cases inR c 1 500 <;> cases inR d 0 359 <;> simp [h]
theorem l4Leg_eq (a b c d e : Int) : spec_l4Leg.f a b c d e = some (legB a b c d e) := by
  unfold spec_l4Leg.f legB
  simp only [l4Station_eq, in_eq, l2Bearing_eq, Option.bind_some]
  cases inR a 0 7 <;> cases inR b 0 7 <;> by_cases h : a = b <;> cases inR c 1 500 <;> cases inR d 0 359 <;> simp [h]
theorem isEntry_eq (a b c d e : Int) (f : Bool) : impl_IsEntry.f a b c d e f = some (legB a b c d e) := by
  simp only [impl_IsEntry.f, impl_Entry_leg.f, Option.bind_some, isLeg_eq]
theorem l7One_eq (a b c d e : Int) (f : Bool) : spec_l7One.f a b c d e f = some (legB a b c d e) := by
  simp only [spec_l7One.f, Option.bind_some, l4Leg_eq]
end Go.Proofs.Ytmnjgbhgppopfaa.Ent
