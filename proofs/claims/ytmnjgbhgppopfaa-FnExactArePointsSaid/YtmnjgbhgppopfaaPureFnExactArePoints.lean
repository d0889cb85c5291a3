/- The law FnExactArePoints, as a plain statement: the program's ArePoints answers what the reference's answers. Conditions: those of the row's own reading. -/
import Derived.Test.YtmnjgbhgppopfaaDecTo
import Derived.Test.YtmnjgbhgppopfaaA11
import Derived.Test.YtmnjgbhgppopfaaA17
namespace Go.Proofs.Ytmnjgbhgppopfaa.Pure
open Go.RowKit Go.Proofs.YtmnjgbhgppopfaaW.PrintWords Go.Proofs.Ytmnjgbhgppopfaa.Plain Go.Proofs.Ytmnjgbhgppopfaa.A Go.Proofs.Ytmnjgbhgppopfaa.Dec
theorem FnExactArePoints (l : List LP) (hb : l.length * 16 ≤ 140737488351232) (_ : ∀ x ∈ l, (Lit.int .i64 x.f0).wf = true ∧ (Lit.int .i64 x.f1).wf = true) : ∃ k, laws_FnExactArePoints.f k l = some true := by
  obtain ⟨K1, h1⟩ := to_ev l (by omega)
  obtain ⟨K2, h2⟩ := arePoints_ev (l.map cv) (by simp; omega)
  obtain ⟨K3, h3⟩ := good_ev (l.map cv) (by simp; omega)
  obtain ⟨K4, h4⟩ := same_ev (l.map cv) (by simp; omega)
  refine ⟨max (max K1 K2) (max K3 K4), ?_⟩
  have hs := sz_ev l (by omega)
  simp only [laws_FnExactArePoints.f, hs, Option.bind_some, h1 _ (show K1 ≤ max (max K1 K2) (max K3 K4) by omega), h2 _ (show K2 ≤ max (max K1 K2) (max K3 K4) by omega), spec_ArePoints.f, h3 _ (show K3 ≤ max (max K1 K2) (max K3 K4) by omega), h4 _ (show K4 ≤ max (max K1 K2) (max K3 K4) by omega)]
  simp
end Go.Proofs.Ytmnjgbhgppopfaa.Pure
