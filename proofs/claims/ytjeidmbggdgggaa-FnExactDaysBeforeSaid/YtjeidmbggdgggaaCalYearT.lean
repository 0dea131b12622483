/- A year's test. -/
import Derived.Test.YtjeidmbggdgggaaWithin
import Derived.Test.YtjeidmbggdgggaaQ32
namespace Go.Proofs.Ytjeidmbggdgggaa.Com
set_option linter.unusedSimpArgs false
set_option linter.unusedVariables false
set_option linter.unusedSectionVars false
open Go.RowKit Go.Proofs.YtjeidmbggdgggaaW.PrintWords Go.Proofs.YtjeidmbggdgggaaW.PrintMore Go.Proofs.Ytjeidmbggdgggaa.Q

theorem year_tells (y : Int) : spec_l11Year.f y = some (decide (0 ≤ y ∧ y ≤ 100000)) := by
  unfold spec_l11Year.f
  rw [in_tells]
  rfl
end Go.Proofs.Ytjeidmbggdgggaa.Com
