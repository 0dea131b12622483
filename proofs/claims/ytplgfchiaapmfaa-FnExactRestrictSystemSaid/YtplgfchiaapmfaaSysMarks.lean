/- Systems that are marked hold their marks. -/
import Derived.Test.YtplgfchiaapmfaaMarks
import Derived.Test.YtplgfchiaapmfaaQ19
import Derived.Test.YtplgfchiaapmfaaQ21
namespace Go.Proofs.Ytplgfchiaapmfaa.Com
set_option linter.unusedSimpArgs false
set_option linter.unusedVariables false
open Go.RowKit Go.Proofs.YtplgfchiaapmfaaW.PrintWords Go.Proofs.Ytplgfchiaapmfaa.Q

theorem markSystem_ev (p : Int) (l : List Int) (hx : l.length ≤ 1048576) : Ev (fun k => laws_markSystem.f k p l 1) (1 + l.length, markL l.length 1) := by
  unfold laws_markSystem.f
  exact Ev.bind (markInt64S_ev l 1 hx (by omega)) (Ev.now _)
theorem heldSystem_ev (p : Int) (n : Nat) (hx : n ≤ 1048576) : Ev (fun k => laws_heldSystem.f k p (markL n 1) 1) (1 + n) := by
  unfold laws_heldSystem.f
  refine Ev.bind (heldInt64S_ev n 1 hx (by omega)) ?_
  simp only [if_neg (show ¬ (1 + (n : Int)) < 0 by omega)]
  exact Ev.now _
end Go.Proofs.Ytplgfchiaapmfaa.Com
