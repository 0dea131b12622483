/- The pure statement of FnExactValidSystem: for all arguments the program's ValidSystem returns what the reference's returns. -/
import Derived.Test.YtplgfchiaapmfaaSysValid
import Derived.Test.YtplgfchiaapmfaaQ3
import Derived.Test.YtplgfchiaapmfaaQ10
namespace Go.Proofs.Ytplgfchiaapmfaa.Pure
set_option linter.unusedSimpArgs false
set_option linter.unusedVariables false
open Go.RowKit Go.Proofs.Ytplgfchiaapmfaa.Q Go.Proofs.YtplgfchiaapmfaaW.PrintWords Go.Proofs.YtplgfchiaapmfaaW.PrintLast Go.Proofs.Ytplgfchiaapmfaa.Com

theorem FnExactValidSystem : laws_FnExactValidSystem.Pure := by
  intro p l _ hl
  apply ev_of
  unfold laws_FnExactValidSystem.f
  rcases szSystem_tells p l hl.1 with ⟨e, _⟩ | ⟨t, e, ht, hx⟩
  · simp only [e, Option.bind_some, if_pos (show (-1 : Int) < 0 by omega)]
    exact Ev.now _
  · simp only [e, Option.bind_some, if_neg (show ¬ t < 0 by omega)]
    have hv : Ev (fun k => spec_ValidSystem.f k p l) (validSys p l) := by
      unfold spec_ValidSystem.f
      exact Ev.bind (specIs_ev p l hx) (Ev.now _)
    refine Ev.bind (toSystem_ev p l hx) (Ev.bind hv (Ev.bind (toSystem_ev p l hx) (ev_bind' (implValidSys_tells p l) ?_)))
    simp only [bne_self_eq_false, Bool.false_eq_true, if_false]
    refine Ev.bind (toSystem_ev p l hx) (Ev.bind (eqSystem_ev p l hx) ?_)
    simp only [if_true]
    exact Ev.now _
end Go.Proofs.Ytplgfchiaapmfaa.Pure
