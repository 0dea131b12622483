/- The pure statement of FnExactDiscrepancyOf: for all arguments the program's DiscrepancyOf returns what the reference's returns. -/
import Derived.Test.YtplgfchiaapmfaaSysDisc
import Derived.Test.YtplgfchiaapmfaaQ57
namespace Go.Proofs.Ytplgfchiaapmfaa.Pure
set_option linter.unusedSimpArgs false
set_option linter.unusedVariables false
open Go.RowKit Go.Proofs.Ytplgfchiaapmfaa.Q Go.Proofs.YtplgfchiaapmfaaW.PrintWords Go.Proofs.YtplgfchiaapmfaaW.PrintLast Go.Proofs.Ytplgfchiaapmfaa.Com

theorem FnExactDiscrepancyOf : laws_FnExactDiscrepancyOf.Pure := by
  intro p l _ hl
  apply ev_of
  unfold laws_FnExactDiscrepancyOf.f
  rcases szSystem_tells p l hl.1 with ⟨e, _⟩ | ⟨t, e, ht, hx⟩
  · simp only [e, Option.bind_some, if_pos (show (-1 : Int) < 0 by omega)]
    exact Ev.now _
  · simp only [e, Option.bind_some, if_neg (show ¬ t < 0 by omega)]
    obtain ⟨r, hs, hi⟩ := disc_both p l hx
    refine Ev.bind (toSystem_ev p l hx) (Ev.bind hs (Ev.bind (toSystem_ev p l hx) (Ev.bind hi ?_)))
    simp only [if_true, bne_self_eq_false]
    refine Ev.step (fun k => by rw [laws_FnExactDiscrepancyOf.j0]) ?_
    simp only [Bool.false_eq_true, if_false]
    refine Ev.bind (toSystem_ev p l hx) (Ev.bind (eqSystem_ev p l hx) ?_)
    simp only [if_true]
    exact Ev.now _
end Go.Proofs.Ytplgfchiaapmfaa.Pure
