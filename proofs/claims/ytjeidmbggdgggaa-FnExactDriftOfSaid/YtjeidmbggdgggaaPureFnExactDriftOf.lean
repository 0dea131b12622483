/- The pure statement of FnExactDriftOf: for all arguments the program's DriftOf returns what the reference's returns. -/
import Derived.Test.YtjeidmbggdgggaaCalDrift
import Derived.Test.YtjeidmbggdgggaaQ55
namespace Go.Proofs.Ytjeidmbggdgggaa.Pure
set_option linter.unusedSimpArgs false
set_option linter.unusedVariables false
open Go.RowKit Go.Proofs.Ytjeidmbggdgggaa.Q Go.Proofs.YtjeidmbggdgggaaW.PrintWords Go.Proofs.YtjeidmbggdgggaaW.PrintLast Go.Proofs.Ytjeidmbggdgggaa.Com

theorem FnExactDriftOf : laws_FnExactDriftOf.Pure := by
  intro c cm l num den _ _ hl _ _
  apply ev_of
  unfold laws_FnExactDriftOf.f
  rcases szCalendar_tells c cm l hl.1 with ⟨e, _⟩ | ⟨t, e, ht, hx⟩
  · simp only [e, Option.bind_some, if_pos (show (-1 : Int) < 0 by omega)]
    exact Ev.now _
  · simp only [e, Option.bind_some, if_neg (show ¬ t < 0 by omega)]
    refine Ev.bind (toCalendar_ev c cm l hx) (Ev.bind (drift_both c cm l num den hx).1 (Ev.bind (toCalendar_ev c cm l hx) (Ev.bind (drift_both c cm l num den hx).2 ?_)))
    simp only [if_true, bne_self_eq_false]
    refine Ev.step (fun k => by rw [laws_FnExactDriftOf.j0]) ?_
    simp only [Bool.false_eq_true, if_false]
    refine Ev.bind (toCalendar_ev c cm l hx) (Ev.bind (eqCalendar_ev c cm l hx) ?_)
    simp only [if_true]
    exact Ev.now _
end Go.Proofs.Ytjeidmbggdgggaa.Pure
