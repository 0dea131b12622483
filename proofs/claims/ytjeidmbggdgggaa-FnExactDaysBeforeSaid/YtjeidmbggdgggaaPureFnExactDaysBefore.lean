/- The pure statement of FnExactDaysBefore: for all arguments the program's DaysBefore returns what the reference's returns. -/
import Derived.Test.YtjeidmbggdgggaaCalDays
import Derived.Test.YtjeidmbggdgggaaQ38
namespace Go.Proofs.Ytjeidmbggdgggaa.Pure
set_option linter.unusedSimpArgs false
set_option linter.unusedVariables false
open Go.RowKit Go.Proofs.Ytjeidmbggdgggaa.Q Go.Proofs.YtjeidmbggdgggaaW.PrintWords Go.Proofs.YtjeidmbggdgggaaW.PrintLast Go.Proofs.Ytjeidmbggdgggaa.Com

theorem FnExactDaysBefore : laws_FnExactDaysBefore.Pure := by
  intro c cm l y _ _ hl hy
  apply ev_of
  unfold laws_FnExactDaysBefore.f
  rcases szCalendar_tells c cm l hl.1 with ⟨e, _⟩ | ⟨t, e, ht, hx⟩
  · simp only [e, Option.bind_some, if_pos (show (-1 : Int) < 0 by omega)]
    exact Ev.now _
  · simp only [e, Option.bind_some, if_neg (show ¬ t < 0 by omega)]
    refine Ev.bind (toCalendar_ev c cm l hx) (Ev.bind (days_both c cm l y hx).1 (Ev.bind (toCalendar_ev c cm l hx) (Ev.bind (days_both c cm l y hx).2 ?_)))
    simp only [if_true, bne_self_eq_false]
    refine Ev.step (fun k => by rw [laws_FnExactDaysBefore.j0]) ?_
    simp only [Bool.false_eq_true, if_false]
    refine Ev.bind (toCalendar_ev c cm l hx) (Ev.bind (eqCalendar_ev c cm l hx) ?_)
    simp only [if_true]
    exact Ev.now _
end Go.Proofs.Ytjeidmbggdgggaa.Pure
