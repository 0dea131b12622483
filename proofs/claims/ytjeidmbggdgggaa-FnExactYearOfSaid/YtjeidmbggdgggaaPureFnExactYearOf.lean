/- The pure statement of FnExactYearOf: for all arguments the program's YearOf returns what the reference's returns. -/
import Derived.Test.YtjeidmbggdgggaaCalYear
import Derived.Test.YtjeidmbggdgggaaQ50
namespace Go.Proofs.Ytjeidmbggdgggaa.Pure
set_option linter.unusedSimpArgs false
set_option linter.unusedVariables false
open Go.RowKit Go.Proofs.Ytjeidmbggdgggaa.Q Go.Proofs.YtjeidmbggdgggaaW.PrintWords Go.Proofs.YtjeidmbggdgggaaW.PrintLast Go.Proofs.Ytjeidmbggdgggaa.Com

theorem FnExactYearOf : laws_FnExactYearOf.Pure := by
  intro c cm l y _ _ hl hy
  apply ev_of
  unfold laws_FnExactYearOf.f
  rcases szCalendar_tells c cm l hl.1 with ⟨e, _⟩ | ⟨t, e, ht, hx⟩
  · simp only [e, Option.bind_some, if_pos (show (-1 : Int) < 0 by omega)]
    exact Ev.now _
  · simp only [e, Option.bind_some, if_neg (show ¬ t < 0 by omega)]
    obtain ⟨r, hs, hi, _⟩ := year_both c cm l y hx (wf64 hy)
    refine Ev.bind (toCalendar_ev c cm l hx) (Ev.bind hs (Ev.bind (toCalendar_ev c cm l hx) (Ev.bind hi ?_)))
    simp only [if_true, bne_self_eq_false]
    refine Ev.step (fun k => by rw [laws_FnExactYearOf.j0]) ?_
    simp only [Bool.false_eq_true, if_false]
    refine Ev.bind (toCalendar_ev c cm l hx) (Ev.bind (eqCalendar_ev c cm l hx) ?_)
    simp only [if_true]
    exact Ev.now _
end Go.Proofs.Ytjeidmbggdgggaa.Pure
