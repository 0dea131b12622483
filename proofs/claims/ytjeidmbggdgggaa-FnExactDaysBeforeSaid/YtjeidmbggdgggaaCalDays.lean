/- DaysBefore, on both sides. -/
import Derived.Test.YtjeidmbggdgggaaCalValid
import Derived.Test.YtjeidmbggdgggaaCalDb
import Derived.Test.YtjeidmbggdgggaaCalYearT
import Derived.Test.YtjeidmbggdgggaaQ36
import Derived.Test.YtjeidmbggdgggaaQ37
namespace Go.Proofs.Ytjeidmbggdgggaa.Com
set_option linter.unusedSimpArgs false
set_option linter.unusedVariables false
set_option linter.unusedSectionVars false
open Go.RowKit Go.Proofs.YtjeidmbggdgggaaW.PrintWords Go.Proofs.YtjeidmbggdgggaaW.PrintMore Go.Proofs.Ytjeidmbggdgggaa.Q

def daysOf (c cm : Int) (l : List Int) (y : Int) : Int × Bool := if validCal c cm l = true ∧ 0 ≤ y ∧ y ≤ 100000 then (db c cm l y, true) else (0, false)
theorem days_both (c cm : Int) (l : List Int) (y : Int) (hx : l.length ≤ 1048576) :
    Ev (fun k => spec_DaysBefore.f k c cm l y) (daysOf c cm l y) ∧ Ev (fun k => impl_DaysBefore.f k c cm l y) (daysOf c cm l y) := by
  unfold spec_DaysBefore.f impl_DaysBefore.f daysOf
  by_cases h : validCal c cm l = true
  · have b := valid_bd h
    by_cases hy : 0 ≤ y ∧ y ≤ 100000
    · rw [if_pos ⟨h, hy⟩]
      refine ⟨Ev.bind (l11Calendar_ev c cm l hx) ?_, Ev.bind (implValid_ev c cm l hx) ?_⟩
      · simp only [h, if_true, year_tells, Option.bind_some, decide_eq_true hy]
        exact Ev.bind (l11Before_ev (by omega) (by omega) hx y hy) (Ev.now _)
      · simp only [h, if_true, within_tells, Option.bind_some, decide_eq_true hy]
        exact Ev.bind (daysBefore_ev (by omega) (by omega) hx y hy) (Ev.now _)
    · rw [if_neg (fun e => hy e.2)]
      refine ⟨Ev.bind (l11Calendar_ev c cm l hx) ?_, Ev.bind (implValid_ev c cm l hx) ?_⟩
      · simp only [h, if_true, year_tells, Option.bind_some, decide_eq_false hy, Bool.false_eq_true, if_false]
        exact Ev.now _
      · simp only [h, if_true, within_tells, Option.bind_some, decide_eq_false hy, Bool.false_eq_true, if_false]
        exact Ev.now _
  · have h' : validCal c cm l = false := by simpa using h
    rw [if_neg (fun e => h e.1)]
    refine ⟨Ev.bind (l11Calendar_ev c cm l hx) ?_, Ev.bind (implValid_ev c cm l hx) ?_⟩ <;>
    · simp only [h', Bool.false_eq_true, if_false]
      exact Ev.now _

end Go.Proofs.Ytjeidmbggdgggaa.Com
