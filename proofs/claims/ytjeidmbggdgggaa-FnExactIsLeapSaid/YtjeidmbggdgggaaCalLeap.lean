/- Leap years, on both sides. -/
import Derived.Test.YtjeidmbggdgggaaCalValid
import Derived.Test.YtjeidmbggdgggaaHas
import Derived.Test.YtjeidmbggdgggaaCalYearT
import Derived.Test.YtjeidmbggdgggaaQ30
import Derived.Test.YtjeidmbggdgggaaQ33
namespace Go.Proofs.Ytjeidmbggdgggaa.Com
set_option linter.unusedSimpArgs false
set_option linter.unusedVariables false
set_option linter.unusedSectionVars false
open Go.RowKit Go.Proofs.YtjeidmbggdgggaaW.PrintWords Go.Proofs.YtjeidmbggdgggaaW.PrintMore Go.Proofs.Ytjeidmbggdgggaa.Q

theorem isLeap_both (c cm : Int) (l : List Int) (y : Int) (hx : l.length ≤ 1048576) :
    Ev (fun k => spec_IsLeap.f k c cm l y) (validCal c cm l && decide (0 ≤ y ∧ y ≤ 100000) && decide (y % c ∈ l)) ∧ Ev (fun k => impl_IsLeap.f k c cm l y) (validCal c cm l && decide (0 ≤ y ∧ y ≤ 100000) && decide (y % c ∈ l)) := by
  unfold spec_IsLeap.f impl_IsLeap.f
  by_cases h : validCal c cm l = true
  · have b := valid_bd h
    by_cases hy : 0 ≤ y ∧ y ≤ 100000
    · rw [h, decide_eq_true hy, Bool.true_and, Bool.true_and]
      refine ⟨Ev.bind (l11Calendar_ev c cm l hx) ?_, Ev.bind (implValid_ev c cm l hx) ?_⟩
      · simp only [h, if_true, year_tells, Option.bind_some, decide_eq_true hy]
        unfold spec_l11Leap.f
        simp only [if_neg (show ¬ c = 0 by omega), tmod_nn hy.1]
        exact Ev.bind (Ev.bind (has_ev l (y % c) hx) (Ev.now _)) (Ev.now _)
      · simp only [h, if_true, within_tells, Option.bind_some, decide_eq_true hy, if_neg (show ¬ c = 0 by omega), tmod_nn hy.1]
        exact Ev.bind (contains_ev l (y % c) hx) (Ev.now _)
    · rw [decide_eq_false hy, Bool.and_false, Bool.false_and]
      refine ⟨Ev.bind (l11Calendar_ev c cm l hx) ?_, Ev.bind (implValid_ev c cm l hx) ?_⟩
      · simp only [h, if_true, year_tells, Option.bind_some, decide_eq_false hy, Bool.false_eq_true, if_false]
        exact Ev.now _
      · simp only [h, if_true, within_tells, Option.bind_some, decide_eq_false hy, Bool.false_eq_true, if_false]
        exact Ev.now _
  · have h' : validCal c cm l = false := by simpa using h
    rw [h', Bool.false_and, Bool.false_and]
    refine ⟨Ev.bind (l11Calendar_ev c cm l hx) ?_, Ev.bind (implValid_ev c cm l hx) ?_⟩ <;>
    · simp only [h', Bool.false_eq_true, if_false]
      exact Ev.now _
end Go.Proofs.Ytjeidmbggdgggaa.Com
