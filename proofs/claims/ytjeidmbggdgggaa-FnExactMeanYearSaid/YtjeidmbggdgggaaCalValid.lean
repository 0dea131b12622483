/- Calendars: the two tests of validity, copies and sizes. -/
import Derived.Test.YtjeidmbggdgggaaRises
import Derived.Test.YtjeidmbggdgggaaSame
import Derived.Test.YtjeidmbggdgggaaQ10
import Derived.Test.YtjeidmbggdgggaaQ12
import Derived.Test.YtjeidmbggdgggaaQ14
import Derived.Test.YtjeidmbggdgggaaQ16
import Derived.Test.YtjeidmbggdgggaaQ18
namespace Go.Proofs.Ytjeidmbggdgggaa.Com
set_option linter.unusedSimpArgs false
set_option linter.unusedVariables false
set_option linter.unusedSectionVars false
open Go.RowKit Go.Proofs.YtjeidmbggdgggaaW.PrintWords Go.Proofs.YtjeidmbggdgggaaW.PrintMore Go.Proofs.Ytjeidmbggdgggaa.Q

def validCal (c cm : Int) (l : List Int) : Bool := decide (1 ≤ c ∧ c ≤ 400) && decide (1 ≤ cm ∧ cm ≤ 1000) && rises 0 (c - 1) l
theorem l11Calendar_ev (c cm : Int) (l : List Int) (hx : l.length ≤ 1048576) : Ev (fun k => spec_l11Calendar.f k c cm l) (validCal c cm l) := by
  unfold spec_l11Calendar.f validCal
  simp only [in_tells, Option.bind_some, decide_eq_true_eq]
  by_cases h1 : 1 ≤ c ∧ c ≤ 400
  · simp only [if_pos h1, decide_eq_true h1, Bool.true_and]
    by_cases h2 : 1 ≤ cm ∧ cm ≤ 1000
    · simp only [if_pos h2, decide_eq_true h2, Bool.true_and]
      rw [w64 (by omega) (by omega)]
      exact Ev.bind (rises_ev l 0 (c - 1) hx) (Ev.now _)
    · simp only [if_neg h2, decide_eq_false h2, Bool.false_and]
      exact Ev.now _
  · simp only [if_neg h1, decide_eq_false h1, Bool.false_and]
    exact Ev.now _
theorem specValid_ev (c cm : Int) (l : List Int) (hx : l.length ≤ 1048576) : Ev (fun k => spec_ValidCalendar.f k c cm l) (validCal c cm l) := by
  unfold spec_ValidCalendar.f
  exact Ev.bind (l11Calendar_ev c cm l hx) (Ev.now _)
theorem implValid_ev (c cm : Int) (l : List Int) (hx : l.length ≤ 1048576) : Ev (fun k => impl_ValidCalendar.f k c cm l) (validCal c cm l) := by
  unfold impl_ValidCalendar.f validCal
  simp only [within_tells, Option.bind_some, decide_eq_true_eq]
  by_cases h1 : 1 ≤ c ∧ c ≤ 400
  · simp only [if_pos h1, decide_eq_true h1, Bool.true_and]
    by_cases h2 : 1 ≤ cm ∧ cm ≤ 1000
    · simp only [if_pos h2, decide_eq_true h2, Bool.true_and]
      exact Ev.bind (isSet_ev l c hx (by omega)) (Ev.now _)
    · simp only [if_neg h2, decide_eq_false h2, Bool.false_and]
      exact Ev.now _
  · simp only [if_neg h1, decide_eq_false h1, Bool.false_and]
    exact Ev.now _
theorem valid_bd {c cm : Int} {l : List Int} (h : validCal c cm l = true) : 1 ≤ c ∧ c ≤ 400 ∧ 1 ≤ cm ∧ cm ≤ 1000 := by
  unfold validCal at h
  simp only [Bool.and_eq_true, decide_eq_true_eq] at h
  omega
theorem toCalendar_ev (c cm : Int) (l : List Int) (hx : l.length ≤ 1048576) : Ev (fun k => laws_toCalendar.f k c cm l) (c, cm, l) := by
  unfold laws_toCalendar.f
  exact Ev.bind (toInt64S_ev l hx) (Ev.now _)
theorem eqCalendar_ev (c cm : Int) (l : List Int) (hx : l.length ≤ 1048576) : Ev (fun k => laws_eqCalendar.f k c cm l c cm l) true := by
  unfold laws_eqCalendar.f
  simp only [if_true]
  refine Ev.bind (eqInt64S_ev l l hx) ?_
  simp
  exact Ev.now _
theorem szCalendar_tells (c cm : Int) (l : List Int) (hx : l.length ≤ maxLen) : (laws_szCalendar.f c cm l 1048576 = some (-1) ∧ ¬ l.length ≤ 1048576) ∨ (∃ t, laws_szCalendar.f c cm l 1048576 = some t ∧ 0 ≤ t ∧ l.length ≤ 1048576) := by
  unfold laws_szCalendar.f
  rw [sz_tells l 1048576 hx (by omega), Option.bind_some]
  by_cases h : (1048576 : Int) - l.length < 0
  · left
    rw [if_pos h]
    exact ⟨rfl, by omega⟩
  · right
    rw [if_neg h, if_neg h]
    exact ⟨_, rfl, by omega, by omega⟩

end Go.Proofs.Ytjeidmbggdgggaa.Com
