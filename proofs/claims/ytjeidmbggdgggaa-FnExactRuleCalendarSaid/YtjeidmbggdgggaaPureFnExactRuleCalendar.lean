/- The pure statement of FnExactRuleCalendar: for all arguments the program's RuleCalendar returns what the reference's returns. -/
import Derived.Test.YtjeidmbggdgggaaCalRule
import Derived.Test.YtjeidmbggdgggaaSame
import Derived.Test.YtjeidmbggdgggaaMarks
import Derived.Test.YtjeidmbggdgggaaQ18
import Derived.Test.YtjeidmbggdgggaaQ43
import Derived.Test.YtjeidmbggdgggaaQ45
import Derived.Test.YtjeidmbggdgggaaQ47
namespace Go.Proofs.Ytjeidmbggdgggaa.Pure
set_option linter.unusedSimpArgs false
set_option linter.unusedVariables false
open Go.RowKit Go.Proofs.Ytjeidmbggdgggaa.Q Go.Proofs.YtjeidmbggdgggaaW.PrintWords Go.Proofs.YtjeidmbggdgggaaW.PrintLast Go.Proofs.Ytjeidmbggdgggaa.Com

theorem rule_len (l : List Int) (cm : Int) : (ruleOf l cm).2.2.1.length ≤ 400 := by
  unfold ruleOf
  split
  next h =>
    obtain ⟨h1, h2⟩ := h
    have hl := ruleLeaps_len l (lastOf l).toNat
    have : (lastOf l).toNat ≤ 400 := by
      cases l with
      | nil => simp [rulesOk] at h1
      | cons x r =>
        have e' : (decide ((x :: r).length ≤ 5) && ((x :: r).all fun x => decide (1 ≤ x ∧ x ≤ 400)) && chainFrom x r) = true := h1
        rw [Bool.and_eq_true, Bool.and_eq_true] at e'
        have h5 := of_decide_eq_true e'.1.1
        have := of_decide_eq_true (List.all_eq_true.1 e'.1.2 _ (last_tells (l := x :: r) (by rw [List.length_cons]; omega) h5).2.2)
        omega
    exact Nat.le_trans hl this
  next h => exact Nat.zero_le _

theorem FnExactRuleCalendar : laws_FnExactRuleCalendar.Pure := by
  intro l cm hl _ _ _
  apply ev_of
  unfold laws_FnExactRuleCalendar.f
  by_cases hx : (l.length : Int) > 1048576
  · simp only [if_pos hx]
    exact Ev.now _
  · simp only [if_neg hx]
    have hx' : l.length ≤ 1048576 := by omega
    have hi := implRule_ev l cm hx'
    have hs := specRule_ev l cm hx'
    have hr := rule_len l cm
    revert hi hs hr
    generalize ruleOf l cm = r
    obtain ⟨c, m, y, b⟩ := r
    intro hi hs hr
    have hr : y.length ≤ 400 := hr
    have heq : Ev (fun k => laws_eqCalendar.f k c m y c m y) true := by
      unfold laws_eqCalendar.f
      simp only [if_true]
      refine Ev.bind (eqInt64S_ev y y (by omega)) ?_
      simp only [decide_true, if_true]
      exact Ev.now _
    have hheld : Ev (fun k => laws_heldCalendar.f k c m (markL y.length 1) 1) (1 + (y.length : Int)) := by
      unfold laws_heldCalendar.f
      refine Ev.bind (heldInt64S_ev y.length 1 (by omega) (by omega)) ?_
      simp only [if_neg (show ¬ (1 + (y.length : Int)) < 0 by omega)]
      exact Ev.now _
    have hmark : Ev (fun k => laws_markCalendar.f k c m y 1) (1 + (y.length : Int), markL y.length 1) := by
      unfold laws_markCalendar.f
      refine Ev.bind (markInt64S_ev y 1 (by omega) (by omega)) ?_
      exact Ev.now _
    refine Ev.bind (toInt64S_ev l hx') (Ev.bind hs (Ev.bind (toInt64S_ev l hx') (Ev.bind hi (Ev.bind heq ?_))))
    simp only [if_true, bne_self_eq_false]
    refine Ev.step (fun k => by rw [laws_FnExactRuleCalendar.j0]) ?_
    simp only [Bool.false_eq_true, if_false]
    refine Ev.bind (toInt64S_ev l hx') (Ev.bind (eqInt64S_ev l l hx') ?_)
    simp only [decide_true, if_true]
    refine Ev.bind (markInt64S_ev l 1 hx' (by omega)) ?_
    simp only [if_neg (show ¬ (1 + (l.length : Int)) < 0 by omega)]
    refine Ev.bind heq ?_
    simp only [if_true, bne_self_eq_false]
    refine Ev.step (fun k => by rw [laws_FnExactRuleCalendar.j1]) ?_
    simp only [Bool.false_eq_true, if_false]
    refine Ev.bind hmark (Ev.bind hheld ?_)
    simp only [if_neg (show ¬ (1 + (y.length : Int)) < 0 by omega), if_true]
    refine Ev.bind (toInt64S_ev l hx') (Ev.bind hi (Ev.bind heq ?_))
    simp only [if_true, bne_self_eq_false]
    refine Ev.step (fun k => by rw [laws_FnExactRuleCalendar.j2]) ?_
    simp only [Bool.false_eq_true, if_false]
    refine Ev.bind hheld ?_
    simp only [if_neg (show ¬ (1 + (y.length : Int)) < 0 by omega), if_true]
    exact Ev.now _
end Go.Proofs.Ytjeidmbggdgggaa.Pure
