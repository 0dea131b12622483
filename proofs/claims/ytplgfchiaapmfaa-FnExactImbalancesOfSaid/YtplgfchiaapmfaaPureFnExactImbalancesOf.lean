/- The pure statement of FnExactImbalancesOf: for all arguments the program's ImbalancesOf returns what the reference's returns. -/
import Derived.Test.YtplgfchiaapmfaaSysImb
import Derived.Test.YtplgfchiaapmfaaSysMarks
import Derived.Test.YtplgfchiaapmfaaQ47
namespace Go.Proofs.Ytplgfchiaapmfaa.Pure
set_option linter.unusedSimpArgs false
set_option linter.unusedVariables false
open Go.RowKit Go.Proofs.Ytplgfchiaapmfaa.Q Go.Proofs.YtplgfchiaapmfaaW.PrintWords Go.Proofs.YtplgfchiaapmfaaW.PrintLast Go.Proofs.Ytplgfchiaapmfaa.Com

theorem FnExactImbalancesOf : laws_FnExactImbalancesOf.Pure := by
  intro p l red _ hl _
  apply ev_of
  unfold laws_FnExactImbalancesOf.f
  rcases szSystem_tells p l hl.1 with ⟨e, _⟩ | ⟨t, e, ht, hx⟩
  · simp only [e, Option.bind_some, if_pos (show (-1 : Int) < 0 by omega)]
    exact Ev.now _
  · simp only [e, Option.bind_some, if_neg (show ¬ t < 0 by omega)]
    obtain ⟨r, hs, hi, hr⟩ := imbalances_both p l red hx
    refine Ev.bind (toSystem_ev p l hx) (Ev.bind hs (Ev.bind (toSystem_ev p l hx) (Ev.bind hi (Ev.bind (eqInt64S_ev r.1 r.1 (by omega)) ?_))))
    simp only [decide_true, if_true, bne_self_eq_false]
    refine Ev.step (fun k => by rw [laws_FnExactImbalancesOf.j0]) ?_
    simp only [Bool.false_eq_true, if_false]
    refine Ev.bind (toSystem_ev p l hx) (Ev.bind (eqSystem_ev p l hx) ?_)
    simp only [if_true]
    refine Ev.bind (markSystem_ev p l hx) ?_
    simp only [if_neg (show ¬ (1 + (l.length : Int)) < 0 by omega)]
    refine Ev.bind (eqInt64S_ev r.1 r.1 (by omega)) ?_
    simp only [decide_true, if_true, bne_self_eq_false]
    refine Ev.step (fun k => by rw [laws_FnExactImbalancesOf.j1]) ?_
    simp only [Bool.false_eq_true, if_false]
    refine Ev.bind (markInt64S_ev r.1 1 (by omega) (by omega)) (Ev.bind (heldInt64S_ev r.1.length 1 (by omega) (by omega)) ?_)
    simp only [if_neg (show ¬ (1 + (r.1.length : Int)) < 0 by omega), if_true]
    refine Ev.bind (toSystem_ev p l hx) (Ev.bind hi (Ev.bind (eqInt64S_ev r.1 r.1 (by omega)) ?_))
    simp only [decide_true, if_true, bne_self_eq_false]
    refine Ev.step (fun k => by rw [laws_FnExactImbalancesOf.j2]) ?_
    simp only [Bool.false_eq_true, if_false]
    refine Ev.bind (heldInt64S_ev r.1.length 1 (by omega) (by omega)) ?_
    simp only [if_neg (show ¬ (1 + (r.1.length : Int)) < 0 by omega), if_true]
    exact Ev.now _
end Go.Proofs.Ytplgfchiaapmfaa.Pure
