/- The pure statement of FnExactRestrictSystem: for all arguments the program's RestrictSystem returns what the reference's returns. -/
import Derived.Test.YtplgfchiaapmfaaSysRst
import Derived.Test.YtplgfchiaapmfaaSysMarks
import Derived.Test.YtplgfchiaapmfaaQ53
namespace Go.Proofs.Ytplgfchiaapmfaa.Pure
set_option linter.unusedSimpArgs false
set_option linter.unusedVariables false
open Go.RowKit Go.Proofs.Ytplgfchiaapmfaa.Q Go.Proofs.YtplgfchiaapmfaaW.PrintWords Go.Proofs.YtplgfchiaapmfaaW.PrintLast Go.Proofs.Ytplgfchiaapmfaa.Com

theorem FnExactRestrictSystem : laws_FnExactRestrictSystem.Pure := by
  intro p l pts _ hl _
  apply ev_of
  unfold laws_FnExactRestrictSystem.f
  rcases szSystem_tells p l hl.1 with ⟨e, _⟩ | ⟨t, e, ht, hx⟩
  · simp only [e, Option.bind_some, if_pos (show (-1 : Int) < 0 by omega)]
    exact Ev.now _
  · simp only [e, Option.bind_some, if_neg (show ¬ t < 0 by omega)]
    obtain ⟨⟨q, y, b⟩, hs, hi, hr⟩ := restrict_both p l pts hx
    have hr : y.length ≤ 12 := hr
    have hheld := heldSystem_ev q y.length (by omega)
    refine Ev.bind (toSystem_ev p l hx) (Ev.bind hs (Ev.bind (toSystem_ev p l hx) (Ev.bind hi (Ev.bind (eqSystem_ev q y (by omega)) ?_))))
    simp only [if_true, bne_self_eq_false]
    refine Ev.step (fun k => by rw [laws_FnExactRestrictSystem.j0]) ?_
    simp only [Bool.false_eq_true, if_false]
    refine Ev.bind (toSystem_ev p l hx) (Ev.bind (eqSystem_ev p l hx) ?_)
    simp only [if_true]
    refine Ev.bind (markSystem_ev p l hx) ?_
    simp only [if_neg (show ¬ (1 + (l.length : Int)) < 0 by omega)]
    refine Ev.bind (eqSystem_ev q y (by omega)) ?_
    simp only [if_true, bne_self_eq_false]
    refine Ev.step (fun k => by rw [laws_FnExactRestrictSystem.j1]) ?_
    simp only [Bool.false_eq_true, if_false]
    refine Ev.bind (markSystem_ev q y (by omega)) (Ev.bind hheld ?_)
    simp only [if_neg (show ¬ (1 + (y.length : Int)) < 0 by omega), if_true]
    refine Ev.bind (toSystem_ev p l hx) (Ev.bind hi (Ev.bind (eqSystem_ev q y (by omega)) ?_))
    simp only [if_true, bne_self_eq_false]
    refine Ev.step (fun k => by rw [laws_FnExactRestrictSystem.j2]) ?_
    simp only [Bool.false_eq_true, if_false]
    refine Ev.bind hheld ?_
    simp only [if_neg (show ¬ (1 + (y.length : Int)) < 0 by omega), if_true]
    exact Ev.now _
end Go.Proofs.Ytplgfchiaapmfaa.Pure
