/- The pure statement of FnExactBestCycle: for all arguments the program's BestCycle returns what the reference's returns. -/
import Derived.Test.YtjeidmbggdgggaaBestCycle
import Derived.Test.YtjeidmbggdgggaaQ4
namespace Go.Proofs.Ytjeidmbggdgggaa.Pure
open Go.RowKit Go.Proofs.Ytjeidmbggdgggaa.Q Go.Proofs.YtjeidmbggdgggaaW.PrintWords Go.Proofs.YtjeidmbggdgggaaW.PrintLast Go.Proofs.Ytjeidmbggdgggaa.Com

theorem FnExactBestCycle : laws_FnExactBestCycle.Pure := by
  intro num den most _ _ _
  apply ev_of
  unfold laws_FnExactBestCycle.f
  by_cases h : (1 ≤ den ∧ den ≤ 1000) ∧ (0 ≤ num ∧ num ≤ den) ∧ (1 ≤ most ∧ most ≤ 400)
  · obtain ⟨r, hi, hs, _⟩ := Best.both h.1 h.2.1 h.2.2
    refine Ev.bind hs (Ev.bind hi ?_)
    simp
    exact Ev.now _
  · obtain ⟨hi, hs⟩ := Best.neither h
    refine Ev.bind hs (Ev.bind hi ?_)
    simp
    exact Ev.now _
end Go.Proofs.Ytjeidmbggdgggaa.Pure
