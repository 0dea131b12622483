/- The pure statement of FnExactHadamardSystem: for all arguments the program's HadamardSystem returns what the reference's returns. -/
import Derived.Test.YtplgfchiaapmfaaSysValid
import Derived.Test.YtplgfchiaapmfaaSysMarks
import Derived.Test.YtplgfchiaapmfaaQ16
import Derived.Test.YtplgfchiaapmfaaQ18
import Derived.Test.YtplgfchiaapmfaaQ22
namespace Go.Proofs.Ytplgfchiaapmfaa.Pure
set_option linter.unusedSimpArgs false
set_option linter.unusedVariables false
open Go.RowKit Go.Proofs.Ytplgfchiaapmfaa.Q Go.Proofs.YtplgfchiaapmfaaW.PrintWords Go.Proofs.YtplgfchiaapmfaaW.PrintLast Go.Proofs.Ytplgfchiaapmfaa.Com

theorem hadamard_both (a : Int) : ∃ r, Ev (fun k => spec_HadamardSystem.f k a) r ∧ Ev (fun k => impl_HadamardSystem.f k a) r ∧ r.2.1.length ≤ 12 := by
  by_cases h : 0 ≤ a ∧ a ≤ 3
  · have : ∀ b : Fin 4, (spec_HadamardSystem.f 120 (b.val : Int)).isSome = true ∧ impl_HadamardSystem.f 120 (b.val : Int) = spec_HadamardSystem.f 120 (b.val : Int) ∧ ((spec_HadamardSystem.f 120 (b.val : Int)).getD (0, [], false)).2.1.length ≤ 12 := by decide +kernel
    obtain ⟨h1, h2, h3⟩ := this ⟨a.toNat, by omega⟩
    simp only at h1 h2 h3
    rw [Int.toNat_of_nonneg h.1] at h1 h2 h3
    obtain ⟨r, hr⟩ := Option.isSome_iff_exists.1 h1
    rw [hr] at h2 h3
    exact ⟨r, Ev.of (fun k => spec_HadamardSystem.mono _ k) hr, Ev.of (fun k => impl_HadamardSystem.mono _ k) h2, h3⟩
  · refine ⟨(0, [], false), ?_, ?_, by simp⟩
    · unfold spec_HadamardSystem.f
      refine ev_bind' (in_tells _ _ _) ?_
      simp only [decide_eq_false h, Bool.false_eq_true, if_false]
      exact Ev.now _
    · unfold impl_HadamardSystem.f
      refine ev_bind' (within_tells _ _ _) ?_
      simp only [decide_eq_false h, Bool.false_eq_true, if_false]
      exact Ev.now _

theorem FnExactHadamardSystem : laws_FnExactHadamardSystem.Pure := by
  intro a _
  apply ev_of
  unfold laws_FnExactHadamardSystem.f
  obtain ⟨⟨p, l, b⟩, hs, hi, hl⟩ := hadamard_both a
  have hl : l.length ≤ 12 := hl
  have hheld := heldSystem_ev p l.length (by omega)
  refine Ev.bind hs (Ev.bind hi (Ev.bind (eqSystem_ev p l (by omega)) ?_))
  simp only [if_true, bne_self_eq_false]
  refine Ev.step (fun k => by rw [laws_FnExactHadamardSystem.j0]) ?_
  simp only [Bool.false_eq_true, if_false]
  refine Ev.bind (markSystem_ev p l (by omega)) (Ev.bind hheld ?_)
  simp only [if_neg (show ¬ (1 + (l.length : Int)) < 0 by omega), if_true]
  refine Ev.bind hi (Ev.bind (eqSystem_ev p l (by omega)) ?_)
  simp only [if_true, bne_self_eq_false]
  refine Ev.step (fun k => by rw [laws_FnExactHadamardSystem.j1]) ?_
  simp only [Bool.false_eq_true, if_false]
  refine Ev.bind hheld ?_
  simp only [if_neg (show ¬ (1 + (l.length : Int)) < 0 by omega), if_true]
  exact Ev.now _
end Go.Proofs.Ytplgfchiaapmfaa.Pure
