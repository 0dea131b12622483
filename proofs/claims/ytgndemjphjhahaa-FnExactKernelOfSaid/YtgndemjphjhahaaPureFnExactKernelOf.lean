/- The pure statement of FnExactKernelOf: for all arguments the program's KernelOf returns what the reference's returns. -/
import Derived.Test.YtgndemjphjhahaaWithin
import Derived.Test.YtgndemjphjhahaaQ0
import Derived.Test.YtgndemjphjhahaaQ1
import Derived.Test.YtgndemjphjhahaaQ2
import Derived.Test.YtgndemjphjhahaaQ9
namespace Go.Proofs.Ytgndemjphjhahaa.Pure
set_option linter.unusedSimpArgs false
set_option linter.unusedVariables false
open Go.RowKit Go.Proofs.Ytgndemjphjhahaa.Q Go.Proofs.YtgndemjphjhahaaW.PrintWords Go.Proofs.YtgndemjphjhahaaW.PrintLast Go.Proofs.Ytgndemjphjhahaa.Com

theorem impl_out (a : Int) (h : ¬ (0 ≤ a ∧ a ≤ 2)) : impl_KernelOf.f a = impl_KernelOf.f 3 := by
  unfold impl_KernelOf.f
  rw [if_neg (by omega), if_neg (by omega), if_neg (by omega), if_neg (by decide), if_neg (by decide), if_neg (by decide)]
theorem spec_out (a : Int) (h : ¬ (0 ≤ a ∧ a ≤ 2)) : spec_KernelOf.f a = spec_KernelOf.f 3 := by
  unfold spec_KernelOf.f
  rw [in_tells, in_tells, decide_eq_false h, decide_eq_false (by omega)]
  rfl
theorem j0_out (a : Int) (h : ¬ (0 ≤ a ∧ a ≤ 2)) (k : Nat) (b c : Bool) (d : Int) (e : List S77) (f : Int) (g : List S77) : laws_FnExactKernelOf.j0 k a b c d e f g = laws_FnExactKernelOf.j0 k 3 b c d e f g := by
  cases k with
  | zero => rw [laws_FnExactKernelOf.j0, laws_FnExactKernelOf.j0]
  | succ k => rw [laws_FnExactKernelOf.j0, laws_FnExactKernelOf.j0, impl_out a h]
theorem all_four : ∀ b : Fin 4, laws_FnExactKernelOf.f 60 (b.val : Int) = some true := by decide +kernel
theorem FnExactKernelOf : laws_FnExactKernelOf.Pure := by
  intro a _
  refine ⟨60, ?_⟩
  by_cases h : 0 ≤ a ∧ a ≤ 2
  · have := all_four ⟨a.toNat, by omega⟩
    simp only at this
    rwa [Int.toNat_of_nonneg h.1] at this
  · have := all_four ⟨3, by omega⟩
    simp only at this
    unfold laws_FnExactKernelOf.f at this ⊢
    rw [spec_out a h, impl_out a h]
    simp only [j0_out a h]
    exact this
end Go.Proofs.Ytgndemjphjhahaa.Pure
