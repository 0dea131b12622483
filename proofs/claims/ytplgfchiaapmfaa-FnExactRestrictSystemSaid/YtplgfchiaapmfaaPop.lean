/- How many points a set has, on both sides. -/
import Derived.Test.YtplgfchiaapmfaaBits
import Derived.Test.YtplgfchiaapmfaaQ15
import Derived.Test.YtplgfchiaapmfaaQ17
namespace Go.Proofs.Ytplgfchiaapmfaa.Com
set_option linter.unusedSimpArgs false
set_option linter.unusedVariables false
open Go.RowKit Go.Proofs.YtplgfchiaapmfaaW.PrintWords Go.Proofs.YtplgfchiaapmfaaW.PrintMore Go.Proofs.Ytplgfchiaapmfaa.Q

theorem many_tells (n : Nat) (h : n < 4096) : impl_many.f (n : Int) = some ((pop n : Nat) : Int) := by
  have : ∀ a b : Fin 64, impl_many.f ((64 * a.val + b.val : Nat) : Int) = some ((pop (64 * a.val + b.val) : Nat) : Int) := by decide +kernel
  have q := this ⟨n / 64, by omega⟩ ⟨n % 64, by omega⟩
  simp only at q
  rwa [show 64 * (n / 64) + n % 64 = n by omega] at q
theorem count_ev (n : Nat) (h : n < 4096) : Ev (fun k => spec_l10Count.f k (n : Int)) ((pop n : Nat) : Int) := by
  have : ∀ a b : Fin 64, spec_l10Count.f 14 ((64 * a.val + b.val : Nat) : Int) = some ((pop (64 * a.val + b.val) : Nat) : Int) := by decide +kernel
  have q := this ⟨n / 64, by omega⟩ ⟨n % 64, by omega⟩
  simp only at q
  rw [show 64 * (n / 64) + n % 64 = n by omega] at q
  exact Ev.of (fun k => spec_l10Count.mono _ k) q
end Go.Proofs.Ytplgfchiaapmfaa.Com
