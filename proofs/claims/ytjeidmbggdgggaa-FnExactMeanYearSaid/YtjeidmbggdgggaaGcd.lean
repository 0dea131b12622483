/- The greatest common divisor, on both sides. -/
import Derived.Test.YtjeidmbggdgggaaCom
import Derived.Test.YtjeidmbggdgggaaQ23
import Derived.Test.YtjeidmbggdgggaaQ51
namespace Go.Proofs.Ytjeidmbggdgggaa.Com
set_option linter.unusedSimpArgs false
set_option linter.unusedVariables false
set_option linter.unusedSectionVars false
open Go.RowKit Go.Proofs.YtjeidmbggdgggaaW.PrintWords Go.Proofs.YtjeidmbggdgggaaW.PrintMore Go.Proofs.Ytjeidmbggdgggaa.Q

/-! ### The greatest common divisor -/
theorem gcd_both (d : Nat) : ∀ (m n : Nat), n ≤ d → m ≤ 1000000000000 → n ≤ 1000000000000 →
    Ev (fun k => impl_divisor.l0 k (m : Int) (n : Int)) ((Nat.gcd m n : Nat) : Int) ∧ Ev (fun k => spec_l07Gcd.l0 k (m : Int) (n : Int)) ((Nat.gcd m n : Nat) : Int) := by
  induction d with
  | zero =>
    intro m n h hm hn
    obtain rfl : n = 0 := by omega
    rw [Nat.gcd_zero_right]
    constructor
    · refine Ev.step (fun k => by rw [impl_divisor.l0]) ?_
      simp only [show ((0 : Nat) : Int) = 0 from rfl, if_true]
      rw [w64 (by omega) (by omega)]
      rw [show mx (m : Int) (-(m : Int)) = (m : Int) from by unfold mx; rw [if_neg (by omega)]]
      exact Ev.now _
    · refine Ev.step (fun k => by rw [spec_l07Gcd.l0]) ?_
      simp only [if_neg (show ¬ ((0 : Nat) : Int) > 0 by omega)]
      exact Ev.now _
  | succ d ih =>
    intro m n h hm hn
    by_cases e : n = 0
    · subst e
      exact ih m 0 (by omega) hm hn
    have lt : m % n < n := Nat.mod_lt _ (by omega)
    have := ih n (m % n) (by omega) hn (by omega)
    have e2 : Int.tmod (m : Int) (n : Int) = ((m % n : Nat) : Int) := by rw [tmod_nn (by omega)]; rfl
    rw [show Nat.gcd m n = Nat.gcd n (m % n) from by rw [Nat.gcd_comm m n, Nat.gcd_rec n m, Nat.gcd_comm]]
    constructor
    · refine Ev.step (fun k => by rw [impl_divisor.l0]) ?_
      simp only [if_neg (show ¬ (n : Int) = 0 by omega), e2]
      exact this.1
    · refine Ev.step (fun k => by rw [spec_l07Gcd.l0]) ?_
      simp only [if_pos (show (n : Int) > 0 by omega), if_neg (show ¬ (n : Int) = 0 by omega), e2]
      exact this.2
theorem gcd_int (a b : Int) (ha : 0 ≤ a ∧ a ≤ 1000000000000) (hb : 0 ≤ b ∧ b ≤ 1000000000000) :
    Ev (fun k => impl_divisor.f k a b) ((Int.gcd a b : Nat) : Int) ∧ Ev (fun k => spec_l07Gcd.f k a b) ((Int.gcd a b : Nat) : Int) := by
  have := gcd_both b.toNat a.toNat b.toNat (Nat.le_refl _) (by omega) (by omega)
  rw [Int.toNat_of_nonneg ha.1, Int.toNat_of_nonneg hb.1] at this
  have e : Int.gcd a b = Nat.gcd a.toNat b.toNat := by
    unfold Int.gcd
    rw [show a.natAbs = a.toNat by omega, show b.natAbs = b.toNat by omega]
  rw [e]
  exact this
end Go.Proofs.Ytjeidmbggdgggaa.Com
