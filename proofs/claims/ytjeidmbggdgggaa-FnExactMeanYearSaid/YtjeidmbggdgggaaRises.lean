/- A set of numbers below a bound: the program's test and the reference's. -/
import Derived.Test.YtjeidmbggdgggaaWithin
import Derived.Test.YtjeidmbggdgggaaQ11
import Derived.Test.YtjeidmbggdgggaaQ15
namespace Go.Proofs.Ytjeidmbggdgggaa.Com
set_option linter.unusedSimpArgs false
set_option linter.unusedVariables false
open Go.RowKit Go.Proofs.YtjeidmbggdgggaaW.PrintWords Go.Proofs.Ytjeidmbggdgggaa.Q

/-- Rising numbers from lo to hi, all above p. -/
def risesFrom (lo hi : Int) : Option Int → List Int → Bool
  | _, [] => true
  | p, x :: r => decide (lo ≤ x ∧ x ≤ hi) && (match p with | none => true | some y => decide (y < x)) && risesFrom lo hi (some x) r
def rises (lo hi : Int) (l : List Int) : Bool := risesFrom lo hi none l

theorem rises_ev (xs : List Int) (lo hi : Int) (hx : xs.length ≤ 1048576) : Ev (fun k => spec_l00Rises.f k xs lo hi) (rises lo hi xs) := by
  unfold spec_l00Rises.f
  have gen := ev_fold xs (fun m (p : Option Int) k => spec_l00Rises.l0 k xs lo hi (m : Int)) (fun l p => risesFrom lo hi p l) (fun m p => p = if h : 0 < m ∧ m - 1 < xs.length then some (xs[m - 1]'h.2) else none) ?_ ?_ 0 none (by omega) (by simp)
  · simpa [rises] using gen
  · intro s hs
    refine Ev.step (fun k => by rw [spec_l00Rises.l0]) ?_
    simp only [if_neg (show ¬ (xs.length : Int) < (xs.length : Int) by omega)]
    exact Ev.now _
  · intro m hm s hs ih
    have ih' := ih (some xs[m]) (by simp [hm])
    refine Ev.step (fun k => by rw [spec_l00Rises.l0]) ?_
    simp only [if_pos (show (m : Int) < (xs.length : Int) by omega), if_pos (show 0 ≤ (m : Int) by omega), rd_nat hm, in_tells, Option.bind_some, w_succ (m := m) (by omega), decide_eq_true_eq]
    by_cases c : lo ≤ xs[m] ∧ xs[m] ≤ hi
    · simp only [if_pos c]
      unfold risesFrom
      rw [decide_eq_true c, Bool.true_and]
      by_cases hp : (m : Int) > 0
      · have hp' : 0 < m ∧ m - 1 < xs.length := by omega
        rw [dif_pos hp'] at hs
        subst hs
        simp only [if_pos hp, w_pred (m := m) (by omega) (by omega), if_pos (show (0 : Int) ≤ ((m - 1 : Nat) : Int) by omega), if_pos (show ((m - 1 : Nat) : Int) < (xs.length : Int) by omega), rd_nat hp'.2]
        by_cases q : xs[m - 1] ≥ xs[m]
        · simp only [if_pos q]
          rw [decide_eq_false (by omega), Bool.false_and]
          exact Ev.now _
        · simp only [if_neg q]
          rw [decide_eq_true (by omega), Bool.true_and]
          exact ih'
      · rw [dif_neg (by omega)] at hs
        subst hs
        simp only [if_neg hp, Bool.true_and]
        exact ih'
    · simp only [if_neg c]
      unfold risesFrom
      rw [decide_eq_false c]
      simp
      exact Ev.now _
theorem isSet_ev (xs : List Int) (b : Int) (hx : xs.length ≤ 1048576) (hb : -9223372036854775807 ≤ b ∧ b ≤ 9223372036854775807) : Ev (fun k => impl_isSet.f k xs b) (rises 0 (b - 1) xs) := by
  unfold impl_isSet.f
  have gen := ev_fold xs (fun m (p : Option Int) k => impl_isSet.l0 k xs b xs (xs.length : Int) (m : Int)) (fun l p => risesFrom 0 (b - 1) p l) (fun m p => p = if h : 0 < m ∧ m - 1 < xs.length then some (xs[m - 1]'h.2) else none) ?_ ?_ 0 none (by omega) (by simp)
  · simpa [rises] using gen
  · intro s hs
    refine Ev.step (fun k => by rw [impl_isSet.l0]) ?_
    simp only [if_neg (show ¬ (xs.length : Int) < (xs.length : Int) by omega)]
    exact Ev.now _
  · intro m hm s hs ih
    have ih' := ih (some xs[m]) (by simp [hm])
    refine Ev.step (fun k => by rw [impl_isSet.l0]) ?_
    simp only [if_pos (show (m : Int) < (xs.length : Int) by omega), if_pos (show 0 ≤ (m : Int) by omega), rd_nat hm, within_tells, Option.bind_some, w_succ (m := m) (by omega), decide_eq_true_eq, w64 (x := b - 1) (by omega) (by omega)]
    by_cases c : 0 ≤ xs[m] ∧ xs[m] ≤ b - 1
    · simp only [if_pos c]
      unfold risesFrom
      rw [decide_eq_true c, Bool.true_and]
      by_cases hp : (m : Int) > 0
      · have hp' : 0 < m ∧ m - 1 < xs.length := by omega
        rw [dif_pos hp'] at hs
        subst hs
        simp only [if_pos hp, w_pred (m := m) (by omega) (by omega), if_pos (show (0 : Int) ≤ ((m - 1 : Nat) : Int) by omega), if_pos (show ((m - 1 : Nat) : Int) < (xs.length : Int) by omega), rd_nat hp'.2]
        by_cases q : xs[m] ≤ xs[m - 1]
        · simp only [if_pos q]
          rw [decide_eq_false (by omega), Bool.false_and]
          exact Ev.now _
        · simp only [if_neg q]
          rw [decide_eq_true (by omega), Bool.true_and]
          exact ih'
      · rw [dif_neg (by omega)] at hs
        subst hs
        simp only [if_neg hp, Bool.true_and]
        exact ih'
    · simp only [if_neg c]
      unfold risesFrom
      rw [decide_eq_false c]
      simp
      exact Ev.now _
end Go.Proofs.Ytjeidmbggdgggaa.Com
