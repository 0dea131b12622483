/- The mean year, on both sides. -/
import Derived.Test.YtjeidmbggdgggaaCalValid
import Derived.Test.YtjeidmbggdgggaaCalDb
import Derived.Test.YtjeidmbggdgggaaGcd
import Derived.Test.YtjeidmbggdgggaaQ23
import Derived.Test.YtjeidmbggdgggaaQ24
import Derived.Test.YtjeidmbggdgggaaQ52
namespace Go.Proofs.Ytjeidmbggdgggaa.Com
set_option linter.unusedSimpArgs false
set_option linter.unusedVariables false
set_option linter.unusedSectionVars false
open Go.RowKit Go.Proofs.YtjeidmbggdgggaaW.PrintWords Go.Proofs.YtjeidmbggdgggaaW.PrintMore Go.Proofs.Ytjeidmbggdgggaa.Q

def meanOf (c cm : Int) (l : List Int) : Int × Int × Bool := if validCal c cm l = true then (db c cm l c / (Int.gcd (db c cm l c) c : Int), c / (Int.gcd (db c cm l c) c : Int), true) else (0, 0, false)
theorem mean_both (c cm : Int) (l : List Int) (hx : l.length ≤ 1048576) : Ev (fun k => spec_MeanYear.f k c cm l) (meanOf c cm l) ∧ Ev (fun k => impl_MeanYear.f k c cm l) (meanOf c cm l) := by
  unfold spec_MeanYear.f impl_MeanYear.f meanOf
  by_cases h : validCal c cm l = true
  · have b := valid_bd h
    have d := db_bd (c := c) (cm := cm) (l := l) (by omega) (by omega) hx c (by omega)
    obtain ⟨g1, g2⟩ := gcd_int (db c cm l c) c (by omega) (by omega)
    have gp : 0 < ((Int.gcd (db c cm l c) c : Nat) : Int) := by
      have : 0 < Int.gcd (db c cm l c) c := Int.gcd_pos_of_ne_zero_right _ (by omega)
      omega
    have q1 : 0 ≤ db c cm l c / (Int.gcd (db c cm l c) c : Int) := Int.ediv_nonneg d.1 (by omega)
    have q2 : db c cm l c / (Int.gcd (db c cm l c) c : Int) ≤ db c cm l c := Int.ediv_le_self _ d.1
    have q3 : 0 ≤ c / (Int.gcd (db c cm l c) c : Int) := Int.ediv_nonneg (by omega) (by omega)
    have q4 : c / (Int.gcd (db c cm l c) c : Int) ≤ c := Int.ediv_le_self _ (by omega)
    rw [if_pos h]
    refine ⟨Ev.bind (l11Calendar_ev c cm l hx) ?_, Ev.bind (implValid_ev c cm l hx) ?_⟩
    · simp only [h, if_true]
      refine Ev.bind (l11Before_ev (by omega) (by omega) hx c (by omega)) (Ev.bind g2 ?_)
      simp only [if_neg (show ¬ ((Int.gcd (db c cm l c) c : Nat) : Int) = 0 by omega), tdiv_nn d.1, tdiv_nn (show 0 ≤ c by omega)]
      rw [w64 (by omega) (by omega), w64 (by omega) (by omega)]
      exact Ev.now _
    · simp only [h, if_true]
      refine Ev.bind (daysBefore_ev (by omega) (by omega) hx c (by omega)) ?_
      unfold impl_worth_lowest.f
      refine Ev.bind (a := (db c cm l c / (Int.gcd (db c cm l c) c : Int), c / (Int.gcd (db c cm l c) c : Int))) (Ev.bind g1 ?_) (Ev.now _)
      simp only [if_neg (show ¬ ((Int.gcd (db c cm l c) c : Nat) : Int) = 0 by omega), tdiv_nn d.1, tdiv_nn (show 0 ≤ c by omega)]
      rw [w64 (by omega) (by omega), w64 (by omega) (by omega)]
      exact Ev.now _
  · have h' : validCal c cm l = false := by simpa using h
    rw [if_neg h]
    refine ⟨Ev.bind (l11Calendar_ev c cm l hx) ?_, Ev.bind (implValid_ev c cm l hx) ?_⟩ <;>
    · simp only [h', Bool.false_eq_true, if_false]
      exact Ev.now _

end Go.Proofs.Ytjeidmbggdgggaa.Com
