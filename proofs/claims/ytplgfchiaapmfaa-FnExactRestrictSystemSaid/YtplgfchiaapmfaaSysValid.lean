/- Systems of sets: the tests of validity, copies and sizes. -/
import Derived.Test.YtplgfchiaapmfaaWithin
import Derived.Test.YtplgfchiaapmfaaSame
import Derived.Test.YtplgfchiaapmfaaBits
import Derived.Test.YtplgfchiaapmfaaQ1
import Derived.Test.YtplgfchiaapmfaaQ2
import Derived.Test.YtplgfchiaapmfaaQ5
import Derived.Test.YtplgfchiaapmfaaQ6
import Derived.Test.YtplgfchiaapmfaaQ7
import Derived.Test.YtplgfchiaapmfaaQ9
namespace Go.Proofs.Ytplgfchiaapmfaa.Com
set_option linter.unusedSimpArgs false
set_option linter.unusedVariables false
open Go.RowKit Go.Proofs.YtplgfchiaapmfaaW.PrintWords Go.Proofs.YtplgfchiaapmfaaW.PrintMore Go.Proofs.Ytplgfchiaapmfaa.Q

/-- The set of all points. -/
def full (p : Int) : Int := wrap64 (shl .i64 1 p - 1)
theorem full_nat (p : Nat) (h : p ≤ 12) : full (p : Int) = ((2 ^ p - 1 : Nat) : Int) := by
  have : ∀ q : Fin 13, full (q.val : Int) = ((2 ^ q.val - 1 : Nat) : Int) := by decide +kernel
  exact this ⟨p, by omega⟩
def validSys (p : Int) (l : List Int) : Bool := decide (0 ≤ p ∧ p ≤ 12) && decide ((l.length : Int) ≤ 12) && l.all fun x => decide (0 ≤ x ∧ x ≤ full p)
theorem validSys_of {p : Int} {l : List Int} (h : validSys p l = true) : (∃ q : Nat, p = (q : Int) ∧ q ≤ 12) ∧ l.length ≤ 12 ∧ ∀ x ∈ l, 0 ≤ x ∧ x ≤ full p := by
  unfold validSys at h
  simp only [Bool.and_eq_true, decide_eq_true_eq, List.all_eq_true] at h
  exact ⟨⟨p.toNat, by omega, by omega⟩, by omega, h.2⟩
theorem set_tells (p x : Int) (hp : 0 ≤ p ∧ p ≤ 12) : spec_l10Set.f p x = some (decide (0 ≤ x ∧ x ≤ full p)) := by
  unfold spec_l10Set.f full
  rw [uw p (by omega), if_pos hp.1, in_tells]
  rfl
theorem specIs_ev (p : Int) (l : List Int) (hx : l.length ≤ 1048576) : Ev (fun k => spec_l10Is.f k p l) (validSys p l) := by
  unfold spec_l10Is.f validSys
  simp only [in_tells, Option.bind_some, decide_eq_true_eq]
  have jf : Ev (fun k => spec_l10Is.j0 k true p l) false := Ev.step (fun k => by rw [spec_l10Is.j0]) (by simp only [if_true]; exact Ev.now _)
  by_cases h1 : 0 ≤ p ∧ p ≤ 12
  · simp only [if_pos h1, decide_eq_true h1, Bool.true_and]
    by_cases h2 : (l.length : Int) ≤ 12
    · rw [decide_eq_false (show ¬ (l.length : Int) > 12 by omega), decide_eq_true h2, Bool.true_and]
      refine Ev.step (fun k => by rw [spec_l10Is.j0]) ?_
      simp only [Bool.false_eq_true, if_false]
      have gen := ev_list l (fun m k => spec_l10Is.l0 k (m : Int) p l) (fun r => r.all fun x => decide (0 ≤ x ∧ x ≤ full p)) ?_ ?_ 0 (by omega)
      · exact gen
      · refine Ev.step (fun k => by rw [spec_l10Is.l0]) ?_
        simp only [if_neg (show ¬ (l.length : Int) < (l.length : Int) by omega)]
        exact Ev.now _
      · intro m hm ih
        refine Ev.step (fun k => by rw [spec_l10Is.l0]) ?_
        simp only [if_pos (show (m : Int) < (l.length : Int) by omega), if_pos (show 0 ≤ (m : Int) by omega), rd_nat hm, set_tells p _ h1, Option.bind_some, w_succ (m := m) (by omega), decide_eq_true_eq]
        rw [List.all_cons]
        by_cases c : 0 ≤ l[m] ∧ l[m] ≤ full p
        · simp only [if_pos c, decide_eq_true c, Bool.true_and]
          exact ih
        · simp only [if_neg c, decide_eq_false c, Bool.false_and]
          exact Ev.now _
    · rw [decide_eq_true (show (l.length : Int) > 12 by omega), decide_eq_false h2, Bool.false_and]
      exact jf
  · simp only [if_neg h1, decide_eq_false h1, Bool.false_and]
    exact jf
theorem implValidSys_tells (p : Int) (l : List Int) : impl_ValidSystem.f p l = some (validSys p l) := by
  unfold impl_ValidSystem.f validSys impl_areWithin.f full
  rw [within_tells]
  simp only [Option.bind_some, decide_eq_true_eq]
  by_cases h1 : 0 ≤ p ∧ p ≤ 12
  · rw [if_pos h1, decide_eq_true h1, if_pos h1.1]
    by_cases h2 : (l.length : Int) ≤ 12
    · rw [if_pos h2, decide_eq_true h2]
      rfl
    · rw [if_neg h2, decide_eq_false h2]
      rfl
  · rw [if_neg h1, decide_eq_false h1]
    rfl
theorem toSystem_ev (p : Int) (l : List Int) (hx : l.length ≤ 1048576) : Ev (fun k => laws_toSystem.f k p l) (p, l) := by
  unfold laws_toSystem.f
  exact Ev.bind (toInt64S_ev l hx) (Ev.now _)
theorem eqSystem_ev (p : Int) (l : List Int) (hx : l.length ≤ 1048576) : Ev (fun k => laws_eqSystem.f k p l p l) true := by
  unfold laws_eqSystem.f
  simp only [if_true]
  refine Ev.bind (eqInt64S_ev l l hx) ?_
  simp
  exact Ev.now _
theorem szSystem_tells (p : Int) (l : List Int) (hx : l.length ≤ maxLen) : (laws_szSystem.f p l 1048576 = some (-1) ∧ ¬ l.length ≤ 1048576) ∨ (∃ t, laws_szSystem.f p l 1048576 = some t ∧ 0 ≤ t ∧ l.length ≤ 1048576) := by
  unfold laws_szSystem.f
  rw [sz_tells l 1048576 hx (by omega), Option.bind_some]
  by_cases h : (1048576 : Int) - l.length < 0
  · left
    rw [if_pos h]
    exact ⟨rfl, by omega⟩
  · right
    rw [if_neg h, if_neg h]
    exact ⟨_, rfl, by omega, by omega⟩
end Go.Proofs.Ytplgfchiaapmfaa.Com
