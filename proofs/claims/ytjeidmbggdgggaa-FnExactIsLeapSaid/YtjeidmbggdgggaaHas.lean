/- Membership of a number in a list, on both sides. -/
import Derived.Test.YtjeidmbggdgggaaFold
import Derived.Test.YtjeidmbggdgggaaQ29
import Derived.Test.YtjeidmbggdgggaaQ32
namespace Go.Proofs.Ytjeidmbggdgggaa.Com
set_option linter.unusedSimpArgs false
set_option linter.unusedVariables false
set_option linter.unusedSectionVars false
open Go.RowKit Go.Proofs.YtjeidmbggdgggaaW.PrintWords Go.Proofs.YtjeidmbggdgggaaW.PrintMore Go.Proofs.Ytjeidmbggdgggaa.Q

/-! ### Membership -/
theorem has_ev (l : List Int) (x : Int) (hx : l.length ≤ 1048576) : Ev (fun k => spec_l00Has.f k l x) (decide (x ∈ l)) := by
  unfold spec_l00Has.f
  have gen := ev_list l (fun m k => spec_l00Has.l0 k l x (m : Int)) (fun r => decide (x ∈ r)) ?_ ?_ 0 (by omega)
  · simpa using gen
  · refine Ev.step (fun k => by rw [spec_l00Has.l0]) ?_
    simp only [if_neg (show ¬ (l.length : Int) < (l.length : Int) by omega)]
    exact Ev.now _
  · intro m hm ih
    refine Ev.step (fun k => by rw [spec_l00Has.l0]) ?_
    simp only [if_pos (show (m : Int) < (l.length : Int) by omega), if_pos (show 0 ≤ (m : Int) by omega), rd_nat hm, w_succ (m := m) (by omega)]
    by_cases c : l[m] = x
    · simp only [if_pos c]
      rw [decide_eq_true (show x ∈ l[m] :: l.drop (m + 1) from by rw [c]; exact List.mem_cons_self)]
      exact Ev.now _
    · simp only [if_neg c]
      rw [show decide (x ∈ l[m] :: l.drop (m + 1)) = decide (x ∈ l.drop (m + 1)) from decide_eq_decide.2 ⟨fun h => (List.mem_cons.1 h).resolve_left (fun e => c e.symm), fun h => List.mem_cons_of_mem _ h⟩]
      exact ih
theorem contains_ev (l : List Int) (x : Int) (hx : l.length ≤ 1048576) : Ev (fun k => slices_Contains_int64_int64.f k l x) (decide (x ∈ l)) := by
  unfold slices_Contains_int64_int64.f slices_Index_int64_int64.f
  have key : ∃ i : Int, Ev (fun k => slices_Index_int64_int64.l0 k l x (l.length : Int) 0) i ∧ (i ≥ 0 ↔ x ∈ l) := by
    have gen := ev_list l (fun m k => slices_Index_int64_int64.l0 k l x (l.length : Int) (m : Int)) (fun r => if x ∈ r then ((l.length - r.length + r.idxOf x : Nat) : Int) else -1) ?_ ?_ 0 (by omega)
    · refine ⟨_, by simpa using gen, ?_⟩
      by_cases c : x ∈ l <;> simp [c]
    · refine Ev.step (fun k => by rw [slices_Index_int64_int64.l0]) ?_
      simp only [if_neg (show ¬ (l.length : Int) < (l.length : Int) by omega)]
      exact Ev.now _
    · intro m hm ih
      refine Ev.step (fun k => by rw [slices_Index_int64_int64.l0]) ?_
      simp only [if_pos (show (m : Int) < (l.length : Int) by omega), if_pos (show 0 ≤ (m : Int) by omega), rd_nat hm, w_succ (m := m) (by omega)]
      have hl : l.length - (l[m] :: l.drop (m + 1)).length = m := by rw [List.length_cons, List.length_drop]; omega
      have hl2 : l.length - (l.drop (m + 1)).length = m + 1 := by rw [List.length_drop]; omega
      rw [hl]
      rw [hl2] at ih
      by_cases c : x = l[m]
      · simp only [if_pos c]
        rw [if_pos (by rw [c]; exact List.mem_cons_self), c, List.idxOf_cons_self]
        exact Ev.now _
      · simp only [if_neg c]
        have e1 : (x ∈ l[m] :: l.drop (m + 1)) ↔ x ∈ l.drop (m + 1) := ⟨fun h => (List.mem_cons.1 h).resolve_left c, fun h => List.mem_cons_of_mem _ h⟩
        have e2 : (l[m] :: l.drop (m + 1)).idxOf x = (l.drop (m + 1)).idxOf x + 1 := by rw [List.idxOf_cons, beq_eq_false_iff_ne.2 (fun e => c e.symm)]; rfl
        rw [e2]
        simp only [e1]
        rw [show m + ((l.drop (m + 1)).idxOf x + 1) = m + 1 + (l.drop (m + 1)).idxOf x by omega]
        exact ih
  obtain ⟨i, hi, hx'⟩ := key
  refine Ev.bind hi ?_
  rw [show decide (x ∈ l) = decide (i ≥ 0) from decide_eq_decide.2 hx'.symm]
  exact Ev.now _

end Go.Proofs.Ytjeidmbggdgggaa.Com
