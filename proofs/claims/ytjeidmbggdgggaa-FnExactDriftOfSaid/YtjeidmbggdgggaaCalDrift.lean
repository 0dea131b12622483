/- Drift, on both sides. -/
import Derived.Test.YtjeidmbggdgggaaCalValid
import Derived.Test.YtjeidmbggdgggaaCalDb
import Derived.Test.YtjeidmbggdgggaaGreatest
import Derived.Test.YtjeidmbggdgggaaQ7
import Derived.Test.YtjeidmbggdgggaaQ26
import Derived.Test.YtjeidmbggdgggaaQ54
namespace Go.Proofs.Ytjeidmbggdgggaa.Com
set_option linter.unusedSimpArgs false
set_option linter.unusedVariables false
set_option linter.unusedSectionVars false
open Go.RowKit Go.Proofs.YtjeidmbggdgggaaW.PrintWords Go.Proofs.YtjeidmbggdgggaaW.PrintMore Go.Proofs.Ytjeidmbggdgggaa.Q

section
variable {c cm : Int} {l : List Int} (hc : 1 ≤ c ∧ c ≤ 400) (hm : 1 ≤ cm ∧ cm ≤ 1000) (hx : l.length ≤ 1048576) (num den : Int) (hn : 0 ≤ num ∧ num ≤ 1000000) (hd : 1 ≤ den ∧ den ≤ 1000)
include hc hm hx hn hd
def drifts (c cm : Int) (l : List Int) (num den : Int) (n : Nat) : List Int := (List.range n).map fun (i : Nat) => den * db c cm l (i : Int) - (i : Int) * num
theorem drift_bd (i : Int) (hi : 0 ≤ i ∧ i ≤ 401) : 0 ≤ den * db c cm l i ∧ den * db c cm l i ≤ 200000000000000 ∧ 0 ≤ i * num ∧ i * num ≤ 401000000 := by
  have a := db_bd hc hm hx i (by omega)
  have b := mul_bd (show 0 ≤ den by omega) hd.2 a.1 a.2
  have d := mul_bd hi.1 hi.2 hn.1 hn.2
  omega
theorem drifts_bd (n : Nat) (h : n ≤ 402) : ∀ x ∈ drifts c cm l num den n, -400000000000000 ≤ x ∧ x ≤ 400000000000000 := by
  intro x hx'
  unfold drifts at hx'
  obtain ⟨i, hi, rfl⟩ := List.mem_map.1 hx'
  have := drift_bd hc hm hx num den hn hd (i : Int) (by have := List.mem_range.1 hi; omega)
  omega
theorem drifts_succ (n : Nat) : drifts c cm l num den (n + 1) = drifts c cm l num den n ++ [den * db c cm l (n : Int) - (n : Int) * num] := by
  unfold drifts
  rw [List.range_succ, List.map_append]
  rfl
theorem implDrift_ev : Ev (fun k => impl_DriftOf.l0 k num den [] (c + 1) 0 c cm l) (gr (drifts c cm l num den (c.toNat + 1)), true) := by
  have gen := ev_count (c.toNat + 1) (fun m s k => impl_DriftOf.l0 k num den s (c + 1) (m : Int) c cm l) (gr (drifts c cm l num den (c.toNat + 1)), true) (fun m s => s = drifts c cm l num den m) ?_ ?_ 0 [] (by omega) rfl
  · exact gen
  · intro s hs
    subst hs
    refine Ev.step (fun k => by rw [impl_DriftOf.l0]) ?_
    simp only [if_neg (show ¬ ((c.toNat + 1 : Nat) : Int) < c + 1 by omega)]
    refine Ev.bind (greatest_ev _ (by simp [drifts]; omega) (fun x h => ?_)) (Ev.now _)
    have := drifts_bd hc hm hx num den hn hd (c.toNat + 1) (by omega) x h
    omega
  · intro m s hm' hs
    refine ⟨_, rfl, fun ih => ?_⟩
    subst hs
    have b := drift_bd hc hm hx num den hn hd (m : Int) (by omega)
    refine Ev.step (fun k => by rw [impl_DriftOf.l0]) ?_
    simp only [if_pos (show (m : Int) < c + 1 by omega)]
    refine Ev.bind (daysBefore_ev hc hm hx (m : Int) (by omega)) ?_
    simp only [if_pos (show (drifts c cm l num den m).length < 17592186044416 by simp [drifts]; omega), w_succ (m := m) (by omega)]
    rw [w64 (x := den * db c cm l (m : Int)) (by omega) (by omega), w64 (x := (m : Int) * num) (by omega) (by omega), w64 (by omega) (by omega), ← drifts_succ hc hm hx num den hn hd]
    exact ih
theorem specDrift_ev : Ev (fun k => spec_DriftOf.l0 k num den 0 0 c cm l) (gr (drifts c cm l num den (c.toNat + 1)), true) := by
  have gen := ev_count (c.toNat + 1) (fun m s k => spec_DriftOf.l0 k num den s (m : Int) c cm l) (gr (drifts c cm l num den (c.toNat + 1)), true) (fun m s => s = gr (drifts c cm l num den m)) ?_ ?_ 0 0 (by omega) rfl
  · exact gen
  · intro s hs
    subst hs
    refine Ev.step (fun k => by rw [spec_DriftOf.l0]) ?_
    simp only [if_neg (show ¬ ((c.toNat + 1 : Nat) : Int) ≤ c by omega)]
    exact Ev.now _
  · intro m s hm' hs
    refine ⟨_, rfl, fun ih => ?_⟩
    subst hs
    have b := drift_bd hc hm hx num den hn hd (m : Int) (by omega)
    have g := gr_bd 400000000000000 (by omega) _ (drifts_bd hc hm hx num den hn hd m (by omega))
    refine Ev.step (fun k => by rw [spec_DriftOf.l0]) ?_
    simp only [if_pos (show (m : Int) ≤ c by omega)]
    refine Ev.bind (l11Before_ev hc hm hx (m : Int) (by omega)) ?_
    simp only [w_succ (m := m) (by omega)]
    rw [w64 (x := den * db c cm l (m : Int)) (by omega) (by omega), w64 (x := (m : Int) * num) (by omega) (by omega), w64 (x := den * db c cm l (m : Int) - (m : Int) * num) (by omega) (by omega), w64 (by omega) (by omega)]
    rw [drifts_succ hc hm hx num den hn hd, gr_snoc] at ih
    generalize den * db c cm l (m : Int) - (m : Int) * num = x at ih b ⊢
    generalize gr (drifts c cm l num den m) = s at ih g ⊢
    refine ev_bind' (a := if x > -x then x else -x) (by unfold spec_l00Max.f; split <;> rfl) (ev_bind' (a := mx (mx s x) (-x)) ?_ ih)
    unfold spec_l00Max.f mx
    congr 1
    repeat' split
    all_goals first | rfl | (congr 1; omega) | omega
end
def driftOf (c cm : Int) (l : List Int) (num den : Int) : Int × Bool := if validCal c cm l = true ∧ (1 ≤ den ∧ den ≤ 1000) ∧ (0 ≤ num ∧ num ≤ 1000000) then (gr (drifts c cm l num den (c.toNat + 1)), true) else (0, false)
theorem drift_both (c cm : Int) (l : List Int) (num den : Int) (hx : l.length ≤ 1048576) : Ev (fun k => spec_DriftOf.f k c cm l num den) (driftOf c cm l num den) ∧ Ev (fun k => impl_DriftOf.f k c cm l num den) (driftOf c cm l num den) := by
  unfold spec_DriftOf.f impl_DriftOf.f driftOf
  have j1 : Ev (fun k => spec_DriftOf.j0 k num den true c cm l) (0, false) := Ev.step (fun k => by rw [spec_DriftOf.j0]) (by simp only [if_true]; exact Ev.now _)
  have j2 : Ev (fun k => impl_DriftOf.j0 k num den true c cm l) (0, false) := Ev.step (fun k => by rw [impl_DriftOf.j0]) (by simp only [if_true]; exact Ev.now _)
  by_cases h : validCal c cm l = true
  · have b := valid_bd h
    by_cases hd : 1 ≤ den ∧ den ≤ 1000
    · by_cases hn : 0 ≤ num ∧ num ≤ 1000000
      · rw [if_pos ⟨h, hd, hn⟩]
        refine ⟨Ev.bind (l11Calendar_ev c cm l hx) ?_, Ev.bind (implValid_ev c cm l hx) ?_⟩
        · simp only [h, if_true, in_tells, Option.bind_some, decide_eq_true hd, decide_eq_true hn, Bool.not_true]
          refine Ev.step (fun k => by rw [spec_DriftOf.j0]) ?_
          simp only [Bool.false_eq_true, if_false]
          exact specDrift_ev (by omega) (by omega) hx num den hn hd
        · simp only [h, if_true, within_tells, Option.bind_some, decide_eq_true hd, decide_eq_true hn, Bool.not_true]
          refine Ev.step (fun k => by rw [impl_DriftOf.j0]) ?_
          simp only [Bool.false_eq_true, if_false]
          rw [w64 (by omega) (by omega)]
          exact implDrift_ev (by omega) (by omega) hx num den hn hd
      · rw [if_neg (fun e => hn e.2.2)]
        refine ⟨Ev.bind (l11Calendar_ev c cm l hx) ?_, Ev.bind (implValid_ev c cm l hx) ?_⟩
        · simp only [h, if_true, in_tells, Option.bind_some, decide_eq_true hd, decide_eq_false hn, Bool.not_false]
          exact j1
        · simp only [h, if_true, within_tells, Option.bind_some, decide_eq_true hd, decide_eq_false hn, Bool.not_false]
          exact j2
    · rw [if_neg (fun e => hd e.2.1)]
      refine ⟨Ev.bind (l11Calendar_ev c cm l hx) ?_, Ev.bind (implValid_ev c cm l hx) ?_⟩
      · simp only [h, if_true, in_tells, Option.bind_some, decide_eq_false hd, Bool.false_eq_true, if_false]
        exact j1
      · simp only [h, if_true, within_tells, Option.bind_some, decide_eq_false hd, Bool.false_eq_true, if_false]
        exact j2
  · have h' : validCal c cm l = false := by simpa using h
    rw [if_neg (fun e => h e.1)]
    refine ⟨Ev.bind (l11Calendar_ev c cm l hx) ?_, Ev.bind (implValid_ev c cm l hx) ?_⟩
    · simp only [h', Bool.false_eq_true, if_false]
      exact j1
    · simp only [h', Bool.false_eq_true, if_false]
      exact j2

end Go.Proofs.Ytjeidmbggdgggaa.Com
