/- The degree of a system, on both sides. -/
import Derived.Test.YtplgfchiaapmfaaSysValid
import Derived.Test.YtplgfchiaapmfaaQ11
import Derived.Test.YtplgfchiaapmfaaQ12
import Derived.Test.YtplgfchiaapmfaaQ13
namespace Go.Proofs.Ytplgfchiaapmfaa.Com
set_option linter.unusedSimpArgs false
set_option linter.unusedVariables false
open Go.RowKit Go.Proofs.YtplgfchiaapmfaaW.PrintWords Go.Proofs.YtplgfchiaapmfaaW.PrintMore Go.Proofs.Ytplgfchiaapmfaa.Q

/-- How many sets have a point, as the machine counts. -/
def degAt (l : List Int) (p : Int) (s : Int) : Int := l.foldl (fun s x => wrap64 (s + Go.bits .and .i64 (shr .i64 x p) 1)) s
theorem max_mx (a b : Int) : spec_l00Max.f a b = some (mx a b) := by
  unfold spec_l00Max.f mx
  by_cases h : a > b
  · rw [if_pos h, if_neg (by omega)]
  · rw [if_neg h]
    by_cases h' : a < b
    · rw [if_pos h']
    · rw [if_neg h', show b = a by omega]
def degs (l : List Int) (n : Nat) : Int := (List.range n).foldl (fun s (p : Nat) => mx s (degAt l (p : Int) 0)) 0
theorem degs_succ (l : List Int) (n : Nat) : degs l (n + 1) = mx (degs l n) (degAt l (n : Int) 0) := by
  unfold degs
  rw [List.range_succ, List.foldl_append]
  rfl
theorem degree_both (p : Int) (l : List Int) (hx : l.length ≤ 1048576) : ∃ r, Ev (fun k => spec_DegreeOf.f k p l) r ∧ Ev (fun k => impl_DegreeOf.f k p l) r := by
  unfold spec_DegreeOf.f impl_DegreeOf.f
  cases h : validSys p l with
  | false =>
    refine ⟨(0, false), Ev.bind (specIs_ev p l hx) ?_, ev_bind' (implValidSys_tells p l) ?_⟩ <;>
    · simp only [h, Bool.false_eq_true, if_false]
      exact Ev.now _
  | true =>
    obtain ⟨⟨q, rfl, hq⟩, hl, hs⟩ := validSys_of h
    refine ⟨(degs l q, true), Ev.bind (specIs_ev _ l hx) ?_, ev_bind' (implValidSys_tells _ l) ?_⟩
    · simp only [h, if_true]
      refine ev_count q (fun m s k => spec_DegreeOf.l0 k s (m : Int) (q : Int) l) (degs l q, true) (fun m s => s = degs l m) ?_ ?_ 0 0 (by omega) rfl
      · rintro s rfl
        refine Ev.step (fun k => by rw [spec_DegreeOf.l0]) ?_
        simp only [if_neg (show ¬ (q : Int) < (q : Int) by omega)]
        exact Ev.now _
      · rintro m s hm rfl
        refine ⟨_, rfl, fun ih => ?_⟩
        refine Ev.step (fun k => by rw [spec_DegreeOf.l0]) ?_
        simp only [if_pos (show (m : Int) < (q : Int) by omega)]
        have gen := ev_fold l (fun j s k => spec_DegreeOf.l1 k (degs l m) (m : Int) s (j : Int) (q : Int) l) (fun r s => (degs l q, true)) (fun j s => degAt (l.drop j) (m : Int) s = degAt l (m : Int) 0) ?_ ?_ 0 0 (by omega) rfl
        · exact gen
        · intro s hs'
          rw [List.drop_length] at hs'
          obtain rfl : s = degAt l (m : Int) 0 := hs'
          refine Ev.step (fun k => by rw [spec_DegreeOf.l1]) ?_
          simp only [if_neg (show ¬ (l.length : Int) < (l.length : Int) by omega), max_mx, Option.bind_some, w_succ (m := m) (by omega)]
          rw [degs_succ] at ih
          exact ih
        · intro j hj s hs' k
          refine Ev.step (fun k => by rw [spec_DegreeOf.l1]) ?_
          simp only [if_pos (show (j : Int) < (l.length : Int) by omega), if_pos (show 0 ≤ (j : Int) by omega), uw (m : Int) (by omega), if_pos (show 0 ≤ (m : Int) by omega), rd_nat hj, w_succ (m := j) (by omega)]
          refine k _ ?_
          rw [List.drop_eq_getElem_cons hj] at hs'
          exact hs'
    · simp only [h, if_true]
      refine ev_count q (fun m s k => impl_DegreeOf.l0 k s (q : Int) (m : Int) (q : Int) l) (degs l q, true) (fun m s => s = degs l m) ?_ ?_ 0 0 (by omega) rfl
      · rintro s rfl
        refine Ev.step (fun k => by rw [impl_DegreeOf.l0]) ?_
        simp only [if_neg (show ¬ (q : Int) < (q : Int) by omega)]
        exact Ev.now _
      · rintro m s hm rfl
        refine ⟨_, rfl, fun ih => ?_⟩
        refine Ev.step (fun k => by rw [impl_DegreeOf.l0]) ?_
        simp only [if_pos (show (m : Int) < (q : Int) by omega)]
        have gen := ev_fold l (fun j s k => impl_DegreeOf.l1 k (degs l m) (m : Int) s (q : Int) (m : Int) l (l.length : Int) (j : Int) (q : Int) l) (fun r s => (degs l q, true)) (fun j s => degAt (l.drop j) (m : Int) s = degAt l (m : Int) 0) ?_ ?_ 0 0 (by omega) rfl
        · exact gen
        · intro s hs'
          rw [List.drop_length] at hs'
          obtain rfl : s = degAt l (m : Int) 0 := hs'
          refine Ev.step (fun k => by rw [impl_DegreeOf.l1]) ?_
          simp only [if_neg (show ¬ (l.length : Int) < (l.length : Int) by omega), w_succ (m := m) (by omega)]
          rw [degs_succ] at ih
          exact ih
        · intro j hj s hs' k
          refine Ev.step (fun k => by rw [impl_DegreeOf.l1]) ?_
          simp only [if_pos (show (j : Int) < (l.length : Int) by omega), if_pos (show 0 ≤ (j : Int) by omega), if_pos (show 0 ≤ (m : Int) by omega), rd_nat hj, w_succ (m := j) (by omega)]
          refine k _ ?_
          rw [List.drop_eq_getElem_cons hj] at hs'
          exact hs'
end Go.Proofs.Ytplgfchiaapmfaa.Com
