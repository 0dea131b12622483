/- Imbalances, on both sides. -/
import Derived.Test.YtplgfchiaapmfaaSysValid
import Derived.Test.YtplgfchiaapmfaaPop
import Derived.Test.YtplgfchiaapmfaaQ28
import Derived.Test.YtplgfchiaapmfaaQ37
import Derived.Test.YtplgfchiaapmfaaQ41
import Derived.Test.YtplgfchiaapmfaaQ46
namespace Go.Proofs.Ytplgfchiaapmfaa.Com
set_option linter.unusedSimpArgs false
set_option linter.unusedVariables false
set_option linter.unusedSectionVars false
open Go.RowKit Go.Proofs.YtplgfchiaapmfaaW.PrintWords Go.Proofs.YtplgfchiaapmfaaW.PrintMore Go.Proofs.Ytplgfchiaapmfaa.Q

def imb (s r : Nat) : Int := 2 * (pop (s &&& r) : Int) - (pop s : Int)
theorem imb_bd (s r : Nat) : -12 ≤ imb s r ∧ imb s r ≤ 24 := by
  unfold imb
  have := pop_le s
  have := pop_le (s &&& r)
  omega
theorem and_lt {s : Nat} (r : Nat) (h : s < 4096) : s &&& r < 4096 := Nat.lt_of_le_of_lt Nat.and_le_left h
theorem specImb_ev (s r : Nat) (hs : s < 4096) (hr : r < 4096) : Ev (fun k => spec_l10Imbalance.f k (s : Int) (r : Int)) (imb s r) := by
  unfold spec_l10Imbalance.f
  have := pop_le s
  have := pop_le (s &&& r)
  rw [and_nat s r hs hr]
  refine Ev.bind (count_ev (s &&& r) (and_lt r hs)) (Ev.bind (count_ev s hs) ?_)
  rw [w64 (x := 2 * ((pop (s &&& r) : Nat) : Int)) (by omega) (by omega), w64 (by omega) (by omega)]
  exact Ev.now _
def imbs (l : List Int) (r : Nat) : List Int := l.map fun x => imb x.toNat r
theorem full_lt {p : Nat} (h : p ≤ 12) {x : Int} (hx : 0 ≤ x ∧ x ≤ full p) : x.toNat < 2 ^ p ∧ x.toNat < 4096 := by
  rw [full_nat p h] at hx
  have := pow_bd h
  omega
section
variable {l : List Int} (hl : l.length ≤ 12) (hs : ∀ x ∈ l, 0 ≤ x ∧ x.toNat < 4096)
include hl hs
theorem implImbs_ev (p : Int) (r : Nat) (hr : r < 4096) : Ev (fun k => impl_System_imbalances.f k p l (r : Int)) (imbs l r) := by
  unfold impl_System_imbalances.f
  have gen := ev_fold l (fun m s k => impl_System_imbalances.l0 k (r : Int) s l (l.length : Int) (m : Int)) (fun d s => s ++ imbs d r) (fun m s => s.length = m) ?_ ?_ 0 [] (by omega) rfl
  · exact gen
  · intro s hm
    refine Ev.step (fun k => by rw [impl_System_imbalances.l0]) ?_
    simp only [if_neg (show ¬ (l.length : Int) < (l.length : Int) by omega), imbs, List.map_nil, List.append_nil]
    exact Ev.now _
  · intro m hm s hlen ih
    obtain ⟨x0, x1⟩ := hs l[m] (List.getElem_mem hm)
    refine Ev.step (fun k => by rw [impl_System_imbalances.l0]) ?_
    simp only [if_pos (show (m : Int) < (l.length : Int) by omega), if_pos (show 0 ≤ (m : Int) by omega), rd_nat hm, w_succ (m := m) (by omega), if_pos (show s.length < 17592186044416 by omega)]
    obtain ⟨n, hn⟩ : ∃ n : Nat, l[m] = (n : Int) := ⟨l[m].toNat, by omega⟩
    have hn' : n < 4096 := by rw [hn, Int.toNat_natCast] at x1; exact x1
    have := pop_le n
    have := pop_le (n &&& r)
    rw [hn, and_nat n r hn' hr, many_tells _ (and_lt r hn'), many_tells n hn']
    simp only [Option.bind_some]
    rw [w64 (x := 2 * ((pop (n &&& r) : Nat) : Int)) (by omega) (by omega), w64 (by omega) (by omega)]
    have e : s ++ imbs ((n : Int) :: l.drop (m + 1)) r = (s ++ [2 * ((pop (n &&& r) : Nat) : Int) - ((pop n : Nat) : Int)]) ++ imbs (l.drop (m + 1)) r := by
      simp [imbs, imb]
    rw [e]
    exact ih _ (by simp [hlen])
theorem specImbs_ev (p : Int) (r : Nat) (hr : r < 4096) : Ev (fun k => spec_ImbalancesOf.l0 k (r : Int) [] 0 p l) (imbs l r, true) := by
  have gen := ev_fold l (fun m s k => spec_ImbalancesOf.l0 k (r : Int) s (m : Int) p l) (fun d s => (s ++ imbs d r, true)) (fun m s => s.length = m) ?_ ?_ 0 [] (by omega) rfl
  · exact gen
  · intro s hm
    refine Ev.step (fun k => by rw [spec_ImbalancesOf.l0]) ?_
    simp only [if_neg (show ¬ (l.length : Int) < (l.length : Int) by omega), imbs, List.map_nil, List.append_nil]
    exact Ev.now _
  · intro m hm s hlen ih
    obtain ⟨x0, x1⟩ := hs l[m] (List.getElem_mem hm)
    refine Ev.step (fun k => by rw [spec_ImbalancesOf.l0]) ?_
    simp only [if_pos (show (m : Int) < (l.length : Int) by omega), if_pos (show 0 ≤ (m : Int) by omega), rd_nat hm, w_succ (m := m) (by omega), if_pos (show s.length < 17592186044416 by omega)]
    obtain ⟨n, hn⟩ : ∃ n : Nat, l[m] = (n : Int) := ⟨l[m].toNat, by omega⟩
    have hn' : n < 4096 := by rw [hn, Int.toNat_natCast] at x1; exact x1
    rw [hn]
    refine Ev.bind (specImb_ev n r hn' hr) ?_
    have e : s ++ imbs ((n : Int) :: l.drop (m + 1)) r = (s ++ [imb n r]) ++ imbs (l.drop (m + 1)) r := by
      simp [imbs, imb]
    rw [e]
    exact ih _ (by simp [hlen])
end
theorem imbalances_both (p : Int) (l : List Int) (red : Int) (hx : l.length ≤ 1048576) : ∃ r, Ev (fun k => spec_ImbalancesOf.f k p l red) r ∧ Ev (fun k => impl_ImbalancesOf.f k p l red) r ∧ r.1.length ≤ 12 := by
  have jf : Ev (fun k => spec_ImbalancesOf.j0 k red true p l) ([], false) := Ev.step (fun k => by rw [spec_ImbalancesOf.j0]) (by simp only [if_true]; exact Ev.now _)
  unfold spec_ImbalancesOf.f impl_ImbalancesOf.f
  cases h : validSys p l with
  | false =>
    refine ⟨([], false), Ev.bind (specIs_ev p l hx) ?_, ev_bind' (implValidSys_tells p l) ?_, by simp⟩
    · simp only [h, Bool.false_eq_true, if_false]
      exact jf
    · simp only [h, Bool.false_eq_true, if_false]
      exact Ev.now _
  | true =>
    obtain ⟨⟨q, rfl, hq⟩, hl, hs⟩ := validSys_of h
    by_cases hr : 0 ≤ red ∧ red ≤ full q
    · obtain ⟨r, rfl⟩ : ∃ r : Nat, red = (r : Int) := ⟨red.toNat, by omega⟩
      have hr' := (full_lt hq hr).2
      rw [Int.toNat_natCast] at hr'
      refine ⟨(imbs l r, true), Ev.bind (specIs_ev _ l hx) ?_, ev_bind' (implValidSys_tells _ l) ?_, by simp [imbs]; omega⟩
      · simp only [h, if_true, set_tells (q : Int) _ (by omega), Option.bind_some, decide_eq_true hr, Bool.not_true]
        refine Ev.step (fun k => by rw [spec_ImbalancesOf.j0]) ?_
        simp only [Bool.false_eq_true, if_false]
        exact specImbs_ev hl (fun x hx => ⟨(hs x hx).1, (full_lt hq (hs x hx)).2⟩) _ r hr'
      · simp only [h, if_true, if_pos (show 0 ≤ (q : Int) by omega)]
        rw [show wrap64 (shl .i64 1 (q : Int) - 1) = full q from rfl]
        simp only [within_tells, Option.bind_some, decide_eq_true hr, if_true]
        exact Ev.bind (implImbs_ev hl (fun x hx => ⟨(hs x hx).1, (full_lt hq (hs x hx)).2⟩) _ r hr') (Ev.now _)
    · refine ⟨([], false), Ev.bind (specIs_ev _ l hx) ?_, ev_bind' (implValidSys_tells _ l) ?_, by simp⟩
      · simp only [h, if_true, set_tells (q : Int) _ (by omega), Option.bind_some, decide_eq_false hr, Bool.not_false]
        exact jf
      · simp only [h, if_true, if_pos (show 0 ≤ (q : Int) by omega)]
        rw [show wrap64 (shl .i64 1 (q : Int) - 1) = full q from rfl]
        simp only [within_tells, Option.bind_some, decide_eq_false hr, Bool.false_eq_true, if_false]
        exact Ev.now _
end Go.Proofs.Ytplgfchiaapmfaa.Com
