/- What the laws' own helpers tell: a copy is the list itself, equality is equality, sizes are told. -/
import Derived.Test.YtgndemjphjhahaaFold
import Derived.Test.YtgndemjphjhahaaQ17
import Derived.Test.YtgndemjphjhahaaQ22
import Derived.Test.YtgndemjphjhahaaQ27
namespace Go.Proofs.Ytgndemjphjhahaa.Com
set_option linter.unusedSimpArgs false
set_option linter.unusedVariables false
open Go.RowKit Go.Proofs.YtgndemjphjhahaaW.PrintWords Go.Proofs.Ytgndemjphjhahaa.Q

theorem set_take (xs : List Int) (m : Nat) (h : m < xs.length) : (xs.take m ++ List.replicate (xs.length - m) 0).set m xs[m] = xs.take (m + 1) ++ List.replicate (xs.length - (m + 1)) 0 := by
  have hl : (xs.take m).length = m := by rw [List.length_take]; omega
  rw [List.set_append_right _ _ (by omega), hl, Nat.sub_self]
  obtain ⟨q, hq⟩ : ∃ q, xs.length - m = q + 1 := ⟨xs.length - m - 1, by omega⟩
  rw [hq, List.replicate_succ, List.set_cons_zero, show xs.length - (m + 1) = q by omega, List.take_succ_eq_append_getElem h, List.append_assoc]
  rfl
theorem toInt64S_ev (xs : List Int) (hx : xs.length ≤ 1048576) : Ev (fun k => laws_toInt64S.f k xs) xs := by
  unfold laws_toInt64S.f
  simp only [if_pos (show 0 ≤ (xs.length : Int) by omega), if_pos (show ((xs.length : Int)).toNat ≤ 35184372088832 by omega)]
  have := ev_count xs.length (fun m s k => laws_toInt64S.l0 k xs s (m : Int)) xs (fun m s => s = xs.take m ++ List.replicate (xs.length - m) 0) (fun s hs => ?_) (fun m s hm hs => ⟨xs.take (m + 1) ++ List.replicate (xs.length - (m + 1)) 0, rfl, fun ih => ?_⟩) 0 (List.replicate xs.length 0) (by omega) (by simp)
  · simpa using this
  · refine Ev.step (fun k => by rw [laws_toInt64S.l0]) ?_
    simp only [if_neg (show ¬ (xs.length : Int) < (xs.length : Int) by omega)]
    subst hs
    simp
    exact Ev.now _
  · refine Ev.step (fun k => by rw [laws_toInt64S.l0]) ?_
    subst hs
    have hl : (xs.take m ++ List.replicate (xs.length - m) 0).length = xs.length := by simp; omega
    simp only [if_pos (show (m : Int) < (xs.length : Int) by omega), if_pos (show 0 ≤ (m : Int) by omega), hl, rd_nat hm, Int.toNat_natCast, set_take xs m hm, w_succ (m := m) (by omega)]
    exact ih
theorem eqInt64S_ev (xs ys : List Int) (hx : xs.length ≤ 1048576) : Ev (fun k => laws_eqInt64S.f k xs ys) (decide (xs = ys)) := by
  unfold laws_eqInt64S.f
  by_cases hl : (xs.length : Int) = (ys.length : Int)
  · simp only [if_pos hl]
    have key : ∀ m, m ≤ xs.length → Ev (fun k => laws_eqInt64S.l0 k xs ys (m : Int)) (decide (xs.drop m = ys.drop m)) := by
      have gen := ev_list xs (fun m k => laws_eqInt64S.l0 k xs ys (m : Int)) (fun l => decide (l = ys.drop (xs.length - l.length))) ?_ ?_
      · intro m hm
        have := gen m hm
        rwa [List.length_drop, show xs.length - (xs.length - m) = m by omega] at this
      · refine Ev.step (fun k => by rw [laws_eqInt64S.l0]) ?_
        simp only [if_neg (show ¬ (xs.length : Int) < (xs.length : Int) by omega)]
        have : ys.drop (xs.length - ([] : List Int).length) = [] := by simp; omega
        rw [this]
        exact Ev.now _
      · intro m hm ih
        refine Ev.step (fun k => by rw [laws_eqInt64S.l0]) ?_
        have hy : m < ys.length := by omega
        simp only [if_pos (show (m : Int) < (xs.length : Int) by omega), if_pos (show 0 ≤ (m : Int) by omega), if_pos (show (m : Int) < (ys.length : Int) by omega), rd_nat hm, rd_nat hy, w_succ (m := m) (by omega)]
        rw [List.length_drop, show xs.length - (xs.length - (m + 1)) = m + 1 by omega] at ih
        have e : xs.length - (xs[m] :: xs.drop (m + 1)).length = m := by simp; omega
        rw [e, List.drop_eq_getElem_cons hy]
        by_cases c : xs[m] = ys[m]
        · simp only [if_pos c]
          rw [show decide (xs[m] :: xs.drop (m + 1) = ys[m] :: ys.drop (m + 1)) = decide (xs.drop (m + 1) = ys.drop (m + 1)) from decide_eq_decide.2 (by rw [c]; exact ⟨fun h => (List.cons.inj h).2, fun h => by rw [h]⟩)]
          exact ih
        · simp only [if_neg c]
          rw [decide_eq_false (show ¬ xs[m] :: xs.drop (m + 1) = ys[m] :: ys.drop (m + 1) from fun h => c (List.cons.inj h).1)]
          exact Ev.now _
    have := key 0 (by omega)
    simpa using this
  · simp only [if_neg hl]
    have : xs ≠ ys := fun e => hl (by rw [e])
    rw [decide_eq_false this]
    exact Ev.now _
theorem sz_tells (xs : List Int) (a : Int) (hx : xs.length ≤ maxLen) (ha : -1 ≤ a ∧ a ≤ 1048576) : laws_szInt64S.f xs a = some (if a - xs.length < 0 then -1 else a - xs.length) := by
  unfold laws_szInt64S.f
  unfold maxLen at hx
  rw [w64 (by omega) (by omega)]
  split <;> rfl
end Go.Proofs.Ytgndemjphjhahaa.Com
