/- Calendars of rules, on both sides. -/
import Derived.Test.YtjeidmbggdgggaaWithin
import Derived.Test.YtjeidmbggdgggaaQ20
import Derived.Test.YtjeidmbggdgggaaQ21
import Derived.Test.YtjeidmbggdgggaaQ27
import Derived.Test.YtjeidmbggdgggaaQ28
import Derived.Test.YtjeidmbggdgggaaQ46
namespace Go.Proofs.Ytjeidmbggdgggaa.Com
set_option linter.unusedSimpArgs false
set_option linter.unusedVariables false
set_option linter.unusedSectionVars false
open Go.RowKit Go.Proofs.YtjeidmbggdgggaaW.PrintWords Go.Proofs.YtjeidmbggdgggaaW.PrintMore Go.Proofs.Ytjeidmbggdgggaa.Q

def cntDiv (y : Int) : List Int → Int
  | [] => 0
  | x :: r => (if y % x = 0 then 1 else 0) + cntDiv y r
theorem cntDiv_cons (y x : Int) (r : List Int) : cntDiv y (x :: r) = (if y % x = 0 then 1 else 0) + cntDiv y r := rfl
theorem cntDiv_bd (y : Int) (l : List Int) : 0 ≤ cntDiv y l ∧ cntDiv y l ≤ l.length := by
  induction l with
  | nil => simp [cntDiv]
  | cons x r ih => unfold cntDiv; rw [List.length_cons]; split <;> omega
def ruleLeaps (l : List Int) (n : Nat) : List Int := ((List.range n).filter fun (y : Nat) => decide (cntDiv (y : Int) l % 2 = 1)).map fun (y : Nat) => (y : Int)
theorem ruleLeaps_succ (l : List Int) (n : Nat) : ruleLeaps l (n + 1) = if cntDiv (n : Int) l % 2 = 1 then ruleLeaps l n ++ [(n : Int)] else ruleLeaps l n := by
  unfold ruleLeaps
  rw [List.range_succ, List.filter_append, List.map_append]
  by_cases h : cntDiv (n : Int) l % 2 = 1 <;> simp [h]
theorem ruleLeaps_len (l : List Int) (n : Nat) : (ruleLeaps l n).length ≤ n := by
  unfold ruleLeaps
  rw [List.length_map]
  exact Nat.le_trans (List.length_filter_le _ _) (by rw [List.length_range]; exact Nat.le_refl _)
def chainFrom (p : Int) : List Int → Bool
  | [] => true
  | x :: r => decide (p < x) && decide (x % p = 0) && chainFrom x r
def rulesOk (l : List Int) : Bool := match l with
  | [] => false
  | x :: r => decide (l.length ≤ 5) && (l.all fun x => decide (1 ≤ x ∧ x ≤ 400)) && chainFrom x r
section
variable {l : List Int} (hl : l.length ≤ 5) (hr : ∀ x ∈ l, 1 ≤ x ∧ x ≤ 400) (cm : Int)
include hl hr
theorem implRule_years (c : Nat) (hc : c ≤ 400) : Ev (fun k => impl_RuleCalendar.l1 k l (c : Int) 0 (c : Int) cm []) ((c : Int), cm, ruleLeaps l c, true) := by
  have gen := ev_count c (fun m s k => impl_RuleCalendar.l1 k l (c : Int) (m : Int) (c : Int) cm s) ((c : Int), cm, ruleLeaps l c, true) (fun m s => s = ruleLeaps l m) ?_ ?_ 0 [] (by omega) rfl
  · exact gen
  · rintro s rfl
    refine Ev.step (fun k => by rw [impl_RuleCalendar.l1]) ?_
    simp only [if_neg (show ¬ (c : Int) < (c : Int) by omega)]
    exact Ev.now _
  · rintro m s hm rfl
    refine ⟨_, rfl, fun ih => ?_⟩
    refine Ev.step (fun k => by rw [impl_RuleCalendar.l1]) ?_
    simp only [if_pos (show (m : Int) < (c : Int) by omega)]
    have gen := ev_fold l (fun j s k => impl_RuleCalendar.l2 k l (m : Int) s (c : Int) (m : Int) l (l.length : Int) (j : Int) (c : Int) cm (ruleLeaps l m)) (fun r s => ((c : Int), cm, ruleLeaps l c, true)) (fun j s => 0 ≤ s ∧ s ≤ j ∧ s + cntDiv (m : Int) (l.drop j) = cntDiv (m : Int) l) ?_ ?_ 0 0 (by omega) (by simp)
    · exact gen
    · rintro s ⟨s0, s1, s2⟩
      rw [List.drop_length] at s2
      simp only [cntDiv, Int.add_zero] at s2
      refine Ev.step (fun k => by rw [impl_RuleCalendar.l2]) ?_
      have := ruleLeaps_len l m
      simp only [if_neg (show ¬ (l.length : Int) < (l.length : Int) by omega), tmod_nn s0, w_succ (m := m) (by omega), if_pos (show (ruleLeaps l m).length < 17592186044416 by omega)]
      rw [ruleLeaps_succ, ← s2] at ih
      by_cases q : s % 2 = 1
      · simp only [if_pos q] at ih ⊢
        exact ih
      · simp only [if_neg q] at ih ⊢
        exact ih
    · rintro j hj s ⟨s0, s1, s2⟩ k
      obtain ⟨x0, x1⟩ := hr l[j] (List.getElem_mem hj)
      refine Ev.step (fun k => by rw [impl_RuleCalendar.l2]) ?_
      simp only [if_pos (show (j : Int) < (l.length : Int) by omega), if_pos (show 0 ≤ (j : Int) by omega), rd_nat hj, if_neg (show ¬ l[j] = 0 by omega), w_succ (m := j) (by omega), tmod_nn (show 0 ≤ (m : Int) by omega)]
      rw [List.drop_eq_getElem_cons hj] at s2
      rw [cntDiv_cons] at s2
      unfold impl_bit.f
      by_cases q : (m : Int) % l[j] = 0
      · simp only [q, beq_self_eq_true, if_true, Option.bind_some]
        rw [if_pos q] at s2
        rw [w64 (x := s + 1) (by omega) (by omega)]
        exact k (s + 1) ⟨by omega, by omega, by omega⟩
      · simp only [beq_eq_false_iff_ne.2 q, Bool.false_eq_true, if_false, Option.bind_some, Int.add_zero]
        rw [if_neg q] at s2
        rw [w64 (x := s) (by omega) (by omega)]
        exact k s ⟨by omega, by omega, by omega⟩
theorem specRule_years (c : Nat) (hc : c ≤ 400) : Ev (fun k => spec_RuleCalendar.l1 k l (l.length : Int) 0 (c : Int) cm []) ((c : Int), cm, ruleLeaps l c, true) := by
  have gen := ev_count c (fun m s k => spec_RuleCalendar.l1 k l (l.length : Int) (m : Int) (c : Int) cm s) ((c : Int), cm, ruleLeaps l c, true) (fun m s => s = ruleLeaps l m) ?_ ?_ 0 [] (by omega) rfl
  · exact gen
  · rintro s rfl
    refine Ev.step (fun k => by rw [spec_RuleCalendar.l1]) ?_
    simp only [if_neg (show ¬ (c : Int) < (c : Int) by omega)]
    exact Ev.now _
  · rintro m s hm rfl
    refine ⟨_, rfl, fun ih => ?_⟩
    refine Ev.step (fun k => by rw [spec_RuleCalendar.l1]) ?_
    simp only [if_pos (show (m : Int) < (c : Int) by omega)]
    have gen := ev_fold l (fun j s k => spec_RuleCalendar.l2 k l (l.length : Int) (m : Int) s (j : Int) (c : Int) cm (ruleLeaps l m)) (fun r s => ((c : Int), cm, ruleLeaps l c, true)) (fun j s => 0 ≤ s ∧ s ≤ j ∧ s + cntDiv (m : Int) (l.drop j) = cntDiv (m : Int) l) ?_ ?_ 0 0 (by omega) (by simp)
    · exact gen
    · rintro s ⟨s0, s1, s2⟩
      rw [List.drop_length] at s2
      simp only [cntDiv, Int.add_zero] at s2
      refine Ev.step (fun k => by rw [spec_RuleCalendar.l2]) ?_
      have := ruleLeaps_len l m
      simp only [if_neg (show ¬ (l.length : Int) < (l.length : Int) by omega), tmod_nn s0, w_succ (m := m) (by omega), if_pos (show (ruleLeaps l m).length < 17592186044416 by omega)]
      rw [ruleLeaps_succ, ← s2] at ih
      by_cases q : s % 2 = 1
      · simp only [if_pos q] at ih ⊢
        exact ih
      · simp only [if_neg q] at ih ⊢
        exact ih
    · rintro j hj s ⟨s0, s1, s2⟩ k
      obtain ⟨x0, x1⟩ := hr l[j] (List.getElem_mem hj)
      refine Ev.step (fun k => by rw [spec_RuleCalendar.l2]) ?_
      simp only [if_pos (show (j : Int) < (l.length : Int) by omega), if_pos (show 0 ≤ (j : Int) by omega), rd_nat hj, if_neg (show ¬ l[j] = 0 by omega), w_succ (m := j) (by omega), tmod_nn (show 0 ≤ (m : Int) by omega)]
      rw [List.drop_eq_getElem_cons hj] at s2
      rw [cntDiv_cons] at s2
      by_cases q : (m : Int) % l[j] = 0
      · simp only [if_pos q]
        rw [if_pos q] at s2
        rw [w64 (x := s + 1) (by omega) (by omega)]
        exact k (s + 1) ⟨by omega, by omega, by omega⟩
      · simp only [if_neg q]
        rw [if_neg q] at s2
        exact k s ⟨by omega, by omega, by omega⟩
end
def lastOf (l : List Int) : Int := l.getLastD 0
def ruleOf (l : List Int) (cm : Int) : Int × Int × List Int × Bool := if rulesOk l = true ∧ 1 ≤ cm ∧ cm ≤ 1000 then (lastOf l, cm, ruleLeaps l (lastOf l).toNat, true) else (0, 0, [], false)
theorem last_tells {l : List Int} (h : 0 < l.length) (h' : l.length ≤ 5) : wrap64 ((l.length : Int) - 1) = ((l.length - 1 : Nat) : Int) ∧ rd l ((l.length - 1 : Nat) : Int) = lastOf l ∧ lastOf l ∈ l := by
  have e : l.length - 1 < l.length := by omega
  refine ⟨w_pred h (by omega), ?_, ?_⟩
  · rw [rd_nat e]
    unfold lastOf
    rw [List.getLastD_eq_getLast?, List.getLast?_eq_getElem?, List.getElem?_eq_getElem e]
    rfl
  · unfold lastOf
    rw [List.getLastD_eq_getLast?, List.getLast?_eq_getElem?, List.getElem?_eq_getElem e]
    exact List.getElem_mem e
theorem implRule_ev (l : List Int) (cm : Int) (hx : l.length ≤ 1048576) : Ev (fun k => impl_RuleCalendar.f k l cm) (ruleOf l cm) := by
  have jf : Ev (fun k => impl_RuleCalendar.j0 k l cm true) (0, 0, [], false) := Ev.step (fun k => by rw [impl_RuleCalendar.j0]) (by simp only [if_true]; exact Ev.now _)
  unfold impl_RuleCalendar.f impl_size_int64.f ruleOf
  simp only [Option.bind_some, within_tells, impl_areWithin.f, decide_eq_true_eq]
  by_cases h1 : 1 ≤ (l.length : Int) ∧ (l.length : Int) ≤ 5
  · simp only [if_pos h1]
    obtain ⟨x, r, rfl⟩ : ∃ x r, l = x :: r := by
      cases l with
      | nil => simp at h1
      | cons x r => exact ⟨x, r, rfl⟩
    by_cases h2 : ((x :: r).all fun x => decide (1 ≤ x ∧ x ≤ 400)) = true
    · simp only [if_pos h2]
      have hr : ∀ y ∈ x :: r, 1 ≤ y ∧ y ≤ 400 := fun y hy => of_decide_eq_true (List.all_eq_true.1 h2 y hy)
      by_cases h3 : 1 ≤ cm ∧ cm ≤ 1000
      · rw [decide_eq_true h3]
        refine Ev.step (fun k => by rw [impl_RuleCalendar.j0]) ?_
        simp only [Bool.not_true, Bool.false_eq_true, if_false]
        obtain ⟨e1, e2, e3⟩ := last_tells (l := x :: r) (by omega) (by omega)
        have hlast := hr _ e3
        have key : Ev (fun k => impl_RuleCalendar.l0 k (x :: r) cm ((1 : Nat) : Int)) (if chainFrom x r = true then (lastOf (x :: r), cm, ruleLeaps (x :: r) (lastOf (x :: r)).toNat, true) else (0, 0, [], false)) := by
          have gen := ev_fold (x :: r) (fun m (p : Int) k => impl_RuleCalendar.l0 k (x :: r) cm (m : Int)) (fun d p => if chainFrom p d = true then (lastOf (x :: r), cm, ruleLeaps (x :: r) (lastOf (x :: r)).toNat, true) else (0, 0, [], false)) (fun m p => 0 < m ∧ ∃ h : m - 1 < (x :: r).length, p = (x :: r)[m - 1]) ?_ ?_ 1 x (by omega) ⟨by omega, by omega, rfl⟩
          · simpa using gen
          · rintro p ⟨hm, hp, rfl⟩
            refine Ev.step (fun k => by rw [impl_RuleCalendar.l0]) ?_
            simp only [if_neg (show ¬ ((x :: r).length : Int) < ((x :: r).length : Int) by omega), e1, if_pos (show 0 ≤ (((x :: r).length - 1 : Nat) : Int) by omega), if_pos (show (((x :: r).length - 1 : Nat) : Int) < ((x :: r).length : Int) by omega), e2, chainFrom, if_true]
            have := implRule_years (l := x :: r) (by omega) hr cm (lastOf (x :: r)).toNat (by omega)
            rwa [Int.toNat_of_nonneg (by omega)] at this
          · rintro m hm p ⟨h0, hp, rfl⟩ ih
            have ih' := ih _ ⟨by omega, by rw [Nat.add_sub_cancel]; exact hm, rfl⟩
            simp only [Nat.add_sub_cancel] at ih'
            have x0 := hr (x :: r)[m] (List.getElem_mem hm)
            have x1 := hr (x :: r)[m - 1] (List.getElem_mem hp)
            refine Ev.step (fun k => by rw [impl_RuleCalendar.l0]) ?_
            simp only [if_pos (show (m : Int) < ((x :: r).length : Int) by omega), if_pos (show 0 ≤ (m : Int) by omega), w_pred h0 (show m < 9223372036854775807 by omega), if_pos (show 0 ≤ ((m - 1 : Nat) : Int) by omega), if_pos (show ((m - 1 : Nat) : Int) < ((x :: r).length : Int) by omega), rd_nat hm, rd_nat hp, if_neg (show ¬ (x :: r)[m - 1] = 0 by omega), tmod_nn (show 0 ≤ (x :: r)[m] by omega), w_succ (m := m) (by omega)]
            unfold chainFrom
            by_cases c1 : (x :: r)[m] ≤ (x :: r)[m - 1]
            · simp only [if_pos c1]
              rw [decide_eq_false (by omega)]
              simp
              exact Ev.now _
            · simp only [if_neg c1]
              rw [decide_eq_true (by omega), Bool.true_and]
              by_cases c2 : (x :: r)[m] % (x :: r)[m - 1] = 0
              · simp only [if_pos c2]
                rw [decide_eq_true c2, Bool.true_and]
                exact ih'
              · simp only [if_neg c2]
                rw [decide_eq_false c2]
                simp
                exact Ev.now _
        have e : rulesOk (x :: r) = chainFrom x r := by
          show (decide ((x :: r).length ≤ 5) && ((x :: r).all fun x => decide (1 ≤ x ∧ x ≤ 400)) && chainFrom x r) = _
          rw [h2, decide_eq_true (show (x :: r).length ≤ 5 by omega)]
          rfl
        rw [e]
        have e' : (chainFrom x r = true ∧ 1 ≤ cm ∧ cm ≤ 1000) ↔ chainFrom x r = true := ⟨fun h => h.1, fun h => ⟨h, h3⟩⟩
        simp only [e']
        exact key
      · rw [decide_eq_false h3, if_neg (fun e => h3 e.2)]
        exact jf
    · simp only [if_neg h2]
      rw [if_neg]
      · exact jf
      · rintro ⟨e, _⟩
        apply h2
        have e' : (decide ((x :: r).length ≤ 5) && ((x :: r).all fun x => decide (1 ≤ x ∧ x ≤ 400)) && chainFrom x r) = true := e
        rw [Bool.and_eq_true, Bool.and_eq_true] at e'
        exact e'.1.2
  · simp only [if_neg h1]
    rw [if_neg]
    · exact jf
    · rintro ⟨e, _⟩
      apply h1
      cases l with
      | nil => simp [rulesOk] at e
      | cons x r =>
        have e' : (decide ((x :: r).length ≤ 5) && ((x :: r).all fun x => decide (1 ≤ x ∧ x ≤ 400)) && chainFrom x r) = true := e
        rw [Bool.and_eq_true, Bool.and_eq_true] at e'
        have := of_decide_eq_true e'.1.1
        rw [List.length_cons] at *
        omega
def chainS : Option Int → List Int → Bool
  | _, [] => true
  | p, x :: r => decide (1 ≤ x ∧ x ≤ 400) && (match p with | none => true | some y => decide (y < x) && decide (x % y = 0)) && chainS (some x) r
theorem chainS_eq (r : List Int) : ∀ p, chainS (some p) r = ((r.all fun x => decide (1 ≤ x ∧ x ≤ 400)) && chainFrom p r) := by
  induction r with
  | nil => intro p; rfl
  | cons x r ih =>
    intro p
    unfold chainS chainFrom
    rw [ih, List.all_cons]
    simp only
    cases decide (1 ≤ x ∧ x ≤ 400) <;> cases decide (p < x) <;> cases decide (x % p = 0) <;> cases (r.all fun x => decide (1 ≤ x ∧ x ≤ 400)) <;> rfl
theorem specRule_ev (l : List Int) (cm : Int) (hx : l.length ≤ 1048576) : Ev (fun k => spec_RuleCalendar.f k l cm) (ruleOf l cm) := by
  have jf : Ev (fun k => spec_RuleCalendar.j0 k l cm (l.length : Int) true) (0, 0, [], false) := Ev.step (fun k => by rw [spec_RuleCalendar.j0]) (by simp only [if_true]; exact Ev.now _)
  have bad : ¬ (1 ≤ l.length ∧ l.length ≤ 5) → rulesOk l = false := fun h => by
    cases l with
    | nil => rfl
    | cons x r =>
      show (decide ((x :: r).length ≤ 5) && ((x :: r).all fun x => decide (1 ≤ x ∧ x ≤ 400)) && chainFrom x r) = false
      rw [decide_eq_false (by rw [List.length_cons] at h ⊢; omega)]
      rfl
  unfold spec_RuleCalendar.f ruleOf
  by_cases h1 : (l.length : Int) < 1
  · simp only [if_pos h1]
    rw [bad (by omega), if_neg (by simp)]
    exact jf
  · simp only [if_neg h1]
    by_cases h2 : (l.length : Int) > 5
    · simp only [if_pos h2]
      rw [bad (by omega), if_neg (by simp)]
      exact jf
    · simp only [if_neg h2, in_tells, Option.bind_some]
      obtain ⟨x, r, rfl⟩ : ∃ x r, l = x :: r := by
        cases l with
        | nil => simp at h1
        | cons x r => exact ⟨x, r, rfl⟩
      by_cases h3 : 1 ≤ cm ∧ cm ≤ 1000
      · rw [decide_eq_true h3]
        refine Ev.step (fun k => by rw [spec_RuleCalendar.j0]) ?_
        simp only [Bool.not_true, Bool.false_eq_true, if_false]
        have e : rulesOk (x :: r) = chainS none (x :: r) := by
          show (decide ((x :: r).length ≤ 5) && ((x :: r).all fun x => decide (1 ≤ x ∧ x ≤ 400)) && chainFrom x r) = _
          rw [decide_eq_true (show (x :: r).length ≤ 5 by omega)]
          unfold chainS
          rw [chainS_eq, List.all_cons]
          simp only [Bool.true_and, Bool.and_true, Bool.and_assoc]
        have e' : (chainS none (x :: r) = true ∧ 1 ≤ cm ∧ cm ≤ 1000) ↔ chainS none (x :: r) = true := ⟨fun h => h.1, fun h => ⟨h, h3⟩⟩
        rw [e]
        simp only [e']
        obtain ⟨e1, e2, e3⟩ := last_tells (l := x :: r) (by omega) (by omega)
        have gen := ev_fold (x :: r) (fun m (p : Option Int) k => spec_RuleCalendar.l0 k (x :: r) cm ((x :: r).length : Int) (m : Int)) (fun d p => if chainS p d = true then (lastOf (x :: r), cm, ruleLeaps (x :: r) (lastOf (x :: r)).toNat, true) else (0, 0, [], false)) (fun m p => (∀ j (h : j < (x :: r).length), j < m → 1 ≤ (x :: r)[j] ∧ (x :: r)[j] ≤ 400) ∧ p = if h : 0 < m ∧ m - 1 < (x :: r).length then some ((x :: r)[m - 1]'h.2) else none) ?_ ?_ 0 none (by omega) ⟨fun j _ h => by omega, by simp⟩
        · simpa using gen
        · rintro p ⟨ha, _⟩
          have hr : ∀ y ∈ x :: r, 1 ≤ y ∧ y ≤ 400 := fun y hy => by
            obtain ⟨j, hj, rfl⟩ := List.getElem_of_mem hy
            exact ha j hj hj
          have hlast := hr _ e3
          refine Ev.step (fun k => by rw [spec_RuleCalendar.l0]) ?_
          simp only [if_neg (show ¬ ((x :: r).length : Int) < ((x :: r).length : Int) by omega), e1, if_pos (show 0 ≤ (((x :: r).length - 1 : Nat) : Int) by omega), if_pos (show (((x :: r).length - 1 : Nat) : Int) < ((x :: r).length : Int) by omega), e2, chainS, if_true]
          have := specRule_years (l := x :: r) (by omega) hr cm (lastOf (x :: r)).toNat (by omega)
          rwa [Int.toNat_of_nonneg (by omega)] at this
        · rintro m hm p ⟨ha, hp⟩ ih
          refine Ev.step (fun k => by rw [spec_RuleCalendar.l0]) ?_
          simp only [if_pos (show (m : Int) < ((x :: r).length : Int) by omega), if_pos (show 0 ≤ (m : Int) by omega), rd_nat hm, in_tells, Option.bind_some, decide_eq_true_eq, w_succ (m := m) (by omega)]
          unfold chainS
          by_cases c : 1 ≤ (x :: r)[m] ∧ (x :: r)[m] ≤ 400
          · simp only [if_pos c]
            rw [decide_eq_true c, Bool.true_and]
            have ih' := ih (some (x :: r)[m]) ⟨fun j hj hlt => by
              by_cases q : j = m
              · subst q; exact c
              · exact ha j hj (by omega), by rw [dif_pos ⟨by omega, by rw [Nat.add_sub_cancel]; exact hm⟩]; simp only [Nat.add_sub_cancel]⟩
            by_cases h0 : 0 < m
            · have hq : m - 1 < (x :: r).length := by omega
              rw [dif_pos ⟨h0, hq⟩] at hp
              subst hp
              have x1 := ha (m - 1) hq (by omega)
              simp only [if_pos (show (m : Int) > 0 by omega), w_pred h0 (show m < 9223372036854775807 by omega), if_pos (show 0 ≤ ((m - 1 : Nat) : Int) by omega), if_pos (show ((m - 1 : Nat) : Int) < ((x :: r).length : Int) by omega), rd_nat hq, if_neg (show ¬ (x :: r)[m - 1] = 0 by omega), tmod_nn (show 0 ≤ (x :: r)[m] by omega)]
              by_cases c1 : (x :: r)[m] ≤ (x :: r)[m - 1]
              · simp only [if_pos c1]
                simp only [decide_eq_false (show ¬ (x :: r)[m - 1] < (x :: r)[m] by omega), Bool.false_and, Bool.false_eq_true, if_false]
                exact Ev.now _
              · simp only [if_neg c1]
                simp only [decide_eq_true (show (x :: r)[m - 1] < (x :: r)[m] by omega), Bool.true_and]
                by_cases c2 : (x :: r)[m] % (x :: r)[m - 1] = 0
                · simp only [if_pos c2]
                  simp only [decide_eq_true c2, Bool.true_and]
                  exact ih'
                · simp only [if_neg c2]
                  simp only [decide_eq_false c2, Bool.false_and, Bool.false_eq_true, if_false]
                  exact Ev.now _
            · rw [dif_neg (by omega)] at hp
              subst hp
              simp only [if_neg (show ¬ (m : Int) > 0 by omega), Bool.true_and]
              exact ih'
          · simp only [if_neg c]
            rw [decide_eq_false c]
            simp
            exact Ev.now _
      · rw [decide_eq_false h3, if_neg (fun e => h3 e.2)]
        exact jf
end Go.Proofs.Ytjeidmbggdgggaa.Com
