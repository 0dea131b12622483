/- Calendars: the functions of the two sides come to the same. -/
import Derived.Test.YtjeidmbggdgggaaCal
import Derived.Test.YtjeidmbggdgggaaQ3
import Derived.Test.YtjeidmbggdgggaaQ7
import Derived.Test.YtjeidmbggdgggaaQ8
import Derived.Test.YtjeidmbggdgggaaQ10
import Derived.Test.YtjeidmbggdgggaaQ12
import Derived.Test.YtjeidmbggdgggaaQ13
import Derived.Test.YtjeidmbggdgggaaQ18
import Derived.Test.YtjeidmbggdgggaaQ19
import Derived.Test.YtjeidmbggdgggaaQ21
namespace Go.Proofs.Ytjeidmbggdgggaa.Com
set_option linter.unusedSimpArgs false
set_option linter.unusedVariables false
set_option linter.unusedSectionVars false
open Go.RowKit Go.Proofs.YtjeidmbggdgggaaW.PrintWords Go.Proofs.YtjeidmbggdgggaaW.PrintMore Go.Proofs.Ytjeidmbggdgggaa.Q

theorem year_tells (y : Int) : spec_l11Year.f y = some (decide (0 ≤ y ∧ y ≤ 100000)) := by
  unfold spec_l11Year.f
  rw [in_tells]
  rfl
theorem isLeap_both (c cm : Int) (l : List Int) (y : Int) (hx : l.length ≤ 1048576) :
    Ev (fun k => spec_IsLeap.f k c cm l y) (validCal c cm l && decide (0 ≤ y ∧ y ≤ 100000) && decide (y % c ∈ l)) ∧ Ev (fun k => impl_IsLeap.f k c cm l y) (validCal c cm l && decide (0 ≤ y ∧ y ≤ 100000) && decide (y % c ∈ l)) := by
  unfold spec_IsLeap.f impl_IsLeap.f
  by_cases h : validCal c cm l = true
  · have b := valid_bd h
    by_cases hy : 0 ≤ y ∧ y ≤ 100000
    · rw [h, decide_eq_true hy, Bool.true_and, Bool.true_and]
      refine ⟨Ev.bind (l11Calendar_ev c cm l hx) ?_, Ev.bind (implValid_ev c cm l hx) ?_⟩
      · simp only [h, if_true, year_tells, Option.bind_some, decide_eq_true hy]
        unfold spec_l11Leap.f
        simp only [if_neg (show ¬ c = 0 by omega), tmod_nn hy.1]
        exact Ev.bind (Ev.bind (has_ev l (y % c) hx) (Ev.now _)) (Ev.now _)
      · simp only [h, if_true, within_tells, Option.bind_some, decide_eq_true hy, if_neg (show ¬ c = 0 by omega), tmod_nn hy.1]
        exact Ev.bind (contains_ev l (y % c) hx) (Ev.now _)
    · rw [decide_eq_false hy, Bool.and_false, Bool.false_and]
      refine ⟨Ev.bind (l11Calendar_ev c cm l hx) ?_, Ev.bind (implValid_ev c cm l hx) ?_⟩
      · simp only [h, if_true, year_tells, Option.bind_some, decide_eq_false hy, Bool.false_eq_true, if_false]
        exact Ev.now _
      · simp only [h, if_true, within_tells, Option.bind_some, decide_eq_false hy, Bool.false_eq_true, if_false]
        exact Ev.now _
  · have h' : validCal c cm l = false := by simpa using h
    rw [h', Bool.false_and, Bool.false_and]
    refine ⟨Ev.bind (l11Calendar_ev c cm l hx) ?_, Ev.bind (implValid_ev c cm l hx) ?_⟩ <;>
    · simp only [h', Bool.false_eq_true, if_false]
      exact Ev.now _
def daysOf (c cm : Int) (l : List Int) (y : Int) : Int × Bool := if validCal c cm l = true ∧ 0 ≤ y ∧ y ≤ 100000 then (db c cm l y, true) else (0, false)
theorem days_both (c cm : Int) (l : List Int) (y : Int) (hx : l.length ≤ 1048576) :
    Ev (fun k => spec_DaysBefore.f k c cm l y) (daysOf c cm l y) ∧ Ev (fun k => impl_DaysBefore.f k c cm l y) (daysOf c cm l y) := by
  unfold spec_DaysBefore.f impl_DaysBefore.f daysOf
  by_cases h : validCal c cm l = true
  · have b := valid_bd h
    by_cases hy : 0 ≤ y ∧ y ≤ 100000
    · rw [if_pos ⟨h, hy⟩]
      refine ⟨Ev.bind (l11Calendar_ev c cm l hx) ?_, Ev.bind (implValid_ev c cm l hx) ?_⟩
      · simp only [h, if_true, year_tells, Option.bind_some, decide_eq_true hy]
        exact Ev.bind (l11Before_ev (by omega) (by omega) hx y hy) (Ev.now _)
      · simp only [h, if_true, within_tells, Option.bind_some, decide_eq_true hy]
        exact Ev.bind (daysBefore_ev (by omega) (by omega) hx y hy) (Ev.now _)
    · rw [if_neg (fun e => hy e.2)]
      refine ⟨Ev.bind (l11Calendar_ev c cm l hx) ?_, Ev.bind (implValid_ev c cm l hx) ?_⟩
      · simp only [h, if_true, year_tells, Option.bind_some, decide_eq_false hy, Bool.false_eq_true, if_false]
        exact Ev.now _
      · simp only [h, if_true, within_tells, Option.bind_some, decide_eq_false hy, Bool.false_eq_true, if_false]
        exact Ev.now _
  · have h' : validCal c cm l = false := by simpa using h
    rw [if_neg (fun e => h e.1)]
    refine ⟨Ev.bind (l11Calendar_ev c cm l hx) ?_, Ev.bind (implValid_ev c cm l hx) ?_⟩ <;>
    · simp only [h', Bool.false_eq_true, if_false]
      exact Ev.now _

/-! ### The greatest common divisor -/
theorem gcd_both (d : Nat) : ∀ (m n : Nat), n ≤ d → m ≤ 1000000000000 → n ≤ 1000000000000 →
    Ev (fun k => impl_divisor.l0 k (m : Int) (n : Int)) ((Nat.gcd m n : Nat) : Int) ∧ Ev (fun k => spec_l07Gcd.l0 k (m : Int) (n : Int)) ((Nat.gcd m n : Nat) : Int) := by
  induction d with
  | zero =>
    intro m n h hm hn
    obtain rfl : n = 0 := by omega
    rw [Nat.gcd_zero_right]
    constructor
    · refine Ev.step (fun k => by rw [impl_divisor.l0]) ?_
      simp only [show ((0 : Nat) : Int) = 0 from rfl, if_true]
      rw [w64 (by omega) (by omega)]
      rw [show mx (m : Int) (-(m : Int)) = (m : Int) from by unfold mx; rw [if_neg (by omega)]]
      exact Ev.now _
    · refine Ev.step (fun k => by rw [spec_l07Gcd.l0]) ?_
      simp only [if_neg (show ¬ ((0 : Nat) : Int) > 0 by omega)]
      exact Ev.now _
  | succ d ih =>
    intro m n h hm hn
    by_cases e : n = 0
    · subst e
      exact ih m 0 (by omega) hm hn
    have lt : m % n < n := Nat.mod_lt _ (by omega)
    have := ih n (m % n) (by omega) hn (by omega)
    have e2 : Int.tmod (m : Int) (n : Int) = ((m % n : Nat) : Int) := by rw [tmod_nn (by omega)]; rfl
    rw [show Nat.gcd m n = Nat.gcd n (m % n) from by rw [Nat.gcd_comm m n, Nat.gcd_rec n m, Nat.gcd_comm]]
    constructor
    · refine Ev.step (fun k => by rw [impl_divisor.l0]) ?_
      simp only [if_neg (show ¬ (n : Int) = 0 by omega), e2]
      exact this.1
    · refine Ev.step (fun k => by rw [spec_l07Gcd.l0]) ?_
      simp only [if_pos (show (n : Int) > 0 by omega), if_neg (show ¬ (n : Int) = 0 by omega), e2]
      exact this.2
theorem gcd_int (a b : Int) (ha : 0 ≤ a ∧ a ≤ 1000000000000) (hb : 0 ≤ b ∧ b ≤ 1000000000000) :
    Ev (fun k => impl_divisor.f k a b) ((Int.gcd a b : Nat) : Int) ∧ Ev (fun k => spec_l07Gcd.f k a b) ((Int.gcd a b : Nat) : Int) := by
  have := gcd_both b.toNat a.toNat b.toNat (Nat.le_refl _) (by omega) (by omega)
  rw [Int.toNat_of_nonneg ha.1, Int.toNat_of_nonneg hb.1] at this
  have e : Int.gcd a b = Nat.gcd a.toNat b.toNat := by
    unfold Int.gcd
    rw [show a.natAbs = a.toNat by omega, show b.natAbs = b.toNat by omega]
  rw [e]
  exact this
def meanOf (c cm : Int) (l : List Int) : Int × Int × Bool := if validCal c cm l = true then (db c cm l c / (Int.gcd (db c cm l c) c : Int), c / (Int.gcd (db c cm l c) c : Int), true) else (0, 0, false)
theorem mean_both (c cm : Int) (l : List Int) (hx : l.length ≤ 1048576) : Ev (fun k => spec_MeanYear.f k c cm l) (meanOf c cm l) ∧ Ev (fun k => impl_MeanYear.f k c cm l) (meanOf c cm l) := by
  unfold spec_MeanYear.f impl_MeanYear.f meanOf
  by_cases h : validCal c cm l = true
  · have b := valid_bd h
    have d := db_bd (c := c) (cm := cm) (l := l) (by omega) (by omega) hx c (by omega)
    obtain ⟨g1, g2⟩ := gcd_int (db c cm l c) c (by omega) (by omega)
    have gp : 0 < ((Int.gcd (db c cm l c) c : Nat) : Int) := by
      have : 0 < Int.gcd (db c cm l c) c := Int.gcd_pos_of_ne_zero_right _ (by omega)
      omega
    have q1 : 0 ≤ db c cm l c / (Int.gcd (db c cm l c) c : Int) := Int.ediv_nonneg d.1 (by omega)
    have q2 : db c cm l c / (Int.gcd (db c cm l c) c : Int) ≤ db c cm l c := Int.ediv_le_self _ d.1
    have q3 : 0 ≤ c / (Int.gcd (db c cm l c) c : Int) := Int.ediv_nonneg (by omega) (by omega)
    have q4 : c / (Int.gcd (db c cm l c) c : Int) ≤ c := Int.ediv_le_self _ (by omega)
    rw [if_pos h]
    refine ⟨Ev.bind (l11Calendar_ev c cm l hx) ?_, Ev.bind (implValid_ev c cm l hx) ?_⟩
    · simp only [h, if_true]
      refine Ev.bind (l11Before_ev (by omega) (by omega) hx c (by omega)) (Ev.bind g2 ?_)
      simp only [if_neg (show ¬ ((Int.gcd (db c cm l c) c : Nat) : Int) = 0 by omega), tdiv_nn d.1, tdiv_nn (show 0 ≤ c by omega)]
      rw [w64 (by omega) (by omega), w64 (by omega) (by omega)]
      exact Ev.now _
    · simp only [h, if_true]
      refine Ev.bind (daysBefore_ev (by omega) (by omega) hx c (by omega)) ?_
      unfold impl_worth_lowest.f
      refine Ev.bind (a := (db c cm l c / (Int.gcd (db c cm l c) c : Int), c / (Int.gcd (db c cm l c) c : Int))) (Ev.bind g1 ?_) (Ev.now _)
      simp only [if_neg (show ¬ ((Int.gcd (db c cm l c) c : Nat) : Int) = 0 by omega), tdiv_nn d.1, tdiv_nn (show 0 ≤ c by omega)]
      rw [w64 (by omega) (by omega), w64 (by omega) (by omega)]
      exact Ev.now _
  · have h' : validCal c cm l = false := by simpa using h
    rw [if_neg h]
    refine ⟨Ev.bind (l11Calendar_ev c cm l hx) ?_, Ev.bind (implValid_ev c cm l hx) ?_⟩ <;>
    · simp only [h', Bool.false_eq_true, if_false]
      exact Ev.now _

/-! ### Drift -/
def gr (l : List Int) : Int := l.foldl (fun s x => mx (mx s x) (-x)) 0
theorem gr_snoc (l : List Int) (x : Int) : gr (l ++ [x]) = mx (mx (gr l) x) (-x) := by unfold gr; rw [List.foldl_append]; rfl
theorem gr_bd (B : Int) (hB : 0 ≤ B) (l : List Int) (h : ∀ x ∈ l, -B ≤ x ∧ x ≤ B) : 0 ≤ gr l ∧ gr l ≤ B := by
  have key : ∀ (l : List Int) (s : Int), 0 ≤ s ∧ s ≤ B → (∀ x ∈ l, -B ≤ x ∧ x ≤ B) → 0 ≤ l.foldl (fun s x => mx (mx s x) (-x)) s ∧ l.foldl (fun s x => mx (mx s x) (-x)) s ≤ B := by
    intro l
    induction l with
    | nil => intro s hs _; exact hs
    | cons x r ih =>
      intro s hs h
      have := h x List.mem_cons_self
      rw [List.foldl_cons]
      refine ih _ ?_ (fun y hy => h y (List.mem_cons_of_mem _ hy))
      unfold mx
      split <;> split <;> omega
  exact key l 0 (by omega) h
theorem greatest_ev (l : List Int) (hx : l.length ≤ 1048576) (hb : ∀ x ∈ l, -9223372036854775807 ≤ x ∧ x ≤ 9223372036854775807) : Ev (fun k => impl_greatest.f k l) (gr l) := by
  unfold impl_greatest.f
  have gen := ev_fold l (fun m s k => impl_greatest.l0 k s l (l.length : Int) (m : Int)) (fun r s => r.foldl (fun s x => mx (mx s x) (-x)) s) (fun m s => True) ?_ ?_ 0 0 (by omega) trivial
  · simpa [gr] using gen
  · intro s hs
    refine Ev.step (fun k => by rw [impl_greatest.l0]) ?_
    simp only [if_neg (show ¬ (l.length : Int) < (l.length : Int) by omega)]
    exact Ev.now _
  · intro m h s hs ih
    have b := hb l[m] (List.getElem_mem h)
    refine Ev.step (fun k => by rw [impl_greatest.l0]) ?_
    simp only [if_pos (show (m : Int) < (l.length : Int) by omega), if_pos (show 0 ≤ (m : Int) by omega), rd_nat h, w_succ (m := m) (by omega)]
    rw [w64 (x := -l[m]) (by omega) (by omega), List.foldl_cons]
    exact ih _ trivial
section
variable {c cm : Int} {l : List Int} (hc : 1 ≤ c ∧ c ≤ 400) (hm : 1 ≤ cm ∧ cm ≤ 1000) (hx : l.length ≤ 1048576) (num den : Int) (hn : 0 ≤ num ∧ num ≤ 1000000) (hd : 1 ≤ den ∧ den ≤ 1000)
include hc hm hx hn hd
def drifts (c cm : Int) (l : List Int) (num den : Int) (n : Nat) : List Int := (List.range n).map fun (i : Nat) => den * db c cm l (i : Int) - (i : Int) * num
theorem drift_bd (i : Int) (hi : 0 ≤ i ∧ i ≤ 401) : 0 ≤ den * db c cm l i ∧ den * db c cm l i ≤ 200000000000000 ∧ 0 ≤ i * num ∧ i * num ≤ 401000000 := by
  have a := db_bd hc hm hx i (by omega)
  have b := mul_bd (show 0 ≤ den by omega) hd.2 a.1 a.2
  have d := mul_bd hi.1 hi.2 hn.1 hn.2
  omega
theorem drifts_bd (n : Nat) (h : n ≤ 402) : ∀ x ∈ drifts c cm l num den n, -400000000000000 ≤ x ∧ x ≤ 400000000000000 := by
  intro x hx'
  unfold drifts at hx'
  obtain ⟨i, hi, rfl⟩ := List.mem_map.1 hx'
  have := drift_bd hc hm hx num den hn hd (i : Int) (by have := List.mem_range.1 hi; omega)
  omega
theorem drifts_succ (n : Nat) : drifts c cm l num den (n + 1) = drifts c cm l num den n ++ [den * db c cm l (n : Int) - (n : Int) * num] := by
  unfold drifts
  rw [List.range_succ, List.map_append]
  rfl
theorem implDrift_ev : Ev (fun k => impl_DriftOf.l0 k num den [] (c + 1) 0 c cm l) (gr (drifts c cm l num den (c.toNat + 1)), true) := by
  have gen := ev_count (c.toNat + 1) (fun m s k => impl_DriftOf.l0 k num den s (c + 1) (m : Int) c cm l) (gr (drifts c cm l num den (c.toNat + 1)), true) (fun m s => s = drifts c cm l num den m) ?_ ?_ 0 [] (by omega) rfl
  · exact gen
  · intro s hs
    subst hs
    refine Ev.step (fun k => by rw [impl_DriftOf.l0]) ?_
    simp only [if_neg (show ¬ ((c.toNat + 1 : Nat) : Int) < c + 1 by omega)]
    refine Ev.bind (greatest_ev _ (by simp [drifts]; omega) (fun x h => ?_)) (Ev.now _)
    have := drifts_bd hc hm hx num den hn hd (c.toNat + 1) (by omega) x h
    omega
  · intro m s hm' hs
    refine ⟨_, rfl, fun ih => ?_⟩
    subst hs
    have b := drift_bd hc hm hx num den hn hd (m : Int) (by omega)
    refine Ev.step (fun k => by rw [impl_DriftOf.l0]) ?_
    simp only [if_pos (show (m : Int) < c + 1 by omega)]
    refine Ev.bind (daysBefore_ev hc hm hx (m : Int) (by omega)) ?_
    simp only [if_pos (show (drifts c cm l num den m).length < 17592186044416 by simp [drifts]; omega), w_succ (m := m) (by omega)]
    rw [w64 (x := den * db c cm l (m : Int)) (by omega) (by omega), w64 (x := (m : Int) * num) (by omega) (by omega), w64 (by omega) (by omega), ← drifts_succ hc hm hx num den hn hd]
    exact ih
theorem specDrift_ev : Ev (fun k => spec_DriftOf.l0 k num den 0 0 c cm l) (gr (drifts c cm l num den (c.toNat + 1)), true) := by
  have gen := ev_count (c.toNat + 1) (fun m s k => spec_DriftOf.l0 k num den s (m : Int) c cm l) (gr (drifts c cm l num den (c.toNat + 1)), true) (fun m s => s = gr (drifts c cm l num den m)) ?_ ?_ 0 0 (by omega) rfl
  · exact gen
  · intro s hs
    subst hs
    refine Ev.step (fun k => by rw [spec_DriftOf.l0]) ?_
    simp only [if_neg (show ¬ ((c.toNat + 1 : Nat) : Int) ≤ c by omega)]
    exact Ev.now _
  · intro m s hm' hs
    refine ⟨_, rfl, fun ih => ?_⟩
    subst hs
    have b := drift_bd hc hm hx num den hn hd (m : Int) (by omega)
    have g := gr_bd 400000000000000 (by omega) _ (drifts_bd hc hm hx num den hn hd m (by omega))
    refine Ev.step (fun k => by rw [spec_DriftOf.l0]) ?_
    simp only [if_pos (show (m : Int) ≤ c by omega)]
    refine Ev.bind (l11Before_ev hc hm hx (m : Int) (by omega)) ?_
    simp only [w_succ (m := m) (by omega)]
    rw [w64 (x := den * db c cm l (m : Int)) (by omega) (by omega), w64 (x := (m : Int) * num) (by omega) (by omega), w64 (x := den * db c cm l (m : Int) - (m : Int) * num) (by omega) (by omega), w64 (by omega) (by omega)]
    rw [drifts_succ hc hm hx num den hn hd, gr_snoc] at ih
    generalize den * db c cm l (m : Int) - (m : Int) * num = x at ih b ⊢
    generalize gr (drifts c cm l num den m) = s at ih g ⊢
    refine ev_bind' (a := if x > -x then x else -x) (by unfold spec_l00Max.f; split <;> rfl) (ev_bind' (a := mx (mx s x) (-x)) ?_ ih)
    unfold spec_l00Max.f mx
    congr 1
    repeat' split
    all_goals first | rfl | (congr 1; omega) | omega
end
def driftOf (c cm : Int) (l : List Int) (num den : Int) : Int × Bool := if validCal c cm l = true ∧ (1 ≤ den ∧ den ≤ 1000) ∧ (0 ≤ num ∧ num ≤ 1000000) then (gr (drifts c cm l num den (c.toNat + 1)), true) else (0, false)
theorem drift_both (c cm : Int) (l : List Int) (num den : Int) (hx : l.length ≤ 1048576) : Ev (fun k => spec_DriftOf.f k c cm l num den) (driftOf c cm l num den) ∧ Ev (fun k => impl_DriftOf.f k c cm l num den) (driftOf c cm l num den) := by
  unfold spec_DriftOf.f impl_DriftOf.f driftOf
  have j1 : Ev (fun k => spec_DriftOf.j0 k num den true c cm l) (0, false) := Ev.step (fun k => by rw [spec_DriftOf.j0]) (by simp only [if_true]; exact Ev.now _)
  have j2 : Ev (fun k => impl_DriftOf.j0 k num den true c cm l) (0, false) := Ev.step (fun k => by rw [impl_DriftOf.j0]) (by simp only [if_true]; exact Ev.now _)
  by_cases h : validCal c cm l = true
  · have b := valid_bd h
    by_cases hd : 1 ≤ den ∧ den ≤ 1000
    · by_cases hn : 0 ≤ num ∧ num ≤ 1000000
      · rw [if_pos ⟨h, hd, hn⟩]
        refine ⟨Ev.bind (l11Calendar_ev c cm l hx) ?_, Ev.bind (implValid_ev c cm l hx) ?_⟩
        · simp only [h, if_true, in_tells, Option.bind_some, decide_eq_true hd, decide_eq_true hn, Bool.not_true]
          refine Ev.step (fun k => by rw [spec_DriftOf.j0]) ?_
          simp only [Bool.false_eq_true, if_false]
          exact specDrift_ev (by omega) (by omega) hx num den hn hd
        · simp only [h, if_true, within_tells, Option.bind_some, decide_eq_true hd, decide_eq_true hn, Bool.not_true]
          refine Ev.step (fun k => by rw [impl_DriftOf.j0]) ?_
          simp only [Bool.false_eq_true, if_false]
          rw [w64 (by omega) (by omega)]
          exact implDrift_ev (by omega) (by omega) hx num den hn hd
      · rw [if_neg (fun e => hn e.2.2)]
        refine ⟨Ev.bind (l11Calendar_ev c cm l hx) ?_, Ev.bind (implValid_ev c cm l hx) ?_⟩
        · simp only [h, if_true, in_tells, Option.bind_some, decide_eq_true hd, decide_eq_false hn, Bool.not_false]
          exact j1
        · simp only [h, if_true, within_tells, Option.bind_some, decide_eq_true hd, decide_eq_false hn, Bool.not_false]
          exact j2
    · rw [if_neg (fun e => hd e.2.1)]
      refine ⟨Ev.bind (l11Calendar_ev c cm l hx) ?_, Ev.bind (implValid_ev c cm l hx) ?_⟩
      · simp only [h, if_true, in_tells, Option.bind_some, decide_eq_false hd, Bool.false_eq_true, if_false]
        exact j1
      · simp only [h, if_true, within_tells, Option.bind_some, decide_eq_false hd, Bool.false_eq_true, if_false]
        exact j2
  · have h' : validCal c cm l = false := by simpa using h
    rw [if_neg (fun e => h e.1)]
    refine ⟨Ev.bind (l11Calendar_ev c cm l hx) ?_, Ev.bind (implValid_ev c cm l hx) ?_⟩
    · simp only [h', Bool.false_eq_true, if_false]
      exact j1
    · simp only [h', Bool.false_eq_true, if_false]
      exact j2

/-! ### The year of a day -/
section
variable {c cm : Int} {l : List Int} (hc : 1 ≤ c ∧ c ≤ 400) (hm : 1 ≤ cm ∧ cm ≤ 1000) (hx : l.length ≤ 1048576) (day : Int)
include hc hm hx
def IsYear (c cm : Int) (l : List Int) (day y : Int) : Prop := 0 ≤ y ∧ y < 100000 ∧ db c cm l y ≤ day ∧ day < db c cm l (y + 1)
theorem IsYear.uniq {y z : Int} (h : IsYear c cm l day y) (g : IsYear c cm l day z) : y = z := by
  obtain ⟨h1, h2, h3, h4⟩ := h
  obtain ⟨g1, g2, g3, g4⟩ := g
  rcases Int.lt_trichotomy y z with q | q | q
  · by_cases e : y + 1 = z
    · subst e; omega
    · have := db_lt hc hm hx (y := y + 1) (z := z) (by omega) (by omega); omega
  · exact q
  · by_cases e : z + 1 = y
    · subst e; omega
    · have := db_lt hc hm hx (y := z + 1) (z := y) (by omega) (by omega); omega
theorem implYear_ev (d : Nat) : ∀ lo hi : Int, 0 ≤ lo → lo < hi → hi ≤ 100000 → hi - lo ≤ d → db c cm l lo ≤ day → day < db c cm l hi → ∃ y, IsYear c cm l day y ∧ Ev (fun k => impl_YearOf.l0 k day lo hi c cm l) (y, day - db c cm l y, true) := by
  induction d with
  | zero => intro lo hi h1 h2 h3 h4 h5 h6; omega
  | succ d ih =>
    intro lo hi h1 h2 h3 h4 h5 h6
    have b1 := db_bd hc hm hx lo (by omega)
    have b2 := db_bd hc hm hx hi (by omega)
    by_cases g : hi - lo > 1
    · have m1 : lo < (lo + hi) / 2 := by omega
      have m2 : (lo + hi) / 2 < hi := by omega
      by_cases t : db c cm l ((lo + hi) / 2) ≤ day
      · obtain ⟨y, hy, he⟩ := ih ((lo + hi) / 2) hi (by omega) m2 h3 (by omega) t h6
        refine ⟨y, hy, Ev.step (fun k => by rw [impl_YearOf.l0]) ?_⟩
        rw [w64 (x := hi - lo) (by omega) (by omega), w64 (x := lo + hi) (by omega) (by omega), tdiv_nn (show 0 ≤ lo + hi by omega), w64 (x := (lo + hi) / 2) (by omega) (by omega)]
        simp only [if_pos g]
        refine Ev.bind (daysBefore_ev hc hm hx ((lo + hi) / 2) (by omega)) ?_
        simp only [if_pos t]
        exact he
      · obtain ⟨y, hy, he⟩ := ih lo ((lo + hi) / 2) (by omega) m1 (by omega) (by omega) h5 (by omega)
        refine ⟨y, hy, Ev.step (fun k => by rw [impl_YearOf.l0]) ?_⟩
        rw [w64 (x := hi - lo) (by omega) (by omega), w64 (x := lo + hi) (by omega) (by omega), tdiv_nn (show 0 ≤ lo + hi by omega), w64 (x := (lo + hi) / 2) (by omega) (by omega)]
        simp only [if_pos g]
        refine Ev.bind (daysBefore_ev hc hm hx ((lo + hi) / 2) (by omega)) ?_
        simp only [if_neg t]
        exact he
    · obtain rfl : hi = lo + 1 := by omega
      refine ⟨lo, ⟨h1, by omega, h5, h6⟩, Ev.step (fun k => by rw [impl_YearOf.l0]) ?_⟩
      rw [w64 (x := lo + 1 - lo) (by omega) (by omega)]
      simp only [if_neg g]
      refine Ev.bind (daysBefore_ev hc hm hx lo (by omega)) ?_
      rw [w64 (by omega) (by omega)]
      exact Ev.now _
theorem specYear_ev (d : Nat) : ∀ lo hi : Int, 0 ≤ lo → lo ≤ hi → hi < 100000 → hi - lo ≤ d → db c cm l lo ≤ day → day < db c cm l (hi + 1) → ∃ y, IsYear c cm l day y ∧ Ev (fun k => spec_YearOf.l0 k day lo hi c cm l) (y, day - db c cm l y, true) := by
  induction d with
  | zero =>
    intro lo hi h1 h2 h3 h4 h5 h6
    obtain rfl : hi = lo := by omega
    have b1 := db_bd hc hm hx hi (by omega)
    have b2 := db_bd hc hm hx (hi + 1) (by omega)
    refine ⟨hi, ⟨h1, by omega, h5, h6⟩, Ev.step (fun k => by rw [spec_YearOf.l0]) ?_⟩
    simp only [if_neg (show ¬ hi < hi by omega)]
    refine Ev.bind (l11Before_ev hc hm hx hi (by omega)) ?_
    rw [w64 (by omega) (by omega)]
    exact Ev.now _
  | succ d ih =>
    intro lo hi h1 h2 h3 h4 h5 h6
    have b1 := db_bd hc hm hx lo (by omega)
    have b2 := db_bd hc hm hx (hi + 1) (by omega)
    by_cases g : lo < hi
    · have m1 : lo < (lo + hi + 1) / 2 := by omega
      have m2 : (lo + hi + 1) / 2 ≤ hi := by omega
      by_cases t : db c cm l ((lo + hi + 1) / 2) ≤ day
      · obtain ⟨y, hy, he⟩ := ih ((lo + hi + 1) / 2) hi (by omega) m2 h3 (by omega) t h6
        refine ⟨y, hy, Ev.step (fun k => by rw [spec_YearOf.l0]) ?_⟩
        rw [w64 (x := lo + hi) (by omega) (by omega), w64 (x := lo + hi + 1) (by omega) (by omega), tdiv_nn (show 0 ≤ lo + hi + 1 by omega), w64 (x := (lo + hi + 1) / 2) (by omega) (by omega)]
        simp only [if_pos g]
        refine Ev.bind (l11Before_ev hc hm hx ((lo + hi + 1) / 2) (by omega)) ?_
        simp only [if_pos t]
        exact he
      · obtain ⟨y, hy, he⟩ := ih lo ((lo + hi + 1) / 2 - 1) (by omega) (by omega) (by omega) (by omega) h5 (by rw [Int.sub_add_cancel]; omega)
        refine ⟨y, hy, Ev.step (fun k => by rw [spec_YearOf.l0]) ?_⟩
        rw [w64 (x := lo + hi) (by omega) (by omega), w64 (x := lo + hi + 1) (by omega) (by omega), tdiv_nn (show 0 ≤ lo + hi + 1 by omega), w64 (x := (lo + hi + 1) / 2) (by omega) (by omega), w64 (x := (lo + hi + 1) / 2 - 1) (by omega) (by omega)]
        simp only [if_pos g]
        refine Ev.bind (l11Before_ev hc hm hx ((lo + hi + 1) / 2) (by omega)) ?_
        simp only [if_neg t]
        exact he
    · exact ih lo hi h1 h2 h3 (by omega) h5 h6
end
theorem year_both (c cm : Int) (l : List Int) (day : Int) (hx : l.length ≤ 1048576) (hw : -9223372036854775808 ≤ day ∧ day ≤ 9223372036854775807) :
    ∃ r, Ev (fun k => spec_YearOf.f k c cm l day) r ∧ Ev (fun k => impl_YearOf.f k c cm l day) r ∧
      (validCal c cm l = true → 0 ≤ day → day < db c cm l 100000 → ∃ y, IsYear c cm l day y ∧ r = (y, day - db c cm l y, true)) := by
  have j1 : Ev (fun k => spec_YearOf.j0 k day true c cm l) (0, 0, false) := Ev.step (fun k => by rw [spec_YearOf.j0]) (by simp only [if_true]; exact Ev.now _)
  have j2 : Ev (fun k => impl_YearOf.j0 k day true c cm l) (0, 0, false) := Ev.step (fun k => by rw [impl_YearOf.j0]) (by simp only [if_true]; exact Ev.now _)
  unfold spec_YearOf.f impl_YearOf.f
  by_cases h : validCal c cm l = true
  · have b := valid_bd h
    have bm := db_bd (c := c) (cm := cm) (l := l) (by omega) (by omega) hx 100000 (by omega)
    have b0 := db_bd (c := c) (cm := cm) (l := l) (by omega) (by omega) hx 0 (by omega)
    have z : db c cm l 0 = cntLt 0 l := by unfold db; rw [Int.zero_mul, Int.zero_ediv, Int.zero_mul, Int.zero_emod]; omega
    by_cases hd : 0 ≤ day ∧ day < db c cm l 100000
    · have hz : db c cm l 0 ≤ day := by
        rw [z]
        have : cntLt 0 l = 0 := by
          unfold validCal rises at h
          simp only [Bool.and_eq_true] at h
          have key : ∀ (r : List Int) (p : Option Int), risesFrom 0 (c - 1) p r = true → cntLt 0 r = 0 := by
            intro r
            induction r with
            | nil => intro p _; rfl
            | cons x r ih =>
              intro p hp
              unfold risesFrom at hp
              simp only [Bool.and_eq_true, decide_eq_true_eq] at hp
              unfold cntLt
              rw [if_neg (by omega), ih _ hp.2]
              rfl
          exact key l none h.2
        omega
      obtain ⟨y, hy, he⟩ := implYear_ev (c := c) (cm := cm) (l := l) (by omega) (by omega) hx day 100000 0 100000 (by omega) (by omega) (by omega) (by omega) hz hd.2
      obtain ⟨y', hy', he'⟩ := specYear_ev (c := c) (cm := cm) (l := l) (by omega) (by omega) hx day 100000 0 99999 (by omega) (by omega) (by omega) (by omega) hz hd.2
      obtain rfl := IsYear.uniq (c := c) (cm := cm) (l := l) (by omega) (by omega) hx day hy hy'
      refine ⟨(y, day - db c cm l y, true), Ev.bind (l11Calendar_ev c cm l hx) ?_, Ev.bind (implValid_ev c cm l hx) ?_, fun _ _ _ => ⟨y, hy, rfl⟩⟩
      · simp only [h, if_true, if_neg (show ¬ day < 0 by omega)]
        refine Ev.bind (l11Before_ev (by omega) (by omega) hx 100000 (by omega)) ?_
        rw [decide_eq_false (by omega)]
        refine Ev.step (fun k => by rw [spec_YearOf.j0]) ?_
        simp only [Bool.false_eq_true, if_false]
        exact he'
      · simp only [h, if_true]
        refine Ev.bind (daysBefore_ev (by omega) (by omega) hx 100000 (by omega)) ?_
        rw [w64 (x := db c cm l 100000 - 1) (by omega) (by omega)]
        simp only [within_tells, Option.bind_some, decide_eq_true (show 0 ≤ day ∧ day ≤ db c cm l 100000 - 1 by omega), Bool.not_true]
        refine Ev.step (fun k => by rw [impl_YearOf.j0]) ?_
        simp only [Bool.false_eq_true, if_false]
        exact he
    · refine ⟨(0, 0, false), Ev.bind (l11Calendar_ev c cm l hx) ?_, Ev.bind (implValid_ev c cm l hx) ?_, fun _ q1 q2 => absurd ⟨q1, q2⟩ hd⟩
      · simp only [h, if_true]
        by_cases hn : day < 0
        · simp only [if_pos hn]
          exact j1
        · simp only [if_neg hn]
          refine Ev.bind (l11Before_ev (by omega) (by omega) hx 100000 (by omega)) ?_
          rw [decide_eq_true (by omega)]
          exact j1
      · simp only [h, if_true]
        refine Ev.bind (daysBefore_ev (by omega) (by omega) hx 100000 (by omega)) ?_
        rw [w64 (x := db c cm l 100000 - 1) (by omega) (by omega)]
        simp only [within_tells, Option.bind_some, decide_eq_false (show ¬ (0 ≤ day ∧ day ≤ db c cm l 100000 - 1) by omega), Bool.not_false]
        exact j2
  · have h' : validCal c cm l = false := by simpa using h
    refine ⟨(0, 0, false), Ev.bind (l11Calendar_ev c cm l hx) ?_, Ev.bind (implValid_ev c cm l hx) ?_, fun q => absurd q h⟩
    · simp only [h', Bool.false_eq_true, if_false]
      exact j1
    · simp only [h', Bool.false_eq_true, if_false]
      exact j2
end Go.Proofs.Ytjeidmbggdgggaa.Com
