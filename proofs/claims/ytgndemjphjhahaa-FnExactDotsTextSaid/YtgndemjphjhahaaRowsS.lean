/- Rows of rows of numbers: their size, a copy, the same, on the laws' side. -/
import Derived.Test.YtgndemjphjhahaaSame
import Derived.Test.YtgndemjphjhahaaWithin
import Derived.Test.YtgndemjphjhahaaQ0
import Derived.Test.YtgndemjphjhahaaQ18
import Derived.Test.YtgndemjphjhahaaQ23
import Derived.Test.YtgndemjphjhahaaQ25
import Derived.Test.YtgndemjphjhahaaQ28
import Derived.Test.YtgndemjphjhahaaQ32
namespace Go.Proofs.Ytgndemjphjhahaa.Com
set_option linter.unusedSimpArgs false
set_option linter.unusedVariables false
set_option linter.unusedSectionVars false
open Go.RowKit Go.Proofs.YtgndemjphjhahaaW.PrintWords Go.Proofs.YtgndemjphjhahaaW.PrintMore Go.Proofs.Ytgndemjphjhahaa.Q

theorem rdr_nat {xs : List (List Int)} {m : Nat} (h : m < xs.length) : rd_L3 xs (m : Int) = xs[m] := by
  unfold rd_L3
  rw [Int.toNat_natCast, List.getD_eq_getElem?_getD, List.getElem?_eq_getElem h]
  rfl
theorem setr_take (xs : List (List Int)) (m : Nat) (h : m < xs.length) : (xs.take m ++ List.replicate (xs.length - m) []).set m xs[m] = xs.take (m + 1) ++ List.replicate (xs.length - (m + 1)) [] := by
  have hl : (xs.take m).length = m := by rw [List.length_take]; omega
  rw [List.set_append_right _ _ (by omega), hl, Nat.sub_self]
  obtain ⟨q, hq⟩ : ∃ q, xs.length - m = q + 1 := ⟨xs.length - m - 1, by omega⟩
  rw [hq, List.replicate_succ, List.set_cons_zero, show xs.length - (m + 1) = q by omega, List.take_succ_eq_append_getElem h, List.append_assoc]
  rfl
theorem toInt64SS_ev (xs : List (List Int)) (hx : xs.length ≤ 1048576) (hr : ∀ x ∈ xs, x.length ≤ 1048576) : Ev (fun k => laws_toInt64SS.f k xs) xs := by
  unfold laws_toInt64SS.f
  simp only [if_pos (show 0 ≤ (xs.length : Int) by omega), if_pos (show ((xs.length : Int)).toNat ≤ 11728124029610 by omega)]
  have := ev_count xs.length (fun m s k => laws_toInt64SS.l0 k xs s (m : Int)) xs (fun m s => s = xs.take m ++ List.replicate (xs.length - m) []) (fun s hs => ?_) (fun m s hm hs => ⟨xs.take (m + 1) ++ List.replicate (xs.length - (m + 1)) [], rfl, fun ih => ?_⟩) 0 (List.replicate xs.length []) (by omega) (by simp)
  · simpa using this
  · refine Ev.step (fun k => by rw [laws_toInt64SS.l0]) ?_
    simp only [if_neg (show ¬ (xs.length : Int) < (xs.length : Int) by omega)]
    subst hs
    simp
    exact Ev.now _
  · refine Ev.step (fun k => by rw [laws_toInt64SS.l0]) ?_
    subst hs
    have hl : (xs.take m ++ List.replicate (xs.length - m) []).length = xs.length := by simp; omega
    simp only [if_pos (show (m : Int) < (xs.length : Int) by omega), if_pos (show 0 ≤ (m : Int) by omega), hl, rdr_nat hm, w_succ (m := m) (by omega)]
    refine Ev.bind (toInt64S_ev xs[m] (hr _ (List.getElem_mem hm))) ?_
    simp only [Int.toNat_natCast, setr_take xs m hm]
    exact ih
theorem eqInt64SS_ev (xs : List (List Int)) (hx : xs.length ≤ 1048576) (hr : ∀ x ∈ xs, x.length ≤ 1048576) : Ev (fun k => laws_eqInt64SS.f k xs xs) true := by
  unfold laws_eqInt64SS.f
  simp only [if_true]
  have gen := ev_list xs (fun m k => laws_eqInt64SS.l0 k xs xs (m : Int)) (fun _ => true) ?_ ?_ 0 (by omega)
  · exact gen
  · refine Ev.step (fun k => by rw [laws_eqInt64SS.l0]) ?_
    simp only [if_neg (show ¬ (xs.length : Int) < (xs.length : Int) by omega)]
    exact Ev.now _
  · intro m hm ih
    refine Ev.step (fun k => by rw [laws_eqInt64SS.l0]) ?_
    simp only [if_pos (show (m : Int) < (xs.length : Int) by omega), if_pos (show 0 ≤ (m : Int) by omega), rdr_nat hm, w_succ (m := m) (by omega)]
    refine Ev.bind (eqInt64S_ev xs[m] xs[m] (hr _ (List.getElem_mem hm))) ?_
    simp only [decide_true, if_true]
    exact ih
def szr (a : Int) : List (List Int) → Int
  | [] => a
  | x :: r => if a - x.length < 0 then -1 else szr (a - x.length) r
theorem szr_tells (l : List (List Int)) : ∀ a, a ≤ 1048576 → 0 ≤ szr a l → ∀ x ∈ l, x.length ≤ 1048576 := by
  induction l with
  | nil => intro a _ _ x hx; simp at hx
  | cons y r ih =>
    intro a ha h x hx
    unfold szr at h
    split at h
    · omega
    · rcases List.mem_cons.1 hx with rfl | hx
      · omega
      · exact ih _ (by omega) h x hx
theorem szr_ge (l : List (List Int)) : ∀ a, 0 ≤ a → -1 ≤ szr a l := by
  induction l with
  | nil => intro a h; unfold szr; omega
  | cons y r ih =>
    intro a h
    unfold szr
    split
    · omega
    · exact ih _ (by omega)
theorem szInt64SS_ev (l : List (List Int)) (hl : l.length ≤ maxLen) (hr : ∀ x ∈ l, x.length ≤ maxLen) : ∃ t, Ev (fun k => laws_szInt64SS.f k l 1048576) t ∧ (t = -1 ∨ (0 ≤ t ∧ l.length ≤ 1048576 ∧ ∀ x ∈ l, x.length ≤ 1048576)) := by
  unfold laws_szInt64SS.f
  have hm : maxLen ≤ 9223372036854775807 := by decide
  rw [w64 (x := 1048576 - (l.length : Int)) (by omega) (by omega)]
  by_cases h : 1048576 - (l.length : Int) < 0
  · refine ⟨-1, ?_, .inl rfl⟩
    simp only [if_pos h]
    exact Ev.now _
  · refine ⟨szr (1048576 - l.length) l, ?_, ?_⟩
    · simp only [if_neg h]
      have gen := ev_fold l (fun m (s : Int) k => laws_szInt64SS.l0 k l s (m : Int)) (fun d s => szr s d) (fun m s => 0 ≤ s ∧ s ≤ 1048576) ?_ ?_ 0 (1048576 - (l.length : Int)) (by omega) ⟨by omega, by omega⟩
      · exact gen
      · intro s _
        refine Ev.step (fun k => by rw [laws_szInt64SS.l0]) ?_
        simp only [if_neg (show ¬ (l.length : Int) < (l.length : Int) by omega)]
        exact Ev.now _
      · rintro m hm s ⟨s0, s1⟩ k
        refine Ev.step (fun k => by rw [laws_szInt64SS.l0]) ?_
        simp only [if_pos (show (m : Int) < (l.length : Int) by omega), if_pos (show 0 ≤ (m : Int) by omega), rdr_nat hm, w_succ (m := m) (by omega), sz_tells l[m] s (hr _ (List.getElem_mem hm)) (by omega), Option.bind_some]
        unfold szr
        by_cases c : s - (l[m].length : Int) < 0
        · simp only [if_pos c, if_pos (show (-1 : Int) < 0 by omega)]
          exact Ev.now _
        · simp only [if_neg c]
          exact k _ ⟨by omega, by omega⟩
    · by_cases c : szr (1048576 - l.length) l < 0
      · have := szr_ge l (1048576 - l.length) (by omega)
        exact .inl (by omega)
      · exact .inr ⟨by omega, by omega, szr_tells l (1048576 - (l.length : Int)) (by omega) (by omega)⟩
/-! ### Rows of one length -/
def rowOk (n : Nat) (b : Int) (x : List Int) : Bool := decide (x.length = n) && x.all fun z => decide (0 ≤ z ∧ z ≤ b)
def rowsForm (b : Int) (l : List (List Int)) : Bool := match l with
  | [] => false
  | y :: _ => decide (l.length ≤ 12) && decide (1 ≤ y.length ∧ y.length ≤ 12) && l.all (rowOk y.length b)
theorem areRows_tells (l : List (List Int)) (b : Int) : impl_areRows.f l b = some (rowsForm b l) := by
  cases l with
  | nil => rfl
  | cons y r =>
    unfold impl_areRows.f rowsForm
    simp only
    congr 1
    rw [List.not_any_eq_all_not]
    congr 2
    funext x
    unfold impl_areRows.p rowOk
    by_cases h : x.length = y.length <;> simp [h]
theorem form_ev (l : List (List Int)) (b : Int) (hx : l.length ≤ 1048576) (hr : ∀ x ∈ l, x.length ≤ 1048576) : Ev (fun k => spec_l09Form.f k l b) (rowsForm b l) := by
  have jf : Ev (fun k => spec_l09Form.j0 k l b true) false := Ev.step (fun k => by rw [spec_l09Form.j0]) (by simp only [if_true]; exact Ev.now _)
  unfold spec_l09Form.f
  cases l with
  | nil =>
    simp only [if_pos (show (([] : List (List Int)).length : Int) < 1 by decide)]
    exact jf
  | cons y r =>
    have e0 : rd_L3 (y :: r) 0 = y := rdr_nat (xs := y :: r) (m := 0) (by rw [List.length_cons]; omega)
    have hl : (y :: r).length = r.length + 1 := rfl
    simp only [if_neg (show ¬ ((y :: r).length : Int) < 1 by omega), if_pos (show 0 < ((y :: r).length : Int) by omega), e0]
    have ef : rowsForm b (y :: r) = (decide ((y :: r).length ≤ 12) && decide (1 ≤ y.length ∧ y.length ≤ 12) && (y :: r).all (rowOk y.length b)) := rfl
    by_cases h1 : ((y :: r).length : Int) > 12
    · simp only [if_pos h1]
      rw [ef, decide_eq_false (show ¬ (y :: r).length ≤ 12 by omega), Bool.false_and, Bool.false_and]
      exact jf
    · simp only [if_neg h1]
      rw [ef, decide_eq_true (show (y :: r).length ≤ 12 by omega), Bool.true_and]
      by_cases h2 : (y.length : Int) < 1
      · simp only [if_pos h2]
        rw [decide_eq_false (show ¬ (1 ≤ y.length ∧ y.length ≤ 12) by omega), Bool.false_and]
        exact jf
      · simp only [if_neg h2]
        by_cases h3 : (y.length : Int) > 12
        · rw [decide_eq_true h3, decide_eq_false (show ¬ (1 ≤ y.length ∧ y.length ≤ 12) by omega), Bool.false_and]
          exact jf
        · rw [decide_eq_false h3, decide_eq_true (show 1 ≤ y.length ∧ y.length ≤ 12 by omega), Bool.true_and]
          refine Ev.step (fun k => by rw [spec_l09Form.j0]) ?_
          simp only [Bool.false_eq_true, if_false]
          generalize y :: r = l at hx hr e0 hl h1
          have gen := ev_list l (fun m k => spec_l09Form.l0 k l b (m : Int)) (fun d => d.all (rowOk y.length b)) ?_ ?_ 0 (by omega)
          · exact gen
          · refine Ev.step (fun k => by rw [spec_l09Form.l0]) ?_
            simp only [if_neg (show ¬ (l.length : Int) < (l.length : Int) by omega), List.all_nil]
            exact Ev.now _
          · intro m hm ih
            have hrm := hr _ (List.getElem_mem hm)
            refine Ev.step (fun k => by rw [spec_l09Form.l0]) ?_
            simp only [if_pos (show (m : Int) < (l.length : Int) by omega), if_pos (show 0 ≤ (m : Int) by omega), if_pos (show 0 < (l.length : Int) by omega), rdr_nat hm, e0]
            rw [List.all_cons]
            by_cases q : l[m].length = y.length
            · simp only [if_pos (show (l[m].length : Int) = (y.length : Int) by omega)]
              have er : rowOk y.length b l[m] = l[m].all fun z => decide (0 ≤ z ∧ z ≤ b) := by unfold rowOk; rw [decide_eq_true q, Bool.true_and]
              rw [er]
              have gen := ev_list l[m] (fun j k => spec_l09Form.l1 k l b (m : Int) (j : Int)) (fun d => (d.all fun z => decide (0 ≤ z ∧ z ≤ b)) && (l.drop (m + 1)).all (rowOk y.length b)) ?_ ?_ 0 (by omega)
              · exact gen
              · refine Ev.step (fun k => by rw [spec_l09Form.l1]) ?_
                simp only [if_pos (show (m : Int) < (l.length : Int) by omega), if_pos (show 0 ≤ (m : Int) by omega), rdr_nat hm, if_neg (show ¬ (l[m].length : Int) < (l[m].length : Int) by omega), w_succ (m := m) (by omega), List.all_nil, Bool.true_and]
                exact ih
              · intro j hj ih2
                refine Ev.step (fun k => by rw [spec_l09Form.l1]) ?_
                simp only [if_pos (show (m : Int) < (l.length : Int) by omega), if_pos (show 0 ≤ (m : Int) by omega), rdr_nat hm, if_pos (show (j : Int) < (l[m].length : Int) by omega), if_pos (show 0 ≤ (j : Int) by omega), rd_nat hj, in_tells, Option.bind_some, decide_eq_true_eq, w_succ (m := j) (by omega)]
                rw [List.all_cons]
                by_cases c : 0 ≤ l[m][j] ∧ l[m][j] ≤ b
                · simp only [if_pos c]
                  rw [decide_eq_true c, Bool.true_and]
                  exact ih2
                · simp only [if_neg c]
                  rw [decide_eq_false c, Bool.false_and, Bool.false_and]
                  exact Ev.now _
            · simp only [if_neg (show ¬ (l[m].length : Int) = (y.length : Int) by omega)]
              have er : rowOk y.length b l[m] = false := by unfold rowOk; rw [decide_eq_false q, Bool.false_and]
              rw [er, Bool.false_and]
              exact Ev.now _
end Go.Proofs.Ytgndemjphjhahaa.Com
