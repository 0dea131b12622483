/- The pure statement of FnExactDotsText: for all arguments the program's DotsText returns what the reference's returns. -/
import Derived.Test.YtgndemjphjhahaaRowsS
import Derived.Test.YtgndemjphjhahaaQ35
import Derived.Test.YtgndemjphjhahaaQ36
import Derived.Test.YtgndemjphjhahaaQ37
import Derived.Test.YtgndemjphjhahaaQ38
namespace Go.Proofs.Ytgndemjphjhahaa.Pure
set_option linter.unusedSimpArgs false
set_option linter.unusedVariables false
set_option linter.unusedSectionVars false
open Go.RowKit Go.Proofs.Ytgndemjphjhahaa.Q Go.Proofs.YtgndemjphjhahaaW.PrintWords Go.Proofs.YtgndemjphjhahaaW.PrintLast Go.Proofs.Ytgndemjphjhahaa.Com

def dot (z : Int) : Int := if z = 1 then 35 else 46
def dots : List (List Int) → List Int
  | [] => []
  | x :: r => x.map dot ++ [10] ++ dots r
theorem str_snoc (s : List Int) (n : Int) : strOfNums (s ++ [n]) = strOfNums s ++ (⟨#[UInt8.ofNat n.toNat]⟩ : ByteArray) := by
  apply ByteArray.ext
  simp [strOfNums, ByteArray.data_append]
theorem str_dot (s : List Int) (z : Int) : strOfNums (s ++ [dot z]) = strOfNums s ++ (if z = 1 then (⟨#[35]⟩ : ByteArray) else (⟨#[46]⟩ : ByteArray)) := by
  rw [str_snoc]
  unfold dot
  split <;> rfl
section
variable {l : List (List Int)} (hl : l.length ≤ 12) (hr : ∀ x ∈ l, x.length ≤ 12 ∧ ∀ z ∈ x, 0 ≤ z ∧ z ≤ 1)
include hl hr
theorem text_ev : Ev (fun k => spec_l09Text.f k l) (strOfNums (dots l)) := by
  unfold spec_l09Text.f
  have gen := ev_fold l (fun m (s : List Int) k => spec_l09Text.l0 k l (strOfNums s) (m : Int)) (fun d s => strOfNums (s ++ dots d)) (fun m s => s.length ≤ 13 * m) ?_ ?_ 0 [] (by omega) (by simp)
  · exact gen
  · intro s _
    refine Ev.step (fun k => by rw [spec_l09Text.l0]) ?_
    simp only [if_neg (show ¬ (l.length : Int) < (l.length : Int) by omega), dots, List.append_nil]
    exact Ev.now _
  · intro m hm s hs ih
    obtain ⟨h1, h2⟩ := hr _ (List.getElem_mem hm)
    refine Ev.step (fun k => by rw [spec_l09Text.l0]) ?_
    simp only [if_pos (show (m : Int) < (l.length : Int) by omega)]
    have gen := ev_fold l[m] (fun j (s : List Int) k => spec_l09Text.l1 k l (strOfNums s) (m : Int) (j : Int)) (fun d s => strOfNums (s ++ (d.map dot ++ [10] ++ dots (l.drop (m + 1))))) (fun j s => s.length ≤ 13 * m + j) ?_ ?_ 0 s (by omega) (by omega)
    · exact gen
    · intro s hs
      refine Ev.step (fun k => by rw [spec_l09Text.l1]) ?_
      have hz := strOfNums_size s
      simp only [if_pos (show (m : Int) < (l.length : Int) by omega), if_pos (show 0 ≤ (m : Int) by omega), rdr_nat hm, if_neg (show ¬ (l[m].length : Int) < (l[m].length : Int) by omega), w_succ (m := m) (by omega), if_pos (show (strOfNums s).size + 1 ≤ 9223372036854775807 by omega), List.map_nil, List.nil_append]
      rw [← List.append_assoc, show strOfNums s ++ (⟨#[10]⟩ : ByteArray) = strOfNums (s ++ [10]) from (str_snoc s 10).symm]
      exact ih _ (by simp; omega)
    · intro j hj s hs ih2
      refine Ev.step (fun k => by rw [spec_l09Text.l1]) ?_
      have hz := strOfNums_size s
      simp only [if_pos (show (m : Int) < (l.length : Int) by omega), if_pos (show 0 ≤ (m : Int) by omega), rdr_nat hm, if_pos (show (j : Int) < (l[m].length : Int) by omega), if_pos (show 0 ≤ (j : Int) by omega), rd_nat hj, w_succ (m := j) (by omega), if_pos (show (strOfNums s).size + 1 ≤ 9223372036854775807 by omega)]
      have ih' := ih2 (s ++ [dot l[m][j]]) (by simp; omega)
      rw [str_dot] at ih'
      rw [List.map_cons]
      rw [show s ++ (dot l[m][j] :: List.map dot (List.drop (j + 1) l[m]) ++ [10] ++ dots (List.drop (m + 1) l)) = s ++ [dot l[m][j]] ++ (List.map dot (List.drop (j + 1) l[m]) ++ [10] ++ dots (List.drop (m + 1) l)) by simp]
      by_cases c : l[m][j] = 1
      · simp only [if_pos c] at ih' ⊢
        exact ih'
      · simp only [if_neg c] at ih' ⊢
        exact ih'
theorem dotsImpl_ev : Ev (fun k => impl_DotsText.l0 k [] l (l.length : Int) 0) (strOfNums (dots l), true) := by
  have gen := ev_fold l (fun m (s : List Int) k => impl_DotsText.l0 k s l (l.length : Int) (m : Int)) (fun d s => (strOfNums (s ++ dots d), true)) (fun m s => s.length ≤ 13 * m) ?_ ?_ 0 [] (by omega) (by simp)
  · exact gen
  · intro s _
    refine Ev.step (fun k => by rw [impl_DotsText.l0]) ?_
    simp only [if_neg (show ¬ (l.length : Int) < (l.length : Int) by omega), dots, List.append_nil]
    exact Ev.now _
  · intro m hm s hs ih
    obtain ⟨h1, h2⟩ := hr _ (List.getElem_mem hm)
    refine Ev.step (fun k => by rw [impl_DotsText.l0]) ?_
    simp only [if_pos (show (m : Int) < (l.length : Int) by omega), if_pos (show 0 ≤ (m : Int) by omega), rdr_nat hm]
    have gen := ev_fold l[m] (fun j (s : List Int) k => impl_DotsText.l1 k s l (l.length : Int) (m : Int) l[m] (l[m].length : Int) (j : Int)) (fun d s => (strOfNums (s ++ (d.map dot ++ [10] ++ dots (l.drop (m + 1)))), true)) (fun j s => s.length ≤ 13 * m + j) ?_ ?_ 0 s (by omega) (by omega)
    · exact gen
    · intro s hs
      refine Ev.step (fun k => by rw [impl_DotsText.l1]) ?_
      simp only [if_neg (show ¬ (l[m].length : Int) < (l[m].length : Int) by omega), w_succ (m := m) (by omega), if_pos (show s.length < 140737488355328 by omega), List.map_nil, List.nil_append]
      rw [← List.append_assoc]
      exact ih _ (by simp; omega)
    · intro j hj s hs ih2
      obtain ⟨z0, z1⟩ := h2 _ (List.getElem_mem hj)
      have e : bt (⟨#[46, 35]⟩ : ByteArray) l[m][j] = dot l[m][j] := by
        rcases (show l[m][j] = 0 ∨ l[m][j] = 1 by omega) with h | h <;> rw [h] <;> rfl
      refine Ev.step (fun k => by rw [impl_DotsText.l1]) ?_
      simp only [if_pos (show (j : Int) < (l[m].length : Int) by omega), if_pos (show 0 ≤ (j : Int) by omega), rd_nat hj, w_succ (m := j) (by omega), if_pos z0, if_pos (show l[m][j] < 2 by omega), if_pos (show s.length < 140737488355328 by omega), e]
      rw [List.map_cons]
      rw [show s ++ (dot l[m][j] :: List.map dot (List.drop (j + 1) l[m]) ++ [10] ++ dots (List.drop (m + 1) l)) = s ++ [dot l[m][j]] ++ (List.map dot (List.drop (j + 1) l[m]) ++ [10] ++ dots (List.drop (m + 1) l)) by simp]
      exact ih2 _ (by simp; omega)
end
theorem form_rows {l : List (List Int)} {b : Int} (h : rowsForm b l = true) : l.length ≤ 12 ∧ ∀ x ∈ l, x.length ≤ 12 ∧ ∀ z ∈ x, 0 ≤ z ∧ z ≤ b := by
  cases l with
  | nil => simp [rowsForm] at h
  | cons y r =>
    have h' : (decide ((y :: r).length ≤ 12) && decide (1 ≤ y.length ∧ y.length ≤ 12) && (y :: r).all (rowOk y.length b)) = true := h
    rw [Bool.and_eq_true, Bool.and_eq_true] at h'
    obtain ⟨⟨h1, h2⟩, h3⟩ := h'
    have h1 := of_decide_eq_true h1
    have h2 := of_decide_eq_true h2
    refine ⟨h1, fun x hx => ?_⟩
    have hk := List.all_eq_true.1 h3 x hx
    unfold rowOk at hk
    rw [Bool.and_eq_true] at hk
    have q := of_decide_eq_true hk.1
    exact ⟨by omega, fun z hz => of_decide_eq_true (List.all_eq_true.1 hk.2 z hz)⟩
theorem dotsText_both (l : List (List Int)) (hx : l.length ≤ 1048576) (hr : ∀ x ∈ l, x.length ≤ 1048576) : ∃ r, Ev (fun k => spec_DotsText.f k l) r ∧ Ev (fun k => impl_DotsText.f k l) r := by
  unfold spec_DotsText.f impl_DotsText.f
  cases h : rowsForm 1 l with
  | false =>
    refine ⟨(⟨#[]⟩, false), Ev.bind (form_ev l 1 hx hr) ?_, ev_bind' (areRows_tells l 1) ?_⟩ <;>
    · simp only [h, Bool.false_eq_true, if_false]
      exact Ev.now _
  | true =>
    obtain ⟨h1, h2⟩ := form_rows h
    refine ⟨(strOfNums (dots l), true), Ev.bind (form_ev l 1 hx hr) ?_, ev_bind' (areRows_tells l 1) ?_⟩
    · simp only [h, if_true]
      exact Ev.bind (text_ev h1 h2) (Ev.now _)
    · simp only [h, if_true]
      exact dotsImpl_ev h1 h2
theorem FnExactDotsText : laws_FnExactDotsText.Pure := by
  intro l hl
  apply ev_of
  unfold laws_FnExactDotsText.f
  obtain ⟨t, ht, h⟩ := szInt64SS_ev l hl.1 (fun x hx => (hl.2 x hx).1)
  refine Ev.bind ht ?_
  rcases h with rfl | ⟨h0, hx, hr⟩
  · simp only [if_pos (show (-1 : Int) < 0 by omega)]
    exact Ev.now _
  · simp only [if_neg (show ¬ t < 0 by omega)]
    obtain ⟨r, hs, hi⟩ := dotsText_both l hx hr
    have hto := toInt64SS_ev l hx hr
    refine Ev.bind hto (Ev.bind hs (Ev.bind hto (Ev.bind hi ?_)))
    simp only [if_true, bne_self_eq_false]
    refine Ev.step (fun k => by rw [laws_FnExactDotsText.j0]) ?_
    simp only [Bool.false_eq_true, if_false]
    refine Ev.bind hto (Ev.bind (eqInt64SS_ev l hx hr) ?_)
    simp only [if_true]
    exact Ev.now _
end Go.Proofs.Ytgndemjphjhahaa.Pure
