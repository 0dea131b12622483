/- The statement FnDiffused, with all that its proof stands on: functions of the program as plain functions, the program's walks, and the plain law. Conditions: none beyond the statement's own. -/
import Derived.ArgAppend
import Derived.Below
import Derived.BigQuiet
import Derived.BigRegion
import Derived.CallsIn
import Derived.ControlIn
import Derived.Deep.AppendLies
import Derived.Deep.CutBlock
import Derived.Deep.DeepCutAuto
import Derived.Deep.Draws
import Derived.Deep.LoopGhost
import Derived.Deep.OwnRows
import Derived.Deep.QuietTactic
import Derived.Deep.RegionHeld3
import Derived.Ground.SlgnProg
import Derived.KernelRfl
import Derived.Laws.BitsLemmas
import Derived.Laws.BytesArg
import Derived.Laws.IdiomCopy
import Derived.Laws.MakeOwn
import Derived.Laws.OwnMore
import Derived.Laws.Rows
import Derived.Laws.Slices
import Derived.Lib.AppendStr
import Derived.Lib.ConvBytes
import Derived.Lib.IndexLaws
import Derived.LoopIn
import Derived.LoopNIn
import Derived.Maps.AppendAt
import Derived.OrdersHeld
import Derived.OwnWalk
import Derived.OwnWalkIn
import Derived.ProofKit
import Derived.RangeFuncBound
import Derived.RangeFuncBox
import Derived.RangeFuncCalls
import Derived.RangeFuncFrom
import Derived.RangeFuncKeeps
import Derived.RangeFuncLeaves
import Derived.RangeFuncNested
import Derived.RangeFuncWrites
import Derived.RowKit
import Derived.RowKit3
import Derived.Shelf.Abstract
import Derived.Shelf.RegionOpen
import Derived.Shelf.SlicesE.Clone
import Derived.Shelf.Small.Strs
import Derived.Shelf.Strings.Search1
import Derived.Sort.OwnSortedInts
import Derived.Tactics
import Derived.TacticsIn
import Derived.TacticsInMore
import Derived.Test.YtpdkknfooblplaaProg
import Derived.WalkKit
import Derived.WideLaws
import Derived.Test.YtpdkknfooblplaaBFnDiffused0
import Derived.Test.YtpdkknfooblplaaBFnDiffused2
import Derived.Test.YtpdkknfooblplaaBFnDiffused3
import Derived.Test.YtpdkknfooblplaaBFnDiffused4
import Derived.Test.YtpdkknfooblplaaBFnDiffused5
import Derived.Test.YtpdkknfooblplaaBFnDiffused6
import Derived.Test.YtpdkknfooblplaaBFnDiffused7
import Derived.Test.YtpdkknfooblplaaBFnDiffused8
import Derived.Test.YtpdkknfooblplaaBFnDiffused9
import Derived.Test.YtpdkknfooblplaaBFnDiffused10
import Derived.Test.YtpdkknfooblplaaBFnDiffused11
import Derived.Test.YtpdkknfooblplaaBFnDiffused12
import Derived.Test.YtpdkknfooblplaaBFnDiffused13
set_option linter.unusedVariables false
set_option linter.unusedSimpArgs false
namespace Go.Proofs.Ytpdkknfooblplaa.Com
open Go.RowKit Go.Proofs.YtpdkknfooblplaaW.PrintWords
theorem w64 {x : Int} (h1 : -9223372036854775808 ≤ x) (h2 : x ≤ 9223372036854775807) : wrap64 x = x := by
  unfold wrap64
  omega
theorem ev_of {α : Type} {g : Nat → Option α} {r : α} (h : Ev g r) : ∃ k, g k = some r := h.rounds
theorem ev_bind' {α β : Type} {o : Option α} {f : Nat → α → Option β} {a : α} {r : β} (h : o = some a) (k : Ev (fun n => f n a) r) : Ev (fun n => o.bind (f n)) r := by
  subst h
  exact k
theorem tmod_nn {a b : Int} (h : 0 ≤ a) : Int.tmod a b = a % b := Int.tmod_eq_emod_of_nonneg h
end Go.Proofs.Ytpdkknfooblplaa.Com
namespace Go.Proofs.Ytpdkknfooblplaa.Com
set_option linter.unusedSimpArgs false
set_option linter.unusedVariables false
open Go.RowKit Go.Proofs.YtpdkknfooblplaaW.PrintWords
theorem ev_fold {α σ ρ : Type} (xs : List α) (g : Nat → σ → Nat → Option ρ) (F : List α → σ → ρ) (Inv : Nat → σ → Prop)
    (h0 : ∀ s, Inv xs.length s → Ev (g xs.length s) (F [] s))
    (hs : ∀ m (h : m < xs.length) s, Inv m s → (∀ s', Inv (m + 1) s' → Ev (g (m + 1) s') (F (xs.drop (m + 1)) s')) → Ev (g m s) (F (xs[m] :: xs.drop (m + 1)) s)) :
    ∀ m s, m ≤ xs.length → Inv m s → Ev (g m s) (F (xs.drop m) s) := by
  have key : ∀ d m s, m + d = xs.length → Inv m s → Ev (g m s) (F (xs.drop m) s) := by
    intro d
    induction d with
    | zero =>
      intro m s e hi
      obtain rfl : m = xs.length := by omega
      rw [List.drop_length]
      exact h0 s hi
    | succ d ih =>
      intro m s e hi
      have h : m < xs.length := by omega
      rw [List.drop_eq_getElem_cons h]
      exact hs m h s hi (fun s' hi' => ih (m + 1) s' (by omega) hi')
  intro m s hm hi
  exact key (xs.length - m) m s (by omega) hi
theorem ev_list {α ρ : Type} (xs : List α) (g : Nat → Nat → Option ρ) (F : List α → ρ) (h0 : Ev (g xs.length) (F []))
    (hs : ∀ m (h : m < xs.length), Ev (g (m + 1)) (F (xs.drop (m + 1))) → Ev (g m) (F (xs[m] :: xs.drop (m + 1)))) (m : Nat) (hm : m ≤ xs.length) : Ev (g m) (F (xs.drop m)) :=
  ev_fold xs (fun m (_ : Unit) => g m) (fun l _ => F l) (fun _ _ => True) (fun _ _ => h0) (fun m h _ _ ih => hs m h (ih () trivial)) m () hm trivial
theorem ev_count {σ ρ : Type} (n : Nat) (g : Nat → σ → Nat → Option ρ) (r : ρ) (Inv : Nat → σ → Prop) (h0 : ∀ s, Inv n s → Ev (g n s) r)
    (hs : ∀ m s, m < n → Inv m s → ∃ s', Inv (m + 1) s' ∧ (Ev (g (m + 1) s') r → Ev (g m s) r)) : ∀ m s, m ≤ n → Inv m s → Ev (g m s) r := by
  have key : ∀ d m s, m + d = n → Inv m s → Ev (g m s) r := by
    intro d
    induction d with
    | zero =>
      intro m s e hi
      obtain rfl : m = n := by omega
      exact h0 s hi
    | succ d ih =>
      intro m s e hi
      obtain ⟨s', hi', k⟩ := hs m s (by omega) hi
      exact k (ih (m + 1) s' (by omega) hi')
  intro m s hm hi
  exact key (n - m) m s (by omega) hi
theorem rd_nat {xs : List Int} {m : Nat} (h : m < xs.length) : rd xs (m : Int) = xs[m] := by
  unfold rd
  rw [Int.toNat_natCast, List.getD_eq_getElem?_getD, List.getElem?_eq_getElem h]
  rfl
theorem w_succ {m : Nat} (h : m < 9223372036854775807) : wrap64 ((m : Int) + 1) = ((m + 1 : Nat) : Int) := by
  rw [w64 (by omega) (by omega)]
  omega
end Go.Proofs.Ytpdkknfooblplaa.Com
namespace Go.Proofs.Ytpdkknfooblplaa.Com
set_option linter.unusedSimpArgs false
set_option linter.unusedVariables false
open Go.RowKit Go.Proofs.YtpdkknfooblplaaW.PrintWords Go.Proofs.Ytpdkknfooblplaa.Q
theorem within_tells (x a b : Int) : impl_within.f x a b = some (decide (a ≤ x ∧ x ≤ b)) := by
  unfold impl_within.f
  split <;> simp [*]
theorem in_tells (x a b : Int) : spec_l00In.f x a b = some (decide (a ≤ x ∧ x ≤ b)) := by
  unfold spec_l00In.f
  by_cases h : x ≥ a
  · have h' : a ≤ x := h
    simp [h, h']
  · have h' : ¬ a ≤ x := h
    simp [h, h']
end Go.Proofs.Ytpdkknfooblplaa.Com
namespace Go.Proofs.Ytpdkknfooblplaa.Com
set_option linter.unusedSimpArgs false
set_option linter.unusedVariables false
set_option linter.unusedSectionVars false
open Go.RowKit Go.Proofs.YtpdkknfooblplaaW.PrintWords Go.Proofs.YtpdkknfooblplaaW.PrintMore Go.Proofs.Ytpdkknfooblplaa.Q
theorem rdr_nat {xs : List (List Int)} {m : Nat} (h : m < xs.length) : rd_L1 xs (m : Int) = xs[m] := by
  unfold rd_L1
  rw [Int.toNat_natCast, List.getD_eq_getElem?_getD, List.getElem?_eq_getElem h]
  rfl
def rowOk (n : Nat) (b : Int) (x : List Int) : Bool := decide (x.length = n) && x.all fun z => decide (0 ≤ z ∧ z ≤ b)
def rowsForm (b : Int) (l : List (List Int)) : Bool := match l with
  | [] => false
  | y :: _ => decide (l.length ≤ 12) && decide (1 ≤ y.length ∧ y.length ≤ 12) && l.all (rowOk y.length b)
theorem areRows_tells (l : List (List Int)) (b : Int) : impl_areRows.f l b = some (rowsForm b l) := by
  cases l with
  | nil => rfl
  | cons y r =>
    unfold impl_areRows.f rowsForm
    simp only
    congr 1
    rw [List.not_any_eq_all_not]
    congr 2
    funext x
    unfold impl_areRows.p rowOk
    by_cases h : x.length = y.length <;> simp [h]
theorem form_ev (l : List (List Int)) (b : Int) (hx : l.length ≤ 1048576) (hr : ∀ x ∈ l, x.length ≤ 1048576) : Ev (fun k => spec_l09Form.f k l b) (rowsForm b l) := by
  have jf : Ev (fun k => spec_l09Form.j0 k l b true) false := Ev.step (fun k => by rw [spec_l09Form.j0]) (by simp only [if_true]; exact Ev.now _)
  unfold spec_l09Form.f
  cases l with
  | nil =>
    simp only [if_pos (show (([] : List (List Int)).length : Int) < 1 by decide)]
    exact jf
  | cons y r =>
    have e0 : rd_L1 (y :: r) 0 = y := rdr_nat (xs := y :: r) (m := 0) (by rw [List.length_cons]; omega)
    have hl : (y :: r).length = r.length + 1 := rfl
    simp only [if_neg (show ¬ ((y :: r).length : Int) < 1 by omega), if_pos (show 0 < ((y :: r).length : Int) by omega), e0]
    have ef : rowsForm b (y :: r) = (decide ((y :: r).length ≤ 12) && decide (1 ≤ y.length ∧ y.length ≤ 12) && (y :: r).all (rowOk y.length b)) := rfl
    by_cases h1 : ((y :: r).length : Int) > 12
    · simp only [if_pos h1]
      rw [ef, decide_eq_false (show ¬ (y :: r).length ≤ 12 by omega), Bool.false_and, Bool.false_and]
      exact jf
    · simp only [if_neg h1]
      rw [ef, decide_eq_true (show (y :: r).length ≤ 12 by omega), Bool.true_and]
      by_cases h2 : (y.length : Int) < 1
      · simp only [if_pos h2]
        rw [decide_eq_false (show ¬ (1 ≤ y.length ∧ y.length ≤ 12) by omega), Bool.false_and]
        exact jf
      · simp only [if_neg h2]
        by_cases h3 : (y.length : Int) > 12
        · rw [decide_eq_true h3, decide_eq_false (show ¬ (1 ≤ y.length ∧ y.length ≤ 12) by omega), Bool.false_and]
          exact jf
        · rw [decide_eq_false h3, decide_eq_true (show 1 ≤ y.length ∧ y.length ≤ 12 by omega), Bool.true_and]
          refine Ev.step (fun k => by rw [spec_l09Form.j0]) ?_
          simp only [Bool.false_eq_true, if_false]
          generalize y :: r = l at hx hr e0 hl h1
          have gen := ev_list l (fun m k => spec_l09Form.l0 k l b (m : Int)) (fun d => d.all (rowOk y.length b)) ?_ ?_ 0 (by omega)
          · exact gen
          · refine Ev.step (fun k => by rw [spec_l09Form.l0]) ?_
            simp only [if_neg (show ¬ (l.length : Int) < (l.length : Int) by omega), List.all_nil]
            exact Ev.now _
          · intro m hm ih
            have hrm := hr _ (List.getElem_mem hm)
            refine Ev.step (fun k => by rw [spec_l09Form.l0]) ?_
            simp only [if_pos (show (m : Int) < (l.length : Int) by omega), if_pos (show 0 ≤ (m : Int) by omega), if_pos (show 0 < (l.length : Int) by omega), rdr_nat hm, e0]
            rw [List.all_cons]
            by_cases q : l[m].length = y.length
            · simp only [if_pos (show (l[m].length : Int) = (y.length : Int) by omega)]
              have er : rowOk y.length b l[m] = l[m].all fun z => decide (0 ≤ z ∧ z ≤ b) := by unfold rowOk; rw [decide_eq_true q, Bool.true_and]
              rw [er]
              have gen := ev_list l[m] (fun j k => spec_l09Form.l1 k l b (m : Int) (j : Int)) (fun d => (d.all fun z => decide (0 ≤ z ∧ z ≤ b)) && (l.drop (m + 1)).all (rowOk y.length b)) ?_ ?_ 0 (by omega)
              · exact gen
              · refine Ev.step (fun k => by rw [spec_l09Form.l1]) ?_
                simp only [if_pos (show (m : Int) < (l.length : Int) by omega), if_pos (show 0 ≤ (m : Int) by omega), rdr_nat hm, if_neg (show ¬ (l[m].length : Int) < (l[m].length : Int) by omega), w_succ (m := m) (by omega), List.all_nil, Bool.true_and]
                exact ih
              · intro j hj ih2
                refine Ev.step (fun k => by rw [spec_l09Form.l1]) ?_
                simp only [if_pos (show (m : Int) < (l.length : Int) by omega), if_pos (show 0 ≤ (m : Int) by omega), rdr_nat hm, if_pos (show (j : Int) < (l[m].length : Int) by omega), if_pos (show 0 ≤ (j : Int) by omega), rd_nat hj, in_tells, Option.bind_some, decide_eq_true_eq, w_succ (m := j) (by omega)]
                rw [List.all_cons]
                by_cases c : 0 ≤ l[m][j] ∧ l[m][j] ≤ b
                · simp only [if_pos c]
                  rw [decide_eq_true c, Bool.true_and]
                  exact ih2
                · simp only [if_neg c]
                  rw [decide_eq_false c, Bool.false_and, Bool.false_and]
                  exact Ev.now _
            · simp only [if_neg (show ¬ (l[m].length : Int) = (y.length : Int) by omega)]
              have er : rowOk y.length b l[m] = false := by unfold rowOk; rw [decide_eq_false q, Bool.false_and]
              rw [er, Bool.false_and]
              exact Ev.now _
end Go.Proofs.Ytpdkknfooblplaa.Com
namespace Go.Proofs.Ytpdkknfooblplaa.Com
set_option linter.unusedSimpArgs false
set_option linter.unusedVariables false
set_option linter.unusedSectionVars false
open Go.RowKit Go.Proofs.YtpdkknfooblplaaW.PrintWords Go.Proofs.YtpdkknfooblplaaW.PrintMore Go.Proofs.Ytpdkknfooblplaa.Q
def grid0 (R C : Nat) : List (List Int) := List.replicate R (List.replicate C 0)
theorem square_ev (R C : Nat) (hR : R ≤ 1000000) (hC : C ≤ 1000000) : Ev (fun k => spec_l09Square.f k (R : Int) (C : Int)) (grid0 R C) := by
  unfold spec_l09Square.f
  refine ev_count R (fun m (s : List (List Int)) k => spec_l09Square.l0 k (R : Int) (C : Int) s (m : Int)) _ (fun m s => s = List.replicate m (List.replicate C 0)) ?_ ?_ 0 [] (by omega) rfl
  · rintro _ rfl
    refine Ev.step (fun k => by rw [spec_l09Square.l0]) ?_
    simp only [if_neg (show ¬ (R : Int) < (R : Int) by omega)]
    exact Ev.now _
  · rintro m _ hm rfl
    refine ⟨_, rfl, fun ih => ?_⟩
    refine Ev.step (fun k => by rw [spec_l09Square.l0]) ?_
    simp only [if_pos (show (m : Int) < (R : Int) by omega), if_pos (show 0 ≤ (C : Int) by omega), Int.toNat_natCast, if_pos (show C ≤ 35184372088832 by omega), List.length_replicate, if_pos (show m < 5864062014805 by omega), w_succ (m := m) (by omega)]
    rw [← List.replicate_succ']
    exact ih
theorem noughts_ev (R C : Nat) (hR : R ≤ 1000000) (hC : C ≤ 1000000) : Ev (fun k => impl_noughts.f k (R : Int) (C : Int)) (grid0 R C) := by
  unfold impl_noughts.f
  simp only [if_pos (show 0 ≤ (R : Int) by omega), Int.toNat_natCast, if_pos (show R ≤ 11728124029610 by omega), Option.bind_some, List.length_replicate]
  refine ev_count R (fun m (s : List (List Int)) k => impl_noughts.l0 k (C : Int) s (R : Int) (m : Int)) _ (fun m s => s = List.replicate m (List.replicate C 0) ++ List.replicate (R - m) []) ?_ ?_ 0 _ (by omega) (by simp)
  · rintro _ rfl
    refine Ev.step (fun k => by rw [impl_noughts.l0]) ?_
    simp only [if_neg (show ¬ (R : Int) < (R : Int) by omega), Nat.sub_self, List.replicate_zero, List.append_nil]
    exact Ev.now _
  · rintro m _ hm rfl
    refine ⟨_, rfl, fun ih => ?_⟩
    refine Ev.step (fun k => by rw [impl_noughts.l0]) ?_
    have hl : (List.replicate m (List.replicate C (0 : Int)) ++ List.replicate (R - m) []).length = R := by simp; omega
    simp only [hl, if_pos (show (m : Int) < (R : Int) by omega), if_pos (show 0 ≤ (C : Int) by omega), Int.toNat_natCast, if_pos (show C ≤ 35184372088832 by omega), if_pos (show 0 ≤ (m : Int) by omega), w_succ (m := m) (by omega)]
    have es : (List.replicate m (List.replicate C (0 : Int)) ++ List.replicate (R - m) []).set m (List.replicate C 0) = List.replicate (m + 1) (List.replicate C 0) ++ List.replicate (R - (m + 1)) [] := by
      obtain ⟨q, hq⟩ : ∃ q, R - m = q + 1 := ⟨R - m - 1, by omega⟩
      rw [List.set_append_right _ _ (by simp), List.length_replicate, Nat.sub_self, hq, List.replicate_succ, List.set_cons_zero, List.replicate_succ', show R - (m + 1) = q by omega, List.append_assoc]
      rfl
    rw [es]
    exact ih
def Grid (R C : Nat) (g : List (List Int)) : Prop := g.length = R ∧ ∀ x ∈ g, x.length = C
theorem grid0_is (R C : Nat) : Grid R C (grid0 R C) := ⟨by simp [grid0], fun x hx => by unfold grid0 at hx; rw [List.eq_of_mem_replicate hx, List.length_replicate]⟩
theorem Grid.row {R C : Nat} {g : List (List Int)} (h : Grid R C g) {i : Nat} (hi : i < R) : i < g.length ∧ ∀ (h' : i < g.length), g[i].length = C := ⟨by rw [h.1]; exact hi, fun h' => h.2 _ (List.getElem_mem h')⟩
theorem Grid.rd {R C : Nat} {g : List (List Int)} (h : Grid R C g) {i : Nat} (hi : i < R) : (rd_L1 g (i : Int)).length = C := by
  rw [rdr_nat (h.row hi).1]
  exact (h.row hi).2 _
theorem Grid.put {R C : Nat} {g : List (List Int)} (h : Grid R C g) {i : Nat} (j : Nat) (v : Int) (hi : i < R) : Grid R C (g.set i ((rd_L1 g (i : Int)).set j v)) := by
  refine ⟨by rw [List.length_set]; exact h.1, fun x hx => ?_⟩
  rcases List.mem_or_eq_of_mem_set hx with hx | hx
  · exact h.2 x hx
  · rw [hx, List.length_set]; exact h.rd hi
end Go.Proofs.Ytpdkknfooblplaa.Com
namespace Go.Proofs.Ytpdkknfooblplaa.Com
set_option linter.unusedSimpArgs false
set_option linter.unusedVariables false
set_option linter.unusedSectionVars false
open Go.RowKit Go.Proofs.YtpdkknfooblplaaW.PrintWords Go.Proofs.YtpdkknfooblplaaW.PrintMore Go.Proofs.Ytpdkknfooblplaa.Q
theorem rowsForm_is {b : Int} {l : List (List Int)} (h : rowsForm b l = true) :
    ∃ R C : Nat, 1 ≤ R ∧ R ≤ 12 ∧ 1 ≤ C ∧ C ≤ 12 ∧ Grid R C l ∧ (rd_L1 l 0).length = C ∧ ∀ x ∈ l, ∀ z ∈ x, 0 ≤ z ∧ z ≤ b := by
  cases l with
  | nil => simp [rowsForm] at h
  | cons y r =>
    have ef : rowsForm b (y :: r) = (decide ((y :: r).length ≤ 12) && decide (1 ≤ y.length ∧ y.length ≤ 12) && (y :: r).all (rowOk y.length b)) := rfl
    rw [ef] at h
    simp only [Bool.and_eq_true, decide_eq_true_eq, List.all_eq_true] at h
    obtain ⟨⟨h1, h2⟩, h3⟩ := h
    have e0 : rd_L1 (y :: r) 0 = y := rdr_nat (xs := y :: r) (m := 0) (by rw [List.length_cons]; omega)
    refine ⟨(y :: r).length, y.length, by rw [List.length_cons]; omega, h1, h2.1, h2.2, ⟨rfl, fun x hx => ?_⟩, by rw [e0], fun x hx z hz => ?_⟩
    · have := h3 x hx
      unfold rowOk at this
      simp only [Bool.and_eq_true, decide_eq_true_eq] at this
      exact this.1
    · have := h3 x hx
      unfold rowOk at this
      simp only [Bool.and_eq_true, decide_eq_true_eq, List.all_eq_true] at this
      exact this.2 z hz
end Go.Proofs.Ytpdkknfooblplaa.Com
namespace Go.Proofs.Ytpdkknfooblplaa.Pure
set_option linter.unusedSimpArgs false
set_option linter.unusedVariables false
open Go.RowKit Go.Proofs.Ytpdkknfooblplaa.Q Go.Proofs.YtpdkknfooblplaaW.PrintWords Go.Proofs.YtpdkknfooblplaaW.PrintLast Go.Proofs.Ytpdkknfooblplaa.Com
theorem rdk_nat {xs : List S79} {m : Nat} (h : m < xs.length) : rd_T79 xs (m : Int) = xs[m] := by
  unfold rd_T79
  rw [Int.toNat_natCast, List.getD_eq_getElem?_getD, List.getElem?_eq_getElem h]
  rfl
def dupIn (pre : List S79) (x : S79) : Bool := pre.any fun y => y.f0 == x.f0 && y.f1 == x.f1
def tapOk (P : Int) (x : S79) : Prop := (0 ≤ x.f0 ∧ x.f0 ≤ 2) ∧ (-2 ≤ x.f1 ∧ x.f1 ≤ 2) ∧ ¬ (x.f0 < 1 ∧ x.f1 < 1) ∧ (1 ≤ x.f2 ∧ x.f2 ≤ P)
instance (P : Int) (x : S79) : Decidable (tapOk P x) := by unfold tapOk; infer_instance
def run (B P : Int) : List S79 → List S79 → Int → Bool
  | [], _, s => decide (s ≤ P)
  | x :: r, pre, s => if tapOk B x ∧ dupIn pre x = false then run B P r (pre ++ [x]) (s + x.f2) else false
theorem run_le (B P : Int) (r : List S79) : ∀ pre s, run B P r pre s = true → s ≤ P := by
  induction r with
  | nil => intro pre s h; unfold run at h; exact of_decide_eq_true h
  | cons x r ih =>
    intro pre s h
    unfold run at h
    by_cases c : tapOk B x ∧ dupIn pre x = false
    · rw [if_pos c] at h
      have := ih _ _ h
      have := c.1.2.2.2.1
      omega
    · rw [if_neg c] at h; cases h
theorem run_same (P : Int) (hP : P ≤ 64) (r : List S79) : ∀ pre s, 0 ≤ s → run P P r pre s = run 64 P r pre s := by
  induction r with
  | nil => intro pre s _; rfl
  | cons x r ih =>
    intro pre s hs
    unfold run
    by_cases c : tapOk 64 x ∧ dupIn pre x = false
    · rw [if_pos c]
      by_cases d : x.f2 ≤ P
      · have c1 := c.1
        rw [if_pos ⟨⟨c1.1, c1.2.1, c1.2.2.1, c1.2.2.2.1, d⟩, c.2⟩]
        have := c1.2.2.2.1
        exact ih _ _ (by omega)
      · rw [if_neg (fun h => d h.1.2.2.2.2)]
        cases h : run 64 P r (pre ++ [x]) (s + x.f2) with
        | false => rfl
        | true => have := run_le _ _ _ _ _ h; omega
    · rw [if_neg c, if_neg]
      rintro ⟨h1, h2⟩
      refine c ⟨⟨h1.1, h1.2.1, h1.2.2.1, h1.2.2.2.1, ?_⟩, h2⟩
      have := h1.2.2.2.2
      omega
section
variable {l : List S79} (P : Int) (hl : l.length ≤ 12)
include hl
theorem dup_ev (m : Nat) (hm : m < l.length) (s a b c : Int) (r : Bool) (ih : Ev (fun k => spec_l09Kernel.l0 k (wrap64 (s + c)) (wrap64 ((m : Int) + 1)) P l) r) :
    Ev (fun k => spec_l09Kernel.l1 k s (m : Int) 0 P l a b c) (if (l.take m).any (fun y => y.f0 == a && y.f1 == b) then false else r) := by
  have hlen : (l.take m).length = m := by rw [List.length_take]; omega
  have gen := ev_list (l.take m) (fun j k => spec_l09Kernel.l1 k s (m : Int) (j : Int) P l a b c) (fun d => if d.any (fun y => y.f0 == a && y.f1 == b) then false else r) ?_ ?_ 0 (by omega)
  · exact gen
  · rw [hlen]
    refine Ev.step (fun k => by rw [spec_l09Kernel.l1]) ?_
    simp only [if_neg (show ¬ (m : Int) < (m : Int) by omega), List.any_nil, Bool.false_eq_true, if_false]
    exact ih
  · intro j hj ih'
    have hj' : j < m := by omega
    refine Ev.step (fun k => by rw [spec_l09Kernel.l1]) ?_
    have hjl : j < l.length := by omega
    have e : (l.take m)[j] = l[j] := List.getElem_take ..
    simp only [if_pos (show (j : Int) < (m : Int) by omega), if_pos (show 0 ≤ (j : Int) by omega), if_pos (show (j : Int) < (l.length : Int) by omega), rdk_nat hjl, w_succ (m := j) (by omega), e, List.any_cons]
    by_cases q1 : l[j].f0 = a
    · by_cases q2 : l[j].f1 = b
      · simp only [if_pos q1, if_pos q2, beq_iff_eq.mpr q1, beq_iff_eq.mpr q2, Bool.and_self, Bool.true_or, if_true]
        exact Ev.now _
      · simp only [if_pos q1, if_neg q2, beq_eq_false_iff_ne.mpr q2, Bool.and_false, Bool.false_or]
        exact ih'
    · simp only [if_neg q1, beq_eq_false_iff_ne.mpr q1, Bool.false_and, Bool.false_or]
      exact ih'
theorem specKern_ev (hP : 1 ≤ P ∧ P ≤ 64) : Ev (fun k => spec_l09Kernel.l0 k 0 0 P l) (run P P l [] 0) := by
  have gen := ev_fold l (fun m (s : Int) k => spec_l09Kernel.l0 k s (m : Int) P l) (fun d s => run P P d (l.take (l.length - d.length)) s) (fun m s => 0 ≤ s ∧ s ≤ 64 * (m : Int)) ?_ ?_ 0 0 (by omega) (by omega)
  · simpa using gen
  · intro s _
    refine Ev.step (fun k => by rw [spec_l09Kernel.l0]) ?_
    simp only [if_neg (show ¬ (l.length : Int) < (l.length : Int) by omega)]
    exact Ev.now _
  · intro m hm s hs ih
    refine Ev.step (fun k => by rw [spec_l09Kernel.l0]) ?_
    have hd : (l.drop (m + 1)).length = l.length - (m + 1) := List.length_drop ..
    have t1 : l.length - (l[m] :: l.drop (m + 1)).length = m := by rw [List.length_cons, hd]; omega
    have t2 : l.length - (l.drop (m + 1)).length = m + 1 := by rw [hd]; omega
    rw [t1]
    rw [t2] at ih
    simp only [if_pos (show (m : Int) < (l.length : Int) by omega), if_pos (show 0 ≤ (m : Int) by omega), rdk_nat hm, in_tells, Option.bind_some, decide_eq_true_eq]
    have tk : l.take m ++ [l[m]] = l.take (m + 1) := (List.take_succ_eq_append_getElem hm).symm
    have dup := dup_ev P hl m hm s l[m].f0 l[m].f1 l[m].f2
    have jt : Ev (fun k => spec_l09Kernel.j2 k s (m : Int) true P l l[m].f0 l[m].f1 l[m].f2) false := Ev.step (fun k => by rw [spec_l09Kernel.j2]) (by simp only [if_true]; exact Ev.now _)
    unfold run
    rw [tk]
    generalize l[m] = x at dup jt ⊢
    by_cases q1 : 0 ≤ x.f0 ∧ x.f0 ≤ 2
    · simp only [if_pos q1]
      by_cases q2 : -2 ≤ x.f1 ∧ x.f1 ≤ 2
      · simp only [if_pos q2]
        have rest : ∀ (h : ¬ (x.f0 < 1 ∧ x.f1 < 1)), Ev (fun k => spec_l09Kernel.j2 k s (m : Int) (!decide (1 ≤ x.f2 ∧ x.f2 ≤ P)) P l x.f0 x.f1 x.f2) (if tapOk P x ∧ dupIn (l.take m) x = false then run P P (l.drop (m + 1)) (l.take (m + 1)) (s + x.f2) else false) := by
          intro h
          by_cases q3 : 1 ≤ x.f2 ∧ x.f2 ≤ P
          · rw [decide_eq_true q3]
            refine Ev.step (fun k => by rw [spec_l09Kernel.j2]) ?_
            simp only [Bool.not_true, Bool.false_eq_true, if_false]
            have ok : tapOk P x := ⟨q1, q2, h, q3⟩
            have := dup (run P P (l.drop (m + 1)) (l.take (m + 1)) (s + x.f2)) (by rw [w64 (x := s + x.f2) (by omega) (by omega), w_succ (m := m) (by omega)]; exact ih _ (by omega))
            cases hd : dupIn (l.take m) x with
            | true => unfold dupIn at hd; rw [hd] at this; simpa using this
            | false => unfold dupIn at hd; rw [hd] at this; simpa [ok] using this
          · rw [decide_eq_false q3, if_neg (fun h => q3 h.1.2.2.2)]
            exact jt
        by_cases z : x.f0 = 0
        · simp only [if_pos z]
          by_cases z2 : x.f1 < 1
          · simp only [if_pos z2]
            rw [if_neg (fun h => h.1.2.2.1 ⟨by omega, z2⟩)]
            exact jt
          · simp only [if_neg z2]
            exact rest (fun h => z2 h.2)
        · simp only [if_neg z]
          exact rest (fun h => by omega)
      · simp only [if_neg q2]
        rw [if_neg (fun h => q2 h.1.2.1)]
        exact jt
    · simp only [if_neg q1]
      rw [if_neg (fun h => q1 h.1.1)]
      exact jt
theorem implKern_ev (hP : 1 ≤ P ∧ P ≤ 64) : Ev (fun k => impl_ValidKernel.l0 k 0 l (l.length : Int) 0 P l) (run 64 P l [] 0) := by
  have gen := ev_fold l (fun m (s : Int) k => impl_ValidKernel.l0 k s l (l.length : Int) (m : Int) P l) (fun d s => run 64 P d (l.take (l.length - d.length)) s) (fun m s => 0 ≤ s ∧ s ≤ 64 * (m : Int)) ?_ ?_ 0 0 (by omega) (by omega)
  · simpa using gen
  · intro s _
    refine Ev.step (fun k => by rw [impl_ValidKernel.l0]) ?_
    simp only [if_neg (show ¬ (l.length : Int) < (l.length : Int) by omega)]
    exact Ev.now _
  · intro m hm s hs ih
    refine Ev.step (fun k => by rw [impl_ValidKernel.l0]) ?_
    have hd : (l.drop (m + 1)).length = l.length - (m + 1) := List.length_drop ..
    have t1 : l.length - (l[m] :: l.drop (m + 1)).length = m := by rw [List.length_cons, hd]; omega
    have t2 : l.length - (l.drop (m + 1)).length = m + 1 := by rw [hd]; omega
    rw [t1]
    rw [t2] at ih
    simp only [if_pos (show (m : Int) < (l.length : Int) by omega), if_pos (show 0 ≤ (m : Int) by omega), if_pos (show (m : Int) ≤ (l.length : Int) by omega), rdk_nat hm, within_tells, impl_Tap_66.f, Int.toNat_natCast, Option.bind_some, decide_eq_true_eq]
    have tk : l.take m ++ [l[m]] = l.take (m + 1) := (List.take_succ_eq_append_getElem hm).symm
    unfold run
    rw [tk]
    generalize l[m] = x
    by_cases q0 : dupIn (l.take m) x = true
    · have q0' := q0
      unfold dupIn at q0'
      simp only [if_pos q0']
      rw [if_neg (fun h => by rw [q0] at h; exact absurd h.2 (by decide))]
      exact Ev.now _
    · have q0' := q0
      unfold dupIn at q0'
      simp only [if_neg q0']
      have q0f : dupIn (l.take m) x = false := by simpa using q0
      by_cases q1 : 0 ≤ x.f0 ∧ x.f0 ≤ 2
      · simp only [if_pos q1]
        by_cases q2 : -2 ≤ x.f1 ∧ x.f1 ≤ 2
        · simp only [if_pos q2]
          have rest : ∀ (h : ¬ (x.f0 < 1 ∧ x.f1 < 1)), Ev (fun k => if 1 ≤ x.f2 ∧ x.f2 ≤ 64 then impl_ValidKernel.l0 k (wrap64 (s + x.f2)) l (l.length : Int) (wrap64 ((m : Int) + 1)) P l else some false) (if tapOk 64 x ∧ dupIn (l.take m) x = false then run 64 P (l.drop (m + 1)) (l.take (m + 1)) (s + x.f2) else false) := by
            intro h
            by_cases q3 : 1 ≤ x.f2 ∧ x.f2 ≤ 64
            · have ok : tapOk 64 x := ⟨q1, q2, h, q3⟩
              simp only [if_pos q3]
              rw [if_pos ⟨ok, q0f⟩, w64 (x := s + x.f2) (by omega) (by omega), w_succ (m := m) (by omega)]
              exact ih _ (by omega)
            · simp only [if_neg q3]
              rw [if_neg (fun h => q3 h.1.2.2.2)]
              exact Ev.now _
          by_cases z : x.f0 < 1
          · simp only [if_pos z]
            by_cases z2 : x.f1 < 1
            · simp only [if_pos z2]
              rw [if_neg (fun h => h.1.2.2.1 ⟨z, z2⟩)]
              exact Ev.now _
            · simp only [if_neg z2]
              exact rest (fun h => z2 h.2)
          · simp only [if_neg z]
            exact rest (fun h => z h.1)
        · simp only [if_neg q2]
          rw [if_neg (fun h => q2 h.1.2.1)]
          exact Ev.now _
      · simp only [if_neg q1]
        rw [if_neg (fun h => q1 h.1.1)]
        exact Ev.now _
end
def kern (P : Int) (l : List S79) : Bool := if 1 ≤ P ∧ P ≤ 64 then if l.length ≤ 12 then run 64 P l [] 0 else false else false
theorem l09Kernel_ev (P : Int) (l : List S79) : Ev (fun k => spec_l09Kernel.f k P l) (kern P l) := by
  unfold spec_l09Kernel.f kern
  refine ev_bind' (in_tells _ _ _) ?_
  have no : Ev (fun k => spec_l09Kernel.j0 k true P l) false := Ev.step (fun k => by rw [spec_l09Kernel.j0]) (by simp only [if_true]; exact Ev.now _)
  by_cases hP : 1 ≤ P ∧ P ≤ 64
  · simp only [decide_eq_true hP, if_true, if_pos hP]
    by_cases hl : l.length ≤ 12
    · rw [decide_eq_false (show ¬ (l.length : Int) > 12 by omega), if_pos hl]
      refine Ev.step (fun k => by rw [spec_l09Kernel.j0]) ?_
      simp only [Bool.false_eq_true, if_false]
      rw [← run_same P hP.2 l [] 0 (by omega)]
      exact specKern_ev P hl hP
    · rw [decide_eq_true (show (l.length : Int) > 12 by omega), if_neg hl]
      exact no
  · simp only [decide_eq_false hP, Bool.false_eq_true, if_false, if_neg hP]
    exact no
theorem implKernel_ev (P : Int) (l : List S79) : Ev (fun k => impl_ValidKernel.f k P l) (kern P l) := by
  unfold impl_ValidKernel.f kern
  refine ev_bind' (within_tells _ _ _) ?_
  have no : Ev (fun k => impl_ValidKernel.j0 k true P l) false := Ev.step (fun k => by rw [impl_ValidKernel.j0]) (by simp only [if_true]; exact Ev.now _)
  by_cases hP : 1 ≤ P ∧ P ≤ 64
  · simp only [decide_eq_true hP, if_true, if_pos hP]
    by_cases hl : l.length ≤ 12
    · rw [decide_eq_false (show ¬ (l.length : Int) > 12 by omega), if_pos hl]
      refine Ev.step (fun k => by rw [impl_ValidKernel.j0]) ?_
      simp only [Bool.false_eq_true, if_false]
      exact implKern_ev P hl hP
    · rw [decide_eq_true (show (l.length : Int) > 12 by omega), if_neg hl]
      exact no
  · simp only [decide_eq_false hP, Bool.false_eq_true, if_false, if_neg hP]
    exact no
theorem run_ok (B P : Int) (r : List S79) : ∀ pre s, run B P r pre s = true → ∀ x ∈ r, tapOk B x := by
  induction r with
  | nil => intro pre s _ x hx; simp at hx
  | cons y r ih =>
    intro pre s h x hx
    unfold run at h
    by_cases c : tapOk B y ∧ dupIn pre y = false
    · rw [if_pos c] at h
      rcases List.mem_cons.1 hx with rfl | hx
      · exact c.1
      · exact ih _ _ h x hx
    · rw [if_neg c] at h; cases h
theorem kern_ok {P : Int} {l : List S79} (h : kern P l = true) : (1 ≤ P ∧ P ≤ 64) ∧ l.length ≤ 12 ∧ ∀ x ∈ l, tapOk 64 x := by
  unfold kern at h
  split at h
  · split at h
    · exact ⟨by assumption, by assumption, run_ok _ _ _ _ _ h⟩
    · cases h
  · cases h
end Go.Proofs.Ytpdkknfooblplaa.Pure
namespace Go.Proofs.Ytpdkknfooblplaa.Com
set_option linter.unusedSimpArgs false
set_option linter.unusedVariables false
set_option linter.unusedSectionVars false
open Go.RowKit Go.Proofs.YtpdkknfooblplaaW.PrintWords Go.Proofs.YtpdkknfooblplaaW.PrintMore Go.Proofs.Ytpdkknfooblplaa.Q Go.Proofs.Ytpdkknfooblplaa.Pure
theorem ww (x : Int) : wrap64 (wrap64 x) = wrap64 x := by unfold wrap64; omega
theorem in64 {x : Int} (h : wrap64 x = x) : -9223372036854775808 ≤ x ∧ x ≤ 9223372036854775807 := by unfold wrap64 at h; omega
def Wide (g : List (List Int)) : Prop := ∀ x ∈ g, ∀ z ∈ x, wrap64 z = z
def getG (g : List (List Int)) (i c : Nat) : Int := rd (rd_L1 g (i : Int)) (c : Int)
def putG (g : List (List Int)) (i c : Nat) (v : Int) : List (List Int) := g.set i ((rd_L1 g (i : Int)).set c v)
theorem put2_eq {R C : Nat} {g : List (List Int)} (h : Grid R C g) {i c : Nat} (hi : i < R) (hc : c < C) (v : Int) : put2 g (i : Int) (c : Int) v = some (putG g i c v) := by
  unfold put2 putG
  have hl : (rda g (i : Int)).length = C := h.rd hi
  rw [if_pos (by omega), if_pos (by rw [h.1]; omega), if_pos (by omega), if_pos (by omega), Int.toNat_natCast, Int.toNat_natCast]
  rfl
theorem put_grid {R C : Nat} {g : List (List Int)} (h : Grid R C g) {i : Nat} (hi : i < R) (c : Nat) (v : Int) : Grid R C (putG g i c v) := h.put c v hi
theorem put_wide {g : List (List Int)} (hw : Wide g) {i c : Nat} (hi : i < g.length) {v : Int} (hv : wrap64 v = v) : Wide (putG g i c v) := by
  intro x hx z hz
  unfold putG at hx
  rcases List.mem_or_eq_of_mem_set hx with hx | rfl
  · exact hw x hx z hz
  · rcases List.mem_or_eq_of_mem_set hz with hz | rfl
    · rw [rdr_nat hi] at hz
      exact hw _ (List.getElem_mem _) z hz
    · exact hv
theorem get_wide {R C : Nat} {g : List (List Int)} (h : Grid R C g) (hw : Wide g) {i c : Nat} (hi : i < R) (hc : c < C) : wrap64 (getG g i c) = getG g i c := by
  unfold getG
  have hi' : i < g.length := by rw [h.1]; exact hi
  have hl := h.rd hi
  rw [rdr_nat hi'] at hl ⊢
  rw [rd_nat (by omega)]
  exact hw _ (List.getElem_mem _) _ (List.getElem_mem _)
def fl (x b : Int) : Int := if Int.tmod x b < 0 then wrap64 (Int.tdiv x b - 1) else Int.tdiv x b
theorem tdiv_in {x b : Int} (hx : wrap64 x = x) (hb : 1 ≤ b) : wrap64 (Int.tdiv x b) = Int.tdiv x b ∧ wrap64 (Int.tdiv x b * b) = Int.tdiv x b * b ∧ (Int.tdiv x b * b > x ↔ Int.tmod x b < 0) := by
  have hx := in64 hx
  have e := Int.mul_tdiv_add_tmod x b
  have m : b * Int.tdiv x b = Int.tdiv x b * b := Int.mul_comm _ _
  rcases Int.lt_or_le x 0 with h | h
  · have h1 : Int.tdiv x b = -((-x) / b) := by rw [← Int.tdiv_eq_ediv_of_nonneg (show 0 ≤ -x by omega), Int.neg_tdiv, Int.neg_neg]
    have h2 : Int.tmod x b = -((-x) % b) := by rw [← Int.tmod_eq_emod_of_nonneg (show 0 ≤ -x by omega), Int.neg_tmod, Int.neg_neg]
    have h3 : 0 ≤ (-x) / b := Int.ediv_nonneg (by omega) (by omega)
    have h4 : (-x) / b ≤ -x := Int.ediv_le_self _ (by omega)
    have h5 : 0 ≤ (-x) % b := Int.emod_nonneg _ (by omega)
    have h6 : (-x) % b < b := Int.emod_lt_of_pos _ (by omega)
    have h7 : 0 ≤ (-x) / b * b := Int.mul_nonneg h3 (by omega)
    have h8 : Int.tdiv x b * b = -((-x) / b * b) := by rw [h1, Int.neg_mul]
    rw [m] at e
    refine ⟨w64 (by omega) (by omega), w64 (by omega) (by omega), by omega⟩
  · have h1 : Int.tdiv x b = x / b := Int.tdiv_eq_ediv_of_nonneg h
    have h2 : Int.tmod x b = x % b := Int.tmod_eq_emod_of_nonneg h
    have h3 : 0 ≤ x / b := Int.ediv_nonneg (by omega) (by omega)
    have h4 : x / b ≤ x := Int.ediv_le_self _ (by omega)
    have h5 : 0 ≤ x % b := Int.emod_nonneg _ (by omega)
    have h7 : 0 ≤ x / b * b := Int.mul_nonneg h3 (by omega)
    have h8 : Int.tdiv x b * b = x / b * b := by rw [h1]
    rw [m] at e
    refine ⟨w64 (by omega) (by omega), w64 (by omega) (by omega), by omega⟩
theorem implFl {x b : Int} (hx : wrap64 x = x) (hb : 1 ≤ b) : impl_floor.f x b = some (fl x b) := by
  have t := tdiv_in hx hb
  unfold impl_floor.f fl
  rw [if_neg (by omega), t.1]
  split <;> rfl
theorem specFl {x b : Int} (hx : wrap64 x = x) (hb : 1 ≤ b) : spec_l01Floor.f x b = some (fl x b) := by
  have t := tdiv_in hx hb
  unfold spec_l01Floor.f fl
  rw [if_neg (by omega), t.1, t.2.1]
  by_cases c : Int.tmod x b < 0
  · rw [if_pos c, if_pos (t.2.2.2 c)]
  · rw [if_neg c, if_neg (fun h => c (t.2.2.1 h))]
def eOne (z : Int) : Int := if wrap64 (2 * z) > 255 then 1 else 0
def eLeft (z : Int) : Int := if wrap64 (2 * z) > 255 then wrap64 (z - 255) else z
theorem specDot (z : Int) : spec_l09Dot.f z = some (eOne z, eLeft z) := by
  unfold spec_l09Dot.f eOne eLeft
  split <;> rfl
theorem implDot {z : Int} (hz : wrap64 z = z) : impl_dotOf.f z = some (eOne z, eLeft z) := by
  unfold impl_dotOf.f impl_bit.f eOne eLeft
  by_cases q : wrap64 (2 * z) > 255
  · simp only [decide_eq_true q, if_true, Option.bind_some, if_pos q]
    rw [w64 (x := 1 * 255) (by omega) (by omega)]
    rfl
  · simp only [decide_eq_false q, Bool.false_eq_true, if_false, Option.bind_some, if_neg q]
    rw [w64 (x := 0 * 255) (by omega) (by omega), show z - 0 * 255 = z by omega, hz]
def tapIn (R C i c : Nat) (way : Int) (t : S79) : Prop := (0 ≤ (i : Int) + t.f0 ∧ (i : Int) + t.f0 ≤ (R : Int) - 1) ∧ (0 ≤ (c : Int) + way * t.f1 ∧ (c : Int) + way * t.f1 ≤ (C : Int) - 1)
instance (R C i c : Nat) (way : Int) (t : S79) : Decidable (tapIn R C i c way t) := inferInstanceAs (Decidable (_ ∧ _))
def tStep (R C : Nat) (P : Int) (i c : Nat) (way e : Int) (s : List (List Int) × Int) (t : S79) : List (List Int) × Int :=
  if tapIn R C i c way t then (putG s.1 ((i : Int) + t.f0).toNat ((c : Int) + way * t.f1).toNat (wrap64 (getG s.1 ((i : Int) + t.f0).toNat ((c : Int) + way * t.f1).toNat + fl (wrap64 (e * t.f2)) P)), wrap64 (s.2 - fl (wrap64 (e * t.f2)) P)) else s
def colN (way : Int) (C n : Nat) : Nat := if way < 0 then C - 1 - n else n
theorem dway_is (a2 : Bool) (i : Int) : dway a2 i = 1 ∨ dway a2 i = -1 := by
  unfold dway
  split
  · split <;> simp
  · simp
theorem dcol_is {way : Int} {C n : Nat} (hC : C ≤ 12) (hn : n < C) : dcol way (C : Int) (n : Int) = ((colN way C n : Nat) : Int) := by
  unfold dcol colN
  split
  · rw [w64 (x := (C : Int) - 1) (by omega) (by omega), w64 (by omega) (by omega)]; omega
  · rfl
theorem idcol_is {a2 : Bool} {C n : Nat} {i : Int} (hC : C ≤ 12) (hn : n < C) : idcol a2 (C : Int) i (n : Int) = ((colN (dway a2 i) C n : Nat) : Int) := by
  unfold idcol colN dway
  rw [w64 (x := (C : Int) - 1) (by omega) (by omega), w64 (x := (C : Int) - 1 - (n : Int)) (by omega) (by omega)]
  cases a2
  · simp
  · simp only [if_true]
    by_cases c : Int.tmod i 2 = 1
    · simp only [if_pos c]; rw [if_pos (by omega)]; omega
    · simp only [if_neg c]; rw [if_neg (by omega)]
theorem colN_lt {way : Int} {C n : Nat} (hn : n < C) : colN way C n < C := by unfold colN; split <;> omega
abbrev DSt := List (List Int) × List (List Int) × Int
def cStep (R C : Nat) (P : Int) (l : List S79) (a2 : Bool) (i : Nat) (s : DSt) (n : Nat) : DSt :=
  ((l.foldl (tStep R C P i (colN (dway a2 (i : Int)) C n) (dway a2 (i : Int)) (eLeft (getG s.1 i (colN (dway a2 (i : Int)) C n)))) (s.1, eLeft (getG s.1 i (colN (dway a2 (i : Int)) C n)))).1,
   putG s.2.1 i (colN (dway a2 (i : Int)) C n) (eOne (getG s.1 i (colN (dway a2 (i : Int)) C n))),
   wrap64 (s.2.2 + (l.foldl (tStep R C P i (colN (dway a2 (i : Int)) C n) (dway a2 (i : Int)) (eLeft (getG s.1 i (colN (dway a2 (i : Int)) C n)))) (s.1, eLeft (getG s.1 i (colN (dway a2 (i : Int)) C n)))).2))
def rStep (R C : Nat) (P : Int) (l : List S79) (a2 : Bool) (s : DSt) (i : Nat) : DSt := (List.range C).foldl (cStep R C P l a2 i) s
def diffused (R C : Nat) (P : Int) (l : List S79) (a2 : Bool) (s : DSt) : DSt := (List.range R).foldl (rStep R C P l a2) s
def DInv (R C : Nat) (s : DSt) : Prop := Grid R C s.1 ∧ Wide s.1 ∧ Grid R C s.2.1
section
variable {R C : Nat} (hR : 1 ≤ R ∧ R ≤ 12) (hC : 1 ≤ C ∧ C ≤ 12) {P : Int} {l : List S79} (a2 : Bool) (hP : 1 ≤ P ∧ P ≤ 64) (hl : l.length ≤ 12) (hok : ∀ x ∈ l, tapOk 64 x)
include hR hC hP hl hok
theorem specTaps_ev {out : List (List Int)} {lost : Int} {i c n : Nat} {way : Int} (hi : i < R) (hc : c < C) (hway : way = 1 ∨ way = -1) (e : Int) (G : List (List Int) → Int → List (List Int) × Int × Bool)
    (cont : ∀ su left, Grid R C su → Wide su → Ev (fun k => spec_DiffuseDither.l1 k R C P l a2 su out (wrap64 (lost + left)) i way (wrap64 ((n : Int) + 1))) (G su left)) (su : List (List Int)) (hs : Grid R C su) (hw : Wide su) (left : Int) :
    Ev (fun k => spec_DiffuseDither.l2 k R C P l a2 su out lost i way n c e left 0) (G (l.foldl (tStep R C P i c way e) (su, left)).1 (l.foldl (tStep R C P i c way e) (su, left)).2) := by
  refine ev_fold l (fun m (s : List (List Int) × Int) k => spec_DiffuseDither.l2 k R C P l a2 s.1 out lost i way n c e s.2 (m : Int)) (fun d s => G (d.foldl (tStep R C P i c way e) s).1 (d.foldl (tStep R C P i c way e) s).2) (fun m s => Grid R C s.1 ∧ Wide s.1) ?_ ?_ 0 (su, left) (by omega) ⟨hs, hw⟩
  · rintro ⟨su, left⟩ ⟨h1, h2⟩
    refine Ev.step (fun k => by rw [spec_DiffuseDither.l2]) ?_
    simp only [if_neg (show ¬ (l.length : Int) < (l.length : Int) by omega), List.foldl_nil]
    exact cont _ _ h1 h2
  · rintro m hm ⟨su, left⟩ ⟨h1, h2⟩ ih
    have ok := hok _ (List.getElem_mem hm)
    refine Ev.step (fun k => by rw [spec_DiffuseDither.l2]) ?_
    simp only [if_pos (show (m : Int) < (l.length : Int) by omega), if_pos (show 0 ≤ (m : Int) by omega), rdk_nat hm, w_succ (m := m) (by omega), List.foldl_cons]
    simp only at h1 h2
    generalize l[m] = t at ok ⊢
    have ih' := ih (tStep R C P i c way e (su, left) t)
    revert ih'
    generalize List.drop (m + 1) l = d
    obtain ⟨o1, o2, _, o4⟩ := ok
    have hq : ∃ q, way * t.f1 = q ∧ -2 ≤ q ∧ q ≤ 2 := by
      rcases hway with rfl | rfl
      · exact ⟨_, rfl, by omega, by omega⟩
      · exact ⟨_, rfl, by omega, by omega⟩
    obtain ⟨q, hq, q1, q2⟩ := hq
    rw [hq, w64 (x := (i : Int) + t.f0) (by omega) (by omega), w64 (x := q) (by omega) (by omega), w64 (x := (c : Int) + q) (by omega) (by omega), w64 (x := (C : Int) - 1) (by omega) (by omega), specFl (ww _) hP.1]
    simp only [in_tells, Option.bind_some]
    by_cases b1 : (i : Int) + t.f0 < (R : Int)
    · simp only [if_pos b1]
      by_cases b2 : 0 ≤ (c : Int) + q ∧ (c : Int) + q ≤ (C : Int) - 1
      · simp only [decide_eq_true b2, if_true]
        have hin : tapIn R C i c way t := by unfold tapIn; rw [hq]; exact ⟨⟨by omega, by omega⟩, b2⟩
        obtain ⟨x, hx⟩ : ∃ x : Nat, (i : Int) + t.f0 = (x : Int) := ⟨((i : Int) + t.f0).toNat, by omega⟩
        obtain ⟨y, hy⟩ : ∃ y : Nat, (c : Int) + q = (y : Int) := ⟨((c : Int) + q).toNat, by omega⟩
        have hT : tStep R C P i c way e (su, left) t = (putG su x y (wrap64 (getG su x y + fl (wrap64 (e * t.f2)) P)), wrap64 (left - fl (wrap64 (e * t.f2)) P)) := by
          unfold tStep
          rw [if_pos hin]
          simp only [hq, hx, hy, Int.toNat_natCast]
        rw [hT]
        intro ih'
        simp only [hx, hy, put2_eq h1 (show x < R by omega) (show y < C by omega), Option.bind_some]
        exact ih' ⟨put_grid h1 (show x < R by omega) _ _, put_wide h2 (by rw [h1.1]; omega) (ww _)⟩
      · simp only [decide_eq_false b2, Bool.false_eq_true, if_false]
        have hin : ¬ tapIn R C i c way t := by unfold tapIn; rw [hq]; exact fun h => b2 h.2
        have hT : tStep R C P i c way e (su, left) t = (su, left) := by unfold tStep; rw [if_neg hin]
        rw [hT]
        intro ih'
        exact ih' ⟨h1, h2⟩
    · simp only [if_neg b1]
      have hin : ¬ tapIn R C i c way t := by unfold tapIn; exact fun h => b1 (by have := h.1.2; omega)
      have hT : tStep R C P i c way e (su, left) t = (su, left) := by unfold tStep; rw [if_neg hin]
      rw [hT]
      intro ih'
      exact ih' ⟨h1, h2⟩
theorem implTaps_ev {out : List (List Int)} {lost : Int} {i c n : Nat} {way : Int} (hi : i < R) (hc : c < C) (hway : way = 1 ∨ way = -1) (e : Int) (G : List (List Int) → Int → List (List Int) × Int × Bool)
    (cont : ∀ su left, Grid R C su → Wide su → Ev (fun k => impl_DiffuseDither.l1 k R C P l a2 su out (wrap64 (lost + left)) i (wrap64 ((n : Int) + 1))) (G su left)) (su : List (List Int)) (hs : Grid R C su) (hw : Wide su) (left : Int) :
    Ev (fun k => impl_DiffuseDither.l2 k R C P l a2 su out (wrap64 (lost + left)) i n c way e 0) (G (l.foldl (tStep R C P i c way e) (su, left)).1 (l.foldl (tStep R C P i c way e) (su, left)).2) := by
  refine ev_fold l (fun m (s : List (List Int) × Int) k => impl_DiffuseDither.l2 k R C P l a2 s.1 out (wrap64 (lost + s.2)) i n c way e (m : Int)) (fun d s => G (d.foldl (tStep R C P i c way e) s).1 (d.foldl (tStep R C P i c way e) s).2) (fun m s => Grid R C s.1 ∧ Wide s.1) ?_ ?_ 0 (su, left) (by omega) ⟨hs, hw⟩
  · rintro ⟨su, left⟩ ⟨h1, h2⟩
    refine Ev.step (fun k => by rw [impl_DiffuseDither.l2]) ?_
    simp only [if_neg (show ¬ (l.length : Int) < (l.length : Int) by omega), List.foldl_nil]
    exact cont _ _ h1 h2
  · rintro m hm ⟨su, left⟩ ⟨h1, h2⟩ ih
    have ok := hok _ (List.getElem_mem hm)
    refine Ev.step (fun k => by rw [impl_DiffuseDither.l2]) ?_
    simp only [if_pos (show (m : Int) < (l.length : Int) by omega), if_pos (show 0 ≤ (m : Int) by omega), rdk_nat hm, w_succ (m := m) (by omega), List.foldl_cons]
    simp only at h1 h2
    generalize l[m] = t at ok ⊢
    have ih' := ih (tStep R C P i c way e (su, left) t)
    revert ih'
    generalize List.drop (m + 1) l = d
    obtain ⟨o1, o2, _, o4⟩ := ok
    have hq : ∃ q, way * t.f1 = q ∧ -2 ≤ q ∧ q ≤ 2 := by
      rcases hway with rfl | rfl
      · exact ⟨_, rfl, by omega, by omega⟩
      · exact ⟨_, rfl, by omega, by omega⟩
    obtain ⟨q, hq, q1, q2⟩ := hq
    rw [hq, w64 (x := (i : Int) + t.f0) (by omega) (by omega), w64 (x := q) (by omega) (by omega), w64 (x := (c : Int) + q) (by omega) (by omega), w64 (x := (C : Int) - 1) (by omega) (by omega), w64 (x := (R : Int) - 1) (by omega) (by omega), implFl (ww _) hP.1]
    simp only [within_tells, Option.bind_some]
    by_cases b1 : 0 ≤ (i : Int) + t.f0 ∧ (i : Int) + t.f0 ≤ (R : Int) - 1
    · simp only [decide_eq_true b1, if_true]
      by_cases b2 : 0 ≤ (c : Int) + q ∧ (c : Int) + q ≤ (C : Int) - 1
      · simp only [decide_eq_true b2, if_true]
        have hin : tapIn R C i c way t := by unfold tapIn; rw [hq]; exact ⟨b1, b2⟩
        obtain ⟨x, hx⟩ : ∃ x : Nat, (i : Int) + t.f0 = (x : Int) := ⟨((i : Int) + t.f0).toNat, by omega⟩
        obtain ⟨y, hy⟩ : ∃ y : Nat, (c : Int) + q = (y : Int) := ⟨((c : Int) + q).toNat, by omega⟩
        have hT : tStep R C P i c way e (su, left) t = (putG su x y (wrap64 (getG su x y + fl (wrap64 (e * t.f2)) P)), wrap64 (left - fl (wrap64 (e * t.f2)) P)) := by
          unfold tStep
          rw [if_pos hin]
          simp only [hq, hx, hy, Int.toNat_natCast]
        rw [hT]
        intro ih'
        simp only [hx, hy, put2_eq h1 (show x < R by omega) (show y < C by omega), Option.bind_some]
        have := ih' ⟨put_grid h1 (show x < R by omega) _ _, put_wide h2 (by rw [h1.1]; omega) (ww _)⟩
        rwa [show wrap64 (lost + wrap64 (left - fl (wrap64 (e * t.f2)) P)) = wrap64 (wrap64 (lost + left) - fl (wrap64 (e * t.f2)) P) by unfold wrap64; omega] at this
      · simp only [decide_eq_false b2, Bool.false_eq_true, if_false]
        have hin : ¬ tapIn R C i c way t := by unfold tapIn; rw [hq]; exact fun h => b2 h.2
        have hT : tStep R C P i c way e (su, left) t = (su, left) := by unfold tStep; rw [if_neg hin]
        rw [hT]
        intro ih'
        exact ih' ⟨h1, h2⟩
    · simp only [decide_eq_false b1, Bool.false_eq_true, if_false]
      have hin : ¬ tapIn R C i c way t := by unfold tapIn; exact fun h => b1 h.1
      have hT : tStep R C P i c way e (su, left) t = (su, left) := by unfold tStep; rw [if_neg hin]
      rw [hT]
      intro ih'
      exact ih' ⟨h1, h2⟩
theorem specCells_ev {i : Nat} (hi : i < R) (G : DSt → List (List Int) × Int × Bool) (cont : ∀ s, DInv R C s → Ev (fun k => spec_DiffuseDither.l0 k R C P l a2 s.1 s.2.1 s.2.2 (wrap64 ((i : Int) + 1))) (G s)) (s : DSt) (hs : DInv R C s) :
    Ev (fun k => spec_DiffuseDither.l1 k R C P l a2 s.1 s.2.1 s.2.2 i (dway a2 (i : Int)) 0) (G (rStep R C P l a2 s i)) := by
  refine ev_fold (List.range C) (fun m (s : DSt) k => spec_DiffuseDither.l1 k R C P l a2 s.1 s.2.1 s.2.2 i (dway a2 (i : Int)) (m : Int)) (fun d s => G (d.foldl (cStep R C P l a2 i) s)) (fun m s => DInv R C s) ?_ ?_ 0 s (by omega) hs
  · intro s hs
    refine Ev.step (fun k => by rw [spec_DiffuseDither.l1]) ?_
    simp only [List.length_range, if_neg (show ¬ (C : Int) < (C : Int) by omega), List.foldl_nil]
    exact cont s hs
  · rintro m hm ⟨su, out, lost⟩ hs ih
    have hm' : m < C := by simpa using hm
    refine Ev.step (fun k => by rw [spec_DiffuseDither.l1]) ?_
    rw [List.getElem_range, List.foldl_cons]
    have hcl := colN_lt (way := dway a2 (i : Int)) hm'
    have hl1 : (rda su (i : Int)).length = C := hs.1.rd hi
    have hl0 : su.length = R := hs.1.1
    simp only [if_pos (show (m : Int) < (C : Int) by omega), if_pos (show 0 ≤ (i : Int) by omega), hl0, if_pos (show (i : Int) < (R : Int) by omega), dcol_is hC.2 hm', hl1, if_pos (show (0 : Int) ≤ ((colN (dway a2 (i : Int)) C m : Nat) : Int) by omega), if_pos (show ((colN (dway a2 (i : Int)) C m : Nat) : Int) < (C : Int) by omega), specDot, Option.bind_some, put2_eq hs.2.2 hi hcl]
    exact specTaps_ev hR hC a2 hP hl hok hi hcl (dway_is _ _) (eLeft (getG su i (colN (dway a2 (i : Int)) C m))) (fun su' left => G ((List.drop (m + 1) (List.range C)).foldl (cStep R C P l a2 i) (su', putG out i (colN (dway a2 (i : Int)) C m) (eOne (getG su i (colN (dway a2 (i : Int)) C m))), wrap64 (lost + left)))) (fun su' left h1 h2 => by
      have := ih (su', putG out i (colN (dway a2 (i : Int)) C m) (eOne (getG su i (colN (dway a2 (i : Int)) C m))), wrap64 (lost + left)) ⟨h1, h2, put_grid hs.2.2 hi _ _⟩
      rw [w_succ (m := m) (by omega)]
      exact this) su hs.1 hs.2.1 _
theorem implCells_ev {i : Nat} (hi : i < R) (G : DSt → List (List Int) × Int × Bool) (cont : ∀ s, DInv R C s → Ev (fun k => impl_DiffuseDither.l0 k R C P l a2 s.1 s.2.1 s.2.2 (wrap64 ((i : Int) + 1))) (G s)) (s : DSt) (hs : DInv R C s) :
    Ev (fun k => impl_DiffuseDither.l1 k R C P l a2 s.1 s.2.1 s.2.2 i 0) (G (rStep R C P l a2 s i)) := by
  refine ev_fold (List.range C) (fun m (s : DSt) k => impl_DiffuseDither.l1 k R C P l a2 s.1 s.2.1 s.2.2 i (m : Int)) (fun d s => G (d.foldl (cStep R C P l a2 i) s)) (fun m s => DInv R C s) ?_ ?_ 0 s (by omega) hs
  · intro s hs
    refine Ev.step (fun k => by rw [impl_DiffuseDither.l1]) ?_
    simp only [List.length_range, if_neg (show ¬ (C : Int) < (C : Int) by omega), List.foldl_nil]
    exact cont s hs
  · rintro m hm ⟨su, out, lost⟩ hs ih
    have hm' : m < C := by simpa using hm
    refine Ev.step (fun k => by rw [impl_DiffuseDither.l1]) ?_
    rw [List.getElem_range, List.foldl_cons]
    have hcl := colN_lt (way := dway a2 (i : Int)) hm'
    have hl1 : (rda su (i : Int)).length = C := hs.1.rd hi
    have hl0 : su.length = R := hs.1.1
    have hz : wrap64 (rd (rda su (i : Int)) ((colN (dway a2 (i : Int)) C m : Nat) : Int)) = rd (rda su (i : Int)) ((colN (dway a2 (i : Int)) C m : Nat) : Int) := get_wide hs.1 hs.2.1 hi hcl
    simp only [if_pos (show (m : Int) < (C : Int) by omega), if_pos (show 0 ≤ (i : Int) by omega), hl0, if_pos (show (i : Int) < (R : Int) by omega), idcol_is hC.2 hm', hl1, if_pos (show (0 : Int) ≤ ((colN (dway a2 (i : Int)) C m : Nat) : Int) by omega), if_pos (show ((colN (dway a2 (i : Int)) C m : Nat) : Int) < (C : Int) by omega), implDot hz, Option.bind_some, put2_eq hs.2.2 hi hcl]
    exact implTaps_ev hR hC a2 hP hl hok hi hcl (dway_is _ _) (eLeft (getG su i (colN (dway a2 (i : Int)) C m))) (fun su' left => G ((List.drop (m + 1) (List.range C)).foldl (cStep R C P l a2 i) (su', putG out i (colN (dway a2 (i : Int)) C m) (eOne (getG su i (colN (dway a2 (i : Int)) C m))), wrap64 (lost + left)))) (fun su' left h1 h2 => by
      have := ih (su', putG out i (colN (dway a2 (i : Int)) C m) (eOne (getG su i (colN (dway a2 (i : Int)) C m))), wrap64 (lost + left)) ⟨h1, h2, put_grid hs.2.2 hi _ _⟩
      rw [w_succ (m := m) (by omega)]
      exact this) su hs.1 hs.2.1 _
theorem specRows_ev (s : DSt) (hs : DInv R C s) : Ev (fun k => spec_DiffuseDither.l0 k R C P l a2 s.1 s.2.1 s.2.2 0) ((diffused R C P l a2 s).2.1, (diffused R C P l a2 s).2.2, true) := by
  refine ev_fold (List.range R) (fun m (s : DSt) k => spec_DiffuseDither.l0 k R C P l a2 s.1 s.2.1 s.2.2 (m : Int)) (fun d s => ((d.foldl (rStep R C P l a2) s).2.1, (d.foldl (rStep R C P l a2) s).2.2, true)) (fun m s => DInv R C s) ?_ ?_ 0 s (by omega) hs
  · intro s hs
    refine Ev.step (fun k => by rw [spec_DiffuseDither.l0]) ?_
    simp only [List.length_range, if_neg (show ¬ (R : Int) < (R : Int) by omega), List.foldl_nil]
    exact Ev.now _
  · intro m hm s hs ih
    have hm' : m < R := by simpa using hm
    refine Ev.step (fun k => by rw [spec_DiffuseDither.l0]) ?_
    rw [List.getElem_range, List.foldl_cons]
    simp only [if_pos (show (m : Int) < (R : Int) by omega)]
    exact specCells_ev hR hC a2 hP hl hok hm' (fun s => (((List.drop (m + 1) (List.range R)).foldl (rStep R C P l a2) s).2.1, ((List.drop (m + 1) (List.range R)).foldl (rStep R C P l a2) s).2.2, true)) (fun s hs => by rw [w_succ (m := m) (by omega)]; exact ih s hs) s hs
theorem implRows_ev (s : DSt) (hs : DInv R C s) : Ev (fun k => impl_DiffuseDither.l0 k R C P l a2 s.1 s.2.1 s.2.2 0) ((diffused R C P l a2 s).2.1, (diffused R C P l a2 s).2.2, true) := by
  refine ev_fold (List.range R) (fun m (s : DSt) k => impl_DiffuseDither.l0 k R C P l a2 s.1 s.2.1 s.2.2 (m : Int)) (fun d s => ((d.foldl (rStep R C P l a2) s).2.1, (d.foldl (rStep R C P l a2) s).2.2, true)) (fun m s => DInv R C s) ?_ ?_ 0 s (by omega) hs
  · intro s hs
    refine Ev.step (fun k => by rw [impl_DiffuseDither.l0]) ?_
    simp only [List.length_range, if_neg (show ¬ (R : Int) < (R : Int) by omega), List.foldl_nil]
    exact Ev.now _
  · intro m hm s hs ih
    have hm' : m < R := by simpa using hm
    refine Ev.step (fun k => by rw [impl_DiffuseDither.l0]) ?_
    rw [List.getElem_range, List.foldl_cons]
    simp only [if_pos (show (m : Int) < (R : Int) by omega)]
    exact implCells_ev hR hC a2 hP hl hok hm' (fun s => (((List.drop (m + 1) (List.range R)).foldl (rStep R C P l a2) s).2.1, ((List.drop (m + 1) (List.range R)).foldl (rStep R C P l a2) s).2.2, true)) (fun s hs => by rw [w_succ (m := m) (by omega)]; exact ih s hs) s hs
theorem tStep_inv {i c : Nat} {way e : Int} (hi : i < R) (hc : c < C) (d : List S79) (hd : ∀ x ∈ d, tapOk 64 x) (s : List (List Int) × Int) (h1 : Grid R C s.1) (h2 : Wide s.1) : Grid R C (d.foldl (tStep R C P i c way e) s).1 ∧ Wide (d.foldl (tStep R C P i c way e) s).1 := by
  induction d generalizing s with
  | nil => exact ⟨h1, h2⟩
  | cons t r ih =>
    rw [List.foldl_cons]
    have hn : Grid R C (tStep R C P i c way e s t).1 ∧ Wide (tStep R C P i c way e s t).1 := by
      unfold tStep
      by_cases q : tapIn R C i c way t
      · rw [if_pos q]
        have q1 := q.1
        exact ⟨put_grid h1 (by omega) _ _, put_wide h2 (by rw [h1.1]; omega) (ww _)⟩
      · rw [if_neg q]
        exact ⟨h1, h2⟩
    exact ih (fun x hx => hd x (List.mem_cons_of_mem _ hx)) _ hn.1 hn.2
theorem cStep_inv {i n : Nat} (hi : i < R) (hn : n < C) (s : DSt) (hs : DInv R C s) : DInv R C (cStep R C P l a2 i s n) := by
  have := tStep_inv (P := P) hR hC hP hl hok (way := dway a2 (i : Int)) (e := eLeft (getG s.1 i (colN (dway a2 (i : Int)) C n))) hi (colN_lt (way := dway a2 (i : Int)) hn) l hok (s.1, eLeft (getG s.1 i (colN (dway a2 (i : Int)) C n))) hs.1 hs.2.1
  exact ⟨this.1, this.2, put_grid hs.2.2 hi _ _⟩
theorem rStep_inv {i : Nat} (hi : i < R) (s : DSt) (hs : DInv R C s) : DInv R C (rStep R C P l a2 s i) := by
  have key : ∀ (ns : List Nat) (s : DSt), (∀ n ∈ ns, n < C) → DInv R C s → DInv R C (ns.foldl (cStep R C P l a2 i) s) := by
    intro ns
    induction ns with
    | nil => intro s _ h; exact h
    | cons n r ih => intro s h1 h2; exact ih _ (fun x hx => h1 x (List.mem_cons_of_mem _ hx)) (cStep_inv hR hC a2 hP hl hok hi (h1 n List.mem_cons_self) s h2)
  exact key _ s (fun n hn => List.mem_range.1 hn) hs
theorem diffused_inv (s : DSt) (hs : DInv R C s) : DInv R C (diffused R C P l a2 s) := by
  have key : ∀ (ns : List Nat) (s : DSt), (∀ n ∈ ns, n < R) → DInv R C s → DInv R C (ns.foldl (rStep R C P l a2) s) := by
    intro ns
    induction ns with
    | nil => intro s _ h; exact h
    | cons n r ih => intro s h1 h2; exact ih _ (fun x hx => h1 x (List.mem_cons_of_mem _ hx)) (rStep_inv hR hC a2 hP hl hok (h1 n List.mem_cons_self) s h2)
  exact key _ s (fun n hn => List.mem_range.1 hn) hs
end
theorem l05Copy_ev (l : List (List Int)) (hl : l.length ≤ 1048576) (hr : ∀ x ∈ l, x.length ≤ 1048576) : Ev (fun k => spec_l05Copy.f k l) l := by
  unfold spec_l05Copy.f
  refine ev_count l.length (fun m (s : List (List Int)) k => spec_l05Copy.l0 k l s (m : Int)) l (fun m s => s = l.take m) ?_ ?_ 0 [] (by omega) (by simp)
  · rintro _ rfl
    refine Ev.step (fun k => by rw [spec_l05Copy.l0]) ?_
    simp only [if_neg (show ¬ (l.length : Int) < (l.length : Int) by omega), List.take_length]
    exact Ev.now _
  · rintro m _ hm rfl
    refine ⟨_, rfl, fun ih => ?_⟩
    refine Ev.step (fun k => by rw [spec_l05Copy.l0]) ?_
    have hlen := hr _ (List.getElem_mem hm)
    have ht : (l.take m).length = m := by rw [List.length_take]; omega
    have ho : spec_l00Own.f l[m] = some l[m] := by
      unfold spec_l00Own.f
      rw [Option.bind_some, if_pos (by simp; omega), List.nil_append]
    simp only [if_pos (show (m : Int) < (l.length : Int) by omega), if_pos (show 0 ≤ (m : Int) by omega), rdr_nat hm, ho, Option.bind_some, ht, if_pos (show m < 5864062014805 by omega), w_succ (m := m) (by omega)]
    rw [← List.take_succ_eq_append_getElem hm]
    exact ih
theorem ownRows_ev (l : List (List Int)) (hl : l.length ≤ 1048576) (hr : ∀ x ∈ l, x.length ≤ 1048576) : Ev (fun k => impl_ownRows.f k l) l := by
  unfold impl_ownRows.f
  refine ev_count l.length (fun m (s : List (List Int)) k => impl_ownRows.l0 k s l (l.length : Int) (m : Int)) l (fun m s => s = l.take m) ?_ ?_ 0 [] (by omega) (by simp)
  · rintro _ rfl
    refine Ev.step (fun k => by rw [impl_ownRows.l0]) ?_
    simp only [if_neg (show ¬ (l.length : Int) < (l.length : Int) by omega), List.take_length]
    exact Ev.now _
  · rintro m _ hm rfl
    refine ⟨_, rfl, fun ih => ?_⟩
    refine Ev.step (fun k => by rw [impl_ownRows.l0]) ?_
    have hlen := hr _ (List.getElem_mem hm)
    have ht : (l.take m).length = m := by rw [List.length_take]; omega
    have ho : slices_Clone_int64_int64.f l[m] = some l[m] := by
      unfold slices_Clone_int64_int64.f
      rw [if_pos (by omega)]
    simp only [if_pos (show (m : Int) < (l.length : Int) by omega), if_pos (show 0 ≤ (m : Int) by omega), rdr_nat hm, ho, Option.bind_some, ht, if_pos (show m < 5864062014805 by omega), w_succ (m := m) (by omega)]
    rw [← List.take_succ_eq_append_getElem hm]
    exact ih
theorem dvp (p : List (List Int)) : impl_ValidPicture.f p = some (rowsForm 255 p) := by
  unfold impl_ValidPicture.f
  rw [areRows_tells]
  rfl
def diffOf (p : List (List Int)) (P : Int) (l : List S79) (a2 : Bool) : DSt := diffused p.length (rd_L1 p 0).length P l a2 (p, grid0 p.length (rd_L1 p 0).length, 0)
section
variable {p : List (List Int)} (P : Int) (l : List S79) (a2 : Bool) (hp : p.length ≤ 1048576) (hp' : ∀ x ∈ p, x.length ≤ 1048576)
include hp hp'
theorem diffGood (v : rowsForm 255 p = true) (hk : kern P l = true) : Ev (fun k => spec_DiffuseDither.f k p P l a2) ((diffOf p P l a2).2.1, (diffOf p P l a2).2.2, true) ∧ Ev (fun k => impl_DiffuseDither.f k p P l a2) ((diffOf p P l a2).2.1, (diffOf p P l a2).2.2, true) ∧ Grid p.length (rd_L1 p 0).length (diffOf p P l a2).2.1 ∧ p.length ≤ 12 ∧ (rd_L1 p 0).length ≤ 12 := by
  have S0 : Ev (fun k => spec_l09Is.f k p) (rowsForm 255 p) := by unfold spec_l09Is.f; exact Ev.bind (form_ev p 255 hp hp') (Ev.now _)
  obtain ⟨R, C, R1, R2, C1, C2, gp, cp, hv⟩ := rowsForm_is v
  obtain ⟨kP, kl, kok⟩ := kern_ok hk
  unfold diffOf
  have wp : Wide p := fun x hx z hz => by have := hv x hx z hz; exact w64 (by omega) (by omega)
  rw [gp.1, cp]
  have i0 : DInv R C (p, grid0 R C, 0) := ⟨gp, wp, grid0_is R C⟩
  have inv := diffused_inv ⟨R1, R2⟩ ⟨C1, C2⟩ a2 kP kl kok _ i0
  have cp' : (rda p 0).length = C := cp
  refine ⟨?_, ?_, inv.2.2, R2, C2⟩
  · unfold spec_DiffuseDither.f
    refine Ev.bind S0 ?_
    simp only [v, if_true]
    refine Ev.bind (l09Kernel_ev P l) ?_
    simp only [hk, if_true, gp.1, cp', if_pos (show (0 : Int) < (R : Int) by omega)]
    exact Ev.bind (l05Copy_ev p hp hp') (Ev.bind (square_ev R C (by omega) (by omega)) (specRows_ev ⟨R1, R2⟩ ⟨C1, C2⟩ a2 kP kl kok _ i0))
  · unfold impl_DiffuseDither.f
    refine ev_bind' (dvp p) ?_
    simp only [v, if_true]
    refine Ev.bind (implKernel_ev P l) ?_
    simp only [hk, if_true, gp.1, cp', if_pos (show (0 : Int) < (R : Int) by omega)]
    exact Ev.bind (ownRows_ev p hp hp') (Ev.bind (noughts_ev R C (by omega) (by omega)) (implRows_ev ⟨R1, R2⟩ ⟨C1, C2⟩ a2 kP kl kok _ i0))
end
end Go.Proofs.Ytpdkknfooblplaa.Com
namespace Go.Proofs.Ytpdkknfooblplaa.Com
set_option linter.unusedSimpArgs false
set_option linter.unusedVariables false
set_option linter.unusedSectionVars false
open Go.RowKit Go.Proofs.YtpdkknfooblplaaW.PrintWords Go.Proofs.YtpdkknfooblplaaW.PrintMore Go.Proofs.Ytpdkknfooblplaa.Q
def sumAll (g : List (List Int)) : Int := (g.map List.sum).sum
theorem sum_bd (l : List Int) (B : Int) (hB : 0 ≤ B) (h : ∀ z ∈ l, -B ≤ z ∧ z ≤ B) : -((l.length : Int) * B) ≤ l.sum ∧ l.sum ≤ (l.length : Int) * B := by
  induction l with
  | nil => simp
  | cons x r ih =>
    have h1 := h x (List.mem_cons_self ..)
    have h2 := ih (fun z hz => h z (List.mem_cons_of_mem _ hz))
    rw [List.sum_cons, List.length_cons, Int.natCast_add, Int.add_mul]
    omega
theorem sum_snoc (l : List Int) (x : Int) : (l ++ [x]).sum = l.sum + x := by simp
theorem b10Sum_ev (l : List Int) (hl : l.length ≤ 100000) (h : ∀ z ∈ l, -1000000000 ≤ z ∧ z ≤ 1000000000) : Ev (fun k => laws_b10Sum.f k l) l.sum := by
  unfold laws_b10Sum.f
  have key := ev_fold l (fun m (s : Int) k => laws_b10Sum.l0 k l s (m : Int)) (fun d s => s + d.sum) (fun m s => s = (l.take m).sum) ?_ ?_ 0 0 (by omega) (by simp)
  · rw [List.drop_zero, Int.zero_add] at key
    exact key
  · intro s _
    refine Ev.step (fun k => by rw [laws_b10Sum.l0]) ?_
    simp only [if_neg (show ¬ (l.length : Int) < (l.length : Int) by omega), List.sum_nil, Int.add_zero]
    exact Ev.now _
  · intro m hm s hs ih
    have e : (l.take (m + 1)).sum = s + l[m] := by rw [List.take_succ_eq_append_getElem hm, sum_snoc, hs]
    have b := sum_bd (l.take m) 1000000000 (by omega) (fun z hz => h z (List.mem_of_mem_take hz))
    have b2 := h _ (List.getElem_mem hm)
    have b3 : (l.take m).length ≤ 100000 := by rw [List.length_take]; omega
    have b4 : ((l.take m).length : Int) * 1000000000 ≤ 100000 * 1000000000 := Int.mul_le_mul_of_nonneg_right (by omega) (by omega)
    rw [← hs] at b
    refine Ev.step (fun k => by rw [laws_b10Sum.l0]) ?_
    simp only [if_pos (show (m : Int) < (l.length : Int) by omega), if_pos (show 0 ≤ (m : Int) by omega), rd_nat hm, w64 (x := s + l[m]) (by omega) (by omega), w_succ (m := m) (by omega)]
    rw [List.sum_cons, ← Int.add_assoc]
    exact ih (s + l[m]) e.symm
theorem b10All_ev (g : List (List Int)) (hl : g.length ≤ 1000) (h1 : ∀ x ∈ g, x.length ≤ 1000) (h : ∀ x ∈ g, ∀ z ∈ x, -1000000000 ≤ z ∧ z ≤ 1000000000) : Ev (fun k => laws_b10All.f k g) (sumAll g) := by
  unfold laws_b10All.f sumAll
  have rows : ∀ x ∈ g, -1000000000000 ≤ x.sum ∧ x.sum ≤ 1000000000000 := fun x hx => by
    have b := sum_bd x 1000000000 (by omega) (h x hx)
    have b3 := h1 x hx
    have b4 : (x.length : Int) * 1000000000 ≤ 1000 * 1000000000 := Int.mul_le_mul_of_nonneg_right (by omega) (by omega)
    omega
  have key := ev_fold g (fun m (s : Int) k => laws_b10All.l0 k g s (m : Int)) (fun d s => s + (d.map List.sum).sum) (fun m s => s = ((g.take m).map List.sum).sum) ?_ ?_ 0 0 (by omega) (by simp)
  · rw [List.drop_zero, Int.zero_add] at key
    exact key
  · intro s _
    refine Ev.step (fun k => by rw [laws_b10All.l0]) ?_
    simp only [if_neg (show ¬ (g.length : Int) < (g.length : Int) by omega), List.map_nil, List.sum_nil, Int.add_zero]
    exact Ev.now _
  · intro m hm s hs ih
    have e : ((g.take (m + 1)).map List.sum).sum = s + g[m].sum := by rw [List.take_succ_eq_append_getElem hm, List.map_append, List.map_singleton, sum_snoc, hs]
    have b := sum_bd ((g.take m).map List.sum) 1000000000000 (by omega) (fun z hz => by
      obtain ⟨x, hx, rfl⟩ := List.mem_map.1 hz
      exact rows x (List.mem_of_mem_take hx))
    have b2 := rows _ (List.getElem_mem hm)
    have b3 : ((g.take m).map List.sum).length ≤ 1000 := by rw [List.length_map, List.length_take]; omega
    have b4 : (((g.take m).map List.sum).length : Int) * 1000000000000 ≤ 1000 * 1000000000000 := Int.mul_le_mul_of_nonneg_right (by omega) (by omega)
    rw [← hs] at b
    have hr : rd_L1 g (m : Int) = g[m] := rdr_nat hm
    refine Ev.step (fun k => by rw [laws_b10All.l0]) ?_
    simp only [if_pos (show (m : Int) < (g.length : Int) by omega), if_pos (show 0 ≤ (m : Int) by omega), hr, w_succ (m := m) (by omega)]
    refine Ev.bind (b10Sum_ev g[m] (by have := h1 _ (List.getElem_mem hm); omega) (h _ (List.getElem_mem hm))) ?_
    simp only [w64 (x := s + g[m].sum) (by omega) (by omega)]
    rw [List.map_cons, List.sum_cons, ← Int.add_assoc]
    exact ih (s + g[m].sum) e.symm
theorem sum_set (l : List Int) (i : Nat) (v : Int) (h : i < l.length) : (l.set i v).sum = l.sum - l[i] + v := by
  induction l generalizing i with
  | nil => simp at h
  | cons x r ih =>
    cases i with
    | zero => simp; omega
    | succ i =>
      simp only [List.set_cons_succ, List.sum_cons, List.getElem_cons_succ]
      rw [ih i (by simpa using h)]
      omega
theorem sumAll_grid0 (R C : Nat) : sumAll (grid0 R C) = 0 := by
  unfold sumAll grid0
  rw [List.map_replicate]
  have : ∀ n : Nat, ∀ z : Int, z = 0 → (List.replicate n z).sum = 0 := fun n z h => by
    subst h
    induction n with
    | zero => rfl
    | succ n ih => rw [List.replicate_succ, List.sum_cons, ih]; rfl
  exact this _ _ (this _ _ rfl)
end Go.Proofs.Ytpdkknfooblplaa.Com
namespace Go.Proofs.Ytpdkknfooblplaa.Com
set_option linter.unusedSimpArgs false
set_option linter.unusedVariables false
set_option linter.unusedSectionVars false
open Go.RowKit Go.Proofs.YtpdkknfooblplaaW.PrintWords Go.Proofs.YtpdkknfooblplaaW.PrintMore Go.Proofs.Ytpdkknfooblplaa.Q Go.Proofs.Ytpdkknfooblplaa.Pure
def wsumF (w : Nat → Bool) : Nat → List (List Int) → Int
  | _, [] => 0
  | i, x :: r => (if w i = true then x.sum else 0) + wsumF w (i + 1) r
def wsum (w : Nat → Bool) (g : List (List Int)) : Int := wsumF w 0 g
theorem wsumF_set (w : Nat → Bool) : ∀ (g : List (List Int)) (k i : Nat) (h : i < g.length) (x : List Int), wsumF w k (g.set i x) = wsumF w k g + (if w (k + i) = true then x.sum - g[i].sum else 0)
  | [], k, i, h, x => by simp at h
  | y :: r, k, 0, h, x => by
    simp only [List.set_cons_zero, wsumF, List.getElem_cons_zero, Nat.add_zero]
    split <;> omega
  | y :: r, k, i + 1, h, x => by
    have ih := wsumF_set w r (k + 1) i (by simpa using h) x
    simp only [List.set_cons_succ, wsumF, List.getElem_cons_succ, ih, show k + 1 + i = k + (i + 1) by omega]
    omega
theorem wsumF_zero (w : Nat → Bool) : ∀ (g : List (List Int)) (k : Nat), (∀ (i : Nat) (h : i < g.length), w (k + i) = true → g[i].sum = 0) → wsumF w k g = 0
  | [], k, _ => rfl
  | y :: r, k, h => by
    have ih := wsumF_zero w r (k + 1) (fun i hi hw => by have := h (i + 1) (by simpa using hi) (by rw [show k + (i + 1) = k + 1 + i by omega]; exact hw); simpa using this)
    have h0 := h 0 (by simp)
    simp only [wsumF, ih]
    by_cases q : w k = true
    · rw [if_pos q]; have := h0 (by simpa using q); simp at this; omega
    · rw [if_neg q]; rfl
theorem wsumF_all : ∀ (g : List (List Int)) (k : Nat), wsumF (fun _ => true) k g = sumAll g
  | [], k => rfl
  | y :: r, k => by
    have ih := wsumF_all r (k + 1)
    simp only [wsumF, if_true, ih, sumAll, List.map_cons, List.sum_cons]
theorem wsumF_none (w : Nat → Bool) : ∀ (g : List (List Int)) (k : Nat), (∀ i, k ≤ i → w i = false) → wsumF w k g = 0
  | [], k, _ => rfl
  | y :: r, k, h => by simp [wsumF, h k (Nat.le_refl _), wsumF_none w r (k + 1) (fun i hi => h i (by omega))]
theorem wsumF_one (j : Nat) : ∀ (g : List (List Int)) (k : Nat) (h : k ≤ j) (h' : j - k < g.length), wsumF (fun i => i == j) k g = g[j - k].sum
  | [], k, h, h' => by simp at h'
  | y :: r, k, h, h' => by
    by_cases e : k = j
    · subst e
      simp only [wsumF, beq_self_eq_true, if_true, wsumF_none (fun i => i == k) r (k + 1) (fun i hi => by simp; omega), Nat.sub_self, List.getElem_cons_zero]
      omega
    · have ih := wsumF_one j r (k + 1) (by omega) (by simp at h'; omega)
      simp only [wsumF, show (k == j) = false by simpa using e, Bool.false_eq_true, if_false, ih]
      have e2 : j - k = (j - (k + 1)) + 1 := by omega
      simp only [e2, List.getElem_cons_succ]
      omega
theorem getG_is {R C : Nat} {g : List (List Int)} (h : Grid R C g) {r c : Nat} (hr : r < R) (hc : c < C) : ∃ (h1 : r < g.length) (h2 : c < g[r].length), getG g r c = g[r][c] := by
  have h1 : r < g.length := by rw [h.1]; exact hr
  have h2 : c < g[r].length := by rw [h.2 _ (List.getElem_mem h1)]; exact hc
  exact ⟨h1, h2, by unfold getG; rw [rdr_nat h1, rd_nat h2]⟩
theorem getG_put {R C : Nat} {g : List (List Int)} (h : Grid R C g) {r c x y : Nat} (hr : r < R) (hc : c < C) (hx : x < R) (hy : y < C) (v : Int) : getG (putG g x y v) r c = if r = x ∧ c = y then v else getG g r c := by
  obtain ⟨a1, a2, e⟩ := getG_is h hr hc
  obtain ⟨b1, b2, e'⟩ := getG_is (h.put y v hx) hr hc
  have hx1 : x < g.length := by rw [h.1]; exact hx
  unfold putG
  rw [e', e]
  simp only [rdr_nat hx1]
  by_cases q : x = r
  · subst q
    simp only [List.getElem_set_self, List.getElem_set]
    by_cases q2 : y = c
    · simp [q2]
    · rw [if_neg q2, if_neg (fun h => q2 h.2.symm)]
  · simp only [List.getElem_set_ne q]
    rw [if_neg (fun h => q h.1.symm)]
theorem wsum_put {R C : Nat} {g : List (List Int)} (h : Grid R C g) {x y : Nat} (hx : x < R) (hy : y < C) (w : Nat → Bool) (v : Int) : wsum w (putG g x y v) = wsum w g + (if w x = true then v - getG g x y else 0) := by
  obtain ⟨a1, a2, e⟩ := getG_is h hx hy
  unfold wsum putG
  rw [wsumF_set w g 0 x a1, e, Nat.zero_add, rdr_nat a1, sum_set _ _ _ a2]
  congr 1
  split <;> omega
theorem sum_zero : ∀ l : List Int, (∀ z ∈ l, z = 0) → l.sum = 0
  | [], _ => rfl
  | x :: r, h => by
    rw [List.sum_cons, h x (by simp), sum_zero r (fun z hz => h z (List.mem_cons_of_mem _ hz))]
    rfl
theorem wsum_zero {R C : Nat} {g : List (List Int)} (h : Grid R C g) (w : Nat → Bool) (hz : ∀ r c, r < R → c < C → w r = true → getG g r c = 0) : wsum w g = 0 := by
  unfold wsum
  refine wsumF_zero w g 0 fun i hi hw => sum_zero _ fun z hzm => ?_
  obtain ⟨c, hc, rfl⟩ := List.getElem_of_mem hzm
  have hr : i < R := by rw [← h.1]; exact hi
  have hcc : c < C := by rw [← h.2 _ (List.getElem_mem hi)]; exact hc
  obtain ⟨_, _, e⟩ := getG_is h hr hcc
  rw [← e]
  exact hz i c hr hcc (by simpa using hw)
def Cg (a b : Int) : Prop := wrap64 a = wrap64 b
theorem colN_inv {way : Int} {C c : Nat} (hc : c < C) : colN way C (colN way C c) = c := by unfold colN; split <;> omega
def vis (C : Nat) (way : Int) (i n r c : Nat) : Prop := r < i ∨ (r = i ∧ colN way C c < n)
def Rel (R C : Nat) (way : Int) (i n : Nat) (su z : List (List Int)) : Prop := ∀ r c, r < R → c < C → (vis C way i n r c → getG z r c = 0) ∧ (¬ vis C way i n r c → getG z r c = getG su r c)
theorem tap_away {R C i n : Nat} {way : Int} (hn : n < C) (hway : way = 1 ∨ way = -1) {t : S79} (ok : tapOk 64 t) (hin : tapIn R C i (colN way C n) way t) :
    ∃ x y : Nat, ((i : Int) + t.f0).toNat = x ∧ (((colN way C n : Nat) : Int) + way * t.f1).toNat = y ∧ (x : Int) = (i : Int) + t.f0 ∧ x < R ∧ y < C ∧ ¬ vis C way i (n + 1) x y := by
  obtain ⟨o1, o2, o3, o4⟩ := ok
  obtain ⟨h1, h2⟩ := hin
  refine ⟨_, _, rfl, rfl, by omega, by omega, by omega, ?_⟩
  unfold vis
  rcases hway with rfl | rfl
  · have e : ∀ c, colN 1 C c = c := fun c => by unfold colN; rw [if_neg (by omega)]
    simp only [e] at h2 ⊢
    omega
  · have e : ∀ c, colN (-1) C c = C - 1 - c := fun c => by unfold colN; rw [if_pos (by omega)]
    simp only [e] at h2 ⊢
    omega
section
variable {R C : Nat} {P : Int}
theorem taps_keep {i n : Nat} {way e : Int} (hn : n < C) (hway : way = 1 ∨ way = -1) : ∀ (d : List S79), (∀ t ∈ d, tapOk 64 t) → ∀ (su z : List (List Int)) (left : Int), Grid R C su → Grid R C z → Rel R C way i (n + 1) su z →
    Grid R C (d.foldl (tStep R C P i (colN way C n) way e) (su, left)).1 ∧ ∃ z', Grid R C z' ∧ Rel R C way i (n + 1) (d.foldl (tStep R C P i (colN way C n) way e) (su, left)).1 z' ∧
      ∀ w : Nat → Bool, (∀ t ∈ d, ∀ x : Nat, (x : Int) = (i : Int) + t.f0 → x < R → w x = w i) → Cg (wsum w z' + (if w i = true then (d.foldl (tStep R C P i (colN way C n) way e) (su, left)).2 else 0)) (wsum w z + (if w i = true then left else 0))
  | [], _, su, z, left, h1, h2, h3 => ⟨h1, z, h2, h3, fun w _ => rfl⟩
  | t :: d, hd, su, z, left, h1, h2, h3 => by
    have hd' : ∀ t ∈ d, tapOk 64 t := fun t ht => hd t (List.mem_cons_of_mem _ ht)
    rw [List.foldl_cons]
    by_cases hin : tapIn R C i (colN way C n) way t
    · obtain ⟨x, y, ex, ey, exi, hx, hy, hv⟩ := tap_away hn hway (hd t (by simp)) hin
      have hT : tStep R C P i (colN way C n) way e (su, left) t = (putG su x y (wrap64 (getG su x y + fl (wrap64 (e * t.f2)) P)), wrap64 (left - fl (wrap64 (e * t.f2)) P)) := by
        unfold tStep
        rw [if_pos hin, ex, ey]
      rw [hT]
      obtain ⟨q, hq⟩ : ∃ q, fl (wrap64 (e * t.f2)) P = q := ⟨_, rfl⟩
      rw [hq]
      have g1 : Grid R C (putG su x y (wrap64 (getG su x y + q))) := h1.put y _ hx
      have g2 : Grid R C (putG z x y (wrap64 (getG su x y + q))) := h2.put y _ hx
      have hzs := (h3 x y hx hy).2 hv
      have g3 : Rel R C way i (n + 1) (putG su x y (wrap64 (getG su x y + q))) (putG z x y (wrap64 (getG su x y + q))) := by
        intro r c hr hc
        rw [getG_put h2 hr hc hx hy, getG_put h1 hr hc hx hy]
        by_cases e2 : r = x ∧ c = y
        · rw [if_pos e2, if_pos e2, e2.1, e2.2]
          exact ⟨fun h => absurd h hv, fun _ => rfl⟩
        · rw [if_neg e2, if_neg e2]
          exact h3 r c hr hc
      obtain ⟨k1, z', k2, k3, k4⟩ := taps_keep hn hway d hd' _ _ (wrap64 (left - q)) g1 g2 g3
      refine ⟨k1, z', k2, k3, fun w hw => ?_⟩
      have := k4 w (fun t ht => hw t (List.mem_cons_of_mem _ ht))
      rw [wsum_put h2 hx hy, hw t (by simp) x exi hx, hzs] at this
      unfold Cg at this ⊢
      rw [this]
      by_cases q1 : w i = true
      · simp only [if_pos q1]
        unfold wrap64
        omega
      · simp only [if_neg q1]
        unfold wrap64
        omega
    · have hT : tStep R C P i (colN way C n) way e (su, left) t = (su, left) := by unfold tStep; rw [if_neg hin]
      rw [hT]
      obtain ⟨k1, z', k2, k3, k4⟩ := taps_keep hn hway d hd' su z left h1 h2 h3
      exact ⟨k1, z', k2, k3, fun w hw => k4 w (fun t ht => hw t (List.mem_cons_of_mem _ ht))⟩
def Held (R C : Nat) (way : Int) (i n : Nat) (s : DSt) (z : List (List Int)) : Prop := Grid R C s.1 ∧ Grid R C s.2.1 ∧ Grid R C z ∧ Rel R C way i n s.1 z ∧ ∀ r c, r < R → c < C → (¬ vis C way i n r c → getG s.2.1 r c = 0) ∧ (getG s.2.1 r c = 0 ∨ getG s.2.1 r c = 1)
theorem vis_succ {way : Int} {i n r c : Nat} (hn : n < C) (hc : c < C) : vis C way i (n + 1) r c ↔ vis C way i n r c ∨ (r = i ∧ c = colN way C n) := by
  unfold vis
  constructor
  · rintro (h | ⟨h1, h2⟩)
    · exact .inl (.inl h)
    · by_cases q : colN way C c < n
      · exact .inl (.inr ⟨h1, q⟩)
      · refine .inr ⟨h1, ?_⟩
        rw [show n = colN way C c by omega, colN_inv hc]
  · rintro ((h | ⟨h1, h2⟩) | ⟨h1, h2⟩)
    · exact .inl h
    · exact .inr ⟨h1, by omega⟩
    · exact .inr ⟨h1, by rw [h2, colN_inv hn]; omega⟩
theorem visit {l : List S79} (hok : ∀ x ∈ l, tapOk 64 x) (a2 : Bool) {i n : Nat} (hi : i < R) (hn : n < C) (s : DSt) (z : List (List Int)) (h : Held R C (dway a2 (i : Int)) i n s z) :
    ∃ z' left, Held R C (dway a2 (i : Int)) i (n + 1) (cStep R C P l a2 i s n) z' ∧ (cStep R C P l a2 i s n).2.2 = wrap64 (s.2.2 + left) ∧
      left = (l.foldl (tStep R C P i (colN (dway a2 (i : Int)) C n) (dway a2 (i : Int)) (eLeft (getG s.1 i (colN (dway a2 (i : Int)) C n)))) (s.1, eLeft (getG s.1 i (colN (dway a2 (i : Int)) C n)))).2 ∧
      ∀ w : Nat → Bool, (∀ t ∈ l, ∀ x : Nat, (x : Int) = (i : Int) + t.f0 → x < R → w x = w i) → Cg (wsum w z' + 255 * wsum w (cStep R C P l a2 i s n).2.1 + (if w i = true then left else 0)) (wsum w z + 255 * wsum w s.2.1) := by
  obtain ⟨hs, ho, hz, hr, hu⟩ := h
  obtain ⟨way, hway⟩ : ∃ way, dway a2 (i : Int) = way := ⟨_, rfl⟩
  have hw1 : way = 1 ∨ way = -1 := by rw [← hway]; exact dway_is _ _
  unfold cStep
  rw [hway] at hr hu ⊢
  obtain ⟨c, hc⟩ : ∃ c, colN way C n = c := ⟨_, rfl⟩
  have hcl : c < C := by rw [← hc]; exact colN_lt hn
  have hnv : ¬ vis C way i n i c := by
    unfold vis
    rw [← hc, colN_inv hn]
    omega
  obtain ⟨v, hv⟩ : ∃ v, getG s.1 i c = v := ⟨_, rfl⟩
  have hzv : getG z i c = v := by rw [← hv]; exact (hr i c hi hcl).2 hnv
  have ho0 := (hu i c hi hcl).1 hnv
  have g0 : Grid R C (putG z i c 0) := hz.put c 0 hi
  have r0 : Rel R C way i (n + 1) s.1 (putG z i c 0) := by
    intro r c' hr' hc'
    rw [getG_put hz hr' hc' hi hcl, vis_succ hn hc', hc]
    by_cases e : r = i ∧ c' = c
    · rw [if_pos e]
      exact ⟨fun _ => rfl, fun h => absurd (.inr e) h⟩
    · rw [if_neg e]
      have := hr r c' hr' hc'
      exact ⟨fun h => this.1 (h.resolve_right e), fun h => this.2 fun q => h (.inl q)⟩
  obtain ⟨k1, z', k2, k3, k4⟩ := taps_keep (R := R) (P := P) (e := eLeft v) hn hw1 l hok s.1 (putG z i c 0) (eLeft v) hs g0 r0
  rw [hc] at k1 k3 k4 ⊢
  rw [hv]
  refine ⟨z', _, ⟨k1, ho.put c _ hi, k2, k3, ?_⟩, rfl, rfl, ?_⟩
  · intro r c' hr' hc'
    simp only
    rw [getG_put ho hr' hc' hi hcl, vis_succ hn hc', hc]
    by_cases e : r = i ∧ c' = c
    · rw [if_pos e]
      refine ⟨fun h => absurd (.inr e) h, ?_⟩
      unfold eOne
      split
      · exact .inr rfl
      · exact .inl rfl
    · rw [if_neg e]
      have := hu r c' hr' hc'
      exact ⟨fun h => this.1 fun q => h (.inl q), this.2⟩
  · intro w hw
    have := k4 w hw
    rw [wsum_put hz hi hcl, hzv] at this
    rw [wsum_put ho hi hcl, ho0]
    unfold Cg at this ⊢
    obtain ⟨lf, hlf⟩ : ∃ lf, (l.foldl (tStep R C P i c way (eLeft v)) (s.1, eLeft v)).2 = lf := ⟨_, rfl⟩
    rw [hlf] at this ⊢
    by_cases q1 : w i = true
    · simp only [if_pos q1] at this ⊢
      unfold eOne eLeft at *
      by_cases q2 : wrap64 (2 * v) > 255
      · simp only [if_pos q2] at this ⊢
        unfold wrap64 at this ⊢
        omega
      · simp only [if_neg q2] at this ⊢
        unfold wrap64 at this ⊢
        omega
    · simp only [if_neg q1] at this ⊢
      unfold wrap64 at this ⊢
      omega
theorem range_inv {σ : Type} (f : σ → Nat → σ) (n : Nat) (J : Nat → σ → Prop) (h : ∀ m s, m < n → J m s → J (m + 1) (f s m)) (s : σ) (h0 : J 0 s) : J n ((List.range n).foldl f s) := by
  have key : ∀ m, m ≤ n → J m ((List.range m).foldl f s) := by
    intro m
    induction m with
    | zero => intro _; exact h0
    | succ m ih =>
      intro hm
      rw [List.range_succ, List.foldl_append]
      exact h m _ (by omega) (ih (by omega))
  exact key n (Nat.le_refl _)
theorem vis_next {way way' : Int} {i r c : Nat} (hc : c < C) : vis C way i C r c ↔ vis C way' (i + 1) 0 r c := by
  have := colN_lt (way := way) hc
  unfold vis
  constructor
  · rintro (h | ⟨h1, _⟩)
    · exact .inl (by omega)
    · exact .inl (by omega)
  · rintro (h | ⟨_, h2⟩)
    · by_cases q : r < i
      · exact .inl q
      · exact .inr ⟨by omega, this⟩
    · omega
theorem Held.next {way way' : Int} {i : Nat} {s : DSt} {z : List (List Int)} (h : Held R C way i C s z) : Held R C way' (i + 1) 0 s z := by
  obtain ⟨a, b, c, d, e⟩ := h
  refine ⟨a, b, c, fun r c hr hc => ?_, fun r c hr hc => ?_⟩
  · rw [← vis_next hc]; exact d r c hr hc
  · rw [← vis_next hc]; exact e r c hr hc
theorem held_start {p : List (List Int)} (g : Grid R C p) (way : Int) : Held R C way 0 0 (p, grid0 R C, 0) p := by
  refine ⟨g, grid0_is R C, g, fun r c hr hc => ⟨fun h => ?_, fun _ => rfl⟩, fun r c hr hc => ?_⟩
  · unfold vis at h; omega
  · have : getG (grid0 R C) r c = 0 := by
      obtain ⟨h1, h2, e⟩ := getG_is (grid0_is R C) hr hc
      rw [e]
      simp [grid0]
    exact ⟨fun _ => this, .inl this⟩
theorem conserved {l : List S79} (hok : ∀ x ∈ l, tapOk 64 x) (a2 : Bool) {p : List (List Int)} (g : Grid R C p) :
    let s := diffused R C P l a2 (p, grid0 R C, 0)
    Cg (255 * sumAll s.2.1 + s.2.2) (sumAll p) ∧ wrap64 s.2.2 = s.2.2 ∧ Grid R C s.2.1 ∧ ∀ r c, r < R → c < C → getG s.2.1 r c = 0 ∨ getG s.2.1 r c = 1 := by
  have rows := range_inv (rStep R C P l a2) R (fun i s => ∃ z, Held R C (dway a2 (i : Int)) i 0 s z ∧ Cg (wsum (fun _ => true) z + 255 * wsum (fun _ => true) s.2.1 + s.2.2) (sumAll p) ∧ wrap64 s.2.2 = s.2.2) (fun i s hi hs => by
    have cells := range_inv (cStep R C P l a2 i) C (fun n s => ∃ z, Held R C (dway a2 (i : Int)) i n s z ∧ Cg (wsum (fun _ => true) z + 255 * wsum (fun _ => true) s.2.1 + s.2.2) (sumAll p) ∧ wrap64 s.2.2 = s.2.2) (fun n s hn hs => by
      obtain ⟨z, h1, h2, h3⟩ := hs
      obtain ⟨z', left, k1, k2, _, k3⟩ := visit (P := P) hok a2 hi hn s z h1
      have k3 := k3 (fun _ => true) (fun _ _ _ _ _ => rfl)
      refine ⟨z', k1, ?_, by rw [k2]; exact ww _⟩
      rw [k2]
      unfold Cg at h2 k3 ⊢
      simp only [if_true] at k3
      rw [← h2]
      unfold wrap64 at k3 ⊢
      omega) s hs
    obtain ⟨z, h1, h2, h3⟩ := cells
    exact ⟨z, h1.next, h2, h3⟩) (p, grid0 R C, 0) ⟨p, held_start g _, by
      unfold wsum
      simp only
      rw [wsumF_all, wsumF_all, sumAll_grid0]
      unfold Cg
      congr 1
      omega, w64 (x := 0) (by omega) (by omega)⟩
  obtain ⟨z, h1, h2, h3⟩ := rows
  have hz : wsum (fun _ => true) z = 0 := wsum_zero h1.2.2.1 _ fun r c hr hc _ => (h1.2.2.2.1 r c hr hc).1 (.inl hr)
  refine ⟨?_, h3, h1.2.1, fun r c hr hc => (h1.2.2.2.2 r c hr hc).2⟩
  have e : wsum (fun _ => true) ((List.range R).foldl (rStep R C P l a2) (p, grid0 R C, 0)).2.1 = sumAll ((List.range R).foldl (rStep R C P l a2) (p, grid0 R C, 0)).2.1 := wsumF_all _ 0
  rw [hz, e] at h2
  unfold diffused
  unfold Cg at h2 ⊢
  rw [← h2]
  congr 1
  omega
end
theorem wsum_row {g : List (List Int)} {i : Nat} (h : i < g.length) : wsum (fun r => r == i) g = g[i].sum := by
  unfold wsum
  have := wsumF_one i g 0 (Nat.zero_le _) (by simpa using h)
  simpa using this
theorem wsum_row_bd {R C : Nat} {g : List (List Int)} (h : Grid R C g) {i : Nat} (hi : i < R) (hC : C ≤ 12) (B : Int) (hB : 0 ≤ B ∧ B ≤ 1000) (hv : ∀ c, c < C → -B ≤ getG g i c ∧ getG g i c ≤ B) : -12000 ≤ wsum (fun r => r == i) g ∧ wsum (fun r => r == i) g ≤ 12000 := by
  have h1 : i < g.length := by rw [h.1]; exact hi
  have hl : g[i].length = C := h.2 _ (List.getElem_mem h1)
  rw [wsum_row h1]
  have := sum_bd g[i] B hB.1 (fun z hz => by
    obtain ⟨c, hc, rfl⟩ := List.getElem_of_mem hz
    obtain ⟨_, _, e⟩ := getG_is h hi (by rw [← hl]; exact hc)
    rw [← e]
    exact hv c (by rw [← hl]; exact hc))
  rw [hl] at this
  have k1 : (C : Int) * B ≤ 12 * 1000 := Int.mul_le_mul (by omega) hB.2 hB.1 (by omega)
  omega
theorem fl_one (x : Int) (h : wrap64 x = x) : fl x 1 = x := by
  unfold fl
  rw [Int.tmod_one, Int.tdiv_one]
  simp
theorem line_rows {R C : Nat} (hR : 1 ≤ R ∧ R ≤ 12) (hC : 1 ≤ C ∧ C ≤ 12) (a2 : Bool) {p : List (List Int)} (g : Grid R C p) (hp : ∀ r c, r < R → c < C → 0 ≤ getG p r c ∧ getG p r c ≤ 255) :
    ∀ j, j < R → -128 ≤ wsum (fun r => r == j) p - 255 * wsum (fun r => r == j) (diffused R C 1 [(⟨0, 1, 1⟩ : S79)] a2 (p, grid0 R C, 0)).2.1 ∧ wsum (fun r => r == j) p - 255 * wsum (fun r => r == j) (diffused R C 1 [(⟨0, 1, 1⟩ : S79)] a2 (p, grid0 R C, 0)).2.1 ≤ 127 := by
  have hok : ∀ x ∈ [(⟨0, 1, 1⟩ : S79)], tapOk 64 x := fun x hx => by rw [List.mem_singleton.1 hx]; unfold tapOk; simp
  have hwr : ∀ (i r : Nat), ∀ t ∈ [(⟨0, 1, 1⟩ : S79)], ∀ x : Nat, (x : Int) = (i : Int) + t.f0 → x < R → (x == r) = (i == r) := fun i r t ht x hx _ => by
    rw [List.mem_singleton.1 ht] at hx
    simp only at hx
    rw [show x = i by omega]
  have rows := range_inv (rStep R C 1 [(⟨0, 1, 1⟩ : S79)] a2) R (fun i s => (∃ z, Held R C (dway a2 (i : Int)) i 0 s z ∧ (∀ r c, i ≤ r → r < R → c < C → 0 ≤ getG s.1 r c ∧ getG s.1 r c ≤ 255) ∧ (∀ r, i ≤ r → r < R → Cg (wsum (fun x => x == r) z + 255 * wsum (fun x => x == r) s.2.1) (wsum (fun x => x == r) p))) ∧
      ∀ j, j < i → -128 ≤ wsum (fun r => r == j) p - 255 * wsum (fun r => r == j) s.2.1 ∧ wsum (fun r => r == j) p - 255 * wsum (fun r => r == j) s.2.1 ≤ 127) (fun i s hi hs => by
    obtain ⟨⟨z0, hh, hv, hc⟩, hj⟩ := hs
    obtain ⟨way, hway⟩ : ∃ way, dway a2 (i : Int) = way := ⟨_, rfl⟩
    have hw1 : way = 1 ∨ way = -1 := by rw [← hway]; exact dway_is _ _
    have cells := range_inv (cStep R C 1 [(⟨0, 1, 1⟩ : S79)] a2 i) C (fun n s => (∃ z lam, Held R C (dway a2 (i : Int)) i n s z ∧ Cg (wsum (fun x => x == i) z + 255 * wsum (fun x => x == i) s.2.1 + lam) (wsum (fun x => x == i) p) ∧ (n < C → lam = 0) ∧ (-128 ≤ lam ∧ lam ≤ 127) ∧
        (n < C → -128 ≤ getG s.1 i (colN way C n) ∧ getG s.1 i (colN way C n) ≤ 382) ∧ (∀ m, n < m → m < C → 0 ≤ getG s.1 i (colN way C m) ∧ getG s.1 i (colN way C m) ≤ 255) ∧ (∀ r c, i < r → r < R → c < C → 0 ≤ getG s.1 r c ∧ getG s.1 r c ≤ 255) ∧
        (∀ r, i < r → r < R → Cg (wsum (fun x => x == r) z + 255 * wsum (fun x => x == r) s.2.1) (wsum (fun x => x == r) p))) ∧ ∀ j, j < i → -128 ≤ wsum (fun r => r == j) p - 255 * wsum (fun r => r == j) s.2.1 ∧ wsum (fun r => r == j) p - 255 * wsum (fun r => r == j) s.2.1 ≤ 127) (fun n s hn hs => by
      obtain ⟨⟨z, lam, h1, h2, h3, h4, h5, h6, h7, h8⟩, h9⟩ := hs
      obtain ⟨z', left, k1, _, kl, k3⟩ := visit (P := 1) hok a2 hi hn s z h1
      have hcl := colN_lt (way := way) (C := C) hn
      have hs1 := h1.1
      have ho1 := h1.2.1
      obtain ⟨v, hvv⟩ : ∃ v, getG s.1 i (colN way C n) = v := ⟨_, rfl⟩
      have h5 := h5 hn
      rw [hvv] at h5
      have he : -128 ≤ eLeft v ∧ eLeft v ≤ 127 := by
        unfold eLeft
        rw [w64 (x := 2 * v) (by omega) (by omega)]
        by_cases q : 2 * v > 255
        · rw [if_pos q, w64 (by omega) (by omega)]; omega
        · rw [if_neg q]; omega
      obtain ⟨e, hee⟩ : ∃ e, eLeft v = e := ⟨_, rfl⟩
      rw [hway, hvv, hee] at kl
      rw [hee] at he
      have hfl : fl (wrap64 (e * (1 : Int))) 1 = e := by rw [Int.mul_one, w64 (x := e) (by omega) (by omega), fl_one _ (w64 (by omega) (by omega))]
      have hsu : (cStep R C 1 [(⟨0, 1, 1⟩ : S79)] a2 i s n).1 = (tStep R C 1 i (colN way C n) way e (s.1, e) ⟨0, 1, 1⟩).1 := by
        unfold cStep
        rw [hway, hvv, hee]
        rfl
      have hlf : left = (tStep R C 1 i (colN way C n) way e (s.1, e) ⟨0, 1, 1⟩).2 := kl
      have hou : (cStep R C 1 [(⟨0, 1, 1⟩ : S79)] a2 i s n).2.1 = putG s.2.1 i (colN way C n) (eOne v) := by
        unfold cStep
        rw [hway, hvv]
      have hrow : ∀ r, r ≠ i → wsum (fun x => x == r) (cStep R C 1 [(⟨0, 1, 1⟩ : S79)] a2 i s n).2.1 = wsum (fun x => x == r) s.2.1 := fun r hr => by
        rw [hou, wsum_put ho1 hi hcl, if_neg (by simpa using fun e => hr e.symm)]
        omega
      have kr : ∀ r, i < r → r < R → Cg (wsum (fun x => x == r) z' + 255 * wsum (fun x => x == r) (cStep R C 1 [(⟨0, 1, 1⟩ : S79)] a2 i s n).2.1) (wsum (fun x => x == r) p) := fun r hr1 hr2 => by
        have a := k3 (fun x => x == r) (fun t ht x hx hx2 => hwr i r t ht x hx hx2)
        have b := h8 r hr1 hr2
        have hne : ¬ (i == r) = true := by simp; omega
        simp only [if_neg hne] at a
        unfold Cg at a b ⊢
        rw [← b, ← a]
        congr 1
        omega
      have ki := k3 (fun x => x == i) (fun t ht x hx hx2 => hwr i i t ht x hx hx2)
      simp only [beq_self_eq_true, if_true] at ki
      have lam0 := h3 hn
      subst lam0
      have kc : Cg (wsum (fun x => x == i) z' + 255 * wsum (fun x => x == i) (cStep R C 1 [(⟨0, 1, 1⟩ : S79)] a2 i s n).2.1 + left) (wsum (fun x => x == i) p) := by
        unfold Cg at ki h2 ⊢
        rw [ki, ← h2]
        congr 1
        omega
      refine ⟨⟨z', left, k1, kc, ?_⟩, fun j hj' => by rw [hrow j (by omega)]; exact h9 j hj'⟩
      by_cases hlast : n + 1 < C
      · -- the error goes to the next place
        have hin : tapIn R C i (colN way C n) way (⟨0, 1, 1⟩ : S79) := by
          unfold tapIn
          rcases hw1 with rfl | rfl
          · unfold colN; rw [if_neg (by omega)]; simp only; omega
          · unfold colN; rw [if_pos (by omega)]; simp only; omega
        have hnext : (((colN way C n : Nat) : Int) + way * 1).toNat = colN way C (n + 1) := by
          rcases hw1 with rfl | rfl
          · unfold colN; rw [if_neg (by omega), if_neg (by omega)]; omega
          · unfold colN; rw [if_pos (by omega), if_pos (by omega)]; omega
        have hT : tStep R C 1 i (colN way C n) way e (s.1, e) (⟨0, 1, 1⟩ : S79) = (putG s.1 i (colN way C (n + 1)) (wrap64 (getG s.1 i (colN way C (n + 1)) + e)), wrap64 (e - e)) := by
          unfold tStep
          rw [if_pos hin]
          simp only [hnext, hfl, show ((i : Int) + 0).toNat = i by omega]
        rw [hT] at hsu hlf
        have hcl2 := colN_lt (way := way) (C := C) hlast
        have hvn := h6 (n + 1) (by omega) hlast
        have hl0 : left = 0 := by rw [hlf]; simp only; rw [w64 (by omega) (by omega)]; omega
        refine ⟨fun _ => hl0, by omega, fun _ => ?_, fun m hm1 hm2 => ?_, fun r c hr1 hr2 hc2 => ?_, kr⟩
        · rw [hsu, getG_put hs1 hi hcl2 hi hcl2, if_pos ⟨rfl, rfl⟩, w64 (by omega) (by omega)]
          omega
        · have hclm := colN_lt (way := way) (C := C) hm2
          have hne : ¬ (i = i ∧ colN way C m = colN way C (n + 1)) := fun q => by
            have := congrArg (colN way C) q.2
            rw [colN_inv hm2, colN_inv hlast] at this
            omega
          rw [hsu, getG_put hs1 hi hclm hi hcl2, if_neg hne]
          exact h6 m (by omega) hm2
        · rw [hsu, getG_put hs1 hr2 hc2 hi hcl2, if_neg (by omega)]
          exact h7 r c hr1 hr2 hc2
      · -- the row's end
        have hnin : ¬ tapIn R C i (colN way C n) way (⟨0, 1, 1⟩ : S79) := by
          unfold tapIn
          rcases hw1 with rfl | rfl
          · unfold colN; rw [if_neg (by omega)]; simp only; omega
          · unfold colN; rw [if_pos (by omega)]; simp only; omega
        have hT : tStep R C 1 i (colN way C n) way e (s.1, e) (⟨0, 1, 1⟩ : S79) = (s.1, e) := by unfold tStep; rw [if_neg hnin]
        rw [hT] at hsu hlf
        have hle : left = e := hlf
        refine ⟨fun h => absurd h hlast, by omega, fun h => absurd h hlast, fun m hm1 hm2 => absurd hm2 (by omega), fun r c hr1 hr2 hc2 => ?_, kr⟩
        rw [hsu]
        exact h7 r c hr1 hr2 hc2) s ⟨⟨z0, 0, hh, by have := hc i (Nat.le_refl _) hi; unfold Cg at this ⊢; rw [← this]; congr 1; omega, fun _ => rfl, by omega, fun h => by have := hv i _ (Nat.le_refl _) hi (colN_lt (way := way) (C := C) h); omega, fun m _ hm => hv i _ (Nat.le_refl _) hi (colN_lt hm), fun r c hr1 hr2 hc2 => hv r c (by omega) hr2 hc2, fun r hr1 hr2 => hc r (by omega) hr2⟩, hj⟩
    obtain ⟨⟨z, lam, h1, h2, h3, h4, h5, h6, h7, h8⟩, h9⟩ := cells
    refine ⟨⟨z, h1.next, fun r c hr1 hr2 hc2 => h7 r c (by omega) hr2 hc2, fun r hr1 hr2 => h8 r (by omega) hr2⟩, fun j hj' => ?_⟩
    by_cases q : j < i
    · exact h9 j q
    · obtain rfl : j = i := by omega
      have hz0 : wsum (fun x => x == j) z = 0 := wsum_zero h1.2.2.1 _ fun r c hr hc' hw => (h1.2.2.2.1 r c hr hc').1 (.inr ⟨by simpa using hw, colN_lt hc'⟩)
      have b1 := wsum_row_bd h1.2.1 hi hC.2 1 (by omega) (fun c hc' => by have := (h1.2.2.2.2 j c hi hc').2; omega)
      have b2 := wsum_row_bd g hi hC.2 255 (by omega) (fun c hc' => by have := hp j c hi hc'; omega)
      rw [hz0] at h2
      unfold Cg at h2
      unfold rStep
      obtain ⟨o, ho⟩ : ∃ o, wsum (fun x => x == j) ((List.range C).foldl (cStep R C 1 [(⟨0, 1, 1⟩ : S79)] a2 j) s).2.1 = o := ⟨_, rfl⟩
      rw [ho] at h2 b1 ⊢
      rw [w64 (by omega) (by omega), w64 (by omega) (by omega)] at h2
      omega) (p, grid0 R C, 0) ⟨⟨p, held_start g _, fun r c _ hr hc => hp r c hr hc, fun r _ hr => by
      have : wsum (fun x => x == r) (grid0 R C) = 0 := wsum_zero (grid0_is R C) _ fun r c hr hc _ => by
        obtain ⟨h1, h2, e⟩ := getG_is (grid0_is R C) hr hc
        rw [e]
        simp [grid0]
      simp only [this]
      unfold Cg
      congr 1
      omega⟩, fun j hj => absurd hj (by omega)⟩
  exact rows.2
end Go.Proofs.Ytpdkknfooblplaa.Com
namespace Go.Proofs.Ytpdkknfooblplaa.Com
set_option linter.unusedSimpArgs false
set_option linter.unusedVariables false
open Go.RowKit Go.Proofs.YtpdkknfooblplaaW.PrintWords Go.Proofs.YtpdkknfooblplaaW.PrintMore Go.Proofs.Ytpdkknfooblplaa.Q
theorem and_255 (x : Nat) (h : x < 18446744073709551616) : ∃ r : Nat, Go.bits .and .u64 (x : Int) 255 = (r : Int) ∧ r ≤ 255 :=
  ⟨x &&& 255, (Go.bits_nat .u64 64 (by decide) (fun n h0 h1 => by simp [IntKind.wrap, IntKind.bits, IntKind.signed]; omega) x 255 h (by decide)).1, Nat.and_le_right⟩
theorem u64_bd (n : Int) : 0 ≤ IntKind.u64.wrap n ∧ IntKind.u64.wrap n < 18446744073709551616 := by
  simp [IntKind.wrap, IntKind.bits, IntKind.signed]
  omega
theorem u8_bd {x : Int} (h : (Lit.int .u8 x).wf = true) : 0 ≤ x ∧ x ≤ 255 := by
  simp [Lit.wf, IntKind.min, IntKind.max, IntKind.signed, IntKind.bits] at h
  omega
theorem next_tells (l : List Int) (hl : ∀ x ∈ l, (Lit.int .u8 x).wf = true) (a s : Int) (ha : 0 ≤ a ∧ a ≤ 1000) : ∃ v s', spec_l00Src_next.f l a s = some (v, a + 1, s') ∧ 0 ≤ v ∧ v ≤ 255 := by
  unfold spec_l00Src_next.f
  rw [w64 (x := a + 1) (by omega) (by omega)]
  have big : ∀ y : Int, ∃ r : Nat, Go.bits .and .u64 (IntKind.u64.wrap y / 1099511627776) 255 = (r : Int) ∧ r ≤ 255 := by
    intro y
    have b := u64_bd y
    obtain ⟨n, hn⟩ := Int.eq_ofNat_of_zero_le (show 0 ≤ IntKind.u64.wrap y / 1099511627776 by omega)
    rw [hn]
    exact and_255 n (by omega)
  by_cases h : a < (l.length : Int)
  · rw [if_pos h, if_pos ha.1, if_pos (by omega)]
    have hlt : a.toNat < l.length := by omega
    have hv : rd l a = l[a.toNat] := by
      have := rd_nat hlt
      rwa [Int.toNat_of_nonneg ha.1] at this
    have b := u8_bd (hl _ (List.getElem_mem hlt))
    rw [hv, w64 (x := l[a.toNat]) (by omega) (by omega)]
    exact ⟨_, _, rfl, b.1, b.2⟩
  · rw [if_neg h]
    split
    · exact ⟨_, _, rfl, by omega, by omega⟩
    · obtain ⟨r, hr, hr'⟩ := big (IntKind.u64.wrap (IntKind.u64.wrap (s * 6364136223846793005)) + 1442695040888963407)
      rw [hr, w64 (x := (r : Int)) (by omega) (by omega)]
      exact ⟨_, _, rfl, by omega, by omega⟩
theorem pick2_tells (l : List Int) (hl : ∀ x ∈ l, (Lit.int .u8 x).wf = true) (a s n : Int) (ha : 0 ≤ a ∧ a ≤ 999) (hn : 1 ≤ n ∧ n ≤ 1000) : ∃ v a' s', spec_l00Src_pick.f l a s n = some (v, a', s') ∧ 0 ≤ v ∧ v < n ∧ 0 ≤ a' ∧ a' ≤ a + 2 := by
  unfold spec_l00Src_pick.f
  by_cases h : n ≤ 1
  · rw [if_pos h]
    exact ⟨_, _, _, rfl, by omega, by omega, by omega, by omega⟩
  · obtain ⟨v, s', e, h0, h1⟩ := next_tells l hl a s (by omega)
    rw [if_neg h, e, Option.bind_some]
    by_cases h2 : n > 200
    · obtain ⟨v2, s2, e2, g0, g1⟩ := next_tells l hl (a + 1) s' (by omega)
      rw [if_pos h2]
      simp only
      rw [e2, Option.bind_some, if_neg (by omega)]
      simp only
      rw [w64 (x := v * 256) (by omega) (by omega), w64 (x := v * 256 + v2) (by omega) (by omega), tmod_nn (by omega)]
      have := Int.emod_nonneg (v * 256 + v2) (show n ≠ 0 by omega)
      have := Int.emod_lt_of_pos (v * 256 + v2) (show 0 < n by omega)
      exact ⟨(v * 256 + v2) % n, a + 1 + 1, s2, rfl, by omega, by omega, by omega, by omega⟩
    · rw [if_neg h2, if_neg (by omega), tmod_nn h0]
      have := Int.emod_nonneg v (show n ≠ 0 by omega)
      have := Int.emod_lt_of_pos v (show 0 < n by omega)
      exact ⟨v % n, a + 1, s', rfl, by omega, by omega, by omega, by omega⟩
end Go.Proofs.Ytpdkknfooblplaa.Com
namespace Go.Proofs.Ytpdkknfooblplaa.Com
set_option linter.unusedSimpArgs false
set_option linter.unusedVariables false
set_option linter.unusedSectionVars false
open Go.RowKit Go.Proofs.YtpdkknfooblplaaW.PrintWords Go.Proofs.YtpdkknfooblplaaW.PrintMore Go.Proofs.Ytpdkknfooblplaa.Q
theorem one2_tells (l : List Int) (hl : ∀ x ∈ l, (Lit.int .u8 x).wf = true) (a s n : Int) (ha : 0 ≤ a ∧ a ≤ 999) (hn : 1 ≤ n ∧ n ≤ 1000) : ∃ v a' s', spec_l00Src_one.f l a s n = some (v, a', s') ∧ 0 ≤ a' ∧ a' ≤ a + 2 := by
  obtain ⟨v, a', s', e, _, _, h1, h2⟩ := pick2_tells l hl a s n ha hn
  unfold spec_l00Src_one.f
  rw [e]
  exact ⟨_, _, _, rfl, h1, h2⟩
section
variable {l : List Int} (hl : ∀ x ∈ l, (Lit.int .u8 x).wf = true)
include hl
theorem drawRow_ev (R C : Nat) (hC : C ≤ 12) (v : Int) (hv : 0 ≤ v ∧ v ≤ 255) (b : Bool) (i : Int) (p : List (List Int)) (r : List (List Int) × Int × Int → Prop) :
    ∀ (d m : Nat), m + d = C → ∀ (x : List Int) (a s : Int), x.length = m → (∀ z ∈ x, 0 ≤ z ∧ z ≤ 255) → 0 ≤ a → a + 2 * (d : Int) ≤ 800 →
      ∃ (x' : List Int) (a' s' : Int), x'.length = C ∧ (∀ z ∈ x', 0 ≤ z ∧ z ≤ 255) ∧ 0 ≤ a' ∧ a' ≤ a + 2 * (d : Int) ∧ ∀ q, Ev (fun k => spec_l09DrawSized.l1 k (R : Int) (C : Int) v b i x' (C : Int) l a' s' p) q → Ev (fun k => spec_l09DrawSized.l1 k (R : Int) (C : Int) v b i x (m : Int) l a s p) q := by
  intro d
  induction d with
  | zero =>
    intro m e x a s hx hz ha _
    obtain rfl : m = C := by omega
    exact ⟨x, a, s, hx, hz, ha, by omega, fun q h => h⟩
  | succ d ih =>
    intro m e x a s hx hz ha hb
    cases b with
    | true =>
      obtain ⟨x', a', s', g1, g2, g3, g4, g5⟩ := ih (m + 1) (by omega) (x ++ [v]) a s (by simp; omega) (fun z hz' => by
        rcases List.mem_append.1 hz' with h | h
        · exact hz z h
        · rw [List.mem_singleton.1 h]; exact hv) ha (by omega)
      refine ⟨x', a', s', g1, g2, g3, by omega, fun q h => Ev.step (fun k => by rw [spec_l09DrawSized.l1]) ?_⟩
      simp only [if_pos (show (m : Int) < (C : Int) by omega), if_true, if_pos (show x.length < 17592186044416 by omega), w_succ (m := m) (by omega)]
      exact g5 q h
    | false =>
      obtain ⟨u, a1, s1, ev, u0, u1, b0, b1⟩ := pick2_tells l hl a s 256 (by omega) (by omega)
      obtain ⟨x', a', s', g1, g2, g3, g4, g5⟩ := ih (m + 1) (by omega) (x ++ [u]) a1 s1 (by simp; omega) (fun z hz' => by
        rcases List.mem_append.1 hz' with h | h
        · exact hz z h
        · rw [List.mem_singleton.1 h]; omega) b0 (by omega)
      refine ⟨x', a', s', g1, g2, g3, by omega, fun q h => Ev.step (fun k => by rw [spec_l09DrawSized.l1]) ?_⟩
      simp only [if_pos (show (m : Int) < (C : Int) by omega), Bool.false_eq_true, if_false, ev, Option.bind_some, if_pos (show x.length < 17592186044416 by omega), w_succ (m := m) (by omega)]
      exact g5 q h
theorem drawRows_ev (R C : Nat) (hR : R ≤ 12) (hC : C ≤ 12) (v : Int) (hv : 0 ≤ v ∧ v ≤ 255) (b : Bool) :
    ∀ (d m : Nat), m + d = R → ∀ (p : List (List Int)) (a s : Int), Grid m C p → (∀ x ∈ p, ∀ z ∈ x, 0 ≤ z ∧ z ≤ 255) → 0 ≤ a → a + 2 * ((d * 12 : Nat) : Int) ≤ 800 →
      ∃ (p' : List (List Int)) (a' s' : Int), Grid R C p' ∧ (∀ x ∈ p', ∀ z ∈ x, 0 ≤ z ∧ z ≤ 255) ∧ Ev (fun k => spec_l09DrawSized.l0 k (R : Int) (C : Int) v b (m : Int) l a s p) (p', a', s') ∧ 0 ≤ a' ∧ a' ≤ a + 2 * ((d * 12 : Nat) : Int) := by
  intro d
  induction d with
  | zero =>
    intro m e p a s hg hz ha _
    obtain rfl : m = R := by omega
    refine ⟨p, a, s, hg, hz, Ev.step (fun k => by rw [spec_l09DrawSized.l0]) ?_, ha, by omega⟩
    simp only [if_neg (show ¬ (m : Int) < (m : Int) by omega)]
    exact Ev.now _
  | succ d ih =>
    intro m e p a s hg hz ha hb
    obtain ⟨x', a1, s1, g1, g2, g3, g4, g5⟩ := drawRow_ev hl R C hC v hv b (m : Int) p (fun _ => True) C 0 (by omega) [] a s rfl (by simp) ha (by omega)
    obtain ⟨p', a', s', k1, k2, k3, k4, k5⟩ := ih (m + 1) (by omega) (p ++ [x']) a1 s1 ⟨by rw [List.length_append, hg.1]; rfl, fun x hx => by
      rcases List.mem_append.1 hx with h | h
      · exact hg.2 x h
      · rw [List.mem_singleton.1 h]; exact g1⟩ (fun x hx => by
      rcases List.mem_append.1 hx with h | h
      · exact hz x h
      · rw [List.mem_singleton.1 h]; exact g2) g3 (by omega)
    refine ⟨p', a', s', k1, k2, Ev.step (fun k => by rw [spec_l09DrawSized.l0]) ?_, k4, by omega⟩
    simp only [if_pos (show (m : Int) < (R : Int) by omega)]
    refine g5 _ (Ev.step (fun k => by rw [spec_l09DrawSized.l1]) ?_)
    simp only [if_neg (show ¬ (C : Int) < (C : Int) by omega), hg.1, if_pos (show m < 5864062014805 by omega), w_succ (m := m) (by omega)]
    exact k3
theorem drawSized_ev (R C : Nat) (hR : R ≤ 12) (hC : C ≤ 12) (a s : Int) (ha : 0 ≤ a ∧ a ≤ 100) :
    ∃ (p' : List (List Int)) (a' s' : Int), Grid R C p' ∧ (∀ x ∈ p', ∀ z ∈ x, 0 ≤ z ∧ z ≤ 255) ∧ Ev (fun k => spec_l09DrawSized.f k l a s (R : Int) (C : Int)) (p', a', s') ∧ 0 ≤ a' ∧ a' ≤ a + 300 := by
  obtain ⟨v, a1, s1, e1, v0, v1, b0, b1⟩ := pick2_tells l hl a s 256 (by omega) (by omega)
  obtain ⟨b, a2, s2, e2, b2, b3⟩ := one2_tells l hl a1 s1 3 (by omega) (by omega)
  obtain ⟨p', a', s', k1, k2, k3, k4, k5⟩ := drawRows_ev hl R C hR hC v ⟨v0, by omega⟩ b R 0 (by omega) [] a2 s2 ⟨rfl, by simp⟩ (by simp) b2 (by omega)
  refine ⟨p', a', s', k1, k2, ?_, k4, by omega⟩
  unfold spec_l09DrawSized.f
  simp only [e1, e2, Option.bind_some]
  exact k3
theorem drawOk_ev (a s : Int) (ha : 0 ≤ a ∧ a ≤ 50) : ∃ (R C : Nat) (p' : List (List Int)) (a' s' : Int), (1 ≤ R ∧ R ≤ 12) ∧ (1 ≤ C ∧ C ≤ 12) ∧ Grid R C p' ∧ (∀ x ∈ p', ∀ z ∈ x, 0 ≤ z ∧ z ≤ 255) ∧ Ev (fun k => spec_l09DrawOk.f k l a s) (p', a', s') ∧ 0 ≤ a' ∧ a' ≤ a + 310 := by
  obtain ⟨v, a1, s1, e1, v0, v1, b0, b1⟩ := pick2_tells l hl a s 6 (by omega) (by omega)
  obtain ⟨u, a2, s2, e2, u0, u1, b2, b3⟩ := pick2_tells l hl a1 s1 6 (by omega) (by omega)
  obtain ⟨b, a3, s3, e3, b4, b5⟩ := one2_tells l hl a2 s2 20 (by omega) (by omega)
  cases b with
  | true =>
    obtain ⟨p', a', s', k1, k2, k3, k4, k5⟩ := drawSized_ev hl 12 12 (by omega) (by omega) a3 s3 (by omega)
    refine ⟨12, 12, p', a', s', by omega, by omega, k1, k2, ?_, k4, by omega⟩
    unfold spec_l09DrawOk.f
    simp only [e1, e2, e3, Option.bind_some, if_true]
    exact Ev.bind k3 (Ev.now _)
  | false =>
    obtain ⟨p', a', s', k1, k2, k3, k4, k5⟩ := drawSized_ev hl (1 + v).toNat (1 + u).toNat (by omega) (by omega) a3 s3 (by omega)
    refine ⟨(1 + v).toNat, (1 + u).toNat, p', a', s', by omega, by omega, k1, k2, ?_, k4, by omega⟩
    unfold spec_l09DrawOk.f
    simp only [e1, e2, e3, Option.bind_some, Bool.false_eq_true, if_false]
    rw [Int.toNat_of_nonneg (show 0 ≤ 1 + v by omega), Int.toNat_of_nonneg (show 0 ≤ 1 + u by omega)] at k3
    rw [w64 (x := 1 + v) (by omega) (by omega), w64 (x := 1 + u) (by omega) (by omega)]
    exact Ev.bind k3 (Ev.now _)
theorem b10Pic_ev : ∃ (R C : Nat) (p : List (List Int)), (1 ≤ R ∧ R ≤ 12) ∧ (1 ≤ C ∧ C ≤ 12) ∧ Grid R C p ∧ (∀ x ∈ p, ∀ z ∈ x, 0 ≤ z ∧ z ≤ 255) ∧ Ev (fun k => spec_B10Picture.f k l) p := by
  obtain ⟨R, C, p, a, s, h1, h2, h3, h4, h5, _⟩ := drawOk_ev hl 0 0 (by omega)
  refine ⟨R, C, p, h1, h2, h3, h4, ?_⟩
  unfold spec_B10Picture.f
  simp only [show spec_l00From.f l = some (l, 0, 0) from rfl, Option.bind_some]
  exact Ev.bind h5 (Ev.now _)
end
theorem grid_form {R C : Nat} {p : List (List Int)} {b : Int} (hR : 1 ≤ R ∧ R ≤ 12) (hC : 1 ≤ C ∧ C ≤ 12) (g : Grid R C p) (hv : ∀ x ∈ p, ∀ z ∈ x, 0 ≤ z ∧ z ≤ b) : rowsForm b p = true := by
  cases p with
  | nil => have := g.1; simp at this; omega
  | cons y r =>
    have h1 := g.1
    have h2 := g.2 y (List.mem_cons_self ..)
    unfold rowsForm
    simp only [Bool.and_eq_true, decide_eq_true_eq, List.all_eq_true]
    refine ⟨⟨by omega, by omega⟩, fun x hx => ?_⟩
    unfold rowOk
    simp only [Bool.and_eq_true, decide_eq_true_eq, List.all_eq_true]
    exact ⟨by rw [g.2 x hx, h2], hv x hx⟩
end Go.Proofs.Ytpdkknfooblplaa.Com
namespace Go.Proofs.Ytpdkknfooblplaa.Com
set_option linter.unusedSimpArgs false
set_option linter.unusedVariables false
set_option linter.unusedSectionVars false
open Go.RowKit Go.Proofs.YtpdkknfooblplaaW.PrintWords Go.Proofs.YtpdkknfooblplaaW.PrintMore Go.Proofs.Ytpdkknfooblplaa.Q Go.Proofs.Ytpdkknfooblplaa.Pure
section
variable {l : List Int} (hl : ∀ x ∈ l, (Lit.int .u8 x).wf = true)
include hl
theorem dkEnd_ev (a s P : Int) (T : List S79) (ha : 0 ≤ a ∧ a ≤ 900) (hT : T.length ≤ 1000) : ∃ r, Ev (fun k => spec_l09DrawKernel.j3 k l a s P T) r := by
  obtain ⟨v, a1, s1, e1, v0, v1, b0, b1⟩ := pick2_tells l hl a s 24 (by omega) (by omega)
  by_cases h0 : v = 0
  · obtain ⟨u, a2, s2, e2, u0, u1, _, _⟩ := pick2_tells l hl a1 s1 4 (by omega) (by omega)
    have e3 : spec_l00Src_among.f l a1 s1 [0, 64, 65, 3] = some (rd [0, 64, 65, 3] u, a2, s2) := by
      unfold spec_l00Src_among.f
      rw [show (([0, 64, 65, 3] : List Int).length : Int) = 4 from rfl, e2]
      simp only [Option.bind_some, if_pos u0, if_pos u1]
    refine ⟨(rd [0, 64, 65, 3] u, T, a2, s2), Ev.step (fun k => by rw [spec_l09DrawKernel.j3]) ?_⟩
    simp only [e1, Option.bind_some, if_pos h0, e3]
    exact Ev.now _
  · by_cases h1 : v = 1
    · refine ⟨(P, T ++ [⟨0, -1, 1⟩], a1, s1), Ev.step (fun k => by rw [spec_l09DrawKernel.j3]) ?_⟩
      simp only [e1, Option.bind_some, if_neg h0, if_pos h1, if_pos (show T.length < 5864062014805 by omega)]
      exact Ev.now _
    · refine ⟨(P, T, a1, s1), Ev.step (fun k => by rw [spec_l09DrawKernel.j3]) ?_⟩
      simp only [e1, Option.bind_some, if_neg h0, if_neg h1]
      exact Ev.now _
theorem dkLoop_ev : ∀ (d : Nat) (x4 a s P : Int) (T : List S79), 0 ≤ x4 → x4 ≤ 100 → 0 ≤ a → a + 10 * (d : Int) ≤ 800 → T.length + d ≤ 900 → ∃ r, Ev (fun k => spec_l09DrawKernel.l0 k x4 (d : Int) l a s P T) r
  | 0, x4, a, s, P, T, h0, h1, h2, h3, h4 => by
    obtain ⟨r, hr⟩ := dkEnd_ev hl a s P T (by omega) (by omega)
    refine ⟨r, Ev.step (fun k => by rw [spec_l09DrawKernel.l0]) ?_⟩
    simp only [if_neg (show ¬ ((0 : Nat) : Int) > 0 by omega)]
    refine Ev.step (fun k => by rw [spec_l09DrawKernel.j1]) ?_
    simp only [Bool.false_eq_true, if_false]
    exact hr
  | d + 1, x4, a, s, P, T, h0, h1, h2, h3, h4 => by
    by_cases hx : x4 > 0
    · obtain ⟨dn, a1, s1, e1, d0, d1, b0, b1⟩ := pick2_tells l hl a s 3 (by omega) (by omega)
      obtain ⟨rt, a2, s2, e2, r0, r1, c0, c1⟩ := pick2_tells l hl a1 s1 5 (by omega) (by omega)
      have tap : ∀ (a' s' f0 f1 : Int), 0 ≤ a' → a' ≤ a + 6 → ∃ r, Ev (fun k => spec_l09DrawKernel.j2 k x4 ((d + 1 : Nat) : Int) l a' s' P T f0 f1 0) r := by
        intro a' s' f0 f1 g0 g1
        obtain ⟨q, a3, s3, e3, q0, q1, k0, k1⟩ := pick2_tells l hl a' s' x4 (by omega) (by omega)
        have hk := l09Kernel_ev P (T ++ [(⟨f0, f1, wrap64 (1 + q)⟩ : S79)])
        have hlen : (T ++ [(⟨f0, f1, wrap64 (1 + q)⟩ : S79)]).length = T.length + 1 := by simp
        have hd : wrap64 (((d + 1 : Nat) : Int) - 1) = ((d : Nat) : Int) := by rw [w64 (by omega) (by omega)]; omega
        by_cases hkk : kern P (T ++ [(⟨f0, f1, wrap64 (1 + q)⟩ : S79)]) = true
        · obtain ⟨r, hr⟩ := dkLoop_ev d (x4 - (1 + q)) a3 s3 P (T ++ [(⟨f0, f1, wrap64 (1 + q)⟩ : S79)]) (by omega) (by omega) (by omega) (by omega) (by omega)
          refine ⟨r, Ev.step (fun k => by rw [spec_l09DrawKernel.j2]) ?_⟩
          simp only [e3, Option.bind_some, if_pos (show T.length < 5864062014805 by omega)]
          refine Ev.bind hk ?_
          simp only [hkk, if_true, hd]
          rw [w64 (x := 1 + q) (by omega) (by omega), w64 (x := x4 - (1 + q)) (by omega) (by omega)]
          rw [w64 (x := 1 + q) (by omega) (by omega)] at hr
          exact hr
        · obtain ⟨r, hr⟩ := dkLoop_ev d x4 a3 s3 P T (by omega) (by omega) (by omega) (by omega) (by omega)
          refine ⟨r, Ev.step (fun k => by rw [spec_l09DrawKernel.j2]) ?_⟩
          simp only [e3, Option.bind_some, if_pos (show T.length < 5864062014805 by omega)]
          refine Ev.bind hk ?_
          simp only [if_neg hkk, hd, hlen]
          rw [w64 (x := ((T.length + 1 : Nat) : Int) - 1) (by omega) (by omega)]
          simp only [if_pos (show 0 ≤ ((T.length + 1 : Nat) : Int) - 1 by omega), if_pos (show ((T.length + 1 : Nat) : Int) - 1 ≤ ((T.length + 1 : Nat) : Int) by omega), show (((T.length + 1 : Nat) : Int) - 1).toNat = T.length by omega, List.take_left]
          exact hr
      by_cases hz : dn = 0
      · obtain ⟨u, a3, s3, e3, u0, u1, k0, k1⟩ := pick2_tells l hl a2 s2 2 (by omega) (by omega)
        obtain ⟨r, hr⟩ := tap a3 s3 dn (wrap64 (1 + u)) (by omega) (by omega)
        refine ⟨r, Ev.step (fun k => by rw [spec_l09DrawKernel.l0]) ?_⟩
        simp only [if_pos (show ((d + 1 : Nat) : Int) > 0 by omega), decide_eq_true hx]
        refine Ev.step (fun k => by rw [spec_l09DrawKernel.j1]) ?_
        simp only [if_true, e1, e2, e3, Option.bind_some, if_pos hz]
        exact hr
      · obtain ⟨r, hr⟩ := tap a2 s2 dn (wrap64 (rt - 2)) (by omega) (by omega)
        refine ⟨r, Ev.step (fun k => by rw [spec_l09DrawKernel.l0]) ?_⟩
        simp only [if_pos (show ((d + 1 : Nat) : Int) > 0 by omega), decide_eq_true hx]
        refine Ev.step (fun k => by rw [spec_l09DrawKernel.j1]) ?_
        simp only [if_true, e1, e2, Option.bind_some, if_neg hz]
        exact hr
    · obtain ⟨r, hr⟩ := dkEnd_ev hl a s P T (by omega) (by omega)
      refine ⟨r, Ev.step (fun k => by rw [spec_l09DrawKernel.l0]) ?_⟩
      simp only [if_pos (show ((d + 1 : Nat) : Int) > 0 by omega), decide_eq_false hx]
      refine Ev.step (fun k => by rw [spec_l09DrawKernel.j1]) ?_
      simp only [Bool.false_eq_true, if_false]
      exact hr
theorem drawKern_ev : ∃ r, Ev (fun k => spec_l09DrawKernel.f k l 0 0) r := by
  obtain ⟨v, a1, s1, e1, v0, v1, b0, b1⟩ := pick2_tells l hl 0 0 3 (by omega) (by omega)
  obtain ⟨o, a2, s2, e2, c0, c1⟩ := one2_tells l hl a1 s1 2 (by omega) (by omega)
  have hkn : ∃ P T, spec_l09Known.f v = some (P, T) ∧ T.length ≤ 6 := by
    unfold spec_l09Known.f
    by_cases h0 : v = 0
    · rw [if_pos h0]; exact ⟨_, _, rfl, by simp⟩
    · rw [if_neg h0]
      by_cases h1 : v = 1
      · rw [if_pos h1]; exact ⟨_, _, rfl, by simp⟩
      · rw [if_neg h1]; exact ⟨_, _, rfl, by simp⟩
  obtain ⟨P, T, ek, hT⟩ := hkn
  cases o with
  | false =>
    obtain ⟨r, hr⟩ := dkEnd_ev hl a2 s2 P T (by omega) (by omega)
    refine ⟨r, ?_⟩
    unfold spec_l09DrawKernel.f
    simp only [e1, ek, e2, Option.bind_some, Bool.false_eq_true, if_false]
    exact hr
  | true =>
    obtain ⟨q, a3, s3, e3, q0, q1, k0, k1⟩ := pick2_tells l hl a2 s2 12 (by omega) (by omega)
    obtain ⟨m, a4, s4, e4, m0, m1, g0, g1⟩ := pick2_tells l hl a3 s3 5 (by omega) (by omega)
    obtain ⟨d, rfl⟩ := Int.eq_ofNat_of_zero_le m0
    obtain ⟨r, hr⟩ := dkLoop_ev hl d (4 + q) a4 s4 (4 + q) [] (by omega) (by omega) (by omega) (by omega) (by simp; omega)
    refine ⟨r, ?_⟩
    unfold spec_l09DrawKernel.f
    simp only [e1, ek, e2, e3, e4, Option.bind_some, if_true]
    rw [w64 (x := 4 + q) (by omega) (by omega)]
    exact hr
theorem known_kern : kern 16 [(⟨0, 1, 7⟩ : S79), ⟨1, -1, 3⟩, ⟨1, 0, 5⟩, ⟨1, 1, 1⟩] = true := by decide
theorem b10Kern_ev : ∃ P T, kern P T = true ∧ Ev (fun k => spec_B10Kernel.f k l) (P, T) := by
  obtain ⟨⟨P, T, a, s⟩, hr⟩ := drawKern_ev hl
  unfold spec_B10Kernel.f
  simp only [show spec_l00From.f l = some (l, 0, 0) from rfl, Option.bind_some]
  by_cases h : kern P T = true
  · refine ⟨P, T, h, Ev.bind hr (Ev.bind (l09Kernel_ev P T) ?_)⟩
    simp only [h, if_true]
    exact Ev.now _
  · refine ⟨_, _, known_kern hl, Ev.bind hr (Ev.bind (l09Kernel_ev P T) ?_)⟩
    simp only [if_neg h]
    exact Ev.now _
end
end Go.Proofs.Ytpdkknfooblplaa.Com
namespace Go.Proofs.Ytpdkknfooblplaa.Com
set_option linter.unusedSimpArgs false
set_option linter.unusedVariables false
set_option linter.unusedSectionVars false
open Go.RowKit Go.Proofs.Ytpdkknfooblplaa.Q Go.Proofs.YtpdkknfooblplaaW.PrintWords Go.Proofs.YtpdkknfooblplaaW.PrintLast Go.Proofs.Ytpdkknfooblplaa.Com Go.Proofs.Ytpdkknfooblplaa.Box
def dot (z : Int) : Int := if z = 1 then 35 else 46
def dots : List (List Int) → List Int
  | [] => []
  | x :: r => x.map dot ++ [10] ++ dots r
section
variable {l : List (List Int)} (hl : l.length ≤ 12) (hr : ∀ x ∈ l, x.length ≤ 12 ∧ ∀ z ∈ x, 0 ≤ z ∧ z ≤ 1)
include hl hr
theorem dotsImpl_ev : Ev (fun k => impl_DotsText.l0 k [] l (l.length : Int) 0) (strOfNums (dots l), true) := by
  have gen := ev_fold l (fun m (s : List Int) k => impl_DotsText.l0 k s l (l.length : Int) (m : Int)) (fun d s => (strOfNums (s ++ dots d), true)) (fun m s => s.length ≤ 13 * m) ?_ ?_ 0 [] (by omega) (by simp)
  · exact gen
  · intro s _
    refine Ev.step (fun k => by rw [impl_DotsText.l0]) ?_
    simp only [if_neg (show ¬ (l.length : Int) < (l.length : Int) by omega), dots, List.append_nil]
    exact Ev.now _
  · intro m hm s hs ih
    obtain ⟨h1, h2⟩ := hr _ (List.getElem_mem hm)
    refine Ev.step (fun k => by rw [impl_DotsText.l0]) ?_
    simp only [if_pos (show (m : Int) < (l.length : Int) by omega), if_pos (show 0 ≤ (m : Int) by omega), rdr_nat hm]
    have gen := ev_fold l[m] (fun j (s : List Int) k => impl_DotsText.l1 k s l (l.length : Int) (m : Int) l[m] (l[m].length : Int) (j : Int)) (fun d s => (strOfNums (s ++ (d.map dot ++ [10] ++ dots (l.drop (m + 1)))), true)) (fun j s => s.length ≤ 13 * m + j) ?_ ?_ 0 s (by omega) (by omega)
    · exact gen
    · intro s hs
      refine Ev.step (fun k => by rw [impl_DotsText.l1]) ?_
      simp only [if_neg (show ¬ (l[m].length : Int) < (l[m].length : Int) by omega), w_succ (m := m) (by omega), if_pos (show s.length < 140737488355328 by omega), List.map_nil, List.nil_append]
      rw [← List.append_assoc]
      exact ih _ (by simp; omega)
    · intro j hj s hs ih2
      obtain ⟨z0, z1⟩ := h2 _ (List.getElem_mem hj)
      have e : bt (⟨#[46, 35]⟩ : ByteArray) l[m][j] = dot l[m][j] := by
        rcases (show l[m][j] = 0 ∨ l[m][j] = 1 by omega) with h | h <;> rw [h] <;> rfl
      refine Ev.step (fun k => by rw [impl_DotsText.l1]) ?_
      simp only [if_pos (show (j : Int) < (l[m].length : Int) by omega), if_pos (show 0 ≤ (j : Int) by omega), rd_nat hj, w_succ (m := j) (by omega), if_pos z0, if_pos (show l[m][j] < 2 by omega), if_pos (show s.length < 140737488355328 by omega), e]
      rw [List.map_cons]
      rw [show s ++ (dot l[m][j] :: List.map dot (List.drop (j + 1) l[m]) ++ [10] ++ dots (List.drop (m + 1) l)) = s ++ [dot l[m][j]] ++ (List.map dot (List.drop (j + 1) l[m]) ++ [10] ++ dots (List.drop (m + 1) l)) by simp]
      exact ih2 _ (by simp; omega)
end
theorem form_rows {l : List (List Int)} {b : Int} (h : rowsForm b l = true) : l.length ≤ 12 ∧ ∀ x ∈ l, x.length ≤ 12 ∧ ∀ z ∈ x, 0 ≤ z ∧ z ≤ b := by
  cases l with
  | nil => simp [rowsForm] at h
  | cons y r =>
    have h' : (decide ((y :: r).length ≤ 12) && decide (1 ≤ y.length ∧ y.length ≤ 12) && (y :: r).all (rowOk y.length b)) = true := h
    rw [Bool.and_eq_true, Bool.and_eq_true] at h'
    obtain ⟨⟨h1, h2⟩, h3⟩ := h'
    have h1 := of_decide_eq_true h1
    have h2 := of_decide_eq_true h2
    refine ⟨h1, fun x hx => ?_⟩
    have hk := List.all_eq_true.1 h3 x hx
    unfold rowOk at hk
    rw [Bool.and_eq_true] at hk
    have q := of_decide_eq_true hk.1
    exact ⟨by omega, fun z hz => of_decide_eq_true (List.all_eq_true.1 hk.2 z hz)⟩
def bdot (z : Int) : UInt8 := if z = 1 then 35 else 46
def bdots : List (List Int) → List UInt8
  | [] => []
  | x :: r => x.map bdot ++ 10 :: bdots r
theorem strOf_map : ∀ (l : List Int) (m : List UInt8), l.map (fun n => UInt8.ofNat n.toNat) = m → strOfNums l = ⟨m.toArray⟩ := by
  intro l m h
  apply ByteArray.ext
  simp [strOfNums, ← h]
theorem dots_bytes : ∀ rs : List (List Int), (dots rs).map (fun n => UInt8.ofNat n.toNat) = bdots rs
  | [] => rfl
  | x :: r => by
    have ih := dots_bytes r
    simp only [dots, bdots, List.map_append, ih, List.map_map, List.append_assoc, List.map_cons, List.map_nil, List.cons_append, List.nil_append]
    refine congr (congrArg _ (List.map_congr_left fun z _ => ?_)) rfl
    simp only [Function.comp, dot, bdot]
    split <;> rfl
theorem str_dots (rs : List (List Int)) : strOfNums (dots rs) = ⟨(bdots rs).toArray⟩ := strOf_map _ _ (dots_bytes rs)
theorem lines_app : ∀ (u rest : List UInt8), (∀ b ∈ u, b ≠ 10) → lines (u ++ 10 :: rest) = (u ++ [10]) :: lines rest
  | [], rest, _ => by simp [lines]
  | b :: u, rest, h => by
    have ih := lines_app u rest (fun x hx => h x (List.mem_cons_of_mem _ hx))
    have hb : b ≠ 10 := h b (by simp)
    rw [List.cons_append, lines, if_neg hb, ih]
    rfl
theorem bdot_ne (z : Int) : bdot z ≠ 10 := by unfold bdot; split <;> decide
theorem lines_bdots : ∀ rs : List (List Int), lines (bdots rs) = rs.map fun r => r.map bdot ++ [10]
  | [] => rfl
  | x :: r => by
    rw [bdots, lines_app _ _ (fun b hb => by obtain ⟨z, _, rfl⟩ := List.mem_map.1 hb; exact bdot_ne z), lines_bdots r]
    rfl
theorem rows_bdots (rs : List (List Int)) (h : ∀ x ∈ rs, ∀ z ∈ x, 0 ≤ z ∧ z ≤ 1) : impl_ReadDots.rows ⟨(bdots rs).toArray⟩ = rs := by
  unfold impl_ReadDots.rows blines
  rw [show ((⟨(bdots rs).toArray⟩ : ByteArray).data.toList) = bdots rs from by simp, lines_bdots, List.map_map, List.map_map]
  conv => rhs; rw [← List.map_id rs]
  refine List.map_congr_left fun x hx => ?_
  simp only [Function.comp, impl_ReadDots.row, List.dropLast_concat, List.map_map, id]
  conv => rhs; rw [← List.map_id x]
  refine List.map_congr_left fun z hz => ?_
  have := h x hx z hz
  simp only [Function.comp, bdot, id]
  by_cases h1 : z = 1
  · simp [h1]
  · have : z = 0 := by omega
    simp [h1, this]
end Go.Proofs.Ytpdkknfooblplaa.Com
namespace Go.Proofs.Ytpdkknfooblplaa.Com
set_option linter.unusedSimpArgs false
set_option linter.unusedVariables false
open Go.RowKit Go.Proofs.Ytpdkknfooblplaa.Q Go.Proofs.YtpdkknfooblplaaW.PrintWords Go.Proofs.YtpdkknfooblplaaW.PrintLast
theorem b10At_tells (l : List Int) (i n : Int) (hl : ∀ x ∈ l, (Lit.int .u8 x).wf = true) (hi : 0 ≤ i ∧ i ≤ 10) (hn : 1 ≤ n) : ∃ r, laws_b10At.f l i n = some r ∧ 0 ≤ r ∧ r < n := by
  unfold laws_b10At.f
  by_cases h1 : n ≤ 1
  · exact ⟨0, by rw [if_pos h1], by omega, by omega⟩
  · rw [if_neg h1]
    by_cases h2 : i < (l.length : Int)
    · rw [if_pos h2, if_pos hi.1, if_neg (show ¬ n = 0 by omega)]
      have hx : 0 ≤ rd l i ∧ rd l i ≤ 255 := by
        have hlt : i.toNat < l.length := by omega
        have : rd l i ∈ l := by
          unfold rd
          rw [List.getD_eq_getElem?_getD, List.getElem?_eq_getElem hlt]
          exact List.getElem_mem hlt
        have := hl _ this
        simp [Lit.wf, IntKind.min, IntKind.max, IntKind.signed, IntKind.bits] at this
        omega
      rw [w64 (by omega) (by omega), tmod_nn hx.1]
      exact ⟨_, rfl, Int.emod_nonneg _ (by omega), Int.emod_lt_of_pos _ (by omega)⟩
    · rw [if_neg h2, if_neg (show ¬ n = 0 by omega), w64 (x := i * 37) (by omega) (by omega), w64 (by omega) (by omega), tmod_nn (by omega)]
      exact ⟨_, rfl, Int.emod_nonneg _ (by omega), Int.emod_lt_of_pos _ (by omega)⟩
end Go.Proofs.Ytpdkknfooblplaa.Com
namespace Go.Proofs.Ytpdkknfooblplaa.Pure
set_option linter.unusedSimpArgs false
set_option linter.unusedVariables false
set_option linter.unusedSectionVars false
open Go.RowKit Go.Proofs.Ytpdkknfooblplaa.Q Go.Proofs.YtpdkknfooblplaaW.PrintWords Go.Proofs.YtpdkknfooblplaaW.PrintLast Go.Proofs.Ytpdkknfooblplaa.Com
theorem nums_ev (x : List Int) (hx : x.length ≤ 1048576) : Ev (fun k => laws_b10Nums.f k x x) true := by
  unfold laws_b10Nums.f
  simp only [if_true]
  refine ev_list x (fun m k => laws_b10Nums.l0 k x x (m : Int)) (fun _ => true) ?_ ?_ 0 (by omega)
  · refine Ev.step (fun k => by rw [laws_b10Nums.l0]) ?_
    simp only [if_neg (show ¬ (x.length : Int) < (x.length : Int) by omega)]
    exact Ev.now _
  · intro m hm ih
    refine Ev.step (fun k => by rw [laws_b10Nums.l0]) ?_
    simp only [if_pos (show (m : Int) < (x.length : Int) by omega), if_pos (show 0 ≤ (m : Int) by omega), if_true, w_succ (m := m) (by omega)]
    exact ih
theorem tables_ev (g : List (List Int)) (hx : g.length ≤ 1048576) (hr : ∀ x ∈ g, x.length ≤ 1048576) : Ev (fun k => laws_b10Tables.f k g g) true := by
  unfold laws_b10Tables.f
  simp only [if_true]
  refine ev_list g (fun m k => laws_b10Tables.l0 k g g (m : Int)) (fun _ => true) ?_ ?_ 0 (by omega)
  · refine Ev.step (fun k => by rw [laws_b10Tables.l0]) ?_
    simp only [if_neg (show ¬ (g.length : Int) < (g.length : Int) by omega)]
    exact Ev.now _
  · intro m hm ih
    refine Ev.step (fun k => by rw [laws_b10Tables.l0]) ?_
    simp only [if_pos (show (m : Int) < (g.length : Int) by omega), if_pos (show 0 ≤ (m : Int) by omega), w_succ (m := m) (by omega), rdr_nat hm]
    refine Ev.bind (nums_ev g[m] (hr _ (List.getElem_mem hm))) ?_
    simp only [if_true]
    exact ih
theorem dotsText_ev {g : List (List Int)} (h : rowsForm 1 g = true) : Ev (fun k => impl_DotsText.f k g) (⟨(bdots g).toArray⟩, true) := by
  unfold impl_DotsText.f
  refine ev_bind' (areRows_tells g 1) ?_
  obtain ⟨h1, h2⟩ := form_rows h
  simp only [h, if_true]
  rw [← str_dots]
  exact dotsImpl_ev h1 h2
theorem bdots_len2 (rs : List (List Int)) (h : ∀ x ∈ rs, x.length ≤ 12) : (bdots rs).length ≤ 13 * rs.length := by
  induction rs with
  | nil => simp [bdots]
  | cons x r ih =>
    have h1 := h x (by simp)
    have h2 := ih (fun y hy => h y (List.mem_cons_of_mem _ hy))
    simp only [bdots, List.length_append, List.length_map, List.length_cons]
    omega
theorem readDots_ev {g : List (List Int)} (h : rowsForm 1 g = true) : Ev (fun k => impl_ReadDots.f k ⟨(bdots g).toArray⟩) (g, true) := by
  obtain ⟨h1, h2⟩ := form_rows h
  have hl := bdots_len2 g (fun x hx => (h2 x hx).1)
  have hz : (⟨(bdots g).toArray⟩ : ByteArray).size = (bdots g).length := by show (bdots g).toArray.size = _; simp
  unfold impl_ReadDots.f
  rw [rows_bdots g (fun x hx => (h2 x hx).2)]
  simp only [if_pos (show (⟨(bdots g).toArray⟩ : ByteArray).size ≤ 1048576 by omega)]
  refine Ev.bind (dotsText_ev h) ?_
  simp only [and_self, if_true]
  exact Ev.now _
theorem grid_ext {R C : Nat} {g : List (List Int)} (h : Grid R C g) (Q : Int → Prop) (hq : ∀ r c, r < R → c < C → Q (getG g r c)) : ∀ x ∈ g, ∀ z ∈ x, Q z := by
  intro x hx z hz
  obtain ⟨r, hr, rfl⟩ := List.getElem_of_mem hx
  obtain ⟨c, hc, rfl⟩ := List.getElem_of_mem hz
  have hr' : r < R := by rw [← h.1]; exact hr
  have hc' : c < C := by rw [← h.2 _ hx]; exact hc
  obtain ⟨_, _, e⟩ := getG_is h hr' hc'
  rw [← e]
  exact hq r c hr' hc'
theorem FnDiffused : laws_FnDiffused.Pure := by
  intro code more _ _ hc _ _ hm
  apply ev_of
  unfold laws_FnDiffused.f
  by_cases hlong : (code.length : Int) > 1048576 ∨ (more.length : Int) > 1048576
  · have e : laws_b10Long.f code more = some true := by
      unfold laws_b10Long.f
      by_cases h : (code.length : Int) > 1048576
      · rw [if_pos h]
      · rw [if_neg h, decide_eq_true (by omega)]
    rw [e]
    simp
    exact Ev.now _
  have e : laws_b10Long.f code more = some false := by
    unfold laws_b10Long.f
    rw [if_neg (by omega), decide_eq_false (by omega)]
  rw [e]
  simp only [Option.bind_some, Bool.false_eq_true, if_false]
  obtain ⟨R, C, p, hR, hC, gp, pv, ep⟩ := b10Pic_ev hc
  obtain ⟨P, T, hk, ek⟩ := b10Kern_ev hm
  obtain ⟨t, ht, _, _⟩ := b10At_tells more 0 2 hm (by omega) (by omega)
  refine Ev.bind ep (Ev.bind ek ?_)
  simp only [ht, Option.bind_some]
  obtain ⟨a2, ha2⟩ : ∃ a2, (t == 1) = a2 := ⟨_, rfl⟩
  rw [ha2]
  have gpl := gp.1
  have hp1 : p.length ≤ 1048576 := by omega
  have hp2 : ∀ x ∈ p, x.length ≤ 1048576 := fun x hx => by rw [gp.2 x hx]; omega
  have vp := grid_form hR hC gp pv
  have hcol : (rd_L1 p 0).length = C := gp.rd (i := 0) (by omega)
  obtain ⟨kP, kl, kok⟩ := kern_ok hk
  have lok : kern 1 [(⟨0, 1, 1⟩ : S79)] = true := by decide
  obtain ⟨_, e1, g1, _, _⟩ := diffGood P T a2 hp1 hp2 vp hk
  obtain ⟨_, e2, g2, _, _⟩ := diffGood 1 [(⟨0, 1, 1⟩ : S79)] a2 hp1 hp2 vp lok
  have c1 := conserved (P := P) kok a2 gp
  have c2 := conserved (P := 1) (kern_ok lok).2.2 a2 gp
  have pz : ∀ r c, r < R → c < C → 0 ≤ getG p r c ∧ getG p r c ≤ 255 := fun r c hr hc => by
    obtain ⟨h1, h2, e⟩ := getG_is gp hr hc
    rw [e]
    exact pv _ (List.getElem_mem h1) _ (List.getElem_mem h2)
  have lr := line_rows hR hC a2 gp pz
  unfold diffOf at e1 e2 g1 g2
  rw [gpl, hcol] at e1 e2 g1 g2
  simp only at c1 c2
  obtain ⟨D, hD⟩ : ∃ D, (diffused R C P T a2 (p, grid0 R C, 0)).2.1 = D := ⟨_, rfl⟩
  obtain ⟨lost, hlost⟩ : ∃ L, (diffused R C P T a2 (p, grid0 R C, 0)).2.2 = L := ⟨_, rfl⟩
  obtain ⟨D2, hD2⟩ : ∃ D, (diffused R C 1 [(⟨0, 1, 1⟩ : S79)] a2 (p, grid0 R C, 0)).2.1 = D := ⟨_, rfl⟩
  obtain ⟨rest, hrest⟩ : ∃ L, (diffused R C 1 [(⟨0, 1, 1⟩ : S79)] a2 (p, grid0 R C, 0)).2.2 = L := ⟨_, rfl⟩
  rw [hD, hlost] at c1 e1
  rw [hD2, hrest] at c2 e2
  rw [hD] at g1
  rw [hD2] at g2
  rw [hD2] at lr
  obtain ⟨q1, q2, q3, q4⟩ := c1
  obtain ⟨z1, z2, z3, z4⟩ := c2
  have dv : ∀ x ∈ D, ∀ z ∈ x, 0 ≤ z ∧ z ≤ 1 := grid_ext g1 (fun z => 0 ≤ z ∧ z ≤ 1) (fun r c hr hc => by have := q4 r c hr hc; omega)
  have dv2 : ∀ x ∈ D2, ∀ z ∈ x, 0 ≤ z ∧ z ≤ 1 := grid_ext g2 (fun z => 0 ≤ z ∧ z ≤ 1) (fun r c hr hc => by have := z4 r c hr hc; omega)
  have vd := grid_form hR hC g1 dv
  refine Ev.bind e1 (Ev.bind (dotsText_ev vd) (Ev.bind (readDots_ev vd) ?_))
  simp only [if_true]
  refine Ev.bind (tables_ev D (by rw [g1.1]; omega) (fun x hx => by rw [g1.2 x hx]; omega)) ?_
  simp only [if_true, g1.1, gpl]
  have sp := b10All_ev p (by omega) (fun x hx => by rw [gp.2 x hx]; omega) (fun x hx z hz => by have := pv x hx z hz; omega)
  have sd := b10All_ev D (by rw [g1.1]; omega) (fun x hx => by rw [g1.2 x hx]; omega) (fun x hx z hz => by have := dv x hx z hz; omega)
  refine Ev.bind sp (Ev.bind sd ?_)
  have bp : ∀ (g : List (List Int)), Grid R C g → (∀ x ∈ g, ∀ z ∈ x, -255 ≤ z ∧ z ≤ 255) → -100000 ≤ sumAll g ∧ sumAll g ≤ 100000 := fun g hg hv => by
    have h1 := sum_bd (g.map List.sum) 3060 (by omega) (fun s hs => by
      obtain ⟨x, hx, rfl⟩ := List.mem_map.1 hs
      have := sum_bd x 255 (by omega) (hv x hx)
      rw [hg.2 x hx] at this
      omega)
    unfold sumAll
    rw [List.length_map, hg.1] at h1
    omega
  have sP := bp p gp (fun x hx z hz => by have := pv x hx z hz; omega)
  have sD := bp D g1 (fun x hx z hz => by have := dv x hx z hz; omega)
  have sD2 := bp D2 g2 (fun x hx z hz => by have := dv2 x hx z hz; omega)
  have lb := in64 q2
  have whole : wrap64 (wrap64 (255 * sumAll D) + lost) = sumAll p := by
    unfold Cg at q1
    rw [w64 (x := 255 * sumAll D) (by omega) (by omega), q1, w64 (by omega) (by omega)]
  rw [whole, bne_self_eq_false]
  refine Ev.step (fun k => by rw [laws_FnDiffused.j0]) ?_
  have hkl : impl_KernelOf.f 2 = some (1, [(⟨0, 1, 1⟩ : S79)], true) := rfl
  simp only [Bool.false_eq_true, if_false, hkl, Option.bind_some]
  refine Ev.bind e2 ?_
  simp only [if_true, g2.1, gpl, bne_self_eq_false]
  refine Ev.step (fun k => by rw [laws_FnDiffused.j1]) ?_
  simp only [Bool.false_eq_true, if_false]
  have rowP : ∀ (g : List (List Int)), Grid R C g → ∀ m (h : m < g.length), wsum (fun r => r == m) g = g[m].sum := fun g _ m h => wsum_row h
  have loop := ev_count R (fun m (s : Int) k => laws_FnDiffused.l0 k D2 rest s (m : Int) p P T) true (fun m s => s = sumAll (p.take m) - 255 * sumAll (D2.take m) ∧ -128 * (m : Int) ≤ s ∧ s ≤ 128 * (m : Int)) ?_ ?_ 0 0 (by omega) ⟨by simp [sumAll], by omega, by omega⟩
  · exact loop
  · rintro s ⟨hs, b1, b2⟩
    refine Ev.step (fun k => by rw [laws_FnDiffused.l0]) ?_
    rw [List.take_of_length_le (by omega), List.take_of_length_le (by rw [g2.1]; omega)] at hs
    have hr : s = rest := by
      unfold Cg at z1
      rw [w64 (x := sumAll p) (by omega) (by omega)] at z1
      have lb2 := in64 z2
      have : wrap64 (255 * sumAll D2 + rest) = sumAll p := z1
      unfold wrap64 at this
      omega
    simp only [g2.1, if_neg (show ¬ (R : Int) < (R : Int) by omega), if_pos hr]
    refine Ev.bind (implKernel_ev P T) ?_
    rw [hk]
    exact Ev.now _
  · rintro m s hm ⟨hs, b1, b2⟩
    have hmp : m < p.length := by omega
    have hmd : m < D2.length := by rw [g2.1]; exact hm
    have hrow := lr m hm
    rw [wsum_row hmp, wsum_row hmd] at hrow
    have s1 := b10Sum_ev p[m] (by rw [gp.2 _ (List.getElem_mem hmp)]; omega) (fun z hz => by have := pv _ (List.getElem_mem hmp) z hz; omega)
    have s2 := b10Sum_ev D2[m] (by rw [g2.2 _ (List.getElem_mem hmd)]; omega) (fun z hz => by have := dv2 _ (List.getElem_mem hmd) z hz; omega)
    have t2 := sum_bd D2[m] 1 (by omega) (fun z hz => by have := dv2 _ (List.getElem_mem hmd) z hz; omega)
    rw [g2.2 _ (List.getElem_mem hmd)] at t2
    refine ⟨s + (p[m].sum - 255 * D2[m].sum), ⟨?_, by omega, by omega⟩, fun ih => ?_⟩
    · rw [List.take_succ_eq_append_getElem hmp, List.take_succ_eq_append_getElem hmd]
      unfold sumAll at hs ⊢
      simp only [List.map_append, List.map_cons, List.map_nil, List.sum_append, List.sum_cons, List.sum_nil]
      omega
    · refine Ev.step (fun k => by rw [laws_FnDiffused.l0]) ?_
      simp only [g2.1, gpl, if_pos (show (m : Int) < (R : Int) by omega), if_pos (show 0 ≤ (m : Int) by omega), gp.rd hm, g2.rd hm, if_true]
      rw [rdr_nat hmp, rdr_nat hmd]
      refine Ev.bind s1 (Ev.bind s2 ?_)
      obtain ⟨x, hx⟩ : ∃ x, p[m].sum - 255 * D2[m].sum = x := ⟨_, rfl⟩
      rw [w64 (x := 255 * D2[m].sum) (by omega) (by omega), hx]
      rw [hx] at hrow ih
      rw [w64 (x := x) (by omega) (by omega), w64 (x := s + x) (by omega) (by omega)]
      have hab : laws_b10Abs.f x = some (if x < 0 then -x else x) := by
        unfold laws_b10Abs.f
        by_cases q : x < 0
        · rw [if_pos q, if_pos q, w64 (by omega) (by omega)]
        · rw [if_neg q, if_neg q]
      have hab2 : ¬ wrap64 (2 * (if x < 0 then -x else x)) > 256 := by
        split
        · rw [w64 (by omega) (by omega)]; omega
        · rw [w64 (by omega) (by omega)]; omega
      simp only [hab, Option.bind_some, if_neg hab2, w_succ (m := m) (by omega)]
      exact ih
end Go.Proofs.Ytpdkknfooblplaa.Pure
