/- The statement FnPaths, with all that its proof stands on: functions of the program as plain functions, the program's walks, and the plain law. Conditions: none beyond the statement's own. -/
import Derived.ArgAppend
import Derived.Below
import Derived.BigQuiet
import Derived.BigRegion
import Derived.Deep.AppendLies
import Derived.Deep.CutBlock
import Derived.Deep.DeepCutAuto
import Derived.Deep.Draws
import Derived.Deep.LoopGhost
import Derived.Deep.OwnRows
import Derived.Deep.QuietTactic
import Derived.Deep.RegionHeld3
import Derived.Ground.SlgmProg
import Derived.Ground.SlgnProg
import Derived.KernelRfl
import Derived.Laws.BitsLemmas
import Derived.Laws.BytesArg
import Derived.Laws.IdiomCopy
import Derived.Laws.MakeOwn
import Derived.Laws.OwnMore
import Derived.Laws.Rows
import Derived.Laws.Slices
import Derived.Lib.AppendStr
import Derived.Lib.ConvBytes
import Derived.Maps.AppendAt
import Derived.OrdersHeld
import Derived.OwnWalk
import Derived.ProofKit
import Derived.RowKit
import Derived.RowKit3
import Derived.Shelf.SlicesE.Clone
import Derived.Shelf.Small.Bits
import Derived.Shelf.Small.Strs
import Derived.Shelf.SortM.Plain
import Derived.Shelf.Strconv.Itoa0
import Derived.Shelf.Strings.Search1
import Derived.Sort.OwnSortedInts
import Derived.Tactics
import Derived.Test.YtckonklpdepgoaaProg
import Derived.WalkKit
import Derived.WideLaws
import Derived.Test.YtckonklpdepgoaaBFnPaths1
import Derived.Test.YtckonklpdepgoaaBFnPaths2
import Derived.Test.YtckonklpdepgoaaBFnPaths3
import Derived.Test.YtckonklpdepgoaaBFnPaths4
import Derived.Test.YtckonklpdepgoaaBFnPaths5
import Derived.Test.YtckonklpdepgoaaBFnPaths6
import Derived.Test.YtckonklpdepgoaaBFnPaths7
import Derived.Test.YtckonklpdepgoaaBFnPaths8
set_option linter.unusedVariables false
set_option linter.unusedSimpArgs false
namespace Go.Proofs.Ytckonklpdepgoaa.Com
open Go.RowKit Go.Proofs.YtckonklpdepgoaaW.PrintWords
theorem w64 {x : Int} (h1 : -9223372036854775808 ≤ x) (h2 : x ≤ 9223372036854775807) : wrap64 x = x := by
 unfold wrap64
 omega
theorem mul_bd {a b A B : Int} (h0 : 0 ≤ a) (h1 : a ≤ A) (h2 : 0 ≤ b) (h3 : b ≤ B) : 0 ≤ a * b ∧ a * b ≤ A * B :=
 ⟨Int.mul_nonneg h0 h2, Int.mul_le_mul h1 h3 h2 (Int.le_trans h0 h1)⟩
theorem ev_of {α : Type} {g : Nat → Option α} {r : α} (h : Ev g r) : ∃ k, g k = some r := h.rounds
theorem ev_bind' {α β : Type} {o : Option α} {f : Nat → α → Option β} {a : α} {r : β} (h : o = some a) (k : Ev (fun n => f n a) r) : Ev (fun n => o.bind (f n)) r := by
 subst h
 exact k
theorem tmod_nn {a b : Int} (h : 0 ≤ a) : Int.tmod a b = a % b := Int.tmod_eq_emod_of_nonneg h
end Go.Proofs.Ytckonklpdepgoaa.Com
namespace Go.Proofs.Ytckonklpdepgoaa.Com
set_option linter.unusedSimpArgs false
set_option linter.unusedVariables false
open Go.RowKit Go.Proofs.YtckonklpdepgoaaW.PrintWords
theorem ev_fold {α σ ρ : Type} (xs : List α) (g : Nat → σ → Nat → Option ρ) (F : List α → σ → ρ) (Inv : Nat → σ → Prop)
  (h0 : ∀ s, Inv xs.length s → Ev (g xs.length s) (F [] s))
  (hs : ∀ m (h : m < xs.length) s, Inv m s → (∀ s', Inv (m + 1) s' → Ev (g (m + 1) s') (F (xs.drop (m + 1)) s')) → Ev (g m s) (F (xs[m] :: xs.drop (m + 1)) s)) :
  ∀ m s, m ≤ xs.length → Inv m s → Ev (g m s) (F (xs.drop m) s) := by
 have key : ∀ d m s, m + d = xs.length → Inv m s → Ev (g m s) (F (xs.drop m) s) := by
  intro d
  induction d with
  | zero =>
   intro m s e hi
   obtain rfl : m = xs.length := by omega
   rw [List.drop_length]
   exact h0 s hi
  | succ d ih =>
   intro m s e hi
   have h : m < xs.length := by omega
   rw [List.drop_eq_getElem_cons h]
   exact hs m h s hi (fun s' hi' => ih (m + 1) s' (by omega) hi')
 intro m s hm hi
 exact key (xs.length - m) m s (by omega) hi
theorem ev_count {σ ρ : Type} (n : Nat) (g : Nat → σ → Nat → Option ρ) (r : ρ) (Inv : Nat → σ → Prop) (h0 : ∀ s, Inv n s → Ev (g n s) r)
  (hs : ∀ m s, m < n → Inv m s → ∃ s', Inv (m + 1) s' ∧ (Ev (g (m + 1) s') r → Ev (g m s) r)) : ∀ m s, m ≤ n → Inv m s → Ev (g m s) r := by
 have key : ∀ d m s, m + d = n → Inv m s → Ev (g m s) r := by
  intro d
  induction d with
  | zero =>
   intro m s e hi
   obtain rfl : m = n := by omega
   exact h0 s hi
  | succ d ih =>
   intro m s e hi
   obtain ⟨s', hi', k⟩ := hs m s (by omega) hi
   exact k (ih (m + 1) s' (by omega) hi')
 intro m s hm hi
 exact key (n - m) m s (by omega) hi
theorem rd_nat {xs : List Int} {m : Nat} (h : m < xs.length) : rd xs (m : Int) = xs[m] := by
 unfold rd
 rw [Int.toNat_natCast, List.getD_eq_getElem?_getD, List.getElem?_eq_getElem h]
 rfl
theorem w_succ {m : Nat} (h : m < 9223372036854775807) : wrap64 ((m : Int) + 1) = ((m + 1 : Nat) : Int) := by
 rw [w64 (by omega) (by omega)]
 omega
end Go.Proofs.Ytckonklpdepgoaa.Com
namespace Go.Proofs.Ytckonklpdepgoaa.Com
set_option linter.unusedSimpArgs false
set_option linter.unusedVariables false
open Go.RowKit Go.Proofs.YtckonklpdepgoaaW.PrintWords Go.Proofs.Ytckonklpdepgoaa.Q
theorem within_tells (x a b : Int) : impl_within.f x a b = some (decide (a ≤ x ∧ x ≤ b)) := by
 unfold impl_within.f
 split <;> simp [*]
end Go.Proofs.Ytckonklpdepgoaa.Com
namespace Go.Proofs.Ytckonklpdepgoaa.Com
set_option linter.unusedSimpArgs false
set_option linter.unusedVariables false
set_option linter.unusedSectionVars false
open Go.RowKit Go.Proofs.YtckonklpdepgoaaW.PrintWords Go.Proofs.YtckonklpdepgoaaW.PrintMore Go.Proofs.Ytckonklpdepgoaa.Q
theorem rdr_nat {xs : List (List Int)} {m : Nat} (h : m < xs.length) : rd_L1 xs (m : Int) = xs[m] := by
 unfold rd_L1
 rw [Int.toNat_natCast, List.getD_eq_getElem?_getD, List.getElem?_eq_getElem h]
 rfl
def rowOk (n : Nat) (b : Int) (x : List Int) : Bool := decide (x.length = n) && x.all fun z => decide (0 ≤ z ∧ z ≤ b)
def rowsForm (b : Int) (l : List (List Int)) : Bool := match l with
 | [] => false
 | y :: _ => decide (l.length ≤ 12) && decide (1 ≤ y.length ∧ y.length ≤ 12) && l.all (rowOk y.length b)
theorem areRows_tells (l : List (List Int)) (b : Int) : impl_areRows.f l b = some (rowsForm b l) := by
 cases l with
 | nil => rfl
 | cons y r =>
  unfold impl_areRows.f rowsForm
  simp only
  congr 1
  rw [List.not_any_eq_all_not]
  congr 2
  funext x
  unfold impl_areRows.p rowOk
  by_cases h : x.length = y.length <;> simp [h]
end Go.Proofs.Ytckonklpdepgoaa.Com
namespace Go.Proofs.Ytckonklpdepgoaa.Com
set_option linter.unusedSimpArgs false
set_option linter.unusedVariables false
set_option linter.unusedSectionVars false
open Go.RowKit Go.Proofs.YtckonklpdepgoaaW.PrintWords Go.Proofs.YtckonklpdepgoaaW.PrintMore Go.Proofs.Ytckonklpdepgoaa.Q
def tot : List (List Int) → Int
 | [] => 0
 | x :: r => (x.length : Int) + tot r
def grid0 (R C : Nat) : List (List Int) := List.replicate R (List.replicate C 0)
theorem noughts_ev (R C : Nat) (hR : R ≤ 1000000) (hC : C ≤ 1000000) : Ev (fun k => impl_noughts.f k (R : Int) (C : Int)) (grid0 R C) := by
 unfold impl_noughts.f
 simp only [if_pos (show 0 ≤ (R : Int) by omega), Int.toNat_natCast, if_pos (show R ≤ 11728124029610 by omega), Option.bind_some, List.length_replicate]
 refine ev_count R (fun m (s : List (List Int)) k => impl_noughts.l0 k (C : Int) s (R : Int) (m : Int)) _ (fun m s => s = List.replicate m (List.replicate C 0) ++ List.replicate (R - m) []) ?_ ?_ 0 _ (by omega) (by simp)
 ·rintro _ rfl
  refine Ev.step (fun k => by rw [impl_noughts.l0]) ?_
  simp only [if_neg (show ¬ (R : Int) < (R : Int) by omega), Nat.sub_self, List.replicate_zero, List.append_nil]
  exact Ev.now _
 ·rintro m _ hm rfl
  refine ⟨_, rfl, fun ih => ?_⟩
  refine Ev.step (fun k => by rw [impl_noughts.l0]) ?_
  have hl : (List.replicate m (List.replicate C (0 : Int)) ++ List.replicate (R - m) []).length = R := by simp; omega
  simp only [hl, if_pos (show (m : Int) < (R : Int) by omega), if_pos (show 0 ≤ (C : Int) by omega), Int.toNat_natCast, if_pos (show C ≤ 35184372088832 by omega), if_pos (show 0 ≤ (m : Int) by omega), w_succ (m := m) (by omega)]
  have es : (List.replicate m (List.replicate C (0 : Int)) ++ List.replicate (R - m) []).set m (List.replicate C 0) = List.replicate (m + 1) (List.replicate C 0) ++ List.replicate (R - (m + 1)) [] := by
   obtain ⟨q, hq⟩ : ∃ q, R - m = q + 1 := ⟨R - m - 1, by omega⟩
   rw [List.set_append_right _ _ (by simp), List.length_replicate, Nat.sub_self, hq, List.replicate_succ, List.set_cons_zero, List.replicate_succ', show R - (m + 1) = q by omega, List.append_assoc]
   rfl
  rw [es]
  exact ih
def Grid (R C : Nat) (g : List (List Int)) : Prop := g.length = R ∧ ∀ x ∈ g, x.length = C
theorem grid0_is (R C : Nat) : Grid R C (grid0 R C) := ⟨by simp [grid0], fun x hx => by unfold grid0 at hx; rw [List.eq_of_mem_replicate hx, List.length_replicate]⟩
theorem Grid.row {R C : Nat} {g : List (List Int)} (h : Grid R C g) {i : Nat} (hi : i < R) : i < g.length ∧ ∀ (h' : i < g.length), g[i].length = C := ⟨by rw [h.1]; exact hi, fun h' => h.2 _ (List.getElem_mem h')⟩
theorem Grid.rd {R C : Nat} {g : List (List Int)} (h : Grid R C g) {i : Nat} (hi : i < R) : (rd_L1 g (i : Int)).length = C := by
 rw [rdr_nat (h.row hi).1]
 exact (h.row hi).2 _
theorem Grid.put {R C : Nat} {g : List (List Int)} (h : Grid R C g) {i : Nat} (j : Nat) (v : Int) (hi : i < R) : Grid R C (g.set i ((rd_L1 g (i : Int)).set j v)) := by
 refine ⟨by rw [List.length_set]; exact h.1, fun x hx => ?_⟩
 rcases List.mem_or_eq_of_mem_set hx with hx | hx
 ·exact h.2 x hx
 ·rw [hx, List.length_set]; exact h.rd hi
end Go.Proofs.Ytckonklpdepgoaa.Com
namespace Go.Proofs.Ytckonklpdepgoaa.Com
set_option linter.unusedSimpArgs false
set_option linter.unusedVariables false
set_option linter.unusedSectionVars false
open Go.RowKit Go.Proofs.YtckonklpdepgoaaW.PrintWords Go.Proofs.YtckonklpdepgoaaW.PrintMore Go.Proofs.Ytckonklpdepgoaa.Q
theorem rowsForm_is {b : Int} {l : List (List Int)} (h : rowsForm b l = true) :
  ∃ R C : Nat, 1 ≤ R ∧ R ≤ 12 ∧ 1 ≤ C ∧ C ≤ 12 ∧ Grid R C l ∧ (rd_L1 l 0).length = C ∧ ∀ x ∈ l, ∀ z ∈ x, 0 ≤ z ∧ z ≤ b := by
 cases l with
 | nil => simp [rowsForm] at h
 | cons y r =>
  have ef : rowsForm b (y :: r) = (decide ((y :: r).length ≤ 12) && decide (1 ≤ y.length ∧ y.length ≤ 12) && (y :: r).all (rowOk y.length b)) := rfl
  rw [ef] at h
  simp only [Bool.and_eq_true, decide_eq_true_eq, List.all_eq_true] at h
  obtain ⟨⟨h1, h2⟩, h3⟩ := h
  have e0 : rd_L1 (y :: r) 0 = y := rdr_nat (xs := y :: r) (m := 0) (by rw [List.length_cons]; omega)
  refine ⟨(y :: r).length, y.length, by rw [List.length_cons]; omega, h1, h2.1, h2.2, ⟨rfl, fun x hx => ?_⟩, by rw [e0], fun x hx z hz => ?_⟩
  ·have := h3 x hx
   unfold rowOk at this
   simp only [Bool.and_eq_true, decide_eq_true_eq] at this
   exact this.1
  ·have := h3 x hx
   unfold rowOk at this
   simp only [Bool.and_eq_true, decide_eq_true_eq, List.all_eq_true] at this
   exact this.2 z hz
end Go.Proofs.Ytckonklpdepgoaa.Com
namespace Go.Proofs.Ytckonklpdepgoaa.Com
set_option linter.unusedSimpArgs false
set_option linter.unusedVariables false
set_option linter.unusedSectionVars false
open Go.RowKit Go.Proofs.YtckonklpdepgoaaW.PrintWords Go.Proofs.YtckonklpdepgoaaW.PrintMore Go.Proofs.Ytckonklpdepgoaa.Q
def ptOk (R C : Nat) (x : List Int) : Prop := x.length = 2 ∧ (0 ≤ rd x 0 ∧ rd x 0 ≤ (R : Int) - 1) ∧ (0 ≤ rd x 1 ∧ rd x 1 ≤ (C : Int) - 1)
instance (R C : Nat) (x : List Int) : Decidable (ptOk R C x) := inferInstanceAs (Decidable (_ ∧ _ ∧ _))
def setAt (g : List (List Int)) (x : List Int) (v : Int) : List (List Int) := g.set (rd x 0).toNat ((rd_L1 g (rd x 0)).set (rd x 1).toNat v)
def pathRun (R C : Nat) : List (List Int) → List (List Int) → Bool
 | [], _ => true
 | x :: r, g => if ptOk R C x then (if rd (rd_L1 g (rd x 0)) (rd x 1) = 1 then false else pathRun R C r (setAt g x 1)) else false
theorem ptOk_nat {R C : Nat} {x : List Int} (h : ptOk R C x) : ∃ i j : Nat, rd x 0 = (i : Int) ∧ rd x 1 = (j : Int) ∧ i < R ∧ j < C ∧ x.length = 2 := by
 obtain ⟨h1, ⟨a, b⟩, ⟨c, d⟩⟩ := h
 exact ⟨(rd x 0).toNat, (rd x 1).toNat, by omega, by omega, by omega, by omega, h1⟩
theorem setAt_is {R C : Nat} {g : List (List Int)} {x : List Int} (v : Int) (h : Grid R C g) (hx : ptOk R C x) : Grid R C (setAt g x v) := by
 obtain ⟨i, j, e1, e2, hi, hj, _⟩ := ptOk_nat hx
 unfold setAt
 rw [e1, e2, Int.toNat_natCast, Int.toNat_natCast]
 exact h.put j v hi
section
variable {p l : List (List Int)} {R C : Nat} (hR : 1 ≤ R ∧ R ≤ 12) (hC : 1 ≤ C ∧ C ≤ 12) (hp : Grid R C p) (cp : (rd_L1 p 0).length = C) (hx : l.length ≤ 1048576)
include hR hC hp cp hx
theorem implPath_ev : Ev (fun k => impl_IsPath.l0 k (grid0 R C) l (l.length : Int) 0 p) (pathRun R C l (grid0 R C)) := by
 refine ev_fold l (fun m (s : List (List Int)) k => impl_IsPath.l0 k s l (l.length : Int) (m : Int) p) (fun d s => pathRun R C d s) (fun m s => Grid R C s) ?_ ?_ 0 (grid0 R C) (by omega) (grid0_is R C)
 ·intro s hs
  refine Ev.step (fun k => by rw [impl_IsPath.l0]) ?_
  simp only [if_neg (show ¬ (l.length : Int) < (l.length : Int) by omega)]
  exact Ev.now _
 ·intro m hm s hs ih
  refine Ev.step (fun k => by rw [impl_IsPath.l0]) ?_
  simp only [if_pos (show (m : Int) < (l.length : Int) by omega), if_pos (show 0 ≤ (m : Int) by omega), rdr_nat hm]
  generalize hy : l[m] = y
  have nope : ∀ (h : ¬ ptOk R C y), pathRun R C (y :: l.drop (m + 1)) s = false := fun h => by unfold pathRun; exact if_neg h
  by_cases q0 : y.length = 2
  ·simp only [if_pos (show (y.length : Int) = 2 by omega), if_pos (show 0 < (y.length : Int) by omega), if_pos (show 1 < (y.length : Int) by omega)]
   refine ev_bind' (show impl_size_int64_68.f p = some (R : Int) from by unfold impl_size_int64_68.f; rw [hp.1]) ?_
   rw [w64 (x := (R : Int) - 1) (by omega) (by omega)]
   refine ev_bind' (within_tells _ _ _) ?_
   by_cases q1 : 0 ≤ rd y 0 ∧ rd y 0 ≤ (R : Int) - 1
   ·simp only [decide_eq_true q1, if_true, hp.1, if_pos (show 0 < (R : Int) by omega)]
    refine ev_bind' (show impl_size_int64_69.f (rd_L1 p 0) = some (C : Int) from by unfold impl_size_int64_69.f; rw [cp]) ?_
    rw [w64 (x := (C : Int) - 1) (by omega) (by omega)]
    refine ev_bind' (within_tells _ _ _) ?_
    by_cases q2 : 0 ≤ rd y 1 ∧ rd y 1 ≤ (C : Int) - 1
    ·have ok : ptOk R C y := ⟨q0, q1, q2⟩
     obtain ⟨i, j, e1, e2, hi, hj, _⟩ := ptOk_nat ok
     simp only [decide_eq_true q2, if_true]
     have is := setAt_is 1 hs ok
     have ih' := ih _ is
     unfold pathRun
     rw [if_pos ok]
     unfold setAt at ih' ⊢
     rw [e1, e2] at ih' ⊢
     simp only [e1, e2, if_pos (show 0 ≤ (i : Int) by omega), if_pos (show 0 ≤ (j : Int) by omega), hs.1, hs.rd hi, if_pos (show (i : Int) < (R : Int) by omega), if_pos (show (j : Int) < (C : Int) by omega), w_succ (m := m) (by omega)]
     by_cases q3 : rd (rd_L1 s (i : Int)) (j : Int) = 1
     ·simp only [if_pos q3]
      exact Ev.now _
     ·simp only [if_neg q3]
      exact ih'
    ·simp only [decide_eq_false q2, Bool.false_eq_true, if_false]
     rw [nope (fun h => q2 h.2.2)]
     exact Ev.now _
   ·simp only [decide_eq_false q1, Bool.false_eq_true, if_false]
    rw [nope (fun h => q1 h.2.1)]
    exact Ev.now _
  ·simp only [if_neg (show ¬ (y.length : Int) = 2 by omega)]
   rw [nope (fun h => q0 h.1)]
   exact Ev.now _
end
def isPath (p l : List (List Int)) : Bool := rowsForm 255 p && (decide ((l.length : Int) = (p.length : Int) * ((rd_L1 p 0).length : Int)) && pathRun p.length (rd_L1 p 0).length l (grid0 p.length (rd_L1 p 0).length))
section
variable {p l : List (List Int)} (hp : p.length ≤ 1048576) (hp' : ∀ x ∈ p, x.length ≤ 1048576) (hx : l.length ≤ 1048576)
include hp hp' hx
theorem implIsPath_ev : Ev (fun k => impl_IsPath.f k p l) (isPath p l) := by
 unfold impl_IsPath.f
 have no : Ev (fun k => impl_IsPath.j0 k l true p) false := Ev.step (fun k => by rw [impl_IsPath.j0]) (by simp only [if_true]; exact Ev.now _)
 refine ev_bind' (show impl_ValidPicture.f p = some (rowsForm 255 p) from by unfold impl_ValidPicture.f; rw [areRows_tells]; rfl) ?_
 by_cases v : rowsForm 255 p = true
 ·obtain ⟨R, C, R1, R2, C1, C2, gp, cp, _⟩ := rowsForm_is v
  have b := mul_bd (a := (R : Int)) (b := (C : Int)) (by omega) (show (R : Int) ≤ 12 by omega) (by omega) (show (C : Int) ≤ 12 by omega)
  unfold isPath
  rw [v, Bool.true_and, gp.1, cp]
  simp only [if_true, if_pos (show 0 < (R : Int) by omega), w64 (x := (R : Int) * (C : Int)) (by omega) (by omega)]
  by_cases q : (l.length : Int) = (R : Int) * (C : Int)
  ·rw [decide_eq_true q, Bool.true_and, show ((l.length : Int) != (R : Int) * (C : Int)) = false from by rw [q]; exact bne_self_eq_false _]
   refine Ev.step (fun k => by rw [impl_IsPath.j0]) ?_
   simp only [Bool.false_eq_true, if_false, gp.1, cp, if_pos (show 0 < (R : Int) by omega)]
   exact Ev.bind (noughts_ev R C (by omega) (by omega)) (implPath_ev ⟨R1, R2⟩ ⟨C1, C2⟩ gp cp hx)
  ·rw [decide_eq_false q, Bool.false_and, show ((l.length : Int) != (R : Int) * (C : Int)) = true from by simpa using q]
   exact no
 ·rw [show isPath p l = false from by unfold isPath; rw [show rowsForm 255 p = false from by simpa using v]; rfl]
  simp only [if_neg v]
  exact no
end
end Go.Proofs.Ytckonklpdepgoaa.Com
namespace Go.Proofs.Ytckonklpdepgoaa.Com
set_option linter.unusedSimpArgs false
set_option linter.unusedVariables false
set_option linter.unusedSectionVars false
open Go.RowKit Go.Proofs.YtckonklpdepgoaaW.PrintWords Go.Proofs.YtckonklpdepgoaaW.PrintMore Go.Proofs.Ytckonklpdepgoaa.Q
def dOne (z : Int) : Int := if 2 * z > 255 then 1 else 0
def dLeft (z : Int) : Int := if 2 * z > 255 then z - 255 else z
theorem implDot_tells (z : Int) (h : -1000 ≤ z ∧ z ≤ 1000) : impl_dotOf.f z = some (dOne z, dLeft z) := by
 unfold impl_dotOf.f impl_bit.f dOne dLeft
 rw [w64 (x := 2 * z) (by omega) (by omega)]
 by_cases q : 2 * z > 255
 ·simp only [decide_eq_true q, if_true, Option.bind_some, if_pos q]
  rw [w64 (x := 1 * 255) (by omega) (by omega), w64 (by omega) (by omega)]
  rfl
 ·simp only [decide_eq_false q, Bool.false_eq_true, if_false, Option.bind_some, if_neg q]
  rw [w64 (x := 0 * 255) (by omega) (by omega), w64 (by omega) (by omega)]
  simp
def dStep (p : List (List Int)) (s : List (List Int) × Int) (x : List Int) : List (List Int) × Int :=
 (setAt s.1 x (dOne (rd (rd_L1 p (rd x 0)) (rd x 1) + s.2)), dLeft (rd (rd_L1 p (rd x 0)) (rd x 1) + s.2))
section
variable {p l : List (List Int)} {R C : Nat} (hR : 1 ≤ R ∧ R ≤ 12) (hC : 1 ≤ C ∧ C ≤ 12) (hp : Grid R C p) (hv : ∀ x ∈ p, ∀ z ∈ x, 0 ≤ z ∧ z ≤ 255) (hx : l.length ≤ 1048576) (hl : ∀ x ∈ l, ptOk R C x)
include hR hC hp hv hx hl
theorem implDith_ev : Ev (fun k => impl_PathDither.l0 k (grid0 R C) 0 l (l.length : Int) 0 p) ((l.foldl (dStep p) (grid0 R C, 0)).1, (l.foldl (dStep p) (grid0 R C, 0)).2, true) := by
 refine ev_fold l (fun m (s : List (List Int) × Int) k => impl_PathDither.l0 k s.1 s.2 l (l.length : Int) (m : Int) p) (fun d s => ((d.foldl (dStep p) s).1, (d.foldl (dStep p) s).2, true)) (fun m s => Grid R C s.1 ∧ -127 ≤ s.2 ∧ s.2 ≤ 127) ?_ ?_ 0 (grid0 R C, 0) (by omega) ⟨grid0_is R C, by omega, by omega⟩
 ·intro s hs
  refine Ev.step (fun k => by rw [impl_PathDither.l0]) ?_
  simp only [if_neg (show ¬ (l.length : Int) < (l.length : Int) by omega)]
  exact Ev.now _
 ·rintro m hm ⟨g, e⟩ ⟨hs, s1, s2⟩ ih
  have ok := hl _ (List.getElem_mem hm)
  simp only at hs s1 s2
  refine Ev.step (fun k => by rw [impl_PathDither.l0]) ?_
  simp only [if_pos (show (m : Int) < (l.length : Int) by omega), if_pos (show 0 ≤ (m : Int) by omega), rdr_nat hm, w_succ (m := m) (by omega), List.foldl_cons]
  generalize l[m] = y at ok ⊢
  obtain ⟨i, j, e1, e2, hi, hj, q0⟩ := ptOk_nat ok
  have hpi : i < p.length := by rw [hp.1]; exact hi
  have hlen : p[i].length = C := hp.2 _ (List.getElem_mem hpi)
  have hval : 0 ≤ rd (rd_L1 p (i : Int)) (j : Int) ∧ rd (rd_L1 p (i : Int)) (j : Int) ≤ 255 := by
   rw [rdr_nat hpi, rd_nat (show j < p[i].length by omega)]
   exact hv _ (List.getElem_mem hpi) _ (List.getElem_mem _)
  have ih' := ih (dStep p (g, e) y) ⟨setAt_is _ hs ok, by unfold dStep dLeft; rw [e1, e2]; simp only; split <;> omega, by unfold dStep dLeft; rw [e1, e2]; simp only; split <;> omega⟩
  revert ih'
  generalize (List.drop (m + 1) l).foldl (dStep p) (dStep p (g, e) y) = F
  unfold dStep setAt
  simp only [e1, e2, if_pos (show 0 < (y.length : Int) by omega), if_pos (show 1 < (y.length : Int) by omega), if_pos (show 0 ≤ (i : Int) by omega), if_pos (show 0 ≤ (j : Int) by omega), hp.1, hs.1, if_pos (show (i : Int) < (R : Int) by omega), hp.rd hi, hs.rd hi, if_pos (show (j : Int) < (C : Int) by omega)]
  rw [w64 (x := rd (rd_L1 p (i : Int)) (j : Int) + e) (by omega) (by omega)]
  simp only [implDot_tells _ (show -1000 ≤ rd (rd_L1 p (i : Int)) (j : Int) + e ∧ rd (rd_L1 p (i : Int)) (j : Int) + e ≤ 1000 by omega), Option.bind_some]
  exact fun h => h
end
end Go.Proofs.Ytckonklpdepgoaa.Com
namespace Go.Proofs.Ytckonklpdepgoaa.Com
set_option linter.unusedSimpArgs false
set_option linter.unusedVariables false
set_option linter.unusedSectionVars false
open Go.RowKit Go.Proofs.YtckonklpdepgoaaW.PrintWords Go.Proofs.YtckonklpdepgoaaW.PrintMore Go.Proofs.Ytckonklpdepgoaa.Q
def sumAll (g : List (List Int)) : Int := (g.map List.sum).sum
theorem sum_bd (l : List Int) (B : Int) (hB : 0 ≤ B) (h : ∀ z ∈ l, -B ≤ z ∧ z ≤ B) : -((l.length : Int) * B) ≤ l.sum ∧ l.sum ≤ (l.length : Int) * B := by
 induction l with
 | nil => simp
 | cons x r ih =>
  have h1 := h x (List.mem_cons_self ..)
  have h2 := ih (fun z hz => h z (List.mem_cons_of_mem _ hz))
  rw [List.sum_cons, List.length_cons, Int.natCast_add, Int.add_mul]
  omega
theorem sum_snoc (l : List Int) (x : Int) : (l ++ [x]).sum = l.sum + x := by simp
theorem b10Sum_ev (l : List Int) (hl : l.length ≤ 100000) (h : ∀ z ∈ l, -1000000000 ≤ z ∧ z ≤ 1000000000) : Ev (fun k => laws_b10Sum.f k l) l.sum := by
 unfold laws_b10Sum.f
 have key := ev_fold l (fun m (s : Int) k => laws_b10Sum.l0 k l s (m : Int)) (fun d s => s + d.sum) (fun m s => s = (l.take m).sum) ?_ ?_ 0 0 (by omega) (by simp)
 ·rw [List.drop_zero, Int.zero_add] at key
  exact key
 ·intro s _
  refine Ev.step (fun k => by rw [laws_b10Sum.l0]) ?_
  simp only [if_neg (show ¬ (l.length : Int) < (l.length : Int) by omega), List.sum_nil, Int.add_zero]
  exact Ev.now _
 ·intro m hm s hs ih
  have e : (l.take (m + 1)).sum = s + l[m] := by rw [List.take_succ_eq_append_getElem hm, sum_snoc, hs]
  have b := sum_bd (l.take m) 1000000000 (by omega) (fun z hz => h z (List.mem_of_mem_take hz))
  have b2 := h _ (List.getElem_mem hm)
  have b3 : (l.take m).length ≤ 100000 := by rw [List.length_take]; omega
  have b4 : ((l.take m).length : Int) * 1000000000 ≤ 100000 * 1000000000 := Int.mul_le_mul_of_nonneg_right (by omega) (by omega)
  rw [← hs] at b
  refine Ev.step (fun k => by rw [laws_b10Sum.l0]) ?_
  simp only [if_pos (show (m : Int) < (l.length : Int) by omega), if_pos (show 0 ≤ (m : Int) by omega), rd_nat hm, w64 (x := s + l[m]) (by omega) (by omega), w_succ (m := m) (by omega)]
  rw [List.sum_cons, ← Int.add_assoc]
  exact ih (s + l[m]) e.symm
theorem b10All_ev (g : List (List Int)) (hl : g.length ≤ 1000) (h1 : ∀ x ∈ g, x.length ≤ 1000) (h : ∀ x ∈ g, ∀ z ∈ x, -1000000000 ≤ z ∧ z ≤ 1000000000) : Ev (fun k => laws_b10All.f k g) (sumAll g) := by
 unfold laws_b10All.f sumAll
 have rows : ∀ x ∈ g, -1000000000000 ≤ x.sum ∧ x.sum ≤ 1000000000000 := fun x hx => by
  have b := sum_bd x 1000000000 (by omega) (h x hx)
  have b3 := h1 x hx
  have b4 : (x.length : Int) * 1000000000 ≤ 1000 * 1000000000 := Int.mul_le_mul_of_nonneg_right (by omega) (by omega)
  omega
 have key := ev_fold g (fun m (s : Int) k => laws_b10All.l0 k g s (m : Int)) (fun d s => s + (d.map List.sum).sum) (fun m s => s = ((g.take m).map List.sum).sum) ?_ ?_ 0 0 (by omega) (by simp)
 ·rw [List.drop_zero, Int.zero_add] at key
  exact key
 ·intro s _
  refine Ev.step (fun k => by rw [laws_b10All.l0]) ?_
  simp only [if_neg (show ¬ (g.length : Int) < (g.length : Int) by omega), List.map_nil, List.sum_nil, Int.add_zero]
  exact Ev.now _
 ·intro m hm s hs ih
  have e : ((g.take (m + 1)).map List.sum).sum = s + g[m].sum := by rw [List.take_succ_eq_append_getElem hm, List.map_append, List.map_singleton, sum_snoc, hs]
  have b := sum_bd ((g.take m).map List.sum) 1000000000000 (by omega) (fun z hz => by
   obtain ⟨x, hx, rfl⟩ := List.mem_map.1 hz
   exact rows x (List.mem_of_mem_take hx))
  have b2 := rows _ (List.getElem_mem hm)
  have b3 : ((g.take m).map List.sum).length ≤ 1000 := by rw [List.length_map, List.length_take]; omega
  have b4 : (((g.take m).map List.sum).length : Int) * 1000000000000 ≤ 1000 * 1000000000000 := Int.mul_le_mul_of_nonneg_right (by omega) (by omega)
  rw [← hs] at b
  have hr : rd_L1 g (m : Int) = g[m] := rdr_nat hm
  refine Ev.step (fun k => by rw [laws_b10All.l0]) ?_
  simp only [if_pos (show (m : Int) < (g.length : Int) by omega), if_pos (show 0 ≤ (m : Int) by omega), hr, w_succ (m := m) (by omega)]
  refine Ev.bind (b10Sum_ev g[m] (by have := h1 _ (List.getElem_mem hm); omega) (h _ (List.getElem_mem hm))) ?_
  simp only [w64 (x := s + g[m].sum) (by omega) (by omega)]
  rw [List.map_cons, List.sum_cons, ← Int.add_assoc]
  exact ih (s + g[m].sum) e.symm
end Go.Proofs.Ytckonklpdepgoaa.Com
namespace Go.Proofs.Ytckonklpdepgoaa.Com
set_option linter.unusedSimpArgs false
set_option linter.unusedVariables false
open Go.RowKit Go.Proofs.YtckonklpdepgoaaW.PrintWords Go.Proofs.YtckonklpdepgoaaW.PrintMore Go.Proofs.Ytckonklpdepgoaa.Q
theorem and_255 (x : Nat) (h : x < 18446744073709551616) : ∃ r : Nat, Go.bits .and .u64 (x : Int) 255 = (r : Int) ∧ r ≤ 255 :=
 ⟨x &&& 255, (Go.bits_nat .u64 64 (by decide) (fun n h0 h1 => by simp [IntKind.wrap, IntKind.bits, IntKind.signed]; omega) x 255 h (by decide)).1, Nat.and_le_right⟩
theorem u64_bd (n : Int) : 0 ≤ IntKind.u64.wrap n ∧ IntKind.u64.wrap n < 18446744073709551616 := by
 simp [IntKind.wrap, IntKind.bits, IntKind.signed]
 omega
theorem u8_bd {x : Int} (h : (Lit.int .u8 x).wf = true) : 0 ≤ x ∧ x ≤ 255 := by
 simp [Lit.wf, IntKind.min, IntKind.max, IntKind.signed, IntKind.bits] at h
 omega
theorem next_tells (l : List Int) (hl : ∀ x ∈ l, (Lit.int .u8 x).wf = true) (a s : Int) (ha : 0 ≤ a ∧ a ≤ 1000) : ∃ v s', spec_l00Src_next.f l a s = some (v, a + 1, s') ∧ 0 ≤ v ∧ v ≤ 255 := by
 unfold spec_l00Src_next.f
 rw [w64 (x := a + 1) (by omega) (by omega)]
 have big : ∀ y : Int, ∃ r : Nat, Go.bits .and .u64 (IntKind.u64.wrap y / 1099511627776) 255 = (r : Int) ∧ r ≤ 255 := by
  intro y
  have b := u64_bd y
  obtain ⟨n, hn⟩ := Int.eq_ofNat_of_zero_le (show 0 ≤ IntKind.u64.wrap y / 1099511627776 by omega)
  rw [hn]
  exact and_255 n (by omega)
 by_cases h : a < (l.length : Int)
 ·rw [if_pos h, if_pos ha.1, if_pos (by omega)]
  have hlt : a.toNat < l.length := by omega
  have hv : rd l a = l[a.toNat] := by
   have := rd_nat hlt
   rwa [Int.toNat_of_nonneg ha.1] at this
  have b := u8_bd (hl _ (List.getElem_mem hlt))
  rw [hv, w64 (x := l[a.toNat]) (by omega) (by omega)]
  exact ⟨_, _, rfl, b.1, b.2⟩
 ·rw [if_neg h]
  split
  ·exact ⟨_, _, rfl, by omega, by omega⟩
  ·obtain ⟨r, hr, hr'⟩ := big (IntKind.u64.wrap (IntKind.u64.wrap (s * 6364136223846793005)) + 1442695040888963407)
   rw [hr, w64 (x := (r : Int)) (by omega) (by omega)]
   exact ⟨_, _, rfl, by omega, by omega⟩
theorem pick2_tells (l : List Int) (hl : ∀ x ∈ l, (Lit.int .u8 x).wf = true) (a s n : Int) (ha : 0 ≤ a ∧ a ≤ 999) (hn : 1 ≤ n ∧ n ≤ 1000) : ∃ v a' s', spec_l00Src_pick.f l a s n = some (v, a', s') ∧ 0 ≤ v ∧ v < n ∧ 0 ≤ a' ∧ a' ≤ a + 2 := by
 unfold spec_l00Src_pick.f
 by_cases h : n ≤ 1
 ·rw [if_pos h]
  exact ⟨_, _, _, rfl, by omega, by omega, by omega, by omega⟩
 ·obtain ⟨v, s', e, h0, h1⟩ := next_tells l hl a s (by omega)
  rw [if_neg h, e, Option.bind_some]
  by_cases h2 : n > 200
  ·obtain ⟨v2, s2, e2, g0, g1⟩ := next_tells l hl (a + 1) s' (by omega)
   rw [if_pos h2]
   simp only
   rw [e2, Option.bind_some, if_neg (by omega)]
   simp only
   rw [w64 (x := v * 256) (by omega) (by omega), w64 (x := v * 256 + v2) (by omega) (by omega), tmod_nn (by omega)]
   have := Int.emod_nonneg (v * 256 + v2) (show n ≠ 0 by omega)
   have := Int.emod_lt_of_pos (v * 256 + v2) (show 0 < n by omega)
   exact ⟨(v * 256 + v2) % n, a + 1 + 1, s2, rfl, by omega, by omega, by omega, by omega⟩
  ·rw [if_neg h2, if_neg (by omega), tmod_nn h0]
   have := Int.emod_nonneg v (show n ≠ 0 by omega)
   have := Int.emod_lt_of_pos v (show 0 < n by omega)
   exact ⟨v % n, a + 1, s', rfl, by omega, by omega, by omega, by omega⟩
end Go.Proofs.Ytckonklpdepgoaa.Com
namespace Go.Proofs.Ytckonklpdepgoaa.Com
set_option linter.unusedSimpArgs false
set_option linter.unusedVariables false
set_option linter.unusedSectionVars false
open Go.RowKit Go.Proofs.YtckonklpdepgoaaW.PrintWords Go.Proofs.YtckonklpdepgoaaW.PrintMore Go.Proofs.Ytckonklpdepgoaa.Q
theorem one2_tells (l : List Int) (hl : ∀ x ∈ l, (Lit.int .u8 x).wf = true) (a s n : Int) (ha : 0 ≤ a ∧ a ≤ 999) (hn : 1 ≤ n ∧ n ≤ 1000) : ∃ v a' s', spec_l00Src_one.f l a s n = some (v, a', s') ∧ 0 ≤ a' ∧ a' ≤ a + 2 := by
 obtain ⟨v, a', s', e, _, _, h1, h2⟩ := pick2_tells l hl a s n ha hn
 unfold spec_l00Src_one.f
 rw [e]
 exact ⟨_, _, _, rfl, h1, h2⟩
section
variable {l : List Int} (hl : ∀ x ∈ l, (Lit.int .u8 x).wf = true)
include hl
theorem drawRow_ev (R C : Nat) (hC : C ≤ 12) (v : Int) (hv : 0 ≤ v ∧ v ≤ 255) (b : Bool) (i : Int) (p : List (List Int)) (r : List (List Int) × Int × Int → Prop) :
  ∀ (d m : Nat), m + d = C → ∀ (x : List Int) (a s : Int), x.length = m → (∀ z ∈ x, 0 ≤ z ∧ z ≤ 255) → 0 ≤ a → a + 2 * (d : Int) ≤ 800 →
   ∃ (x' : List Int) (a' s' : Int), x'.length = C ∧ (∀ z ∈ x', 0 ≤ z ∧ z ≤ 255) ∧ 0 ≤ a' ∧ a' ≤ a + 2 * (d : Int) ∧ ∀ q, Ev (fun k => spec_l09DrawSized.l1 k (R : Int) (C : Int) v b i x' (C : Int) l a' s' p) q → Ev (fun k => spec_l09DrawSized.l1 k (R : Int) (C : Int) v b i x (m : Int) l a s p) q := by
 intro d
 induction d with
 | zero =>
  intro m e x a s hx hz ha _
  obtain rfl : m = C := by omega
  exact ⟨x, a, s, hx, hz, ha, by omega, fun q h => h⟩
 | succ d ih =>
  intro m e x a s hx hz ha hb
  cases b with
  | true =>
   obtain ⟨x', a', s', g1, g2, g3, g4, g5⟩ := ih (m + 1) (by omega) (x ++ [v]) a s (by simp; omega) (fun z hz' => by
    rcases List.mem_append.1 hz' with h | h
    ·exact hz z h
    ·rw [List.mem_singleton.1 h]; exact hv) ha (by omega)
   refine ⟨x', a', s', g1, g2, g3, by omega, fun q h => Ev.step (fun k => by rw [spec_l09DrawSized.l1]) ?_⟩
   simp only [if_pos (show (m : Int) < (C : Int) by omega), if_true, if_pos (show x.length < 17592186044416 by omega), w_succ (m := m) (by omega)]
   exact g5 q h
  | false =>
   obtain ⟨u, a1, s1, ev, u0, u1, b0, b1⟩ := pick2_tells l hl a s 256 (by omega) (by omega)
   obtain ⟨x', a', s', g1, g2, g3, g4, g5⟩ := ih (m + 1) (by omega) (x ++ [u]) a1 s1 (by simp; omega) (fun z hz' => by
    rcases List.mem_append.1 hz' with h | h
    ·exact hz z h
    ·rw [List.mem_singleton.1 h]; omega) b0 (by omega)
   refine ⟨x', a', s', g1, g2, g3, by omega, fun q h => Ev.step (fun k => by rw [spec_l09DrawSized.l1]) ?_⟩
   simp only [if_pos (show (m : Int) < (C : Int) by omega), Bool.false_eq_true, if_false, ev, Option.bind_some, if_pos (show x.length < 17592186044416 by omega), w_succ (m := m) (by omega)]
   exact g5 q h
theorem drawRows_ev (R C : Nat) (hR : R ≤ 12) (hC : C ≤ 12) (v : Int) (hv : 0 ≤ v ∧ v ≤ 255) (b : Bool) :
  ∀ (d m : Nat), m + d = R → ∀ (p : List (List Int)) (a s : Int), Grid m C p → (∀ x ∈ p, ∀ z ∈ x, 0 ≤ z ∧ z ≤ 255) → 0 ≤ a → a + 2 * ((d * 12 : Nat) : Int) ≤ 800 →
   ∃ (p' : List (List Int)) (a' s' : Int), Grid R C p' ∧ (∀ x ∈ p', ∀ z ∈ x, 0 ≤ z ∧ z ≤ 255) ∧ Ev (fun k => spec_l09DrawSized.l0 k (R : Int) (C : Int) v b (m : Int) l a s p) (p', a', s') ∧ 0 ≤ a' ∧ a' ≤ a + 2 * ((d * 12 : Nat) : Int) := by
 intro d
 induction d with
 | zero =>
  intro m e p a s hg hz ha _
  obtain rfl : m = R := by omega
  refine ⟨p, a, s, hg, hz, Ev.step (fun k => by rw [spec_l09DrawSized.l0]) ?_, ha, by omega⟩
  simp only [if_neg (show ¬ (m : Int) < (m : Int) by omega)]
  exact Ev.now _
 | succ d ih =>
  intro m e p a s hg hz ha hb
  obtain ⟨x', a1, s1, g1, g2, g3, g4, g5⟩ := drawRow_ev hl R C hC v hv b (m : Int) p (fun _ => True) C 0 (by omega) [] a s rfl (by simp) ha (by omega)
  obtain ⟨p', a', s', k1, k2, k3, k4, k5⟩ := ih (m + 1) (by omega) (p ++ [x']) a1 s1 ⟨by rw [List.length_append, hg.1]; rfl, fun x hx => by
   rcases List.mem_append.1 hx with h | h
   ·exact hg.2 x h
   ·rw [List.mem_singleton.1 h]; exact g1⟩ (fun x hx => by
   rcases List.mem_append.1 hx with h | h
   ·exact hz x h
   ·rw [List.mem_singleton.1 h]; exact g2) g3 (by omega)
  refine ⟨p', a', s', k1, k2, Ev.step (fun k => by rw [spec_l09DrawSized.l0]) ?_, k4, by omega⟩
  simp only [if_pos (show (m : Int) < (R : Int) by omega)]
  refine g5 _ (Ev.step (fun k => by rw [spec_l09DrawSized.l1]) ?_)
  simp only [if_neg (show ¬ (C : Int) < (C : Int) by omega), hg.1, if_pos (show m < 5864062014805 by omega), w_succ (m := m) (by omega)]
  exact k3
theorem drawSized_ev (R C : Nat) (hR : R ≤ 12) (hC : C ≤ 12) (a s : Int) (ha : 0 ≤ a ∧ a ≤ 100) :
  ∃ (p' : List (List Int)) (a' s' : Int), Grid R C p' ∧ (∀ x ∈ p', ∀ z ∈ x, 0 ≤ z ∧ z ≤ 255) ∧ Ev (fun k => spec_l09DrawSized.f k l a s (R : Int) (C : Int)) (p', a', s') ∧ 0 ≤ a' ∧ a' ≤ a + 300 := by
 obtain ⟨v, a1, s1, e1, v0, v1, b0, b1⟩ := pick2_tells l hl a s 256 (by omega) (by omega)
 obtain ⟨b, a2, s2, e2, b2, b3⟩ := one2_tells l hl a1 s1 3 (by omega) (by omega)
 obtain ⟨p', a', s', k1, k2, k3, k4, k5⟩ := drawRows_ev hl R C hR hC v ⟨v0, by omega⟩ b R 0 (by omega) [] a2 s2 ⟨rfl, by simp⟩ (by simp) b2 (by omega)
 refine ⟨p', a', s', k1, k2, ?_, k4, by omega⟩
 unfold spec_l09DrawSized.f
 simp only [e1, e2, Option.bind_some]
 exact k3
theorem drawOk_ev (a s : Int) (ha : 0 ≤ a ∧ a ≤ 50) : ∃ (R C : Nat) (p' : List (List Int)) (a' s' : Int), (1 ≤ R ∧ R ≤ 12) ∧ (1 ≤ C ∧ C ≤ 12) ∧ Grid R C p' ∧ (∀ x ∈ p', ∀ z ∈ x, 0 ≤ z ∧ z ≤ 255) ∧ Ev (fun k => spec_l09DrawOk.f k l a s) (p', a', s') ∧ 0 ≤ a' ∧ a' ≤ a + 310 := by
 obtain ⟨v, a1, s1, e1, v0, v1, b0, b1⟩ := pick2_tells l hl a s 6 (by omega) (by omega)
 obtain ⟨u, a2, s2, e2, u0, u1, b2, b3⟩ := pick2_tells l hl a1 s1 6 (by omega) (by omega)
 obtain ⟨b, a3, s3, e3, b4, b5⟩ := one2_tells l hl a2 s2 20 (by omega) (by omega)
 cases b with
 | true =>
  obtain ⟨p', a', s', k1, k2, k3, k4, k5⟩ := drawSized_ev hl 12 12 (by omega) (by omega) a3 s3 (by omega)
  refine ⟨12, 12, p', a', s', by omega, by omega, k1, k2, ?_, k4, by omega⟩
  unfold spec_l09DrawOk.f
  simp only [e1, e2, e3, Option.bind_some, if_true]
  exact Ev.bind k3 (Ev.now _)
 | false =>
  obtain ⟨p', a', s', k1, k2, k3, k4, k5⟩ := drawSized_ev hl (1 + v).toNat (1 + u).toNat (by omega) (by omega) a3 s3 (by omega)
  refine ⟨(1 + v).toNat, (1 + u).toNat, p', a', s', by omega, by omega, k1, k2, ?_, k4, by omega⟩
  unfold spec_l09DrawOk.f
  simp only [e1, e2, e3, Option.bind_some, Bool.false_eq_true, if_false]
  rw [Int.toNat_of_nonneg (show 0 ≤ 1 + v by omega), Int.toNat_of_nonneg (show 0 ≤ 1 + u by omega)] at k3
  rw [w64 (x := 1 + v) (by omega) (by omega), w64 (x := 1 + u) (by omega) (by omega)]
  exact Ev.bind k3 (Ev.now _)
theorem b10Pic_ev : ∃ (R C : Nat) (p : List (List Int)), (1 ≤ R ∧ R ≤ 12) ∧ (1 ≤ C ∧ C ≤ 12) ∧ Grid R C p ∧ (∀ x ∈ p, ∀ z ∈ x, 0 ≤ z ∧ z ≤ 255) ∧ Ev (fun k => spec_B10Picture.f k l) p := by
 obtain ⟨R, C, p, a, s, h1, h2, h3, h4, h5, _⟩ := drawOk_ev hl 0 0 (by omega)
 refine ⟨R, C, p, h1, h2, h3, h4, ?_⟩
 unfold spec_B10Picture.f
 simp only [show spec_l00From.f l = some (l, 0, 0) from rfl, Option.bind_some]
 exact Ev.bind h5 (Ev.now _)
end
theorem grid_form {R C : Nat} {p : List (List Int)} {b : Int} (hR : 1 ≤ R ∧ R ≤ 12) (hC : 1 ≤ C ∧ C ≤ 12) (g : Grid R C p) (hv : ∀ x ∈ p, ∀ z ∈ x, 0 ≤ z ∧ z ≤ b) : rowsForm b p = true := by
 cases p with
 | nil => have := g.1; simp at this; omega
 | cons y r =>
  have h1 := g.1
  have h2 := g.2 y (List.mem_cons_self ..)
  unfold rowsForm
  simp only [Bool.and_eq_true, decide_eq_true_eq, List.all_eq_true]
  refine ⟨⟨by omega, by omega⟩, fun x hx => ?_⟩
  unfold rowOk
  simp only [Bool.and_eq_true, decide_eq_true_eq, List.all_eq_true]
  exact ⟨by rw [g.2 x hx, h2], hv x hx⟩
end Go.Proofs.Ytckonklpdepgoaa.Com
namespace Go.Proofs.Ytckonklpdepgoaa.Com
set_option linter.unusedSimpArgs false
set_option linter.unusedVariables false
set_option linter.unusedSectionVars false
open Go.RowKit Go.Proofs.YtckonklpdepgoaaW.PrintWords Go.Proofs.YtckonklpdepgoaaW.PrintMore Go.Proofs.Ytckonklpdepgoaa.Q
def cellOf (i j : Nat) : List Int := [(i : Int), (j : Int)]
def cells (R C : Nat) : List (List Int) := (List.range R).flatMap (fun i => (List.range C).map (cellOf i))
def at2 (g : List (List Int)) (x : List Int) : Int := rd (rd_L1 g (rd x 0)) (rd x 1)
theorem cells_ok {R C : Nat} : ∀ x ∈ cells R C, ptOk R C x := by
 intro x hx
 obtain ⟨i, hi, hx⟩ := List.mem_flatMap.1 hx
 obtain ⟨j, hj, rfl⟩ := List.mem_map.1 hx
 have := List.mem_range.1 hi
 have := List.mem_range.1 hj
 refine ⟨rfl, ⟨?_, ?_⟩, ⟨?_, ?_⟩⟩ <;> simp [cellOf, rd] <;> omega
theorem cells_nodup (R C : Nat) : (cells R C).Nodup := by
 unfold cells
 refine List.pairwise_flatMap.2 ⟨fun i _ => ?_, ?_⟩
 ·refine List.Pairwise.map (R := fun a b => a ≠ b) _ (fun a b h e => h ?_) List.nodup_range
  simp [cellOf] at e
  omega
 ·refine List.Pairwise.imp (R := fun a b => a ≠ b) (fun h x hx y hy e => h ?_) List.nodup_range
  obtain ⟨j, _, rfl⟩ := List.mem_map.1 hx
  obtain ⟨j', _, rfl⟩ := List.mem_map.1 hy
  simp [cellOf] at e
  omega
theorem cells_snoc (R C : Nat) : cells (R + 1) C = cells R C ++ (List.range C).map (cellOf R) := by
 unfold cells
 rw [List.range_succ, List.flatMap_append]
 simp
theorem cells_len (R C : Nat) : (cells R C).length = R * C := by
 induction R with
 | zero => simp [cells]
 | succ R ih => rw [cells_snoc, List.length_append, ih, List.length_map, List.length_range, Nat.succ_mul]
theorem perm_sum {l l' : List (List Int)} (f : List Int → Int) (h : l.Perm l') : (l.map f).sum = (l'.map f).sum := by
 induction h with
 | nil => rfl
 | cons x _ ih => simp only [List.map_cons, List.sum_cons, ih]
 | swap x y l => simp only [List.map_cons, List.sum_cons]; omega
 | trans _ _ a b => exact a.trans b
theorem cells_sum {R C : Nat} {g : List (List Int)} (hg : Grid R C g) : ((cells R C).map (at2 g)).sum = sumAll g := by
 have row : ∀ (y : List Int), y.length = C → ((List.range C).map fun (j : Nat) => rd y (j : Int)).sum = y.sum := by
  intro y hy
  congr 1
  refine List.ext_getElem (by simp [hy]) (fun j h1 h2 => ?_)
  simp [rd_nat h2]
 have key : ∀ m, m ≤ R → ((cells m C).map (at2 g)).sum = ((g.take m).map List.sum).sum := by
  intro m
  induction m with
  | zero => intro _; simp [cells]
  | succ m ih =>
   intro hm
   have hml : m < g.length := by rw [hg.1]; omega
   rw [cells_snoc, List.map_append, List.sum_append, ih (by omega), List.take_succ_eq_append_getElem hml, List.map_append, List.sum_append, List.map_singleton, List.sum_singleton, List.map_map]
   congr 1
   rw [← row g[m] (hg.2 _ (List.getElem_mem hml))]
   congr 1
   refine List.map_congr_left (fun j _ => ?_)
   show rd (rd_L1 g (rd (cellOf m j) 0)) (rd (cellOf m j) 1) = rd g[m] (j : Int)
   rw [show rd (cellOf m j) 0 = (m : Int) from rfl, show rd (cellOf m j) 1 = (j : Int) from rfl, rdr_nat hml]
 rw [key R (Nat.le_refl _), List.take_of_length_le (by rw [hg.1]; exact Nat.le_refl _)]
 rfl
theorem pt_ext {R C : Nat} {x y : List Int} (hx : ptOk R C x) (hy : ptOk R C y) (h0 : rd x 0 = rd y 0) (h1 : rd x 1 = rd y 1) : x = y := by
 obtain ⟨l1, _⟩ := hx
 obtain ⟨l2, _⟩ := hy
 match x, y, l1, l2 with
 | [a, b], [c, d], _, _ =>
  have e0 : a = c := h0
  have e1 : b = d := h1
  rw [e0, e1]
theorem at_set {R C : Nat} {g : List (List Int)} {x : List Int} (v : Int) (hg : Grid R C g) (hx : ptOk R C x) : at2 (setAt g x v) x = v := by
 obtain ⟨i, j, e1, e2, hi, hj, _⟩ := ptOk_nat hx
 unfold at2 setAt
 have hil : i < g.length := by rw [hg.1]; exact hi
 have hjl : j < g[i].length := by rw [hg.2 _ (List.getElem_mem hil)]; exact hj
 rw [e1, e2, Int.toNat_natCast, Int.toNat_natCast, rdr_nat hil, rdr_nat (by simpa using hil), List.getElem_set_self, rd_nat (by simpa using hjl), List.getElem_set_self]
theorem at_other {R C : Nat} {g : List (List Int)} {x y : List Int} (v : Int) (hg : Grid R C g) (hx : ptOk R C x) (hy : ptOk R C y) (hne : x ≠ y) : at2 (setAt g x v) y = at2 g y := by
 have hd : ¬ (rd x 0 = rd y 0 ∧ rd x 1 = rd y 1) := fun h => hne (pt_ext hx hy h.1 h.2)
 obtain ⟨i, j, e1, e2, hi, hj, _⟩ := ptOk_nat hx
 obtain ⟨i', j', e1', e2', hi', hj', _⟩ := ptOk_nat hy
 unfold at2 setAt
 rw [e1, e2, e1', e2'] at hd
 have hil : i < g.length := by rw [hg.1]; exact hi
 have hil' : i' < g.length := by rw [hg.1]; exact hi'
 have hjl : j' < g[i'].length := by rw [hg.2 _ (List.getElem_mem hil')]; exact hj'
 rw [e1, e2, e1', e2', Int.toNat_natCast, Int.toNat_natCast, rdr_nat hil, rdr_nat hil', rdr_nat (by simpa using hil'), rd_nat hjl]
 by_cases c : i = i'
 ·subst c
  have hjj : j ≠ j' := fun e => hd ⟨rfl, by rw [e]⟩
  rw [rd_nat (by simpa using hjl)]
  simp only [List.getElem_set_self]
  rw [List.getElem_set_ne hjj]
 ·simp only [List.getElem_set_ne c]
  rw [rd_nat hjl]
theorem at_grid0 {R C : Nat} {x : List Int} (hx : ptOk R C x) : at2 (grid0 R C) x = 0 := by
 obtain ⟨i, j, e1, e2, hi, hj, _⟩ := ptOk_nat hx
 have hil : i < (grid0 R C).length := by simp [grid0]; exact hi
 unfold at2
 rw [e1, e2, rdr_nat hil]
 have : (grid0 R C)[i] = List.replicate C 0 := by simp [grid0]
 rw [this, rd_nat (by simpa using hj)]
 simp
theorem pathRun_yes {R C : Nat} (l : List (List Int)) : ∀ g, Grid R C g → (∀ x ∈ l, ptOk R C x) → l.Nodup → (∀ x ∈ l, at2 g x = 0) → pathRun R C l g = true := by
 induction l with
 | nil => intros; rfl
 | cons x r ih =>
  intro g hg hl hn h0
  have ox := hl x List.mem_cons_self
  have hz := h0 x List.mem_cons_self
  have nn := List.nodup_cons.1 hn
  unfold pathRun
  rw [if_pos ox, if_neg (by have : rd (rd_L1 g (rd x 0)) (rd x 1) = 0 := hz; omega)]
  exact ih _ (setAt_is _ hg ox) (fun y hy => hl y (List.mem_cons_of_mem _ hy)) nn.2 (fun y hy => by
   rw [at_other 1 hg ox (hl y (List.mem_cons_of_mem _ hy)) (fun e => nn.1 (e ▸ hy))]
   exact h0 y (List.mem_cons_of_mem _ hy))
theorem isPath_yes {p l : List (List Int)} {R C : Nat} (hR : 1 ≤ R ∧ R ≤ 12) (hC : 1 ≤ C ∧ C ≤ 12) (hp : Grid R C p) (hv : ∀ x ∈ p, ∀ z ∈ x, 0 ≤ z ∧ z ≤ 255) (hl : l.Perm (cells R C)) : isPath p l = true := by
 unfold isPath
 rw [grid_form hR hC hp hv, hp.1, show (rd_L1 p 0).length = C from hp.rd (i := 0) (by omega), hl.length_eq, cells_len, pathRun_yes l _ (grid0_is R C) (fun x hx => cells_ok x (hl.mem_iff.1 hx)) (hl.nodup_iff.2 (cells_nodup R C)) (fun x hx => at_grid0 (cells_ok x (hl.mem_iff.1 hx)))]
 simp
def carry (p : List (List Int)) (R C : Nat) (l : List (List Int)) : Int := (l.foldl (dStep p) (grid0 R C, 0)).2
section
variable {p : List (List Int)} {R C : Nat} (hp : Grid R C p) (hv : ∀ x ∈ p, ∀ z ∈ x, 0 ≤ z ∧ z ≤ 255)
include hp hv
theorem at_pic {x : List Int} (hx : ptOk R C x) : 0 ≤ at2 p x ∧ at2 p x ≤ 255 := by
 obtain ⟨i, j, e1, e2, hi, hj, _⟩ := ptOk_nat hx
 have hil : i < p.length := by rw [hp.1]; exact hi
 have hjl : j < p[i].length := by rw [hp.2 _ (List.getElem_mem hil)]; exact hj
 unfold at2
 rw [e1, e2, rdr_nat hil, rd_nat hjl]
 exact hv _ (List.getElem_mem hil) _ (List.getElem_mem _)
theorem carry_bd (l : List (List Int)) : ∀ (s : List (List Int) × Int), (∀ x ∈ l, ptOk R C x) → -127 ≤ s.2 ∧ s.2 ≤ 127 → -127 ≤ (l.foldl (dStep p) s).2 ∧ (l.foldl (dStep p) s).2 ≤ 127 := by
 induction l with
 | nil => intro s _ h; exact h
 | cons x r ih =>
  intro s hl h
  have hx := at_pic hp hv (hl x List.mem_cons_self)
  refine ih _ (fun y hy => hl y (List.mem_cons_of_mem _ hy)) ?_
  unfold at2 at hx
  unfold dStep dLeft
  simp only
  split <;> omega
omit hp hv in
theorem dots_keep (l : List (List Int)) (y : List Int) (hy : ptOk R C y) : ∀ (s : List (List Int) × Int), Grid R C s.1 → (∀ x ∈ l, ptOk R C x) → y ∉ l → at2 (l.foldl (dStep p) s).1 y = at2 s.1 y := by
 induction l with
 | nil => intro s _ _ _; rfl
 | cons x r ih =>
  intro s hs hl hn
  have ox := hl x List.mem_cons_self
  rw [List.foldl_cons, ih _ (setAt_is _ hs ox) (fun z hz => hl z (List.mem_cons_of_mem _ hz)) (fun h => hn (List.mem_cons_of_mem _ h))]
  exact at_other _ hs ox hy (fun e => hn (e ▸ List.mem_cons_self))
omit hp hv in
theorem grid_fold (l : List (List Int)) : ∀ (s : List (List Int) × Int), Grid R C s.1 → (∀ x ∈ l, ptOk R C x) → Grid R C (l.foldl (dStep p) s).1 := by
 induction l with
 | nil => intro s h _; exact h
 | cons x r ih => intro s h hl; exact ih _ (setAt_is _ h (hl x List.mem_cons_self)) (fun y hy => hl y (List.mem_cons_of_mem _ hy))
omit hp hv in
theorem dots_at {l : List (List Int)} (hl : ∀ x ∈ l, ptOk R C x) (hn : l.Nodup) (m : Nat) (hm : m < l.length) : at2 (l.foldl (dStep p) (grid0 R C, 0)).1 l[m] = dOne (at2 p l[m] + carry p R C (l.take m)) ∧ carry p R C (l.take (m + 1)) = dLeft (at2 p l[m] + carry p R C (l.take m)) := by
 have e : l = l.take m ++ l[m] :: l.drop (m + 1) := by rw [← List.drop_eq_getElem_cons hm, List.take_append_drop]
 have hx := hl _ (List.getElem_mem hm)
 have hd : l[m] ∉ l.drop (m + 1) := by
  rw [e] at hn
  have := (List.nodup_append.1 hn).2.1
  exact (List.nodup_cons.1 this).1
 have hg := grid_fold (p := p) (l.take m) (grid0 R C, 0) (grid0_is R C) (fun x hx => hl x (List.mem_of_mem_take hx))
 constructor
 ·have : l.foldl (dStep p) (grid0 R C, 0) = (l.drop (m + 1)).foldl (dStep p) (dStep p ((l.take m).foldl (dStep p) (grid0 R C, 0)) l[m]) := by
   conv => lhs; rw [e]
   rw [List.foldl_append, List.foldl_cons]
  rw [this, dots_keep _ _ hx _ (setAt_is _ hg hx) (fun y hy => hl y (List.mem_of_mem_drop hy)) hd]
  exact at_set _ hg hx
 ·unfold carry
  rw [List.take_succ_eq_append_getElem hm, List.foldl_append]
  rfl
theorem carry_sum {l : List (List Int)} (hl : ∀ x ∈ l, ptOk R C x) (hn : l.Nodup) : ∀ m, m ≤ l.length → carry p R C (l.take m) = ((l.take m).map (at2 p)).sum - 255 * ((l.take m).map (at2 (l.foldl (dStep p) (grid0 R C, 0)).1)).sum := by
 intro m
 induction m with
 | zero => intro _; simp [carry]
 | succ m ih =>
  intro hm
  obtain ⟨h1, h2⟩ := dots_at (p := p) hl hn m (by omega)
  have ih' := ih (by omega)
  rw [List.take_succ_eq_append_getElem (by omega)] at h2 ⊢
  rw [h2, List.map_append, List.map_append, List.sum_append, List.sum_append, List.map_singleton, List.map_singleton, List.sum_singleton, List.sum_singleton, h1]
  unfold dLeft dOne
  split <;> omega
end
section
variable {p l : List (List Int)} {R C : Nat} (hR : 1 ≤ R ∧ R ≤ 12) (hC : 1 ≤ C ∧ C ≤ 12) (hp : Grid R C p) (hv : ∀ x ∈ p, ∀ z ∈ x, 0 ≤ z ∧ z ≤ 255) (hl : l.Perm (cells R C))
include hR hC hp hv hl
theorem perm_len : l.length ≤ 144 := by
 rw [hl.length_eq, cells_len]
 exact Nat.mul_le_mul hR.2 hC.2
theorem dith_yes : Ev (fun k => impl_PathDither.f k p l) ((l.foldl (dStep p) (grid0 R C, 0)).1, carry p R C l, true) := by
 have hlen := perm_len hR hC hp hv hl
 have h := isPath_yes hR hC hp hv hl
 have I0 := implIsPath_ev (p := p) (l := l) (by rw [hp.1]; omega) (fun x hx => by rw [hp.2 x hx]; omega) (by omega)
 rw [h] at I0
 unfold impl_PathDither.f
 refine Ev.bind I0 ?_
 simp only [if_true, hp.1, if_pos (show 0 < (R : Int) by omega), show (rd_L1 p 0).length = C from hp.rd (i := 0) (by omega)]
 exact Ev.bind (noughts_ev R C (by omega) (by omega)) (implDith_ev hR hC hp hv (by omega) (fun x hx => cells_ok x (hl.mem_iff.1 hx)))
theorem dith_total : sumAll p = 255 * sumAll (l.foldl (dStep p) (grid0 R C, 0)).1 + carry p R C l := by
 have ok : ∀ x ∈ l, ptOk R C x := fun x hx => cells_ok x (hl.mem_iff.1 hx)
 have h := carry_sum (p := p) hp hv ok (hl.nodup_iff.2 (cells_nodup R C)) l.length (Nat.le_refl _)
 rw [List.take_length, perm_sum _ hl, perm_sum _ hl, cells_sum hp, cells_sum (grid_fold (p := p) l (grid0 R C, 0) (grid0_is R C) ok)] at h
 omega
end
section
variable {p : List (List Int)} {R C : Nat} (hR : 1 ≤ R ∧ R ≤ 12) (hC : 1 ≤ C ∧ C ≤ 12) (hp : Grid R C p) {c : List Int} (hc : ∀ x ∈ c, (Lit.int .u8 x).wf = true)
include hR hC hp hc
theorem swaps_ev : ∀ (m : Nat) (xs : List (List Int)) (a s : Int), m < xs.length → xs.length ≤ 144 → 0 ≤ a → a + 2 * (m : Int) ≤ 900 → ∃ ys : List (List Int), ys.Perm xs ∧ Ev (fun k => spec_B10Path.l2 k xs (m : Int) c a s) ys := by
 intro m
 induction m with
 | zero =>
  intro xs a s hm hn ha hb
  refine ⟨xs, List.Perm.refl _, Ev.step (fun k => by rw [spec_B10Path.l2]) ?_⟩
  simp only [if_neg (show ¬ ((0 : Nat) : Int) > 0 by omega)]
  exact Ev.now _
 | succ m ih =>
  intro xs a s hm hn ha hb
  obtain ⟨v, a', s', e, v0, v1, b0, b1⟩ := pick2_tells c hc a s ((m + 1 : Nat) + 1 : Int) (by omega) (by omega)
  obtain ⟨n, rfl⟩ := Int.eq_ofNat_of_zero_le v0
  have hn1 : n < xs.length := by omega
  have hp1 := @List.set_set_perm _ xs (m + 1) n hm hn1
  obtain ⟨ys, h1, h2⟩ := ih ((xs.set (m + 1) xs[n]).set n xs[m + 1]) a' s' (by simp; omega) (by simpa using hn) b0 (by omega)
  refine ⟨ys, h1.trans hp1, Ev.step (fun k => by rw [spec_B10Path.l2]) ?_⟩
  simp only [if_pos (show ((m + 1 : Nat) : Int) > 0 by omega), w64 (x := ((m + 1 : Nat) : Int) + 1) (by omega) (by omega), e, Option.bind_some, w64 (x := ((m + 1 : Nat) : Int) - 1) (by omega) (by omega), if_pos (show 0 ≤ ((m + 1 : Nat) : Int) by omega), if_pos (show ((m + 1 : Nat) : Int) < (xs.length : Int) by omega), if_pos (show 0 ≤ (n : Int) by omega), if_pos (show (n : Int) < (xs.length : Int) by omega), rdr_nat hn1, rdr_nat hm, Int.toNat_natCast]
  rw [show ((m + 1 : Nat) : Int) - 1 = (m : Int) by omega]
  exact h2
theorem b10Path_ev : ∃ l : List (List Int), l.Perm (cells R C) ∧ Ev (fun k => spec_B10Path.f k c p) l := by
 have hcl : (cells R C).length ≤ 144 := by rw [cells_len]; exact Nat.mul_le_mul hR.2 hC.2
 have hcl1 : 1 ≤ (cells R C).length := by rw [cells_len]; exact Nat.mul_le_mul hR.1 hC.1
 obtain ⟨l, h1, h2⟩ := swaps_ev hR hC hp hc ((cells R C).length - 1) (cells R C) 0 0 (by omega) hcl (by omega) (by omega)
 refine ⟨l, h1, ?_⟩
 unfold spec_B10Path.f
 simp only [show spec_l00From.f c = some (c, 0, 0) from rfl, Option.bind_some]
 have row : ∀ (i : Nat), i < R → Ev (fun k => spec_B10Path.l0 k (cells (i + 1) C) ((i : Int) + 1) p c 0 0) l → Ev (fun k => spec_B10Path.l1 k (cells i C) (i : Int) 0 p c 0 0) l := by
  intro i hi h
  have hci : (cells i C).length ≤ 144 := by rw [cells_len]; exact Nat.mul_le_mul (show i ≤ 12 by omega) hC.2
  have key := ev_count C (fun j (_ : Unit) k => spec_B10Path.l1 k (cells i C ++ (List.range j).map (cellOf i)) (i : Int) (j : Int) p c 0 0) l (fun _ _ => True) ?_ ?_ 0 () (by omega) trivial
  ·simpa using key
  ·intro _ _
   refine Ev.step (fun k => by rw [spec_B10Path.l1]) ?_
   simp only [if_pos (show 0 ≤ (i : Int) by omega), hp.1, if_pos (show (i : Int) < (R : Int) by omega), hp.rd hi, if_neg (show ¬ (C : Int) < (C : Int) by omega), w_succ (m := i) (by omega)]
   rw [← cells_snoc]
   exact h
  ·intro j _ hj _
   refine ⟨(), trivial, fun h => Ev.step (fun k => by rw [spec_B10Path.l1]) ?_⟩
   simp only [if_pos (show 0 ≤ (i : Int) by omega), hp.1, if_pos (show (i : Int) < (R : Int) by omega), hp.rd hi, if_pos (show (j : Int) < (C : Int) by omega), w_succ (m := j) (by omega)]
   have lj : (cells i C ++ (List.range j).map (cellOf i)).length < 5864062014805 := by
    rw [List.length_append, List.length_map, List.length_range]
    omega
   simp only [if_pos lj]
   rw [List.range_succ, List.map_append, ← List.append_assoc] at h
   exact h
 have key := ev_count R (fun i (_ : Unit) k => spec_B10Path.l0 k (cells i C) (i : Int) p c 0 0) l (fun _ _ => True) ?_ ?_ 0 () (by omega) trivial
 ·exact key
 ·intro _ _
  refine Ev.step (fun k => by rw [spec_B10Path.l0]) ?_
  simp only [hp.1, if_neg (show ¬ (R : Int) < (R : Int) by omega), w64 (x := ((cells R C).length : Int) - 1) (by omega) (by omega)]
  rw [show ((cells R C).length : Int) - 1 = (((cells R C).length - 1 : Nat) : Int) by omega]
  exact h2
 ·intro i _ hi _
  refine ⟨(), trivial, fun h => Ev.step (fun k => by rw [spec_B10Path.l0]) ?_⟩
  simp only [hp.1, if_pos (show (i : Int) < (R : Int) by omega)]
  exact row i hi h
end
end Go.Proofs.Ytckonklpdepgoaa.Com
namespace Go.Proofs.Ytckonklpdepgoaa.Com
set_option linter.unusedSimpArgs false
set_option linter.unusedVariables false
open Go.RowKit Go.Proofs.YtckonklpdepgoaaW.PrintWords Go.Proofs.YtckonklpdepgoaaW.PrintMore Go.Proofs.Ytckonklpdepgoaa.Q
theorem hpath_is (n : Nat) (h : n ≤ 3) : impl_HilbertPath.f (n : Int) = some ((hil n).1, true) := by
 have : ∀ m : Fin 4, impl_HilbertPath.f (m.val : Int) = some ((hil m.val).1, true) := by decide +kernel
 exact this ⟨n, by omega⟩
theorem hpF_len (h : Int) (q : Nat) (p : List Int) : (hpF h q p).length = 2 := by
 unfold hpF
 split
 ·rfl
 ·split
  ·rfl
  ·split <;> rfl
theorem hil_rows : ∀ n, ∀ x ∈ (hil n).1, x.length = 2
 | 0 => by intro x hx; simp [hil] at hx; rw [hx]; rfl
 | n + 1 => by
  intro x hx
  simp only [hil, hpS, List.mem_append, List.mem_map] at hx
  rcases hx with ((⟨y, _, rfl⟩ | ⟨y, _, rfl⟩) | ⟨y, _, rfl⟩) | ⟨y, _, rfl⟩ <;> exact hpF_len _ _ _
end Go.Proofs.Ytckonklpdepgoaa.Com
namespace Go.Proofs.Ytckonklpdepgoaa.Com
set_option linter.unusedSimpArgs false
set_option linter.unusedVariables false
open Go.RowKit Go.Proofs.YtckonklpdepgoaaW.PrintWords Go.Proofs.YtckonklpdepgoaaW.PrintMore
theorem uw (n : Int) (h : 0 ≤ n ∧ n ≤ 4096) : IntKind.u64.wrap n = n := by
 simp [IntKind.wrap, IntKind.bits, IntKind.signed]
 omega
theorem shl_one (p : Nat) (h : p ≤ 12) : shl .i64 1 (p : Int) = 2 ^ p := by
 have : ∀ q : Fin 13, shl .i64 1 (q.val : Int) = 2 ^ q.val := by decide +kernel
 exact this ⟨p, by omega⟩
end Go.Proofs.Ytckonklpdepgoaa.Com
namespace Go.Proofs.Ytckonklpdepgoaa.Com
set_option linter.unusedSimpArgs false
set_option linter.unusedVariables false
open Go.RowKit Go.Proofs.Ytckonklpdepgoaa.Q Go.Proofs.YtckonklpdepgoaaW.PrintWords Go.Proofs.YtckonklpdepgoaaW.PrintLast
theorem b10At_tells (l : List Int) (i n : Int) (hl : ∀ x ∈ l, (Lit.int .u8 x).wf = true) (hi : 0 ≤ i ∧ i ≤ 10) (hn : 1 ≤ n) : ∃ r, laws_b10At.f l i n = some r ∧ 0 ≤ r ∧ r < n := by
 unfold laws_b10At.f
 by_cases h1 : n ≤ 1
 ·exact ⟨0, by rw [if_pos h1], by omega, by omega⟩
 ·rw [if_neg h1]
  by_cases h2 : i < (l.length : Int)
  ·rw [if_pos h2, if_pos hi.1, if_neg (show ¬ n = 0 by omega)]
   have hx : 0 ≤ rd l i ∧ rd l i ≤ 255 := by
    have hlt : i.toNat < l.length := by omega
    have : rd l i ∈ l := by
     unfold rd
     rw [List.getD_eq_getElem?_getD, List.getElem?_eq_getElem hlt]
     exact List.getElem_mem hlt
    have := hl _ this
    simp [Lit.wf, IntKind.min, IntKind.max, IntKind.signed, IntKind.bits] at this
    omega
   rw [w64 (by omega) (by omega), tmod_nn hx.1]
   exact ⟨_, rfl, Int.emod_nonneg _ (by omega), Int.emod_lt_of_pos _ (by omega)⟩
  ·rw [if_neg h2, if_neg (show ¬ n = 0 by omega), w64 (x := i * 37) (by omega) (by omega), w64 (by omega) (by omega), tmod_nn (by omega)]
   exact ⟨_, rfl, Int.emod_nonneg _ (by omega), Int.emod_lt_of_pos _ (by omega)⟩
end Go.Proofs.Ytckonklpdepgoaa.Com
namespace Go.Proofs.Ytckonklpdepgoaa.Pure
set_option linter.unusedSimpArgs false
set_option linter.unusedVariables false
set_option linter.unusedSectionVars false
open Go.RowKit Go.Proofs.Ytckonklpdepgoaa.Q Go.Proofs.YtckonklpdepgoaaW.PrintWords Go.Proofs.YtckonklpdepgoaaW.PrintLast Go.Proofs.YtckonklpdepgoaaW.PrintMore Go.Proofs.Ytckonklpdepgoaa.Com
theorem hil_path (n : Nat) (h : n ≤ 3) : isPath (grid0 (2 ^ n) (2 ^ n)) (hil n).1 = true := by
 have : ∀ m : Fin 4, isPath (grid0 (2 ^ m.val) (2 ^ m.val)) (hil m.val).1 = true := by decide +kernel
 exact this ⟨n, by omega⟩
def nearB (X : List (List Int)) : Bool := (List.range X.length).all fun j => j == 0 || ((laws_b10Abs.f (wrap64 (rd (rd_L1 X (j : Int)) 0 - rd (rd_L1 X ((j - 1 : Nat) : Int)) 0))).bind fun a => (laws_b10Abs.f (wrap64 (rd (rd_L1 X (j : Int)) 1 - rd (rd_L1 X ((j - 1 : Nat) : Int)) 1))).bind fun b => some (decide (wrap64 (a + b) = 1))) == some true
theorem hil_near (n : Nat) (h : n ≤ 3) : nearB (hil n).1 = true := by
 have : ∀ m : Fin 4, nearB (hil m.val).1 = true := by decide +kernel
 exact this ⟨n, by omega⟩
theorem near_at {X : List (List Int)} (h : nearB X = true) (j : Nat) (h1 : 1 ≤ j) (hj : j < X.length) : ∃ a b, laws_b10Abs.f (wrap64 (rd (rd_L1 X (j : Int)) 0 - rd (rd_L1 X ((j - 1 : Nat) : Int)) 0)) = some a ∧ laws_b10Abs.f (wrap64 (rd (rd_L1 X (j : Int)) 1 - rd (rd_L1 X ((j - 1 : Nat) : Int)) 1)) = some b ∧ wrap64 (a + b) = 1 := by
 unfold nearB at h
 have hh := List.all_eq_true.1 h j (List.mem_range.2 hj)
 rw [Bool.or_eq_true] at hh
 rcases hh with hh | hh
 ·have := beq_iff_eq.1 hh
  omega
 ·have hh := beq_iff_eq.1 hh
  obtain ⟨a, ea, hh⟩ := Option.bind_eq_some_iff.1 hh
  obtain ⟨b, eb, hh⟩ := Option.bind_eq_some_iff.1 hh
  exact ⟨a, b, ea, eb, by simpa using hh⟩
theorem dots_val {p : List (List Int)} (l : List (List Int)) : ∀ (s : List (List Int) × Int), (∀ x ∈ s.1, ∀ z ∈ x, 0 ≤ z ∧ z ≤ 1) → ∀ x ∈ (l.foldl (dStep p) s).1, ∀ z ∈ x, 0 ≤ z ∧ z ≤ 1 := by
 induction l with
 | nil => intro s h; exact h
 | cons y r ih =>
  intro s h
  refine ih _ (fun x hx z hz => ?_)
  unfold dStep setAt at hx
  simp only at hx
  rcases List.mem_or_eq_of_mem_set hx with hx | rfl
  ·exact h x hx z hz
  ·rcases List.mem_or_eq_of_mem_set hz with hz | rfl
   ·unfold rd_L1 at hz
    by_cases q : (rd y 0).toNat < s.1.length
    ·rw [List.getD_eq_getElem?_getD, List.getElem?_eq_getElem q] at hz
     exact h _ (List.getElem_mem q) z hz
    ·rw [List.getD_eq_getElem?_getD, List.getElem?_eq_none (by omega)] at hz
     simp at hz
   ·unfold dOne
    split <;> omega
theorem abs_is (z : Int) (h : -1000 ≤ z ∧ z ≤ 1000) : ∃ a, laws_b10Abs.f z = some a ∧ 0 ≤ a ∧ (a = z ∨ a = -z) := by
 unfold laws_b10Abs.f
 split
 ·exact ⟨_, rfl, by rw [w64 (by omega) (by omega)]; omega, .inr (by rw [w64 (by omega) (by omega)])⟩
 ·exact ⟨_, rfl, by omega, .inl rfl⟩
section
variable {p l : List (List Int)} {R C : Nat} (hR : 1 ≤ R ∧ R ≤ 12) (hC : 1 ≤ C ∧ C ≤ 12) (hp : Grid R C p) (hv : ∀ x ∈ p, ∀ z ∈ x, 0 ≤ z ∧ z ≤ 255) (hl : l.Perm (cells R C))
include hR hC hp hv hl
theorem sumsLoop : Ev (fun k => laws_FnPaths.l2 k l (l.foldl (dStep p) (grid0 R C, 0)).1 (carry p R C l) 0 0 p) true := by
 have ok : ∀ x ∈ l, ptOk R C x := fun x hx => cells_ok x (hl.mem_iff.1 hx)
 have hn := hl.nodup_iff.2 (cells_nodup R C)
 have hlen := perm_len hR hC hp hv hl
 have gd := grid_fold (p := p) l (grid0 R C, 0) (grid0_is R C) ok
 have at_ := fun m hm => dots_at (p := p) ok hn m hm
 generalize hD : (l.foldl (dStep p) (grid0 R C, 0)).1 = D at gd at_ ⊢
 have key := ev_count l.length (fun m (s : Int) k => laws_FnPaths.l2 k l D (carry p R C l) s (m : Int) p) true (fun m s => s = carry p R C (l.take m)) ?_ ?_ 0 0 (by omega) (by simp [carry])
 ·exact key
 ·rintro _ rfl
  refine Ev.step (fun k => by rw [laws_FnPaths.l2]) ?_
  rw [List.take_length]
  simp only [if_neg (show ¬ (l.length : Int) < (l.length : Int) by omega), beq_self_eq_true]
  exact Ev.now _
 ·rintro m _ hm rfl
  obtain ⟨h1, h2⟩ := at_ m hm
  refine ⟨_, rfl, fun h => Ev.step (fun k => by rw [laws_FnPaths.l2]) ?_⟩
  have b1 := carry_bd hp hv (l.take m) (grid0 R C, 0) (fun x hx => ok x (List.mem_of_mem_take hx)) ⟨by simp, by simp⟩
  have b2 := carry_bd hp hv (l.take (m + 1)) (grid0 R C, 0) (fun x hx => ok x (List.mem_of_mem_take hx)) ⟨by simp, by simp⟩
  change -127 ≤ carry p R C (l.take m) ∧ carry p R C (l.take m) ≤ 127 at b1
  change -127 ≤ carry p R C (l.take (m + 1)) ∧ carry p R C (l.take (m + 1)) ≤ 127 at b2
  have oy := ok _ (List.getElem_mem hm)
  have py := at_pic hp hv oy
  generalize hc1 : carry p R C (l.take (m + 1)) = c1 at h2 b2 h
  generalize hc0 : carry p R C (l.take m) = c0 at h1 h2 b1 ⊢
  simp only [if_pos (show (m : Int) < (l.length : Int) by omega), if_pos (show 0 ≤ (m : Int) by omega), rdr_nat hm, w_succ (m := m) (by omega)]
  generalize l[m] = y at oy py h1 h2 ⊢
  have hsum : wrap64 (c0 + wrap64 (at2 p y - wrap64 (255 * at2 D y))) = c1 := by
   rw [h1]
   unfold dOne
   unfold dLeft at h2
   split at h2
   ·rw [if_pos (by assumption), w64 (x := 255 * 1) (by omega) (by omega), w64 (x := at2 p y - 255 * 1) (by omega) (by omega), w64 (by omega) (by omega)]
    omega
   ·rw [if_neg (by assumption), w64 (x := 255 * 0) (by omega) (by omega), w64 (x := at2 p y - 255 * 0) (by omega) (by omega), w64 (by omega) (by omega)]
    omega
  unfold at2 at hsum
  obtain ⟨i, j, e1, e2, hi, hj, q0⟩ := ptOk_nat oy
  obtain ⟨a, ea, a0, a1⟩ := abs_is c1 (by omega)
  rw [e1, e2] at hsum
  simp only [q0, e1, e2, hp.1, gd.1, if_pos (show 0 ≤ (i : Int) by omega), if_pos (show 0 ≤ (j : Int) by omega), if_pos (show (i : Int) < (R : Int) by omega), hp.rd hi, gd.rd hi, if_true, if_pos (show (j : Int) < (C : Int) by omega), hsum, ea, Option.bind_some, if_pos (show (0 : Int) < ((2 : Nat) : Int) by omega), if_pos (show (1 : Int) < ((2 : Nat) : Int) by omega), w64 (x := 2 * a) (by omega) (by omega), if_neg (show ¬ 2 * a > 256 by omega)]
  exact h
end
section
variable {l0 l1 : List Int} (hu0 : ∀ x ∈ l0, (Lit.int .u8 x).wf = true) (hu1 : ∀ x ∈ l1, (Lit.int .u8 x).wf = true)
include hu0 hu1
theorem nearLoop (X : List (List Int)) (hX : X.length ≤ 64) (h2 : ∀ x ∈ X, x.length = 2) (hn : nearB X = true) : 1 ≤ X.length → Ev (fun k => laws_FnPaths.l1 k l0 l1 X 1) true := by
 intro hX1
 have key := ev_count X.length (fun j (_ : Unit) k => laws_FnPaths.l1 k l0 l1 X (j : Int)) true (fun j _ => 1 ≤ j) ?_ ?_ 1 () hX1 (Nat.le_refl _)
 ·exact key
 ·intro _ _
  refine Ev.step (fun k => by rw [laws_FnPaths.l1]) ?_
  simp only [if_neg (show ¬ (X.length : Int) < (X.length : Int) by omega)]
  obtain ⟨R, C, p, hR, hC, gp, pv, ep⟩ := b10Pic_ev hu1
  obtain ⟨l, hl, el⟩ := b10Path_ev hR hC gp hu0
  have hlen := perm_len hR hC gp pv hl
  have ok : ∀ x ∈ l, ptOk R C x := fun x hx => cells_ok x (hl.mem_iff.1 hx)
  have I0 := implIsPath_ev (p := p) (l := l) (by rw [gp.1]; omega) (fun x hx => by rw [gp.2 x hx]; omega) (by omega)
  rw [isPath_yes hR hC gp pv hl] at I0
  have gd := grid_fold (p := p) l (grid0 R C, 0) (grid0_is R C) ok
  have dv := dots_val (p := p) l (grid0 R C, 0) (fun x hx z hz => by
   simp only [grid0] at hx
   rw [List.eq_of_mem_replicate hx] at hz
   rw [List.eq_of_mem_replicate hz]
   omega)
  have tot := dith_total hR hC gp pv hl
  have loop := sumsLoop hR hC gp pv hl
  have cb := carry_bd gp pv l (grid0 R C, 0) ok ⟨by simp, by simp⟩
  change -127 ≤ carry p R C l ∧ carry p R C l ≤ 127 at cb
  refine Ev.bind ep (Ev.bind el (Ev.bind (dith_yes hR hC gp pv hl) ?_))
  generalize (l.foldl (dStep p) (grid0 R C, 0)).1 = D at gd dv tot loop ⊢
  have sb : ∀ (g : List (List Int)) (B : Int), Grid R C g → 0 ≤ B → B ≤ 255 → (∀ x ∈ g, ∀ z ∈ x, 0 ≤ z ∧ z ≤ B) → -100000 ≤ sumAll g ∧ sumAll g ≤ 100000 := by
   intro g B hg hB0 hB1 hgv
   have h := sum_bd (g.map List.sum) 5000 (by omega) (fun z hz => by
    obtain ⟨x, hx, rfl⟩ := List.mem_map.1 hz
    have := sum_bd x 255 (by omega) (fun z hz => by have := hgv x hx z hz; omega)
    rw [hg.2 x hx] at this
    omega)
   rw [List.length_map, hg.1] at h
   unfold sumAll
   omega
  have s1 := sb p 255 gp (by omega) (by omega) pv
  have s2 := sb D 1 gd (by omega) (by omega) dv
  simp only [if_true]
  refine Ev.bind I0 ?_
  simp only [if_true, gd.1, gp.1]
  refine Ev.bind (b10All_ev p (by rw [gp.1]; omega) (fun x hx => by rw [gp.2 x hx]; omega) (fun x hx z hz => by have := pv x hx z hz; omega)) (Ev.bind (b10All_ev D (by rw [gd.1]; omega) (fun x hx => by rw [gd.2 x hx]; omega) (fun x hx z hz => by have := dv x hx z hz; omega)) ?_)
  rw [w64 (x := 255 * sumAll D) (by omega) (by omega), w64 (by omega) (by omega), ← tot, bne_self_eq_false]
  refine Ev.step (fun k => by rw [laws_FnPaths.j3]) ?_
  simp only [Bool.false_eq_true, if_false]
  exact loop
 ·intro j _ hj hj1
  refine ⟨(), Nat.le_succ_of_le hj1, fun h => Ev.step (fun k => by rw [laws_FnPaths.l1]) ?_⟩
  obtain ⟨a, b, ea, eb, hab⟩ := near_at hn j hj1 hj
  have hj' : j - 1 < X.length := by omega
  have e1 : (rd_L1 X (j : Int)).length = 2 := by rw [rdr_nat hj]; exact h2 _ (List.getElem_mem hj)
  have e2 : (rd_L1 X ((j - 1 : Nat) : Int)).length = 2 := by rw [rdr_nat hj']; exact h2 _ (List.getElem_mem hj')
  have ew : wrap64 ((j : Int) - 1) = ((j - 1 : Nat) : Int) := by rw [w64 (by omega) (by omega)]; omega
  simp only [if_pos (show (j : Int) < (X.length : Int) by omega), if_pos (show 0 ≤ (j : Int) by omega), ew, e1, e2, if_pos (show (0 : Int) < ((2 : Nat) : Int) by omega), if_pos (show (1 : Int) < ((2 : Nat) : Int) by omega), if_pos (show 0 ≤ ((j - 1 : Nat) : Int) by omega), if_pos (show ((j - 1 : Nat) : Int) < (X.length : Int) by omega), ea, eb, Option.bind_some, hab, if_true, w_succ (m := j) (by omega)]
  exact h
end
theorem hil_len1 : ∀ n, 1 ≤ (hil n).1.length
 | 0 => by simp [hil]
 | n + 1 => by
  have := hil_len1 n
  show 1 ≤ (hpS (hil n).2 (hil n).1).length
  rw [hpS_len]
  omega
theorem FnPaths : laws_FnPaths.Pure := by
 intro l0 l1 _ _ hu0 _ _ hu1
 apply ev_of
 unfold laws_FnPaths.f
 cases hl : laws_b10Long.f l0 l1 with
 | none => unfold laws_b10Long.f at hl; split at hl <;> simp at hl
 | some t =>
  simp only [Option.bind_some]
  cases t with
  | true => simp only [if_true]; exact Ev.now _
  | false =>
   simp only [Bool.false_eq_true, if_false]
   obtain ⟨o, e0, o1, o2⟩ := b10At_tells l0 0 4 hu0 (by omega) (by omega)
   obtain ⟨n, rfl⟩ : ∃ n : Nat, o = n := ⟨o.toNat, by omega⟩
   have hn : n ≤ 3 := by omega
   have hS : 2 ^ n ≤ 8 := by
    have : ∀ m : Fin 4, 2 ^ m.val ≤ 8 := by decide
    exact this ⟨n, by omega⟩
   have hS1 : 1 ≤ 2 ^ n := Nat.one_le_two_pow
   have ip := implIsPath_ev (p := grid0 (2 ^ n) (2 ^ n)) (l := (hil n).1) (by rw [(grid0_is _ _).1]; omega) (fun x hx => by rw [(grid0_is (2 ^ n) (2 ^ n)).2 x hx]; omega) (by have := hil_len n hn; omega)
   rw [hil_path n hn] at ip
   have tail := nearLoop hu0 hu1 (hil n).1 (hil_len n hn) (hil_rows n) (hil_near n hn) (hil_len1 n)
   simp only [e0, Option.bind_some, hpath_is n hn, uw (n : Int) (by omega), if_pos (show 0 ≤ (n : Int) by omega), shl_one n (by omega), show (2 : Int) ^ n = ((2 ^ n : Nat) : Int) by rw [Int.natCast_pow]; rfl]
   generalize hs : 2 ^ n = S at ip hS hS1 ⊢
   have key := ev_count S (fun m (_ : Unit) k => laws_FnPaths.l0 k l0 l1 (hil n).1 true (S : Int) (m : Int) (grid0 m S)) true (fun _ _ => True) ?_ ?_ 0 () (by omega) trivial
   ·exact key
   ·intro _ _
    refine Ev.step (fun k => by rw [laws_FnPaths.l0]) ?_
    simp only [if_neg (show ¬ (S : Int) < (S : Int) by omega), if_true]
    refine Ev.bind ip ?_
    refine Ev.step (fun k => by rw [laws_FnPaths.j1]) ?_
    simp only [Bool.not_true, Bool.false_eq_true, if_false]
    exact tail
   ·intro m _ hm _
    refine ⟨(), trivial, fun h => Ev.step (fun k => by rw [laws_FnPaths.l0]) ?_⟩
    have hg : grid0 m S ++ [List.replicate S 0] = grid0 (m + 1) S := by simp [grid0, List.replicate_succ']
    have hgl : (grid0 m S).length < 5864062014805 := by rw [(grid0_is m S).1]; omega
    simp only [if_pos (show (m : Int) < (S : Int) by omega), if_pos (show 0 ≤ (S : Int) by omega), Int.toNat_natCast, if_pos (show S ≤ 35184372088832 by omega), if_pos hgl, w_succ (m := m) (by omega), hg]
    exact h
end Go.Proofs.Ytckonklpdepgoaa.Pure
