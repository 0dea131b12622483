/- The statement FnMasks, with all that its proof stands on: functions of the program as plain functions, the program's walks, and the plain law. Conditions: none beyond the statement's own. -/
import Derived.ArgAppend
import Derived.Below
import Derived.BigQuiet
import Derived.BigRegion
import Derived.Deep.AppendLies
import Derived.Deep.CutBlock
import Derived.Deep.DeepCutAuto
import Derived.Deep.Draws
import Derived.Deep.LoopGhost
import Derived.Deep.OwnRows
import Derived.Deep.QuietTactic
import Derived.Deep.RegionHeld3
import Derived.Ground.SlgmProg
import Derived.Ground.SlgnProg
import Derived.KernelRfl
import Derived.Laws.BitsLemmas
import Derived.Laws.BytesArg
import Derived.Laws.IdiomCopy
import Derived.Laws.MakeOwn
import Derived.Laws.OwnMore
import Derived.Laws.Rows
import Derived.Laws.Slices
import Derived.Lib.AppendStr
import Derived.Lib.ConvBytes
import Derived.Maps.AppendAt
import Derived.OrdersHeld
import Derived.OwnWalk
import Derived.ProofKit
import Derived.RowKit
import Derived.RowKit3
import Derived.Shelf.SlicesE.Clone
import Derived.Shelf.Small.Bits
import Derived.Shelf.Small.Strs
import Derived.Shelf.SortM.Plain
import Derived.Shelf.Strconv.Itoa0
import Derived.Shelf.Strings.Search1
import Derived.Sort.OwnSortedInts
import Derived.Tactics
import Derived.Test.YtckonklpdepgoaaProg
import Derived.WalkKit
import Derived.WideLaws
import Derived.Test.YtckonklpdepgoaaBFnMasks1
import Derived.Test.YtckonklpdepgoaaBFnMasks2
import Derived.Test.YtckonklpdepgoaaBFnMasks3
import Derived.Test.YtckonklpdepgoaaBFnMasks4
import Derived.Test.YtckonklpdepgoaaBFnMasks5
import Derived.Test.YtckonklpdepgoaaBFnMasks6
import Derived.Test.YtckonklpdepgoaaBFnMasks7
import Derived.Test.YtckonklpdepgoaaBFnMasks8
set_option linter.unusedVariables false
set_option linter.unusedSimpArgs false
namespace Go.Proofs.Ytckonklpdepgoaa.Com
open Go.RowKit Go.Proofs.YtckonklpdepgoaaW.PrintWords
theorem w64 {x : Int} (h1 : -9223372036854775808 ≤ x) (h2 : x ≤ 9223372036854775807) : wrap64 x = x := by
 unfold wrap64
 omega
theorem ev_of {α : Type} {g : Nat → Option α} {r : α} (h : Ev g r) : ∃ k, g k = some r := h.rounds
theorem tmod_nn {a b : Int} (h : 0 ≤ a) : Int.tmod a b = a % b := Int.tmod_eq_emod_of_nonneg h
end Go.Proofs.Ytckonklpdepgoaa.Com
namespace Go.Proofs.Ytckonklpdepgoaa.Com
set_option linter.unusedSimpArgs false
set_option linter.unusedVariables false
open Go.RowKit Go.Proofs.YtckonklpdepgoaaW.PrintWords
theorem ev_fold {α σ ρ : Type} (xs : List α) (g : Nat → σ → Nat → Option ρ) (F : List α → σ → ρ) (Inv : Nat → σ → Prop)
  (h0 : ∀ s, Inv xs.length s → Ev (g xs.length s) (F [] s))
  (hs : ∀ m (h : m < xs.length) s, Inv m s → (∀ s', Inv (m + 1) s' → Ev (g (m + 1) s') (F (xs.drop (m + 1)) s')) → Ev (g m s) (F (xs[m] :: xs.drop (m + 1)) s)) :
  ∀ m s, m ≤ xs.length → Inv m s → Ev (g m s) (F (xs.drop m) s) := by
 have key : ∀ d m s, m + d = xs.length → Inv m s → Ev (g m s) (F (xs.drop m) s) := by
  intro d
  induction d with
  | zero =>
   intro m s e hi
   obtain rfl : m = xs.length := by omega
   rw [List.drop_length]
   exact h0 s hi
  | succ d ih =>
   intro m s e hi
   have h : m < xs.length := by omega
   rw [List.drop_eq_getElem_cons h]
   exact hs m h s hi (fun s' hi' => ih (m + 1) s' (by omega) hi')
 intro m s hm hi
 exact key (xs.length - m) m s (by omega) hi
theorem ev_count {σ ρ : Type} (n : Nat) (g : Nat → σ → Nat → Option ρ) (r : ρ) (Inv : Nat → σ → Prop) (h0 : ∀ s, Inv n s → Ev (g n s) r)
  (hs : ∀ m s, m < n → Inv m s → ∃ s', Inv (m + 1) s' ∧ (Ev (g (m + 1) s') r → Ev (g m s) r)) : ∀ m s, m ≤ n → Inv m s → Ev (g m s) r := by
 have key : ∀ d m s, m + d = n → Inv m s → Ev (g m s) r := by
  intro d
  induction d with
  | zero =>
   intro m s e hi
   obtain rfl : m = n := by omega
   exact h0 s hi
  | succ d ih =>
   intro m s e hi
   obtain ⟨s', hi', k⟩ := hs m s (by omega) hi
   exact k (ih (m + 1) s' (by omega) hi')
 intro m s hm hi
 exact key (n - m) m s (by omega) hi
theorem rd_nat {xs : List Int} {m : Nat} (h : m < xs.length) : rd xs (m : Int) = xs[m] := by
 unfold rd
 rw [Int.toNat_natCast, List.getD_eq_getElem?_getD, List.getElem?_eq_getElem h]
 rfl
theorem w_succ {m : Nat} (h : m < 9223372036854775807) : wrap64 ((m : Int) + 1) = ((m + 1 : Nat) : Int) := by
 rw [w64 (by omega) (by omega)]
 omega
theorem w_pred {m : Nat} (h : 0 < m) (h' : m < 9223372036854775807) : wrap64 ((m : Int) - 1) = ((m - 1 : Nat) : Int) := by
 rw [w64 (by omega) (by omega)]
 omega
end Go.Proofs.Ytckonklpdepgoaa.Com
namespace Go.Proofs.Ytckonklpdepgoaa.Com
set_option linter.unusedSimpArgs false
set_option linter.unusedVariables false
open Go.RowKit Go.Proofs.YtckonklpdepgoaaW.PrintWords Go.Proofs.Ytckonklpdepgoaa.Q
theorem within_tells (x a b : Int) : impl_within.f x a b = some (decide (a ≤ x ∧ x ≤ b)) := by
 unfold impl_within.f
 split <;> simp [*]
end Go.Proofs.Ytckonklpdepgoaa.Com
namespace Go.Proofs.Ytckonklpdepgoaa.Com
set_option linter.unusedSimpArgs false
set_option linter.unusedVariables false
set_option linter.unusedSectionVars false
open Go.RowKit Go.Proofs.YtckonklpdepgoaaW.PrintWords Go.Proofs.YtckonklpdepgoaaW.PrintMore Go.Proofs.Ytckonklpdepgoaa.Q
theorem rdr_nat {xs : List (List Int)} {m : Nat} (h : m < xs.length) : rd_L1 xs (m : Int) = xs[m] := by
 unfold rd_L1
 rw [Int.toNat_natCast, List.getD_eq_getElem?_getD, List.getElem?_eq_getElem h]
 rfl
def rowOk (n : Nat) (b : Int) (x : List Int) : Bool := decide (x.length = n) && x.all fun z => decide (0 ≤ z ∧ z ≤ b)
def rowsForm (b : Int) (l : List (List Int)) : Bool := match l with
 | [] => false
 | y :: _ => decide (l.length ≤ 12) && decide (1 ≤ y.length ∧ y.length ≤ 12) && l.all (rowOk y.length b)
theorem areRows_tells (l : List (List Int)) (b : Int) : impl_areRows.f l b = some (rowsForm b l) := by
 cases l with
 | nil => rfl
 | cons y r =>
  unfold impl_areRows.f rowsForm
  simp only
  congr 1
  rw [List.not_any_eq_all_not]
  congr 2
  funext x
  unfold impl_areRows.p rowOk
  by_cases h : x.length = y.length <;> simp [h]
end Go.Proofs.Ytckonklpdepgoaa.Com
namespace Go.Proofs.Ytckonklpdepgoaa.Com
set_option linter.unusedSimpArgs false
set_option linter.unusedVariables false
open Go.RowKit Go.Proofs.YtckonklpdepgoaaW.PrintWords Go.Proofs.Ytckonklpdepgoaa.Q
def risesFrom (lo hi : Int) : Option Int → List Int → Bool
 | _, [] => true
 | p, x :: r => decide (lo ≤ x ∧ x ≤ hi) && (match p with | none => true | some y => decide (y < x)) && risesFrom lo hi (some x) r
def rises (lo hi : Int) (l : List Int) : Bool := risesFrom lo hi none l
theorem isSet_ev (xs : List Int) (b : Int) (hx : xs.length ≤ 1048576) (hb : -9223372036854775807 ≤ b ∧ b ≤ 9223372036854775807) : Ev (fun k => impl_isSet.f k xs b) (rises 0 (b - 1) xs) := by
 unfold impl_isSet.f
 have gen := ev_fold xs (fun m (p : Option Int) k => impl_isSet.l0 k xs b xs (xs.length : Int) (m : Int)) (fun l p => risesFrom 0 (b - 1) p l) (fun m p => p = if h : 0 < m ∧ m - 1 < xs.length then some (xs[m - 1]'h.2) else none) ?_ ?_ 0 none (by omega) (by simp)
 ·simpa [rises] using gen
 ·intro s hs
  refine Ev.step (fun k => by rw [impl_isSet.l0]) ?_
  simp only [if_neg (show ¬ (xs.length : Int) < (xs.length : Int) by omega)]
  exact Ev.now _
 ·intro m hm s hs ih
  have ih' := ih (some xs[m]) (by simp [hm])
  refine Ev.step (fun k => by rw [impl_isSet.l0]) ?_
  simp only [if_pos (show (m : Int) < (xs.length : Int) by omega), if_pos (show 0 ≤ (m : Int) by omega), rd_nat hm, within_tells, Option.bind_some, w_succ (m := m) (by omega), decide_eq_true_eq, w64 (x := b - 1) (by omega) (by omega)]
  by_cases c : 0 ≤ xs[m] ∧ xs[m] ≤ b - 1
  ·simp only [if_pos c]
   unfold risesFrom
   rw [decide_eq_true c, Bool.true_and]
   by_cases hp : (m : Int) > 0
   ·have hp' : 0 < m ∧ m - 1 < xs.length := by omega
    rw [dif_pos hp'] at hs
    subst hs
    simp only [if_pos hp, w_pred (m := m) (by omega) (by omega), if_pos (show (0 : Int) ≤ ((m - 1 : Nat) : Int) by omega), if_pos (show ((m - 1 : Nat) : Int) < (xs.length : Int) by omega), rd_nat hp'.2]
    by_cases q : xs[m] ≤ xs[m - 1]
    ·simp only [if_pos q]
     rw [decide_eq_false (by omega), Bool.false_and]
     exact Ev.now _
    ·simp only [if_neg q]
     rw [decide_eq_true (by omega), Bool.true_and]
     exact ih'
   ·rw [dif_neg (by omega)] at hs
    subst hs
    simp only [if_neg hp, Bool.true_and]
    exact ih'
  ·simp only [if_neg c]
   unfold risesFrom
   rw [decide_eq_false c]
   simp
   exact Ev.now _
end Go.Proofs.Ytckonklpdepgoaa.Com
namespace Go.Proofs.Ytckonklpdepgoaa.Com
set_option linter.unusedSimpArgs false
set_option linter.unusedVariables false
open Go.RowKit Go.Proofs.YtckonklpdepgoaaW.PrintWords Go.Proofs.YtckonklpdepgoaaW.PrintMore Go.Proofs.Ytckonklpdepgoaa.Q
def okAll (N : Nat) : List Int → List Int → Bool
 | _, [] => true
 | pre, z :: r => decide (0 ≤ z ∧ z ≤ (N : Int) - 1) && (!decide (z ∈ pre) && okAll N (pre ++ [z]) r)
def okRows (n N : Nat) : List Int → List (List Int) → Bool
 | _, [] => true
 | pre, x :: r => decide (x.length = n) && (okAll N pre x && okRows n N (pre ++ x) r)
theorem okAll_app (N : Nat) (a b : List Int) : ∀ pre, okAll N pre (a ++ b) = (okAll N pre a && okAll N (pre ++ a) b) := by
 induction a with
 | nil => intro pre; simp [okAll]
 | cons z r ih => intro pre; simp only [List.cons_append, okAll, ih, Bool.and_assoc, List.append_assoc, List.singleton_append, List.nil_append]
theorem okRows_flat (n N : Nat) (l : List (List Int)) : ∀ pre, (∀ x ∈ l, x.length = n) → okRows n N pre l = okAll N pre l.flatten := by
 induction l with
 | nil => intro pre _; rfl
 | cons x r ih =>
  intro pre h
  rw [List.flatten_cons, okAll_app, okRows, ih _ (fun y hy => h y (List.mem_cons_of_mem _ hy)), decide_eq_true (h x (List.mem_cons_self ..)), Bool.true_and]
theorem okRows_len (n N : Nat) (l : List (List Int)) : ∀ pre, okRows n N pre l = true → ∀ x ∈ l, x.length = n := by
 induction l with
 | nil => intro pre _ x hx; simp at hx
 | cons y r ih =>
  intro pre h x hx
  simp only [okRows, Bool.and_eq_true, decide_eq_true_eq] at h
  rcases List.mem_cons.1 hx with rfl | hx
  ·exact h.1
  ·exact ih _ h.2.2 x hx
theorem okAll_iff (N : Nat) (l : List Int) : ∀ pre, okAll N pre l = true ↔ ((∀ z ∈ l, 0 ≤ z ∧ z ≤ (N : Int) - 1) ∧ l.Nodup ∧ ∀ z ∈ l, z ∉ pre) := by
 induction l with
 | nil => intro pre; simp [okAll]
 | cons x r ih =>
  intro pre
  simp only [okAll, Bool.and_eq_true, decide_eq_true_eq, Bool.not_eq_true', decide_eq_false_iff_not, ih, List.nodup_cons, List.mem_cons, List.mem_append, List.mem_singleton, List.not_mem_nil, or_false]
  constructor
  ·rintro ⟨h1, h2, h3, h4, h5⟩
   exact ⟨fun z hz => hz.elim (fun e => by rw [e]; exact h1) (h3 z), ⟨fun hx => h5 x hx (.inr rfl), h4⟩, fun z hz => hz.elim (fun e => by rw [e]; exact h2) (fun hz hp => h5 z hz (.inl hp))⟩
  ·rintro ⟨h1, ⟨h2, h3⟩, h4⟩
   exact ⟨h1 x (.inl rfl), h4 x (.inl rfl), fun z hz => h1 z (.inr hz), h3, fun z hz hp => hp.elim (h4 z (.inr hz)) (fun e => h2 (by rw [← e]; exact hz))⟩
theorem risesFrom_iff (lo hi : Int) (l : List Int) : ∀ p : Option Int, risesFrom lo hi p l = true ↔ ((∀ z ∈ l, lo ≤ z ∧ z ≤ hi) ∧ l.Pairwise (· < ·) ∧ ∀ y, p = some y → ∀ z ∈ l, y < z) := by
 induction l with
 | nil => intro p; simp [risesFrom]
 | cons x r ih =>
  intro p
  simp only [risesFrom, Bool.and_eq_true, decide_eq_true_eq, ih, List.pairwise_cons, List.mem_cons]
  constructor
  ·rintro ⟨⟨h1, h2⟩, h3, h4, h5⟩
   refine ⟨fun z hz => hz.elim (fun e => by rw [e]; exact h1) (h3 z), ⟨fun z hz => h5 x rfl z hz, h4⟩, fun y hy z hz => ?_⟩
   subst hy
   have h2' : y < x := by simpa using h2
   rcases hz with rfl | hz
   ·exact h2'
   ·have := h5 x rfl z hz; omega
  ·rintro ⟨h1, ⟨h2, h3⟩, h4⟩
   refine ⟨⟨h1 x (.inl rfl), ?_⟩, fun z hz => h1 z (.inr hz), h3, fun y hy z hz => by cases hy; exact h2 z hz⟩
   cases p with
   | none => rfl
   | some y => simpa using h4 y rfl x (.inl rfl)
theorem rises_sort (N : Nat) (l : List Int) : rises 0 ((N : Int) - 1) (l.mergeSort fun x y => decide (x ≤ y)) = okAll N [] l := by
 rw [Bool.eq_iff_iff, rises, risesFrom_iff, okAll_iff]
 have hp := List.mergeSort_perm l (fun x y => decide (x ≤ y))
 have hs : (l.mergeSort fun x y => decide (x ≤ y)).Pairwise fun a b => decide (a ≤ b) = true := List.pairwise_mergeSort (fun a b c h1 h2 => by simp only [decide_eq_true_eq] at *; omega) (fun a b => by simp only [Bool.or_eq_true, decide_eq_true_eq]; omega) l
 constructor
 ·rintro ⟨h1, h2, _⟩
  refine ⟨fun z hz => h1 z (hp.mem_iff.2 hz), hp.nodup_iff.1 (h2.imp (fun h e => by omega)), by simp⟩
 ·rintro ⟨h1, h2, _⟩
  refine ⟨fun z hz => h1 z (hp.mem_iff.1 hz), ?_, by simp⟩
  have h3 := hp.nodup_iff.2 h2
  have h4 : (l.mergeSort fun x y => decide (x ≤ y)).Pairwise fun a b => decide (a ≤ b) = true ∧ a ≠ b := List.Pairwise.and hs h3
  exact h4.imp (fun {a b} h => by have := h.1; simp only [decide_eq_true_eq] at this; have := h.2; omega)
def isMaskB (l : List (List Int)) : Bool := decide (1 ≤ l.length ∧ l.length ≤ 8) && okRows l.length (l.length * l.length) [] l
theorem isMaskB_len {l : List (List Int)} (h : isMaskB l = true) : (1 ≤ l.length ∧ l.length ≤ 8) ∧ ∀ x ∈ l, x.length = l.length := by
 simp only [isMaskB, Bool.and_eq_true, decide_eq_true_eq] at h
 exact ⟨h.1, okRows_len _ _ _ _ h.2⟩
theorem sq_le (n : Nat) (h : n ≤ 8) : n * n ≤ 64 := Nat.le_trans (Nat.mul_le_mul h h) (by decide)
theorem implMask_ev (l : List (List Int)) : Ev (fun k => impl_IsMask.f k l) (isMaskB l) := by
 unfold impl_IsMask.f isMaskB
 by_cases h : 1 ≤ l.length ∧ l.length ≤ 8
 ·simp only [if_pos h, decide_eq_true h, Bool.true_and]
  by_cases h2 : l.any (impl_IsMask.p l.length) = true
  ·simp only [if_pos h2]
   have : okRows l.length (l.length * l.length) [] l = false := by
    cases hq : okRows l.length (l.length * l.length) [] l with
    | false => rfl
    | true =>
     have hl := okRows_len _ _ _ _ hq
     rw [List.any_eq_true] at h2
     obtain ⟨x, hx, h3⟩ := h2
     unfold impl_IsMask.p at h3
     exact absurd (hl x hx) (by simpa using h3)
   rw [this]
   exact Ev.now _
  ·simp only [if_neg h2]
   have h2' : l.any (impl_IsMask.p l.length) = false := by simpa using h2
   have hl : ∀ x ∈ l, x.length = l.length := fun x hx => by
    have := List.any_eq_false.1 h2' x hx
    unfold impl_IsMask.p at this
    simpa using this
   have hf := impl_IsMask.flat l.length l h2'
   have hs := sq_le l.length h.2
   rw [okRows_flat _ _ _ _ hl, ← rises_sort]
   have hw : wrap64 ((l.length : Int) * (l.length : Int)) = ((l.length * l.length : Nat) : Int) := by
    rw [← Int.natCast_mul]
    exact w64 (by omega) (by omega)
   rw [hw]
   exact isSet_ev _ _ (by rw [List.length_mergeSort]; omega) (by omega)
 ·simp only [if_neg h, decide_eq_false h, Bool.false_and]
  exact Ev.now _
end Go.Proofs.Ytckonklpdepgoaa.Com
namespace Go.Proofs.Ytckonklpdepgoaa.Com
set_option linter.unusedSimpArgs false
set_option linter.unusedVariables false
set_option linter.unusedSectionVars false
open Go.RowKit Go.Proofs.YtckonklpdepgoaaW.PrintWords Go.Proofs.YtckonklpdepgoaaW.PrintMore Go.Proofs.Ytckonklpdepgoaa.Q
def tot : List (List Int) → Int
 | [] => 0
 | x :: r => (x.length : Int) + tot r
def grid0 (R C : Nat) : List (List Int) := List.replicate R (List.replicate C 0)
theorem noughts_ev (R C : Nat) (hR : R ≤ 1000000) (hC : C ≤ 1000000) : Ev (fun k => impl_noughts.f k (R : Int) (C : Int)) (grid0 R C) := by
 unfold impl_noughts.f
 simp only [if_pos (show 0 ≤ (R : Int) by omega), Int.toNat_natCast, if_pos (show R ≤ 11728124029610 by omega), Option.bind_some, List.length_replicate]
 refine ev_count R (fun m (s : List (List Int)) k => impl_noughts.l0 k (C : Int) s (R : Int) (m : Int)) _ (fun m s => s = List.replicate m (List.replicate C 0) ++ List.replicate (R - m) []) ?_ ?_ 0 _ (by omega) (by simp)
 ·rintro _ rfl
  refine Ev.step (fun k => by rw [impl_noughts.l0]) ?_
  simp only [if_neg (show ¬ (R : Int) < (R : Int) by omega), Nat.sub_self, List.replicate_zero, List.append_nil]
  exact Ev.now _
 ·rintro m _ hm rfl
  refine ⟨_, rfl, fun ih => ?_⟩
  refine Ev.step (fun k => by rw [impl_noughts.l0]) ?_
  have hl : (List.replicate m (List.replicate C (0 : Int)) ++ List.replicate (R - m) []).length = R := by simp; omega
  simp only [hl, if_pos (show (m : Int) < (R : Int) by omega), if_pos (show 0 ≤ (C : Int) by omega), Int.toNat_natCast, if_pos (show C ≤ 35184372088832 by omega), if_pos (show 0 ≤ (m : Int) by omega), w_succ (m := m) (by omega)]
  have es : (List.replicate m (List.replicate C (0 : Int)) ++ List.replicate (R - m) []).set m (List.replicate C 0) = List.replicate (m + 1) (List.replicate C 0) ++ List.replicate (R - (m + 1)) [] := by
   obtain ⟨q, hq⟩ : ∃ q, R - m = q + 1 := ⟨R - m - 1, by omega⟩
   rw [List.set_append_right _ _ (by simp), List.length_replicate, Nat.sub_self, hq, List.replicate_succ, List.set_cons_zero, List.replicate_succ', show R - (m + 1) = q by omega, List.append_assoc]
   rfl
  rw [es]
  exact ih
def Grid (R C : Nat) (g : List (List Int)) : Prop := g.length = R ∧ ∀ x ∈ g, x.length = C
theorem Grid.row {R C : Nat} {g : List (List Int)} (h : Grid R C g) {i : Nat} (hi : i < R) : i < g.length ∧ ∀ (h' : i < g.length), g[i].length = C := ⟨by rw [h.1]; exact hi, fun h' => h.2 _ (List.getElem_mem h')⟩
theorem Grid.rd {R C : Nat} {g : List (List Int)} (h : Grid R C g) {i : Nat} (hi : i < R) : (rd_L1 g (i : Int)).length = C := by
 rw [rdr_nat (h.row hi).1]
 exact (h.row hi).2 _
end Go.Proofs.Ytckonklpdepgoaa.Com
namespace Go.Proofs.Ytckonklpdepgoaa.Com
set_option linter.unusedSimpArgs false
set_option linter.unusedVariables false
open Go.RowKit Go.Proofs.YtckonklpdepgoaaW.PrintWords Go.Proofs.YtckonklpdepgoaaW.PrintMore Go.Proofs.Ytckonklpdepgoaa.Q
def tbl (R C : Nat) (h : Nat → Nat → Int) : List (List Int) := (List.range R).map fun i => (List.range C).map fun j => h i j
theorem tbl_len (R C : Nat) (h : Nat → Nat → Int) : (tbl R C h).length = R := by simp [tbl]
theorem tbl_is (R C : Nat) (h : Nat → Nat → Int) : Grid R C (tbl R C h) := ⟨tbl_len R C h, fun x hx => by
 simp only [tbl, List.mem_map] at hx
 obtain ⟨i, _, rfl⟩ := hx
 simp⟩
theorem tbl_row (R C : Nat) (h : Nat → Nat → Int) (i : Nat) (hi : i < R) : rd_L1 (tbl R C h) (i : Int) = (List.range C).map fun j => h i j := by
 rw [rdr_nat (by rw [tbl_len]; exact hi)]
 simp [tbl]
theorem tbl_rd (R C : Nat) (h : Nat → Nat → Int) (i j : Nat) (hi : i < R) (hj : j < C) : rd (rd_L1 (tbl R C h) (i : Int)) (j : Int) = h i j := by
 rw [tbl_row R C h i hi, rd_nat (by simpa using hj)]
 simp
theorem tbl_ext (R C : Nat) (h h' : Nat → Nat → Int) (e : ∀ i j, i < R → j < C → h i j = h' i j) : tbl R C h = tbl R C h' := by
 unfold tbl
 apply List.map_congr_left
 intro i hi
 apply List.map_congr_left
 intro j hj
 exact e i j (List.mem_range.1 hi) (List.mem_range.1 hj)
theorem tbl_set (R C : Nat) (h : Nat → Nat → Int) (i j : Nat) (v : Int) (hi : i < R) (hj : j < C) : (tbl R C h).set i ((rd_L1 (tbl R C h) (i : Int)).set j v) = tbl R C (fun a b => if a = i ∧ b = j then v else h a b) := by
 rw [tbl_row R C h i hi]
 apply List.ext_getElem
 ·simp [tbl]
 ·intro a h1 h2
  have ha : a < R := by simpa [tbl] using h2
  rw [List.getElem_set]
  by_cases e : i = a
  ·subst e
   rw [if_pos rfl]
   apply List.ext_getElem
   ·simp [tbl]
   ·intro b h3 h4
    rw [List.getElem_set]
    simp only [tbl, List.getElem_map, List.getElem_range, true_and]
    by_cases e2 : j = b
    ·subst e2; simp
    ·rw [if_neg e2, if_neg (fun e3 => e2 e3.symm)]
  ·rw [if_neg e]
   simp only [tbl, List.getElem_map, List.getElem_range]
   apply List.map_congr_left
   intro b _
   rw [if_neg (fun e3 => e e3.1.symm)]
theorem tbl_grid0 (R C : Nat) : grid0 R C = tbl R C (fun _ _ => 0) := by
 unfold grid0 tbl
 apply List.ext_getElem
 ·simp
 ·intro a h1 h2
  simp only [List.getElem_replicate, List.getElem_map, List.getElem_range]
  apply List.ext_getElem
  ·simp
  ·intro b h3 h4; simp
def tblAt (R C : Nat) (f : Nat → Nat → Int) (i j : Nat) : List (List Int) := tbl R C (fun a b => if a < i ∨ (a = i ∧ b < j) then f a b else 0)
theorem tblAt_start (R C : Nat) (f : Nat → Nat → Int) : tblAt R C f 0 0 = grid0 R C := by
 rw [tbl_grid0]
 exact tbl_ext R C _ _ (fun i j _ _ => if_neg (by omega))
theorem tblAt_end (R C : Nat) (f : Nat → Nat → Int) : tblAt R C f R 0 = tbl R C f := tbl_ext R C _ _ (fun i j hi _ => if_pos (.inl hi))
theorem tblAt_row (R C : Nat) (f : Nat → Nat → Int) (i : Nat) : tblAt R C f i C = tblAt R C f (i + 1) 0 := tbl_ext R C _ _ (fun a b _ hb => by
 by_cases c : a < i ∨ (a = i ∧ b < C)
 ·rw [if_pos c, if_pos (by omega)]
 ·rw [if_neg c, if_neg (by omega)])
theorem tblAt_is (R C : Nat) (f : Nat → Nat → Int) (i j : Nat) : Grid R C (tblAt R C f i j) := tbl_is _ _ _
theorem tblAt_set (R C : Nat) (f : Nat → Nat → Int) (i j : Nat) (hi : i < R) (hj : j < C) : (tblAt R C f i j).set i ((rd_L1 (tblAt R C f i j) (i : Int)).set j (f i j)) = tblAt R C f i (j + 1) := by
 unfold tblAt
 rw [tbl_set _ _ _ _ _ _ hi hj]
 exact tbl_ext R C _ _ (fun a b _ _ => by
  by_cases c : a = i ∧ b = j
  ·rw [if_pos c, if_pos (by omega), c.1, c.2]
  ·rw [if_neg c]
   by_cases c2 : a < i ∨ (a = i ∧ b < j)
   ·rw [if_pos c2, if_pos (by omega)]
   ·rw [if_neg c2, if_neg (by omega)])
theorem tbl_loops {ρ : Type} (R C : Nat) (f : Nat → Nat → Int) (G0 : Nat → List (List Int) → Nat → Option ρ) (G1 : Nat → Nat → List (List Int) → Nat → Option ρ) (r : ρ)
  (e0 : Ev (G0 R (tbl R C f)) r) (e1 : ∀ i, i < R → Ev (G1 i 0 (tblAt R C f i 0)) r → Ev (G0 i (tblAt R C f i 0)) r)
  (e2 : ∀ i j, i < R → j < C → Ev (G1 i (j + 1) (tblAt R C f i (j + 1))) r → Ev (G1 i j (tblAt R C f i j)) r)
  (e3 : ∀ i, i < R → Ev (G0 (i + 1) (tblAt R C f (i + 1) 0)) r → Ev (G1 i C (tblAt R C f (i + 1) 0)) r) : Ev (G0 0 (grid0 R C)) r := by
 rw [← tblAt_start R C f]
 have key : ∀ d i, i + d = R → Ev (G0 i (tblAt R C f i 0)) r := by
  intro d
  induction d with
  | zero =>
   intro i e
   obtain rfl : i = R := by omega
   rw [tblAt_end]
   exact e0
  | succ d ih =>
   intro i e
   have hi : i < R := by omega
   refine e1 i hi ?_
   have k2 : ∀ q j, j + q = C → Ev (G1 i j (tblAt R C f i j)) r := by
    intro q
    induction q with
    | zero =>
     intro j e
     obtain rfl : j = C := by omega
     rw [tblAt_row]
     exact e3 i hi (ih (i + 1) (by omega))
    | succ q ihq =>
     intro j e
     exact e2 i j hi (by omega) (ihq (j + 1) (by omega))
   exact k2 C 0 (by omega)
 exact key R 0 (by omega)
end Go.Proofs.Ytckonklpdepgoaa.Com
namespace Go.Proofs.Ytckonklpdepgoaa.Com
set_option linter.unusedSimpArgs false
set_option linter.unusedVariables false
set_option linter.unusedSectionVars false
open Go.RowKit Go.Proofs.YtckonklpdepgoaaW.PrintWords Go.Proofs.YtckonklpdepgoaaW.PrintMore Go.Proofs.Ytckonklpdepgoaa.Q
theorem grid_at {R C : Nat} {g : List (List Int)} {a b : Int} (h : Grid R C g) (hv : ∀ x ∈ g, ∀ z ∈ x, a ≤ z ∧ z ≤ b) {i j : Nat} (hi : i < R) (hj : j < C) : a ≤ rd (rd_L1 g (i : Int)) (j : Int) ∧ rd (rd_L1 g (i : Int)) (j : Int) ≤ b := by
 have h1 : i < g.length := by rw [h.1]; exact hi
 rw [rdr_nat h1]
 have h2 : j < g[i].length := by rw [h.2 _ (List.getElem_mem h1)]; exact hj
 rw [rd_nat h2]
 exact hv _ (List.getElem_mem h1) _ (List.getElem_mem h2)
theorem isMaskB_is {l : List (List Int)} (h : isMaskB l = true) : (1 ≤ l.length ∧ l.length ≤ 8) ∧ Grid l.length l.length l ∧ ∀ x ∈ l, ∀ z ∈ x, 0 ≤ z ∧ z ≤ 63 := by
 obtain ⟨h1, h2⟩ := isMaskB_len h
 refine ⟨h1, ⟨rfl, h2⟩, fun x hx z hz => ?_⟩
 simp only [isMaskB, Bool.and_eq_true] at h
 have h3 := h.2
 rw [okRows_flat _ _ _ _ h2, okAll_iff] at h3
 have h4 := h3.1 z (List.mem_flatten.2 ⟨x, hx, hz⟩)
 have h5 := sq_le l.length h1.2
 omega
def mdAt (p m : List (List Int)) (i j : Nat) : Int := if 2 * ((m.length : Int) * (m.length : Int)) * rd (rd_L1 p (i : Int)) (j : Int) > 255 * (2 * rd (rd_L1 m ((i % m.length : Nat) : Int)) ((j % m.length : Nat) : Int) + 1) then 1 else 0
section
variable {p m : List (List Int)} {R C : Nat} (hR : 1 ≤ R ∧ R ≤ 12) (hC : 1 ≤ C ∧ C ≤ 12) (gp : Grid R C p) (hv : ∀ x ∈ p, ∀ z ∈ x, 0 ≤ z ∧ z ≤ 255) (hm : isMaskB m = true)
include hR hC gp hv hm
theorem mdBounds (i j : Nat) (hi : i < R) (hj : j < C) : wrap64 (wrap64 (2 * wrap64 ((m.length : Int) * (m.length : Int))) * rd (rd_L1 p (i : Int)) (j : Int)) = 2 * ((m.length : Int) * (m.length : Int)) * rd (rd_L1 p (i : Int)) (j : Int) ∧
  wrap64 (wrap64 (wrap64 (2 * (m.length : Int)) * (m.length : Int)) * rd (rd_L1 p (i : Int)) (j : Int)) = 2 * ((m.length : Int) * (m.length : Int)) * rd (rd_L1 p (i : Int)) (j : Int) ∧
  wrap64 (255 * wrap64 (wrap64 (2 * rd (rd_L1 m ((i % m.length : Nat) : Int)) ((j % m.length : Nat) : Int)) + 1)) = 255 * (2 * rd (rd_L1 m ((i % m.length : Nat) : Int)) ((j % m.length : Nat) : Int) + 1) := by
 obtain ⟨h1, gm, hmv⟩ := isMaskB_is hm
 have q1 := grid_at gp hv hi hj
 have q2 := grid_at gm hmv (Nat.mod_lt i (by omega)) (Nat.mod_lt j (by omega))
 have q3 := sq_le m.length h1.2
 have e1 : (m.length : Int) * (m.length : Int) = ((m.length * m.length : Nat) : Int) := (Int.natCast_mul _ _).symm
 generalize rd (rd_L1 m ((i % m.length : Nat) : Int)) ((j % m.length : Nat) : Int) = z at q2
 generalize rd (rd_L1 p (i : Int)) (j : Int) = t at q1
 have e2 : 2 * (m.length : Int) * (m.length : Int) = 2 * ((m.length : Int) * (m.length : Int)) := by rw [Int.mul_assoc]
 have e3 : wrap64 (2 * (m.length : Int)) = 2 * (m.length : Int) := w64 (by omega) (by omega)
 rw [e3, e2, e1]
 generalize m.length * m.length = s at q3
 have e4 : wrap64 (2 * wrap64 (s : Int)) = 2 * (s : Int) := by rw [w64 (x := (s : Int)) (by omega) (by omega)]; exact w64 (by omega) (by omega)
 have e5 : wrap64 (2 * (s : Int)) = 2 * (s : Int) := w64 (by omega) (by omega)
 have q4 : 0 ≤ 2 * (s : Int) * t ∧ 2 * (s : Int) * t ≤ 128 * 255 := ⟨Int.mul_nonneg (by omega) q1.1, Int.mul_le_mul (by omega) q1.2 q1.1 (by omega)⟩
 refine ⟨by rw [e4]; exact w64 (by omega) (by omega), by rw [e5]; exact w64 (by omega) (by omega), ?_⟩
 rw [w64 (x := 2 * z) (by omega) (by omega), w64 (x := 2 * z + 1) (by omega) (by omega)]
 exact w64 (by omega) (by omega)
theorem tmn (i : Nat) : Int.tmod (i : Int) (m.length : Int) = ((i % m.length : Nat) : Int) := by
 rw [tmod_nn (by omega)]; rfl
theorem implMd_ev : Ev (fun k => impl_MaskDither.l0 k m (m.length : Int) (grid0 R C) p (R : Int) 0) (tbl R C (mdAt p m), true) := by
 obtain ⟨h1, gm, hmv⟩ := isMaskB_is hm
 refine tbl_loops R C (mdAt p m) (fun i s k => impl_MaskDither.l0 k m (m.length : Int) s p (R : Int) (i : Int)) (fun i j s k => impl_MaskDither.l1 k m (m.length : Int) s (i : Int) p (R : Int) (i : Int) (rd_L1 p (i : Int)) (C : Int) (j : Int)) _ ?_ ?_ ?_ ?_
 ·refine Ev.step (fun k => by rw [impl_MaskDither.l0]) ?_
  simp only [if_neg (show ¬ (R : Int) < (R : Int) by omega)]
  exact Ev.now _
 ·intro i hi h
  refine Ev.step (fun k => by rw [impl_MaskDither.l0]) ?_
  simp only [if_pos (show (i : Int) < (R : Int) by omega), if_pos (show 0 ≤ (i : Int) by omega), gp.1, gp.rd hi]
  exact h
 ·intro i j hi hj h
  have b := mdBounds hR hC gp hv hm i j hi hj
  have u1 := Nat.mod_lt i (show m.length > 0 by omega)
  have u2 := Nat.mod_lt j (show m.length > 0 by omega)
  refine Ev.step (fun k => by rw [impl_MaskDither.l1]) ?_
  simp only [if_pos (show (j : Int) < (C : Int) by omega), if_pos (show 0 ≤ (j : Int) by omega), gp.rd hi, if_pos (show 0 ≤ (i : Int) by omega), (tblAt_is R C (mdAt p m) i j).1, if_pos (show (i : Int) < (R : Int) by omega), if_neg (show ¬ (m.length : Int) = 0 by omega), tmn hR hC gp hv hm, if_pos (show 0 ≤ ((i % m.length : Nat) : Int) by omega), if_pos (show 0 ≤ ((j % m.length : Nat) : Int) by omega), if_pos (show ((i % m.length : Nat) : Int) < (m.length : Int) by omega), gm.rd u1, if_pos (show ((j % m.length : Nat) : Int) < (m.length : Int) by omega), b.1, b.2.2, (tblAt_is R C (mdAt p m) i j).rd hi, w_succ (m := j) (by omega), Int.toNat_natCast]
  have eb : impl_bit.f (decide (2 * ((m.length : Int) * (m.length : Int)) * rd (rd_L1 p (i : Int)) (j : Int) > 255 * (2 * rd (rd_L1 m ((i % m.length : Nat) : Int)) ((j % m.length : Nat) : Int) + 1))) = some (mdAt p m i j) := by
   unfold impl_bit.f mdAt
   by_cases c : 2 * ((m.length : Int) * (m.length : Int)) * rd (rd_L1 p (i : Int)) (j : Int) > 255 * (2 * rd (rd_L1 m ((i % m.length : Nat) : Int)) ((j % m.length : Nat) : Int) + 1)
   ·rw [if_pos c, decide_eq_true c]; rfl
   ·rw [if_neg c, decide_eq_false c]; rfl
  simp only [eb, Option.bind_some, tblAt_set R C (mdAt p m) i j hi hj]
  exact h
 ·intro i hi h
  refine Ev.step (fun k => by rw [impl_MaskDither.l1]) ?_
  simp only [if_neg (show ¬ (C : Int) < (C : Int) by omega), w_succ (m := i) (by omega)]
  exact h
end
theorem implVp (p : List (List Int)) : impl_ValidPicture.f p = some (rowsForm 255 p) := by
 unfold impl_ValidPicture.f
 rw [areRows_tells]
 rfl
theorem implMaskDither_ev {p m : List (List Int)} {R C : Nat} (hR : 1 ≤ R ∧ R ≤ 12) (hC : 1 ≤ C ∧ C ≤ 12) (gp : Grid R C p) (hc : (rd_L1 p 0).length = C) (hv : ∀ x ∈ p, ∀ z ∈ x, 0 ≤ z ∧ z ≤ 255) (v : rowsForm 255 p = true) (hm : isMaskB m = true) :
  Ev (fun k => impl_MaskDither.f k p m) (tbl R C (mdAt p m), true) := by
 unfold impl_MaskDither.f
 simp only [implVp, v, Option.bind_some, if_true]
 refine Ev.bind (implMask_ev m) ?_
 rw [hm]
 refine Ev.step (fun k => by rw [impl_MaskDither.j0]) ?_
 simp only [Bool.not_true, Bool.false_eq_true, if_false, gp.1, hc, if_pos (show 0 < (R : Int) by omega)]
 exact Ev.bind (noughts_ev R C (by omega) (by omega)) (implMd_ev hR hC gp hv hm)
end Go.Proofs.Ytckonklpdepgoaa.Com
namespace Go.Proofs.Ytckonklpdepgoaa.Com
set_option linter.unusedSimpArgs false
set_option linter.unusedVariables false
open Go.RowKit Go.Proofs.YtckonklpdepgoaaW.PrintWords Go.Proofs.YtckonklpdepgoaaW.PrintMore Go.Proofs.Ytckonklpdepgoaa.Q
def dmask : Nat → List (List Int)
 | 0 => [[0]]
 | 1 => [[0, 2], [3, 1]]
 | 2 => [[0, 8, 2, 10], [12, 4, 14, 6], [3, 11, 1, 9], [15, 7, 13, 5]]
 | _ => [[0, 32, 8, 40, 2, 34, 10, 42], [48, 16, 56, 24, 50, 18, 58, 26], [12, 44, 4, 36, 14, 46, 6, 38], [60, 28, 52, 20, 62, 30, 54, 22], [3, 35, 11, 43, 1, 33, 9, 41], [51, 19, 59, 27, 49, 17, 57, 25], [15, 47, 7, 39, 13, 45, 5, 37], [63, 31, 55, 23, 61, 29, 53, 21]]
set_option maxRecDepth 100000 in
theorem implDoubling_ev (n : Nat) (h : n ≤ 3) : Ev (fun k => impl_DoublingMask.f k (n : Int)) (dmask n, true) := by
 refine Ev.of (k := 100) (impl_DoublingMask.mono (n : Int)) ?_
 have : ∀ m : Fin 4, impl_DoublingMask.f 100 (m.val : Int) = some (dmask m.val, true) := by decide +kernel
 exact this ⟨n, by omega⟩
end Go.Proofs.Ytckonklpdepgoaa.Com
namespace Go.Proofs.Ytckonklpdepgoaa.Com
set_option linter.unusedSimpArgs false
set_option linter.unusedVariables false
open Go.RowKit Go.Proofs.Ytckonklpdepgoaa.Q Go.Proofs.YtckonklpdepgoaaW.PrintWords Go.Proofs.YtckonklpdepgoaaW.PrintLast
theorem b10At_tells (l : List Int) (i n : Int) (hl : ∀ x ∈ l, (Lit.int .u8 x).wf = true) (hi : 0 ≤ i ∧ i ≤ 10) (hn : 1 ≤ n) : ∃ r, laws_b10At.f l i n = some r ∧ 0 ≤ r ∧ r < n := by
 unfold laws_b10At.f
 by_cases h1 : n ≤ 1
 ·exact ⟨0, by rw [if_pos h1], by omega, by omega⟩
 ·rw [if_neg h1]
  by_cases h2 : i < (l.length : Int)
  ·rw [if_pos h2, if_pos hi.1, if_neg (show ¬ n = 0 by omega)]
   have hx : 0 ≤ rd l i ∧ rd l i ≤ 255 := by
    have hlt : i.toNat < l.length := by omega
    have : rd l i ∈ l := by
     unfold rd
     rw [List.getD_eq_getElem?_getD, List.getElem?_eq_getElem hlt]
     exact List.getElem_mem hlt
    have := hl _ this
    simp [Lit.wf, IntKind.min, IntKind.max, IntKind.signed, IntKind.bits] at this
    omega
   rw [w64 (by omega) (by omega), tmod_nn hx.1]
   exact ⟨_, rfl, Int.emod_nonneg _ (by omega), Int.emod_lt_of_pos _ (by omega)⟩
  ·rw [if_neg h2, if_neg (show ¬ n = 0 by omega), w64 (x := i * 37) (by omega) (by omega), w64 (by omega) (by omega), tmod_nn (by omega)]
   exact ⟨_, rfl, Int.emod_nonneg _ (by omega), Int.emod_lt_of_pos _ (by omega)⟩
end Go.Proofs.Ytckonklpdepgoaa.Com
namespace Go.Proofs.Ytckonklpdepgoaa.Pure
set_option linter.unusedSimpArgs false
set_option linter.unusedVariables false
set_option linter.unusedSectionVars false
open Go.RowKit Go.Proofs.Ytckonklpdepgoaa.Q Go.Proofs.YtckonklpdepgoaaW.PrintWords Go.Proofs.YtckonklpdepgoaaW.PrintLast Go.Proofs.Ytckonklpdepgoaa.Com
def tile (N : Nat) (a : Int) : List (List Int) := List.replicate N (List.replicate N a)
theorem tile_is (N : Nat) (a : Int) : Grid N N (tile N a) := ⟨by simp [tile], fun x hx => by unfold tile at hx; rw [List.eq_of_mem_replicate hx, List.length_replicate]⟩
theorem tile_vals (N : Nat) (a : Int) (h : 0 ≤ a ∧ a ≤ 255) : ∀ x ∈ tile N a, ∀ z ∈ x, 0 ≤ z ∧ z ≤ 255 := fun x hx z hz => by
 unfold tile at hx
 rw [List.eq_of_mem_replicate hx] at hz
 rw [List.eq_of_mem_replicate hz]
 exact h
theorem tile_form (N : Nat) (a : Int) (hN : 1 ≤ N ∧ N ≤ 8) (h : 0 ≤ a ∧ a ≤ 255) : rowsForm 255 (tile N a) = true := by
 obtain ⟨q, rfl⟩ : ∃ q, N = q + 1 := ⟨N - 1, by omega⟩
 have e : tile (q + 1) a = List.replicate (q + 1) a :: List.replicate q (List.replicate (q + 1) a) := rfl
 have hv := tile_vals (q + 1) a h
 have hg := tile_is (q + 1) a
 rw [e] at hv hg ⊢
 unfold rowsForm
 simp only [Bool.and_eq_true, decide_eq_true_eq, List.all_eq_true]
 refine ⟨⟨by rw [hg.1]; omega, by rw [List.length_replicate]; omega⟩, fun x hx => ?_⟩
 unfold rowOk
 simp only [Bool.and_eq_true, decide_eq_true_eq, List.all_eq_true]
 exact ⟨by rw [hg.2 x hx, List.length_replicate], hv x hx⟩
theorem tile_rd (N : Nat) (a : Int) (i j : Nat) (hi : i < N) (hj : j < N) : rd (rd_L1 (tile N a) (i : Int)) (j : Int) = a := by
 have h1 : i < (tile N a).length := by rw [(tile_is N a).1]; exact hi
 rw [rdr_nat h1]
 have h2 : (tile N a)[i] = List.replicate N a := by simp [tile]
 rw [h2, rd_nat (by simpa using hj)]
 simp
def low (N : Nat) (a z : Int) : Bool := decide (2 * ((N : Int) * (N : Int)) * a > 255 * (2 * z + 1))
theorem md_tile (N : Nat) (a : Int) (m : List (List Int)) (hm : m.length = N) (i j : Nat) (hi : i < N) (hj : j < N) : mdAt (tile N a) m i j = if low N a (rd (rd_L1 m (i : Int)) (j : Int)) = true then 1 else 0 := by
 unfold mdAt low
 rw [tile_rd N a i j hi hj, hm, Nat.mod_eq_of_lt hi, Nat.mod_eq_of_lt hj]
 simp only [decide_eq_true_eq]
theorem low_mono (N : Nat) (a b z : Int) (h : a ≤ b) : low N a z = true → low N b z = true := by
 unfold low
 simp only [decide_eq_true_eq]
 intro h1
 have h2 : 2 * ((N : Int) * (N : Int)) * a ≤ 2 * ((N : Int) * (N : Int)) * b := Int.mul_le_mul_of_nonneg_left h (Int.mul_nonneg (by omega) (Int.mul_nonneg (by omega) (by omega)))
 omega
theorem dmask_mask (n : Nat) (h : n ≤ 3) : isMaskB (dmask n) = true := by
 have : ∀ m : Fin 4, isMaskB (dmask m.val) = true := by decide +kernel
 exact this ⟨n, by omega⟩
theorem dmask_len (n : Nat) (h : n ≤ 3) : (dmask n).length = 2 ^ n := by
 have : ∀ m : Fin 4, (dmask m.val).length = 2 ^ m.val := by decide +kernel
 exact this ⟨n, by omega⟩
theorem dmask_perm (n : Nat) (h : n ≤ 3) : (dmask n).flatten.Perm ((List.range (2 ^ n * 2 ^ n)).map fun (i : Nat) => (i : Int)) := by
 have : ∀ m : Fin 4, (dmask m.val).flatten.isPerm ((List.range (2 ^ m.val * 2 ^ m.val)).map fun (i : Nat) => (i : Int)) = true := by decide +kernel
 exact List.isPerm_iff.1 (this ⟨n, by omega⟩)
theorem shl_pow (n : Nat) (h : n ≤ 3) : shl .i64 1 (IntKind.u64.wrap (n : Int)) = ((2 ^ n : Nat) : Int) ∧ 0 ≤ IntKind.u64.wrap (n : Int) := by
 have : ∀ m : Fin 4, shl .i64 1 (IntKind.u64.wrap (m.val : Int)) = ((2 ^ m.val : Nat) : Int) ∧ 0 ≤ IntKind.u64.wrap (m.val : Int) := by decide +kernel
 exact this ⟨n, by omega⟩
section
variable {m : List (List Int)} {N : Nat} (hN : 1 ≤ N ∧ N ≤ 8) (gm : Grid N N m) (hmv : ∀ x ∈ m, ∀ z ∈ x, 0 ≤ z ∧ z ≤ 63) {a b : Int} (ha : 0 ≤ a ∧ a ≤ 255) (hb : 0 ≤ b ∧ b ≤ 255) (hab : a ≤ b)
include hN gm hmv ha hb hab
theorem masksCount_ev (c : Nat) (hc : c ≤ 64) : Ev (fun k => laws_FnMasks.l4 k (N : Int) a (c : Int) 0 0) (decide (c = ((List.range (N * N)).map fun (i : Nat) => (i : Int)).countP (low N a))) := by
 have hs := sq_le N hN.2
 have hw : wrap64 ((N : Int) * (N : Int)) = ((N * N : Nat) : Int) := by
  rw [← Int.natCast_mul]
  exact w64 (by omega) (by omega)
 have hw2 : wrap64 (wrap64 (wrap64 (2 * (N : Int)) * (N : Int)) * a) = 2 * ((N : Int) * (N : Int)) * a := by
  rw [w64 (x := 2 * (N : Int)) (by omega) (by omega), Int.mul_assoc, ← Int.natCast_mul]
  rw [w64 (x := 2 * ((N * N : Nat) : Int)) (by omega) (by omega)]
  have : 0 ≤ 2 * ((N * N : Nat) : Int) * a ∧ 2 * ((N * N : Nat) : Int) * a ≤ 128 * 255 := ⟨Int.mul_nonneg (by omega) ha.1, Int.mul_le_mul (by omega) ha.2 ha.1 (by omega)⟩
  exact w64 (by omega) (by omega)
 have key := ev_count (N * N) (fun i (s : Nat) k => laws_FnMasks.l4 k (N : Int) a (c : Int) (s : Int) (i : Int)) (decide (c = ((List.range (N * N)).map fun (i : Nat) => (i : Int)).countP (low N a)))
  (fun i s => s = ((List.range i).map fun (i : Nat) => (i : Int)).countP (low N a)) ?_ ?_ 0 0 (by omega) rfl
 ·exact key
 ·intro s hsi
  refine Ev.step (fun k => by rw [laws_FnMasks.l4]) ?_
  simp only [hw, if_neg (show ¬ ((N * N : Nat) : Int) < ((N * N : Nat) : Int) by omega)]
  rw [← hsi]
  have : ((c : Int) == (s : Int)) = decide (c = s) := by
   rw [Bool.eq_iff_iff, beq_iff_eq, decide_eq_true_eq]; omega
  rw [this]
  exact Ev.now _
 ·intro i s hi hsi
  have hle : s ≤ i := by
   rw [hsi]
   have := List.countP_le_length (p := low N a) (l := (List.range i).map fun (i : Nat) => (i : Int))
   simpa using this
  have e1 : wrap64 (255 * wrap64 (wrap64 (2 * (i : Int)) + 1)) = 255 * (2 * (i : Int) + 1) := by
   rw [w64 (x := 2 * (i : Int)) (by omega) (by omega), w64 (x := 2 * (i : Int) + 1) (by omega) (by omega)]
   exact w64 (by omega) (by omega)
  have hcs : ((List.range (i + 1)).map fun (i : Nat) => (i : Int)).countP (low N a) = s + if low N a (i : Int) = true then 1 else 0 := by
   rw [List.range_succ, List.map_append, List.countP_append, ← hsi]
   simp [List.countP_cons]
  refine ⟨s + if low N a (i : Int) = true then 1 else 0, hcs.symm, fun h => ?_⟩
  refine Ev.step (fun k => by rw [laws_FnMasks.l4]) ?_
  simp only [hw, if_pos (show (i : Int) < ((N * N : Nat) : Int) by omega), hw2, e1, w_succ (m := i) (by omega)]
  by_cases c1 : 2 * ((N : Int) * (N : Int)) * a > 255 * (2 * (i : Int) + 1)
  ·have hl : low N a (i : Int) = true := decide_eq_true c1
   simp only [if_pos c1, w_succ (m := s) (by omega)]
   rw [if_pos hl] at h
   exact h
  ·have hl : ¬ low N a (i : Int) = true := by unfold low; rw [decide_eq_false c1]; simp
   simp only [if_neg c1]
   rw [if_neg hl] at h
   exact h
theorem masksRows_ev (hp : m.flatten.Perm ((List.range (N * N)).map fun (i : Nat) => (i : Int))) : Ev (fun k => laws_FnMasks.l2 k (N : Int) a (tbl N N (mdAt (tile N a) m)) (tbl N N (mdAt (tile N b) m)) 0 0) true := by
 have gp := tbl_is N N (mdAt (tile N a) m)
 have gq := tbl_is N N (mdAt (tile N b) m)
 have hs := sq_le N hN.2
 have hfl : m.flatten.length = N * N := by rw [hp.length_eq]; simp
 have rowlen : ∀ (i : Nat) (h : i < m.length), m[i].length = N := fun i h => gm.2 _ (List.getElem_mem h)
 have tot : ∀ i ≤ m.length, (m.take i).flatten.countP (low N a) ≤ N * N := by
  intro i hi
  refine Nat.le_trans List.countP_le_length ?_
  have h := congrArg (fun l => (List.flatten l).length) (List.take_append_drop i m)
  simp only [List.flatten_append, List.length_append] at h
  omega
 have key := ev_fold m (fun i (s : Nat) k => laws_FnMasks.l2 k (N : Int) a (tbl N N (mdAt (tile N a) m)) (tbl N N (mdAt (tile N b) m)) (s : Int) (i : Int)) (fun d s => decide (s + d.flatten.countP (low N a) = ((List.range (N * N)).map fun (i : Nat) => (i : Int)).countP (low N a)))
  (fun i s => s = (m.take i).flatten.countP (low N a)) ?_ ?_ 0 0 (by omega) (by simp)
 ·have e : decide (0 + (m.drop 0).flatten.countP (low N a) = ((List.range (N * N)).map fun (i : Nat) => (i : Int)).countP (low N a)) = true := by
   rw [decide_eq_true_eq, Nat.zero_add, List.drop_zero]
   exact hp.countP_eq _
  rw [e] at key
  exact key
 ·intro s hsi
  refine Ev.step (fun k => by rw [laws_FnMasks.l2]) ?_
  rw [gm.1]
  simp only [if_neg (show ¬ (N : Int) < (N : Int) by omega), List.flatten_nil, List.countP_nil, Nat.add_zero]
  exact masksCount_ev hN gm hmv ha hb hab s (by have := tot m.length (Nat.le_refl _); omega)
 ·intro i hi s hsi ih
  have hiN : i < N := by rw [← gm.1]; exact hi
  have t1 := tot i (by omega)
  refine Ev.step (fun k => by rw [laws_FnMasks.l2]) ?_
  simp only [if_pos (show (i : Int) < (N : Int) by omega), if_pos (show 0 ≤ (i : Int) by omega), gp.1, gq.1, gp.rd hiN, gq.rd hiN, if_true, bne_self_eq_false]
  refine Ev.step (fun k => by rw [laws_FnMasks.j6]) ?_
  simp only [Bool.false_eq_true, if_false]
  have hrl := rowlen i hi
  have t2 := tot (i + 1) (by omega)
  have hsplit : (m.take (i + 1)).flatten = (m.take i).flatten ++ m[i] := by rw [List.take_succ_eq_append_getElem hi, List.flatten_append]; simp
  rw [hsplit, List.countP_append, ← hsi] at t2
  have hentry : ∀ j, j < N → rd (rd_L1 m (i : Int)) (j : Int) = (m[i].getD j 0) := fun j hj => by
   rw [rdr_nat hi]
   unfold rd
   rw [Int.toNat_natCast]
  have ih' := ih (s + m[i].countP (low N a)) (by rw [hsplit, List.countP_append, hsi])
  rw [List.flatten_cons]
  generalize hR : (m.drop (i + 1)).flatten = rest at ih' ⊢
  generalize hy : m[i] = y at hrl hentry ih' t2 ⊢
  have inner := ev_fold y (fun j (s2 : Nat) k => laws_FnMasks.l3 k (N : Int) a (tbl N N (mdAt (tile N a) m)) (tbl N N (mdAt (tile N b) m)) (s2 : Int) (i : Int) (j : Int)) (fun d s2 => decide (s2 + (d ++ rest).countP (low N a) = ((List.range (N * N)).map fun (i : Nat) => (i : Int)).countP (low N a)))
   (fun j s2 => s2 = s + (y.take j).countP (low N a)) ?_ ?_ 0 s (by omega) (by simp)
  ·exact inner
  ·intro s2 h2
   refine Ev.step (fun k => by rw [laws_FnMasks.l3]) ?_
   rw [hrl]
   simp only [if_neg (show ¬ (N : Int) < (N : Int) by omega), w_succ (m := i) (by omega), List.nil_append]
   rw [List.take_length] at h2
   rw [h2]
   exact ih'
  ·intro j hj s2 h2 ihj
   have hjN : j < N := by omega
   have hv : rd (rd_L1 m (i : Int)) (j : Int) = y[j] := by rw [hentry j hjN, List.getD_eq_getElem?_getD, List.getElem?_eq_getElem hj]; rfl
   have e1 := md_tile N a m gm.1 i j hiN hjN
   have e2 := md_tile N b m gm.1 i j hiN hjN
   rw [hv] at e1 e2
   have hle : s2 ≤ 64 := by
    have : (y.take j).countP (low N a) ≤ y.countP (low N a) := by
     have h3 := congrArg (List.countP (low N a)) (List.take_append_drop j y)
     rw [List.countP_append] at h3
     omega
    omega
   refine Ev.step (fun k => by rw [laws_FnMasks.l3]) ?_
   simp only [if_pos (show (j : Int) < (N : Int) by omega), if_pos (show (i : Int) < (N : Int) by omega), if_pos (show 0 ≤ (i : Int) by omega), if_pos (show 0 ≤ (j : Int) by omega), gp.1, gq.1, gp.rd hiN, gq.rd hiN, tbl_rd N N _ i j hiN hjN, e1, e2, w_succ (m := j) (by omega)]
   have hcons : (y[j] :: y.drop (j + 1) ++ rest).countP (low N a) = (if low N a y[j] = true then 1 else 0) + (y.drop (j + 1) ++ rest).countP (low N a) := by
    rw [List.cons_append, List.countP_cons, Nat.add_comm]
   rw [hcons, ← Nat.add_assoc]
   have ih2 := ihj (s2 + if low N a y[j] = true then 1 else 0) (by
    rw [List.take_succ_eq_append_getElem hj, List.countP_append, ← Nat.add_assoc, ← h2]
    simp [List.countP_cons])
   by_cases c1 : low N a y[j] = true
   ·have c2 := low_mono N a b y[j] hab c1
    simp only [if_pos c1, if_pos c2, if_neg (show ¬ (1 : Int) > 1 by omega), w_succ (m := s2) (by omega)]
    rw [if_pos c1] at ih2
    exact ih2
   ·have c3 : ¬ (0 : Int) > (if low N b y[j] = true then 1 else 0) := by split <;> omega
    have c4 : wrap64 ((s2 : Int) + 0) = (s2 : Int) := by rw [Int.add_zero]; exact w64 (by omega) (by omega)
    simp only [if_neg c1, if_neg c3, c4]
    rw [if_neg c1] at ih2
    exact ih2
theorem masksTiles_ev (hk : isMaskB m = true) (hp : m.flatten.Perm ((List.range (N * N)).map fun (i : Nat) => (i : Int))) : Ev (fun k => laws_FnMasks.j1 k m (N : Int) a b) true := by
 refine Ev.step (fun k => by rw [laws_FnMasks.j1]) ?_
 have key := ev_count N (fun i (_ : Unit) k => laws_FnMasks.l0 k m (N : Int) a b (i : Int) (List.replicate i (List.replicate N a)) (List.replicate i (List.replicate N b))) true (fun _ _ => True) ?_ ?_ 0 () (by omega) trivial
 ·exact key
 ·intro _ _
  have ga := tile_is N a
  have gb := tile_is N b
  have hc : ∀ c : Int, (rd_L1 (tile N c) 0).length = N := fun c => (tile_is N c).rd (i := 0) (by omega)
  have E1 := implMaskDither_ev (p := tile N a) (m := m) (R := N) (C := N) ⟨hN.1, by omega⟩ ⟨hN.1, by omega⟩ ga (hc a) (tile_vals N a ha) (tile_form N a hN ha) hk
  have E2 := implMaskDither_ev (p := tile N b) (m := m) (R := N) (C := N) ⟨hN.1, by omega⟩ ⟨hN.1, by omega⟩ gb (hc b) (tile_vals N b hb) (tile_form N b hN hb) hk
  have gp := tbl_is N N (mdAt (tile N a) m)
  have gq := tbl_is N N (mdAt (tile N b) m)
  refine Ev.step (fun k => by rw [laws_FnMasks.l0]) ?_
  simp only [if_neg (show ¬ (N : Int) < (N : Int) by omega)]
  refine Ev.bind E1 (Ev.bind E2 ?_)
  simp only [if_true, gp.1, gq.1, bne_self_eq_false]
  refine Ev.step (fun k => by rw [laws_FnMasks.j4]) ?_
  simp only [Bool.false_eq_true, if_false]
  exact masksRows_ev hN gm hmv ha hb hab hp
 ·intro i _ hi _
  refine ⟨(), trivial, fun h => ?_⟩
  refine Ev.step (fun k => by rw [laws_FnMasks.l0]) ?_
  simp only [if_pos (show (i : Int) < (N : Int) by omega)]
  have inner := ev_count N (fun j (_ : Unit) k => laws_FnMasks.l1 k m (N : Int) a b (i : Int) (List.replicate j a) (List.replicate j b) (j : Int) (List.replicate i (List.replicate N a)) (List.replicate i (List.replicate N b))) true (fun _ _ => True) ?_ ?_ 0 () (by omega) trivial
  ·exact inner
  ·intro _ _
   refine Ev.step (fun k => by rw [laws_FnMasks.l1]) ?_
   simp only [if_neg (show ¬ (N : Int) < (N : Int) by omega), List.length_replicate, if_pos (show i < 5864062014805 by omega), w_succ (m := i) (by omega), ← List.replicate_succ']
   exact h
  ·intro j _ hj _
   refine ⟨(), trivial, fun h2 => ?_⟩
   refine Ev.step (fun k => by rw [laws_FnMasks.l1]) ?_
   simp only [if_pos (show (j : Int) < (N : Int) by omega), List.length_replicate, if_pos (show j < 17592186044416 by omega), w_succ (m := j) (by omega), ← List.replicate_succ']
   exact h2
end
theorem FnMasks : laws_FnMasks.Pure := by
 intro l0 l1 _ _ hu0 _ _ hu1
 apply ev_of
 unfold laws_FnMasks.f
 cases hl : laws_b10Long.f l0 l1 with
 | none => unfold laws_b10Long.f at hl; split at hl <;> simp at hl
 | some t =>
  simp only [Option.bind_some]
  cases t with
  | true => simp only [if_true]; exact Ev.now _
  | false =>
   simp only [Bool.false_eq_true, if_false]
   obtain ⟨o, e0, o1, o2⟩ := b10At_tells l0 0 4 hu0 (by omega) (by omega)
   obtain ⟨n, rfl⟩ : ∃ n : Nat, o = n := ⟨o.toNat, by omega⟩
   have hn : n ≤ 3 := by omega
   simp only [e0, Option.bind_some]
   refine Ev.bind (implDoubling_ev n hn) ?_
   simp only [if_true]
   refine Ev.bind (implMask_ev (dmask n)) ?_
   have hk := dmask_mask n hn
   obtain ⟨hN, gm, hmv⟩ := isMaskB_is hk
   have hsh := shl_pow n hn
   have hlen := dmask_len n hn
   have hp := dmask_perm n hn
   rw [← hlen] at hp
   simp only [hk, if_true, if_pos hsh.2, hsh.1, ← hlen, bne_self_eq_false]
   refine Ev.step (fun k => by rw [laws_FnMasks.j0]) ?_
   obtain ⟨a, ea, a1, a2⟩ := b10At_tells l1 0 256 hu1 (by omega) (by omega)
   obtain ⟨b, eb, b1, b2⟩ := b10At_tells l1 1 256 hu1 (by omega) (by omega)
   simp only [Bool.false_eq_true, if_false, ea, eb, Option.bind_some]
   by_cases c : a > b
   ·simp only [if_pos c]
    exact masksTiles_ev hN gm hmv (a := b) (b := a) ⟨b1, by omega⟩ ⟨a1, by omega⟩ (by omega) hk hp
   ·simp only [if_neg c]
    exact masksTiles_ev hN gm hmv (a := a) (b := b) ⟨a1, by omega⟩ ⟨b1, by omega⟩ (by omega) hk hp
end Go.Proofs.Ytckonklpdepgoaa.Pure
