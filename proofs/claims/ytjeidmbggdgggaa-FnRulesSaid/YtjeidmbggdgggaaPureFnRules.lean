import Derived.Test.YtjeidmbggdgggaaWNEv
import Derived.Test.YtjeidmbggdgggaaWMore
import Derived.Test.YtjeidmbggdgggaaQ1
import Derived.Test.YtjeidmbggdgggaaQ7
import Derived.Test.YtjeidmbggdgggaaQ11
import Derived.Test.YtjeidmbggdgggaaQ12
import Derived.Test.YtjeidmbggdgggaaQ15
import Derived.Test.YtjeidmbggdgggaaQ16
import Derived.Test.YtjeidmbggdgggaaQ20
import Derived.Test.YtjeidmbggdgggaaQ21
import Derived.Test.YtjeidmbggdgggaaQ22
import Derived.Test.YtjeidmbggdgggaaQ23
import Derived.Test.YtjeidmbggdgggaaQ24
import Derived.Test.YtjeidmbggdgggaaQ27
import Derived.Test.YtjeidmbggdgggaaQ28
import Derived.Test.YtjeidmbggdgggaaQ29
import Derived.Test.YtjeidmbggdgggaaQ30
import Derived.Test.YtjeidmbggdgggaaQ31
import Derived.Test.YtjeidmbggdgggaaQ32
import Derived.Test.YtjeidmbggdgggaaQ33
import Derived.Test.YtjeidmbggdgggaaQ35
import Derived.Test.YtjeidmbggdgggaaQ51
import Derived.Test.YtjeidmbggdgggaaQ52
/- Small facts of whole numbers, of wrapping, and of rounds that suffice, for the pure statements. -/
namespace Go.Proofs.Ytjeidmbggdgggaa.Com
open Go.RowKit Go.Proofs.YtjeidmbggdgggaaW.PrintWords

theorem w64 {x : Int} (h1 : -9223372036854775808 ≤ x) (h2 : x ≤ 9223372036854775807) : wrap64 x = x := by
  unfold wrap64
  omega
theorem mul_bd {a b A B : Int} (h0 : 0 ≤ a) (h1 : a ≤ A) (h2 : 0 ≤ b) (h3 : b ≤ B) : 0 ≤ a * b ∧ a * b ≤ A * B :=
  ⟨Int.mul_nonneg h0 h2, Int.mul_le_mul h1 h3 h2 (Int.le_trans h0 h1)⟩
theorem ev_of {α : Type} {g : Nat → Option α} {r : α} (h : Ev g r) : ∃ k, g k = some r := h.rounds
theorem ev_bind' {α β : Type} {o : Option α} {f : Nat → α → Option β} {a : α} {r : β} (h : o = some a) (k : Ev (fun n => f n a) r) : Ev (fun n => o.bind (f n)) r := by
  subst h
  exact k
theorem tdiv_nn {a b : Int} (h : 0 ≤ a) : Int.tdiv a b = a / b := Int.tdiv_eq_ediv_of_nonneg h
theorem tmod_nn {a b : Int} (h : 0 ≤ a) : Int.tmod a b = a % b := Int.tmod_eq_emod_of_nonneg h
end Go.Proofs.Ytjeidmbggdgggaa.Com

/- Loops over lists, by their rounds: general lemmas. -/
namespace Go.Proofs.Ytjeidmbggdgggaa.Com
set_option linter.unusedSimpArgs false
set_option linter.unusedVariables false
open Go.RowKit Go.Proofs.YtjeidmbggdgggaaW.PrintWords

theorem ev_fold {α σ ρ : Type} (xs : List α) (g : Nat → σ → Nat → Option ρ) (F : List α → σ → ρ) (Inv : Nat → σ → Prop)
    (h0 : ∀ s, Inv xs.length s → Ev (g xs.length s) (F [] s))
    (hs : ∀ m (h : m < xs.length) s, Inv m s → (∀ s', Inv (m + 1) s' → Ev (g (m + 1) s') (F (xs.drop (m + 1)) s')) → Ev (g m s) (F (xs[m] :: xs.drop (m + 1)) s)) :
    ∀ m s, m ≤ xs.length → Inv m s → Ev (g m s) (F (xs.drop m) s) := by
  have key : ∀ d m s, m + d = xs.length → Inv m s → Ev (g m s) (F (xs.drop m) s) := by
    intro d
    induction d with
    | zero =>
      intro m s e hi
      obtain rfl : m = xs.length := by omega
      rw [List.drop_length]
      exact h0 s hi
    | succ d ih =>
      intro m s e hi
      have h : m < xs.length := by omega
      rw [List.drop_eq_getElem_cons h]
      exact hs m h s hi (fun s' hi' => ih (m + 1) s' (by omega) hi')
  intro m s hm hi
  exact key (xs.length - m) m s (by omega) hi
theorem ev_list {α ρ : Type} (xs : List α) (g : Nat → Nat → Option ρ) (F : List α → ρ) (h0 : Ev (g xs.length) (F []))
    (hs : ∀ m (h : m < xs.length), Ev (g (m + 1)) (F (xs.drop (m + 1))) → Ev (g m) (F (xs[m] :: xs.drop (m + 1)))) (m : Nat) (hm : m ≤ xs.length) : Ev (g m) (F (xs.drop m)) :=
  ev_fold xs (fun m (_ : Unit) => g m) (fun l _ => F l) (fun _ _ => True) (fun _ _ => h0) (fun m h _ _ ih => hs m h (ih () trivial)) m () hm trivial
/-- A loop that counts from m up to n. -/
theorem ev_count {σ ρ : Type} (n : Nat) (g : Nat → σ → Nat → Option ρ) (r : ρ) (Inv : Nat → σ → Prop) (h0 : ∀ s, Inv n s → Ev (g n s) r)
    (hs : ∀ m s, m < n → Inv m s → ∃ s', Inv (m + 1) s' ∧ (Ev (g (m + 1) s') r → Ev (g m s) r)) : ∀ m s, m ≤ n → Inv m s → Ev (g m s) r := by
  have key : ∀ d m s, m + d = n → Inv m s → Ev (g m s) r := by
    intro d
    induction d with
    | zero =>
      intro m s e hi
      obtain rfl : m = n := by omega
      exact h0 s hi
    | succ d ih =>
      intro m s e hi
      obtain ⟨s', hi', k⟩ := hs m s (by omega) hi
      exact k (ih (m + 1) s' (by omega) hi')
  intro m s hm hi
  exact key (n - m) m s (by omega) hi
theorem rd_nat {xs : List Int} {m : Nat} (h : m < xs.length) : rd xs (m : Int) = xs[m] := by
  unfold rd
  rw [Int.toNat_natCast, List.getD_eq_getElem?_getD, List.getElem?_eq_getElem h]
  rfl
theorem w_succ {m : Nat} (h : m < 9223372036854775807) : wrap64 ((m : Int) + 1) = ((m + 1 : Nat) : Int) := by
  rw [w64 (by omega) (by omega)]
  omega
theorem w_pred {m : Nat} (h : 0 < m) (h' : m < 9223372036854775807) : wrap64 ((m : Int) - 1) = ((m - 1 : Nat) : Int) := by
  rw [w64 (by omega) (by omega)]
  omega
end Go.Proofs.Ytjeidmbggdgggaa.Com

/- The program's and the reference's tests of bounds. -/
namespace Go.Proofs.Ytjeidmbggdgggaa.Com
set_option linter.unusedSimpArgs false
set_option linter.unusedVariables false
open Go.RowKit Go.Proofs.YtjeidmbggdgggaaW.PrintWords Go.Proofs.Ytjeidmbggdgggaa.Q

theorem within_tells (x a b : Int) : impl_within.f x a b = some (decide (a ≤ x ∧ x ≤ b)) := by
  unfold impl_within.f
  split <;> simp [*]
theorem in_tells (x a b : Int) : spec_l00In.f x a b = some (decide (a ≤ x ∧ x ≤ b)) := by
  unfold spec_l00In.f
  by_cases h : x ≥ a
  · have h' : a ≤ x := h
    simp [h, h']
  · have h' : ¬ a ≤ x := h
    simp [h, h']
end Go.Proofs.Ytjeidmbggdgggaa.Com

/- Calendars of rules, on both sides. -/
namespace Go.Proofs.Ytjeidmbggdgggaa.Com
set_option linter.unusedSimpArgs false
set_option linter.unusedVariables false
set_option linter.unusedSectionVars false
open Go.RowKit Go.Proofs.YtjeidmbggdgggaaW.PrintWords Go.Proofs.YtjeidmbggdgggaaW.PrintMore Go.Proofs.Ytjeidmbggdgggaa.Q

def cntDiv (y : Int) : List Int → Int
  | [] => 0
  | x :: r => (if y % x = 0 then 1 else 0) + cntDiv y r
theorem cntDiv_cons (y x : Int) (r : List Int) : cntDiv y (x :: r) = (if y % x = 0 then 1 else 0) + cntDiv y r := rfl
def ruleLeaps (l : List Int) (n : Nat) : List Int := ((List.range n).filter fun (y : Nat) => decide (cntDiv (y : Int) l % 2 = 1)).map fun (y : Nat) => (y : Int)
theorem ruleLeaps_succ (l : List Int) (n : Nat) : ruleLeaps l (n + 1) = if cntDiv (n : Int) l % 2 = 1 then ruleLeaps l n ++ [(n : Int)] else ruleLeaps l n := by
  unfold ruleLeaps
  rw [List.range_succ, List.filter_append, List.map_append]
  by_cases h : cntDiv (n : Int) l % 2 = 1 <;> simp [h]
theorem ruleLeaps_len (l : List Int) (n : Nat) : (ruleLeaps l n).length ≤ n := by
  unfold ruleLeaps
  rw [List.length_map]
  exact Nat.le_trans (List.length_filter_le _ _) (by rw [List.length_range]; exact Nat.le_refl _)
def chainFrom (p : Int) : List Int → Bool
  | [] => true
  | x :: r => decide (p < x) && decide (x % p = 0) && chainFrom x r
def rulesOk (l : List Int) : Bool := match l with
  | [] => false
  | x :: r => decide (l.length ≤ 5) && (l.all fun x => decide (1 ≤ x ∧ x ≤ 400)) && chainFrom x r
section
variable {l : List Int} (hl : l.length ≤ 5) (hr : ∀ x ∈ l, 1 ≤ x ∧ x ≤ 400) (cm : Int)
include hl hr
theorem implRule_years (c : Nat) (hc : c ≤ 400) : Ev (fun k => impl_RuleCalendar.l1 k l (c : Int) 0 (c : Int) cm []) ((c : Int), cm, ruleLeaps l c, true) := by
  have gen := ev_count c (fun m s k => impl_RuleCalendar.l1 k l (c : Int) (m : Int) (c : Int) cm s) ((c : Int), cm, ruleLeaps l c, true) (fun m s => s = ruleLeaps l m) ?_ ?_ 0 [] (by omega) rfl
  · exact gen
  · rintro s rfl
    refine Ev.step (fun k => by rw [impl_RuleCalendar.l1]) ?_
    simp only [if_neg (show ¬ (c : Int) < (c : Int) by omega)]
    exact Ev.now _
  · rintro m s hm rfl
    refine ⟨_, rfl, fun ih => ?_⟩
    refine Ev.step (fun k => by rw [impl_RuleCalendar.l1]) ?_
    simp only [if_pos (show (m : Int) < (c : Int) by omega)]
    have gen := ev_fold l (fun j s k => impl_RuleCalendar.l2 k l (m : Int) s (c : Int) (m : Int) l (l.length : Int) (j : Int) (c : Int) cm (ruleLeaps l m)) (fun r s => ((c : Int), cm, ruleLeaps l c, true)) (fun j s => 0 ≤ s ∧ s ≤ j ∧ s + cntDiv (m : Int) (l.drop j) = cntDiv (m : Int) l) ?_ ?_ 0 0 (by omega) (by simp)
    · exact gen
    · rintro s ⟨s0, s1, s2⟩
      rw [List.drop_length] at s2
      simp only [cntDiv, Int.add_zero] at s2
      refine Ev.step (fun k => by rw [impl_RuleCalendar.l2]) ?_
      have := ruleLeaps_len l m
      simp only [if_neg (show ¬ (l.length : Int) < (l.length : Int) by omega), tmod_nn s0, w_succ (m := m) (by omega), if_pos (show (ruleLeaps l m).length < 17592186044416 by omega)]
      rw [ruleLeaps_succ, ← s2] at ih
      by_cases q : s % 2 = 1
      · simp only [if_pos q] at ih ⊢
        exact ih
      · simp only [if_neg q] at ih ⊢
        exact ih
    · rintro j hj s ⟨s0, s1, s2⟩ k
      obtain ⟨x0, x1⟩ := hr l[j] (List.getElem_mem hj)
      refine Ev.step (fun k => by rw [impl_RuleCalendar.l2]) ?_
      simp only [if_pos (show (j : Int) < (l.length : Int) by omega), if_pos (show 0 ≤ (j : Int) by omega), rd_nat hj, if_neg (show ¬ l[j] = 0 by omega), w_succ (m := j) (by omega), tmod_nn (show 0 ≤ (m : Int) by omega)]
      rw [List.drop_eq_getElem_cons hj] at s2
      rw [cntDiv_cons] at s2
      unfold impl_bit.f
      by_cases q : (m : Int) % l[j] = 0
      · simp only [q, beq_self_eq_true, if_true, Option.bind_some]
        rw [if_pos q] at s2
        rw [w64 (x := s + 1) (by omega) (by omega)]
        exact k (s + 1) ⟨by omega, by omega, by omega⟩
      · simp only [beq_eq_false_iff_ne.2 q, Bool.false_eq_true, if_false, Option.bind_some, Int.add_zero]
        rw [if_neg q] at s2
        rw [w64 (x := s) (by omega) (by omega)]
        exact k s ⟨by omega, by omega, by omega⟩
end
def lastOf (l : List Int) : Int := l.getLastD 0
def ruleOf (l : List Int) (cm : Int) : Int × Int × List Int × Bool := if rulesOk l = true ∧ 1 ≤ cm ∧ cm ≤ 1000 then (lastOf l, cm, ruleLeaps l (lastOf l).toNat, true) else (0, 0, [], false)
theorem last_tells {l : List Int} (h : 0 < l.length) (h' : l.length ≤ 5) : wrap64 ((l.length : Int) - 1) = ((l.length - 1 : Nat) : Int) ∧ rd l ((l.length - 1 : Nat) : Int) = lastOf l ∧ lastOf l ∈ l := by
  have e : l.length - 1 < l.length := by omega
  refine ⟨w_pred h (by omega), ?_, ?_⟩
  · rw [rd_nat e]
    unfold lastOf
    rw [List.getLastD_eq_getLast?, List.getLast?_eq_getElem?, List.getElem?_eq_getElem e]
    rfl
  · unfold lastOf
    rw [List.getLastD_eq_getLast?, List.getLast?_eq_getElem?, List.getElem?_eq_getElem e]
    exact List.getElem_mem e
theorem implRule_ev (l : List Int) (cm : Int) (hx : l.length ≤ 1048576) : Ev (fun k => impl_RuleCalendar.f k l cm) (ruleOf l cm) := by
  have jf : Ev (fun k => impl_RuleCalendar.j0 k l cm true) (0, 0, [], false) := Ev.step (fun k => by rw [impl_RuleCalendar.j0]) (by simp only [if_true]; exact Ev.now _)
  unfold impl_RuleCalendar.f impl_size_int64.f ruleOf
  simp only [Option.bind_some, within_tells, impl_areWithin.f, decide_eq_true_eq]
  by_cases h1 : 1 ≤ (l.length : Int) ∧ (l.length : Int) ≤ 5
  · simp only [if_pos h1]
    obtain ⟨x, r, rfl⟩ : ∃ x r, l = x :: r := by
      cases l with
      | nil => simp at h1
      | cons x r => exact ⟨x, r, rfl⟩
    by_cases h2 : ((x :: r).all fun x => decide (1 ≤ x ∧ x ≤ 400)) = true
    · simp only [if_pos h2]
      have hr : ∀ y ∈ x :: r, 1 ≤ y ∧ y ≤ 400 := fun y hy => of_decide_eq_true (List.all_eq_true.1 h2 y hy)
      by_cases h3 : 1 ≤ cm ∧ cm ≤ 1000
      · rw [decide_eq_true h3]
        refine Ev.step (fun k => by rw [impl_RuleCalendar.j0]) ?_
        simp only [Bool.not_true, Bool.false_eq_true, if_false]
        obtain ⟨e1, e2, e3⟩ := last_tells (l := x :: r) (by omega) (by omega)
        have hlast := hr _ e3
        have key : Ev (fun k => impl_RuleCalendar.l0 k (x :: r) cm ((1 : Nat) : Int)) (if chainFrom x r = true then (lastOf (x :: r), cm, ruleLeaps (x :: r) (lastOf (x :: r)).toNat, true) else (0, 0, [], false)) := by
          have gen := ev_fold (x :: r) (fun m (p : Int) k => impl_RuleCalendar.l0 k (x :: r) cm (m : Int)) (fun d p => if chainFrom p d = true then (lastOf (x :: r), cm, ruleLeaps (x :: r) (lastOf (x :: r)).toNat, true) else (0, 0, [], false)) (fun m p => 0 < m ∧ ∃ h : m - 1 < (x :: r).length, p = (x :: r)[m - 1]) ?_ ?_ 1 x (by omega) ⟨by omega, by omega, rfl⟩
          · simpa using gen
          · rintro p ⟨hm, hp, rfl⟩
            refine Ev.step (fun k => by rw [impl_RuleCalendar.l0]) ?_
            simp only [if_neg (show ¬ ((x :: r).length : Int) < ((x :: r).length : Int) by omega), e1, if_pos (show 0 ≤ (((x :: r).length - 1 : Nat) : Int) by omega), if_pos (show (((x :: r).length - 1 : Nat) : Int) < ((x :: r).length : Int) by omega), e2, chainFrom, if_true]
            have := implRule_years (l := x :: r) (by omega) hr cm (lastOf (x :: r)).toNat (by omega)
            rwa [Int.toNat_of_nonneg (by omega)] at this
          · rintro m hm p ⟨h0, hp, rfl⟩ ih
            have ih' := ih _ ⟨by omega, by rw [Nat.add_sub_cancel]; exact hm, rfl⟩
            simp only [Nat.add_sub_cancel] at ih'
            have x0 := hr (x :: r)[m] (List.getElem_mem hm)
            have x1 := hr (x :: r)[m - 1] (List.getElem_mem hp)
            refine Ev.step (fun k => by rw [impl_RuleCalendar.l0]) ?_
            simp only [if_pos (show (m : Int) < ((x :: r).length : Int) by omega), if_pos (show 0 ≤ (m : Int) by omega), w_pred h0 (show m < 9223372036854775807 by omega), if_pos (show 0 ≤ ((m - 1 : Nat) : Int) by omega), if_pos (show ((m - 1 : Nat) : Int) < ((x :: r).length : Int) by omega), rd_nat hm, rd_nat hp, if_neg (show ¬ (x :: r)[m - 1] = 0 by omega), tmod_nn (show 0 ≤ (x :: r)[m] by omega), w_succ (m := m) (by omega)]
            unfold chainFrom
            by_cases c1 : (x :: r)[m] ≤ (x :: r)[m - 1]
            · simp only [if_pos c1]
              rw [decide_eq_false (by omega)]
              simp
              exact Ev.now _
            · simp only [if_neg c1]
              rw [decide_eq_true (by omega), Bool.true_and]
              by_cases c2 : (x :: r)[m] % (x :: r)[m - 1] = 0
              · simp only [if_pos c2]
                rw [decide_eq_true c2, Bool.true_and]
                exact ih'
              · simp only [if_neg c2]
                rw [decide_eq_false c2]
                simp
                exact Ev.now _
        have e : rulesOk (x :: r) = chainFrom x r := by
          show (decide ((x :: r).length ≤ 5) && ((x :: r).all fun x => decide (1 ≤ x ∧ x ≤ 400)) && chainFrom x r) = _
          rw [h2, decide_eq_true (show (x :: r).length ≤ 5 by omega)]
          rfl
        rw [e]
        have e' : (chainFrom x r = true ∧ 1 ≤ cm ∧ cm ≤ 1000) ↔ chainFrom x r = true := ⟨fun h => h.1, fun h => ⟨h, h3⟩⟩
        simp only [e']
        exact key
      · rw [decide_eq_false h3, if_neg (fun e => h3 e.2)]
        exact jf
    · simp only [if_neg h2]
      rw [if_neg]
      · exact jf
      · rintro ⟨e, _⟩
        apply h2
        have e' : (decide ((x :: r).length ≤ 5) && ((x :: r).all fun x => decide (1 ≤ x ∧ x ≤ 400)) && chainFrom x r) = true := e
        rw [Bool.and_eq_true, Bool.and_eq_true] at e'
        exact e'.1.2
  · simp only [if_neg h1]
    rw [if_neg]
    · exact jf
    · rintro ⟨e, _⟩
      apply h1
      cases l with
      | nil => simp [rulesOk] at e
      | cons x r =>
        have e' : (decide ((x :: r).length ≤ 5) && ((x :: r).all fun x => decide (1 ≤ x ∧ x ≤ 400)) && chainFrom x r) = true := e
        rw [Bool.and_eq_true, Bool.and_eq_true] at e'
        have := of_decide_eq_true e'.1.1
        rw [List.length_cons] at *
        omega
end Go.Proofs.Ytjeidmbggdgggaa.Com

/- A set of numbers below a bound: the program's test and the reference's. -/
namespace Go.Proofs.Ytjeidmbggdgggaa.Com
set_option linter.unusedSimpArgs false
set_option linter.unusedVariables false
open Go.RowKit Go.Proofs.YtjeidmbggdgggaaW.PrintWords Go.Proofs.Ytjeidmbggdgggaa.Q

/-- Rising numbers from lo to hi, all above p. -/
def risesFrom (lo hi : Int) : Option Int → List Int → Bool
  | _, [] => true
  | p, x :: r => decide (lo ≤ x ∧ x ≤ hi) && (match p with | none => true | some y => decide (y < x)) && risesFrom lo hi (some x) r
def rises (lo hi : Int) (l : List Int) : Bool := risesFrom lo hi none l

theorem rises_ev (xs : List Int) (lo hi : Int) (hx : xs.length ≤ 1048576) : Ev (fun k => spec_l00Rises.f k xs lo hi) (rises lo hi xs) := by
  unfold spec_l00Rises.f
  have gen := ev_fold xs (fun m (p : Option Int) k => spec_l00Rises.l0 k xs lo hi (m : Int)) (fun l p => risesFrom lo hi p l) (fun m p => p = if h : 0 < m ∧ m - 1 < xs.length then some (xs[m - 1]'h.2) else none) ?_ ?_ 0 none (by omega) (by simp)
  · simpa [rises] using gen
  · intro s hs
    refine Ev.step (fun k => by rw [spec_l00Rises.l0]) ?_
    simp only [if_neg (show ¬ (xs.length : Int) < (xs.length : Int) by omega)]
    exact Ev.now _
  · intro m hm s hs ih
    have ih' := ih (some xs[m]) (by simp [hm])
    refine Ev.step (fun k => by rw [spec_l00Rises.l0]) ?_
    simp only [if_pos (show (m : Int) < (xs.length : Int) by omega), if_pos (show 0 ≤ (m : Int) by omega), rd_nat hm, in_tells, Option.bind_some, w_succ (m := m) (by omega), decide_eq_true_eq]
    by_cases c : lo ≤ xs[m] ∧ xs[m] ≤ hi
    · simp only [if_pos c]
      unfold risesFrom
      rw [decide_eq_true c, Bool.true_and]
      by_cases hp : (m : Int) > 0
      · have hp' : 0 < m ∧ m - 1 < xs.length := by omega
        rw [dif_pos hp'] at hs
        subst hs
        simp only [if_pos hp, w_pred (m := m) (by omega) (by omega), if_pos (show (0 : Int) ≤ ((m - 1 : Nat) : Int) by omega), if_pos (show ((m - 1 : Nat) : Int) < (xs.length : Int) by omega), rd_nat hp'.2]
        by_cases q : xs[m - 1] ≥ xs[m]
        · simp only [if_pos q]
          rw [decide_eq_false (by omega), Bool.false_and]
          exact Ev.now _
        · simp only [if_neg q]
          rw [decide_eq_true (by omega), Bool.true_and]
          exact ih'
      · rw [dif_neg (by omega)] at hs
        subst hs
        simp only [if_neg hp, Bool.true_and]
        exact ih'
    · simp only [if_neg c]
      unfold risesFrom
      rw [decide_eq_false c]
      simp
      exact Ev.now _
theorem isSet_ev (xs : List Int) (b : Int) (hx : xs.length ≤ 1048576) (hb : -9223372036854775807 ≤ b ∧ b ≤ 9223372036854775807) : Ev (fun k => impl_isSet.f k xs b) (rises 0 (b - 1) xs) := by
  unfold impl_isSet.f
  have gen := ev_fold xs (fun m (p : Option Int) k => impl_isSet.l0 k xs b xs (xs.length : Int) (m : Int)) (fun l p => risesFrom 0 (b - 1) p l) (fun m p => p = if h : 0 < m ∧ m - 1 < xs.length then some (xs[m - 1]'h.2) else none) ?_ ?_ 0 none (by omega) (by simp)
  · simpa [rises] using gen
  · intro s hs
    refine Ev.step (fun k => by rw [impl_isSet.l0]) ?_
    simp only [if_neg (show ¬ (xs.length : Int) < (xs.length : Int) by omega)]
    exact Ev.now _
  · intro m hm s hs ih
    have ih' := ih (some xs[m]) (by simp [hm])
    refine Ev.step (fun k => by rw [impl_isSet.l0]) ?_
    simp only [if_pos (show (m : Int) < (xs.length : Int) by omega), if_pos (show 0 ≤ (m : Int) by omega), rd_nat hm, within_tells, Option.bind_some, w_succ (m := m) (by omega), decide_eq_true_eq, w64 (x := b - 1) (by omega) (by omega)]
    by_cases c : 0 ≤ xs[m] ∧ xs[m] ≤ b - 1
    · simp only [if_pos c]
      unfold risesFrom
      rw [decide_eq_true c, Bool.true_and]
      by_cases hp : (m : Int) > 0
      · have hp' : 0 < m ∧ m - 1 < xs.length := by omega
        rw [dif_pos hp'] at hs
        subst hs
        simp only [if_pos hp, w_pred (m := m) (by omega) (by omega), if_pos (show (0 : Int) ≤ ((m - 1 : Nat) : Int) by omega), if_pos (show ((m - 1 : Nat) : Int) < (xs.length : Int) by omega), rd_nat hp'.2]
        by_cases q : xs[m] ≤ xs[m - 1]
        · simp only [if_pos q]
          rw [decide_eq_false (by omega), Bool.false_and]
          exact Ev.now _
        · simp only [if_neg q]
          rw [decide_eq_true (by omega), Bool.true_and]
          exact ih'
      · rw [dif_neg (by omega)] at hs
        subst hs
        simp only [if_neg hp, Bool.true_and]
        exact ih'
    · simp only [if_neg c]
      unfold risesFrom
      rw [decide_eq_false c]
      simp
      exact Ev.now _
end Go.Proofs.Ytjeidmbggdgggaa.Com

/- What the laws' own helpers tell: a copy is the list itself, equality is equality, sizes are told. -/
namespace Go.Proofs.Ytjeidmbggdgggaa.Com
set_option linter.unusedSimpArgs false
set_option linter.unusedVariables false
open Go.RowKit Go.Proofs.YtjeidmbggdgggaaW.PrintWords Go.Proofs.Ytjeidmbggdgggaa.Q

end Go.Proofs.Ytjeidmbggdgggaa.Com

/- Calendars: the two tests of validity, copies and sizes. -/
namespace Go.Proofs.Ytjeidmbggdgggaa.Com
set_option linter.unusedSimpArgs false
set_option linter.unusedVariables false
set_option linter.unusedSectionVars false
open Go.RowKit Go.Proofs.YtjeidmbggdgggaaW.PrintWords Go.Proofs.YtjeidmbggdgggaaW.PrintMore Go.Proofs.Ytjeidmbggdgggaa.Q

def validCal (c cm : Int) (l : List Int) : Bool := decide (1 ≤ c ∧ c ≤ 400) && decide (1 ≤ cm ∧ cm ≤ 1000) && rises 0 (c - 1) l
theorem l11Calendar_ev (c cm : Int) (l : List Int) (hx : l.length ≤ 1048576) : Ev (fun k => spec_l11Calendar.f k c cm l) (validCal c cm l) := by
  unfold spec_l11Calendar.f validCal
  simp only [in_tells, Option.bind_some, decide_eq_true_eq]
  by_cases h1 : 1 ≤ c ∧ c ≤ 400
  · simp only [if_pos h1, decide_eq_true h1, Bool.true_and]
    by_cases h2 : 1 ≤ cm ∧ cm ≤ 1000
    · simp only [if_pos h2, decide_eq_true h2, Bool.true_and]
      rw [w64 (by omega) (by omega)]
      exact Ev.bind (rises_ev l 0 (c - 1) hx) (Ev.now _)
    · simp only [if_neg h2, decide_eq_false h2, Bool.false_and]
      exact Ev.now _
  · simp only [if_neg h1, decide_eq_false h1, Bool.false_and]
    exact Ev.now _
theorem implValid_ev (c cm : Int) (l : List Int) (hx : l.length ≤ 1048576) : Ev (fun k => impl_ValidCalendar.f k c cm l) (validCal c cm l) := by
  unfold impl_ValidCalendar.f validCal
  simp only [within_tells, Option.bind_some, decide_eq_true_eq]
  by_cases h1 : 1 ≤ c ∧ c ≤ 400
  · simp only [if_pos h1, decide_eq_true h1, Bool.true_and]
    by_cases h2 : 1 ≤ cm ∧ cm ≤ 1000
    · simp only [if_pos h2, decide_eq_true h2, Bool.true_and]
      exact Ev.bind (isSet_ev l c hx (by omega)) (Ev.now _)
    · simp only [if_neg h2, decide_eq_false h2, Bool.false_and]
      exact Ev.now _
  · simp only [if_neg h1, decide_eq_false h1, Bool.false_and]
    exact Ev.now _
theorem valid_bd {c cm : Int} {l : List Int} (h : validCal c cm l = true) : 1 ≤ c ∧ c ≤ 400 ∧ 1 ≤ cm ∧ cm ≤ 1000 := by
  unfold validCal at h
  simp only [Bool.and_eq_true, decide_eq_true_eq] at h
  omega
end Go.Proofs.Ytjeidmbggdgggaa.Com

/- The days before a year, on both sides. -/
namespace Go.Proofs.Ytjeidmbggdgggaa.Com
set_option linter.unusedSimpArgs false
set_option linter.unusedVariables false
set_option linter.unusedSectionVars false
open Go.RowKit Go.Proofs.YtjeidmbggdgggaaW.PrintWords Go.Proofs.YtjeidmbggdgggaaW.PrintMore Go.Proofs.Ytjeidmbggdgggaa.Q

/-! ### Days -/
def cntLt (b : Int) : List Int → Int
  | [] => 0
  | x :: r => (if x < b then 1 else 0) + cntLt b r
theorem cntLt_bd (b : Int) (l : List Int) : 0 ≤ cntLt b l ∧ cntLt b l ≤ l.length := by
  induction l with
  | nil => simp [cntLt]
  | cons x r ih => unfold cntLt; rw [List.length_cons]; split <;> omega
def db (c cm : Int) (l : List Int) (y : Int) : Int := y * cm + y / c * (l.length : Int) + cntLt (y % c) l
section
variable {c cm : Int} {l : List Int} (hc : 1 ≤ c ∧ c ≤ 400) (hm : 1 ≤ cm ∧ cm ≤ 1000) (hx : l.length ≤ 1048576)
include hc hm hx
theorem db_parts (y : Int) (hy : 0 ≤ y ∧ y ≤ 100000) : 0 ≤ y * cm ∧ y * cm ≤ 100000000 ∧ 0 ≤ y / c ∧ y / c ≤ 100000 ∧ 0 ≤ y / c * (l.length : Int) ∧ y / c * (l.length : Int) ≤ 104857600000 ∧ 0 ≤ y % c ∧ y % c < c := by
  have a := mul_bd hy.1 hy.2 (show 0 ≤ cm by omega) hm.2
  have b1 : 0 ≤ y / c := Int.ediv_nonneg hy.1 (by omega)
  have b2 : y / c ≤ y := Int.ediv_le_self _ hy.1
  have b := mul_bd b1 (show y / c ≤ 100000 by omega) (show (0 : Int) ≤ (l.length : Int) by omega) (show (l.length : Int) ≤ 1048576 by omega)
  have d := Int.emod_nonneg y (show c ≠ 0 by omega)
  have e := Int.emod_lt_of_pos y (show 0 < c by omega)
  omega
theorem db_bd (y : Int) (hy : 0 ≤ y ∧ y ≤ 100000) : 0 ≤ db c cm l y ∧ db c cm l y ≤ 200000000000 := by
  have := db_parts hc hm hx y hy
  have := cntLt_bd (y % c) l
  unfold db
  omega
theorem l11Before_ev (y : Int) (hy : 0 ≤ y ∧ y ≤ 100000) : Ev (fun k => spec_l11Before.f k c cm l y) (db c cm l y) := by
  have p := db_parts hc hm hx y hy
  unfold spec_l11Before.f
  simp only [if_neg (show ¬ c = 0 by omega), tdiv_nn hy.1]
  rw [w64 (x := y / c) (by omega) (by omega), w64 (x := y / c * (l.length : Int)) (by omega) (by omega), w64 (x := y * cm) (by omega) (by omega), w64 (by omega) (by omega)]
  have gen := ev_fold l (fun m s k => spec_l11Before.l0 k y s (m : Int) c cm l) (fun r s => s + cntLt (y % c) r) (fun m s => 0 ≤ s ∧ s ≤ 200000000000 - (l.length - m)) ?_ ?_ 0 (y * cm + y / c * (l.length : Int)) (by omega) (by omega)
  · simpa [db] using gen
  · intro s hs
    refine Ev.step (fun k => by rw [spec_l11Before.l0]) ?_
    simp only [if_neg (show ¬ (l.length : Int) < (l.length : Int) by omega), cntLt, Int.add_zero]
    exact Ev.now _
  · intro m h s hs ih
    refine Ev.step (fun k => by rw [spec_l11Before.l0]) ?_
    simp only [if_pos (show (m : Int) < (l.length : Int) by omega), if_pos (show 0 ≤ (m : Int) by omega), rd_nat h, w_succ (m := m) (by omega), if_neg (show ¬ c = 0 by omega), tmod_nn hy.1]
    unfold cntLt
    by_cases q : l[m] < y % c
    · simp only [if_pos q]
      rw [w64 (by omega) (by omega)]
      have := ih (s + 1) (by omega)
      rwa [Int.add_assoc] at this
    · simp only [if_neg q, Int.zero_add]
      exact ih s (by omega)
theorem daysBefore_ev (y : Int) (hy : 0 ≤ y ∧ y ≤ 100000) : Ev (fun k => impl_Calendar_daysBefore.f k c cm l y) (db c cm l y) := by
  have p := db_parts hc hm hx y hy
  unfold impl_Calendar_daysBefore.f impl_size_int64.f
  simp only [if_neg (show ¬ c = 0 by omega), tdiv_nn hy.1, Option.bind_some]
  rw [w64 (x := y / c) (by omega) (by omega), w64 (x := y / c * (l.length : Int)) (by omega) (by omega)]
  have gen := ev_fold l (fun m s k => impl_Calendar_daysBefore.l0 k y s l (l.length : Int) (m : Int) c cm l) (fun r s => y * cm + (s + cntLt (y % c) r)) (fun m s => 0 ≤ s ∧ s ≤ 200000000000 - (l.length - m)) ?_ ?_ 0 (y / c * (l.length : Int)) (by omega) (by omega)
  · simpa [db, Int.add_assoc] using gen
  · intro s hs
    refine Ev.step (fun k => by rw [impl_Calendar_daysBefore.l0]) ?_
    simp only [if_neg (show ¬ (l.length : Int) < (l.length : Int) by omega), cntLt, Int.add_zero]
    rw [w64 (x := y * cm) (by omega) (by omega), w64 (by omega) (by omega)]
    exact Ev.now _
  · intro m h s hs ih
    refine Ev.step (fun k => by rw [impl_Calendar_daysBefore.l0]) ?_
    simp only [if_pos (show (m : Int) < (l.length : Int) by omega), if_pos (show 0 ≤ (m : Int) by omega), rd_nat h, w_succ (m := m) (by omega), if_neg (show ¬ c = 0 by omega), tmod_nn hy.1]
    unfold cntLt impl_bit.f
    by_cases q : l[m] < y % c
    · simp only [if_pos q, decide_eq_true q, if_true, Option.bind_some]
      rw [w64 (x := s + 1) (by omega) (by omega)]
      have := ih (s + 1) (by omega)
      rwa [Int.add_assoc] at this
    · simp only [if_neg q, decide_eq_false q, Bool.false_eq_true, if_false, Option.bind_some, Int.zero_add, Int.add_zero]
      rw [w64 (x := s) (by omega) (by omega)]
      exact ih s (by omega)
end
end Go.Proofs.Ytjeidmbggdgggaa.Com

/- The chains of three rules, each looked at. -/
namespace Go.Proofs.Ytjeidmbggdgggaa.Com

def rA (ta : Nat) : Int := 1 + ta
def rB (ta tb : Nat) : Int := rA ta * (2 + tb)
def rD (ta tb td : Nat) : Int := rB ta tb * (2 + td)
theorem table : ∀ ta : Fin 8, ∀ tb : Fin 5, ∀ td : Fin 4, rulesOk [rA ta, rB ta tb, rD ta tb td] = true ∧ validCal (rD ta tb td) 365 (ruleLeaps [rA ta, rB ta tb, rD ta tb td] (rD ta tb td).toNat) = true ∧ ((ruleLeaps [rA ta, rB ta tb, rD ta tb td] (rD ta tb td).toNat).length : Int) = rD ta tb td / rA ta - rD ta tb td / rB ta tb + 1 ∧ cntLt 0 (ruleLeaps [rA ta, rB ta tb, rD ta tb td] (rD ta tb td).toNat) = 0 := by decide +kernel
end Go.Proofs.Ytjeidmbggdgggaa.Com

/- The greatest common divisor, on both sides. -/
namespace Go.Proofs.Ytjeidmbggdgggaa.Com
set_option linter.unusedSimpArgs false
set_option linter.unusedVariables false
set_option linter.unusedSectionVars false
open Go.RowKit Go.Proofs.YtjeidmbggdgggaaW.PrintWords Go.Proofs.YtjeidmbggdgggaaW.PrintMore Go.Proofs.Ytjeidmbggdgggaa.Q

/-! ### The greatest common divisor -/
theorem gcd_both (d : Nat) : ∀ (m n : Nat), n ≤ d → m ≤ 1000000000000 → n ≤ 1000000000000 →
    Ev (fun k => impl_divisor.l0 k (m : Int) (n : Int)) ((Nat.gcd m n : Nat) : Int) ∧ Ev (fun k => spec_l07Gcd.l0 k (m : Int) (n : Int)) ((Nat.gcd m n : Nat) : Int) := by
  induction d with
  | zero =>
    intro m n h hm hn
    obtain rfl : n = 0 := by omega
    rw [Nat.gcd_zero_right]
    constructor
    · refine Ev.step (fun k => by rw [impl_divisor.l0]) ?_
      simp only [show ((0 : Nat) : Int) = 0 from rfl, if_true]
      rw [w64 (by omega) (by omega)]
      rw [show mx (m : Int) (-(m : Int)) = (m : Int) from by unfold mx; rw [if_neg (by omega)]]
      exact Ev.now _
    · refine Ev.step (fun k => by rw [spec_l07Gcd.l0]) ?_
      simp only [if_neg (show ¬ ((0 : Nat) : Int) > 0 by omega)]
      exact Ev.now _
  | succ d ih =>
    intro m n h hm hn
    by_cases e : n = 0
    · subst e
      exact ih m 0 (by omega) hm hn
    have lt : m % n < n := Nat.mod_lt _ (by omega)
    have := ih n (m % n) (by omega) hn (by omega)
    have e2 : Int.tmod (m : Int) (n : Int) = ((m % n : Nat) : Int) := by rw [tmod_nn (by omega)]; rfl
    rw [show Nat.gcd m n = Nat.gcd n (m % n) from by rw [Nat.gcd_comm m n, Nat.gcd_rec n m, Nat.gcd_comm]]
    constructor
    · refine Ev.step (fun k => by rw [impl_divisor.l0]) ?_
      simp only [if_neg (show ¬ (n : Int) = 0 by omega), e2]
      exact this.1
    · refine Ev.step (fun k => by rw [spec_l07Gcd.l0]) ?_
      simp only [if_pos (show (n : Int) > 0 by omega), if_neg (show ¬ (n : Int) = 0 by omega), e2]
      exact this.2
theorem gcd_int (a b : Int) (ha : 0 ≤ a ∧ a ≤ 1000000000000) (hb : 0 ≤ b ∧ b ≤ 1000000000000) :
    Ev (fun k => impl_divisor.f k a b) ((Int.gcd a b : Nat) : Int) ∧ Ev (fun k => spec_l07Gcd.f k a b) ((Int.gcd a b : Nat) : Int) := by
  have := gcd_both b.toNat a.toNat b.toNat (Nat.le_refl _) (by omega) (by omega)
  rw [Int.toNat_of_nonneg ha.1, Int.toNat_of_nonneg hb.1] at this
  have e : Int.gcd a b = Nat.gcd a.toNat b.toNat := by
    unfold Int.gcd
    rw [show a.natAbs = a.toNat by omega, show b.natAbs = b.toNat by omega]
  rw [e]
  exact this
end Go.Proofs.Ytjeidmbggdgggaa.Com

/- The mean year, on both sides. -/
namespace Go.Proofs.Ytjeidmbggdgggaa.Com
set_option linter.unusedSimpArgs false
set_option linter.unusedVariables false
set_option linter.unusedSectionVars false
open Go.RowKit Go.Proofs.YtjeidmbggdgggaaW.PrintWords Go.Proofs.YtjeidmbggdgggaaW.PrintMore Go.Proofs.Ytjeidmbggdgggaa.Q

def meanOf (c cm : Int) (l : List Int) : Int × Int × Bool := if validCal c cm l = true then (db c cm l c / (Int.gcd (db c cm l c) c : Int), c / (Int.gcd (db c cm l c) c : Int), true) else (0, 0, false)
theorem mean_both (c cm : Int) (l : List Int) (hx : l.length ≤ 1048576) : Ev (fun k => spec_MeanYear.f k c cm l) (meanOf c cm l) ∧ Ev (fun k => impl_MeanYear.f k c cm l) (meanOf c cm l) := by
  unfold spec_MeanYear.f impl_MeanYear.f meanOf
  by_cases h : validCal c cm l = true
  · have b := valid_bd h
    have d := db_bd (c := c) (cm := cm) (l := l) (by omega) (by omega) hx c (by omega)
    obtain ⟨g1, g2⟩ := gcd_int (db c cm l c) c (by omega) (by omega)
    have gp : 0 < ((Int.gcd (db c cm l c) c : Nat) : Int) := by
      have : 0 < Int.gcd (db c cm l c) c := Int.gcd_pos_of_ne_zero_right _ (by omega)
      omega
    have q1 : 0 ≤ db c cm l c / (Int.gcd (db c cm l c) c : Int) := Int.ediv_nonneg d.1 (by omega)
    have q2 : db c cm l c / (Int.gcd (db c cm l c) c : Int) ≤ db c cm l c := Int.ediv_le_self _ d.1
    have q3 : 0 ≤ c / (Int.gcd (db c cm l c) c : Int) := Int.ediv_nonneg (by omega) (by omega)
    have q4 : c / (Int.gcd (db c cm l c) c : Int) ≤ c := Int.ediv_le_self _ (by omega)
    rw [if_pos h]
    refine ⟨Ev.bind (l11Calendar_ev c cm l hx) ?_, Ev.bind (implValid_ev c cm l hx) ?_⟩
    · simp only [h, if_true]
      refine Ev.bind (l11Before_ev (by omega) (by omega) hx c (by omega)) (Ev.bind g2 ?_)
      simp only [if_neg (show ¬ ((Int.gcd (db c cm l c) c : Nat) : Int) = 0 by omega), tdiv_nn d.1, tdiv_nn (show 0 ≤ c by omega)]
      rw [w64 (by omega) (by omega), w64 (by omega) (by omega)]
      exact Ev.now _
    · simp only [h, if_true]
      refine Ev.bind (daysBefore_ev (by omega) (by omega) hx c (by omega)) ?_
      unfold impl_worth_lowest.f
      refine Ev.bind (a := (db c cm l c / (Int.gcd (db c cm l c) c : Int), c / (Int.gcd (db c cm l c) c : Int))) (Ev.bind g1 ?_) (Ev.now _)
      simp only [if_neg (show ¬ ((Int.gcd (db c cm l c) c : Nat) : Int) = 0 by omega), tdiv_nn d.1, tdiv_nn (show 0 ≤ c by omega)]
      rw [w64 (by omega) (by omega), w64 (by omega) (by omega)]
      exact Ev.now _
  · have h' : validCal c cm l = false := by simpa using h
    rw [if_neg h]
    refine ⟨Ev.bind (l11Calendar_ev c cm l hx) ?_, Ev.bind (implValid_ev c cm l hx) ?_⟩ <;>
    · simp only [h', Bool.false_eq_true, if_false]
      exact Ev.now _

end Go.Proofs.Ytjeidmbggdgggaa.Com

/- Membership of a number in a list, on both sides. -/
namespace Go.Proofs.Ytjeidmbggdgggaa.Com
set_option linter.unusedSimpArgs false
set_option linter.unusedVariables false
set_option linter.unusedSectionVars false
open Go.RowKit Go.Proofs.YtjeidmbggdgggaaW.PrintWords Go.Proofs.YtjeidmbggdgggaaW.PrintMore Go.Proofs.Ytjeidmbggdgggaa.Q

/-! ### Membership -/
theorem has_ev (l : List Int) (x : Int) (hx : l.length ≤ 1048576) : Ev (fun k => spec_l00Has.f k l x) (decide (x ∈ l)) := by
  unfold spec_l00Has.f
  have gen := ev_list l (fun m k => spec_l00Has.l0 k l x (m : Int)) (fun r => decide (x ∈ r)) ?_ ?_ 0 (by omega)
  · simpa using gen
  · refine Ev.step (fun k => by rw [spec_l00Has.l0]) ?_
    simp only [if_neg (show ¬ (l.length : Int) < (l.length : Int) by omega)]
    exact Ev.now _
  · intro m hm ih
    refine Ev.step (fun k => by rw [spec_l00Has.l0]) ?_
    simp only [if_pos (show (m : Int) < (l.length : Int) by omega), if_pos (show 0 ≤ (m : Int) by omega), rd_nat hm, w_succ (m := m) (by omega)]
    by_cases c : l[m] = x
    · simp only [if_pos c]
      rw [decide_eq_true (show x ∈ l[m] :: l.drop (m + 1) from by rw [c]; exact List.mem_cons_self)]
      exact Ev.now _
    · simp only [if_neg c]
      rw [show decide (x ∈ l[m] :: l.drop (m + 1)) = decide (x ∈ l.drop (m + 1)) from decide_eq_decide.2 ⟨fun h => (List.mem_cons.1 h).resolve_left (fun e => c e.symm), fun h => List.mem_cons_of_mem _ h⟩]
      exact ih
theorem contains_ev (l : List Int) (x : Int) (hx : l.length ≤ 1048576) : Ev (fun k => slices_Contains_int64_int64.f k l x) (decide (x ∈ l)) := by
  unfold slices_Contains_int64_int64.f slices_Index_int64_int64.f
  have key : ∃ i : Int, Ev (fun k => slices_Index_int64_int64.l0 k l x (l.length : Int) 0) i ∧ (i ≥ 0 ↔ x ∈ l) := by
    have gen := ev_list l (fun m k => slices_Index_int64_int64.l0 k l x (l.length : Int) (m : Int)) (fun r => if x ∈ r then ((l.length - r.length + r.idxOf x : Nat) : Int) else -1) ?_ ?_ 0 (by omega)
    · refine ⟨_, by simpa using gen, ?_⟩
      by_cases c : x ∈ l <;> simp [c]
    · refine Ev.step (fun k => by rw [slices_Index_int64_int64.l0]) ?_
      simp only [if_neg (show ¬ (l.length : Int) < (l.length : Int) by omega)]
      exact Ev.now _
    · intro m hm ih
      refine Ev.step (fun k => by rw [slices_Index_int64_int64.l0]) ?_
      simp only [if_pos (show (m : Int) < (l.length : Int) by omega), if_pos (show 0 ≤ (m : Int) by omega), rd_nat hm, w_succ (m := m) (by omega)]
      have hl : l.length - (l[m] :: l.drop (m + 1)).length = m := by rw [List.length_cons, List.length_drop]; omega
      have hl2 : l.length - (l.drop (m + 1)).length = m + 1 := by rw [List.length_drop]; omega
      rw [hl]
      rw [hl2] at ih
      by_cases c : x = l[m]
      · simp only [if_pos c]
        rw [if_pos (by rw [c]; exact List.mem_cons_self), c, List.idxOf_cons_self]
        exact Ev.now _
      · simp only [if_neg c]
        have e1 : (x ∈ l[m] :: l.drop (m + 1)) ↔ x ∈ l.drop (m + 1) := ⟨fun h => (List.mem_cons.1 h).resolve_left c, fun h => List.mem_cons_of_mem _ h⟩
        have e2 : (l[m] :: l.drop (m + 1)).idxOf x = (l.drop (m + 1)).idxOf x + 1 := by rw [List.idxOf_cons, beq_eq_false_iff_ne.2 (fun e => c e.symm)]; rfl
        rw [e2]
        simp only [e1]
        rw [show m + ((l.drop (m + 1)).idxOf x + 1) = m + 1 + (l.drop (m + 1)).idxOf x by omega]
        exact ih
  obtain ⟨i, hi, hx'⟩ := key
  refine Ev.bind hi ?_
  rw [show decide (x ∈ l) = decide (i ≥ 0) from decide_eq_decide.2 hx'.symm]
  exact Ev.now _

end Go.Proofs.Ytjeidmbggdgggaa.Com

/- A year's test. -/
namespace Go.Proofs.Ytjeidmbggdgggaa.Com
set_option linter.unusedSimpArgs false
set_option linter.unusedVariables false
set_option linter.unusedSectionVars false
open Go.RowKit Go.Proofs.YtjeidmbggdgggaaW.PrintWords Go.Proofs.YtjeidmbggdgggaaW.PrintMore Go.Proofs.Ytjeidmbggdgggaa.Q

theorem year_tells (y : Int) : spec_l11Year.f y = some (decide (0 ≤ y ∧ y ≤ 100000)) := by
  unfold spec_l11Year.f
  rw [in_tells]
  rfl
end Go.Proofs.Ytjeidmbggdgggaa.Com

/- Leap years, on both sides. -/
namespace Go.Proofs.Ytjeidmbggdgggaa.Com
set_option linter.unusedSimpArgs false
set_option linter.unusedVariables false
set_option linter.unusedSectionVars false
open Go.RowKit Go.Proofs.YtjeidmbggdgggaaW.PrintWords Go.Proofs.YtjeidmbggdgggaaW.PrintMore Go.Proofs.Ytjeidmbggdgggaa.Q

theorem isLeap_both (c cm : Int) (l : List Int) (y : Int) (hx : l.length ≤ 1048576) :
    Ev (fun k => spec_IsLeap.f k c cm l y) (validCal c cm l && decide (0 ≤ y ∧ y ≤ 100000) && decide (y % c ∈ l)) ∧ Ev (fun k => impl_IsLeap.f k c cm l y) (validCal c cm l && decide (0 ≤ y ∧ y ≤ 100000) && decide (y % c ∈ l)) := by
  unfold spec_IsLeap.f impl_IsLeap.f
  by_cases h : validCal c cm l = true
  · have b := valid_bd h
    by_cases hy : 0 ≤ y ∧ y ≤ 100000
    · rw [h, decide_eq_true hy, Bool.true_and, Bool.true_and]
      refine ⟨Ev.bind (l11Calendar_ev c cm l hx) ?_, Ev.bind (implValid_ev c cm l hx) ?_⟩
      · simp only [h, if_true, year_tells, Option.bind_some, decide_eq_true hy]
        unfold spec_l11Leap.f
        simp only [if_neg (show ¬ c = 0 by omega), tmod_nn hy.1]
        exact Ev.bind (Ev.bind (has_ev l (y % c) hx) (Ev.now _)) (Ev.now _)
      · simp only [h, if_true, within_tells, Option.bind_some, decide_eq_true hy, if_neg (show ¬ c = 0 by omega), tmod_nn hy.1]
        exact Ev.bind (contains_ev l (y % c) hx) (Ev.now _)
    · rw [decide_eq_false hy, Bool.and_false, Bool.false_and]
      refine ⟨Ev.bind (l11Calendar_ev c cm l hx) ?_, Ev.bind (implValid_ev c cm l hx) ?_⟩
      · simp only [h, if_true, year_tells, Option.bind_some, decide_eq_false hy, Bool.false_eq_true, if_false]
        exact Ev.now _
      · simp only [h, if_true, within_tells, Option.bind_some, decide_eq_false hy, Bool.false_eq_true, if_false]
        exact Ev.now _
  · have h' : validCal c cm l = false := by simpa using h
    rw [h', Bool.false_and, Bool.false_and]
    refine ⟨Ev.bind (l11Calendar_ev c cm l hx) ?_, Ev.bind (implValid_ev c cm l hx) ?_⟩ <;>
    · simp only [h', Bool.false_eq_true, if_false]
      exact Ev.now _
end Go.Proofs.Ytjeidmbggdgggaa.Com

/- The letters of a code, as numbers. -/
namespace Go.Proofs.Ytjeidmbggdgggaa.Com
set_option linter.unusedSimpArgs false
set_option linter.unusedVariables false
open Go.RowKit Go.Proofs.Ytjeidmbggdgggaa.Q Go.Proofs.YtjeidmbggdgggaaW.PrintWords Go.Proofs.YtjeidmbggdgggaaW.PrintLast

theorem b10At_tells (l : List Int) (i n : Int) (hl : ∀ x ∈ l, (Lit.int .u8 x).wf = true) (hi : 0 ≤ i ∧ i ≤ 10) (hn : 1 ≤ n) : ∃ r, laws_b10At.f l i n = some r ∧ 0 ≤ r ∧ r < n := by
  unfold laws_b10At.f
  by_cases h1 : n ≤ 1
  · exact ⟨0, by rw [if_pos h1], by omega, by omega⟩
  · rw [if_neg h1]
    by_cases h2 : i < (l.length : Int)
    · rw [if_pos h2, if_pos hi.1, if_neg (show ¬ n = 0 by omega)]
      have hx : 0 ≤ rd l i ∧ rd l i ≤ 255 := by
        have hlt : i.toNat < l.length := by omega
        have : rd l i ∈ l := by
          unfold rd
          rw [List.getD_eq_getElem?_getD, List.getElem?_eq_getElem hlt]
          exact List.getElem_mem hlt
        have := hl _ this
        simp [Lit.wf, IntKind.min, IntKind.max, IntKind.signed, IntKind.bits] at this
        omega
      rw [w64 (by omega) (by omega), tmod_nn hx.1]
      exact ⟨_, rfl, Int.emod_nonneg _ (by omega), Int.emod_lt_of_pos _ (by omega)⟩
    · rw [if_neg h2, if_neg (show ¬ n = 0 by omega), w64 (x := i * 37) (by omega) (by omega), w64 (by omega) (by omega), tmod_nn (by omega)]
      exact ⟨_, rfl, Int.emod_nonneg _ (by omega), Int.emod_lt_of_pos _ (by omega)⟩
end Go.Proofs.Ytjeidmbggdgggaa.Com

/- The pure statement of FnRules: the calendar of a chain of three rules has its leap years, and its mean year. -/
namespace Go.Proofs.Ytjeidmbggdgggaa.Pure
set_option linter.unusedSimpArgs false
set_option linter.unusedVariables false
open Go.RowKit Go.Proofs.Ytjeidmbggdgggaa.Q Go.Proofs.YtjeidmbggdgggaaW.PrintWords Go.Proofs.YtjeidmbggdgggaaW.PrintLast Go.Proofs.Ytjeidmbggdgggaa.Com

theorem mem_leaps (l : List Int) (n : Nat) (y : Int) : y ∈ ruleLeaps l n ↔ 0 ≤ y ∧ y < n ∧ cntDiv y l % 2 = 1 := by
  unfold ruleLeaps
  rw [List.mem_map]
  constructor
  · rintro ⟨m, hm, rfl⟩
    rw [List.mem_filter, List.mem_range] at hm
    exact ⟨by omega, by omega, of_decide_eq_true hm.2⟩
  · rintro ⟨h0, h1, h2⟩
    refine ⟨y.toNat, ?_, Int.toNat_of_nonneg h0⟩
    rw [List.mem_filter, List.mem_range]
    refine ⟨by omega, decide_eq_true ?_⟩
    rw [Int.toNat_of_nonneg h0]
    exact h2
theorem leap_rule {a b d y : Int} (hb : a ∣ b) (hd : b ∣ d) (hp : 0 < d) (h0 : 0 ≤ y) :
    decide (y % d ∈ ruleLeaps [a, b, d] d.toNat) = if y % a = 0 then (if y % b = 0 then decide (y % d = 0) else true) else false := by
  have ha : a ∣ d := Int.dvd_trans hb hd
  have e1 : y % d % a = y % a := Int.emod_emod_of_dvd y ha
  have e2 : y % d % b = y % b := Int.emod_emod_of_dvd y hd
  have e3 : y % d % d = y % d := Int.emod_emod_of_dvd y (Int.dvd_refl d)
  have i0 := Int.emod_nonneg y (show d ≠ 0 by omega)
  have i1 := Int.emod_lt_of_pos y hp
  have key : y % d ∈ ruleLeaps [a, b, d] d.toNat ↔ cntDiv (y % d) [a, b, d] % 2 = 1 := by
    rw [mem_leaps, Int.toNat_of_nonneg (by omega)]
    exact ⟨fun h => h.2.2, fun h => ⟨i0, i1, h⟩⟩
  have c : cntDiv (y % d) [a, b, d] = (if y % a = 0 then 1 else 0) + ((if y % b = 0 then 1 else 0) + ((if y % d = 0 then 1 else 0) + 0)) := by
    simp only [cntDiv, e1, e2, e3]
  simp only [decide_eq_decide.2 key, c]
  have ba : y % b = 0 → y % a = 0 := fun h => Int.emod_eq_zero_of_dvd (Int.dvd_trans hb (Int.dvd_of_emod_eq_zero h))
  have db : y % d = 0 → y % b = 0 := fun h => Int.emod_eq_zero_of_dvd (Int.dvd_trans hd (Int.dvd_of_emod_eq_zero h))
  by_cases q1 : y % a = 0
  · by_cases q2 : y % b = 0
    · by_cases q3 : y % d = 0
      · simp [q1, q2, q3]
      · simp [q1, q2, q3]
    · have q3 : ¬ y % d = 0 := fun h => q2 (db h)
      simp [q1, q2, q3]
  · have q2 : ¬ y % b = 0 := fun h => q1 (ba h)
    have q3 : ¬ y % d = 0 := fun h => q2 (db h)
    simp [q1, q2, q3]

theorem rules_tail (more : List Int) (hm : ∀ x ∈ more, (Lit.int .u8 x).wf = true) {a b d : Int} {l : List Int} (A : 1 ≤ a ∧ a ≤ 8) (B : 1 ≤ b ∧ b ≤ 48) (D : 1 ≤ d ∧ d ≤ 240) (hlen : l.length ≤ 240) (T2 : validCal d 365 l = true) (T4 : cntLt 0 l = 0)
    (hleap : ∀ y : Int, 0 ≤ y → decide (y % d ∈ l) = if y % a = 0 then (if y % b = 0 then decide (y % d = 0) else true) else false) :
    Ev (fun k => laws_FnRules.j0 k more a b d false d 365 l) true := by
  refine Ev.step (fun k => by rw [laws_FnRules.j0]) ?_
  simp only [Bool.false_eq_true, if_false]
  obtain ⟨y, hy, y0, y1⟩ := b10At_tells more 1 250 hm (by omega) (by omega)
  have hmean := (mean_both d 365 l (by omega)).2
  unfold meanOf at hmean
  rw [if_pos T2] at hmean
  have hlp := (isLeap_both d 365 l y (by omega)).2
  rw [T2, decide_eq_true (show 0 ≤ y ∧ y ≤ 100000 by omega), Bool.true_and, Bool.true_and, hleap y y0] at hlp
  have hdb : db d 365 l d = 365 * d + l.length := by
    unfold db
    rw [Int.ediv_self (by omega), Int.emod_self, T4]
    omega
  have hsum : ∀ (g : Int), 0 ≤ g → g ∣ db d 365 l d → g ∣ d → (wrap64 (db d 365 l d / g * d) == wrap64 (d / g * (wrap64 (wrap64 (365 * d) + (l.length : Int))))) = true := by
    intro g g0 ⟨u, hu⟩ ⟨v, hv⟩
    have gp : 0 < g := by
      rcases Int.lt_or_eq_of_le g0 with h | h
      · exact h
      · subst h; omega
    have e1 : db d 365 l d / g = u := by rw [hu]; exact Int.mul_ediv_cancel_left _ (by omega)
    have e2 : d / g = v := by
      conv => lhs; rw [hv]
      exact Int.mul_ediv_cancel_left _ (by omega)
    rw [e1, e2, w64 (x := 365 * d) (by omega) (by omega), w64 (x := 365 * d + (l.length : Int)) (by omega) (by omega), ← hdb]
    have : u * d = v * db d 365 l d := by
      rw [hu]
      conv => lhs; rw [hv]
      rw [Int.mul_left_comm u g v, Int.mul_left_comm v g u, Int.mul_comm u v]
    rw [this]
    exact beq_self_eq_true _
  have hfin := hsum (Int.gcd (db d 365 l d) d : Int) (by omega) (Int.gcd_dvd_left ..) (Int.gcd_dvd_right ..)
  simp only [hy, Option.bind_some, if_neg (show ¬ a = 0 by omega), if_neg (show ¬ b = 0 by omega), if_neg (show ¬ d = 0 by omega), tmod_nn y0]
  by_cases c1 : y % a = 0
  · simp only [if_pos c1] at hlp ⊢
    by_cases c2 : y % b = 0
    · simp only [if_pos c2] at hlp ⊢
      refine Ev.bind hmean ?_
      simp only [if_true]
      refine Ev.bind hlp ?_
      rw [show (decide (y % d = 0) == (y % d == 0)) = true from by by_cases q : y % d = 0 <;> simp [q]]
      simp only [if_true, hfin]
      exact Ev.now _
    · simp only [if_neg c2] at hlp ⊢
      refine Ev.bind hmean ?_
      simp only [if_true]
      refine Ev.bind hlp ?_
      simp only [beq_self_eq_true, if_true, hfin]
      exact Ev.now _
  · simp only [if_neg c1] at hlp ⊢
    refine Ev.bind hmean ?_
    simp only [if_true]
    refine Ev.bind hlp ?_
    simp only [beq_self_eq_true, if_true, hfin]
    exact Ev.now _
theorem small (ta tb td : Nat) (a1 : ta < 8) (b1 : tb < 5) (d1 : td < 4) : (1 ≤ rA ta ∧ rA ta ≤ 8) ∧ (1 ≤ rB ta tb ∧ rB ta tb ≤ 48) ∧ (1 ≤ rD ta tb td ∧ rD ta tb td ≤ 240) := by
  have A : 1 ≤ rA ta ∧ rA ta ≤ 8 := by unfold rA; omega
  have B : 1 ≤ rB ta tb ∧ rB ta tb ≤ 48 := by
    have := mul_bd (show 0 ≤ rA ta by omega) A.2 (show (0 : Int) ≤ 2 + tb by omega) (show (2 + tb : Int) ≤ 6 by omega)
    have p : 0 < rA ta * (2 + tb) := Int.mul_pos (by omega) (by omega)
    unfold rB; omega
  have D : 1 ≤ rD ta tb td ∧ rD ta tb td ≤ 240 := by
    have := mul_bd (show 0 ≤ rB ta tb by omega) B.2 (show (0 : Int) ≤ 2 + td by omega) (show (2 + td : Int) ≤ 5 by omega)
    have p : 0 < rB ta tb * (2 + td) := Int.mul_pos (by omega) (by omega)
    unfold rD; omega
  exact ⟨A, B, D⟩
theorem words (ta tb td : Nat) (a1 : ta < 8) (b1 : tb < 5) (d1 : td < 4) : wrap64 (1 + (ta : Int)) = rA ta ∧ wrap64 (rA ta * wrap64 (2 + (tb : Int))) = rB ta tb ∧ wrap64 (rB ta tb * wrap64 (2 + (td : Int))) = rD ta tb td := by
  obtain ⟨A, B, D⟩ := small ta tb td a1 b1 d1
  refine ⟨w64 (by omega) (by omega), ?_, ?_⟩
  · rw [w64 (x := 2 + (tb : Int)) (by omega) (by omega)]
    exact w64 (x := rB ta tb) (by omega) (by omega)
  · rw [w64 (x := 2 + (td : Int)) (by omega) (by omega)]
    exact w64 (x := rD ta tb td) (by omega) (by omega)
theorem rules_of {a b d : Int} (T1 : rulesOk [a, b, d] = true) : ruleOf [a, b, d] 365 = (d, 365, ruleLeaps [a, b, d] d.toNat, true) := by
  have e : lastOf [a, b, d] = d := rfl
  unfold ruleOf
  rw [if_pos ⟨T1, by decide, by decide⟩, e]
theorem rules_head (more : List Int) (hm : ∀ x ∈ more, (Lit.int .u8 x).wf = true) {a b d : Int} (l : List Int) (A : 1 ≤ a ∧ a ≤ 8) (B : 1 ≤ b ∧ b ≤ 48) (D : 1 ≤ d ∧ d ≤ 240) (hlen : l.length ≤ 240) (T2 : validCal d 365 l = true) (T3 : (l.length : Int) = d / a - d / b + 1) (T4 : cntLt 0 l = 0)
    (hi : Ev (fun k => impl_RuleCalendar.f k [a, b, d] 365) (d, 365, l, true))
    (hleap : ∀ y : Int, 0 ≤ y → decide (y % d ∈ l) = if y % a = 0 then (if y % b = 0 then decide (y % d = 0) else true) else false) :
    Ev (fun k => (impl_RuleCalendar.f k [a, b, d] 365).bind fun bt272 => (if bt272.2.2.2 = true then (if bt272.1 = d then ((impl_ValidCalendar.f k bt272.1 bt272.2.1 bt272.2.2.1).bind fun t279 => (if t279 = true then (if a = 0 then (none) else (if b = 0 then (none) else (laws_FnRules.j0 k more a b d ((bt272.2.2.1.length : Int) != (wrap64 ((wrap64 ((wrap64 (Int.tdiv d a)) - (wrap64 (Int.tdiv d b)))) + 1))) bt272.1 bt272.2.1 bt272.2.2.1))) else (laws_FnRules.j0 k more a b d true bt272.1 bt272.2.1 bt272.2.2.1))) else (laws_FnRules.j0 k more a b d true bt272.1 bt272.2.1 bt272.2.2.1)) else (laws_FnRules.j0 k more a b d true bt272.1 bt272.2.1 bt272.2.2.1))) true := by
  refine Ev.bind hi ?_
  simp only [if_true]
  refine Ev.bind (implValid_ev d 365 l (by omega)) ?_
  have q1 : 0 ≤ d / a := Int.ediv_nonneg (by omega) (by omega)
  have q2 : d / a ≤ d := Int.ediv_le_self _ (by omega)
  have q3 : 0 ≤ d / b := Int.ediv_nonneg (by omega) (by omega)
  have q4 : d / b ≤ d := Int.ediv_le_self _ (by omega)
  simp only [T2, if_true, if_neg (show ¬ a = 0 by omega), if_neg (show ¬ b = 0 by omega), tdiv_nn (show 0 ≤ d by omega)]
  rw [w64 (x := d / a) (by omega) (by omega), w64 (x := d / b) (by omega) (by omega), w64 (x := d / a - d / b) (by omega) (by omega), w64 (x := d / a - d / b + 1) (by omega) (by omega), ← T3]
  simp only [bne_self_eq_false]
  exact rules_tail more hm A B D hlen T2 T4 hleap
theorem rules_mid (more : List Int) (hm : ∀ x ∈ more, (Lit.int .u8 x).wf = true) (ta tb td : Nat) (a1 : ta < 8) (b1 : tb < 5) (d1 : td < 4) :
    Ev (fun k => (impl_RuleCalendar.f k [rA ta, rB ta tb, rD ta tb td] 365).bind fun bt272 => (if bt272.2.2.2 = true then (if bt272.1 = rD ta tb td then ((impl_ValidCalendar.f k bt272.1 bt272.2.1 bt272.2.2.1).bind fun t279 => (if t279 = true then (if rA ta = 0 then (none) else (if rB ta tb = 0 then (none) else (laws_FnRules.j0 k more (rA ta) (rB ta tb) (rD ta tb td) ((bt272.2.2.1.length : Int) != (wrap64 ((wrap64 ((wrap64 (Int.tdiv (rD ta tb td) (rA ta))) - (wrap64 (Int.tdiv (rD ta tb td) (rB ta tb))))) + 1))) bt272.1 bt272.2.1 bt272.2.2.1))) else (laws_FnRules.j0 k more (rA ta) (rB ta tb) (rD ta tb td) true bt272.1 bt272.2.1 bt272.2.2.1))) else (laws_FnRules.j0 k more (rA ta) (rB ta tb) (rD ta tb td) true bt272.1 bt272.2.1 bt272.2.2.1)) else (laws_FnRules.j0 k more (rA ta) (rB ta tb) (rD ta tb td) true bt272.1 bt272.2.1 bt272.2.2.1))) true := by
  obtain ⟨A, B, D⟩ := small ta tb td a1 b1 d1
  obtain ⟨T1, T2, T3, T4⟩ := table ⟨ta, a1⟩ ⟨tb, b1⟩ ⟨td, d1⟩
  have hi := implRule_ev [rA ta, rB ta tb, rD ta tb td] 365 (by simp)
  rw [rules_of T1] at hi
  exact rules_head more hm (ruleLeaps [rA ta, rB ta tb, rD ta tb td] (rD ta tb td).toNat) A B D (Nat.le_trans (ruleLeaps_len _ _) (by clear T1 T2 T3 T4 hi; omega)) T2 T3 T4 hi (fun y h => leap_rule (a := rA ta) (b := rB ta tb) (d := rD ta tb td) (y := y) ⟨_, rfl⟩ ⟨_, rfl⟩ (by clear T1 T2 T3 T4 hi; omega) h)
theorem FnRules : laws_FnRules.Pure := by
  intro code more _ _ hc _ _ hm
  apply ev_of
  unfold laws_FnRules.f
  by_cases hlong : (code.length : Int) > 1048576 ∨ (more.length : Int) > 1048576
  · have e : laws_b10Long.f code more = some true := by
      unfold laws_b10Long.f
      by_cases h : (code.length : Int) > 1048576
      · rw [if_pos h]
      · rw [if_neg h, decide_eq_true (by omega)]
    rw [e]
    simp
    exact Ev.now _
  have e : laws_b10Long.f code more = some false := by
    unfold laws_b10Long.f
    rw [if_neg (by omega), decide_eq_false (by omega)]
  refine ev_bind' e ?_
  obtain ⟨ta, ha, a0, a1⟩ := b10At_tells code 0 8 hc (by omega) (by omega)
  obtain ⟨tb, hb, b0, b1⟩ := b10At_tells code 1 5 hc (by omega) (by omega)
  obtain ⟨td, hd, d0, d1⟩ := b10At_tells more 0 4 hm (by omega) (by omega)
  obtain ⟨ta, rfl⟩ := Int.eq_ofNat_of_zero_le a0
  obtain ⟨tb, rfl⟩ := Int.eq_ofNat_of_zero_le b0
  obtain ⟨td, rfl⟩ := Int.eq_ofNat_of_zero_le d0
  obtain ⟨w1, w2, w3⟩ := words ta tb td (by omega) (by omega) (by omega)
  have key := rules_mid more hm ta tb td (by omega) (by omega) (by omega)
  rw [← w3, ← w2, ← w1] at key
  exact ev_bind' ha (ev_bind' hb (ev_bind' hd key))
end Go.Proofs.Ytjeidmbggdgggaa.Pure
