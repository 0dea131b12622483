import Derived.Test.YtoebllbpoinifaaWNEv
import Derived.Test.YtoebllbpoinifaaWMore
import Derived.Test.YtoebllbpoinifaaQ1
import Derived.Test.YtoebllbpoinifaaQ2
import Derived.Test.YtoebllbpoinifaaQ3
import Derived.Test.YtoebllbpoinifaaQ4
import Derived.Test.YtoebllbpoinifaaQ5
import Derived.Test.YtoebllbpoinifaaQ6
import Derived.Test.YtoebllbpoinifaaQ7
import Derived.Test.YtoebllbpoinifaaQ8
import Derived.Test.YtoebllbpoinifaaQ9
import Derived.Test.YtoebllbpoinifaaQ10
import Derived.Test.YtoebllbpoinifaaQ11
import Derived.Test.YtoebllbpoinifaaQ12
import Derived.Test.YtoebllbpoinifaaQ13
import Derived.Test.YtoebllbpoinifaaQ14
import Derived.Test.YtoebllbpoinifaaQ15
import Derived.Test.YtoebllbpoinifaaQ16
import Derived.Test.YtoebllbpoinifaaQ17
import Derived.Test.YtoebllbpoinifaaQ18
import Derived.Test.YtoebllbpoinifaaQ19
/- Small facts of whole numbers, of wrapping, and of rounds that suffice, for the pure statements. -/
namespace Go.Proofs.Ytoebllbpoinifaa.Com
open Go.RowKit Go.Proofs.YtoebllbpoinifaaW.PrintWords

theorem w64 {x : Int} (h1 : -9223372036854775808 ≤ x) (h2 : x ≤ 9223372036854775807) : wrap64 x = x := by
  unfold wrap64
  omega
theorem mul_bd {a b A B : Int} (h0 : 0 ≤ a) (h1 : a ≤ A) (h2 : 0 ≤ b) (h3 : b ≤ B) : 0 ≤ a * b ∧ a * b ≤ A * B :=
  ⟨Int.mul_nonneg h0 h2, Int.mul_le_mul h1 h3 h2 (Int.le_trans h0 h1)⟩
theorem ev_of {α : Type} {g : Nat → Option α} {r : α} (h : Ev g r) : ∃ k, g k = some r := h.rounds
theorem ev_bind' {α β : Type} {o : Option α} {f : Nat → α → Option β} {a : α} {r : β} (h : o = some a) (k : Ev (fun n => f n a) r) : Ev (fun n => o.bind (f n)) r := by
  subst h
  exact k
theorem tdiv_nn {a b : Int} (h : 0 ≤ a) : Int.tdiv a b = a / b := Int.tdiv_eq_ediv_of_nonneg h
theorem tmod_nn {a b : Int} (h : 0 ≤ a) : Int.tmod a b = a % b := Int.tmod_eq_emod_of_nonneg h
end Go.Proofs.Ytoebllbpoinifaa.Com

/- Loops over lists, by their rounds: general lemmas. -/
namespace Go.Proofs.Ytoebllbpoinifaa.Com
set_option linter.unusedSimpArgs false
set_option linter.unusedVariables false
open Go.RowKit Go.Proofs.YtoebllbpoinifaaW.PrintWords

theorem ev_fold {α σ ρ : Type} (xs : List α) (g : Nat → σ → Nat → Option ρ) (F : List α → σ → ρ) (Inv : Nat → σ → Prop)
    (h0 : ∀ s, Inv xs.length s → Ev (g xs.length s) (F [] s))
    (hs : ∀ m (h : m < xs.length) s, Inv m s → (∀ s', Inv (m + 1) s' → Ev (g (m + 1) s') (F (xs.drop (m + 1)) s')) → Ev (g m s) (F (xs[m] :: xs.drop (m + 1)) s)) :
    ∀ m s, m ≤ xs.length → Inv m s → Ev (g m s) (F (xs.drop m) s) := by
  have key : ∀ d m s, m + d = xs.length → Inv m s → Ev (g m s) (F (xs.drop m) s) := by
    intro d
    induction d with
    | zero =>
      intro m s e hi
      obtain rfl : m = xs.length := by omega
      rw [List.drop_length]
      exact h0 s hi
    | succ d ih =>
      intro m s e hi
      have h : m < xs.length := by omega
      rw [List.drop_eq_getElem_cons h]
      exact hs m h s hi (fun s' hi' => ih (m + 1) s' (by omega) hi')
  intro m s hm hi
  exact key (xs.length - m) m s (by omega) hi
theorem ev_list {α ρ : Type} (xs : List α) (g : Nat → Nat → Option ρ) (F : List α → ρ) (h0 : Ev (g xs.length) (F []))
    (hs : ∀ m (h : m < xs.length), Ev (g (m + 1)) (F (xs.drop (m + 1))) → Ev (g m) (F (xs[m] :: xs.drop (m + 1)))) (m : Nat) (hm : m ≤ xs.length) : Ev (g m) (F (xs.drop m)) :=
  ev_fold xs (fun m (_ : Unit) => g m) (fun l _ => F l) (fun _ _ => True) (fun _ _ => h0) (fun m h _ _ ih => hs m h (ih () trivial)) m () hm trivial
/-- A loop that counts from m up to n. -/
theorem ev_count {σ ρ : Type} (n : Nat) (g : Nat → σ → Nat → Option ρ) (r : ρ) (Inv : Nat → σ → Prop) (h0 : ∀ s, Inv n s → Ev (g n s) r)
    (hs : ∀ m s, m < n → Inv m s → ∃ s', Inv (m + 1) s' ∧ (Ev (g (m + 1) s') r → Ev (g m s) r)) : ∀ m s, m ≤ n → Inv m s → Ev (g m s) r := by
  have key : ∀ d m s, m + d = n → Inv m s → Ev (g m s) r := by
    intro d
    induction d with
    | zero =>
      intro m s e hi
      obtain rfl : m = n := by omega
      exact h0 s hi
    | succ d ih =>
      intro m s e hi
      obtain ⟨s', hi', k⟩ := hs m s (by omega) hi
      exact k (ih (m + 1) s' (by omega) hi')
  intro m s hm hi
  exact key (n - m) m s (by omega) hi
theorem rd_nat {xs : List Int} {m : Nat} (h : m < xs.length) : rd xs (m : Int) = xs[m] := by
  unfold rd
  rw [Int.toNat_natCast, List.getD_eq_getElem?_getD, List.getElem?_eq_getElem h]
  rfl
theorem w_succ {m : Nat} (h : m < 9223372036854775807) : wrap64 ((m : Int) + 1) = ((m + 1 : Nat) : Int) := by
  rw [w64 (by omega) (by omega)]
  omega
theorem w_pred {m : Nat} (h : 0 < m) (h' : m < 9223372036854775807) : wrap64 ((m : Int) - 1) = ((m - 1 : Nat) : Int) := by
  rw [w64 (by omega) (by omega)]
  omega
end Go.Proofs.Ytoebllbpoinifaa.Com

/- The program's and the reference's tests of bounds. -/
namespace Go.Proofs.Ytoebllbpoinifaa.Com
set_option linter.unusedSimpArgs false
set_option linter.unusedVariables false
open Go.RowKit Go.Proofs.YtoebllbpoinifaaW.PrintWords Go.Proofs.Ytoebllbpoinifaa.Q

theorem within_tells (x a b : Int) : impl_within.f x a b = some (decide (a ≤ x ∧ x ≤ b)) := by
  unfold impl_within.f
  split <;> simp [*]
end Go.Proofs.Ytoebllbpoinifaa.Com

/- A set of numbers below a bound: the program's test and the reference's. -/
namespace Go.Proofs.Ytoebllbpoinifaa.Com
set_option linter.unusedSimpArgs false
set_option linter.unusedVariables false
open Go.RowKit Go.Proofs.YtoebllbpoinifaaW.PrintWords Go.Proofs.Ytoebllbpoinifaa.Q

/-- Rising numbers from lo to hi, all above p. -/
def risesFrom (lo hi : Int) : Option Int → List Int → Bool
  | _, [] => true
  | p, x :: r => decide (lo ≤ x ∧ x ≤ hi) && (match p with | none => true | some y => decide (y < x)) && risesFrom lo hi (some x) r
def rises (lo hi : Int) (l : List Int) : Bool := risesFrom lo hi none l

theorem isSet_ev (xs : List Int) (b : Int) (hx : xs.length ≤ 1048576) (hb : -9223372036854775807 ≤ b ∧ b ≤ 9223372036854775807) : Ev (fun k => impl_isSet.f k xs b) (rises 0 (b - 1) xs) := by
  unfold impl_isSet.f
  have gen := ev_fold xs (fun m (p : Option Int) k => impl_isSet.l0 k xs b xs (xs.length : Int) (m : Int)) (fun l p => risesFrom 0 (b - 1) p l) (fun m p => p = if h : 0 < m ∧ m - 1 < xs.length then some (xs[m - 1]'h.2) else none) ?_ ?_ 0 none (by omega) (by simp)
  · simpa [rises] using gen
  · intro s hs
    refine Ev.step (fun k => by rw [impl_isSet.l0]) ?_
    simp only [if_neg (show ¬ (xs.length : Int) < (xs.length : Int) by omega)]
    exact Ev.now _
  · intro m hm s hs ih
    have ih' := ih (some xs[m]) (by simp [hm])
    refine Ev.step (fun k => by rw [impl_isSet.l0]) ?_
    simp only [if_pos (show (m : Int) < (xs.length : Int) by omega), if_pos (show 0 ≤ (m : Int) by omega), rd_nat hm, within_tells, Option.bind_some, w_succ (m := m) (by omega), decide_eq_true_eq, w64 (x := b - 1) (by omega) (by omega)]
    by_cases c : 0 ≤ xs[m] ∧ xs[m] ≤ b - 1
    · simp only [if_pos c]
      unfold risesFrom
      rw [decide_eq_true c, Bool.true_and]
      by_cases hp : (m : Int) > 0
      · have hp' : 0 < m ∧ m - 1 < xs.length := by omega
        rw [dif_pos hp'] at hs
        subst hs
        simp only [if_pos hp, w_pred (m := m) (by omega) (by omega), if_pos (show (0 : Int) ≤ ((m - 1 : Nat) : Int) by omega), if_pos (show ((m - 1 : Nat) : Int) < (xs.length : Int) by omega), rd_nat hp'.2]
        by_cases q : xs[m] ≤ xs[m - 1]
        · simp only [if_pos q]
          rw [decide_eq_false (by omega), Bool.false_and]
          exact Ev.now _
        · simp only [if_neg q]
          rw [decide_eq_true (by omega), Bool.true_and]
          exact ih'
      · rw [dif_neg (by omega)] at hs
        subst hs
        simp only [if_neg hp, Bool.true_and]
        exact ih'
    · simp only [if_neg c]
      unfold risesFrom
      rw [decide_eq_false c]
      simp
      exact Ev.now _
end Go.Proofs.Ytoebllbpoinifaa.Com

/- What the laws' own helpers tell: a copy is the list itself, equality is equality, sizes are told. -/
namespace Go.Proofs.Ytoebllbpoinifaa.Com
set_option linter.unusedSimpArgs false
set_option linter.unusedVariables false
open Go.RowKit Go.Proofs.YtoebllbpoinifaaW.PrintWords Go.Proofs.Ytoebllbpoinifaa.Q

end Go.Proofs.Ytoebllbpoinifaa.Com

/- Calendars: the two tests of validity, copies and sizes. -/
namespace Go.Proofs.Ytoebllbpoinifaa.Com
set_option linter.unusedSimpArgs false
set_option linter.unusedVariables false
set_option linter.unusedSectionVars false
open Go.RowKit Go.Proofs.YtoebllbpoinifaaW.PrintWords Go.Proofs.YtoebllbpoinifaaW.PrintMore Go.Proofs.Ytoebllbpoinifaa.Q

def validCal (c cm : Int) (l : List Int) : Bool := decide (1 ≤ c ∧ c ≤ 400) && decide (1 ≤ cm ∧ cm ≤ 1000) && rises 0 (c - 1) l
theorem implValid_ev (c cm : Int) (l : List Int) (hx : l.length ≤ 1048576) : Ev (fun k => impl_ValidCalendar.f k c cm l) (validCal c cm l) := by
  unfold impl_ValidCalendar.f validCal
  simp only [within_tells, Option.bind_some, decide_eq_true_eq]
  by_cases h1 : 1 ≤ c ∧ c ≤ 400
  · simp only [if_pos h1, decide_eq_true h1, Bool.true_and]
    by_cases h2 : 1 ≤ cm ∧ cm ≤ 1000
    · simp only [if_pos h2, decide_eq_true h2, Bool.true_and]
      exact Ev.bind (isSet_ev l c hx (by omega)) (Ev.now _)
    · simp only [if_neg h2, decide_eq_false h2, Bool.false_and]
      exact Ev.now _
  · simp only [if_neg h1, decide_eq_false h1, Bool.false_and]
    exact Ev.now _
theorem valid_bd {c cm : Int} {l : List Int} (h : validCal c cm l = true) : 1 ≤ c ∧ c ≤ 400 ∧ 1 ≤ cm ∧ cm ≤ 1000 := by
  unfold validCal at h
  simp only [Bool.and_eq_true, decide_eq_true_eq] at h
  omega
end Go.Proofs.Ytoebllbpoinifaa.Com

/- The days before a year, on both sides. -/
namespace Go.Proofs.Ytoebllbpoinifaa.Com
set_option linter.unusedSimpArgs false
set_option linter.unusedVariables false
set_option linter.unusedSectionVars false
open Go.RowKit Go.Proofs.YtoebllbpoinifaaW.PrintWords Go.Proofs.YtoebllbpoinifaaW.PrintMore Go.Proofs.Ytoebllbpoinifaa.Q

/-! ### Days -/
def cntLt (b : Int) : List Int → Int
  | [] => 0
  | x :: r => (if x < b then 1 else 0) + cntLt b r
theorem cntLt_bd (b : Int) (l : List Int) : 0 ≤ cntLt b l ∧ cntLt b l ≤ l.length := by
  induction l with
  | nil => simp [cntLt]
  | cons x r ih => unfold cntLt; rw [List.length_cons]; split <;> omega
theorem cntLt_mono {b b' : Int} (h : b ≤ b') (l : List Int) : cntLt b l ≤ cntLt b' l := by
  induction l with
  | nil => simp [cntLt]
  | cons x r ih => unfold cntLt; split <;> split <;> omega
def db (c cm : Int) (l : List Int) (y : Int) : Int := y * cm + y / c * (l.length : Int) + cntLt (y % c) l
section
variable {c cm : Int} {l : List Int} (hc : 1 ≤ c ∧ c ≤ 400) (hm : 1 ≤ cm ∧ cm ≤ 1000) (hx : l.length ≤ 1048576)
include hc hm hx
theorem db_parts (y : Int) (hy : 0 ≤ y ∧ y ≤ 100000) : 0 ≤ y * cm ∧ y * cm ≤ 100000000 ∧ 0 ≤ y / c ∧ y / c ≤ 100000 ∧ 0 ≤ y / c * (l.length : Int) ∧ y / c * (l.length : Int) ≤ 104857600000 ∧ 0 ≤ y % c ∧ y % c < c := by
  have a := mul_bd hy.1 hy.2 (show 0 ≤ cm by omega) hm.2
  have b1 : 0 ≤ y / c := Int.ediv_nonneg hy.1 (by omega)
  have b2 : y / c ≤ y := Int.ediv_le_self _ hy.1
  have b := mul_bd b1 (show y / c ≤ 100000 by omega) (show (0 : Int) ≤ (l.length : Int) by omega) (show (l.length : Int) ≤ 1048576 by omega)
  have d := Int.emod_nonneg y (show c ≠ 0 by omega)
  have e := Int.emod_lt_of_pos y (show 0 < c by omega)
  omega
theorem db_bd (y : Int) (hy : 0 ≤ y ∧ y ≤ 100000) : 0 ≤ db c cm l y ∧ db c cm l y ≤ 200000000000 := by
  have := db_parts hc hm hx y hy
  have := cntLt_bd (y % c) l
  unfold db
  omega
theorem daysBefore_ev (y : Int) (hy : 0 ≤ y ∧ y ≤ 100000) : Ev (fun k => impl_Calendar_daysBefore.f k c cm l y) (db c cm l y) := by
  have p := db_parts hc hm hx y hy
  unfold impl_Calendar_daysBefore.f impl_size_int64_106.f
  simp only [if_neg (show ¬ c = 0 by omega), tdiv_nn hy.1, Option.bind_some]
  rw [w64 (x := y / c) (by omega) (by omega), w64 (x := y / c * (l.length : Int)) (by omega) (by omega)]
  have gen := ev_fold l (fun m s k => impl_Calendar_daysBefore.l0 k y s l (l.length : Int) (m : Int) c cm l) (fun r s => y * cm + (s + cntLt (y % c) r)) (fun m s => 0 ≤ s ∧ s ≤ 200000000000 - (l.length - m)) ?_ ?_ 0 (y / c * (l.length : Int)) (by omega) (by omega)
  · simpa [db, Int.add_assoc] using gen
  · intro s hs
    refine Ev.step (fun k => by rw [impl_Calendar_daysBefore.l0]) ?_
    simp only [if_neg (show ¬ (l.length : Int) < (l.length : Int) by omega), cntLt, Int.add_zero]
    rw [w64 (x := y * cm) (by omega) (by omega), w64 (by omega) (by omega)]
    exact Ev.now _
  · intro m h s hs ih
    refine Ev.step (fun k => by rw [impl_Calendar_daysBefore.l0]) ?_
    simp only [if_pos (show (m : Int) < (l.length : Int) by omega), if_pos (show 0 ≤ (m : Int) by omega), rd_nat h, w_succ (m := m) (by omega), if_neg (show ¬ c = 0 by omega), tmod_nn hy.1]
    unfold cntLt impl_bit.f
    by_cases q : l[m] < y % c
    · simp only [if_pos q, decide_eq_true q, if_true, Option.bind_some]
      rw [w64 (x := s + 1) (by omega) (by omega)]
      have := ih (s + 1) (by omega)
      rwa [Int.add_assoc] at this
    · simp only [if_neg q, decide_eq_false q, Bool.false_eq_true, if_false, Option.bind_some, Int.zero_add, Int.add_zero]
      rw [w64 (x := s) (by omega) (by omega)]
      exact ih s (by omega)
theorem db_step (y : Int) (hy : 0 ≤ y) : db c cm l y + cm ≤ db c cm l (y + 1) := by
  unfold db
  have e1 : (y + 1) * cm = y * cm + cm := by rw [Int.add_mul, Int.one_mul]
  have a := cntLt_bd (y % c) l
  have a' := cntLt_bd ((y + 1) % c) l
  have b1 := Int.emod_nonneg y (show c ≠ 0 by omega)
  have b2 := Int.emod_lt_of_pos y (show 0 < c by omega)
  have b3 := Int.emod_add_mul_ediv y c
  by_cases h : y % c = c - 1
  · have q : (y + 1) / c = y / c + 1 := by
      have : y + 1 = c * (y / c + 1) := by rw [Int.mul_add, Int.mul_one]; omega
      rw [this, Int.mul_ediv_cancel_left _ (show c ≠ 0 by omega)]
    rw [q, e1, Int.add_mul, Int.one_mul]
    omega
  · have q : (y + 1) % c = y % c + 1 := by
      have : y + 1 = (y % c + 1) + c * (y / c) := by omega
      rw [this, Int.add_mul_emod_self_left, Int.emod_eq_of_lt (by omega) (by omega)]
    have q2 : (y + 1) / c = y / c := by
      have : y + 1 = (y % c + 1) + c * (y / c) := by omega
      rw [this, Int.add_mul_ediv_left _ _ (show c ≠ 0 by omega), Int.ediv_eq_zero_of_lt (by omega) (by omega), Int.zero_add]
    have := cntLt_mono (show y % c ≤ (y + 1) % c by omega) l
    rw [q2, e1]
    omega
theorem db_mono (d : Nat) : ∀ (y : Int), 0 ≤ y → db c cm l y + (d : Int) ≤ db c cm l (y + d) := by
  induction d with
  | zero => intro y hy; simp
  | succ d ih =>
    intro y hy
    have h1 := ih y hy
    have h2 := db_step hc hm hx (y + d) (by omega)
    rw [show y + ((d + 1 : Nat) : Int) = y + (d : Int) + 1 by omega]
    omega
theorem db_lt {y z : Int} (hy : 0 ≤ y) (h : y < z) : db c cm l y < db c cm l z := by
  have := db_mono hc hm hx (z - y).toNat y hy
  rw [show y + (((z - y).toNat : Nat) : Int) = z by omega] at this
  omega
end
end Go.Proofs.Ytoebllbpoinifaa.Com

/- The year of a day, on both sides. -/
namespace Go.Proofs.Ytoebllbpoinifaa.Com
set_option linter.unusedSimpArgs false
set_option linter.unusedVariables false
set_option linter.unusedSectionVars false
open Go.RowKit Go.Proofs.YtoebllbpoinifaaW.PrintWords Go.Proofs.YtoebllbpoinifaaW.PrintMore Go.Proofs.Ytoebllbpoinifaa.Q

/-! ### The year of a day -/
section
variable {c cm : Int} {l : List Int} (hc : 1 ≤ c ∧ c ≤ 400) (hm : 1 ≤ cm ∧ cm ≤ 1000) (hx : l.length ≤ 1048576) (day : Int)
include hc hm hx
def IsYear (c cm : Int) (l : List Int) (day y : Int) : Prop := 0 ≤ y ∧ y < 100000 ∧ db c cm l y ≤ day ∧ day < db c cm l (y + 1)
theorem IsYear.uniq {y z : Int} (h : IsYear c cm l day y) (g : IsYear c cm l day z) : y = z := by
  obtain ⟨h1, h2, h3, h4⟩ := h
  obtain ⟨g1, g2, g3, g4⟩ := g
  rcases Int.lt_trichotomy y z with q | q | q
  · by_cases e : y + 1 = z
    · subst e; omega
    · have := db_lt hc hm hx (y := y + 1) (z := z) (by omega) (by omega); omega
  · exact q
  · by_cases e : z + 1 = y
    · subst e; omega
    · have := db_lt hc hm hx (y := z + 1) (z := y) (by omega) (by omega); omega
theorem implYear_ev (d : Nat) : ∀ lo hi : Int, 0 ≤ lo → lo < hi → hi ≤ 100000 → hi - lo ≤ d → db c cm l lo ≤ day → day < db c cm l hi → ∃ y, IsYear c cm l day y ∧ Ev (fun k => impl_YearOf.l0 k day lo hi c cm l) (y, day - db c cm l y, true) := by
  induction d with
  | zero => intro lo hi h1 h2 h3 h4 h5 h6; omega
  | succ d ih =>
    intro lo hi h1 h2 h3 h4 h5 h6
    have b1 := db_bd hc hm hx lo (by omega)
    have b2 := db_bd hc hm hx hi (by omega)
    by_cases g : hi - lo > 1
    · have m1 : lo < (lo + hi) / 2 := by omega
      have m2 : (lo + hi) / 2 < hi := by omega
      by_cases t : db c cm l ((lo + hi) / 2) ≤ day
      · obtain ⟨y, hy, he⟩ := ih ((lo + hi) / 2) hi (by omega) m2 h3 (by omega) t h6
        refine ⟨y, hy, Ev.step (fun k => by rw [impl_YearOf.l0]) ?_⟩
        rw [w64 (x := hi - lo) (by omega) (by omega), w64 (x := lo + hi) (by omega) (by omega), tdiv_nn (show 0 ≤ lo + hi by omega), w64 (x := (lo + hi) / 2) (by omega) (by omega)]
        simp only [if_pos g]
        refine Ev.bind (daysBefore_ev hc hm hx ((lo + hi) / 2) (by omega)) ?_
        simp only [if_pos t]
        exact he
      · obtain ⟨y, hy, he⟩ := ih lo ((lo + hi) / 2) (by omega) m1 (by omega) (by omega) h5 (by omega)
        refine ⟨y, hy, Ev.step (fun k => by rw [impl_YearOf.l0]) ?_⟩
        rw [w64 (x := hi - lo) (by omega) (by omega), w64 (x := lo + hi) (by omega) (by omega), tdiv_nn (show 0 ≤ lo + hi by omega), w64 (x := (lo + hi) / 2) (by omega) (by omega)]
        simp only [if_pos g]
        refine Ev.bind (daysBefore_ev hc hm hx ((lo + hi) / 2) (by omega)) ?_
        simp only [if_neg t]
        exact he
    · obtain rfl : hi = lo + 1 := by omega
      refine ⟨lo, ⟨h1, by omega, h5, h6⟩, Ev.step (fun k => by rw [impl_YearOf.l0]) ?_⟩
      rw [w64 (x := lo + 1 - lo) (by omega) (by omega)]
      simp only [if_neg g]
      refine Ev.bind (daysBefore_ev hc hm hx lo (by omega)) ?_
      rw [w64 (by omega) (by omega)]
      exact Ev.now _
end
end Go.Proofs.Ytoebllbpoinifaa.Com

/- Membership of a number in a list, on both sides. -/
namespace Go.Proofs.Ytoebllbpoinifaa.Com
set_option linter.unusedSimpArgs false
set_option linter.unusedVariables false
set_option linter.unusedSectionVars false
open Go.RowKit Go.Proofs.YtoebllbpoinifaaW.PrintWords Go.Proofs.YtoebllbpoinifaaW.PrintMore Go.Proofs.Ytoebllbpoinifaa.Q

/-! ### Membership -/
theorem contains_ev (l : List Int) (x : Int) (hx : l.length ≤ 1048576) : Ev (fun k => slices_Contains_int64_int64.f k l x) (decide (x ∈ l)) := by
  unfold slices_Contains_int64_int64.f slices_Index_int64_int64.f
  have key : ∃ i : Int, Ev (fun k => slices_Index_int64_int64.l0 k l x (l.length : Int) 0) i ∧ (i ≥ 0 ↔ x ∈ l) := by
    have gen := ev_list l (fun m k => slices_Index_int64_int64.l0 k l x (l.length : Int) (m : Int)) (fun r => if x ∈ r then ((l.length - r.length + r.idxOf x : Nat) : Int) else -1) ?_ ?_ 0 (by omega)
    · refine ⟨_, by simpa using gen, ?_⟩
      by_cases c : x ∈ l <;> simp [c]
    · refine Ev.step (fun k => by rw [slices_Index_int64_int64.l0]) ?_
      simp only [if_neg (show ¬ (l.length : Int) < (l.length : Int) by omega)]
      exact Ev.now _
    · intro m hm ih
      refine Ev.step (fun k => by rw [slices_Index_int64_int64.l0]) ?_
      simp only [if_pos (show (m : Int) < (l.length : Int) by omega), if_pos (show 0 ≤ (m : Int) by omega), rd_nat hm, w_succ (m := m) (by omega)]
      have hl : l.length - (l[m] :: l.drop (m + 1)).length = m := by rw [List.length_cons, List.length_drop]; omega
      have hl2 : l.length - (l.drop (m + 1)).length = m + 1 := by rw [List.length_drop]; omega
      rw [hl]
      rw [hl2] at ih
      by_cases c : x = l[m]
      · simp only [if_pos c]
        rw [if_pos (by rw [c]; exact List.mem_cons_self), c, List.idxOf_cons_self]
        exact Ev.now _
      · simp only [if_neg c]
        have e1 : (x ∈ l[m] :: l.drop (m + 1)) ↔ x ∈ l.drop (m + 1) := ⟨fun h => (List.mem_cons.1 h).resolve_left c, fun h => List.mem_cons_of_mem _ h⟩
        have e2 : (l[m] :: l.drop (m + 1)).idxOf x = (l.drop (m + 1)).idxOf x + 1 := by rw [List.idxOf_cons, beq_eq_false_iff_ne.2 (fun e => c e.symm)]; rfl
        rw [e2]
        simp only [e1]
        rw [show m + ((l.drop (m + 1)).idxOf x + 1) = m + 1 + (l.drop (m + 1)).idxOf x by omega]
        exact ih
  obtain ⟨i, hi, hx'⟩ := key
  refine Ev.bind hi ?_
  rw [show decide (x ∈ l) = decide (i ≥ 0) from decide_eq_decide.2 hx'.symm]
  exact Ev.now _

end Go.Proofs.Ytoebllbpoinifaa.Com

/- Calendars on the program's side alone: leap years, days, the mean year, the year of a day. -/
namespace Go.Proofs.Ytoebllbpoinifaa.Com
set_option linter.unusedSimpArgs false
set_option linter.unusedVariables false
set_option linter.unusedSectionVars false
open Go.RowKit Go.Proofs.YtoebllbpoinifaaW.PrintWords Go.Proofs.YtoebllbpoinifaaW.PrintMore Go.Proofs.Ytoebllbpoinifaa.Q

theorem divisor_ev (d : Nat) : ∀ (m n : Nat), n ≤ d → m ≤ 1000000000000 → n ≤ 1000000000000 → Ev (fun k => impl_divisor.l0 k (m : Int) (n : Int)) ((Nat.gcd m n : Nat) : Int) := by
  induction d with
  | zero =>
    intro m n h hm hn
    obtain rfl : n = 0 := by omega
    rw [Nat.gcd_zero_right]
    refine Ev.step (fun k => by rw [impl_divisor.l0]) ?_
    simp only [show ((0 : Nat) : Int) = 0 from rfl, if_true]
    rw [w64 (by omega) (by omega)]
    rw [show mx (m : Int) (-(m : Int)) = (m : Int) from by unfold mx; rw [if_neg (by omega)]]
    exact Ev.now _
  | succ d ih =>
    intro m n h hm hn
    by_cases e : n = 0
    · subst e
      exact ih m 0 (by omega) hm hn
    have lt : m % n < n := Nat.mod_lt _ (by omega)
    have := ih n (m % n) (by omega) hn (by omega)
    have e2 : Int.tmod (m : Int) (n : Int) = ((m % n : Nat) : Int) := by rw [tmod_nn (by omega)]; rfl
    rw [show Nat.gcd m n = Nat.gcd n (m % n) from by rw [Nat.gcd_comm m n, Nat.gcd_rec n m, Nat.gcd_comm]]
    refine Ev.step (fun k => by rw [impl_divisor.l0]) ?_
    simp only [if_neg (show ¬ (n : Int) = 0 by omega), e2]
    exact this
theorem b10Gcd_ev (d : Nat) : ∀ (m n : Nat), n ≤ d → Ev (fun k => laws_b10Gcd.l0 k (m : Int) (n : Int)) ((Nat.gcd m n : Nat) : Int) := by
  induction d with
  | zero =>
    intro m n h
    obtain rfl : n = 0 := by omega
    rw [Nat.gcd_zero_right]
    refine Ev.step (fun k => by rw [laws_b10Gcd.l0]) ?_
    simp only [if_neg (show ¬ ((0 : Nat) : Int) > 0 by omega)]
    exact Ev.now _
  | succ d ih =>
    intro m n h
    by_cases e : n = 0
    · subst e
      exact ih m 0 (by omega)
    have lt : m % n < n := Nat.mod_lt _ (by omega)
    have := ih n (m % n) (by omega)
    have e2 : Int.tmod (m : Int) (n : Int) = ((m % n : Nat) : Int) := by rw [tmod_nn (by omega)]; rfl
    rw [show Nat.gcd m n = Nat.gcd n (m % n) from by rw [Nat.gcd_comm m n, Nat.gcd_rec n m, Nat.gcd_comm]]
    refine Ev.step (fun k => by rw [laws_b10Gcd.l0]) ?_
    simp only [if_pos (show (n : Int) > 0 by omega), if_neg (show ¬ (n : Int) = 0 by omega), e2]
    exact this
theorem b10Has_ev (l : List Int) (x : Int) (hx : l.length ≤ 1048576) : Ev (fun k => laws_b10Has.f k l x) (decide (x ∈ l)) := by
  unfold laws_b10Has.f
  have gen := ev_list l (fun m k => laws_b10Has.l0 k l x (m : Int)) (fun r => decide (x ∈ r)) ?_ ?_ 0 (by omega)
  · simpa using gen
  · refine Ev.step (fun k => by rw [laws_b10Has.l0]) ?_
    simp only [if_neg (show ¬ (l.length : Int) < (l.length : Int) by omega)]
    exact Ev.now _
  · intro m hm ih
    refine Ev.step (fun k => by rw [laws_b10Has.l0]) ?_
    simp only [if_pos (show (m : Int) < (l.length : Int) by omega), if_pos (show 0 ≤ (m : Int) by omega), rd_nat hm, w_succ (m := m) (by omega)]
    by_cases c : l[m] = x
    · simp only [if_pos c]
      rw [decide_eq_true (show x ∈ l[m] :: l.drop (m + 1) from by rw [c]; exact List.mem_cons_self)]
      exact Ev.now _
    · simp only [if_neg c]
      rw [show decide (x ∈ l[m] :: l.drop (m + 1)) = decide (x ∈ l.drop (m + 1)) from decide_eq_decide.2 ⟨fun h => (List.mem_cons.1 h).resolve_left (fun e => c e.symm), fun h => List.mem_cons_of_mem _ h⟩]
      exact ih
section
variable {c cm : Int} {l : List Int} (hx : l.length ≤ 1048576) (hv : validCal c cm l = true)
include hx hv
theorem implDays_ev (y : Int) (hy : 0 ≤ y ∧ y ≤ 100000) : Ev (fun k => impl_DaysBefore.f k c cm l y) (db c cm l y, true) := by
  have b := valid_bd hv
  unfold impl_DaysBefore.f
  refine Ev.bind (implValid_ev c cm l hx) ?_
  simp only [hv, if_true, within_tells, Option.bind_some, decide_eq_true hy]
  exact Ev.bind (daysBefore_ev (by omega) (by omega) hx y hy) (Ev.now _)
theorem implLeap_ev (y : Int) (hy : 0 ≤ y ∧ y ≤ 100000) : Ev (fun k => impl_IsLeap.f k c cm l y) (decide (y % c ∈ l)) := by
  have b := valid_bd hv
  unfold impl_IsLeap.f
  refine Ev.bind (implValid_ev c cm l hx) ?_
  simp only [hv, if_true, within_tells, Option.bind_some, decide_eq_true hy, if_neg (show ¬ c = 0 by omega), tmod_nn hy.1]
  exact Ev.bind (contains_ev l (y % c) hx) (Ev.now _)
theorem implMean_ev : Ev (fun k => impl_MeanYear.f k c cm l) (db c cm l c / (Int.gcd (db c cm l c) c : Int), c / (Int.gcd (db c cm l c) c : Int), true) := by
  have b := valid_bd hv
  unfold impl_MeanYear.f
  have d := db_bd (c := c) (cm := cm) (l := l) (by omega) (by omega) hx c (by omega)
  have g1 : Ev (fun k => impl_divisor.f k (db c cm l c) c) ((Int.gcd (db c cm l c) c : Nat) : Int) := by
    have := divisor_ev c.toNat (db c cm l c).toNat c.toNat (Nat.le_refl _) (by omega) (by omega)
    rw [Int.toNat_of_nonneg d.1, Int.toNat_of_nonneg (by omega)] at this
    have e : Int.gcd (db c cm l c) c = Nat.gcd (db c cm l c).toNat c.toNat := by
      unfold Int.gcd
      rw [show (db c cm l c).natAbs = (db c cm l c).toNat by omega, show c.natAbs = c.toNat by omega]
    rw [e]
    exact this
  have gp : 0 < ((Int.gcd (db c cm l c) c : Nat) : Int) := by
    have : 0 < Int.gcd (db c cm l c) c := Int.gcd_pos_of_ne_zero_right _ (by omega)
    omega
  have q1 : 0 ≤ db c cm l c / (Int.gcd (db c cm l c) c : Int) := Int.ediv_nonneg d.1 (by omega)
  have q2 : db c cm l c / (Int.gcd (db c cm l c) c : Int) ≤ db c cm l c := Int.ediv_le_self _ d.1
  have q3 : 0 ≤ c / (Int.gcd (db c cm l c) c : Int) := Int.ediv_nonneg (by omega) (by omega)
  have q4 : c / (Int.gcd (db c cm l c) c : Int) ≤ c := Int.ediv_le_self _ (by omega)
  refine Ev.bind (implValid_ev c cm l hx) ?_
  simp only [hv, if_true]
  refine Ev.bind (daysBefore_ev (by omega) (by omega) hx c (by omega)) ?_
  unfold impl_worth_lowest.f
  refine Ev.bind (a := (db c cm l c / (Int.gcd (db c cm l c) c : Int), c / (Int.gcd (db c cm l c) c : Int))) (Ev.bind g1 ?_) (Ev.now _)
  simp only [if_neg (show ¬ ((Int.gcd (db c cm l c) c : Nat) : Int) = 0 by omega), tdiv_nn d.1, tdiv_nn (show 0 ≤ c by omega)]
  rw [w64 (by omega) (by omega), w64 (by omega) (by omega)]
  exact Ev.now _
theorem implYearOf_ev (day : Int) (h0 : 0 ≤ day) (hz : db c cm l 0 ≤ day) (h1 : day < db c cm l 100000) : ∃ y, IsYear c cm l day y ∧ Ev (fun k => impl_YearOf.f k c cm l day) (y, day - db c cm l y, true) := by
  have b := valid_bd hv
  have bm := db_bd (c := c) (cm := cm) (l := l) (by omega) (by omega) hx 100000 (by omega)
  obtain ⟨y, hy, he⟩ := implYear_ev (c := c) (cm := cm) (l := l) (by omega) (by omega) hx day 100000 0 100000 (by omega) (by omega) (by omega) (by omega) hz h1
  refine ⟨y, hy, ?_⟩
  unfold impl_YearOf.f
  refine Ev.bind (implValid_ev c cm l hx) ?_
  simp only [hv, if_true]
  refine Ev.bind (daysBefore_ev (by omega) (by omega) hx 100000 (by omega)) ?_
  rw [w64 (x := db c cm l 100000 - 1) (by omega) (by omega)]
  simp only [within_tells, Option.bind_some, decide_eq_true (show 0 ≤ day ∧ day ≤ db c cm l 100000 - 1 by omega), Bool.not_true]
  refine Ev.step (fun k => by rw [impl_YearOf.j0]) ?_
  simp only [Bool.false_eq_true, if_false]
  exact he
end
end Go.Proofs.Ytoebllbpoinifaa.Com

/- The days of years are summed up one by one. -/
namespace Go.Proofs.Ytoebllbpoinifaa.Com
set_option linter.unusedSimpArgs false
set_option linter.unusedVariables false

theorem rises_lo {lo hi : Int} (l : List Int) : ∀ p, risesFrom lo hi (some p) l = true → ∀ x ∈ l, p < x := by
  induction l with
  | nil => intro p _ x hx; simp at hx
  | cons y r ih =>
    intro p h x hx
    unfold risesFrom at h
    simp only [Bool.and_eq_true, decide_eq_true_eq] at h
    rcases List.mem_cons.1 hx with rfl | hx
    · exact h.1.2
    · have := ih y h.2 x hx
      omega
theorem cntLt_none {b : Int} (l : List Int) (h : ∀ x ∈ l, b ≤ x) : cntLt b l = 0 := by
  induction l with
  | nil => rfl
  | cons y r ih =>
    unfold cntLt
    rw [if_neg (by have := h y (List.mem_cons_self ..); omega), ih (fun x hx => h x (List.mem_cons_of_mem _ hx))]
    rfl
theorem cntLt_all {b : Int} (l : List Int) (h : ∀ x ∈ l, x < b) : cntLt b l = l.length := by
  induction l with
  | nil => rfl
  | cons y r ih =>
    unfold cntLt
    rw [if_pos (h y (List.mem_cons_self ..)), ih (fun x hx => h x (List.mem_cons_of_mem _ hx)), List.length_cons]
    omega
theorem rises_in {lo hi : Int} (l : List Int) : ∀ p, risesFrom lo hi p l = true → ∀ x ∈ l, lo ≤ x ∧ x ≤ hi := by
  induction l with
  | nil => intro p _ x hx; simp at hx
  | cons y r ih =>
    intro p h x hx
    unfold risesFrom at h
    simp only [Bool.and_eq_true, decide_eq_true_eq] at h
    rcases List.mem_cons.1 hx with rfl | hx
    · exact h.1.1
    · exact ih _ h.2 x hx
theorem cntLt_succ {lo hi : Int} (b : Int) (l : List Int) : ∀ p, risesFrom lo hi p l = true → cntLt (b + 1) l = cntLt b l + if b ∈ l then 1 else 0 := by
  induction l with
  | nil => intro p _; simp [cntLt]
  | cons y r ih =>
    intro p h
    unfold risesFrom at h
    simp only [Bool.and_eq_true] at h
    have h2 := ih _ h.2
    have lo' := rises_lo r y h.2
    unfold cntLt
    by_cases e : b = y
    · subst e
      rw [if_pos (by omega), if_neg (by omega), if_pos (List.mem_cons_self ..), cntLt_none r (fun x hx => by have := lo' x hx; omega), cntLt_none r (fun x hx => by have := lo' x hx; omega)]
      rfl
    · have m : (b ∈ y :: r) ↔ b ∈ r := by simp [e]
      simp only [m]
      rw [h2]
      by_cases q : y < b
      · rw [if_pos (by omega), if_pos q]; omega
      · rw [if_neg (by omega), if_neg q]; omega
theorem db_succ {c cm : Int} {l : List Int} (hc : 1 ≤ c) (hl : rises 0 (c - 1) l = true) (y : Int) (hy : 0 ≤ y) : db c cm l (y + 1) = db c cm l y + cm + if y % c ∈ l then 1 else 0 := by
  have key := cntLt_succ (y % c) l none hl
  have hin := rises_in l none hl
  unfold db
  have e1 : (y + 1) * cm = y * cm + cm := by rw [Int.add_mul, Int.one_mul]
  have b1 := Int.emod_nonneg y (show c ≠ 0 by omega)
  have b2 := Int.emod_lt_of_pos y (show 0 < c by omega)
  have b3 := Int.emod_add_mul_ediv y c
  by_cases h : y % c = c - 1
  · have e : y + 1 = c * (y / c + 1) := by rw [Int.mul_add, Int.mul_one]; omega
    have q : (y + 1) / c = y / c + 1 := by rw [e, Int.mul_ediv_cancel_left _ (show c ≠ 0 by omega)]
    have q2 : (y + 1) % c = 0 := by rw [e, Int.mul_emod_right]
    rw [h, show c - 1 + 1 = c by omega, cntLt_all l (fun x hx => by have := hin x hx; omega)] at key
    rw [q, q2, e1, Int.add_mul, Int.one_mul, cntLt_none l (fun x hx => (hin x hx).1), h]
    omega
  · have q : (y + 1) % c = y % c + 1 := by
      have : y + 1 = (y % c + 1) + c * (y / c) := by omega
      rw [this, Int.add_mul_emod_self_left, Int.emod_eq_of_lt (by omega) (by omega)]
    have q2 : (y + 1) / c = y / c := by
      have : y + 1 = (y % c + 1) + c * (y / c) := by omega
      rw [this, Int.add_mul_ediv_left _ _ (show c ≠ 0 by omega), Int.ediv_eq_zero_of_lt (by omega) (by omega), Int.zero_add]
    rw [q, q2, e1, key]
    omega
end Go.Proofs.Ytoebllbpoinifaa.Com

/- The word of a line on the reference's side, and the calendar with evenly placed leap years. -/
namespace Go.Proofs.Ytoebllbpoinifaa.Com
set_option linter.unusedSimpArgs false
set_option linter.unusedVariables false
set_option linter.unusedSectionVars false
open Go.RowKit Go.Proofs.YtoebllbpoinifaaW.PrintWords Go.Proofs.YtoebllbpoinifaaW.PrintMore Go.Proofs.Ytoebllbpoinifaa.Q

theorem bt_str (xs : List Int) (m : Nat) (h : m < xs.length) (hb : ∀ x ∈ xs, 0 ≤ x ∧ x ≤ 255) : bt (strOfNums xs) (m : Int) = xs[m] := by
  have hs : (strOfNums xs).size = xs.length := by rw [strOfNums_size]
  unfold bt
  rw [dif_pos (by rw [Int.toNat_natCast, hs]; exact h)]
  have hx := hb _ (List.getElem_mem h)
  have : (strOfNums xs)[((m : Int)).toNat]'(by rw [Int.toNat_natCast, hs]; exact h) = UInt8.ofNat (xs[m]).toNat := by
    simp [strOfNums, ByteArray.getElem_eq_getElem_data]
  rw [this]
  simp
  omega
/-- The letter of a word of a line at a place: 98 where the floor rises. -/
def stepUp (a b s : Int) (i : Nat) : Bool := decide ((((i : Int) + 1) * a + s) / b > ((i : Int) * a + s) / b)
def letters (a b s : Int) (n : Nat) : List Int := (List.range n).map fun i => if stepUp a b s i then 98 else 97
theorem letters_len (a b s : Int) (n : Nat) : (letters a b s n).length = n := by simp [letters]
theorem letters_succ (a b s : Int) (n : Nat) : letters a b s (n + 1) = letters a b s n ++ [if stepUp a b s n then 98 else 97] := by
  simp [letters, List.range_succ]
theorem letters_at (a b s : Int) (n i : Nat) (h : i < (letters a b s n).length) : (letters a b s n)[i] = if stepUp a b s i then 98 else 97 := by
  simp [letters]
theorem letters_byte (a b s : Int) (n : Nat) : ∀ x ∈ letters a b s n, 0 ≤ x ∧ x ≤ 255 := by
  intro x hx
  unfold letters at hx
  obtain ⟨i, _, rfl⟩ := List.mem_map.1 hx
  split <;> omega
theorem specFloor_nn {x b : Int} (hx : 0 ≤ x ∧ x ≤ 1000000000) (hb : 1 ≤ b) : spec_l01Floor.f x b = some (x / b) := by
  have q0 : 0 ≤ x / b := Int.ediv_nonneg hx.1 (by omega)
  have q1 : x / b ≤ x := Int.ediv_le_self _ hx.1
  have q2 := Int.ediv_mul_le x (show b ≠ 0 by omega)
  have q3 : 0 ≤ x / b * b := Int.mul_nonneg q0 (by omega)
  unfold spec_l01Floor.f
  rw [if_neg (by omega), tdiv_nn hx.1, w64 (x := x / b) (by omega) (by omega), w64 (x := x / b * b) (by omega) (by omega), if_neg (by omega)]
theorem specLine_ev (a b s : Int) (n : Nat) (ha : 0 ≤ a ∧ a ≤ 1000) (hb : 1 ≤ b) (hs : 0 ≤ s ∧ s ≤ 1000) (hn : n ≤ 1000) : Ev (fun k => spec_l07Line.f k a b s (n : Int)) (strOfNums (letters a b s n)) := by
  unfold spec_l07Line.f
  refine ev_count n (fun m l k => spec_l07Line.l0 k a b s (n : Int) l (m : Int)) (strOfNums (letters a b s n)) (fun m l => l = letters a b s m) ?_ ?_ 0 [] (by omega) rfl
  · rintro l rfl
    refine Ev.step (fun k => by rw [spec_l07Line.l0]) ?_
    simp only [if_neg (show ¬ (n : Int) < (n : Int) by omega)]
    exact Ev.now _
  · rintro m l hm rfl
    refine ⟨_, rfl, fun ih => ?_⟩
    refine Ev.step (fun k => by rw [spec_l07Line.l0]) ?_
    have p1 := mul_bd (a := (m : Int)) (b := a) (by omega) (show (m : Int) ≤ 1000 by omega) ha.1 ha.2
    have p2 := mul_bd (a := (m : Int) + 1) (b := a) (by omega) (show (m : Int) + 1 ≤ 1000 by omega) ha.1 ha.2
    simp only [if_pos (show (m : Int) < (n : Int) by omega)]
    rw [w64 (x := (m : Int) + 1) (by omega) (by omega), w64 (x := ((m : Int) + 1) * a) (by omega) (by omega), w64 (x := ((m : Int) + 1) * a + s) (by omega) (by omega), w64 (x := (m : Int) * a) (by omega) (by omega), w64 (x := (m : Int) * a + s) (by omega) (by omega)]
    rw [specFloor_nn (by omega) hb, specFloor_nn (by omega) hb]
    simp only [Option.bind_some, letters_len, if_pos (show m < 140737488355328 by omega)]
    rw [show ((m : Int) + 1) = ((m + 1 : Nat) : Int) by omega] at *
    rw [letters_succ] at ih
    by_cases q : (((m + 1 : Nat) : Int) * a + s) / b > ((m : Int) * a + s) / b
    · simp only [if_pos q]
      rw [show stepUp a b s m = true from by unfold stepUp; exact decide_eq_true (by rw [show ((m : Int) + 1) = ((m + 1 : Nat) : Int) by omega]; exact q)] at ih
      exact ih
    · simp only [if_neg q]
      rw [show stepUp a b s m = false from by unfold stepUp; exact decide_eq_false (by rw [show ((m : Int) + 1) = ((m + 1 : Nat) : Int) by omega]; exact q)] at ih
      exact ih
def ups (a b s : Int) (n : Nat) : List Int := ((List.range n).filter fun i => stepUp a b s i).map fun (i : Nat) => (i : Int)
theorem ups_succ (a b s : Int) (n : Nat) : ups a b s (n + 1) = if stepUp a b s n then ups a b s n ++ [(n : Int)] else ups a b s n := by
  unfold ups
  rw [List.range_succ, List.filter_append, List.map_append]
  by_cases h : stepUp a b s n = true <;> simp [h]
theorem ups_len (a b s : Int) (n : Nat) : (ups a b s n).length ≤ n := by
  unfold ups
  rw [List.length_map]
  have := List.length_filter_le (fun i => stepUp a b s i) (List.range n)
  simpa using this
theorem specEven_ev (c lp cm sh : Int) (n : Nat) (hc : c = n) (hn : 1 ≤ n ∧ n ≤ 1000) (ha : 0 ≤ lp ∧ lp ≤ 1000) (hs : 0 ≤ sh ∧ sh ≤ 1000) : Ev (fun k => spec_l11Even.f k c lp cm sh) (c, cm, ups lp c sh n) := by
  subst hc
  unfold spec_l11Even.f
  refine Ev.bind (specLine_ev lp (n : Int) sh n ha (by omega) hs (by omega)) ?_
  refine ev_count n (fun m l k => spec_l11Even.l0 k (strOfNums (letters lp (n : Int) sh n)) (m : Int) (n : Int) cm l) _ (fun m l => l = ups lp (n : Int) sh m) ?_ ?_ 0 [] (by omega) rfl
  · rintro l rfl
    refine Ev.step (fun k => by rw [spec_l11Even.l0]) ?_
    simp only [strOfNums_size, letters_len, if_neg (show ¬ (n : Int) < (n : Int) by omega)]
    exact Ev.now _
  · rintro m l hm rfl
    refine ⟨_, rfl, fun ih => ?_⟩
    refine Ev.step (fun k => by rw [spec_l11Even.l0]) ?_
    have hl := ups_len lp (n : Int) sh m
    have e : bt (strOfNums (letters lp (n : Int) sh n)) (m : Int) = if stepUp lp (n : Int) sh m then 98 else 97 := by
      rw [bt_str _ m (by rw [letters_len]; exact hm) (letters_byte lp (n : Int) sh n), letters_at]
    simp only [strOfNums_size, letters_len, if_pos (show (m : Int) < (n : Int) by omega), if_pos (show 0 ≤ (m : Int) by omega), e, w_succ (m := m) (by omega)]
    rw [ups_succ] at ih
    by_cases q : stepUp lp (n : Int) sh m = true
    · simp only [q, if_true] at ih ⊢
      simp only [if_pos (show (ups lp (n : Int) sh m).length < 17592186044416 by omega)]
      exact ih
    · simp only [Bool.not_eq_true] at q
      simp only [q, Bool.false_eq_true, if_false] at ih ⊢
      simp only [if_neg (show ¬ (97 : Int) = 98 by omega)]
      exact ih
end Go.Proofs.Ytoebllbpoinifaa.Com

/- What is drawn from a code, on the reference's side. -/
namespace Go.Proofs.Ytoebllbpoinifaa.Com
set_option linter.unusedSimpArgs false
set_option linter.unusedVariables false
open Go.RowKit Go.Proofs.YtoebllbpoinifaaW.PrintWords Go.Proofs.YtoebllbpoinifaaW.PrintMore Go.Proofs.Ytoebllbpoinifaa.Q

theorem and_255 (x : Nat) (h : x < 18446744073709551616) : ∃ r : Nat, Go.bits .and .u64 (x : Int) 255 = (r : Int) ∧ r ≤ 255 :=
  ⟨x &&& 255, (Go.bits_nat .u64 64 (by decide) (fun n h0 h1 => by simp [IntKind.wrap, IntKind.bits, IntKind.signed]; omega) x 255 h (by decide)).1, Nat.and_le_right⟩
theorem u64_bd (n : Int) : 0 ≤ IntKind.u64.wrap n ∧ IntKind.u64.wrap n < 18446744073709551616 := by
  simp [IntKind.wrap, IntKind.bits, IntKind.signed]
  omega
theorem u8_bd {x : Int} (h : (Lit.int .u8 x).wf = true) : 0 ≤ x ∧ x ≤ 255 := by
  simp [Lit.wf, IntKind.min, IntKind.max, IntKind.signed, IntKind.bits] at h
  omega
theorem next_tells (l : List Int) (hl : ∀ x ∈ l, (Lit.int .u8 x).wf = true) (a s : Int) (ha : 0 ≤ a ∧ a ≤ 1000) : ∃ v s', spec_l00Src_next.f l a s = some (v, a + 1, s') ∧ 0 ≤ v ∧ v ≤ 255 := by
  unfold spec_l00Src_next.f
  rw [w64 (x := a + 1) (by omega) (by omega)]
  have big : ∀ y : Int, ∃ r : Nat, Go.bits .and .u64 (IntKind.u64.wrap y / 1099511627776) 255 = (r : Int) ∧ r ≤ 255 := by
    intro y
    have b := u64_bd y
    obtain ⟨n, hn⟩ := Int.eq_ofNat_of_zero_le (show 0 ≤ IntKind.u64.wrap y / 1099511627776 by omega)
    rw [hn]
    exact and_255 n (by omega)
  by_cases h : a < (l.length : Int)
  · rw [if_pos h, if_pos ha.1, if_pos (by omega)]
    have hlt : a.toNat < l.length := by omega
    have hv : rd l a = l[a.toNat] := by
      have := rd_nat hlt
      rwa [Int.toNat_of_nonneg ha.1] at this
    have b := u8_bd (hl _ (List.getElem_mem hlt))
    rw [hv, w64 (x := l[a.toNat]) (by omega) (by omega)]
    exact ⟨_, _, rfl, b.1, b.2⟩
  · rw [if_neg h]
    split
    · exact ⟨_, _, rfl, by omega, by omega⟩
    · obtain ⟨r, hr, hr'⟩ := big (IntKind.u64.wrap (IntKind.u64.wrap (s * 6364136223846793005)) + 1442695040888963407)
      rw [hr, w64 (x := (r : Int)) (by omega) (by omega)]
      exact ⟨_, _, rfl, by omega, by omega⟩
/-- A number that is drawn lies from 0 to n - 1; at most two places of the code are taken. -/
theorem pick2_tells (l : List Int) (hl : ∀ x ∈ l, (Lit.int .u8 x).wf = true) (a s n : Int) (ha : 0 ≤ a ∧ a ≤ 999) (hn : 1 ≤ n ∧ n ≤ 1000) : ∃ v a' s', spec_l00Src_pick.f l a s n = some (v, a', s') ∧ 0 ≤ v ∧ v < n ∧ 0 ≤ a' ∧ a' ≤ a + 2 := by
  unfold spec_l00Src_pick.f
  by_cases h : n ≤ 1
  · rw [if_pos h]
    exact ⟨_, _, _, rfl, by omega, by omega, by omega, by omega⟩
  · obtain ⟨v, s', e, h0, h1⟩ := next_tells l hl a s (by omega)
    rw [if_neg h, e, Option.bind_some]
    by_cases h2 : n > 200
    · obtain ⟨v2, s2, e2, g0, g1⟩ := next_tells l hl (a + 1) s' (by omega)
      rw [if_pos h2]
      simp only
      rw [e2, Option.bind_some, if_neg (by omega)]
      simp only
      rw [w64 (x := v * 256) (by omega) (by omega), w64 (x := v * 256 + v2) (by omega) (by omega), tmod_nn (by omega)]
      have := Int.emod_nonneg (v * 256 + v2) (show n ≠ 0 by omega)
      have := Int.emod_lt_of_pos (v * 256 + v2) (show 0 < n by omega)
      exact ⟨(v * 256 + v2) % n, a + 1 + 1, s2, rfl, by omega, by omega, by omega, by omega⟩
    · rw [if_neg h2, if_neg (by omega), tmod_nn h0]
      have := Int.emod_nonneg v (show n ≠ 0 by omega)
      have := Int.emod_lt_of_pos v (show 0 < n by omega)
      exact ⟨v % n, a + 1, s', rfl, by omega, by omega, by omega, by omega⟩
end Go.Proofs.Ytoebllbpoinifaa.Com

/- The calendar that is drawn from a code is valid. -/
namespace Go.Proofs.Ytoebllbpoinifaa.Com
set_option linter.unusedSimpArgs false
set_option linter.unusedVariables false
set_option linter.unusedSectionVars false
open Go.RowKit Go.Proofs.YtoebllbpoinifaaW.PrintWords Go.Proofs.YtoebllbpoinifaaW.PrintMore Go.Proofs.Ytoebllbpoinifaa.Q

theorem one_tells (l : List Int) (hl : ∀ x ∈ l, (Lit.int .u8 x).wf = true) (a s n : Int) (ha : 0 ≤ a ∧ a ≤ 999) (hn : 1 ≤ n ∧ n ≤ 1000) : ∃ v a' s', spec_l00Src_one.f l a s n = some (v, a', s') ∧ 0 ≤ a' ∧ a' ≤ a + 2 := by
  obtain ⟨v, a', s', e, _, _, h1, h2⟩ := pick2_tells l hl a s n ha hn
  unfold spec_l00Src_one.f
  rw [e]
  exact ⟨_, _, _, rfl, h1, h2⟩
theorem rises_snoc {lo hi x : Int} (l : List Int) : ∀ p, risesFrom lo hi p l = true → (∀ y ∈ l, y < x) → (∀ q, p = some q → q < x) → lo ≤ x → x ≤ hi → risesFrom lo hi p (l ++ [x]) = true := by
  induction l with
  | nil =>
    intro p _ _ hp h0 h1
    cases p <;> simp [risesFrom, h0, h1]
    exact hp _ rfl
  | cons y r ih =>
    intro p h hy hp h0 h1
    unfold risesFrom at h
    simp only [Bool.and_eq_true] at h
    rw [List.cons_append]
    unfold risesFrom
    simp only [Bool.and_eq_true]
    exact ⟨h.1, ih _ h.2 (fun z hz => hy z (List.mem_cons_of_mem _ hz)) (fun q hq => by cases hq; exact hy y (List.mem_cons_self ..)) h0 h1⟩
theorem ups_lt (a b s : Int) (n : Nat) : ∀ y ∈ ups a b s n, y < (n : Int) := by
  intro y hy
  unfold ups at hy
  obtain ⟨i, hi, rfl⟩ := List.mem_map.1 hy
  have := (List.mem_filter.1 hi).1
  rw [List.mem_range] at this
  omega
theorem ups_rises (a b s hi : Int) (n : Nat) (h : (n : Int) ≤ hi + 1) : rises 0 hi (ups a b s n) = true := by
  induction n with
  | zero => rfl
  | succ n ih =>
    rw [ups_succ]
    have := ih (by omega)
    split
    · exact rises_snoc _ _ this (ups_lt a b s n) (by simp) (by omega) (by omega)
    · exact this
section
variable {l : List Int} (hl : ∀ x ∈ l, (Lit.int .u8 x).wf = true)
include hl
theorem drawLoop_ev (n : Nat) (w cm : Int) (hn : n ≤ 400) (hw : 1 ≤ w ∧ w ≤ 10) (a0 s0 : Int) (h0 : 0 ≤ a0 ∧ a0 ≤ 100) :
    ∃ y a s, Ev (fun k => spec_l11DrawOk.l0 k (n : Int) w 0 l a0 s0 (n : Int) cm []) ((n : Int), cm, y, a, s) ∧ y.length ≤ n ∧ rises 0 ((n : Int) - 1) y = true := by
  have key : ∀ d m : Nat, m + d = n → ∀ (y : List Int) (a s : Int), 0 ≤ a → a ≤ 100 + 2 * m → y.length ≤ m → rises 0 ((n : Int) - 1) y = true → (∀ z ∈ y, z < (m : Int)) →
      ∃ y' a' s', Ev (fun k => spec_l11DrawOk.l0 k (n : Int) w (m : Int) l a s (n : Int) cm y) ((n : Int), cm, y', a', s') ∧ y'.length ≤ n ∧ rises 0 ((n : Int) - 1) y' = true := by
    intro d
    induction d with
    | zero =>
      intro m e y a s _ _ hy hr _
      refine ⟨y, a, s, Ev.step (fun k => by rw [spec_l11DrawOk.l0]) ?_, by omega, hr⟩
      simp only [if_neg (show ¬ (m : Int) < (n : Int) by omega)]
      exact Ev.now _
    | succ d ih =>
      intro m e y a s h1 h2 hy hr hz
      obtain ⟨v, a', s', ev, g1, g2⟩ := one_tells l hl a s w (by omega) (by omega)
      cases v with
      | true =>
        obtain ⟨y', a2, s2, E, L, R⟩ := ih (m + 1) (by omega) (y ++ [(m : Int)]) a' s' g1 (by omega) (by simp; omega) (rises_snoc y none hr hz (by simp) (by omega) (by omega)) (fun z hz' => by
          rcases List.mem_append.1 hz' with h | h
          · have := hz z h; omega
          · have := List.mem_singleton.1 h; omega)
        refine ⟨y', a2, s2, Ev.step (fun k => by rw [spec_l11DrawOk.l0]) ?_, L, R⟩
        simp only [if_pos (show (m : Int) < (n : Int) by omega), ev, Option.bind_some, if_true, if_pos (show y.length < 17592186044416 by omega), w_succ (m := m) (by omega)]
        exact E
      | false =>
        obtain ⟨y', a2, s2, E, L, R⟩ := ih (m + 1) (by omega) y a' s' g1 (by omega) (by omega) hr (fun z hz' => by have := hz z hz'; omega)
        refine ⟨y', a2, s2, Ev.step (fun k => by rw [spec_l11DrawOk.l0]) ?_, L, R⟩
        simp only [if_pos (show (m : Int) < (n : Int) by omega), ev, Option.bind_some, Bool.false_eq_true, if_false, w_succ (m := m) (by omega)]
        exact E
  exact key n 0 (by omega) [] a0 s0 (by omega) (by omega) (by simp) rfl (by simp)
theorem drawTail_ev (n : Nat) (hn : 1 ≤ n ∧ n ≤ 400) (a0 s0 : Int) (h0 : 0 ≤ a0 ∧ a0 ≤ 10) :
    ∃ cm y a s, Ev (fun k => spec_l11DrawOk.j0 k (n : Int) l a0 s0) ((n : Int), cm, y, a, s) ∧ 1 ≤ cm ∧ cm ≤ 400 ∧ y.length ≤ n ∧ rises 0 ((n : Int) - 1) y = true := by
  obtain ⟨v1, a1, s1, e1, p1, q1, b1, c1⟩ := pick2_tells l hl a0 s0 ((n : Int) + 1) (by omega) (by omega)
  obtain ⟨v2, a2, s2, e2, p2, q2, b2, c2⟩ := pick2_tells l hl a1 s1 400 (by omega) (by omega)
  obtain ⟨v3, a3, s3, e3, p3, q3, b3, c3⟩ := pick2_tells l hl a2 s2 (n : Int) (by omega) (by omega)
  obtain ⟨v4, a4, s4, e4, b4, c4⟩ := one_tells l hl a3 s3 3 (by omega) (by omega)
  have ee := specEven_ev (n : Int) v1 (1 + v2) v3 n rfl (by omega) (by omega) (by omega)
  cases v4 with
  | false =>
    refine ⟨1 + v2, ups v1 (n : Int) v3 n, a4, s4, Ev.step (fun k => by rw [spec_l11DrawOk.j0]) ?_, by omega, by omega, ups_len .., ups_rises _ _ _ _ _ (by omega)⟩
    rw [w64 (x := (n : Int) + 1) (by omega) (by omega)]
    simp only [e1, e2, e3, Option.bind_some]
    rw [w64 (x := 1 + v2) (by omega) (by omega)]
    refine Ev.bind ee ?_
    simp only [e4, Option.bind_some, Bool.false_eq_true, if_false]
    exact Ev.now _
  | true =>
    obtain ⟨v5, a5, s5, e5, p5, q5, b5, c5⟩ := pick2_tells l hl a4 s4 3 (by omega) (by omega)
    obtain ⟨y, a6, s6, E, L, R⟩ := drawLoop_ev hl n (2 + v5) (1 + v2) (by omega) (by omega) a5 s5 (by omega)
    refine ⟨1 + v2, y, a6, s6, Ev.step (fun k => by rw [spec_l11DrawOk.j0]) ?_, by omega, by omega, L, R⟩
    rw [w64 (x := (n : Int) + 1) (by omega) (by omega)]
    simp only [e1, e2, e3, Option.bind_some]
    rw [w64 (x := 1 + v2) (by omega) (by omega)]
    refine Ev.bind ee ?_
    simp only [e4, Option.bind_some, if_true, e5]
    rw [w64 (x := 2 + v5) (by omega) (by omega)]
    exact E
theorem b10Cal_ev : ∃ c cm y, Ev (fun k => spec_B10Calendar.f k l) (c, cm, y) ∧ 1 ≤ c ∧ c ≤ 400 ∧ 1 ≤ cm ∧ cm ≤ 400 ∧ y.length ≤ 400 ∧ rises 0 (c - 1) y = true := by
  obtain ⟨v1, a1, s1, e1, p1, q1, b1, c1⟩ := pick2_tells l hl 0 0 30 (by omega) (by omega)
  obtain ⟨v2, a2, s2, e2, b2, c2⟩ := one_tells l hl a1 s1 12 (by omega) (by omega)
  have fin : ∀ n : Nat, 1 ≤ n → n ≤ 400 → (∀ cm y a s, Ev (fun k => spec_l11DrawOk.j0 k (n : Int) l a2 s2) ((n : Int), cm, y, a, s) → Ev (fun k => spec_l11DrawOk.f k l 0 0) ((n : Int), cm, y, a, s)) → ∃ c cm y, Ev (fun k => spec_B10Calendar.f k l) (c, cm, y) ∧ 1 ≤ c ∧ c ≤ 400 ∧ 1 ≤ cm ∧ cm ≤ 400 ∧ y.length ≤ 400 ∧ rises 0 (c - 1) y = true := by
    intro n n1 n2 step
    obtain ⟨cm, y, a, s, E, m1, m2, L, R⟩ := drawTail_ev hl n (by omega) a2 s2 (by omega)
    refine ⟨(n : Int), cm, y, ?_, by omega, by omega, m1, m2, by omega, R⟩
    unfold spec_B10Calendar.f spec_l00From.f
    simp only [Option.bind_some]
    exact Ev.bind (step cm y a s E) (Ev.now _)
  cases v2 with
  | true =>
    refine fin 400 (by omega) (by omega) (fun cm y a s E => ?_)
    unfold spec_l11DrawOk.f
    simp only [e1, e2, Option.bind_some, if_true]
    exact E
  | false =>
    obtain ⟨m, hm⟩ := Int.eq_ofNat_of_zero_le (show 0 ≤ 1 + v1 by omega)
    refine fin m (by omega) (by omega) (fun cm y a s E => ?_)
    unfold spec_l11DrawOk.f
    simp only [e1, e2, Option.bind_some, Bool.false_eq_true, if_false]
    rw [w64 (x := 1 + v1) (by omega) (by omega), hm]
    exact E
end
end Go.Proofs.Ytoebllbpoinifaa.Com

/- The letters of a code, as numbers. -/
namespace Go.Proofs.Ytoebllbpoinifaa.Com
set_option linter.unusedSimpArgs false
set_option linter.unusedVariables false
open Go.RowKit Go.Proofs.Ytoebllbpoinifaa.Q Go.Proofs.YtoebllbpoinifaaW.PrintWords Go.Proofs.YtoebllbpoinifaaW.PrintLast

theorem b10At_tells (l : List Int) (i n : Int) (hl : ∀ x ∈ l, (Lit.int .u8 x).wf = true) (hi : 0 ≤ i ∧ i ≤ 10) (hn : 1 ≤ n) : ∃ r, laws_b10At.f l i n = some r ∧ 0 ≤ r ∧ r < n := by
  unfold laws_b10At.f
  by_cases h1 : n ≤ 1
  · exact ⟨0, by rw [if_pos h1], by omega, by omega⟩
  · rw [if_neg h1]
    by_cases h2 : i < (l.length : Int)
    · rw [if_pos h2, if_pos hi.1, if_neg (show ¬ n = 0 by omega)]
      have hx : 0 ≤ rd l i ∧ rd l i ≤ 255 := by
        have hlt : i.toNat < l.length := by omega
        have : rd l i ∈ l := by
          unfold rd
          rw [List.getD_eq_getElem?_getD, List.getElem?_eq_getElem hlt]
          exact List.getElem_mem hlt
        have := hl _ this
        simp [Lit.wf, IntKind.min, IntKind.max, IntKind.signed, IntKind.bits] at this
        omega
      rw [w64 (by omega) (by omega), tmod_nn hx.1]
      exact ⟨_, rfl, Int.emod_nonneg _ (by omega), Int.emod_lt_of_pos _ (by omega)⟩
    · rw [if_neg h2, if_neg (show ¬ n = 0 by omega), w64 (x := i * 37) (by omega) (by omega), w64 (by omega) (by omega), tmod_nn (by omega)]
      exact ⟨_, rfl, Int.emod_nonneg _ (by omega), Int.emod_lt_of_pos _ (by omega)⟩
end Go.Proofs.Ytoebllbpoinifaa.Com

/- The pure statement of FnCalendars: the days before a year are those of all years before it, the year of a day is the one in which it lies, and the mean year is that of a cycle. -/
namespace Go.Proofs.Ytoebllbpoinifaa.Pure
set_option linter.unusedSimpArgs false
set_option linter.unusedVariables false
set_option linter.unusedSectionVars false
open Go.RowKit Go.Proofs.Ytoebllbpoinifaa.Q Go.Proofs.YtoebllbpoinifaaW.PrintWords Go.Proofs.YtoebllbpoinifaaW.PrintLast Go.Proofs.Ytoebllbpoinifaa.Com

theorem coprime_quot (a b : Int) (ha : 0 ≤ a) (hb : 0 < b) : Nat.gcd (a / (Int.gcd a b : Int)).toNat (b / (Int.gcd a b : Int)).toNat = 1 := by
  have hg : 0 < Int.gcd a b := Int.gcd_pos_of_ne_zero_right _ (by omega)
  obtain ⟨m, rfl⟩ := Int.eq_ofNat_of_zero_le ha
  obtain ⟨n, rfl⟩ := Int.eq_ofNat_of_zero_le (show 0 ≤ b by omega)
  rw [Int.gcd_natCast_natCast, ← Int.natCast_ediv, ← Int.natCast_ediv, Int.toNat_natCast, Int.toNat_natCast]
  exact Nat.gcd_div_gcd_div_gcd_of_pos_right (by omega)
theorem cross (a b g : Int) (hg : g ≠ 0) (h1 : g ∣ a) (h2 : g ∣ b) : a / g * b = a * (b / g) := by
  obtain ⟨u, rfl⟩ := h1
  obtain ⟨v, rfl⟩ := h2
  rw [Int.mul_ediv_cancel_left _ hg, Int.mul_ediv_cancel_left _ hg, Int.mul_left_comm u g v, Int.mul_assoc]
theorem FnCalendars : laws_FnCalendars.Pure := by
  intro code more _ _ hcode _ _ hmore
  apply ev_of
  unfold laws_FnCalendars.f
  by_cases hlong : (code.length : Int) > 1048576 ∨ (more.length : Int) > 1048576
  · have e : laws_b10Long.f code more = some true := by
      unfold laws_b10Long.f
      by_cases h : (code.length : Int) > 1048576
      · rw [if_pos h]
      · rw [if_neg h, decide_eq_true (by omega)]
    rw [e]
    simp
    exact Ev.now _
  have e : laws_b10Long.f code more = some false := by
    unfold laws_b10Long.f
    rw [if_neg (by omega), decide_eq_false (by omega)]
  refine ev_bind' e ?_
  simp only [Bool.false_eq_true, if_false]
  obtain ⟨c, cm, l, hcal, c1, c2, m1, m2, hlen, hr⟩ := b10Cal_ev hcode
  have hv : validCal c cm l = true := by
    unfold validCal
    rw [decide_eq_true (show 1 ≤ c ∧ c ≤ 400 by omega), decide_eq_true (show 1 ≤ cm ∧ cm ≤ 1000 by omega), hr]
    rfl
  have hx : l.length ≤ 1048576 := by omega
  refine Ev.bind hcal ?_
  obtain ⟨year, hyear, y0, y1⟩ := b10At_tells more 0 200 hmore (by omega) (by omega)
  refine ev_bind' hyear ?_
  refine Ev.bind (implDays_ev hx hv year (by omega)) ?_
  have D := fun y (hy : 0 ≤ y ∧ y ≤ 100000) => db_bd (c := c) (cm := cm) (l := l) (by omega) (by omega) hx y hy
  have z0 : db c cm l 0 = 0 := by
    have hin := rises_in l none hr
    unfold db
    rw [Int.zero_mul, Int.zero_ediv, Int.zero_mul, Int.zero_emod, cntLt_none l (fun x hx => (hin x hx).1)]
    rfl
  obtain ⟨ny, rfl⟩ := Int.eq_ofNat_of_zero_le y0
  obtain ⟨nc, rfl⟩ := Int.eq_ofNat_of_zero_le (show 0 ≤ c by omega)
  have key : ∀ m s, m ≤ ny → s = db (nc : Int) cm l (m : Int) → Ev (fun k => laws_FnCalendars.l0 k more (ny : Int) (db (nc : Int) cm l (ny : Int)) true s (m : Int) (nc : Int) cm l) true := by
    refine ev_count ny (fun m s k => laws_FnCalendars.l0 k more (ny : Int) (db (nc : Int) cm l (ny : Int)) true s (m : Int) (nc : Int) cm l) true (fun m s => s = db (nc : Int) cm l (m : Int)) ?_ ?_
    · rintro s rfl
      refine Ev.step (fun k => by rw [laws_FnCalendars.l0]) ?_
      simp only [if_neg (show ¬ (ny : Int) < (ny : Int) by omega)]
      refine Ev.bind (implMean_ev hx hv) ?_
      refine Ev.bind (implDays_ev hx hv (nc : Int) (by omega)) ?_
      have dc := D (nc : Int) (by omega)
      have gd1 := Int.gcd_dvd_left (db (nc : Int) cm l (nc : Int)) (nc : Int)
      have gd2 := Int.gcd_dvd_right (db (nc : Int) cm l (nc : Int)) (nc : Int)
      have cop := coprime_quot (db (nc : Int) cm l (nc : Int)) (nc : Int) dc.1 (by omega)
      have gp : 0 < ((Int.gcd (db (nc : Int) cm l (nc : Int)) (nc : Int) : Nat) : Int) := by
        have : 0 < Int.gcd (db (nc : Int) cm l (nc : Int)) (nc : Int) := Int.gcd_pos_of_ne_zero_right _ (by omega)
        omega
      generalize Int.gcd (db (nc : Int) cm l (nc : Int)) (nc : Int) = g at gd1 gd2 cop gp ⊢
      have q1 : 0 ≤ db (nc : Int) cm l (nc : Int) / (g : Int) := Int.ediv_nonneg dc.1 (by omega)
      have q2 : 0 ≤ (nc : Int) / (g : Int) := Int.ediv_nonneg (by omega) (by omega)
      simp only [if_true]
      rw [cross (db (nc : Int) cm l (nc : Int)) (nc : Int) (g : Int) (by omega) gd1 gd2]
      simp only [if_true]
      have hg : Ev (fun k => laws_b10Gcd.f k (db (nc : Int) cm l (nc : Int) / (g : Int)) ((nc : Int) / (g : Int))) 1 := by
        have := b10Gcd_ev ((nc : Int) / (g : Int)).toNat (db (nc : Int) cm l (nc : Int) / (g : Int)).toNat ((nc : Int) / (g : Int)).toNat (Nat.le_refl _)
        rw [Int.toNat_of_nonneg q1, Int.toNat_of_nonneg q2, cop] at this
        exact this
      refine Ev.bind hg ?_
      simp only [if_true]
      refine Ev.bind (implLeap_ev hx hv (ny : Int) (by omega)) ?_
      simp only [if_neg (show ¬ (nc : Int) = 0 by omega), tmod_nn (show 0 ≤ (ny : Int) by omega)]
      refine Ev.bind (b10Has_ev l _ hx) ?_
      rw [bne_self_eq_false]
      refine Ev.step (fun k => by rw [laws_FnCalendars.j1]) ?_
      simp only [Bool.false_eq_true, if_false]
      obtain ⟨t, ht, t0, t1⟩ := b10At_tells more 1 cm hmore (by omega) (by omega)
      have dy := D (ny : Int) (by omega)
      have st := db_step (c := (nc : Int)) (cm := cm) (l := l) (by omega) (by omega) hx (ny : Int) (by omega)
      have d0 : db (nc : Int) cm l (ny : Int) + cm ≤ db (nc : Int) cm l 100000 := by
        by_cases q : (ny : Int) + 1 = 100000
        · rw [q] at st; exact st
        · have := db_lt (c := (nc : Int)) (cm := cm) (l := l) (by omega) (by omega) hx (y := (ny : Int) + 1) (z := 100000) (by omega) (by omega)
          omega
      simp only [ht, Option.bind_some]
      rw [w64 (x := db (nc : Int) cm l (ny : Int) + t) (by omega) (by omega)]
      obtain ⟨y, hy, he⟩ := implYearOf_ev hx hv (db (nc : Int) cm l (ny : Int) + t) (by omega) (by rw [z0]; omega) (by omega)
      obtain rfl := IsYear.uniq (c := (nc : Int)) (cm := cm) (l := l) (by omega) (by omega) hx _ hy (z := (ny : Int)) ⟨by omega, by omega, by omega, by omega⟩
      refine Ev.bind he ?_
      simp only [if_true]
      rw [w64 (x := db (nc : Int) cm l (ny : Int) + t - db (nc : Int) cm l (ny : Int)) (by omega) (by omega)]
      simp only [if_true]
      refine Ev.bind (implValid_ev (nc : Int) cm l hx) ?_
      rw [hv]
      exact Ev.now _
    · rintro m s hm rfl
      refine ⟨_, rfl, fun ih => ?_⟩
      refine Ev.step (fun k => by rw [laws_FnCalendars.l0]) ?_
      simp only [if_pos (show (m : Int) < (ny : Int) by omega), w_succ (m := m) (by omega)]
      refine Ev.bind (implLeap_ev hx hv (m : Int) (by omega)) ?_
      have sc := db_succ (c := (nc : Int)) (cm := cm) (l := l) (by omega) hr (m : Int) (by omega)
      have dm := D (m : Int) (by omega)
      rw [show (m : Int) + 1 = ((m + 1 : Nat) : Int) by omega] at sc
      rw [w64 (x := db (nc : Int) cm l (m : Int) + cm) (by omega) (by omega), w64 (x := db (nc : Int) cm l (m : Int) + cm + 1) (by omega) (by omega)]
      by_cases q : (m : Int) % (nc : Int) ∈ l
      · simp only [decide_eq_true q, if_true]
        rw [if_pos q] at sc
        rw [sc] at ih
        exact ih
      · simp only [decide_eq_false q, Bool.false_eq_true, if_false]
        rw [if_neg q, Int.add_zero] at sc
        rw [sc] at ih
        exact ih
  have := key 0 0 (by omega) (by rw [show ((0 : Nat) : Int) = 0 from rfl, z0])
  exact this
end Go.Proofs.Ytoebllbpoinifaa.Pure
