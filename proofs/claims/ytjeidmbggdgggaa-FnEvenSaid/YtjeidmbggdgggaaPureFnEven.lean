import Derived.Test.YtjeidmbggdgggaaWNEv
import Derived.Test.YtjeidmbggdgggaaWMore
import Derived.Test.YtjeidmbggdgggaaQ1
import Derived.Test.YtjeidmbggdgggaaQ2
import Derived.Test.YtjeidmbggdgggaaQ7
import Derived.Test.YtjeidmbggdgggaaQ11
import Derived.Test.YtjeidmbggdgggaaQ12
import Derived.Test.YtjeidmbggdgggaaQ15
import Derived.Test.YtjeidmbggdgggaaQ16
import Derived.Test.YtjeidmbggdgggaaQ20
import Derived.Test.YtjeidmbggdgggaaQ21
import Derived.Test.YtjeidmbggdgggaaQ22
import Derived.Test.YtjeidmbggdgggaaQ23
import Derived.Test.YtjeidmbggdgggaaQ24
import Derived.Test.YtjeidmbggdgggaaQ25
import Derived.Test.YtjeidmbggdgggaaQ26
import Derived.Test.YtjeidmbggdgggaaQ27
import Derived.Test.YtjeidmbggdgggaaQ28
import Derived.Test.YtjeidmbggdgggaaQ37
import Derived.Test.YtjeidmbggdgggaaQ54
import Derived.Test.YtjeidmbggdgggaaQ55
import Derived.Test.YtjeidmbggdgggaaQ57
/- Small facts of whole numbers, of wrapping, and of rounds that suffice, for the pure statements. -/
namespace Go.Proofs.Ytjeidmbggdgggaa.Com
open Go.RowKit Go.Proofs.YtjeidmbggdgggaaW.PrintWords

theorem w64 {x : Int} (h1 : -9223372036854775808 ≤ x) (h2 : x ≤ 9223372036854775807) : wrap64 x = x := by
  unfold wrap64
  omega
theorem mul_bd {a b A B : Int} (h0 : 0 ≤ a) (h1 : a ≤ A) (h2 : 0 ≤ b) (h3 : b ≤ B) : 0 ≤ a * b ∧ a * b ≤ A * B :=
  ⟨Int.mul_nonneg h0 h2, Int.mul_le_mul h1 h3 h2 (Int.le_trans h0 h1)⟩
theorem ev_of {α : Type} {g : Nat → Option α} {r : α} (h : Ev g r) : ∃ k, g k = some r := h.rounds
theorem ev_bind' {α β : Type} {o : Option α} {f : Nat → α → Option β} {a : α} {r : β} (h : o = some a) (k : Ev (fun n => f n a) r) : Ev (fun n => o.bind (f n)) r := by
  subst h
  exact k
theorem tdiv_nn {a b : Int} (h : 0 ≤ a) : Int.tdiv a b = a / b := Int.tdiv_eq_ediv_of_nonneg h
theorem tmod_nn {a b : Int} (h : 0 ≤ a) : Int.tmod a b = a % b := Int.tmod_eq_emod_of_nonneg h
end Go.Proofs.Ytjeidmbggdgggaa.Com

/- Loops over lists, by their rounds: general lemmas. -/
namespace Go.Proofs.Ytjeidmbggdgggaa.Com
set_option linter.unusedSimpArgs false
set_option linter.unusedVariables false
open Go.RowKit Go.Proofs.YtjeidmbggdgggaaW.PrintWords

theorem ev_fold {α σ ρ : Type} (xs : List α) (g : Nat → σ → Nat → Option ρ) (F : List α → σ → ρ) (Inv : Nat → σ → Prop)
    (h0 : ∀ s, Inv xs.length s → Ev (g xs.length s) (F [] s))
    (hs : ∀ m (h : m < xs.length) s, Inv m s → (∀ s', Inv (m + 1) s' → Ev (g (m + 1) s') (F (xs.drop (m + 1)) s')) → Ev (g m s) (F (xs[m] :: xs.drop (m + 1)) s)) :
    ∀ m s, m ≤ xs.length → Inv m s → Ev (g m s) (F (xs.drop m) s) := by
  have key : ∀ d m s, m + d = xs.length → Inv m s → Ev (g m s) (F (xs.drop m) s) := by
    intro d
    induction d with
    | zero =>
      intro m s e hi
      obtain rfl : m = xs.length := by omega
      rw [List.drop_length]
      exact h0 s hi
    | succ d ih =>
      intro m s e hi
      have h : m < xs.length := by omega
      rw [List.drop_eq_getElem_cons h]
      exact hs m h s hi (fun s' hi' => ih (m + 1) s' (by omega) hi')
  intro m s hm hi
  exact key (xs.length - m) m s (by omega) hi
/-- A loop that counts from m up to n. -/
theorem ev_count {σ ρ : Type} (n : Nat) (g : Nat → σ → Nat → Option ρ) (r : ρ) (Inv : Nat → σ → Prop) (h0 : ∀ s, Inv n s → Ev (g n s) r)
    (hs : ∀ m s, m < n → Inv m s → ∃ s', Inv (m + 1) s' ∧ (Ev (g (m + 1) s') r → Ev (g m s) r)) : ∀ m s, m ≤ n → Inv m s → Ev (g m s) r := by
  have key : ∀ d m s, m + d = n → Inv m s → Ev (g m s) r := by
    intro d
    induction d with
    | zero =>
      intro m s e hi
      obtain rfl : m = n := by omega
      exact h0 s hi
    | succ d ih =>
      intro m s e hi
      obtain ⟨s', hi', k⟩ := hs m s (by omega) hi
      exact k (ih (m + 1) s' (by omega) hi')
  intro m s hm hi
  exact key (n - m) m s (by omega) hi
theorem rd_nat {xs : List Int} {m : Nat} (h : m < xs.length) : rd xs (m : Int) = xs[m] := by
  unfold rd
  rw [Int.toNat_natCast, List.getD_eq_getElem?_getD, List.getElem?_eq_getElem h]
  rfl
theorem w_succ {m : Nat} (h : m < 9223372036854775807) : wrap64 ((m : Int) + 1) = ((m + 1 : Nat) : Int) := by
  rw [w64 (by omega) (by omega)]
  omega
theorem w_pred {m : Nat} (h : 0 < m) (h' : m < 9223372036854775807) : wrap64 ((m : Int) - 1) = ((m - 1 : Nat) : Int) := by
  rw [w64 (by omega) (by omega)]
  omega
end Go.Proofs.Ytjeidmbggdgggaa.Com

/- The word of a line on the reference's side, and the calendar with evenly placed leap years. -/
namespace Go.Proofs.Ytjeidmbggdgggaa.Com
set_option linter.unusedSimpArgs false
set_option linter.unusedVariables false
set_option linter.unusedSectionVars false
open Go.RowKit Go.Proofs.YtjeidmbggdgggaaW.PrintWords Go.Proofs.YtjeidmbggdgggaaW.PrintMore Go.Proofs.Ytjeidmbggdgggaa.Q

theorem bt_str (xs : List Int) (m : Nat) (h : m < xs.length) (hb : ∀ x ∈ xs, 0 ≤ x ∧ x ≤ 255) : bt (strOfNums xs) (m : Int) = xs[m] := by
  have hs : (strOfNums xs).size = xs.length := by rw [strOfNums_size]
  unfold bt
  rw [dif_pos (by rw [Int.toNat_natCast, hs]; exact h)]
  have hx := hb _ (List.getElem_mem h)
  have : (strOfNums xs)[((m : Int)).toNat]'(by rw [Int.toNat_natCast, hs]; exact h) = UInt8.ofNat (xs[m]).toNat := by
    simp [strOfNums, ByteArray.getElem_eq_getElem_data]
  rw [this]
  simp
  omega
/-- The letter of a word of a line at a place: 98 where the floor rises. -/
def stepUp (a b s : Int) (i : Nat) : Bool := decide ((((i : Int) + 1) * a + s) / b > ((i : Int) * a + s) / b)
def letters (a b s : Int) (n : Nat) : List Int := (List.range n).map fun i => if stepUp a b s i then 98 else 97
theorem letters_len (a b s : Int) (n : Nat) : (letters a b s n).length = n := by simp [letters]
theorem letters_succ (a b s : Int) (n : Nat) : letters a b s (n + 1) = letters a b s n ++ [if stepUp a b s n then 98 else 97] := by
  simp [letters, List.range_succ]
theorem letters_at (a b s : Int) (n i : Nat) (h : i < (letters a b s n).length) : (letters a b s n)[i] = if stepUp a b s i then 98 else 97 := by
  simp [letters]
theorem letters_byte (a b s : Int) (n : Nat) : ∀ x ∈ letters a b s n, 0 ≤ x ∧ x ≤ 255 := by
  intro x hx
  unfold letters at hx
  obtain ⟨i, _, rfl⟩ := List.mem_map.1 hx
  split <;> omega
def ups (a b s : Int) (n : Nat) : List Int := ((List.range n).filter fun i => stepUp a b s i).map fun (i : Nat) => (i : Int)
theorem ups_succ (a b s : Int) (n : Nat) : ups a b s (n + 1) = if stepUp a b s n then ups a b s n ++ [(n : Int)] else ups a b s n := by
  unfold ups
  rw [List.range_succ, List.filter_append, List.map_append]
  by_cases h : stepUp a b s n = true <;> simp [h]
theorem ups_len (a b s : Int) (n : Nat) : (ups a b s n).length ≤ n := by
  unfold ups
  rw [List.length_map]
  have := List.length_filter_le (fun i => stepUp a b s i) (List.range n)
  simpa using this
end Go.Proofs.Ytjeidmbggdgggaa.Com

/- The program's and the reference's tests of bounds. -/
namespace Go.Proofs.Ytjeidmbggdgggaa.Com
set_option linter.unusedSimpArgs false
set_option linter.unusedVariables false
open Go.RowKit Go.Proofs.YtjeidmbggdgggaaW.PrintWords Go.Proofs.Ytjeidmbggdgggaa.Q

theorem within_tells (x a b : Int) : impl_within.f x a b = some (decide (a ≤ x ∧ x ≤ b)) := by
  unfold impl_within.f
  split <;> simp [*]
theorem in_tells (x a b : Int) : spec_l00In.f x a b = some (decide (a ≤ x ∧ x ≤ b)) := by
  unfold spec_l00In.f
  by_cases h : x ≥ a
  · have h' : a ≤ x := h
    simp [h, h']
  · have h' : ¬ a ≤ x := h
    simp [h, h']
end Go.Proofs.Ytjeidmbggdgggaa.Com

/- The program's calendar with evenly placed leap years, and the reference's. -/
namespace Go.Proofs.Ytjeidmbggdgggaa.Com
set_option linter.unusedSimpArgs false
set_option linter.unusedVariables false
set_option linter.unusedSectionVars false
open Go.RowKit Go.Proofs.YtjeidmbggdgggaaW.PrintWords Go.Proofs.YtjeidmbggdgggaaW.PrintMore Go.Proofs.Ytjeidmbggdgggaa.Q

theorem implFloor_nn {x b : Int} (hx : 0 ≤ x ∧ x ≤ 1000000000) (hb : 1 ≤ b) : impl_floor.f x b = some (x / b) := by
  have q0 : 0 ≤ x / b := Int.ediv_nonneg hx.1 (by omega)
  have q1 : x / b ≤ x := Int.ediv_le_self _ hx.1
  have q2 := Int.emod_nonneg x (show b ≠ 0 by omega)
  unfold impl_floor.f
  rw [if_neg (by omega), tmod_nn hx.1, tdiv_nn hx.1, w64 (x := x / b) (by omega) (by omega), if_neg (by omega)]
theorem implSteps_ev (a b s : Int) (n : Nat) (ha : 0 ≤ a ∧ a ≤ 1000) (hb : 1 ≤ b) (hs : 0 ≤ s ∧ s ≤ 1000) (hn : n ≤ 1000) : Ev (fun k => impl_steps.f k a b s (n : Int) 98 97) (strOfNums (letters a b s n)) := by
  unfold impl_steps.f
  refine ev_count n (fun m l k => impl_steps.l0 k a b s 98 97 l (n : Int) (m : Int)) (strOfNums (letters a b s n)) (fun m l => l = letters a b s m) ?_ ?_ 0 [] (by omega) rfl
  · rintro l rfl
    refine Ev.step (fun k => by rw [impl_steps.l0]) ?_
    simp only [if_neg (show ¬ (n : Int) < (n : Int) by omega)]
    exact Ev.now _
  · rintro m l hm rfl
    refine ⟨_, rfl, fun ih => ?_⟩
    refine Ev.step (fun k => by rw [impl_steps.l0]) ?_
    have p1 := mul_bd (a := (m : Int)) (b := a) (by omega) (show (m : Int) ≤ 1000 by omega) ha.1 ha.2
    have p2 := mul_bd (a := (m : Int) + 1) (b := a) (by omega) (show (m : Int) + 1 ≤ 1000 by omega) ha.1 ha.2
    simp only [if_pos (show (m : Int) < (n : Int) by omega)]
    rw [w64 (x := (m : Int) + 1) (by omega) (by omega), w64 (x := ((m : Int) + 1) * a) (by omega) (by omega), w64 (x := ((m : Int) + 1) * a + s) (by omega) (by omega), w64 (x := (m : Int) * a) (by omega) (by omega), w64 (x := (m : Int) * a + s) (by omega) (by omega)]
    rw [implFloor_nn (by omega) hb, implFloor_nn (by omega) hb]
    simp only [Option.bind_some, letters_len, if_pos (show m < 140737488355328 by omega)]
    rw [show ((m : Int) + 1) = ((m + 1 : Nat) : Int) by omega] at *
    rw [letters_succ] at ih
    by_cases q : (((m + 1 : Nat) : Int) * a + s) / b > ((m : Int) * a + s) / b
    · simp only [if_pos q]
      rw [show stepUp a b s m = true from by unfold stepUp; exact decide_eq_true (by rw [show ((m : Int) + 1) = ((m + 1 : Nat) : Int) by omega]; exact q)] at ih
      exact ih
    · simp only [if_neg q]
      rw [show stepUp a b s m = false from by unfold stepUp; exact decide_eq_false (by rw [show ((m : Int) + 1) = ((m + 1 : Nat) : Int) by omega]; exact q)] at ih
      exact ih
theorem implEvenLoop_ev (c lp cm sh : Int) (n : Nat) (hn : n ≤ 1000) : Ev (fun k => impl_EvenCalendar.l0 k 0 (strOfNums (letters lp c sh n)) c cm []) (c, cm, ups lp c sh n, true) := by
  refine ev_count n (fun m l k => impl_EvenCalendar.l0 k m (strOfNums (letters lp c sh n)) c cm l) _ (fun m l => l = ups lp c sh m) ?_ ?_ 0 [] (by omega) rfl
  · rintro l rfl
    refine Ev.step (fun k => by rw [impl_EvenCalendar.l0]) ?_
    simp only [strOfNums_size, letters_len, if_neg (show ¬ n < n by omega)]
    exact Ev.now _
  · rintro m l hm rfl
    refine ⟨_, rfl, fun ih => ?_⟩
    refine Ev.step (fun k => by rw [impl_EvenCalendar.l0]) ?_
    have hl := ups_len lp c sh m
    have e : bt (strOfNums (letters lp c sh n)) (m : Int) = if stepUp lp c sh m then 98 else 97 := by
      rw [bt_str _ m (by rw [letters_len]; exact hm) (letters_byte lp c sh n), letters_at]
    simp only [strOfNums_size, letters_len, if_pos hm, e]
    rw [ups_succ] at ih
    by_cases q : stepUp lp c sh m = true
    · simp only [q, if_true] at ih ⊢
      simp only [if_pos (show (98 : Int) < 128 by omega), if_true, if_pos (show (ups lp c sh m).length < 17592186044416 by omega)]
      exact ih
    · simp only [Bool.not_eq_true] at q
      simp only [q, Bool.false_eq_true, if_false] at ih ⊢
      simp only [if_pos (show (97 : Int) < 128 by omega), if_neg (show ¬ (97 : Int) = 98 by omega)]
      exact ih
def evR (c lp cm sh : Int) : Int × Int × List Int × Bool := if ((1 ≤ c ∧ c ≤ 400) ∧ (0 ≤ lp ∧ lp ≤ c)) ∧ ((1 ≤ cm ∧ cm ≤ 1000) ∧ (0 ≤ sh ∧ sh ≤ c - 1)) then (c, cm, ups lp c sh c.toNat, true) else (0, 0, [], false)
theorem implEven_ev (c lp cm sh : Int) : Ev (fun k => impl_EvenCalendar.f k c lp cm sh) (evR c lp cm sh) := by
  unfold impl_EvenCalendar.f evR
  have j1 : Ev (fun k => impl_EvenCalendar.j0 k c lp cm sh true) (0, 0, [], false) := Ev.step (fun k => by rw [impl_EvenCalendar.j0]) (by simp only [if_true]; exact Ev.now _)
  refine ev_bind' (within_tells _ _ _) ?_
  by_cases h1 : 1 ≤ c ∧ c ≤ 400
  · simp only [decide_eq_true h1, if_true, h1, true_and]
    refine ev_bind' (within_tells _ _ _) ?_
    by_cases h2 : 0 ≤ lp ∧ lp ≤ c
    · simp only [decide_eq_true h2, if_true, h2, true_and]
      refine ev_bind' (within_tells _ _ _) ?_
      by_cases h3 : 1 ≤ cm ∧ cm ≤ 1000
      · simp only [decide_eq_true h3, if_true, h3, true_and]
        rw [w64 (x := c - 1) (by omega) (by omega)]
        refine ev_bind' (within_tells _ _ _) ?_
        by_cases h4 : 0 ≤ sh ∧ sh ≤ c - 1
        · simp only [h4, and_self, decide_true, if_true, true_and, Bool.not_true]
          refine Ev.step (fun k => by rw [impl_EvenCalendar.j0]) ?_
          simp only [Bool.false_eq_true, if_false]
          have hc : ((c.toNat : Nat) : Int) = c := Int.toNat_of_nonneg (by omega)
          have e := implSteps_ev lp c sh c.toNat (by omega) (by omega) (by omega) (by omega)
          rw [hc] at e
          exact Ev.bind e (implEvenLoop_ev c lp cm sh c.toNat (by omega))
        · simp only [decide_eq_false h4, if_neg h4, Bool.not_false]
          exact j1
      · simp only [decide_eq_false h3, Bool.false_eq_true, if_false, h3, false_and]
        exact j1
    · simp only [decide_eq_false h2, Bool.false_eq_true, if_false, h2, false_and]
      exact j1
  · simp only [decide_eq_false h1, Bool.false_eq_true, if_false, h1, false_and]
    exact j1
end Go.Proofs.Ytjeidmbggdgggaa.Com

/- The days before a year, on both sides. -/
namespace Go.Proofs.Ytjeidmbggdgggaa.Com
set_option linter.unusedSimpArgs false
set_option linter.unusedVariables false
set_option linter.unusedSectionVars false
open Go.RowKit Go.Proofs.YtjeidmbggdgggaaW.PrintWords Go.Proofs.YtjeidmbggdgggaaW.PrintMore Go.Proofs.Ytjeidmbggdgggaa.Q

/-! ### Days -/
def cntLt (b : Int) : List Int → Int
  | [] => 0
  | x :: r => (if x < b then 1 else 0) + cntLt b r
theorem cntLt_bd (b : Int) (l : List Int) : 0 ≤ cntLt b l ∧ cntLt b l ≤ l.length := by
  induction l with
  | nil => simp [cntLt]
  | cons x r ih => unfold cntLt; rw [List.length_cons]; split <;> omega
def db (c cm : Int) (l : List Int) (y : Int) : Int := y * cm + y / c * (l.length : Int) + cntLt (y % c) l
section
variable {c cm : Int} {l : List Int} (hc : 1 ≤ c ∧ c ≤ 400) (hm : 1 ≤ cm ∧ cm ≤ 1000) (hx : l.length ≤ 1048576)
include hc hm hx
theorem db_parts (y : Int) (hy : 0 ≤ y ∧ y ≤ 100000) : 0 ≤ y * cm ∧ y * cm ≤ 100000000 ∧ 0 ≤ y / c ∧ y / c ≤ 100000 ∧ 0 ≤ y / c * (l.length : Int) ∧ y / c * (l.length : Int) ≤ 104857600000 ∧ 0 ≤ y % c ∧ y % c < c := by
  have a := mul_bd hy.1 hy.2 (show 0 ≤ cm by omega) hm.2
  have b1 : 0 ≤ y / c := Int.ediv_nonneg hy.1 (by omega)
  have b2 : y / c ≤ y := Int.ediv_le_self _ hy.1
  have b := mul_bd b1 (show y / c ≤ 100000 by omega) (show (0 : Int) ≤ (l.length : Int) by omega) (show (l.length : Int) ≤ 1048576 by omega)
  have d := Int.emod_nonneg y (show c ≠ 0 by omega)
  have e := Int.emod_lt_of_pos y (show 0 < c by omega)
  omega
theorem db_bd (y : Int) (hy : 0 ≤ y ∧ y ≤ 100000) : 0 ≤ db c cm l y ∧ db c cm l y ≤ 200000000000 := by
  have := db_parts hc hm hx y hy
  have := cntLt_bd (y % c) l
  unfold db
  omega
theorem l11Before_ev (y : Int) (hy : 0 ≤ y ∧ y ≤ 100000) : Ev (fun k => spec_l11Before.f k c cm l y) (db c cm l y) := by
  have p := db_parts hc hm hx y hy
  unfold spec_l11Before.f
  simp only [if_neg (show ¬ c = 0 by omega), tdiv_nn hy.1]
  rw [w64 (x := y / c) (by omega) (by omega), w64 (x := y / c * (l.length : Int)) (by omega) (by omega), w64 (x := y * cm) (by omega) (by omega), w64 (by omega) (by omega)]
  have gen := ev_fold l (fun m s k => spec_l11Before.l0 k y s (m : Int) c cm l) (fun r s => s + cntLt (y % c) r) (fun m s => 0 ≤ s ∧ s ≤ 200000000000 - (l.length - m)) ?_ ?_ 0 (y * cm + y / c * (l.length : Int)) (by omega) (by omega)
  · simpa [db] using gen
  · intro s hs
    refine Ev.step (fun k => by rw [spec_l11Before.l0]) ?_
    simp only [if_neg (show ¬ (l.length : Int) < (l.length : Int) by omega), cntLt, Int.add_zero]
    exact Ev.now _
  · intro m h s hs ih
    refine Ev.step (fun k => by rw [spec_l11Before.l0]) ?_
    simp only [if_pos (show (m : Int) < (l.length : Int) by omega), if_pos (show 0 ≤ (m : Int) by omega), rd_nat h, w_succ (m := m) (by omega), if_neg (show ¬ c = 0 by omega), tmod_nn hy.1]
    unfold cntLt
    by_cases q : l[m] < y % c
    · simp only [if_pos q]
      rw [w64 (by omega) (by omega)]
      have := ih (s + 1) (by omega)
      rwa [Int.add_assoc] at this
    · simp only [if_neg q, Int.zero_add]
      exact ih s (by omega)
theorem daysBefore_ev (y : Int) (hy : 0 ≤ y ∧ y ≤ 100000) : Ev (fun k => impl_Calendar_daysBefore.f k c cm l y) (db c cm l y) := by
  have p := db_parts hc hm hx y hy
  unfold impl_Calendar_daysBefore.f impl_size_int64.f
  simp only [if_neg (show ¬ c = 0 by omega), tdiv_nn hy.1, Option.bind_some]
  rw [w64 (x := y / c) (by omega) (by omega), w64 (x := y / c * (l.length : Int)) (by omega) (by omega)]
  have gen := ev_fold l (fun m s k => impl_Calendar_daysBefore.l0 k y s l (l.length : Int) (m : Int) c cm l) (fun r s => y * cm + (s + cntLt (y % c) r)) (fun m s => 0 ≤ s ∧ s ≤ 200000000000 - (l.length - m)) ?_ ?_ 0 (y / c * (l.length : Int)) (by omega) (by omega)
  · simpa [db, Int.add_assoc] using gen
  · intro s hs
    refine Ev.step (fun k => by rw [impl_Calendar_daysBefore.l0]) ?_
    simp only [if_neg (show ¬ (l.length : Int) < (l.length : Int) by omega), cntLt, Int.add_zero]
    rw [w64 (x := y * cm) (by omega) (by omega), w64 (by omega) (by omega)]
    exact Ev.now _
  · intro m h s hs ih
    refine Ev.step (fun k => by rw [impl_Calendar_daysBefore.l0]) ?_
    simp only [if_pos (show (m : Int) < (l.length : Int) by omega), if_pos (show 0 ≤ (m : Int) by omega), rd_nat h, w_succ (m := m) (by omega), if_neg (show ¬ c = 0 by omega), tmod_nn hy.1]
    unfold cntLt impl_bit.f
    by_cases q : l[m] < y % c
    · simp only [if_pos q, decide_eq_true q, if_true, Option.bind_some]
      rw [w64 (x := s + 1) (by omega) (by omega)]
      have := ih (s + 1) (by omega)
      rwa [Int.add_assoc] at this
    · simp only [if_neg q, decide_eq_false q, Bool.false_eq_true, if_false, Option.bind_some, Int.zero_add, Int.add_zero]
      rw [w64 (x := s) (by omega) (by omega)]
      exact ih s (by omega)
end
end Go.Proofs.Ytjeidmbggdgggaa.Com

/- A set of numbers below a bound: the program's test and the reference's. -/
namespace Go.Proofs.Ytjeidmbggdgggaa.Com
set_option linter.unusedSimpArgs false
set_option linter.unusedVariables false
open Go.RowKit Go.Proofs.YtjeidmbggdgggaaW.PrintWords Go.Proofs.Ytjeidmbggdgggaa.Q

/-- Rising numbers from lo to hi, all above p. -/
def risesFrom (lo hi : Int) : Option Int → List Int → Bool
  | _, [] => true
  | p, x :: r => decide (lo ≤ x ∧ x ≤ hi) && (match p with | none => true | some y => decide (y < x)) && risesFrom lo hi (some x) r
def rises (lo hi : Int) (l : List Int) : Bool := risesFrom lo hi none l

theorem rises_ev (xs : List Int) (lo hi : Int) (hx : xs.length ≤ 1048576) : Ev (fun k => spec_l00Rises.f k xs lo hi) (rises lo hi xs) := by
  unfold spec_l00Rises.f
  have gen := ev_fold xs (fun m (p : Option Int) k => spec_l00Rises.l0 k xs lo hi (m : Int)) (fun l p => risesFrom lo hi p l) (fun m p => p = if h : 0 < m ∧ m - 1 < xs.length then some (xs[m - 1]'h.2) else none) ?_ ?_ 0 none (by omega) (by simp)
  · simpa [rises] using gen
  · intro s hs
    refine Ev.step (fun k => by rw [spec_l00Rises.l0]) ?_
    simp only [if_neg (show ¬ (xs.length : Int) < (xs.length : Int) by omega)]
    exact Ev.now _
  · intro m hm s hs ih
    have ih' := ih (some xs[m]) (by simp [hm])
    refine Ev.step (fun k => by rw [spec_l00Rises.l0]) ?_
    simp only [if_pos (show (m : Int) < (xs.length : Int) by omega), if_pos (show 0 ≤ (m : Int) by omega), rd_nat hm, in_tells, Option.bind_some, w_succ (m := m) (by omega), decide_eq_true_eq]
    by_cases c : lo ≤ xs[m] ∧ xs[m] ≤ hi
    · simp only [if_pos c]
      unfold risesFrom
      rw [decide_eq_true c, Bool.true_and]
      by_cases hp : (m : Int) > 0
      · have hp' : 0 < m ∧ m - 1 < xs.length := by omega
        rw [dif_pos hp'] at hs
        subst hs
        simp only [if_pos hp, w_pred (m := m) (by omega) (by omega), if_pos (show (0 : Int) ≤ ((m - 1 : Nat) : Int) by omega), if_pos (show ((m - 1 : Nat) : Int) < (xs.length : Int) by omega), rd_nat hp'.2]
        by_cases q : xs[m - 1] ≥ xs[m]
        · simp only [if_pos q]
          rw [decide_eq_false (by omega), Bool.false_and]
          exact Ev.now _
        · simp only [if_neg q]
          rw [decide_eq_true (by omega), Bool.true_and]
          exact ih'
      · rw [dif_neg (by omega)] at hs
        subst hs
        simp only [if_neg hp, Bool.true_and]
        exact ih'
    · simp only [if_neg c]
      unfold risesFrom
      rw [decide_eq_false c]
      simp
      exact Ev.now _
theorem isSet_ev (xs : List Int) (b : Int) (hx : xs.length ≤ 1048576) (hb : -9223372036854775807 ≤ b ∧ b ≤ 9223372036854775807) : Ev (fun k => impl_isSet.f k xs b) (rises 0 (b - 1) xs) := by
  unfold impl_isSet.f
  have gen := ev_fold xs (fun m (p : Option Int) k => impl_isSet.l0 k xs b xs (xs.length : Int) (m : Int)) (fun l p => risesFrom 0 (b - 1) p l) (fun m p => p = if h : 0 < m ∧ m - 1 < xs.length then some (xs[m - 1]'h.2) else none) ?_ ?_ 0 none (by omega) (by simp)
  · simpa [rises] using gen
  · intro s hs
    refine Ev.step (fun k => by rw [impl_isSet.l0]) ?_
    simp only [if_neg (show ¬ (xs.length : Int) < (xs.length : Int) by omega)]
    exact Ev.now _
  · intro m hm s hs ih
    have ih' := ih (some xs[m]) (by simp [hm])
    refine Ev.step (fun k => by rw [impl_isSet.l0]) ?_
    simp only [if_pos (show (m : Int) < (xs.length : Int) by omega), if_pos (show 0 ≤ (m : Int) by omega), rd_nat hm, within_tells, Option.bind_some, w_succ (m := m) (by omega), decide_eq_true_eq, w64 (x := b - 1) (by omega) (by omega)]
    by_cases c : 0 ≤ xs[m] ∧ xs[m] ≤ b - 1
    · simp only [if_pos c]
      unfold risesFrom
      rw [decide_eq_true c, Bool.true_and]
      by_cases hp : (m : Int) > 0
      · have hp' : 0 < m ∧ m - 1 < xs.length := by omega
        rw [dif_pos hp'] at hs
        subst hs
        simp only [if_pos hp, w_pred (m := m) (by omega) (by omega), if_pos (show (0 : Int) ≤ ((m - 1 : Nat) : Int) by omega), if_pos (show ((m - 1 : Nat) : Int) < (xs.length : Int) by omega), rd_nat hp'.2]
        by_cases q : xs[m] ≤ xs[m - 1]
        · simp only [if_pos q]
          rw [decide_eq_false (by omega), Bool.false_and]
          exact Ev.now _
        · simp only [if_neg q]
          rw [decide_eq_true (by omega), Bool.true_and]
          exact ih'
      · rw [dif_neg (by omega)] at hs
        subst hs
        simp only [if_neg hp, Bool.true_and]
        exact ih'
    · simp only [if_neg c]
      unfold risesFrom
      rw [decide_eq_false c]
      simp
      exact Ev.now _
end Go.Proofs.Ytjeidmbggdgggaa.Com

/- What the laws' own helpers tell: a copy is the list itself, equality is equality, sizes are told. -/
namespace Go.Proofs.Ytjeidmbggdgggaa.Com
set_option linter.unusedSimpArgs false
set_option linter.unusedVariables false
open Go.RowKit Go.Proofs.YtjeidmbggdgggaaW.PrintWords Go.Proofs.Ytjeidmbggdgggaa.Q

end Go.Proofs.Ytjeidmbggdgggaa.Com

/- Calendars: the two tests of validity, copies and sizes. -/
namespace Go.Proofs.Ytjeidmbggdgggaa.Com
set_option linter.unusedSimpArgs false
set_option linter.unusedVariables false
set_option linter.unusedSectionVars false
open Go.RowKit Go.Proofs.YtjeidmbggdgggaaW.PrintWords Go.Proofs.YtjeidmbggdgggaaW.PrintMore Go.Proofs.Ytjeidmbggdgggaa.Q

def validCal (c cm : Int) (l : List Int) : Bool := decide (1 ≤ c ∧ c ≤ 400) && decide (1 ≤ cm ∧ cm ≤ 1000) && rises 0 (c - 1) l
theorem l11Calendar_ev (c cm : Int) (l : List Int) (hx : l.length ≤ 1048576) : Ev (fun k => spec_l11Calendar.f k c cm l) (validCal c cm l) := by
  unfold spec_l11Calendar.f validCal
  simp only [in_tells, Option.bind_some, decide_eq_true_eq]
  by_cases h1 : 1 ≤ c ∧ c ≤ 400
  · simp only [if_pos h1, decide_eq_true h1, Bool.true_and]
    by_cases h2 : 1 ≤ cm ∧ cm ≤ 1000
    · simp only [if_pos h2, decide_eq_true h2, Bool.true_and]
      rw [w64 (by omega) (by omega)]
      exact Ev.bind (rises_ev l 0 (c - 1) hx) (Ev.now _)
    · simp only [if_neg h2, decide_eq_false h2, Bool.false_and]
      exact Ev.now _
  · simp only [if_neg h1, decide_eq_false h1, Bool.false_and]
    exact Ev.now _
theorem implValid_ev (c cm : Int) (l : List Int) (hx : l.length ≤ 1048576) : Ev (fun k => impl_ValidCalendar.f k c cm l) (validCal c cm l) := by
  unfold impl_ValidCalendar.f validCal
  simp only [within_tells, Option.bind_some, decide_eq_true_eq]
  by_cases h1 : 1 ≤ c ∧ c ≤ 400
  · simp only [if_pos h1, decide_eq_true h1, Bool.true_and]
    by_cases h2 : 1 ≤ cm ∧ cm ≤ 1000
    · simp only [if_pos h2, decide_eq_true h2, Bool.true_and]
      exact Ev.bind (isSet_ev l c hx (by omega)) (Ev.now _)
    · simp only [if_neg h2, decide_eq_false h2, Bool.false_and]
      exact Ev.now _
  · simp only [if_neg h1, decide_eq_false h1, Bool.false_and]
    exact Ev.now _
theorem valid_bd {c cm : Int} {l : List Int} (h : validCal c cm l = true) : 1 ≤ c ∧ c ≤ 400 ∧ 1 ≤ cm ∧ cm ≤ 1000 := by
  unfold validCal at h
  simp only [Bool.and_eq_true, decide_eq_true_eq] at h
  omega
end Go.Proofs.Ytjeidmbggdgggaa.Com

/- The days of years are summed up one by one. -/
namespace Go.Proofs.Ytjeidmbggdgggaa.Com
set_option linter.unusedSimpArgs false
set_option linter.unusedVariables false

theorem cntLt_none {b : Int} (l : List Int) (h : ∀ x ∈ l, b ≤ x) : cntLt b l = 0 := by
  induction l with
  | nil => rfl
  | cons y r ih =>
    unfold cntLt
    rw [if_neg (by have := h y (List.mem_cons_self ..); omega), ih (fun x hx => h x (List.mem_cons_of_mem _ hx))]
    rfl
theorem cntLt_all {b : Int} (l : List Int) (h : ∀ x ∈ l, x < b) : cntLt b l = l.length := by
  induction l with
  | nil => rfl
  | cons y r ih =>
    unfold cntLt
    rw [if_pos (h y (List.mem_cons_self ..)), ih (fun x hx => h x (List.mem_cons_of_mem _ hx)), List.length_cons]
    omega
theorem rises_in {lo hi : Int} (l : List Int) : ∀ p, risesFrom lo hi p l = true → ∀ x ∈ l, lo ≤ x ∧ x ≤ hi := by
  induction l with
  | nil => intro p _ x hx; simp at hx
  | cons y r ih =>
    intro p h x hx
    unfold risesFrom at h
    simp only [Bool.and_eq_true, decide_eq_true_eq] at h
    rcases List.mem_cons.1 hx with rfl | hx
    · exact h.1.1
    · exact ih _ h.2 x hx
end Go.Proofs.Ytjeidmbggdgggaa.Com

/- The greatest absolute value of a list. -/
namespace Go.Proofs.Ytjeidmbggdgggaa.Com
set_option linter.unusedSimpArgs false
set_option linter.unusedVariables false
set_option linter.unusedSectionVars false
open Go.RowKit Go.Proofs.YtjeidmbggdgggaaW.PrintWords Go.Proofs.YtjeidmbggdgggaaW.PrintMore Go.Proofs.Ytjeidmbggdgggaa.Q

/-! ### Drift -/
def gr (l : List Int) : Int := l.foldl (fun s x => mx (mx s x) (-x)) 0
theorem gr_snoc (l : List Int) (x : Int) : gr (l ++ [x]) = mx (mx (gr l) x) (-x) := by unfold gr; rw [List.foldl_append]; rfl
theorem gr_bd (B : Int) (hB : 0 ≤ B) (l : List Int) (h : ∀ x ∈ l, -B ≤ x ∧ x ≤ B) : 0 ≤ gr l ∧ gr l ≤ B := by
  have key : ∀ (l : List Int) (s : Int), 0 ≤ s ∧ s ≤ B → (∀ x ∈ l, -B ≤ x ∧ x ≤ B) → 0 ≤ l.foldl (fun s x => mx (mx s x) (-x)) s ∧ l.foldl (fun s x => mx (mx s x) (-x)) s ≤ B := by
    intro l
    induction l with
    | nil => intro s hs _; exact hs
    | cons x r ih =>
      intro s hs h
      have := h x List.mem_cons_self
      rw [List.foldl_cons]
      refine ih _ ?_ (fun y hy => h y (List.mem_cons_of_mem _ hy))
      unfold mx
      split <;> split <;> omega
  exact key l 0 (by omega) h
theorem greatest_ev (l : List Int) (hx : l.length ≤ 1048576) (hb : ∀ x ∈ l, -9223372036854775807 ≤ x ∧ x ≤ 9223372036854775807) : Ev (fun k => impl_greatest.f k l) (gr l) := by
  unfold impl_greatest.f
  have gen := ev_fold l (fun m s k => impl_greatest.l0 k s l (l.length : Int) (m : Int)) (fun r s => r.foldl (fun s x => mx (mx s x) (-x)) s) (fun m s => True) ?_ ?_ 0 0 (by omega) trivial
  · simpa [gr] using gen
  · intro s hs
    refine Ev.step (fun k => by rw [impl_greatest.l0]) ?_
    simp only [if_neg (show ¬ (l.length : Int) < (l.length : Int) by omega)]
    exact Ev.now _
  · intro m h s hs ih
    have b := hb l[m] (List.getElem_mem h)
    refine Ev.step (fun k => by rw [impl_greatest.l0]) ?_
    simp only [if_pos (show (m : Int) < (l.length : Int) by omega), if_pos (show 0 ≤ (m : Int) by omega), rd_nat h, w_succ (m := m) (by omega)]
    rw [w64 (x := -l[m]) (by omega) (by omega), List.foldl_cons]
    exact ih _ trivial
end Go.Proofs.Ytjeidmbggdgggaa.Com

/- Drift, on both sides. -/
namespace Go.Proofs.Ytjeidmbggdgggaa.Com
set_option linter.unusedSimpArgs false
set_option linter.unusedVariables false
set_option linter.unusedSectionVars false
open Go.RowKit Go.Proofs.YtjeidmbggdgggaaW.PrintWords Go.Proofs.YtjeidmbggdgggaaW.PrintMore Go.Proofs.Ytjeidmbggdgggaa.Q

section
variable {c cm : Int} {l : List Int} (hc : 1 ≤ c ∧ c ≤ 400) (hm : 1 ≤ cm ∧ cm ≤ 1000) (hx : l.length ≤ 1048576) (num den : Int) (hn : 0 ≤ num ∧ num ≤ 1000000) (hd : 1 ≤ den ∧ den ≤ 1000)
include hc hm hx hn hd
def drifts (c cm : Int) (l : List Int) (num den : Int) (n : Nat) : List Int := (List.range n).map fun (i : Nat) => den * db c cm l (i : Int) - (i : Int) * num
theorem drift_bd (i : Int) (hi : 0 ≤ i ∧ i ≤ 401) : 0 ≤ den * db c cm l i ∧ den * db c cm l i ≤ 200000000000000 ∧ 0 ≤ i * num ∧ i * num ≤ 401000000 := by
  have a := db_bd hc hm hx i (by omega)
  have b := mul_bd (show 0 ≤ den by omega) hd.2 a.1 a.2
  have d := mul_bd hi.1 hi.2 hn.1 hn.2
  omega
theorem drifts_bd (n : Nat) (h : n ≤ 402) : ∀ x ∈ drifts c cm l num den n, -400000000000000 ≤ x ∧ x ≤ 400000000000000 := by
  intro x hx'
  unfold drifts at hx'
  obtain ⟨i, hi, rfl⟩ := List.mem_map.1 hx'
  have := drift_bd hc hm hx num den hn hd (i : Int) (by have := List.mem_range.1 hi; omega)
  omega
theorem drifts_succ (n : Nat) : drifts c cm l num den (n + 1) = drifts c cm l num den n ++ [den * db c cm l (n : Int) - (n : Int) * num] := by
  unfold drifts
  rw [List.range_succ, List.map_append]
  rfl
theorem implDrift_ev : Ev (fun k => impl_DriftOf.l0 k num den [] (c + 1) 0 c cm l) (gr (drifts c cm l num den (c.toNat + 1)), true) := by
  have gen := ev_count (c.toNat + 1) (fun m s k => impl_DriftOf.l0 k num den s (c + 1) (m : Int) c cm l) (gr (drifts c cm l num den (c.toNat + 1)), true) (fun m s => s = drifts c cm l num den m) ?_ ?_ 0 [] (by omega) rfl
  · exact gen
  · intro s hs
    subst hs
    refine Ev.step (fun k => by rw [impl_DriftOf.l0]) ?_
    simp only [if_neg (show ¬ ((c.toNat + 1 : Nat) : Int) < c + 1 by omega)]
    refine Ev.bind (greatest_ev _ (by simp [drifts]; omega) (fun x h => ?_)) (Ev.now _)
    have := drifts_bd hc hm hx num den hn hd (c.toNat + 1) (by omega) x h
    omega
  · intro m s hm' hs
    refine ⟨_, rfl, fun ih => ?_⟩
    subst hs
    have b := drift_bd hc hm hx num den hn hd (m : Int) (by omega)
    refine Ev.step (fun k => by rw [impl_DriftOf.l0]) ?_
    simp only [if_pos (show (m : Int) < c + 1 by omega)]
    refine Ev.bind (daysBefore_ev hc hm hx (m : Int) (by omega)) ?_
    simp only [if_pos (show (drifts c cm l num den m).length < 17592186044416 by simp [drifts]; omega), w_succ (m := m) (by omega)]
    rw [w64 (x := den * db c cm l (m : Int)) (by omega) (by omega), w64 (x := (m : Int) * num) (by omega) (by omega), w64 (by omega) (by omega), ← drifts_succ hc hm hx num den hn hd]
    exact ih
theorem specDrift_ev : Ev (fun k => spec_DriftOf.l0 k num den 0 0 c cm l) (gr (drifts c cm l num den (c.toNat + 1)), true) := by
  have gen := ev_count (c.toNat + 1) (fun m s k => spec_DriftOf.l0 k num den s (m : Int) c cm l) (gr (drifts c cm l num den (c.toNat + 1)), true) (fun m s => s = gr (drifts c cm l num den m)) ?_ ?_ 0 0 (by omega) rfl
  · exact gen
  · intro s hs
    subst hs
    refine Ev.step (fun k => by rw [spec_DriftOf.l0]) ?_
    simp only [if_neg (show ¬ ((c.toNat + 1 : Nat) : Int) ≤ c by omega)]
    exact Ev.now _
  · intro m s hm' hs
    refine ⟨_, rfl, fun ih => ?_⟩
    subst hs
    have b := drift_bd hc hm hx num den hn hd (m : Int) (by omega)
    have g := gr_bd 400000000000000 (by omega) _ (drifts_bd hc hm hx num den hn hd m (by omega))
    refine Ev.step (fun k => by rw [spec_DriftOf.l0]) ?_
    simp only [if_pos (show (m : Int) ≤ c by omega)]
    refine Ev.bind (l11Before_ev hc hm hx (m : Int) (by omega)) ?_
    simp only [w_succ (m := m) (by omega)]
    rw [w64 (x := den * db c cm l (m : Int)) (by omega) (by omega), w64 (x := (m : Int) * num) (by omega) (by omega), w64 (x := den * db c cm l (m : Int) - (m : Int) * num) (by omega) (by omega), w64 (by omega) (by omega)]
    rw [drifts_succ hc hm hx num den hn hd, gr_snoc] at ih
    generalize den * db c cm l (m : Int) - (m : Int) * num = x at ih b ⊢
    generalize gr (drifts c cm l num den m) = s at ih g ⊢
    refine ev_bind' (a := if x > -x then x else -x) (by unfold spec_l00Max.f; split <;> rfl) (ev_bind' (a := mx (mx s x) (-x)) ?_ ih)
    unfold spec_l00Max.f mx
    congr 1
    repeat' split
    all_goals first | rfl | (congr 1; omega) | omega
end
def driftOf (c cm : Int) (l : List Int) (num den : Int) : Int × Bool := if validCal c cm l = true ∧ (1 ≤ den ∧ den ≤ 1000) ∧ (0 ≤ num ∧ num ≤ 1000000) then (gr (drifts c cm l num den (c.toNat + 1)), true) else (0, false)
theorem drift_both (c cm : Int) (l : List Int) (num den : Int) (hx : l.length ≤ 1048576) : Ev (fun k => spec_DriftOf.f k c cm l num den) (driftOf c cm l num den) ∧ Ev (fun k => impl_DriftOf.f k c cm l num den) (driftOf c cm l num den) := by
  unfold spec_DriftOf.f impl_DriftOf.f driftOf
  have j1 : Ev (fun k => spec_DriftOf.j0 k num den true c cm l) (0, false) := Ev.step (fun k => by rw [spec_DriftOf.j0]) (by simp only [if_true]; exact Ev.now _)
  have j2 : Ev (fun k => impl_DriftOf.j0 k num den true c cm l) (0, false) := Ev.step (fun k => by rw [impl_DriftOf.j0]) (by simp only [if_true]; exact Ev.now _)
  by_cases h : validCal c cm l = true
  · have b := valid_bd h
    by_cases hd : 1 ≤ den ∧ den ≤ 1000
    · by_cases hn : 0 ≤ num ∧ num ≤ 1000000
      · rw [if_pos ⟨h, hd, hn⟩]
        refine ⟨Ev.bind (l11Calendar_ev c cm l hx) ?_, Ev.bind (implValid_ev c cm l hx) ?_⟩
        · simp only [h, if_true, in_tells, Option.bind_some, decide_eq_true hd, decide_eq_true hn, Bool.not_true]
          refine Ev.step (fun k => by rw [spec_DriftOf.j0]) ?_
          simp only [Bool.false_eq_true, if_false]
          exact specDrift_ev (by omega) (by omega) hx num den hn hd
        · simp only [h, if_true, within_tells, Option.bind_some, decide_eq_true hd, decide_eq_true hn, Bool.not_true]
          refine Ev.step (fun k => by rw [impl_DriftOf.j0]) ?_
          simp only [Bool.false_eq_true, if_false]
          rw [w64 (by omega) (by omega)]
          exact implDrift_ev (by omega) (by omega) hx num den hn hd
      · rw [if_neg (fun e => hn e.2.2)]
        refine ⟨Ev.bind (l11Calendar_ev c cm l hx) ?_, Ev.bind (implValid_ev c cm l hx) ?_⟩
        · simp only [h, if_true, in_tells, Option.bind_some, decide_eq_true hd, decide_eq_false hn, Bool.not_false]
          exact j1
        · simp only [h, if_true, within_tells, Option.bind_some, decide_eq_true hd, decide_eq_false hn, Bool.not_false]
          exact j2
    · rw [if_neg (fun e => hd e.2.1)]
      refine ⟨Ev.bind (l11Calendar_ev c cm l hx) ?_, Ev.bind (implValid_ev c cm l hx) ?_⟩
      · simp only [h, if_true, in_tells, Option.bind_some, decide_eq_false hd, Bool.false_eq_true, if_false]
        exact j1
      · simp only [h, if_true, within_tells, Option.bind_some, decide_eq_false hd, Bool.false_eq_true, if_false]
        exact j2
  · have h' : validCal c cm l = false := by simpa using h
    rw [if_neg (fun e => h e.1)]
    refine ⟨Ev.bind (l11Calendar_ev c cm l hx) ?_, Ev.bind (implValid_ev c cm l hx) ?_⟩
    · simp only [h', Bool.false_eq_true, if_false]
      exact j1
    · simp only [h', Bool.false_eq_true, if_false]
      exact j2

end Go.Proofs.Ytjeidmbggdgggaa.Com

/- The leap years of an even calendar rise. -/
namespace Go.Proofs.Ytjeidmbggdgggaa.Com
set_option linter.unusedSimpArgs false
set_option linter.unusedVariables false
set_option linter.unusedSectionVars false
open Go.RowKit Go.Proofs.YtjeidmbggdgggaaW.PrintWords Go.Proofs.YtjeidmbggdgggaaW.PrintMore Go.Proofs.Ytjeidmbggdgggaa.Q

theorem rises_snoc {lo hi x : Int} (l : List Int) : ∀ p, risesFrom lo hi p l = true → (∀ y ∈ l, y < x) → (∀ q, p = some q → q < x) → lo ≤ x → x ≤ hi → risesFrom lo hi p (l ++ [x]) = true := by
  induction l with
  | nil =>
    intro p _ _ hp h0 h1
    cases p <;> simp [risesFrom, h0, h1]
    exact hp _ rfl
  | cons y r ih =>
    intro p h hy hp h0 h1
    unfold risesFrom at h
    simp only [Bool.and_eq_true] at h
    rw [List.cons_append]
    unfold risesFrom
    simp only [Bool.and_eq_true]
    exact ⟨h.1, ih _ h.2 (fun z hz => hy z (List.mem_cons_of_mem _ hz)) (fun q hq => by cases hq; exact hy y (List.mem_cons_self ..)) h0 h1⟩
theorem ups_lt (a b s : Int) (n : Nat) : ∀ y ∈ ups a b s n, y < (n : Int) := by
  intro y hy
  unfold ups at hy
  obtain ⟨i, hi, rfl⟩ := List.mem_map.1 hy
  have := (List.mem_filter.1 hi).1
  rw [List.mem_range] at this
  omega
theorem ups_rises (a b s hi : Int) (n : Nat) (h : (n : Int) ≤ hi + 1) : rises 0 hi (ups a b s n) = true := by
  induction n with
  | zero => rfl
  | succ n ih =>
    rw [ups_succ]
    have := ih (by omega)
    split
    · exact rises_snoc _ _ this (ups_lt a b s n) (by simp) (by omega) (by omega)
    · exact this
end Go.Proofs.Ytjeidmbggdgggaa.Com

/- How many leap years an even calendar has, up to each year, and its drift. -/
namespace Go.Proofs.Ytjeidmbggdgggaa.Com
set_option linter.unusedSimpArgs false
set_option linter.unusedVariables false
set_option linter.unusedSectionVars false
open Go.RowKit Go.Proofs.YtjeidmbggdgggaaW.PrintWords Go.Proofs.YtjeidmbggdgggaaW.PrintMore Go.Proofs.Ytjeidmbggdgggaa.Q

theorem step_div (z a b : Int) (ha : 0 ≤ a ∧ a ≤ b) (hb : 1 ≤ b) : (z + a) / b = z / b + if (z + a) / b > z / b then 1 else 0 := by
  have h1 : z / b ≤ (z + a) / b := Int.ediv_le_ediv (by omega) (by omega)
  have h2 : (z + a) / b ≤ (z + 1 * b) / b := Int.ediv_le_ediv (by omega) (by omega)
  rw [Int.add_mul_ediv_right z 1 (show b ≠ 0 by omega)] at h2
  split <;> omega
theorem ups_cnt (a b s : Int) (ha : 0 ≤ a ∧ a ≤ b) (hb : 1 ≤ b) (n : Nat) : ((ups a b s n).length : Int) = ((n : Int) * a + s) / b - s / b := by
  induction n with
  | zero => simp [ups]
  | succ n ih =>
    have e : ((n + 1 : Nat) : Int) * a + s = ((n : Int) * a + s) + a := by
      rw [Int.natCast_add, Int.add_mul]
      omega
    have st := step_div ((n : Int) * a + s) a b ha hb
    have hs : stepUp a b s n = decide (((n : Int) * a + s + a) / b > ((n : Int) * a + s) / b) := by
      unfold stepUp
      rw [show ((n : Int) + 1) * a + s = (n : Int) * a + s + a by rw [Int.add_mul]; omega]
    rw [ups_succ, hs, e]
    by_cases q : ((n : Int) * a + s + a) / b > ((n : Int) * a + s) / b
    · rw [if_pos q] at st
      simp only [q, decide_true, if_true, List.length_append, List.length_cons, List.length_nil]
      omega
    · rw [if_neg q] at st
      simp only [decide_eq_false q, Bool.false_eq_true, if_false]
      omega
theorem cntLt_snoc (b x : Int) (l : List Int) : cntLt b (l ++ [x]) = cntLt b l + if x < b then 1 else 0 := by
  induction l with
  | nil => simp [cntLt]
  | cons y r ih =>
    rw [List.cons_append]
    unfold cntLt
    rw [ih]
    omega
theorem cnt_ups (a b s : Int) (m n : Nat) (h : m ≤ n) : cntLt (m : Int) (ups a b s n) = ((ups a b s m).length : Int) := by
  induction n with
  | zero =>
    obtain rfl : m = 0 := by omega
    simp [ups, cntLt]
  | succ n ih =>
    by_cases q : m = n + 1
    · subst q
      exact cntLt_all _ (ups_lt a b s (n + 1))
    · rw [← ih (by omega), ups_succ]
      split
      · rw [cntLt_snoc, if_neg (by omega)]
        omega
      · rfl
theorem db_ups (n : Nat) (hn : 1 ≤ n) (cm a s : Int) (ha : 0 ≤ a ∧ a ≤ n) (hs : 0 ≤ s ∧ s < n) (i : Nat) (hi : i ≤ n) : db (n : Int) cm (ups a n s n) (i : Int) = (i : Int) * cm + ((i : Int) * a + s) / (n : Int) := by
  have z : s / (n : Int) = 0 := Int.ediv_eq_zero_of_lt hs.1 hs.2
  unfold db
  by_cases q : i = n
  · subst q
    have z0 : cntLt 0 (ups a (i : Int) s i) = 0 := cntLt_none _ (fun x hx => (rises_in (lo := 0) (hi := (i : Int) - 1) _ none (ups_rises a (i : Int) s ((i : Int) - 1) i (by omega)) x hx).1)
    rw [Int.ediv_self (by omega), Int.emod_self, z0, ups_cnt a (i : Int) s ha (by omega) i, z]
    omega
  · rw [Int.ediv_eq_zero_of_lt (by omega) (by omega), Int.emod_eq_of_lt (by omega) (by omega), cnt_ups a (n : Int) s i n hi, ups_cnt a (n : Int) s ha (by omega) i, z]
    omega
theorem drift_ups (n : Nat) (hn : 1 ≤ n) (cm a s : Int) (ha : 0 ≤ a ∧ a ≤ n) (hs : 0 ≤ s ∧ s < n) (g num den : Int) (hg : 0 < g) (e1 : g * num = (n : Int) * cm + a) (e2 : g * den = n) (hd : 1 ≤ den) :
    gr (drifts (n : Int) cm (ups a n s n) num den (n + 1)) < den := by
  have key : ∀ x ∈ drifts (n : Int) cm (ups a n s n) num den (n + 1), -(den - 1) ≤ x ∧ x ≤ den - 1 := by
    intro x hx
    unfold drifts at hx
    obtain ⟨i, hi, rfl⟩ := List.mem_map.1 hx
    have hi := List.mem_range.1 hi
    rw [db_ups n hn cm a s ha hs i (by omega)]
    have m1 := Int.emod_nonneg ((i : Int) * a + s) (show (n : Int) ≠ 0 by omega)
    have m2 := Int.emod_lt_of_pos ((i : Int) * a + s) (show (0 : Int) < n by omega)
    have m3 := Int.mul_ediv_add_emod ((i : Int) * a + s) (n : Int)
    have e : g * (den * ((i : Int) * cm + ((i : Int) * a + s) / (n : Int)) - (i : Int) * num) = s - ((i : Int) * a + s) % (n : Int) := by
      rw [Int.mul_sub, ← Int.mul_assoc, e2, Int.mul_add, Int.mul_left_comm g (i : Int) num, e1, Int.mul_add]
      have : (n : Int) * ((i : Int) * cm) = (i : Int) * ((n : Int) * cm) := Int.mul_left_comm _ _ _
      omega
    generalize den * ((i : Int) * cm + ((i : Int) * a + s) / (n : Int)) - (i : Int) * num = x at e
    have u1 : x < den := Int.lt_of_mul_lt_mul_left (a := g) (by rw [e, e2]; omega) (by omega)
    have u2 : -x < den := Int.lt_of_mul_lt_mul_left (a := g) (by rw [Int.mul_neg, e, e2]; omega) (by omega)
    omega
  have := gr_bd (den - 1) (by omega) _ key
  omega
end Go.Proofs.Ytjeidmbggdgggaa.Com

/- The greatest common divisor, on both sides. -/
namespace Go.Proofs.Ytjeidmbggdgggaa.Com
set_option linter.unusedSimpArgs false
set_option linter.unusedVariables false
set_option linter.unusedSectionVars false
open Go.RowKit Go.Proofs.YtjeidmbggdgggaaW.PrintWords Go.Proofs.YtjeidmbggdgggaaW.PrintMore Go.Proofs.Ytjeidmbggdgggaa.Q

/-! ### The greatest common divisor -/
theorem gcd_both (d : Nat) : ∀ (m n : Nat), n ≤ d → m ≤ 1000000000000 → n ≤ 1000000000000 →
    Ev (fun k => impl_divisor.l0 k (m : Int) (n : Int)) ((Nat.gcd m n : Nat) : Int) ∧ Ev (fun k => spec_l07Gcd.l0 k (m : Int) (n : Int)) ((Nat.gcd m n : Nat) : Int) := by
  induction d with
  | zero =>
    intro m n h hm hn
    obtain rfl : n = 0 := by omega
    rw [Nat.gcd_zero_right]
    constructor
    · refine Ev.step (fun k => by rw [impl_divisor.l0]) ?_
      simp only [show ((0 : Nat) : Int) = 0 from rfl, if_true]
      rw [w64 (by omega) (by omega)]
      rw [show mx (m : Int) (-(m : Int)) = (m : Int) from by unfold mx; rw [if_neg (by omega)]]
      exact Ev.now _
    · refine Ev.step (fun k => by rw [spec_l07Gcd.l0]) ?_
      simp only [if_neg (show ¬ ((0 : Nat) : Int) > 0 by omega)]
      exact Ev.now _
  | succ d ih =>
    intro m n h hm hn
    by_cases e : n = 0
    · subst e
      exact ih m 0 (by omega) hm hn
    have lt : m % n < n := Nat.mod_lt _ (by omega)
    have := ih n (m % n) (by omega) hn (by omega)
    have e2 : Int.tmod (m : Int) (n : Int) = ((m % n : Nat) : Int) := by rw [tmod_nn (by omega)]; rfl
    rw [show Nat.gcd m n = Nat.gcd n (m % n) from by rw [Nat.gcd_comm m n, Nat.gcd_rec n m, Nat.gcd_comm]]
    constructor
    · refine Ev.step (fun k => by rw [impl_divisor.l0]) ?_
      simp only [if_neg (show ¬ (n : Int) = 0 by omega), e2]
      exact this.1
    · refine Ev.step (fun k => by rw [spec_l07Gcd.l0]) ?_
      simp only [if_pos (show (n : Int) > 0 by omega), if_neg (show ¬ (n : Int) = 0 by omega), e2]
      exact this.2
theorem gcd_int (a b : Int) (ha : 0 ≤ a ∧ a ≤ 1000000000000) (hb : 0 ≤ b ∧ b ≤ 1000000000000) :
    Ev (fun k => impl_divisor.f k a b) ((Int.gcd a b : Nat) : Int) ∧ Ev (fun k => spec_l07Gcd.f k a b) ((Int.gcd a b : Nat) : Int) := by
  have := gcd_both b.toNat a.toNat b.toNat (Nat.le_refl _) (by omega) (by omega)
  rw [Int.toNat_of_nonneg ha.1, Int.toNat_of_nonneg hb.1] at this
  have e : Int.gcd a b = Nat.gcd a.toNat b.toNat := by
    unfold Int.gcd
    rw [show a.natAbs = a.toNat by omega, show b.natAbs = b.toNat by omega]
  rw [e]
  exact this
end Go.Proofs.Ytjeidmbggdgggaa.Com

/- The mean year, on both sides. -/
namespace Go.Proofs.Ytjeidmbggdgggaa.Com
set_option linter.unusedSimpArgs false
set_option linter.unusedVariables false
set_option linter.unusedSectionVars false
open Go.RowKit Go.Proofs.YtjeidmbggdgggaaW.PrintWords Go.Proofs.YtjeidmbggdgggaaW.PrintMore Go.Proofs.Ytjeidmbggdgggaa.Q

def meanOf (c cm : Int) (l : List Int) : Int × Int × Bool := if validCal c cm l = true then (db c cm l c / (Int.gcd (db c cm l c) c : Int), c / (Int.gcd (db c cm l c) c : Int), true) else (0, 0, false)
theorem mean_both (c cm : Int) (l : List Int) (hx : l.length ≤ 1048576) : Ev (fun k => spec_MeanYear.f k c cm l) (meanOf c cm l) ∧ Ev (fun k => impl_MeanYear.f k c cm l) (meanOf c cm l) := by
  unfold spec_MeanYear.f impl_MeanYear.f meanOf
  by_cases h : validCal c cm l = true
  · have b := valid_bd h
    have d := db_bd (c := c) (cm := cm) (l := l) (by omega) (by omega) hx c (by omega)
    obtain ⟨g1, g2⟩ := gcd_int (db c cm l c) c (by omega) (by omega)
    have gp : 0 < ((Int.gcd (db c cm l c) c : Nat) : Int) := by
      have : 0 < Int.gcd (db c cm l c) c := Int.gcd_pos_of_ne_zero_right _ (by omega)
      omega
    have q1 : 0 ≤ db c cm l c / (Int.gcd (db c cm l c) c : Int) := Int.ediv_nonneg d.1 (by omega)
    have q2 : db c cm l c / (Int.gcd (db c cm l c) c : Int) ≤ db c cm l c := Int.ediv_le_self _ d.1
    have q3 : 0 ≤ c / (Int.gcd (db c cm l c) c : Int) := Int.ediv_nonneg (by omega) (by omega)
    have q4 : c / (Int.gcd (db c cm l c) c : Int) ≤ c := Int.ediv_le_self _ (by omega)
    rw [if_pos h]
    refine ⟨Ev.bind (l11Calendar_ev c cm l hx) ?_, Ev.bind (implValid_ev c cm l hx) ?_⟩
    · simp only [h, if_true]
      refine Ev.bind (l11Before_ev (by omega) (by omega) hx c (by omega)) (Ev.bind g2 ?_)
      simp only [if_neg (show ¬ ((Int.gcd (db c cm l c) c : Nat) : Int) = 0 by omega), tdiv_nn d.1, tdiv_nn (show 0 ≤ c by omega)]
      rw [w64 (by omega) (by omega), w64 (by omega) (by omega)]
      exact Ev.now _
    · simp only [h, if_true]
      refine Ev.bind (daysBefore_ev (by omega) (by omega) hx c (by omega)) ?_
      unfold impl_worth_lowest.f
      refine Ev.bind (a := (db c cm l c / (Int.gcd (db c cm l c) c : Int), c / (Int.gcd (db c cm l c) c : Int))) (Ev.bind g1 ?_) (Ev.now _)
      simp only [if_neg (show ¬ ((Int.gcd (db c cm l c) c : Nat) : Int) = 0 by omega), tdiv_nn d.1, tdiv_nn (show 0 ≤ c by omega)]
      rw [w64 (by omega) (by omega), w64 (by omega) (by omega)]
      exact Ev.now _
  · have h' : validCal c cm l = false := by simpa using h
    rw [if_neg h]
    refine ⟨Ev.bind (l11Calendar_ev c cm l hx) ?_, Ev.bind (implValid_ev c cm l hx) ?_⟩ <;>
    · simp only [h', Bool.false_eq_true, if_false]
      exact Ev.now _

end Go.Proofs.Ytjeidmbggdgggaa.Com

/- The letters of a code, as numbers. -/
namespace Go.Proofs.Ytjeidmbggdgggaa.Com
set_option linter.unusedSimpArgs false
set_option linter.unusedVariables false
open Go.RowKit Go.Proofs.Ytjeidmbggdgggaa.Q Go.Proofs.YtjeidmbggdgggaaW.PrintWords Go.Proofs.YtjeidmbggdgggaaW.PrintLast

theorem b10At_tells (l : List Int) (i n : Int) (hl : ∀ x ∈ l, (Lit.int .u8 x).wf = true) (hi : 0 ≤ i ∧ i ≤ 10) (hn : 1 ≤ n) : ∃ r, laws_b10At.f l i n = some r ∧ 0 ≤ r ∧ r < n := by
  unfold laws_b10At.f
  by_cases h1 : n ≤ 1
  · exact ⟨0, by rw [if_pos h1], by omega, by omega⟩
  · rw [if_neg h1]
    by_cases h2 : i < (l.length : Int)
    · rw [if_pos h2, if_pos hi.1, if_neg (show ¬ n = 0 by omega)]
      have hx : 0 ≤ rd l i ∧ rd l i ≤ 255 := by
        have hlt : i.toNat < l.length := by omega
        have : rd l i ∈ l := by
          unfold rd
          rw [List.getD_eq_getElem?_getD, List.getElem?_eq_getElem hlt]
          exact List.getElem_mem hlt
        have := hl _ this
        simp [Lit.wf, IntKind.min, IntKind.max, IntKind.signed, IntKind.bits] at this
        omega
      rw [w64 (by omega) (by omega), tmod_nn hx.1]
      exact ⟨_, rfl, Int.emod_nonneg _ (by omega), Int.emod_lt_of_pos _ (by omega)⟩
    · rw [if_neg h2, if_neg (show ¬ n = 0 by omega), w64 (x := i * 37) (by omega) (by omega), w64 (by omega) (by omega), tmod_nn (by omega)]
      exact ⟨_, rfl, Int.emod_nonneg _ (by omega), Int.emod_lt_of_pos _ (by omega)⟩
end Go.Proofs.Ytjeidmbggdgggaa.Com

/- The pure statement of FnEven: an even calendar has its leap years, and its days differ from multiples of the mean year by less than one day. -/
namespace Go.Proofs.Ytjeidmbggdgggaa.Pure
set_option linter.unusedSimpArgs false
set_option linter.unusedVariables false
set_option linter.unusedSectionVars false
open Go.RowKit Go.Proofs.Ytjeidmbggdgggaa.Q Go.Proofs.YtjeidmbggdgggaaW.PrintWords Go.Proofs.YtjeidmbggdgggaaW.PrintLast Go.Proofs.Ytjeidmbggdgggaa.Com

theorem FnEven : laws_FnEven.Pure := by
  intro code more _ _ hcode _ _ hmore
  apply ev_of
  unfold laws_FnEven.f
  by_cases hlong : (code.length : Int) > 1048576 ∨ (more.length : Int) > 1048576
  · have e : laws_b10Long.f code more = some true := by
      unfold laws_b10Long.f
      by_cases h : (code.length : Int) > 1048576
      · rw [if_pos h]
      · rw [if_neg h, decide_eq_true (by omega)]
    rw [e]
    simp
    exact Ev.now _
  have e : laws_b10Long.f code more = some false := by
    unfold laws_b10Long.f
    rw [if_neg (by omega), decide_eq_false (by omega)]
  refine ev_bind' e ?_
  simp only [Bool.false_eq_true, if_false]
  obtain ⟨u, hu, u0, u1⟩ := b10At_tells code 0 60 hcode (by omega) (by omega)
  refine ev_bind' hu ?_
  rw [w64 (x := 1 + u) (by omega) (by omega), w64 (x := 1 + u + 1) (by omega) (by omega)]
  obtain ⟨lp, hlp, lp0, lp1⟩ := b10At_tells code 1 (1 + u + 1) hcode (by omega) (by omega)
  refine ev_bind' hlp ?_
  obtain ⟨v, hv, v0, v1⟩ := b10At_tells more 0 200 hmore (by omega) (by omega)
  refine ev_bind' hv ?_
  obtain ⟨sh, hsh, sh0, sh1⟩ := b10At_tells more 1 (1 + u) hmore (by omega) (by omega)
  refine ev_bind' hsh ?_
  rw [w64 (x := 1 + v) (by omega) (by omega)]
  obtain ⟨n, hn⟩ := Int.eq_ofNat_of_zero_le (show 0 ≤ 1 + u by omega)
  have bc : 1 ≤ 1 + u ∧ 1 + u ≤ 60 := by omega
  have bm : 1 ≤ 1 + v ∧ 1 + v ≤ 200 := by omega
  generalize 1 + v = cm at *
  generalize 1 + u = c at *
  subst hn
  have hev := implEven_ev (n : Int) lp cm sh
  rw [show evR (n : Int) lp cm sh = ((n : Int), cm, ups lp (n : Int) sh n, true) from by unfold evR; rw [if_pos (by omega), Int.toNat_natCast]] at hev
  have hr : rises 0 ((n : Int) - 1) (ups lp (n : Int) sh n) = true := ups_rises _ _ _ _ n (by omega)
  have hval : validCal (n : Int) cm (ups lp (n : Int) sh n) = true := by
    unfold validCal
    rw [decide_eq_true (show 1 ≤ (n : Int) ∧ (n : Int) ≤ 400 by omega), decide_eq_true (show 1 ≤ cm ∧ cm ≤ 1000 by omega), hr]
    rfl
  have hlen := ups_len lp (n : Int) sh n
  have hx : (ups lp (n : Int) sh n).length ≤ 1048576 := by omega
  have hD : db (n : Int) cm (ups lp (n : Int) sh n) (n : Int) = (n : Int) * cm + lp := by
    rw [db_ups n (by omega) cm lp sh (by omega) (by omega) n (Nat.le_refl _), Int.add_comm ((n : Int) * lp) sh, Int.mul_comm (n : Int) lp, Int.add_mul_ediv_right _ _ (by omega), Int.ediv_eq_zero_of_lt sh0 (by omega)]
    omega
  have hcnt : ((ups lp (n : Int) sh n).length : Int) = lp := by
    rw [ups_cnt lp (n : Int) sh (by omega) (by omega) n, Int.add_comm ((n : Int) * lp) sh, Int.mul_comm (n : Int) lp, Int.add_mul_ediv_right _ _ (by omega), Int.ediv_eq_zero_of_lt sh0 (by omega)]
    omega
  refine Ev.bind hev ?_
  have hmean := (mean_both (n : Int) cm (ups lp (n : Int) sh n) hx).2
  unfold meanOf at hmean
  rw [if_pos hval] at hmean
  refine Ev.bind hmean ?_
  rw [hD]
  have b1 := mul_bd (show (0 : Int) ≤ (n : Int) by omega) (show (n : Int) ≤ 60 by omega) (show 0 ≤ cm by omega) (show cm ≤ 200 by omega)
  have gd1 := Int.gcd_dvd_left ((n : Int) * cm + lp) (n : Int)
  have gd2 := Int.gcd_dvd_right ((n : Int) * cm + lp) (n : Int)
  have gp : 0 < ((Int.gcd ((n : Int) * cm + lp) (n : Int) : Nat) : Int) := by
    have : 0 < Int.gcd ((n : Int) * cm + lp) (n : Int) := Int.gcd_pos_of_ne_zero_right _ (by omega)
    omega
  generalize ((Int.gcd ((n : Int) * cm + lp) (n : Int) : Nat) : Int) = g at gd1 gd2 gp ⊢
  have q1 : g * (((n : Int) * cm + lp) / g) = (n : Int) * cm + lp := Int.mul_ediv_cancel' gd1
  have q2 : g * ((n : Int) / g) = (n : Int) := Int.mul_ediv_cancel' gd2
  have r1 : 0 ≤ ((n : Int) * cm + lp) / g := Int.ediv_nonneg (by omega) (by omega)
  have r2 : ((n : Int) * cm + lp) / g ≤ (n : Int) * cm + lp := Int.ediv_le_self _ (by omega)
  have r3 : 0 ≤ (n : Int) / g := Int.ediv_nonneg (by omega) (by omega)
  have r4 : (n : Int) / g ≤ (n : Int) := Int.ediv_le_self _ (by omega)
  generalize ((n : Int) * cm + lp) / g = num at *
  generalize (n : Int) / g = den at *
  have cr : num * (g * den) = den * (g * num) := by rw [Int.mul_left_comm num g den, Int.mul_left_comm den g num, Int.mul_comm num den]
  rw [q1, q2] at cr
  have r5 : 1 ≤ den := by
    by_cases z : den = 0
    · rw [z, Int.mul_zero] at q2
      omega
    · omega
  have hdr := (drift_both (n : Int) cm (ups lp (n : Int) sh n) num den hx).2
  rw [show driftOf (n : Int) cm (ups lp (n : Int) sh n) num den = (gr (drifts (n : Int) cm (ups lp (n : Int) sh n) num den (n + 1)), true) from by unfold driftOf; rw [if_pos ⟨hval, by omega, by omega⟩, Int.toNat_natCast]] at hdr
  have hlt := drift_ups n (by omega) cm lp sh (by omega) (by omega) g num den gp q1 q2 r5
  refine Ev.bind hdr ?_
  simp only [if_true]
  refine Ev.bind (implValid_ev (n : Int) cm _ hx) ?_
  simp only [hval, if_true, hcnt]
  have b2 := mul_bd r1 (show num ≤ 12060 by omega) (show (0 : Int) ≤ (n : Int) by omega) (show (n : Int) ≤ 60 by omega)
  rw [w64 (x := (n : Int) * cm) (by omega) (by omega), w64 (x := (n : Int) * cm + lp) (by omega) (by omega), ← cr, if_pos rfl, decide_eq_true hlt]
  exact Ev.now _
end Go.Proofs.Ytjeidmbggdgggaa.Pure
