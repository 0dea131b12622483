import Derived.Test.YtjeidmbggdgggaaWNEv
import Derived.Test.YtjeidmbggdgggaaWMore
import Derived.Test.YtjeidmbggdgggaaQ1
import Derived.Test.YtjeidmbggdgggaaQ2
import Derived.Test.YtjeidmbggdgggaaQ7
import Derived.Test.YtjeidmbggdgggaaQ17
import Derived.Test.YtjeidmbggdgggaaQ18
import Derived.Test.YtjeidmbggdgggaaQ20
import Derived.Test.YtjeidmbggdgggaaQ21
import Derived.Test.YtjeidmbggdgggaaQ41
import Derived.Test.YtjeidmbggdgggaaQ42
import Derived.Test.YtjeidmbggdgggaaQ43
import Derived.Test.YtjeidmbggdgggaaQ44
import Derived.Test.YtjeidmbggdgggaaQ45
import Derived.Test.YtjeidmbggdgggaaQ46
import Derived.Test.YtjeidmbggdgggaaQ47
import Derived.Test.YtjeidmbggdgggaaQ48
/- Small facts of whole numbers, of wrapping, and of rounds that suffice, for the pure statements. -/
namespace Go.Proofs.Ytjeidmbggdgggaa.Com
open Go.RowKit Go.Proofs.YtjeidmbggdgggaaW.PrintWords

theorem w64 {x : Int} (h1 : -9223372036854775808 ≤ x) (h2 : x ≤ 9223372036854775807) : wrap64 x = x := by
  unfold wrap64
  omega
theorem mul_bd {a b A B : Int} (h0 : 0 ≤ a) (h1 : a ≤ A) (h2 : 0 ≤ b) (h3 : b ≤ B) : 0 ≤ a * b ∧ a * b ≤ A * B :=
  ⟨Int.mul_nonneg h0 h2, Int.mul_le_mul h1 h3 h2 (Int.le_trans h0 h1)⟩
theorem ev_of {α : Type} {g : Nat → Option α} {r : α} (h : Ev g r) : ∃ k, g k = some r := h.rounds
theorem ev_bind' {α β : Type} {o : Option α} {f : Nat → α → Option β} {a : α} {r : β} (h : o = some a) (k : Ev (fun n => f n a) r) : Ev (fun n => o.bind (f n)) r := by
  subst h
  exact k
theorem tdiv_nn {a b : Int} (h : 0 ≤ a) : Int.tdiv a b = a / b := Int.tdiv_eq_ediv_of_nonneg h
theorem tmod_nn {a b : Int} (h : 0 ≤ a) : Int.tmod a b = a % b := Int.tmod_eq_emod_of_nonneg h
end Go.Proofs.Ytjeidmbggdgggaa.Com

/- Loops over lists, by their rounds: general lemmas. -/
namespace Go.Proofs.Ytjeidmbggdgggaa.Com
set_option linter.unusedSimpArgs false
set_option linter.unusedVariables false
open Go.RowKit Go.Proofs.YtjeidmbggdgggaaW.PrintWords

theorem ev_fold {α σ ρ : Type} (xs : List α) (g : Nat → σ → Nat → Option ρ) (F : List α → σ → ρ) (Inv : Nat → σ → Prop)
    (h0 : ∀ s, Inv xs.length s → Ev (g xs.length s) (F [] s))
    (hs : ∀ m (h : m < xs.length) s, Inv m s → (∀ s', Inv (m + 1) s' → Ev (g (m + 1) s') (F (xs.drop (m + 1)) s')) → Ev (g m s) (F (xs[m] :: xs.drop (m + 1)) s)) :
    ∀ m s, m ≤ xs.length → Inv m s → Ev (g m s) (F (xs.drop m) s) := by
  have key : ∀ d m s, m + d = xs.length → Inv m s → Ev (g m s) (F (xs.drop m) s) := by
    intro d
    induction d with
    | zero =>
      intro m s e hi
      obtain rfl : m = xs.length := by omega
      rw [List.drop_length]
      exact h0 s hi
    | succ d ih =>
      intro m s e hi
      have h : m < xs.length := by omega
      rw [List.drop_eq_getElem_cons h]
      exact hs m h s hi (fun s' hi' => ih (m + 1) s' (by omega) hi')
  intro m s hm hi
  exact key (xs.length - m) m s (by omega) hi
theorem ev_list {α ρ : Type} (xs : List α) (g : Nat → Nat → Option ρ) (F : List α → ρ) (h0 : Ev (g xs.length) (F []))
    (hs : ∀ m (h : m < xs.length), Ev (g (m + 1)) (F (xs.drop (m + 1))) → Ev (g m) (F (xs[m] :: xs.drop (m + 1)))) (m : Nat) (hm : m ≤ xs.length) : Ev (g m) (F (xs.drop m)) :=
  ev_fold xs (fun m (_ : Unit) => g m) (fun l _ => F l) (fun _ _ => True) (fun _ _ => h0) (fun m h _ _ ih => hs m h (ih () trivial)) m () hm trivial
/-- A loop that counts from m up to n. -/
theorem ev_count {σ ρ : Type} (n : Nat) (g : Nat → σ → Nat → Option ρ) (r : ρ) (Inv : Nat → σ → Prop) (h0 : ∀ s, Inv n s → Ev (g n s) r)
    (hs : ∀ m s, m < n → Inv m s → ∃ s', Inv (m + 1) s' ∧ (Ev (g (m + 1) s') r → Ev (g m s) r)) : ∀ m s, m ≤ n → Inv m s → Ev (g m s) r := by
  have key : ∀ d m s, m + d = n → Inv m s → Ev (g m s) r := by
    intro d
    induction d with
    | zero =>
      intro m s e hi
      obtain rfl : m = n := by omega
      exact h0 s hi
    | succ d ih =>
      intro m s e hi
      obtain ⟨s', hi', k⟩ := hs m s (by omega) hi
      exact k (ih (m + 1) s' (by omega) hi')
  intro m s hm hi
  exact key (n - m) m s (by omega) hi
theorem rd_nat {xs : List Int} {m : Nat} (h : m < xs.length) : rd xs (m : Int) = xs[m] := by
  unfold rd
  rw [Int.toNat_natCast, List.getD_eq_getElem?_getD, List.getElem?_eq_getElem h]
  rfl
theorem w_succ {m : Nat} (h : m < 9223372036854775807) : wrap64 ((m : Int) + 1) = ((m + 1 : Nat) : Int) := by
  rw [w64 (by omega) (by omega)]
  omega
end Go.Proofs.Ytjeidmbggdgggaa.Com

/- The word of a line on the reference's side, and the calendar with evenly placed leap years. -/
namespace Go.Proofs.Ytjeidmbggdgggaa.Com
set_option linter.unusedSimpArgs false
set_option linter.unusedVariables false
set_option linter.unusedSectionVars false
open Go.RowKit Go.Proofs.YtjeidmbggdgggaaW.PrintWords Go.Proofs.YtjeidmbggdgggaaW.PrintMore Go.Proofs.Ytjeidmbggdgggaa.Q

theorem bt_str (xs : List Int) (m : Nat) (h : m < xs.length) (hb : ∀ x ∈ xs, 0 ≤ x ∧ x ≤ 255) : bt (strOfNums xs) (m : Int) = xs[m] := by
  have hs : (strOfNums xs).size = xs.length := by rw [strOfNums_size]
  unfold bt
  rw [dif_pos (by rw [Int.toNat_natCast, hs]; exact h)]
  have hx := hb _ (List.getElem_mem h)
  have : (strOfNums xs)[((m : Int)).toNat]'(by rw [Int.toNat_natCast, hs]; exact h) = UInt8.ofNat (xs[m]).toNat := by
    simp [strOfNums, ByteArray.getElem_eq_getElem_data]
  rw [this]
  simp
  omega
/-- The letter of a word of a line at a place: 98 where the floor rises. -/
def stepUp (a b s : Int) (i : Nat) : Bool := decide ((((i : Int) + 1) * a + s) / b > ((i : Int) * a + s) / b)
def letters (a b s : Int) (n : Nat) : List Int := (List.range n).map fun i => if stepUp a b s i then 98 else 97
theorem letters_len (a b s : Int) (n : Nat) : (letters a b s n).length = n := by simp [letters]
theorem letters_succ (a b s : Int) (n : Nat) : letters a b s (n + 1) = letters a b s n ++ [if stepUp a b s n then 98 else 97] := by
  simp [letters, List.range_succ]
theorem letters_at (a b s : Int) (n i : Nat) (h : i < (letters a b s n).length) : (letters a b s n)[i] = if stepUp a b s i then 98 else 97 := by
  simp [letters]
theorem letters_byte (a b s : Int) (n : Nat) : ∀ x ∈ letters a b s n, 0 ≤ x ∧ x ≤ 255 := by
  intro x hx
  unfold letters at hx
  obtain ⟨i, _, rfl⟩ := List.mem_map.1 hx
  split <;> omega
theorem specFloor_nn {x b : Int} (hx : 0 ≤ x ∧ x ≤ 1000000000) (hb : 1 ≤ b) : spec_l01Floor.f x b = some (x / b) := by
  have q0 : 0 ≤ x / b := Int.ediv_nonneg hx.1 (by omega)
  have q1 : x / b ≤ x := Int.ediv_le_self _ hx.1
  have q2 := Int.ediv_mul_le x (show b ≠ 0 by omega)
  have q3 : 0 ≤ x / b * b := Int.mul_nonneg q0 (by omega)
  unfold spec_l01Floor.f
  rw [if_neg (by omega), tdiv_nn hx.1, w64 (x := x / b) (by omega) (by omega), w64 (x := x / b * b) (by omega) (by omega), if_neg (by omega)]
theorem specLine_ev (a b s : Int) (n : Nat) (ha : 0 ≤ a ∧ a ≤ 1000) (hb : 1 ≤ b) (hs : 0 ≤ s ∧ s ≤ 1000) (hn : n ≤ 1000) : Ev (fun k => spec_l07Line.f k a b s (n : Int)) (strOfNums (letters a b s n)) := by
  unfold spec_l07Line.f
  refine ev_count n (fun m l k => spec_l07Line.l0 k a b s (n : Int) l (m : Int)) (strOfNums (letters a b s n)) (fun m l => l = letters a b s m) ?_ ?_ 0 [] (by omega) rfl
  · rintro l rfl
    refine Ev.step (fun k => by rw [spec_l07Line.l0]) ?_
    simp only [if_neg (show ¬ (n : Int) < (n : Int) by omega)]
    exact Ev.now _
  · rintro m l hm rfl
    refine ⟨_, rfl, fun ih => ?_⟩
    refine Ev.step (fun k => by rw [spec_l07Line.l0]) ?_
    have p1 := mul_bd (a := (m : Int)) (b := a) (by omega) (show (m : Int) ≤ 1000 by omega) ha.1 ha.2
    have p2 := mul_bd (a := (m : Int) + 1) (b := a) (by omega) (show (m : Int) + 1 ≤ 1000 by omega) ha.1 ha.2
    simp only [if_pos (show (m : Int) < (n : Int) by omega)]
    rw [w64 (x := (m : Int) + 1) (by omega) (by omega), w64 (x := ((m : Int) + 1) * a) (by omega) (by omega), w64 (x := ((m : Int) + 1) * a + s) (by omega) (by omega), w64 (x := (m : Int) * a) (by omega) (by omega), w64 (x := (m : Int) * a + s) (by omega) (by omega)]
    rw [specFloor_nn (by omega) hb, specFloor_nn (by omega) hb]
    simp only [Option.bind_some, letters_len, if_pos (show m < 140737488355328 by omega)]
    rw [show ((m : Int) + 1) = ((m + 1 : Nat) : Int) by omega] at *
    rw [letters_succ] at ih
    by_cases q : (((m + 1 : Nat) : Int) * a + s) / b > ((m : Int) * a + s) / b
    · simp only [if_pos q]
      rw [show stepUp a b s m = true from by unfold stepUp; exact decide_eq_true (by rw [show ((m : Int) + 1) = ((m + 1 : Nat) : Int) by omega]; exact q)] at ih
      exact ih
    · simp only [if_neg q]
      rw [show stepUp a b s m = false from by unfold stepUp; exact decide_eq_false (by rw [show ((m : Int) + 1) = ((m + 1 : Nat) : Int) by omega]; exact q)] at ih
      exact ih
def ups (a b s : Int) (n : Nat) : List Int := ((List.range n).filter fun i => stepUp a b s i).map fun (i : Nat) => (i : Int)
theorem ups_succ (a b s : Int) (n : Nat) : ups a b s (n + 1) = if stepUp a b s n then ups a b s n ++ [(n : Int)] else ups a b s n := by
  unfold ups
  rw [List.range_succ, List.filter_append, List.map_append]
  by_cases h : stepUp a b s n = true <;> simp [h]
theorem ups_len (a b s : Int) (n : Nat) : (ups a b s n).length ≤ n := by
  unfold ups
  rw [List.length_map]
  have := List.length_filter_le (fun i => stepUp a b s i) (List.range n)
  simpa using this
theorem specEven_ev (c lp cm sh : Int) (n : Nat) (hc : c = n) (hn : 1 ≤ n ∧ n ≤ 1000) (ha : 0 ≤ lp ∧ lp ≤ 1000) (hs : 0 ≤ sh ∧ sh ≤ 1000) : Ev (fun k => spec_l11Even.f k c lp cm sh) (c, cm, ups lp c sh n) := by
  subst hc
  unfold spec_l11Even.f
  refine Ev.bind (specLine_ev lp (n : Int) sh n ha (by omega) hs (by omega)) ?_
  refine ev_count n (fun m l k => spec_l11Even.l0 k (strOfNums (letters lp (n : Int) sh n)) (m : Int) (n : Int) cm l) _ (fun m l => l = ups lp (n : Int) sh m) ?_ ?_ 0 [] (by omega) rfl
  · rintro l rfl
    refine Ev.step (fun k => by rw [spec_l11Even.l0]) ?_
    simp only [strOfNums_size, letters_len, if_neg (show ¬ (n : Int) < (n : Int) by omega)]
    exact Ev.now _
  · rintro m l hm rfl
    refine ⟨_, rfl, fun ih => ?_⟩
    refine Ev.step (fun k => by rw [spec_l11Even.l0]) ?_
    have hl := ups_len lp (n : Int) sh m
    have e : bt (strOfNums (letters lp (n : Int) sh n)) (m : Int) = if stepUp lp (n : Int) sh m then 98 else 97 := by
      rw [bt_str _ m (by rw [letters_len]; exact hm) (letters_byte lp (n : Int) sh n), letters_at]
    simp only [strOfNums_size, letters_len, if_pos (show (m : Int) < (n : Int) by omega), if_pos (show 0 ≤ (m : Int) by omega), e, w_succ (m := m) (by omega)]
    rw [ups_succ] at ih
    by_cases q : stepUp lp (n : Int) sh m = true
    · simp only [q, if_true] at ih ⊢
      simp only [if_pos (show (ups lp (n : Int) sh m).length < 17592186044416 by omega)]
      exact ih
    · simp only [Bool.not_eq_true] at q
      simp only [q, Bool.false_eq_true, if_false] at ih ⊢
      simp only [if_neg (show ¬ (97 : Int) = 98 by omega)]
      exact ih
end Go.Proofs.Ytjeidmbggdgggaa.Com

/- The program's and the reference's tests of bounds. -/
namespace Go.Proofs.Ytjeidmbggdgggaa.Com
set_option linter.unusedSimpArgs false
set_option linter.unusedVariables false
open Go.RowKit Go.Proofs.YtjeidmbggdgggaaW.PrintWords Go.Proofs.Ytjeidmbggdgggaa.Q

theorem within_tells (x a b : Int) : impl_within.f x a b = some (decide (a ≤ x ∧ x ≤ b)) := by
  unfold impl_within.f
  split <;> simp [*]
theorem in_tells (x a b : Int) : spec_l00In.f x a b = some (decide (a ≤ x ∧ x ≤ b)) := by
  unfold spec_l00In.f
  by_cases h : x ≥ a
  · have h' : a ≤ x := h
    simp [h, h']
  · have h' : ¬ a ≤ x := h
    simp [h, h']
end Go.Proofs.Ytjeidmbggdgggaa.Com

/- The program's calendar with evenly placed leap years, and the reference's. -/
namespace Go.Proofs.Ytjeidmbggdgggaa.Com
set_option linter.unusedSimpArgs false
set_option linter.unusedVariables false
set_option linter.unusedSectionVars false
open Go.RowKit Go.Proofs.YtjeidmbggdgggaaW.PrintWords Go.Proofs.YtjeidmbggdgggaaW.PrintMore Go.Proofs.Ytjeidmbggdgggaa.Q

theorem implFloor_nn {x b : Int} (hx : 0 ≤ x ∧ x ≤ 1000000000) (hb : 1 ≤ b) : impl_floor.f x b = some (x / b) := by
  have q0 : 0 ≤ x / b := Int.ediv_nonneg hx.1 (by omega)
  have q1 : x / b ≤ x := Int.ediv_le_self _ hx.1
  have q2 := Int.emod_nonneg x (show b ≠ 0 by omega)
  unfold impl_floor.f
  rw [if_neg (by omega), tmod_nn hx.1, tdiv_nn hx.1, w64 (x := x / b) (by omega) (by omega), if_neg (by omega)]
theorem implSteps_ev (a b s : Int) (n : Nat) (ha : 0 ≤ a ∧ a ≤ 1000) (hb : 1 ≤ b) (hs : 0 ≤ s ∧ s ≤ 1000) (hn : n ≤ 1000) : Ev (fun k => impl_steps.f k a b s (n : Int) 98 97) (strOfNums (letters a b s n)) := by
  unfold impl_steps.f
  refine ev_count n (fun m l k => impl_steps.l0 k a b s 98 97 l (n : Int) (m : Int)) (strOfNums (letters a b s n)) (fun m l => l = letters a b s m) ?_ ?_ 0 [] (by omega) rfl
  · rintro l rfl
    refine Ev.step (fun k => by rw [impl_steps.l0]) ?_
    simp only [if_neg (show ¬ (n : Int) < (n : Int) by omega)]
    exact Ev.now _
  · rintro m l hm rfl
    refine ⟨_, rfl, fun ih => ?_⟩
    refine Ev.step (fun k => by rw [impl_steps.l0]) ?_
    have p1 := mul_bd (a := (m : Int)) (b := a) (by omega) (show (m : Int) ≤ 1000 by omega) ha.1 ha.2
    have p2 := mul_bd (a := (m : Int) + 1) (b := a) (by omega) (show (m : Int) + 1 ≤ 1000 by omega) ha.1 ha.2
    simp only [if_pos (show (m : Int) < (n : Int) by omega)]
    rw [w64 (x := (m : Int) + 1) (by omega) (by omega), w64 (x := ((m : Int) + 1) * a) (by omega) (by omega), w64 (x := ((m : Int) + 1) * a + s) (by omega) (by omega), w64 (x := (m : Int) * a) (by omega) (by omega), w64 (x := (m : Int) * a + s) (by omega) (by omega)]
    rw [implFloor_nn (by omega) hb, implFloor_nn (by omega) hb]
    simp only [Option.bind_some, letters_len, if_pos (show m < 140737488355328 by omega)]
    rw [show ((m : Int) + 1) = ((m + 1 : Nat) : Int) by omega] at *
    rw [letters_succ] at ih
    by_cases q : (((m + 1 : Nat) : Int) * a + s) / b > ((m : Int) * a + s) / b
    · simp only [if_pos q]
      rw [show stepUp a b s m = true from by unfold stepUp; exact decide_eq_true (by rw [show ((m : Int) + 1) = ((m + 1 : Nat) : Int) by omega]; exact q)] at ih
      exact ih
    · simp only [if_neg q]
      rw [show stepUp a b s m = false from by unfold stepUp; exact decide_eq_false (by rw [show ((m : Int) + 1) = ((m + 1 : Nat) : Int) by omega]; exact q)] at ih
      exact ih
theorem implEvenLoop_ev (c lp cm sh : Int) (n : Nat) (hn : n ≤ 1000) : Ev (fun k => impl_EvenCalendar.l0 k 0 (strOfNums (letters lp c sh n)) c cm []) (c, cm, ups lp c sh n, true) := by
  refine ev_count n (fun m l k => impl_EvenCalendar.l0 k m (strOfNums (letters lp c sh n)) c cm l) _ (fun m l => l = ups lp c sh m) ?_ ?_ 0 [] (by omega) rfl
  · rintro l rfl
    refine Ev.step (fun k => by rw [impl_EvenCalendar.l0]) ?_
    simp only [strOfNums_size, letters_len, if_neg (show ¬ n < n by omega)]
    exact Ev.now _
  · rintro m l hm rfl
    refine ⟨_, rfl, fun ih => ?_⟩
    refine Ev.step (fun k => by rw [impl_EvenCalendar.l0]) ?_
    have hl := ups_len lp c sh m
    have e : bt (strOfNums (letters lp c sh n)) (m : Int) = if stepUp lp c sh m then 98 else 97 := by
      rw [bt_str _ m (by rw [letters_len]; exact hm) (letters_byte lp c sh n), letters_at]
    simp only [strOfNums_size, letters_len, if_pos hm, e]
    rw [ups_succ] at ih
    by_cases q : stepUp lp c sh m = true
    · simp only [q, if_true] at ih ⊢
      simp only [if_pos (show (98 : Int) < 128 by omega), if_true, if_pos (show (ups lp c sh m).length < 17592186044416 by omega)]
      exact ih
    · simp only [Bool.not_eq_true] at q
      simp only [q, Bool.false_eq_true, if_false] at ih ⊢
      simp only [if_pos (show (97 : Int) < 128 by omega), if_neg (show ¬ (97 : Int) = 98 by omega)]
      exact ih
def evR (c lp cm sh : Int) : Int × Int × List Int × Bool := if ((1 ≤ c ∧ c ≤ 400) ∧ (0 ≤ lp ∧ lp ≤ c)) ∧ ((1 ≤ cm ∧ cm ≤ 1000) ∧ (0 ≤ sh ∧ sh ≤ c - 1)) then (c, cm, ups lp c sh c.toNat, true) else (0, 0, [], false)
theorem evR_len (c lp cm sh : Int) : (evR c lp cm sh).2.2.1.length ≤ 400 := by
  unfold evR
  split
  · have := ups_len lp c sh c.toNat
    simp only
    omega
  · simp
theorem implEven_ev (c lp cm sh : Int) : Ev (fun k => impl_EvenCalendar.f k c lp cm sh) (evR c lp cm sh) := by
  unfold impl_EvenCalendar.f evR
  have j1 : Ev (fun k => impl_EvenCalendar.j0 k c lp cm sh true) (0, 0, [], false) := Ev.step (fun k => by rw [impl_EvenCalendar.j0]) (by simp only [if_true]; exact Ev.now _)
  refine ev_bind' (within_tells _ _ _) ?_
  by_cases h1 : 1 ≤ c ∧ c ≤ 400
  · simp only [decide_eq_true h1, if_true, h1, true_and]
    refine ev_bind' (within_tells _ _ _) ?_
    by_cases h2 : 0 ≤ lp ∧ lp ≤ c
    · simp only [decide_eq_true h2, if_true, h2, true_and]
      refine ev_bind' (within_tells _ _ _) ?_
      by_cases h3 : 1 ≤ cm ∧ cm ≤ 1000
      · simp only [decide_eq_true h3, if_true, h3, true_and]
        rw [w64 (x := c - 1) (by omega) (by omega)]
        refine ev_bind' (within_tells _ _ _) ?_
        by_cases h4 : 0 ≤ sh ∧ sh ≤ c - 1
        · simp only [h4, and_self, decide_true, if_true, true_and, Bool.not_true]
          refine Ev.step (fun k => by rw [impl_EvenCalendar.j0]) ?_
          simp only [Bool.false_eq_true, if_false]
          have hc : ((c.toNat : Nat) : Int) = c := Int.toNat_of_nonneg (by omega)
          have e := implSteps_ev lp c sh c.toNat (by omega) (by omega) (by omega) (by omega)
          rw [hc] at e
          exact Ev.bind e (implEvenLoop_ev c lp cm sh c.toNat (by omega))
        · simp only [decide_eq_false h4, if_neg h4, Bool.not_false]
          exact j1
      · simp only [decide_eq_false h3, Bool.false_eq_true, if_false, h3, false_and]
        exact j1
    · simp only [decide_eq_false h2, Bool.false_eq_true, if_false, h2, false_and]
      exact j1
  · simp only [decide_eq_false h1, Bool.false_eq_true, if_false, h1, false_and]
    exact j1
theorem specEvenCal_ev (c lp cm sh : Int) : Ev (fun k => spec_EvenCalendar.f k c lp cm sh) (evR c lp cm sh) := by
  unfold spec_EvenCalendar.f evR
  refine ev_bind' (in_tells _ _ _) ?_
  by_cases h1 : 1 ≤ c ∧ c ≤ 400
  · simp only [decide_eq_true h1, if_true, h1, true_and]
    refine ev_bind' (in_tells _ _ _) ?_
    by_cases h2 : 0 ≤ lp ∧ lp ≤ c
    · simp only [decide_eq_true h2, if_true, h2, true_and]
      refine ev_bind' (in_tells _ _ _) ?_
      by_cases h3 : 1 ≤ cm ∧ cm ≤ 1000
      · simp only [decide_eq_true h3, if_true, h3, true_and]
        rw [w64 (x := c - 1) (by omega) (by omega)]
        refine ev_bind' (in_tells _ _ _) ?_
        by_cases h4 : 0 ≤ sh ∧ sh ≤ c - 1
        · simp only [decide_eq_true h4, if_true, h4, true_and, and_self]
          have hc : ((c.toNat : Nat) : Int) = c := Int.toNat_of_nonneg (by omega)
          exact Ev.bind (specEven_ev c lp cm sh c.toNat hc.symm (by omega) (by omega) (by omega)) (Ev.now _)
        · simp only [decide_eq_false h4, if_neg h4, Bool.false_eq_true, if_false]
          exact Ev.now _
      · simp only [decide_eq_false h3, Bool.false_eq_true, if_false, h3, false_and]
        exact Ev.now _
    · simp only [decide_eq_false h2, Bool.false_eq_true, if_false, h2, false_and]
      exact Ev.now _
  · simp only [decide_eq_false h1, Bool.false_eq_true, if_false, h1, false_and]
    exact Ev.now _
end Go.Proofs.Ytjeidmbggdgggaa.Com

/- What the laws' own helpers tell: a copy is the list itself, equality is equality, sizes are told. -/
namespace Go.Proofs.Ytjeidmbggdgggaa.Com
set_option linter.unusedSimpArgs false
set_option linter.unusedVariables false
open Go.RowKit Go.Proofs.YtjeidmbggdgggaaW.PrintWords Go.Proofs.Ytjeidmbggdgggaa.Q

theorem eqInt64S_ev (xs ys : List Int) (hx : xs.length ≤ 1048576) : Ev (fun k => laws_eqInt64S.f k xs ys) (decide (xs = ys)) := by
  unfold laws_eqInt64S.f
  by_cases hl : (xs.length : Int) = (ys.length : Int)
  · simp only [if_pos hl]
    have key : ∀ m, m ≤ xs.length → Ev (fun k => laws_eqInt64S.l0 k xs ys (m : Int)) (decide (xs.drop m = ys.drop m)) := by
      have gen := ev_list xs (fun m k => laws_eqInt64S.l0 k xs ys (m : Int)) (fun l => decide (l = ys.drop (xs.length - l.length))) ?_ ?_
      · intro m hm
        have := gen m hm
        rwa [List.length_drop, show xs.length - (xs.length - m) = m by omega] at this
      · refine Ev.step (fun k => by rw [laws_eqInt64S.l0]) ?_
        simp only [if_neg (show ¬ (xs.length : Int) < (xs.length : Int) by omega)]
        have : ys.drop (xs.length - ([] : List Int).length) = [] := by simp; omega
        rw [this]
        exact Ev.now _
      · intro m hm ih
        refine Ev.step (fun k => by rw [laws_eqInt64S.l0]) ?_
        have hy : m < ys.length := by omega
        simp only [if_pos (show (m : Int) < (xs.length : Int) by omega), if_pos (show 0 ≤ (m : Int) by omega), if_pos (show (m : Int) < (ys.length : Int) by omega), rd_nat hm, rd_nat hy, w_succ (m := m) (by omega)]
        rw [List.length_drop, show xs.length - (xs.length - (m + 1)) = m + 1 by omega] at ih
        have e : xs.length - (xs[m] :: xs.drop (m + 1)).length = m := by simp; omega
        rw [e, List.drop_eq_getElem_cons hy]
        by_cases c : xs[m] = ys[m]
        · simp only [if_pos c]
          rw [show decide (xs[m] :: xs.drop (m + 1) = ys[m] :: ys.drop (m + 1)) = decide (xs.drop (m + 1) = ys.drop (m + 1)) from decide_eq_decide.2 (by rw [c]; exact ⟨fun h => (List.cons.inj h).2, fun h => by rw [h]⟩)]
          exact ih
        · simp only [if_neg c]
          rw [decide_eq_false (show ¬ xs[m] :: xs.drop (m + 1) = ys[m] :: ys.drop (m + 1) from fun h => c (List.cons.inj h).1)]
          exact Ev.now _
    have := key 0 (by omega)
    simpa using this
  · simp only [if_neg hl]
    have : xs ≠ ys := fun e => hl (by rw [e])
    rw [decide_eq_false this]
    exact Ev.now _
end Go.Proofs.Ytjeidmbggdgggaa.Com

/- What the laws' marks tell: a list that is marked holds its marks. -/
namespace Go.Proofs.Ytjeidmbggdgggaa.Com
set_option linter.unusedSimpArgs false
set_option linter.unusedVariables false
open Go.RowKit Go.Proofs.YtjeidmbggdgggaaW.PrintWords Go.Proofs.Ytjeidmbggdgggaa.Q

def markL (n : Nat) (a : Int) : List Int := (List.range n).map fun (i : Nat) => a + (i : Int)
theorem markL_len (n : Nat) (a : Int) : (markL n a).length = n := by simp [markL]
theorem markL_at (n : Nat) (a : Int) (i : Nat) (h : i < (markL n a).length) : (markL n a)[i] = a + i := by simp [markL]
theorem markL_succ (n : Nat) (a : Int) : markL (n + 1) a = markL n a ++ [a + n] := by
  unfold markL
  rw [List.range_succ, List.map_append]
  rfl
theorem mark_set (xs : List Int) (m : Nat) (a : Int) (h : m < xs.length) : (markL m a ++ xs.drop m).set m (a + m) = markL (m + 1) a ++ xs.drop (m + 1) := by
  rw [List.set_append_right _ _ (by rw [markL_len]; omega), markL_len, Nat.sub_self, List.drop_eq_getElem_cons h, List.set_cons_zero, markL_succ, List.append_assoc]
  rfl
theorem markInt64S_ev (xs : List Int) (a : Int) (hx : xs.length ≤ 1048576) (ha : 0 ≤ a ∧ a ≤ 1000000000000) : Ev (fun k => laws_markInt64S.f k xs a) (a + xs.length, markL xs.length a) := by
  unfold laws_markInt64S.f
  have gen := ev_count xs.length (fun m (s : List Int × Int) k => laws_markInt64S.l0 k s.1 s.2 (m : Int)) (a + (xs.length : Int), markL xs.length a) (fun m s => s = (markL m a ++ xs.drop m, a + m)) ?_ ?_ 0 (xs, a) (by omega) (by simp [markL])
  · exact gen
  · rintro s rfl
    refine Ev.step (fun k => by rw [laws_markInt64S.l0]) ?_
    have hl : (markL xs.length a ++ xs.drop xs.length).length = xs.length := by rw [List.length_append, markL_len, List.length_drop]; omega
    rw [List.drop_length, List.append_nil] at hl ⊢
    simp only [hl, if_neg (show ¬ (xs.length : Int) < (xs.length : Int) by omega)]
    exact Ev.now _
  · rintro m s hm rfl
    refine ⟨_, rfl, fun ih => ?_⟩
    refine Ev.step (fun k => by rw [laws_markInt64S.l0]) ?_
    have hl : (markL m a ++ xs.drop m).length = xs.length := by rw [List.length_append, markL_len, List.length_drop]; omega
    simp only [hl, if_pos (show (m : Int) < (xs.length : Int) by omega), if_pos (show 0 ≤ (m : Int) by omega), Int.toNat_natCast, mark_set xs m a hm, w_succ (m := m) (by omega)]
    rw [w64 (by omega) (by omega)]
    simp only at ih
    rwa [show a + ((m + 1 : Nat) : Int) = a + (m : Int) + 1 by omega] at ih
theorem heldInt64S_ev (n : Nat) (a : Int) (hx : n ≤ 1048576) (ha : 0 ≤ a ∧ a ≤ 1000000000000) : Ev (fun k => laws_heldInt64S.f k (markL n a) a) (a + n) := by
  unfold laws_heldInt64S.f
  have gen := ev_count n (fun m (s : Int) k => laws_heldInt64S.l0 k (markL n a) s (m : Int)) (a + (n : Int)) (fun m s => s = a + m) ?_ ?_ 0 a (by omega) (by simp)
  · exact gen
  · rintro s rfl
    refine Ev.step (fun k => by rw [laws_heldInt64S.l0]) ?_
    simp only [markL_len, if_neg (show ¬ (n : Int) < (n : Int) by omega)]
    exact Ev.now _
  · rintro m s hm rfl
    refine ⟨_, rfl, fun ih => ?_⟩
    refine Ev.step (fun k => by rw [laws_heldInt64S.l0]) ?_
    have h : m < (markL n a).length := by rw [markL_len]; exact hm
    simp only [if_pos (show (m : Int) < ((markL n a).length : Int) by rw [markL_len]; omega), if_pos (show 0 ≤ (m : Int) by omega), rd_nat h, markL_at, if_true, w_succ (m := m) (by omega)]
    rw [w64 (by omega) (by omega)]
    rwa [show a + ((m + 1 : Nat) : Int) = a + (m : Int) + 1 by omega] at ih
end Go.Proofs.Ytjeidmbggdgggaa.Com

/- The pure statement of FnExactEvenCalendar: for all arguments the program's EvenCalendar returns what the reference's returns. -/
namespace Go.Proofs.Ytjeidmbggdgggaa.Pure
set_option linter.unusedSimpArgs false
set_option linter.unusedVariables false
open Go.RowKit Go.Proofs.Ytjeidmbggdgggaa.Q Go.Proofs.YtjeidmbggdgggaaW.PrintWords Go.Proofs.YtjeidmbggdgggaaW.PrintLast Go.Proofs.Ytjeidmbggdgggaa.Com

theorem FnExactEvenCalendar : laws_FnExactEvenCalendar.Pure := by
  intro a0 a1 a2 a3 _ _ _ _
  apply ev_of
  unfold laws_FnExactEvenCalendar.f
  have hs := specEvenCal_ev a0 a1 a2 a3
  have hi := implEven_ev a0 a1 a2 a3
  have hr := evR_len a0 a1 a2 a3
  generalize evR a0 a1 a2 a3 = r at hi hs hr
  obtain ⟨c, m, y, b⟩ := r
  have hr : y.length ≤ 400 := hr
  have heq : Ev (fun k => laws_eqCalendar.f k c m y c m y) true := by
    unfold laws_eqCalendar.f
    simp only [if_true]
    refine Ev.bind (eqInt64S_ev y y (by omega)) ?_
    simp only [decide_true, if_true]
    exact Ev.now _
  have hheld : Ev (fun k => laws_heldCalendar.f k c m (markL y.length 1) 1) (1 + (y.length : Int)) := by
    unfold laws_heldCalendar.f
    refine Ev.bind (heldInt64S_ev y.length 1 (by omega) (by omega)) ?_
    simp only [if_neg (show ¬ (1 + (y.length : Int)) < 0 by omega)]
    exact Ev.now _
  have hmark : Ev (fun k => laws_markCalendar.f k c m y 1) (1 + (y.length : Int), markL y.length 1) := by
    unfold laws_markCalendar.f
    refine Ev.bind (markInt64S_ev y 1 (by omega) (by omega)) ?_
    exact Ev.now _
  refine Ev.bind hs (Ev.bind hi (Ev.bind heq ?_))
  simp only [if_true, bne_self_eq_false]
  refine Ev.step (fun k => by rw [laws_FnExactEvenCalendar.j0]) ?_
  simp only [Bool.false_eq_true, if_false]
  refine Ev.bind hmark (Ev.bind hheld ?_)
  simp only [if_neg (show ¬ (1 + (y.length : Int)) < 0 by omega), if_true]
  refine Ev.bind hi (Ev.bind heq ?_)
  simp only [if_true, bne_self_eq_false]
  refine Ev.step (fun k => by rw [laws_FnExactEvenCalendar.j1]) ?_
  simp only [Bool.false_eq_true, if_false]
  refine Ev.bind hheld ?_
  simp only [if_neg (show ¬ (1 + (y.length : Int)) < 0 by omega), if_true]
  exact Ev.now _
end Go.Proofs.Ytjeidmbggdgggaa.Pure
