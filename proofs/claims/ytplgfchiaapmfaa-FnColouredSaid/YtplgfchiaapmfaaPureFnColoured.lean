import Derived.Test.YtplgfchiaapmfaaWNEv
import Derived.Test.YtplgfchiaapmfaaWMore
import Derived.Laws.BitsLemmas
import Derived.Test.YtplgfchiaapmfaaQ5
import Derived.Test.YtplgfchiaapmfaaQ6
import Derived.Test.YtplgfchiaapmfaaQ7
import Derived.Test.YtplgfchiaapmfaaQ17
import Derived.Test.YtplgfchiaapmfaaQ30
import Derived.Test.YtplgfchiaapmfaaQ32
import Derived.Test.YtplgfchiaapmfaaQ33
import Derived.Test.YtplgfchiaapmfaaQ34
import Derived.Test.YtplgfchiaapmfaaQ35
import Derived.Test.YtplgfchiaapmfaaQ36
import Derived.Test.YtplgfchiaapmfaaQ37
import Derived.Test.YtplgfchiaapmfaaQ38
import Derived.Test.YtplgfchiaapmfaaQ39
import Derived.Test.YtplgfchiaapmfaaQ40
import Derived.Test.YtplgfchiaapmfaaQ41
import Derived.Test.YtplgfchiaapmfaaQ42
import Derived.Test.YtplgfchiaapmfaaQ43
import Derived.Test.YtplgfchiaapmfaaQ44
import Derived.Test.YtplgfchiaapmfaaQ45
/- Small facts of whole numbers, of wrapping, and of rounds that suffice, for the pure statements. -/
namespace Go.Proofs.Ytplgfchiaapmfaa.Com
open Go.RowKit Go.Proofs.YtplgfchiaapmfaaW.PrintWords

theorem w64 {x : Int} (h1 : -9223372036854775808 ≤ x) (h2 : x ≤ 9223372036854775807) : wrap64 x = x := by
  unfold wrap64
  omega
theorem mul_bd {a b A B : Int} (h0 : 0 ≤ a) (h1 : a ≤ A) (h2 : 0 ≤ b) (h3 : b ≤ B) : 0 ≤ a * b ∧ a * b ≤ A * B :=
  ⟨Int.mul_nonneg h0 h2, Int.mul_le_mul h1 h3 h2 (Int.le_trans h0 h1)⟩
theorem ev_of {α : Type} {g : Nat → Option α} {r : α} (h : Ev g r) : ∃ k, g k = some r := h.rounds
theorem ev_bind' {α β : Type} {o : Option α} {f : Nat → α → Option β} {a : α} {r : β} (h : o = some a) (k : Ev (fun n => f n a) r) : Ev (fun n => o.bind (f n)) r := by
  subst h
  exact k
theorem tmod_nn {a b : Int} (h : 0 ≤ a) : Int.tmod a b = a % b := Int.tmod_eq_emod_of_nonneg h
end Go.Proofs.Ytplgfchiaapmfaa.Com

/- Loops over lists, by their rounds: general lemmas. -/
namespace Go.Proofs.Ytplgfchiaapmfaa.Com
set_option linter.unusedSimpArgs false
set_option linter.unusedVariables false
open Go.RowKit Go.Proofs.YtplgfchiaapmfaaW.PrintWords

theorem ev_fold {α σ ρ : Type} (xs : List α) (g : Nat → σ → Nat → Option ρ) (F : List α → σ → ρ) (Inv : Nat → σ → Prop)
    (h0 : ∀ s, Inv xs.length s → Ev (g xs.length s) (F [] s))
    (hs : ∀ m (h : m < xs.length) s, Inv m s → (∀ s', Inv (m + 1) s' → Ev (g (m + 1) s') (F (xs.drop (m + 1)) s')) → Ev (g m s) (F (xs[m] :: xs.drop (m + 1)) s)) :
    ∀ m s, m ≤ xs.length → Inv m s → Ev (g m s) (F (xs.drop m) s) := by
  have key : ∀ d m s, m + d = xs.length → Inv m s → Ev (g m s) (F (xs.drop m) s) := by
    intro d
    induction d with
    | zero =>
      intro m s e hi
      obtain rfl : m = xs.length := by omega
      rw [List.drop_length]
      exact h0 s hi
    | succ d ih =>
      intro m s e hi
      have h : m < xs.length := by omega
      rw [List.drop_eq_getElem_cons h]
      exact hs m h s hi (fun s' hi' => ih (m + 1) s' (by omega) hi')
  intro m s hm hi
  exact key (xs.length - m) m s (by omega) hi
theorem ev_list {α ρ : Type} (xs : List α) (g : Nat → Nat → Option ρ) (F : List α → ρ) (h0 : Ev (g xs.length) (F []))
    (hs : ∀ m (h : m < xs.length), Ev (g (m + 1)) (F (xs.drop (m + 1))) → Ev (g m) (F (xs[m] :: xs.drop (m + 1)))) (m : Nat) (hm : m ≤ xs.length) : Ev (g m) (F (xs.drop m)) :=
  ev_fold xs (fun m (_ : Unit) => g m) (fun l _ => F l) (fun _ _ => True) (fun _ _ => h0) (fun m h _ _ ih => hs m h (ih () trivial)) m () hm trivial
/-- A loop that counts from m up to n. -/
theorem ev_count {σ ρ : Type} (n : Nat) (g : Nat → σ → Nat → Option ρ) (r : ρ) (Inv : Nat → σ → Prop) (h0 : ∀ s, Inv n s → Ev (g n s) r)
    (hs : ∀ m s, m < n → Inv m s → ∃ s', Inv (m + 1) s' ∧ (Ev (g (m + 1) s') r → Ev (g m s) r)) : ∀ m s, m ≤ n → Inv m s → Ev (g m s) r := by
  have key : ∀ d m s, m + d = n → Inv m s → Ev (g m s) r := by
    intro d
    induction d with
    | zero =>
      intro m s e hi
      obtain rfl : m = n := by omega
      exact h0 s hi
    | succ d ih =>
      intro m s e hi
      obtain ⟨s', hi', k⟩ := hs m s (by omega) hi
      exact k (ih (m + 1) s' (by omega) hi')
  intro m s hm hi
  exact key (n - m) m s (by omega) hi
theorem rd_nat {xs : List Int} {m : Nat} (h : m < xs.length) : rd xs (m : Int) = xs[m] := by
  unfold rd
  rw [Int.toNat_natCast, List.getD_eq_getElem?_getD, List.getElem?_eq_getElem h]
  rfl
theorem w_succ {m : Nat} (h : m < 9223372036854775807) : wrap64 ((m : Int) + 1) = ((m + 1 : Nat) : Int) := by
  rw [w64 (by omega) (by omega)]
  omega
end Go.Proofs.Ytplgfchiaapmfaa.Com

/- The program's and the reference's tests of bounds. -/
namespace Go.Proofs.Ytplgfchiaapmfaa.Com
set_option linter.unusedSimpArgs false
set_option linter.unusedVariables false
open Go.RowKit Go.Proofs.YtplgfchiaapmfaaW.PrintWords Go.Proofs.Ytplgfchiaapmfaa.Q

theorem within_tells (x a b : Int) : impl_within.f x a b = some (decide (a ≤ x ∧ x ≤ b)) := by
  unfold impl_within.f
  split <;> simp [*]
end Go.Proofs.Ytplgfchiaapmfaa.Com

/- What the laws' own helpers tell: a copy is the list itself, equality is equality, sizes are told. -/
namespace Go.Proofs.Ytplgfchiaapmfaa.Com
set_option linter.unusedSimpArgs false
set_option linter.unusedVariables false
open Go.RowKit Go.Proofs.YtplgfchiaapmfaaW.PrintWords Go.Proofs.Ytplgfchiaapmfaa.Q

end Go.Proofs.Ytplgfchiaapmfaa.Com

/- Bits of small sets: what the machine's operations on them come to. -/
namespace Go.Proofs.Ytplgfchiaapmfaa.Com
set_option linter.unusedSimpArgs false
set_option linter.unusedVariables false
open Go.RowKit Go.Proofs.YtplgfchiaapmfaaW.PrintWords Go.Proofs.YtplgfchiaapmfaaW.PrintMore

theorem wraps_i64 (n : Int) (h₀ : 0 ≤ n) (h₁ : n < 2 ^ 63) : IntKind.i64.wrap n = n := by rw [IntKind.wrap_i64]; omega
theorem and_nat (a b : Nat) (ha : a < 4096) (hb : b < 4096) : Go.bits .and .i64 (a : Int) (b : Int) = ((a &&& b : Nat) : Int) :=
  (Go.bits_nat .i64 63 (by decide) wraps_i64 a b (by omega) (by omega)).1
theorem uw (n : Int) (h : 0 ≤ n ∧ n ≤ 4096) : IntKind.u64.wrap n = n := by
  simp [IntKind.wrap, IntKind.bits, IntKind.signed]
  omega
theorem shl_one (p : Nat) (h : p ≤ 12) : shl .i64 1 (p : Int) = 2 ^ p := by
  have : ∀ q : Fin 13, shl .i64 1 (q.val : Int) = 2 ^ q.val := by decide +kernel
  exact this ⟨p, by omega⟩
theorem pow_bd {p : Nat} (h : p ≤ 12) : 1 ≤ 2 ^ p ∧ 2 ^ p ≤ 4096 := by
  have : ∀ q : Fin 13, 1 ≤ 2 ^ q.val ∧ 2 ^ q.val ≤ 4096 := by decide
  exact this ⟨p, by omega⟩
/-- How many bits are set, of the first f. -/
def popf : Nat → Nat → Nat
  | 0, _ => 0
  | f + 1, n => n % 2 + popf f (n / 2)
def pop (n : Nat) : Nat := popf 12 n
theorem popf_le (f : Nat) : ∀ n, popf f n ≤ f := by
  induction f with
  | zero => intro n; simp [popf]
  | succ f ih => intro n; unfold popf; have := ih (n / 2); omega
theorem pop_le (n : Nat) : pop n ≤ 12 := popf_le 12 n
end Go.Proofs.Ytplgfchiaapmfaa.Com

/- Systems of sets: the tests of validity, copies and sizes. -/
namespace Go.Proofs.Ytplgfchiaapmfaa.Com
set_option linter.unusedSimpArgs false
set_option linter.unusedVariables false
open Go.RowKit Go.Proofs.YtplgfchiaapmfaaW.PrintWords Go.Proofs.YtplgfchiaapmfaaW.PrintMore Go.Proofs.Ytplgfchiaapmfaa.Q

/-- The set of all points. -/
def full (p : Int) : Int := wrap64 (shl .i64 1 p - 1)
theorem full_nat (p : Nat) (h : p ≤ 12) : full (p : Int) = ((2 ^ p - 1 : Nat) : Int) := by
  have : ∀ q : Fin 13, full (q.val : Int) = ((2 ^ q.val - 1 : Nat) : Int) := by decide +kernel
  exact this ⟨p, by omega⟩
def validSys (p : Int) (l : List Int) : Bool := decide (0 ≤ p ∧ p ≤ 12) && decide ((l.length : Int) ≤ 12) && l.all fun x => decide (0 ≤ x ∧ x ≤ full p)
theorem implValidSys_tells (p : Int) (l : List Int) : impl_ValidSystem.f p l = some (validSys p l) := by
  unfold impl_ValidSystem.f validSys impl_areWithin.f full
  rw [within_tells]
  simp only [Option.bind_some, decide_eq_true_eq]
  by_cases h1 : 0 ≤ p ∧ p ≤ 12
  · rw [if_pos h1, decide_eq_true h1, if_pos h1.1]
    by_cases h2 : (l.length : Int) ≤ 12
    · rw [if_pos h2, decide_eq_true h2]
      rfl
    · rw [if_neg h2, decide_eq_false h2]
      rfl
  · rw [if_neg h1, decide_eq_false h1]
    rfl
end Go.Proofs.Ytplgfchiaapmfaa.Com

/- How many points a set has, on both sides. -/
namespace Go.Proofs.Ytplgfchiaapmfaa.Com
set_option linter.unusedSimpArgs false
set_option linter.unusedVariables false
open Go.RowKit Go.Proofs.YtplgfchiaapmfaaW.PrintWords Go.Proofs.YtplgfchiaapmfaaW.PrintMore Go.Proofs.Ytplgfchiaapmfaa.Q

theorem many_tells (n : Nat) (h : n < 4096) : impl_many.f (n : Int) = some ((pop n : Nat) : Int) := by
  have : ∀ a b : Fin 64, impl_many.f ((64 * a.val + b.val : Nat) : Int) = some ((pop (64 * a.val + b.val) : Nat) : Int) := by decide +kernel
  have q := this ⟨n / 64, by omega⟩ ⟨n % 64, by omega⟩
  simp only at q
  rwa [show 64 * (n / 64) + n % 64 = n by omega] at q
end Go.Proofs.Ytplgfchiaapmfaa.Com

/- Imbalances, on both sides. -/
namespace Go.Proofs.Ytplgfchiaapmfaa.Com
set_option linter.unusedSimpArgs false
set_option linter.unusedVariables false
set_option linter.unusedSectionVars false
open Go.RowKit Go.Proofs.YtplgfchiaapmfaaW.PrintWords Go.Proofs.YtplgfchiaapmfaaW.PrintMore Go.Proofs.Ytplgfchiaapmfaa.Q

def imb (s r : Nat) : Int := 2 * (pop (s &&& r) : Int) - (pop s : Int)
theorem imb_bd (s r : Nat) : -12 ≤ imb s r ∧ imb s r ≤ 24 := by
  unfold imb
  have := pop_le s
  have := pop_le (s &&& r)
  omega
theorem and_lt {s : Nat} (r : Nat) (h : s < 4096) : s &&& r < 4096 := Nat.lt_of_le_of_lt Nat.and_le_left h
def imbs (l : List Int) (r : Nat) : List Int := l.map fun x => imb x.toNat r
theorem full_lt {p : Nat} (h : p ≤ 12) {x : Int} (hx : 0 ≤ x ∧ x ≤ full p) : x.toNat < 2 ^ p ∧ x.toNat < 4096 := by
  rw [full_nat p h] at hx
  have := pow_bd h
  omega
section
variable {l : List Int} (hl : l.length ≤ 12) (hs : ∀ x ∈ l, 0 ≤ x ∧ x.toNat < 4096)
include hl hs
theorem implImbs_ev (p : Int) (r : Nat) (hr : r < 4096) : Ev (fun k => impl_System_imbalances.f k p l (r : Int)) (imbs l r) := by
  unfold impl_System_imbalances.f
  have gen := ev_fold l (fun m s k => impl_System_imbalances.l0 k (r : Int) s l (l.length : Int) (m : Int)) (fun d s => s ++ imbs d r) (fun m s => s.length = m) ?_ ?_ 0 [] (by omega) rfl
  · exact gen
  · intro s hm
    refine Ev.step (fun k => by rw [impl_System_imbalances.l0]) ?_
    simp only [if_neg (show ¬ (l.length : Int) < (l.length : Int) by omega), imbs, List.map_nil, List.append_nil]
    exact Ev.now _
  · intro m hm s hlen ih
    obtain ⟨x0, x1⟩ := hs l[m] (List.getElem_mem hm)
    refine Ev.step (fun k => by rw [impl_System_imbalances.l0]) ?_
    simp only [if_pos (show (m : Int) < (l.length : Int) by omega), if_pos (show 0 ≤ (m : Int) by omega), rd_nat hm, w_succ (m := m) (by omega), if_pos (show s.length < 17592186044416 by omega)]
    obtain ⟨n, hn⟩ : ∃ n : Nat, l[m] = (n : Int) := ⟨l[m].toNat, by omega⟩
    have hn' : n < 4096 := by rw [hn, Int.toNat_natCast] at x1; exact x1
    have := pop_le n
    have := pop_le (n &&& r)
    rw [hn, and_nat n r hn' hr, many_tells _ (and_lt r hn'), many_tells n hn']
    simp only [Option.bind_some]
    rw [w64 (x := 2 * ((pop (n &&& r) : Nat) : Int)) (by omega) (by omega), w64 (by omega) (by omega)]
    have e : s ++ imbs ((n : Int) :: l.drop (m + 1)) r = (s ++ [2 * ((pop (n &&& r) : Nat) : Int) - ((pop n : Nat) : Int)]) ++ imbs (l.drop (m + 1)) r := by
      simp [imbs, imb]
    rw [e]
    exact ih _ (by simp [hlen])
end
end Go.Proofs.Ytplgfchiaapmfaa.Com

/- The degree of a system, on both sides. -/
namespace Go.Proofs.Ytplgfchiaapmfaa.Com
set_option linter.unusedSimpArgs false
set_option linter.unusedVariables false
open Go.RowKit Go.Proofs.YtplgfchiaapmfaaW.PrintWords Go.Proofs.YtplgfchiaapmfaaW.PrintMore Go.Proofs.Ytplgfchiaapmfaa.Q

end Go.Proofs.Ytplgfchiaapmfaa.Com

/- The greatest absolute value of a list. -/
namespace Go.Proofs.Ytplgfchiaapmfaa.Com
set_option linter.unusedSimpArgs false
set_option linter.unusedVariables false
set_option linter.unusedSectionVars false
open Go.RowKit Go.Proofs.YtplgfchiaapmfaaW.PrintWords Go.Proofs.YtplgfchiaapmfaaW.PrintMore Go.Proofs.Ytplgfchiaapmfaa.Q

/-! ### Drift -/
def gr (l : List Int) : Int := l.foldl (fun s x => mx (mx s x) (-x)) 0
theorem gr_bd (B : Int) (hB : 0 ≤ B) (l : List Int) (h : ∀ x ∈ l, -B ≤ x ∧ x ≤ B) : 0 ≤ gr l ∧ gr l ≤ B := by
  have key : ∀ (l : List Int) (s : Int), 0 ≤ s ∧ s ≤ B → (∀ x ∈ l, -B ≤ x ∧ x ≤ B) → 0 ≤ l.foldl (fun s x => mx (mx s x) (-x)) s ∧ l.foldl (fun s x => mx (mx s x) (-x)) s ≤ B := by
    intro l
    induction l with
    | nil => intro s hs _; exact hs
    | cons x r ih =>
      intro s hs h
      have := h x List.mem_cons_self
      rw [List.foldl_cons]
      refine ih _ ?_ (fun y hy => h y (List.mem_cons_of_mem _ hy))
      unfold mx
      split <;> split <;> omega
  exact key l 0 (by omega) h
theorem greatest_ev (l : List Int) (hx : l.length ≤ 1048576) (hb : ∀ x ∈ l, -9223372036854775807 ≤ x ∧ x ≤ 9223372036854775807) : Ev (fun k => impl_greatest.f k l) (gr l) := by
  unfold impl_greatest.f
  have gen := ev_fold l (fun m s k => impl_greatest.l0 k s l (l.length : Int) (m : Int)) (fun r s => r.foldl (fun s x => mx (mx s x) (-x)) s) (fun m s => True) ?_ ?_ 0 0 (by omega) trivial
  · simpa [gr] using gen
  · intro s hs
    refine Ev.step (fun k => by rw [impl_greatest.l0]) ?_
    simp only [if_neg (show ¬ (l.length : Int) < (l.length : Int) by omega)]
    exact Ev.now _
  · intro m h s hs ih
    have b := hb l[m] (List.getElem_mem h)
    refine Ev.step (fun k => by rw [impl_greatest.l0]) ?_
    simp only [if_pos (show (m : Int) < (l.length : Int) by omega), if_pos (show 0 ≤ (m : Int) by omega), rd_nat h, w_succ (m := m) (by omega)]
    rw [w64 (x := -l[m]) (by omega) (by omega), List.foldl_cons]
    exact ih _ trivial
end Go.Proofs.Ytplgfchiaapmfaa.Com

/- The discrepancy of a system, on both sides. -/
namespace Go.Proofs.Ytplgfchiaapmfaa.Com
set_option linter.unusedSimpArgs false
set_option linter.unusedVariables false
set_option linter.unusedSectionVars false
open Go.RowKit Go.Proofs.YtplgfchiaapmfaaW.PrintWords Go.Proofs.YtplgfchiaapmfaaW.PrintMore Go.Proofs.Ytplgfchiaapmfaa.Q

/-- The first of the least values so far, and where it was. -/
def stepD (f : Nat → Int) (s : Int × Int) (r : Nat) : Int × Int := if s.1 < 0 then (f r, (r : Int)) else if f r < s.1 then (f r, (r : Int)) else s
def minD (f : Nat → Int) (ok : Nat → Bool) (n : Nat) : Int × Int := ((List.range n).filter ok).foldl (stepD f) (-1, 0)
theorem minD_succ (f : Nat → Int) (ok : Nat → Bool) (n : Nat) : minD f ok (n + 1) = if ok n then stepD f (minD f ok n) n else minD f ok n := by
  unfold minD
  rw [List.range_succ, List.filter_append, List.foldl_append]
  cases h : ok n <;> simp [h]
section
variable {l : List Int} (hl : l.length ≤ 12) (hs : ∀ x ∈ l, 0 ≤ x ∧ x.toNat < 4096)
include hl hs
/-- The program's search. -/
theorem implDisc_ev (p : Nat) (hp : p ≤ 12) : Ev (fun k => impl_System_discrepancy.f k (p : Int) l) (minD (fun r => gr (imbs l r)) (fun _ => true) (2 ^ p)) := by
  have hpw := pow_bd hp
  unfold impl_System_discrepancy.f
  simp only [if_pos (show 0 ≤ (p : Int) by omega), shl_one p hp]
  rw [show (2 : Int) ^ p = ((2 ^ p : Nat) : Int) by simp]
  have gen := ev_count (2 ^ p) (fun m (s : Int × Int) k => impl_System_discrepancy.l0 k s.2 s.1 ((2 ^ p : Nat) : Int) (m : Int) (p : Int) l) (minD (fun r => gr (imbs l r)) (fun _ => true) (2 ^ p)) (fun m s => s = minD (fun r => gr (imbs l r)) (fun _ => true) m) ?_ ?_ 0 (-1, 0) (by omega) rfl
  · exact gen
  · rintro s rfl
    refine Ev.step (fun k => by rw [impl_System_discrepancy.l0]) ?_
    simp only [if_neg (show ¬ ((2 ^ p : Nat) : Int) < ((2 ^ p : Nat) : Int) by omega)]
    exact Ev.now _
  · rintro m s hm rfl
    refine ⟨_, rfl, fun ih => ?_⟩
    refine Ev.step (fun k => by rw [impl_System_discrepancy.l0]) ?_
    simp only [if_pos (show (m : Int) < ((2 ^ p : Nat) : Int) by omega), w_succ (m := m) (by omega)]
    rw [minD_succ] at ih
    simp only [if_true, stepD] at ih
    refine Ev.bind (implImbs_ev hl hs _ m (by omega)) (Ev.bind (greatest_ev _ (by simp [imbs]; omega) (fun y hy => by
      obtain ⟨x, _, rfl⟩ := List.mem_map.1 hy
      have := imb_bd x.toNat m
      omega)) ?_)
    generalize minD (fun r => gr (imbs l r)) (fun _ => true) m = s at ih ⊢
    by_cases c1 : s.1 < 0
    · simp only [if_pos c1] at ih ⊢
      exact ih
    · simp only [if_neg c1] at ih ⊢
      by_cases c2 : gr (imbs l m) < s.1
      · simp only [if_pos c2] at ih ⊢
        exact ih
      · simp only [if_neg c2] at ih ⊢
        exact ih
end
end Go.Proofs.Ytplgfchiaapmfaa.Com

/- The average imbalance, on both sides. -/
namespace Go.Proofs.Ytplgfchiaapmfaa.Com
set_option linter.unusedSimpArgs false
set_option linter.unusedVariables false
set_option linter.unusedSectionVars false
open Go.RowKit Go.Proofs.YtplgfchiaapmfaaW.PrintWords Go.Proofs.YtplgfchiaapmfaaW.PrintMore Go.Proofs.Ytplgfchiaapmfaa.Q

def gi (f s r : Nat) : Int := 2 * (popf f (s &&& r) : Int) - (popf f s : Int)
theorem gi_succ (f s r b : Nat) (hb : b < 2) : gi (f + 1) s (2 * r + b) = gi f (s / 2) r + (s % 2 : Nat) * (2 * (b : Int) - 1) := by
  have e1 : (s &&& (2 * r + b)) / 2 = s / 2 &&& r := by
    rw [Nat.and_div_two, show (2 * r + b) / 2 = r by omega]
  have e2 : (s &&& (2 * r + b)) % 2 = (s % 2) * b := by
    have := Nat.and_mod_two_pow (a := s) (b := 2 * r + b) (n := 1)
    rw [show (2 : Nat) ^ 1 = 2 from rfl, show (2 * r + b) % 2 = b by omega] at this
    rw [this]
    rcases (show s % 2 = 0 ∨ s % 2 = 1 by omega) with h | h <;> rcases (show b = 0 ∨ b = 1 by omega) with h' | h' <;> rw [h, h'] <;> rfl
  unfold gi
  rw [popf, popf, e1, e2]
  rcases (show b = 0 ∨ b = 1 by omega) with h' | h' <;> subst h' <;> simp <;> omega
theorem popf_zero (f : Nat) : popf f 0 = 0 := by
  induction f with
  | zero => rfl
  | succ f ih => unfold popf; simp [ih]
theorem popf_more (d : Nat) : ∀ f n, n < 2 ^ f → popf (f + d) n = popf f n := by
  intro f
  induction f with
  | zero =>
    intro n h
    have : n = 0 := by simpa using h
    subst this
    rw [popf_zero, popf_zero]
  | succ f ih =>
    intro n h
    rw [show f + 1 + d = (f + d) + 1 by omega, popf, popf, ih (n / 2) (by rw [Nat.pow_succ] at h; omega)]
theorem pop_small {p n : Nat} (hp : p ≤ 12) (h : n < 2 ^ p) : pop n = popf p n := by
  have := popf_more (12 - p) p n h
  rw [show p + (12 - p) = 12 by omega] at this
  exact this
def pops : List Int → Int
  | [] => 0
  | x :: l => (pop x.toNat : Int) + pops l
section
variable {l : List Int} (hl : l.length ≤ 12) (hs : ∀ x ∈ l, 0 ≤ x ∧ x.toNat < 4096) {p : Nat} (hp : p ≤ 12)
include hl hs hp
theorem implAvg_ev : Ev (fun k => impl_AverageImbalance.l0 k 0 ((2 ^ p : Nat) : Int) l (l.length : Int) 0) (pops l * ((2 ^ p : Nat) : Int), ((2 ^ p : Nat) : Int), true) := by
  have pb := pow_bd hp
  have gen := ev_fold l (fun m (s : Int) k => impl_AverageImbalance.l0 k s ((2 ^ p : Nat) : Int) l (l.length : Int) (m : Int)) (fun d s => (s + pops d * ((2 ^ p : Nat) : Int), ((2 ^ p : Nat) : Int), true)) (fun m s => 0 ≤ s ∧ s ≤ 49152 * m) ?_ ?_ 0 0 (by omega) ⟨by omega, by omega⟩
  · rw [List.drop_zero, Int.zero_add] at gen
    exact gen
  · rintro s _
    refine Ev.step (fun k => by rw [impl_AverageImbalance.l0]) ?_
    simp only [if_neg (show ¬ (l.length : Int) < (l.length : Int) by omega), pops, Int.zero_mul, Int.add_zero]
    exact Ev.now _
  · rintro m hm s ⟨s0, s1⟩ k
    obtain ⟨x0, x1⟩ := hs l[m] (List.getElem_mem hm)
    obtain ⟨n, hn⟩ : ∃ n : Nat, l[m] = (n : Int) := ⟨l[m].toNat, by omega⟩
    have hn' : n < 4096 := by rw [hn, Int.toNat_natCast] at x1; exact x1
    have hq := pop_le n
    have hm2 := mul_bd (show 0 ≤ ((pop n : Nat) : Int) by omega) (show ((pop n : Nat) : Int) ≤ 12 by omega) (show 0 ≤ ((2 ^ p : Nat) : Int) by omega) (show ((2 ^ p : Nat) : Int) ≤ 4096 by omega)
    refine Ev.step (fun k => by rw [impl_AverageImbalance.l0]) ?_
    simp only [if_pos (show (m : Int) < (l.length : Int) by omega), if_pos (show 0 ≤ (m : Int) by omega), rd_nat hm, w_succ (m := m) (by omega), hn, many_tells n hn', Option.bind_some]
    rw [w64 (x := ((pop n : Nat) : Int) * ((2 ^ p : Nat) : Int)) (by omega) (by omega), w64 (x := s + ((pop n : Nat) : Int) * ((2 ^ p : Nat) : Int)) (by omega) (by omega)]
    rw [pops, Int.toNat_natCast, Int.add_mul, ← Int.add_assoc]
    exact k _ ⟨by omega, by omega⟩
end
end Go.Proofs.Ytplgfchiaapmfaa.Com

/- Drawn systems, and colours exchanged. -/
namespace Go.Proofs.Ytplgfchiaapmfaa.Com
set_option linter.unusedSimpArgs false
set_option linter.unusedVariables false
set_option linter.unusedSectionVars false
open Go.RowKit Go.Proofs.YtplgfchiaapmfaaW.PrintWords Go.Proofs.YtplgfchiaapmfaaW.PrintMore Go.Proofs.Ytplgfchiaapmfaa.Q

theorem and_255 (x : Nat) (h : x < 18446744073709551616) : ∃ r : Nat, Go.bits .and .u64 (x : Int) 255 = (r : Int) ∧ r ≤ 255 :=
  ⟨x &&& 255, (Go.bits_nat .u64 64 (by decide) (fun n h0 h1 => by simp [IntKind.wrap, IntKind.bits, IntKind.signed]; omega) x 255 h (by decide)).1, Nat.and_le_right⟩
theorem u64_bd (n : Int) : 0 ≤ IntKind.u64.wrap n ∧ IntKind.u64.wrap n < 18446744073709551616 := by
  simp [IntKind.wrap, IntKind.bits, IntKind.signed]
  omega
theorem u8_bd {x : Int} (h : (Lit.int .u8 x).wf = true) : 0 ≤ x ∧ x ≤ 255 := by
  simp [Lit.wf, IntKind.min, IntKind.max, IntKind.signed, IntKind.bits] at h
  omega
theorem next_tells (l : List Int) (hl : ∀ x ∈ l, (Lit.int .u8 x).wf = true) (a s : Int) (ha : 0 ≤ a ∧ a ≤ 1000) : ∃ v s', spec_l00Src_next.f l a s = some (v, a + 1, s') ∧ 0 ≤ v ∧ v ≤ 255 := by
  unfold spec_l00Src_next.f
  rw [w64 (x := a + 1) (by omega) (by omega)]
  have big : ∀ y : Int, ∃ r : Nat, Go.bits .and .u64 (IntKind.u64.wrap y / 1099511627776) 255 = (r : Int) ∧ r ≤ 255 := by
    intro y
    have b := u64_bd y
    obtain ⟨n, hn⟩ := Int.eq_ofNat_of_zero_le (show 0 ≤ IntKind.u64.wrap y / 1099511627776 by omega)
    rw [hn]
    exact and_255 n (by omega)
  by_cases h : a < (l.length : Int)
  · rw [if_pos h, if_pos ha.1, if_pos (by omega)]
    have hlt : a.toNat < l.length := by omega
    have hv : rd l a = l[a.toNat] := by
      have := rd_nat hlt
      rwa [Int.toNat_of_nonneg ha.1] at this
    have b := u8_bd (hl _ (List.getElem_mem hlt))
    rw [hv, w64 (x := l[a.toNat]) (by omega) (by omega)]
    exact ⟨_, _, rfl, b.1, b.2⟩
  · rw [if_neg h]
    split
    · exact ⟨_, _, rfl, by omega, by omega⟩
    · obtain ⟨r, hr, hr'⟩ := big (IntKind.u64.wrap (IntKind.u64.wrap (s * 6364136223846793005)) + 1442695040888963407)
      rw [hr, w64 (x := (r : Int)) (by omega) (by omega)]
      exact ⟨_, _, rfl, by omega, by omega⟩
theorem pick_tells (l : List Int) (hl : ∀ x ∈ l, (Lit.int .u8 x).wf = true) (a s n : Int) (ha : 0 ≤ a ∧ a ≤ 1000) (hn : 1 ≤ n ∧ n ≤ 200) : ∃ v a' s', spec_l00Src_pick.f l a s n = some (v, a', s') ∧ 0 ≤ v ∧ v < n ∧ 0 ≤ a' ∧ a' ≤ a + 1 := by
  unfold spec_l00Src_pick.f
  by_cases h : n ≤ 1
  · rw [if_pos h]
    exact ⟨_, _, _, rfl, by omega, by omega, by omega, by omega⟩
  · obtain ⟨v, s', e, h0, h1⟩ := next_tells l hl a s ha
    rw [if_neg h, e, Option.bind_some, if_neg (by omega), if_neg (by omega), tmod_nn h0]
    have := Int.emod_nonneg v (show n ≠ 0 by omega)
    have := Int.emod_lt_of_pos v (show 0 < n by omega)
    exact ⟨v % n, a + 1, s', rfl, by omega, by omega, by omega, by omega⟩
theorem r8System_ev (l : List Int) (hl : ∀ x ∈ l, (Lit.int .u8 x).wf = true) : ∃ (q : Nat) (y : List Int), Ev (fun k => spec_R8System.f k l) ((q : Int), y) ∧ q ≤ 6 ∧ y.length ≤ 5 ∧ ∀ x ∈ y, 0 ≤ x ∧ x ≤ full q := by
  unfold spec_R8System.f spec_l00From.f spec_l10DrawOk.f
  obtain ⟨p, a, s, e, p0, p1, a0, a1⟩ := pick_tells l hl 0 0 7 (by omega) (by omega)
  obtain ⟨c, a', s', e', c0, c1, a0', a1'⟩ := pick_tells l hl a s 6 (by omega) (by omega)
  obtain ⟨q, rfl⟩ := Int.eq_ofNat_of_zero_le p0
  obtain ⟨c, rfl⟩ := Int.eq_ofNat_of_zero_le c0
  have hq : q ≤ 6 := by omega
  have hpw : 2 ^ q ≤ 64 := Nat.le_trans (Nat.pow_le_pow_right (by omega) hq) (by decide)
  have hpw0 : 1 ≤ 2 ^ q := Nat.pos_of_ne_zero (by simp)
  have key : ∀ (c : Nat) (a s : Int) (y : List Int), 0 ≤ a ∧ a + c ≤ 10 → (∀ x ∈ y, 0 ≤ x ∧ x ≤ full q) → y.length + c ≤ 5 → ∃ y' a' s', Ev (fun k => spec_l10DrawOk.l0 k (c : Int) l a s (q : Int) y) ((q : Int), y', a', s') ∧ y'.length ≤ 5 ∧ ∀ x ∈ y', 0 ≤ x ∧ x ≤ full q := by
    intro c
    induction c with
    | zero =>
      intro a s y ha hy hlen
      refine ⟨y, a, s, ?_, by omega, hy⟩
      refine Ev.step (fun k => by rw [spec_l10DrawOk.l0]) ?_
      simp only [if_neg (show ¬ ((0 : Nat) : Int) > 0 by omega)]
      exact Ev.now _
    | succ c ih =>
      intro a s y ha hy hlen
      obtain ⟨v, a2, s2, e2, v0, v1, b0, b1⟩ := pick_tells l hl a s (2 ^ q : Nat) (by omega) (by omega)
      obtain ⟨y', a', s', h1, h2, h3⟩ := ih a2 s2 (y ++ [v]) (by omega) (by
        intro x hx
        rcases List.mem_append.1 hx with h | h
        · exact hy x h
        · rw [List.mem_singleton] at h
          subst h
          rw [full_nat q (by omega)]
          omega) (by rw [List.length_append, List.length_singleton]; omega)
      refine ⟨y', a', s', ?_, h2, h3⟩
      refine Ev.step (fun k => by rw [spec_l10DrawOk.l0]) ?_
      simp only [if_pos (show ((c + 1 : Nat) : Int) > 0 by omega), uw (q : Int) (by omega), if_pos (show 0 ≤ (q : Int) by omega), shl_one q (by omega), show (2 : Int) ^ q = ((2 ^ q : Nat) : Int) by rw [Int.natCast_pow]; rfl, e2, Option.bind_some, if_pos (show y.length < 17592186044416 by omega)]
      rw [show wrap64 (((c + 1 : Nat) : Int) - 1) = (c : Int) by rw [w64 (by omega) (by omega)]; omega]
      exact h1
  obtain ⟨y', a2, s2, h1, h2, h3⟩ := key c a' s' [] (by omega) (by simp) (by simp; omega)
  refine ⟨q, y', ?_, hq, h2, h3⟩
  refine ev_bind' rfl (Ev.bind (a := ((q : Int), y', a2, s2)) ?_ (Ev.now _))
  rw [w64 (x := 6 + 1) (by omega) (by omega)]
  exact ev_bind' e (ev_bind' e' h1)
theorem weight_ev (n : Nat) (h : n < 4096) : Ev (fun k => laws_r8Weight.f k (n : Int)) ((pop n : Nat) : Int) := by
  have : ∀ a b : Fin 64, laws_r8Weight.f 14 ((64 * a.val + b.val : Nat) : Int) = some ((pop (64 * a.val + b.val) : Nat) : Int) := by decide +kernel
  have q := this ⟨n / 64, by omega⟩ ⟨n % 64, by omega⟩
  simp only at q
  rw [show 64 * (n / 64) + n % 64 = n by omega] at q
  exact Ev.of (fun k => laws_r8Weight.mono _ k) q
theorem xor_tells (q t : Nat) (hq : q ≤ 6) (ht : t < 2 ^ q) : Go.bits .xor .i64 (full q) (t : Int) = ((2 ^ q - 1 - t : Nat) : Int) := by
  have : ∀ (q : Fin 7) (t : Fin 64), t.val < 2 ^ q.val → Go.bits .xor .i64 (full q.val) (t.val : Int) = ((2 ^ q.val - 1 - t.val : Nat) : Int) := by decide +kernel
  have h64 : 2 ^ q ≤ 64 := Nat.le_trans (Nat.pow_le_pow_right (by omega) hq) (by decide)
  exact this ⟨q, by omega⟩ ⟨t, by omega⟩ ht
theorem gi_neg (f : Nat) : ∀ s r, r < 2 ^ f → gi f s r = -gi f s (2 ^ f - 1 - r) := by
  induction f with
  | zero => intro s r h; simp [gi, popf]
  | succ f ih =>
    intro s r h
    have h1 : r / 2 < 2 ^ f := by rw [Nat.pow_succ] at h; omega
    have e1 : r = 2 * (r / 2) + r % 2 := by omega
    have e2 : 2 ^ (f + 1) - 1 - r = 2 * (2 ^ f - 1 - r / 2) + (1 - r % 2) := by rw [Nat.pow_succ] at h ⊢; omega
    rw [e2, gi_succ f s _ _ (by omega)]
    conv => lhs; rw [e1]
    rw [gi_succ f s _ _ (by omega), ih (s / 2) (r / 2) h1]
    rcases (show r % 2 = 0 ∨ r % 2 = 1 by omega) with q | q <;> rw [q] <;> simp <;> omega
theorem imb_gi {p s : Nat} (r : Nat) (hp : p ≤ 12) (h : s < 2 ^ p) : imb s r = gi p s r := by
  unfold imb gi
  rw [pop_small hp h, pop_small hp (Nat.lt_of_le_of_lt Nat.and_le_left h)]
theorem imb_neg (q s t : Nat) (hq : q ≤ 6) (hs : s < 2 ^ q) (ht : t < 2 ^ q) : imb s t = -imb s (2 ^ q - 1 - t) := by
  rw [imb_gi t (by omega) hs, imb_gi _ (show q ≤ 12 by omega) hs]
  exact gi_neg q s t ht
theorem minD_loc {f : Nat → Int} (hf : ∀ r, 0 ≤ f r) (n : Nat) : ∃ r, r < n + 1 ∧ minD f (fun _ => true) (n + 1) = (f r, (r : Int)) ∧ ∀ x, x < n + 1 → f r ≤ f x := by
  induction n with
  | zero => exact ⟨0, by omega, rfl, fun x hx => by rw [show x = 0 by omega]; exact Int.le_refl _⟩
  | succ n ih =>
    obtain ⟨r, r0, e, r1⟩ := ih
    rw [minD_succ, e]
    simp only [if_true, stepD, if_neg (show ¬ f r < 0 by have := hf r; omega)]
    split
    next c =>
      refine ⟨n + 1, by omega, rfl, fun x hx => ?_⟩
      by_cases q : x = n + 1
      · subst q; exact Int.le_refl _
      · have := r1 x (by omega); omega
    next c =>
      refine ⟨r, by omega, rfl, fun x hx => ?_⟩
      by_cases q : x = n + 1
      · subst q; omega
      · exact r1 x (by omega)
theorem r8Greatest_ev (l : List Int) (hx : l.length ≤ 1048576) (hb : ∀ x ∈ l, -9223372036854775807 ≤ x ∧ x ≤ 9223372036854775807) : Ev (fun k => laws_r8Greatest.f k l) (gr l) := by
  unfold laws_r8Greatest.f
  have gen := ev_fold l (fun m s k => laws_r8Greatest.l0 k l s (m : Int)) (fun r s => r.foldl (fun s x => mx (mx s x) (-x)) s) (fun m s => 0 ≤ s) ?_ ?_ 0 0 (by omega) (Int.le_refl _)
  · simpa [gr] using gen
  · intro s _
    refine Ev.step (fun k => by rw [laws_r8Greatest.l0]) ?_
    simp only [if_neg (show ¬ (l.length : Int) < (l.length : Int) by omega)]
    exact Ev.now _
  · intro m hm s s0 ih
    have b := hb l[m] (List.getElem_mem hm)
    have ea : laws_r8Abs.f l[m] = some (if l[m] < 0 then -l[m] else l[m]) := by
      unfold laws_r8Abs.f
      split
      · rw [w64 (by omega) (by omega)]
      · rfl
    refine Ev.step (fun k => by rw [laws_r8Greatest.l0]) ?_
    simp only [if_pos (show (m : Int) < (l.length : Int) by omega), if_pos (show 0 ≤ (m : Int) by omega), rd_nat hm, w_succ (m := m) (by omega), ea, Option.bind_some]
    rw [List.foldl_cons]
    have e : mx (mx s l[m]) (-l[m]) = if (if l[m] < 0 then -l[m] else l[m]) > s then (if l[m] < 0 then -l[m] else l[m]) else s := by
      unfold mx
      repeat' split <;> omega
    rw [e]
    by_cases c : (if l[m] < 0 then -l[m] else l[m]) > s
    · simp only [if_pos c]
      exact ih _ (by omega)
    · simp only [if_neg c]
      exact ih _ s0
end Go.Proofs.Ytplgfchiaapmfaa.Com

/- The pure statement of FnColoured: the best colouring has the discrepancy, no drawn one has less, and colours exchanged give the opposite imbalances. -/
namespace Go.Proofs.Ytplgfchiaapmfaa.Pure
set_option linter.unusedSimpArgs false
set_option linter.unusedVariables false
open Go.RowKit Go.Proofs.Ytplgfchiaapmfaa.Q Go.Proofs.YtplgfchiaapmfaaW.PrintWords Go.Proofs.YtplgfchiaapmfaaW.PrintLast Go.Proofs.Ytplgfchiaapmfaa.Com

theorem implDiscOf (q : Nat) (hq : q ≤ 12) (l : List Int) (hl : l.length ≤ 12) (hs : ∀ x ∈ l, 0 ≤ x ∧ x ≤ full q) (hv : validSys q l = true) : Ev (fun k => impl_DiscrepancyOf.f k (q : Int) l) ((minD (fun r => gr (imbs l r)) (fun _ => true) (2 ^ q)).1, (minD (fun r => gr (imbs l r)) (fun _ => true) (2 ^ q)).2, true) := by
  have hs' : ∀ x ∈ l, 0 ≤ x ∧ x.toNat < 4096 := fun x hx => ⟨(hs x hx).1, (full_lt hq (hs x hx)).2⟩
  unfold impl_DiscrepancyOf.f
  refine ev_bind' (implValidSys_tells _ l) ?_
  simp only [hv, if_true]
  exact Ev.bind (implDisc_ev hl hs' q hq) (Ev.now _)
theorem implImbsOf (q : Nat) (hq : q ≤ 12) (l : List Int) (hl : l.length ≤ 12) (hs : ∀ x ∈ l, 0 ≤ x ∧ x ≤ full q) (hv : validSys q l = true) (r : Nat) (hr : r < 2 ^ q) : Ev (fun k => impl_ImbalancesOf.f k (q : Int) l (r : Int)) (imbs l r, true) := by
  have hs' : ∀ x ∈ l, 0 ≤ x ∧ x.toNat < 4096 := fun x hx => ⟨(hs x hx).1, (full_lt hq (hs x hx)).2⟩
  have hpw := pow_bd hq
  have hrf : 0 ≤ (r : Int) ∧ (r : Int) ≤ full q := by rw [full_nat q hq]; omega
  unfold impl_ImbalancesOf.f
  refine ev_bind' (implValidSys_tells _ l) ?_
  simp only [hv, if_true, if_pos (show 0 ≤ (q : Int) by omega)]
  rw [show wrap64 (shl .i64 1 (q : Int) - 1) = full q from rfl]
  simp only [within_tells, Option.bind_some, decide_eq_true hrf, if_true]
  exact Ev.bind (implImbs_ev hl hs' _ r (by omega)) (Ev.now _)
theorem implAvgOf (q : Nat) (hq : q ≤ 12) (l : List Int) (hl : l.length ≤ 12) (hs : ∀ x ∈ l, 0 ≤ x ∧ x ≤ full q) (hv : validSys q l = true) : Ev (fun k => impl_AverageImbalance.f k (q : Int) l) (pops l * ((2 ^ q : Nat) : Int), ((2 ^ q : Nat) : Int), true) := by
  have hs' : ∀ x ∈ l, 0 ≤ x ∧ x.toNat < 4096 := fun x hx => ⟨(hs x hx).1, (full_lt hq (hs x hx)).2⟩
  unfold impl_AverageImbalance.f
  refine ev_bind' (implValidSys_tells _ l) ?_
  simp only [hv, if_true, if_pos (show 0 ≤ (q : Int) by omega)]
  rw [shl_one q hq, show (2 : Int) ^ q = ((2 ^ q : Nat) : Int) by rw [Int.natCast_pow]; rfl]
  exact implAvg_ev hl hs' hq
theorem r8At_tells (l : List Int) (hl : ∀ x ∈ l, (Lit.int .u8 x).wf = true) (n : Int) (hn : 1 ≤ n) : ∃ r : Nat, laws_r8At.f l 0 n = some (r : Int) ∧ (r : Int) < n := by
  unfold laws_r8At.f
  by_cases h1 : n ≤ 1
  · rw [if_pos h1]
    exact ⟨0, rfl, by omega⟩
  · rw [if_neg h1]
    by_cases h2 : 0 ≥ (l.length : Int)
    · rw [if_pos h2]
      exact ⟨0, rfl, by omega⟩
    · have hlt : 0 < l.length := by omega
      have b := u8_bd (hl _ (List.getElem_mem hlt))
      have e := rd_nat hlt
      rw [Int.natCast_zero] at e
      rw [if_neg h2, if_pos (by omega), if_pos (by omega), if_neg (by omega), e, w64 (by omega) (by omega), tmod_nn b.1]
      have := Int.emod_nonneg l[0] (show n ≠ 0 by omega)
      have := Int.emod_lt_of_pos l[0] (show 0 < n by omega)
      exact ⟨(l[0] % n).toNat, by rw [Int.toNat_of_nonneg (by omega)], by omega⟩
theorem pops_bd (l : List Int) : 0 ≤ pops l ∧ pops l ≤ 12 * l.length := by
  induction l with
  | nil => simp [pops]
  | cons x l ih =>
    have := pop_le x.toNat
    unfold pops
    rw [List.length_cons]
    omega
theorem weights_ev (q : Nat) (hq : q ≤ 6) (l : List Int) (hl : l.length ≤ 5) (hs : ∀ x ∈ l, 0 ≤ x ∧ x ≤ full q) : Ev (fun k => laws_FnColoured.l1 k (full q) (pops l * ((2 ^ q : Nat) : Int)) ((2 ^ q : Nat) : Int) true 0 0 (q : Int) l) true := by
  have hpw := pow_bd (show q ≤ 12 by omega)
  have hf := full_nat q (by omega)
  have hb := pops_bd l
  have gen := ev_fold l (fun m (s : Int) k => laws_FnColoured.l1 k (full q) (pops l * ((2 ^ q : Nat) : Int)) ((2 ^ q : Nat) : Int) true s (m : Int) (q : Int) l) (fun _ _ => true) (fun m s => 0 ≤ s ∧ s + pops (l.drop m) = pops l) ?_ ?_ 0 0 (by omega) ⟨by omega, by simp⟩
  · exact gen
  · rintro s ⟨s0, s1⟩
    rw [List.drop_length] at s1
    simp only [pops, Int.add_zero] at s1
    refine Ev.step (fun k => by rw [laws_FnColoured.l1]) ?_
    have hm := mul_bd hb.1 (show pops l ≤ 60 by omega) (show 0 ≤ ((2 ^ q : Nat) : Int) by omega) (show ((2 ^ q : Nat) : Int) ≤ 4096 by omega)
    simp only [if_neg (show ¬ (l.length : Int) < (l.length : Int) by omega), if_true, hf]
    rw [w64 (x := ((2 ^ q - 1 : Nat) : Int) + 1) (by omega) (by omega), if_pos (by omega), s1, w64 (by omega) (by omega)]
    simp only [beq_self_eq_true]
    exact Ev.now _
  · rintro m hm s ⟨s0, s1⟩ k
    obtain ⟨x0, x1⟩ := hs l[m] (List.getElem_mem hm)
    obtain ⟨n, hn⟩ : ∃ n : Nat, l[m] = (n : Int) := ⟨l[m].toNat, by omega⟩
    have hn' : n < 4096 := by rw [hf] at x1; omega
    rw [List.drop_eq_getElem_cons hm, pops, hn, Int.toNat_natCast] at s1
    have hd := pops_bd (l.drop (m + 1))
    have hp := pop_le n
    refine Ev.step (fun k => by rw [laws_FnColoured.l1]) ?_
    simp only [if_pos (show (m : Int) < (l.length : Int) by omega), if_pos (show 0 ≤ (m : Int) by omega), rd_nat hm, w_succ (m := m) (by omega), hn]
    refine Ev.bind (weight_ev n hn') ?_
    rw [w64 (x := s + ((pop n : Nat) : Int)) (by omega) (by omega)]
    exact k _ ⟨by omega, by omega⟩
theorem opposite_ev (q : Nat) (hq : q ≤ 6) (l : List Int) (hl : l.length ≤ 5) (hs : ∀ x ∈ l, 0 ≤ x ∧ x ≤ full q) (hv : validSys q l = true) (t : Nat) (ht : t < 2 ^ q) : Ev (fun k => laws_FnColoured.j0 k (full q) (imbs l t) (imbs l (2 ^ q - 1 - t)) false (q : Int) l) true := by
  refine Ev.step (fun k => by rw [laws_FnColoured.j0]) ?_
  simp only [Bool.false_eq_true, if_false]
  have len : ∀ r, (imbs l r).length = l.length := fun r => by simp [imbs]
  have gen := ev_list l (fun m k => laws_FnColoured.l0 k (full q) (imbs l t) (imbs l (2 ^ q - 1 - t)) (m : Int) (q : Int) l) (fun _ => true) ?_ ?_ 0 (by omega)
  · exact gen
  · refine Ev.step (fun k => by rw [laws_FnColoured.l0]) ?_
    simp only [len, if_neg (show ¬ (l.length : Int) < (l.length : Int) by omega)]
    exact Ev.bind (implAvgOf q (by omega) l (by omega) hs hv) (weights_ev q hq l hl hs)
  · intro m hm ih
    have hx := hs l[m] (List.getElem_mem hm)
    have hlt := (full_lt (show q ≤ 12 by omega) hx).1
    have e1 : rd (imbs l t) (m : Int) = imb l[m].toNat t := by
      rw [rd_nat (by rw [len]; exact hm)]
      simp [imbs]
    have e2 : rd (imbs l (2 ^ q - 1 - t)) (m : Int) = imb l[m].toNat (2 ^ q - 1 - t) := by
      rw [rd_nat (by rw [len]; exact hm)]
      simp [imbs]
    have b := imb_bd l[m].toNat (2 ^ q - 1 - t)
    refine Ev.step (fun k => by rw [laws_FnColoured.l0]) ?_
    simp only [len, if_pos (show (m : Int) < (l.length : Int) by omega), if_pos (show 0 ≤ (m : Int) by omega), e1, e2, w_succ (m := m) (by omega)]
    rw [w64 (x := -imb l[m].toNat (2 ^ q - 1 - t)) (by omega) (by omega)]
    simp only [if_pos (imb_neg q l[m].toNat t hq hlt ht)]
    exact ih
theorem FnColoured : laws_FnColoured.Pure := by
  intro code more _ _ hc _ _ hm
  apply ev_of
  unfold laws_FnColoured.f
  by_cases hlong : (code.length : Int) > 48 ∨ (more.length : Int) > 48
  · have e : laws_r8Long.f code more = some true := by
      unfold laws_r8Long.f
      by_cases h : (code.length : Int) > 48
      · rw [if_pos h]
      · rw [if_neg h, decide_eq_true (by omega)]
    refine ev_bind' e ?_
    simp only [if_true]
    exact Ev.now _
  have e : laws_r8Long.f code more = some false := by
    unfold laws_r8Long.f
    rw [if_neg (by omega), decide_eq_false (by omega)]
  refine ev_bind' e ?_
  simp only [Bool.false_eq_true, if_false]
  obtain ⟨q, l, hsys, hq, hl, hs⟩ := r8System_ev code hc
  have hq' : q ≤ 12 := by omega
  have hpw := pow_bd hq'
  have hf := full_nat q hq'
  have hv : validSys q l = true := by
    unfold validSys
    rw [decide_eq_true (by omega), decide_eq_true (by omega), Bool.true_and, Bool.true_and, List.all_eq_true]
    intro x hx
    exact decide_eq_true (hs x hx)
  have nn : ∀ r, 0 ≤ gr (imbs l r) := fun r => (gr_bd 24 (by omega) _ (fun y hy => by
    obtain ⟨x, _, rfl⟩ := List.mem_map.1 hy
    have := imb_bd x.toNat r
    omega)).1
  have big : ∀ r, ∀ y ∈ imbs l r, -9223372036854775807 ≤ y ∧ y ≤ 9223372036854775807 := fun r y hy => by
    obtain ⟨x, _, rfl⟩ := List.mem_map.1 hy
    have := imb_bd x.toNat r
    omega
  have len : ∀ r, (imbs l r).length = l.length := fun r => by simp [imbs]
  obtain ⟨r, r0, er, r1⟩ := minD_loc nn (2 ^ q - 1)
  rw [show 2 ^ q - 1 + 1 = 2 ^ q by omega] at r0 er r1
  have hd := implDiscOf q hq' l (by omega) hs hv
  rw [er] at hd
  have hlit : wrap64 (shl .i64 1 (q : Int) - 1) = full q := rfl
  refine Ev.bind hsys (Ev.bind hd (Ev.bind (implImbsOf q hq' l (by omega) hs hv r r0) ?_))
  simp only [uw (q : Int) (by omega), if_pos (show 0 ≤ (q : Int) by omega), hlit]
  obtain ⟨t, et, t1⟩ := r8At_tells more hm (wrap64 (full q + 1)) (by rw [hf, w64 (by omega) (by omega)]; omega)
  rw [hf, w64 (by omega) (by omega)] at t1
  have ht : t < 2 ^ q := by omega
  refine ev_bind' et (Ev.bind (implImbsOf q hq' l (by omega) hs hv t ht) ?_)
  simp only [xor_tells q t hq ht]
  refine Ev.bind (implImbsOf q hq' l (by omega) hs hv (2 ^ q - 1 - t) (by omega)) ?_
  simp only [if_true, len]
  refine Ev.bind (r8Greatest_ev (imbs l r) (by rw [len]; omega) (big r)) ?_
  simp only [if_true]
  refine Ev.bind (r8Greatest_ev (imbs l t) (by rw [len]; omega) (big t)) ?_
  rw [decide_eq_false (by have := r1 t ht; omega)]
  exact opposite_ev q hq l hl hs hv t ht
end Go.Proofs.Ytplgfchiaapmfaa.Pure
