import Derived.Test.YtplgfchiaapmfaaWNEv
import Derived.Test.YtplgfchiaapmfaaWMore
import Derived.Laws.BitsLemmas
import Derived.Test.YtplgfchiaapmfaaQ1
import Derived.Test.YtplgfchiaapmfaaQ2
import Derived.Test.YtplgfchiaapmfaaQ4
import Derived.Test.YtplgfchiaapmfaaQ5
import Derived.Test.YtplgfchiaapmfaaQ6
import Derived.Test.YtplgfchiaapmfaaQ7
import Derived.Test.YtplgfchiaapmfaaQ8
import Derived.Test.YtplgfchiaapmfaaQ9
import Derived.Test.YtplgfchiaapmfaaQ15
import Derived.Test.YtplgfchiaapmfaaQ17
import Derived.Test.YtplgfchiaapmfaaQ28
import Derived.Test.YtplgfchiaapmfaaQ29
import Derived.Test.YtplgfchiaapmfaaQ30
import Derived.Test.YtplgfchiaapmfaaQ31
/- Small facts of whole numbers, of wrapping, and of rounds that suffice, for the pure statements. -/
namespace Go.Proofs.Ytplgfchiaapmfaa.Com
open Go.RowKit Go.Proofs.YtplgfchiaapmfaaW.PrintWords

theorem w64 {x : Int} (h1 : -9223372036854775808 ≤ x) (h2 : x ≤ 9223372036854775807) : wrap64 x = x := by
  unfold wrap64
  omega
theorem lt_or_ge (a b : Int) : a < b ∨ b ≤ a := by omega
theorem mul_bd {a b A B : Int} (h0 : 0 ≤ a) (h1 : a ≤ A) (h2 : 0 ≤ b) (h3 : b ≤ B) : 0 ≤ a * b ∧ a * b ≤ A * B :=
  ⟨Int.mul_nonneg h0 h2, Int.mul_le_mul h1 h3 h2 (Int.le_trans h0 h1)⟩
theorem ev_of {α : Type} {g : Nat → Option α} {r : α} (h : Ev g r) : ∃ k, g k = some r := h.rounds
theorem ev_bind' {α β : Type} {o : Option α} {f : Nat → α → Option β} {a : α} {r : β} (h : o = some a) (k : Ev (fun n => f n a) r) : Ev (fun n => o.bind (f n)) r := by
  subst h
  exact k
end Go.Proofs.Ytplgfchiaapmfaa.Com

/- Loops over lists, by their rounds: general lemmas. -/
namespace Go.Proofs.Ytplgfchiaapmfaa.Com
set_option linter.unusedSimpArgs false
set_option linter.unusedVariables false
open Go.RowKit Go.Proofs.YtplgfchiaapmfaaW.PrintWords

theorem ev_fold {α σ ρ : Type} (xs : List α) (g : Nat → σ → Nat → Option ρ) (F : List α → σ → ρ) (Inv : Nat → σ → Prop)
    (h0 : ∀ s, Inv xs.length s → Ev (g xs.length s) (F [] s))
    (hs : ∀ m (h : m < xs.length) s, Inv m s → (∀ s', Inv (m + 1) s' → Ev (g (m + 1) s') (F (xs.drop (m + 1)) s')) → Ev (g m s) (F (xs[m] :: xs.drop (m + 1)) s)) :
    ∀ m s, m ≤ xs.length → Inv m s → Ev (g m s) (F (xs.drop m) s) := by
  have key : ∀ d m s, m + d = xs.length → Inv m s → Ev (g m s) (F (xs.drop m) s) := by
    intro d
    induction d with
    | zero =>
      intro m s e hi
      obtain rfl : m = xs.length := by omega
      rw [List.drop_length]
      exact h0 s hi
    | succ d ih =>
      intro m s e hi
      have h : m < xs.length := by omega
      rw [List.drop_eq_getElem_cons h]
      exact hs m h s hi (fun s' hi' => ih (m + 1) s' (by omega) hi')
  intro m s hm hi
  exact key (xs.length - m) m s (by omega) hi
theorem ev_list {α ρ : Type} (xs : List α) (g : Nat → Nat → Option ρ) (F : List α → ρ) (h0 : Ev (g xs.length) (F []))
    (hs : ∀ m (h : m < xs.length), Ev (g (m + 1)) (F (xs.drop (m + 1))) → Ev (g m) (F (xs[m] :: xs.drop (m + 1)))) (m : Nat) (hm : m ≤ xs.length) : Ev (g m) (F (xs.drop m)) :=
  ev_fold xs (fun m (_ : Unit) => g m) (fun l _ => F l) (fun _ _ => True) (fun _ _ => h0) (fun m h _ _ ih => hs m h (ih () trivial)) m () hm trivial
/-- A loop that counts from m up to n. -/
theorem ev_count {σ ρ : Type} (n : Nat) (g : Nat → σ → Nat → Option ρ) (r : ρ) (Inv : Nat → σ → Prop) (h0 : ∀ s, Inv n s → Ev (g n s) r)
    (hs : ∀ m s, m < n → Inv m s → ∃ s', Inv (m + 1) s' ∧ (Ev (g (m + 1) s') r → Ev (g m s) r)) : ∀ m s, m ≤ n → Inv m s → Ev (g m s) r := by
  have key : ∀ d m s, m + d = n → Inv m s → Ev (g m s) r := by
    intro d
    induction d with
    | zero =>
      intro m s e hi
      obtain rfl : m = n := by omega
      exact h0 s hi
    | succ d ih =>
      intro m s e hi
      obtain ⟨s', hi', k⟩ := hs m s (by omega) hi
      exact k (ih (m + 1) s' (by omega) hi')
  intro m s hm hi
  exact key (n - m) m s (by omega) hi
theorem rd_nat {xs : List Int} {m : Nat} (h : m < xs.length) : rd xs (m : Int) = xs[m] := by
  unfold rd
  rw [Int.toNat_natCast, List.getD_eq_getElem?_getD, List.getElem?_eq_getElem h]
  rfl
theorem w_succ {m : Nat} (h : m < 9223372036854775807) : wrap64 ((m : Int) + 1) = ((m + 1 : Nat) : Int) := by
  rw [w64 (by omega) (by omega)]
  omega
end Go.Proofs.Ytplgfchiaapmfaa.Com

/- The program's and the reference's tests of bounds. -/
namespace Go.Proofs.Ytplgfchiaapmfaa.Com
set_option linter.unusedSimpArgs false
set_option linter.unusedVariables false
open Go.RowKit Go.Proofs.YtplgfchiaapmfaaW.PrintWords Go.Proofs.Ytplgfchiaapmfaa.Q

theorem within_tells (x a b : Int) : impl_within.f x a b = some (decide (a ≤ x ∧ x ≤ b)) := by
  unfold impl_within.f
  split <;> simp [*]
theorem in_tells (x a b : Int) : spec_l00In.f x a b = some (decide (a ≤ x ∧ x ≤ b)) := by
  unfold spec_l00In.f
  by_cases h : x ≥ a
  · have h' : a ≤ x := h
    simp [h, h']
  · have h' : ¬ a ≤ x := h
    simp [h, h']
end Go.Proofs.Ytplgfchiaapmfaa.Com

/- What the laws' own helpers tell: a copy is the list itself, equality is equality, sizes are told. -/
namespace Go.Proofs.Ytplgfchiaapmfaa.Com
set_option linter.unusedSimpArgs false
set_option linter.unusedVariables false
open Go.RowKit Go.Proofs.YtplgfchiaapmfaaW.PrintWords Go.Proofs.Ytplgfchiaapmfaa.Q

theorem set_take (xs : List Int) (m : Nat) (h : m < xs.length) : (xs.take m ++ List.replicate (xs.length - m) 0).set m xs[m] = xs.take (m + 1) ++ List.replicate (xs.length - (m + 1)) 0 := by
  have hl : (xs.take m).length = m := by rw [List.length_take]; omega
  rw [List.set_append_right _ _ (by omega), hl, Nat.sub_self]
  obtain ⟨q, hq⟩ : ∃ q, xs.length - m = q + 1 := ⟨xs.length - m - 1, by omega⟩
  rw [hq, List.replicate_succ, List.set_cons_zero, show xs.length - (m + 1) = q by omega, List.take_succ_eq_append_getElem h, List.append_assoc]
  rfl
theorem toInt64S_ev (xs : List Int) (hx : xs.length ≤ 1048576) : Ev (fun k => laws_toInt64S.f k xs) xs := by
  unfold laws_toInt64S.f
  simp only [if_pos (show 0 ≤ (xs.length : Int) by omega), if_pos (show ((xs.length : Int)).toNat ≤ 35184372088832 by omega)]
  have := ev_count xs.length (fun m s k => laws_toInt64S.l0 k xs s (m : Int)) xs (fun m s => s = xs.take m ++ List.replicate (xs.length - m) 0) (fun s hs => ?_) (fun m s hm hs => ⟨xs.take (m + 1) ++ List.replicate (xs.length - (m + 1)) 0, rfl, fun ih => ?_⟩) 0 (List.replicate xs.length 0) (by omega) (by simp)
  · simpa using this
  · refine Ev.step (fun k => by rw [laws_toInt64S.l0]) ?_
    simp only [if_neg (show ¬ (xs.length : Int) < (xs.length : Int) by omega)]
    subst hs
    simp
    exact Ev.now _
  · refine Ev.step (fun k => by rw [laws_toInt64S.l0]) ?_
    subst hs
    have hl : (xs.take m ++ List.replicate (xs.length - m) 0).length = xs.length := by simp; omega
    simp only [if_pos (show (m : Int) < (xs.length : Int) by omega), if_pos (show 0 ≤ (m : Int) by omega), hl, rd_nat hm, Int.toNat_natCast, set_take xs m hm, w_succ (m := m) (by omega)]
    exact ih
theorem eqInt64S_ev (xs ys : List Int) (hx : xs.length ≤ 1048576) : Ev (fun k => laws_eqInt64S.f k xs ys) (decide (xs = ys)) := by
  unfold laws_eqInt64S.f
  by_cases hl : (xs.length : Int) = (ys.length : Int)
  · simp only [if_pos hl]
    have key : ∀ m, m ≤ xs.length → Ev (fun k => laws_eqInt64S.l0 k xs ys (m : Int)) (decide (xs.drop m = ys.drop m)) := by
      have gen := ev_list xs (fun m k => laws_eqInt64S.l0 k xs ys (m : Int)) (fun l => decide (l = ys.drop (xs.length - l.length))) ?_ ?_
      · intro m hm
        have := gen m hm
        rwa [List.length_drop, show xs.length - (xs.length - m) = m by omega] at this
      · refine Ev.step (fun k => by rw [laws_eqInt64S.l0]) ?_
        simp only [if_neg (show ¬ (xs.length : Int) < (xs.length : Int) by omega)]
        have : ys.drop (xs.length - ([] : List Int).length) = [] := by simp; omega
        rw [this]
        exact Ev.now _
      · intro m hm ih
        refine Ev.step (fun k => by rw [laws_eqInt64S.l0]) ?_
        have hy : m < ys.length := by omega
        simp only [if_pos (show (m : Int) < (xs.length : Int) by omega), if_pos (show 0 ≤ (m : Int) by omega), if_pos (show (m : Int) < (ys.length : Int) by omega), rd_nat hm, rd_nat hy, w_succ (m := m) (by omega)]
        rw [List.length_drop, show xs.length - (xs.length - (m + 1)) = m + 1 by omega] at ih
        have e : xs.length - (xs[m] :: xs.drop (m + 1)).length = m := by simp; omega
        rw [e, List.drop_eq_getElem_cons hy]
        by_cases c : xs[m] = ys[m]
        · simp only [if_pos c]
          rw [show decide (xs[m] :: xs.drop (m + 1) = ys[m] :: ys.drop (m + 1)) = decide (xs.drop (m + 1) = ys.drop (m + 1)) from decide_eq_decide.2 (by rw [c]; exact ⟨fun h => (List.cons.inj h).2, fun h => by rw [h]⟩)]
          exact ih
        · simp only [if_neg c]
          rw [decide_eq_false (show ¬ xs[m] :: xs.drop (m + 1) = ys[m] :: ys.drop (m + 1) from fun h => c (List.cons.inj h).1)]
          exact Ev.now _
    have := key 0 (by omega)
    simpa using this
  · simp only [if_neg hl]
    have : xs ≠ ys := fun e => hl (by rw [e])
    rw [decide_eq_false this]
    exact Ev.now _
theorem sz_tells (xs : List Int) (a : Int) (hx : xs.length ≤ maxLen) (ha : -1 ≤ a ∧ a ≤ 1048576) : laws_szInt64S.f xs a = some (if a - xs.length < 0 then -1 else a - xs.length) := by
  unfold laws_szInt64S.f
  unfold maxLen at hx
  rw [w64 (by omega) (by omega)]
  split <;> rfl
end Go.Proofs.Ytplgfchiaapmfaa.Com

/- Bits of small sets: what the machine's operations on them come to. -/
namespace Go.Proofs.Ytplgfchiaapmfaa.Com
set_option linter.unusedSimpArgs false
set_option linter.unusedVariables false
open Go.RowKit Go.Proofs.YtplgfchiaapmfaaW.PrintWords Go.Proofs.YtplgfchiaapmfaaW.PrintMore

theorem wraps_i64 (n : Int) (h₀ : 0 ≤ n) (h₁ : n < 2 ^ 63) : IntKind.i64.wrap n = n := by rw [IntKind.wrap_i64]; omega
theorem and_nat (a b : Nat) (ha : a < 4096) (hb : b < 4096) : Go.bits .and .i64 (a : Int) (b : Int) = ((a &&& b : Nat) : Int) :=
  (Go.bits_nat .i64 63 (by decide) wraps_i64 a b (by omega) (by omega)).1
theorem uw (n : Int) (h : 0 ≤ n ∧ n ≤ 4096) : IntKind.u64.wrap n = n := by
  simp [IntKind.wrap, IntKind.bits, IntKind.signed]
  omega
theorem shl_one (p : Nat) (h : p ≤ 12) : shl .i64 1 (p : Int) = 2 ^ p := by
  have : ∀ q : Fin 13, shl .i64 1 (q.val : Int) = 2 ^ q.val := by decide +kernel
  exact this ⟨p, by omega⟩
theorem pow_bd {p : Nat} (h : p ≤ 12) : 1 ≤ 2 ^ p ∧ 2 ^ p ≤ 4096 := by
  have : ∀ q : Fin 13, 1 ≤ 2 ^ q.val ∧ 2 ^ q.val ≤ 4096 := by decide
  exact this ⟨p, by omega⟩
/-- How many bits are set, of the first f. -/
def popf : Nat → Nat → Nat
  | 0, _ => 0
  | f + 1, n => n % 2 + popf f (n / 2)
def pop (n : Nat) : Nat := popf 12 n
theorem popf_le (f : Nat) : ∀ n, popf f n ≤ f := by
  induction f with
  | zero => intro n; simp [popf]
  | succ f ih => intro n; unfold popf; have := ih (n / 2); omega
theorem pop_le (n : Nat) : pop n ≤ 12 := popf_le 12 n
end Go.Proofs.Ytplgfchiaapmfaa.Com

/- Systems of sets: the tests of validity, copies and sizes. -/
namespace Go.Proofs.Ytplgfchiaapmfaa.Com
set_option linter.unusedSimpArgs false
set_option linter.unusedVariables false
open Go.RowKit Go.Proofs.YtplgfchiaapmfaaW.PrintWords Go.Proofs.YtplgfchiaapmfaaW.PrintMore Go.Proofs.Ytplgfchiaapmfaa.Q

/-- The set of all points. -/
def full (p : Int) : Int := wrap64 (shl .i64 1 p - 1)
theorem full_nat (p : Nat) (h : p ≤ 12) : full (p : Int) = ((2 ^ p - 1 : Nat) : Int) := by
  have : ∀ q : Fin 13, full (q.val : Int) = ((2 ^ q.val - 1 : Nat) : Int) := by decide +kernel
  exact this ⟨p, by omega⟩
def validSys (p : Int) (l : List Int) : Bool := decide (0 ≤ p ∧ p ≤ 12) && decide ((l.length : Int) ≤ 12) && l.all fun x => decide (0 ≤ x ∧ x ≤ full p)
theorem validSys_of {p : Int} {l : List Int} (h : validSys p l = true) : (∃ q : Nat, p = (q : Int) ∧ q ≤ 12) ∧ l.length ≤ 12 ∧ ∀ x ∈ l, 0 ≤ x ∧ x ≤ full p := by
  unfold validSys at h
  simp only [Bool.and_eq_true, decide_eq_true_eq, List.all_eq_true] at h
  exact ⟨⟨p.toNat, by omega, by omega⟩, by omega, h.2⟩
theorem set_tells (p x : Int) (hp : 0 ≤ p ∧ p ≤ 12) : spec_l10Set.f p x = some (decide (0 ≤ x ∧ x ≤ full p)) := by
  unfold spec_l10Set.f full
  rw [uw p (by omega), if_pos hp.1, in_tells]
  rfl
theorem specIs_ev (p : Int) (l : List Int) (hx : l.length ≤ 1048576) : Ev (fun k => spec_l10Is.f k p l) (validSys p l) := by
  unfold spec_l10Is.f validSys
  simp only [in_tells, Option.bind_some, decide_eq_true_eq]
  have jf : Ev (fun k => spec_l10Is.j0 k true p l) false := Ev.step (fun k => by rw [spec_l10Is.j0]) (by simp only [if_true]; exact Ev.now _)
  by_cases h1 : 0 ≤ p ∧ p ≤ 12
  · simp only [if_pos h1, decide_eq_true h1, Bool.true_and]
    by_cases h2 : (l.length : Int) ≤ 12
    · rw [decide_eq_false (show ¬ (l.length : Int) > 12 by omega), decide_eq_true h2, Bool.true_and]
      refine Ev.step (fun k => by rw [spec_l10Is.j0]) ?_
      simp only [Bool.false_eq_true, if_false]
      have gen := ev_list l (fun m k => spec_l10Is.l0 k (m : Int) p l) (fun r => r.all fun x => decide (0 ≤ x ∧ x ≤ full p)) ?_ ?_ 0 (by omega)
      · exact gen
      · refine Ev.step (fun k => by rw [spec_l10Is.l0]) ?_
        simp only [if_neg (show ¬ (l.length : Int) < (l.length : Int) by omega)]
        exact Ev.now _
      · intro m hm ih
        refine Ev.step (fun k => by rw [spec_l10Is.l0]) ?_
        simp only [if_pos (show (m : Int) < (l.length : Int) by omega), if_pos (show 0 ≤ (m : Int) by omega), rd_nat hm, set_tells p _ h1, Option.bind_some, w_succ (m := m) (by omega), decide_eq_true_eq]
        rw [List.all_cons]
        by_cases c : 0 ≤ l[m] ∧ l[m] ≤ full p
        · simp only [if_pos c, decide_eq_true c, Bool.true_and]
          exact ih
        · simp only [if_neg c, decide_eq_false c, Bool.false_and]
          exact Ev.now _
    · rw [decide_eq_true (show (l.length : Int) > 12 by omega), decide_eq_false h2, Bool.false_and]
      exact jf
  · simp only [if_neg h1, decide_eq_false h1, Bool.false_and]
    exact jf
theorem implValidSys_tells (p : Int) (l : List Int) : impl_ValidSystem.f p l = some (validSys p l) := by
  unfold impl_ValidSystem.f validSys impl_areWithin.f full
  rw [within_tells]
  simp only [Option.bind_some, decide_eq_true_eq]
  by_cases h1 : 0 ≤ p ∧ p ≤ 12
  · rw [if_pos h1, decide_eq_true h1, if_pos h1.1]
    by_cases h2 : (l.length : Int) ≤ 12
    · rw [if_pos h2, decide_eq_true h2]
      rfl
    · rw [if_neg h2, decide_eq_false h2]
      rfl
  · rw [if_neg h1, decide_eq_false h1]
    rfl
theorem toSystem_ev (p : Int) (l : List Int) (hx : l.length ≤ 1048576) : Ev (fun k => laws_toSystem.f k p l) (p, l) := by
  unfold laws_toSystem.f
  exact Ev.bind (toInt64S_ev l hx) (Ev.now _)
theorem eqSystem_ev (p : Int) (l : List Int) (hx : l.length ≤ 1048576) : Ev (fun k => laws_eqSystem.f k p l p l) true := by
  unfold laws_eqSystem.f
  simp only [if_true]
  refine Ev.bind (eqInt64S_ev l l hx) ?_
  simp
  exact Ev.now _
theorem szSystem_tells (p : Int) (l : List Int) (hx : l.length ≤ maxLen) : (laws_szSystem.f p l 1048576 = some (-1) ∧ ¬ l.length ≤ 1048576) ∨ (∃ t, laws_szSystem.f p l 1048576 = some t ∧ 0 ≤ t ∧ l.length ≤ 1048576) := by
  unfold laws_szSystem.f
  rw [sz_tells l 1048576 hx (by omega), Option.bind_some]
  by_cases h : (1048576 : Int) - l.length < 0
  · left
    rw [if_pos h]
    exact ⟨rfl, by omega⟩
  · right
    rw [if_neg h, if_neg h]
    exact ⟨_, rfl, by omega, by omega⟩
end Go.Proofs.Ytplgfchiaapmfaa.Com

/- How many points a set has, on both sides. -/
namespace Go.Proofs.Ytplgfchiaapmfaa.Com
set_option linter.unusedSimpArgs false
set_option linter.unusedVariables false
open Go.RowKit Go.Proofs.YtplgfchiaapmfaaW.PrintWords Go.Proofs.YtplgfchiaapmfaaW.PrintMore Go.Proofs.Ytplgfchiaapmfaa.Q

theorem many_tells (n : Nat) (h : n < 4096) : impl_many.f (n : Int) = some ((pop n : Nat) : Int) := by
  have : ∀ a b : Fin 64, impl_many.f ((64 * a.val + b.val : Nat) : Int) = some ((pop (64 * a.val + b.val) : Nat) : Int) := by decide +kernel
  have q := this ⟨n / 64, by omega⟩ ⟨n % 64, by omega⟩
  simp only at q
  rwa [show 64 * (n / 64) + n % 64 = n by omega] at q
theorem count_ev (n : Nat) (h : n < 4096) : Ev (fun k => spec_l10Count.f k (n : Int)) ((pop n : Nat) : Int) := by
  have : ∀ a b : Fin 64, spec_l10Count.f 14 ((64 * a.val + b.val : Nat) : Int) = some ((pop (64 * a.val + b.val) : Nat) : Int) := by decide +kernel
  have q := this ⟨n / 64, by omega⟩ ⟨n % 64, by omega⟩
  simp only at q
  rw [show 64 * (n / 64) + n % 64 = n by omega] at q
  exact Ev.of (fun k => spec_l10Count.mono _ k) q
end Go.Proofs.Ytplgfchiaapmfaa.Com

/- Imbalances, on both sides. -/
namespace Go.Proofs.Ytplgfchiaapmfaa.Com
set_option linter.unusedSimpArgs false
set_option linter.unusedVariables false
set_option linter.unusedSectionVars false
open Go.RowKit Go.Proofs.YtplgfchiaapmfaaW.PrintWords Go.Proofs.YtplgfchiaapmfaaW.PrintMore Go.Proofs.Ytplgfchiaapmfaa.Q

def imb (s r : Nat) : Int := 2 * (pop (s &&& r) : Int) - (pop s : Int)
theorem imb_bd (s r : Nat) : -12 ≤ imb s r ∧ imb s r ≤ 24 := by
  unfold imb
  have := pop_le s
  have := pop_le (s &&& r)
  omega
theorem and_lt {s : Nat} (r : Nat) (h : s < 4096) : s &&& r < 4096 := Nat.lt_of_le_of_lt Nat.and_le_left h
theorem specImb_ev (s r : Nat) (hs : s < 4096) (hr : r < 4096) : Ev (fun k => spec_l10Imbalance.f k (s : Int) (r : Int)) (imb s r) := by
  unfold spec_l10Imbalance.f
  have := pop_le s
  have := pop_le (s &&& r)
  rw [and_nat s r hs hr]
  refine Ev.bind (count_ev (s &&& r) (and_lt r hs)) (Ev.bind (count_ev s hs) ?_)
  rw [w64 (x := 2 * ((pop (s &&& r) : Nat) : Int)) (by omega) (by omega), w64 (by omega) (by omega)]
  exact Ev.now _
theorem full_lt {p : Nat} (h : p ≤ 12) {x : Int} (hx : 0 ≤ x ∧ x ≤ full p) : x.toNat < 2 ^ p ∧ x.toNat < 4096 := by
  rw [full_nat p h] at hx
  have := pow_bd h
  omega
section
variable {l : List Int} (hl : l.length ≤ 12) (hs : ∀ x ∈ l, 0 ≤ x ∧ x.toNat < 4096)
include hl hs
end
end Go.Proofs.Ytplgfchiaapmfaa.Com

/- The degree of a system, on both sides. -/
namespace Go.Proofs.Ytplgfchiaapmfaa.Com
set_option linter.unusedSimpArgs false
set_option linter.unusedVariables false
open Go.RowKit Go.Proofs.YtplgfchiaapmfaaW.PrintWords Go.Proofs.YtplgfchiaapmfaaW.PrintMore Go.Proofs.Ytplgfchiaapmfaa.Q

end Go.Proofs.Ytplgfchiaapmfaa.Com

/- The greatest absolute value of a list. -/
namespace Go.Proofs.Ytplgfchiaapmfaa.Com
set_option linter.unusedSimpArgs false
set_option linter.unusedVariables false
set_option linter.unusedSectionVars false
open Go.RowKit Go.Proofs.YtplgfchiaapmfaaW.PrintWords Go.Proofs.YtplgfchiaapmfaaW.PrintMore Go.Proofs.Ytplgfchiaapmfaa.Q

/-! ### Drift -/
end Go.Proofs.Ytplgfchiaapmfaa.Com

/- The discrepancy of a system, on both sides. -/
namespace Go.Proofs.Ytplgfchiaapmfaa.Com
set_option linter.unusedSimpArgs false
set_option linter.unusedVariables false
set_option linter.unusedSectionVars false
open Go.RowKit Go.Proofs.YtplgfchiaapmfaaW.PrintWords Go.Proofs.YtplgfchiaapmfaaW.PrintMore Go.Proofs.Ytplgfchiaapmfaa.Q

section
variable {l : List Int} (hl : l.length ≤ 12) (hs : ∀ x ∈ l, 0 ≤ x ∧ x.toNat < 4096)
include hl hs
end
theorem all_tells (p : Nat) (l : List Int) (h : p ≤ 12) : spec_l10All.f (p : Int) l = some ((2 ^ p - 1 : Nat) : Int) := by
  unfold spec_l10All.f
  rw [uw (p : Int) (by omega), if_pos (by omega), show wrap64 (shl .i64 1 (p : Int) - 1) = full p from rfl, full_nat p h]
end Go.Proofs.Ytplgfchiaapmfaa.Com

/- The average imbalance, on both sides. -/
namespace Go.Proofs.Ytplgfchiaapmfaa.Com
set_option linter.unusedSimpArgs false
set_option linter.unusedVariables false
set_option linter.unusedSectionVars false
open Go.RowKit Go.Proofs.YtplgfchiaapmfaaW.PrintWords Go.Proofs.YtplgfchiaapmfaaW.PrintMore Go.Proofs.Ytplgfchiaapmfaa.Q

def sumTo (F : Nat → Int) : Nat → Int
  | 0 => 0
  | n + 1 => sumTo F n + F n
theorem sumTo_two (F : Nat → Int) (n : Nat) : sumTo F (2 * n) = sumTo (fun i => F (2 * i) + F (2 * i + 1)) n := by
  induction n with
  | zero => rfl
  | succ n ih =>
    rw [show 2 * (n + 1) = 2 * n + 1 + 1 by omega]
    show sumTo F (2 * n) + F (2 * n) + F (2 * n + 1) = _
    rw [ih, sumTo]
    omega
theorem sumTo_congr {F G : Nat → Int} (h : ∀ i, F i = G i) (n : Nat) : sumTo F n = sumTo G n := by
  induction n with
  | zero => rfl
  | succ n ih => rw [sumTo, sumTo, ih, h]
theorem sumTo_add (F G : Nat → Int) (n : Nat) : sumTo (fun i => F i + G i) n = sumTo F n + sumTo G n := by
  induction n with
  | zero => rfl
  | succ n ih => rw [sumTo, sumTo, sumTo, ih]; omega
theorem sumTo_lin (F : Nat → Int) (c : Int) (n : Nat) : sumTo (fun i => 2 * F i + c) n = 2 * sumTo F n + c * n := by
  induction n with
  | zero => simp [sumTo]
  | succ n ih =>
    rw [sumTo, sumTo, ih, Int.natCast_add, Int.natCast_one, Int.mul_add, Int.mul_add, Int.mul_one]
    omega
theorem sumTo_bd {F : Nat → Int} {B : Int} (h : ∀ i, 0 ≤ F i ∧ F i ≤ B) (n : Nat) : 0 ≤ sumTo F n ∧ sumTo F n ≤ B * n := by
  induction n with
  | zero => simp [sumTo]
  | succ n ih =>
    rw [sumTo, Int.natCast_add, Int.natCast_one, Int.mul_add, Int.mul_one]
    have := h n
    omega
def gi (f s r : Nat) : Int := 2 * (popf f (s &&& r) : Int) - (popf f s : Int)
theorem gi_succ (f s r b : Nat) (hb : b < 2) : gi (f + 1) s (2 * r + b) = gi f (s / 2) r + (s % 2 : Nat) * (2 * (b : Int) - 1) := by
  have e1 : (s &&& (2 * r + b)) / 2 = s / 2 &&& r := by
    rw [Nat.and_div_two, show (2 * r + b) / 2 = r by omega]
  have e2 : (s &&& (2 * r + b)) % 2 = (s % 2) * b := by
    have := Nat.and_mod_two_pow (a := s) (b := 2 * r + b) (n := 1)
    rw [show (2 : Nat) ^ 1 = 2 from rfl, show (2 * r + b) % 2 = b by omega] at this
    rw [this]
    rcases (show s % 2 = 0 ∨ s % 2 = 1 by omega) with h | h <;> rcases (show b = 0 ∨ b = 1 by omega) with h' | h' <;> rw [h, h'] <;> rfl
  unfold gi
  rw [popf, popf, e1, e2]
  rcases (show b = 0 ∨ b = 1 by omega) with h' | h' <;> subst h' <;> simp <;> omega
theorem gi_sum (f : Nat) : ∀ s, sumTo (fun r => gi f s r * gi f s r) (2 ^ f) = (popf f s : Int) * ((2 ^ f : Nat) : Int) := by
  induction f with
  | zero => intro s; simp [sumTo, gi, popf]
  | succ f ih =>
    intro s
    have e : ∀ r, gi (f + 1) s (2 * r) * gi (f + 1) s (2 * r) + gi (f + 1) s (2 * r + 1) * gi (f + 1) s (2 * r + 1) = 2 * (gi f (s / 2) r * gi f (s / 2) r) + 2 * ((s % 2 : Nat) : Int) := by
      intro r
      have h0 : gi (f + 1) s (2 * r) = gi f (s / 2) r + (s % 2 : Nat) * (2 * ((0 : Nat) : Int) - 1) := gi_succ f s r 0 (by omega)
      have h1 := gi_succ f s r 1 (by omega)
      rw [h0, h1]
      generalize gi f (s / 2) r = g
      rcases (show s % 2 = 0 ∨ s % 2 = 1 by omega) with h | h
      · rw [h]; simp; omega
      · rw [h]; simp [Int.mul_add, Int.add_mul]; omega
    rw [Nat.pow_succ, Nat.mul_comm (2 ^ f) 2, sumTo_two, sumTo_congr e, sumTo_lin, ih, popf, Int.natCast_mul, Int.natCast_add, Int.add_mul]
    generalize ((2 ^ f : Nat) : Int) = P
    rw [Int.mul_left_comm, Int.mul_left_comm ((s % 2 : Nat) : Int), Int.mul_assoc, Int.add_comm]
    rfl
theorem popf_zero (f : Nat) : popf f 0 = 0 := by
  induction f with
  | zero => rfl
  | succ f ih => unfold popf; simp [ih]
theorem popf_more (d : Nat) : ∀ f n, n < 2 ^ f → popf (f + d) n = popf f n := by
  intro f
  induction f with
  | zero =>
    intro n h
    have : n = 0 := by simpa using h
    subst this
    rw [popf_zero, popf_zero]
  | succ f ih =>
    intro n h
    rw [show f + 1 + d = (f + d) + 1 by omega, popf, popf, ih (n / 2) (by rw [Nat.pow_succ] at h; omega)]
theorem pop_small {p n : Nat} (hp : p ≤ 12) (h : n < 2 ^ p) : pop n = popf p n := by
  have := popf_more (12 - p) p n h
  rw [show p + (12 - p) = 12 by omega] at this
  exact this
theorem imb_sum {p s : Nat} (hp : p ≤ 12) (h : s < 2 ^ p) : sumTo (fun r => imb s r * imb s r) (2 ^ p) = (pop s : Int) * ((2 ^ p : Nat) : Int) := by
  rw [pop_small hp h, ← gi_sum p s]
  apply sumTo_congr
  intro r
  have : imb s r = gi p s r := by
    unfold imb gi
    rw [pop_small hp h, pop_small hp (Nat.lt_of_le_of_lt Nat.and_le_left h)]
  rw [this]
theorem sq_bd {x : Int} (h : -24 ≤ x ∧ x ≤ 24) : 0 ≤ x * x ∧ x * x ≤ 576 := by
  rcases Com.lt_or_ge x 0 with h0 | h0
  · have := mul_bd (show 0 ≤ -x by omega) (show -x ≤ 24 by omega) (show 0 ≤ -x by omega) (show -x ≤ 24 by omega)
    rw [Int.neg_mul_neg] at this
    omega
  · have := mul_bd h0 h.2 h0 h.2
    omega
def tot (r : Nat) : List Int → Int
  | [] => 0
  | x :: l => imb x.toNat r * imb x.toNat r + tot r l
theorem tot_bd (r : Nat) (l : List Int) : 0 ≤ tot r l ∧ tot r l ≤ 576 * l.length := by
  induction l with
  | nil => simp [tot]
  | cons x l ih =>
    have := imb_bd x.toNat r
    have := sq_bd (x := imb x.toNat r) (by omega)
    unfold tot
    rw [List.length_cons]
    omega
def pops : List Int → Int
  | [] => 0
  | x :: l => (pop x.toNat : Int) + pops l
theorem tot_sum {p : Nat} (hp : p ≤ 12) (l : List Int) (hs : ∀ x ∈ l, x.toNat < 2 ^ p) : sumTo (fun r => tot r l) (2 ^ p) = pops l * ((2 ^ p : Nat) : Int) := by
  induction l with
  | nil =>
    have : ∀ n, sumTo (fun r => tot r []) n = 0 := by
      intro n
      induction n with
      | zero => rfl
      | succ n ih => rw [sumTo, ih]; rfl
    rw [this]
    simp [pops]
  | cons x l ih =>
    have e : (fun r => tot r (x :: l)) = fun r => imb x.toNat r * imb x.toNat r + tot r l := rfl
    rw [e, sumTo_add, ih (fun y hy => hs y (List.mem_cons_of_mem _ hy)), imb_sum hp (hs x (List.mem_cons_self ..)), pops, Int.add_mul]
section
variable {l : List Int} (hl : l.length ≤ 12) (hs : ∀ x ∈ l, 0 ≤ x ∧ x.toNat < 4096) {p : Nat} (hp : p ≤ 12)
include hl hs hp
theorem specAvg_ev : Ev (fun k => spec_AverageImbalance.l0 k 0 0 (p : Int) l) (sumTo (fun r => tot r l) (2 ^ p), ((2 ^ p : Nat) : Int), true) := by
  have pb := pow_bd hp
  have gen := ev_count (2 ^ p) (fun m (s : Int) k => spec_AverageImbalance.l0 k s (m : Int) (p : Int) l) (sumTo (fun r => tot r l) (2 ^ p), ((2 ^ p : Nat) : Int), true) (fun m s => s = sumTo (fun r => tot r l) m) ?_ ?_ 0 0 (by omega) rfl
  · exact gen
  · rintro s rfl
    refine Ev.step (fun k => by rw [spec_AverageImbalance.l0]) ?_
    simp only [all_tells p l hp, Option.bind_some, if_neg (show ¬ ((2 ^ p : Nat) : Int) ≤ ((2 ^ p - 1 : Nat) : Int) by omega), w_succ (m := 2 ^ p - 1) (by omega), show 2 ^ p - 1 + 1 = 2 ^ p by omega]
    exact Ev.now _
  · rintro m s hm rfl
    refine ⟨_, rfl, fun ih => ?_⟩
    have hb := sumTo_bd (F := fun r => tot r l) (B := 6912) (fun i => by have := tot_bd i l; omega) m
    have ht := tot_bd m l
    rw [sumTo] at ih
    refine Ev.step (fun k => by rw [spec_AverageImbalance.l0]) ?_
    simp only [all_tells p l hp, Option.bind_some, if_pos (show (m : Int) ≤ ((2 ^ p - 1 : Nat) : Int) by omega)]
    generalize sumTo (fun r => tot r l) m = S at hb ih ⊢
    have gen := ev_fold l (fun j s k => spec_AverageImbalance.l1 k s (m : Int) (j : Int) (p : Int) l) (fun _ _ => (sumTo (fun r => tot r l) (2 ^ p), ((2 ^ p : Nat) : Int), true)) (fun j s => 0 ≤ s ∧ s + tot m (l.drop j) = S + tot m l) ?_ ?_ 0 S (by omega) ⟨hb.1, by simp⟩
    · exact gen
    · rintro s ⟨s0, s1⟩
      rw [List.drop_length] at s1
      simp only [tot, Int.add_zero] at s1
      refine Ev.step (fun k => by rw [spec_AverageImbalance.l1]) ?_
      simp only [if_neg (show ¬ (l.length : Int) < (l.length : Int) by omega), w_succ (m := m) (by omega)]
      rw [s1]
      exact ih
    · rintro j hj s ⟨s0, s1⟩ k
      obtain ⟨x0, x1⟩ := hs l[j] (List.getElem_mem hj)
      obtain ⟨n, hn⟩ : ∃ n : Nat, l[j] = (n : Int) := ⟨l[j].toNat, by omega⟩
      have hn' : n < 4096 := by rw [hn, Int.toNat_natCast] at x1; exact x1
      rw [List.drop_eq_getElem_cons hj, tot, hn, Int.toNat_natCast] at s1
      have hd := tot_bd m (l.drop (j + 1))
      have hi := imb_bd n m
      have hq := sq_bd (x := imb n m) (by omega)
      refine Ev.step (fun k => by rw [spec_AverageImbalance.l1]) ?_
      simp only [if_pos (show (j : Int) < (l.length : Int) by omega), if_pos (show 0 ≤ (j : Int) by omega), rd_nat hj, w_succ (m := j) (by omega), hn]
      refine Ev.bind (specImb_ev n m hn' (by omega)) ?_
      rw [w64 (x := imb n m * imb n m) (by omega) (by omega), w64 (x := s + imb n m * imb n m) (by omega) (by omega)]
      exact k _ ⟨by omega, by omega⟩
theorem implAvg_ev : Ev (fun k => impl_AverageImbalance.l0 k 0 ((2 ^ p : Nat) : Int) l (l.length : Int) 0) (pops l * ((2 ^ p : Nat) : Int), ((2 ^ p : Nat) : Int), true) := by
  have pb := pow_bd hp
  have gen := ev_fold l (fun m (s : Int) k => impl_AverageImbalance.l0 k s ((2 ^ p : Nat) : Int) l (l.length : Int) (m : Int)) (fun d s => (s + pops d * ((2 ^ p : Nat) : Int), ((2 ^ p : Nat) : Int), true)) (fun m s => 0 ≤ s ∧ s ≤ 49152 * m) ?_ ?_ 0 0 (by omega) ⟨by omega, by omega⟩
  · rw [List.drop_zero, Int.zero_add] at gen
    exact gen
  · rintro s _
    refine Ev.step (fun k => by rw [impl_AverageImbalance.l0]) ?_
    simp only [if_neg (show ¬ (l.length : Int) < (l.length : Int) by omega), pops, Int.zero_mul, Int.add_zero]
    exact Ev.now _
  · rintro m hm s ⟨s0, s1⟩ k
    obtain ⟨x0, x1⟩ := hs l[m] (List.getElem_mem hm)
    obtain ⟨n, hn⟩ : ∃ n : Nat, l[m] = (n : Int) := ⟨l[m].toNat, by omega⟩
    have hn' : n < 4096 := by rw [hn, Int.toNat_natCast] at x1; exact x1
    have hq := pop_le n
    have hm2 := mul_bd (show 0 ≤ ((pop n : Nat) : Int) by omega) (show ((pop n : Nat) : Int) ≤ 12 by omega) (show 0 ≤ ((2 ^ p : Nat) : Int) by omega) (show ((2 ^ p : Nat) : Int) ≤ 4096 by omega)
    refine Ev.step (fun k => by rw [impl_AverageImbalance.l0]) ?_
    simp only [if_pos (show (m : Int) < (l.length : Int) by omega), if_pos (show 0 ≤ (m : Int) by omega), rd_nat hm, w_succ (m := m) (by omega), hn, many_tells n hn', Option.bind_some]
    rw [w64 (x := ((pop n : Nat) : Int) * ((2 ^ p : Nat) : Int)) (by omega) (by omega), w64 (x := s + ((pop n : Nat) : Int) * ((2 ^ p : Nat) : Int)) (by omega) (by omega)]
    rw [pops, Int.toNat_natCast, Int.add_mul, ← Int.add_assoc]
    exact k _ ⟨by omega, by omega⟩
end
theorem average_both (p : Int) (l : List Int) (hx : l.length ≤ 1048576) : ∃ r, Ev (fun k => spec_AverageImbalance.f k p l) r ∧ Ev (fun k => impl_AverageImbalance.f k p l) r := by
  unfold spec_AverageImbalance.f impl_AverageImbalance.f
  cases h : validSys p l with
  | false =>
    refine ⟨(0, 0, false), Ev.bind (specIs_ev p l hx) ?_, ev_bind' (implValidSys_tells p l) ?_⟩ <;>
    · simp only [h, Bool.false_eq_true, if_false]
      exact Ev.now _
  | true =>
    obtain ⟨⟨q, rfl, hq⟩, hl, hs⟩ := validSys_of h
    have hs' : ∀ x ∈ l, 0 ≤ x ∧ x.toNat < 4096 := fun x hx => ⟨(hs x hx).1, (full_lt hq (hs x hx)).2⟩
    refine ⟨(pops l * ((2 ^ q : Nat) : Int), ((2 ^ q : Nat) : Int), true), Ev.bind (specIs_ev _ l hx) ?_, ev_bind' (implValidSys_tells _ l) ?_⟩
    · simp only [h, if_true]
      rw [← tot_sum hq l (fun x hx => (full_lt hq (hs x hx)).1)]
      exact specAvg_ev hl hs' hq
    · simp only [h, if_true, if_pos (show 0 ≤ (q : Int) by omega)]
      rw [shl_one q hq, show (2 : Int) ^ q = ((2 ^ q : Nat) : Int) by rw [Int.natCast_pow]; rfl]
      exact implAvg_ev hl hs' hq
end Go.Proofs.Ytplgfchiaapmfaa.Com

/- The pure statement of FnExactAverageImbalance: for all arguments the program's AverageImbalance returns what the reference's returns. -/
namespace Go.Proofs.Ytplgfchiaapmfaa.Pure
set_option linter.unusedSimpArgs false
set_option linter.unusedVariables false
open Go.RowKit Go.Proofs.Ytplgfchiaapmfaa.Q Go.Proofs.YtplgfchiaapmfaaW.PrintWords Go.Proofs.YtplgfchiaapmfaaW.PrintLast Go.Proofs.Ytplgfchiaapmfaa.Com

theorem FnExactAverageImbalance : laws_FnExactAverageImbalance.Pure := by
  intro p l _ hl
  apply ev_of
  unfold laws_FnExactAverageImbalance.f
  rcases szSystem_tells p l hl.1 with ⟨e, _⟩ | ⟨t, e, ht, hx⟩
  · simp only [e, Option.bind_some, if_pos (show (-1 : Int) < 0 by omega)]
    exact Ev.now _
  · simp only [e, Option.bind_some, if_neg (show ¬ t < 0 by omega)]
    obtain ⟨r, hs, hi⟩ := average_both p l hx
    refine Ev.bind (toSystem_ev p l hx) (Ev.bind hs (Ev.bind (toSystem_ev p l hx) (Ev.bind hi ?_)))
    simp only [if_true, bne_self_eq_false]
    refine Ev.step (fun k => by rw [laws_FnExactAverageImbalance.j0]) ?_
    simp only [Bool.false_eq_true, if_false]
    refine Ev.bind (toSystem_ev p l hx) (Ev.bind (eqSystem_ev p l hx) ?_)
    simp only [if_true]
    exact Ev.now _
end Go.Proofs.Ytplgfchiaapmfaa.Pure
