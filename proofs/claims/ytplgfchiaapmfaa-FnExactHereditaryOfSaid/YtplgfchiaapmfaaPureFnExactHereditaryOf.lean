import Derived.Test.YtplgfchiaapmfaaWNEv
import Derived.Test.YtplgfchiaapmfaaWMore
import Derived.Laws.BitsLemmas
import Derived.Test.YtplgfchiaapmfaaQ1
import Derived.Test.YtplgfchiaapmfaaQ2
import Derived.Test.YtplgfchiaapmfaaQ4
import Derived.Test.YtplgfchiaapmfaaQ5
import Derived.Test.YtplgfchiaapmfaaQ6
import Derived.Test.YtplgfchiaapmfaaQ7
import Derived.Test.YtplgfchiaapmfaaQ8
import Derived.Test.YtplgfchiaapmfaaQ9
import Derived.Test.YtplgfchiaapmfaaQ11
import Derived.Test.YtplgfchiaapmfaaQ15
import Derived.Test.YtplgfchiaapmfaaQ17
import Derived.Test.YtplgfchiaapmfaaQ28
import Derived.Test.YtplgfchiaapmfaaQ37
import Derived.Test.YtplgfchiaapmfaaQ38
import Derived.Test.YtplgfchiaapmfaaQ39
import Derived.Test.YtplgfchiaapmfaaQ48
import Derived.Test.YtplgfchiaapmfaaQ49
import Derived.Test.YtplgfchiaapmfaaQ54
import Derived.Test.YtplgfchiaapmfaaQ55
import Derived.Test.YtplgfchiaapmfaaQ58
import Derived.Test.YtplgfchiaapmfaaQ59
import Derived.Test.YtplgfchiaapmfaaQ60
import Derived.Test.YtplgfchiaapmfaaQ61
/- Small facts of whole numbers, of wrapping, and of rounds that suffice, for the pure statements. -/
namespace Go.Proofs.Ytplgfchiaapmfaa.Com
open Go.RowKit Go.Proofs.YtplgfchiaapmfaaW.PrintWords

theorem w64 {x : Int} (h1 : -9223372036854775808 ≤ x) (h2 : x ≤ 9223372036854775807) : wrap64 x = x := by
  unfold wrap64
  omega
theorem ev_of {α : Type} {g : Nat → Option α} {r : α} (h : Ev g r) : ∃ k, g k = some r := h.rounds
theorem ev_bind' {α β : Type} {o : Option α} {f : Nat → α → Option β} {a : α} {r : β} (h : o = some a) (k : Ev (fun n => f n a) r) : Ev (fun n => o.bind (f n)) r := by
  subst h
  exact k
end Go.Proofs.Ytplgfchiaapmfaa.Com

/- Loops over lists, by their rounds: general lemmas. -/
namespace Go.Proofs.Ytplgfchiaapmfaa.Com
set_option linter.unusedSimpArgs false
set_option linter.unusedVariables false
open Go.RowKit Go.Proofs.YtplgfchiaapmfaaW.PrintWords

theorem ev_fold {α σ ρ : Type} (xs : List α) (g : Nat → σ → Nat → Option ρ) (F : List α → σ → ρ) (Inv : Nat → σ → Prop)
    (h0 : ∀ s, Inv xs.length s → Ev (g xs.length s) (F [] s))
    (hs : ∀ m (h : m < xs.length) s, Inv m s → (∀ s', Inv (m + 1) s' → Ev (g (m + 1) s') (F (xs.drop (m + 1)) s')) → Ev (g m s) (F (xs[m] :: xs.drop (m + 1)) s)) :
    ∀ m s, m ≤ xs.length → Inv m s → Ev (g m s) (F (xs.drop m) s) := by
  have key : ∀ d m s, m + d = xs.length → Inv m s → Ev (g m s) (F (xs.drop m) s) := by
    intro d
    induction d with
    | zero =>
      intro m s e hi
      obtain rfl : m = xs.length := by omega
      rw [List.drop_length]
      exact h0 s hi
    | succ d ih =>
      intro m s e hi
      have h : m < xs.length := by omega
      rw [List.drop_eq_getElem_cons h]
      exact hs m h s hi (fun s' hi' => ih (m + 1) s' (by omega) hi')
  intro m s hm hi
  exact key (xs.length - m) m s (by omega) hi
theorem ev_list {α ρ : Type} (xs : List α) (g : Nat → Nat → Option ρ) (F : List α → ρ) (h0 : Ev (g xs.length) (F []))
    (hs : ∀ m (h : m < xs.length), Ev (g (m + 1)) (F (xs.drop (m + 1))) → Ev (g m) (F (xs[m] :: xs.drop (m + 1)))) (m : Nat) (hm : m ≤ xs.length) : Ev (g m) (F (xs.drop m)) :=
  ev_fold xs (fun m (_ : Unit) => g m) (fun l _ => F l) (fun _ _ => True) (fun _ _ => h0) (fun m h _ _ ih => hs m h (ih () trivial)) m () hm trivial
/-- A loop that counts from m up to n. -/
theorem ev_count {σ ρ : Type} (n : Nat) (g : Nat → σ → Nat → Option ρ) (r : ρ) (Inv : Nat → σ → Prop) (h0 : ∀ s, Inv n s → Ev (g n s) r)
    (hs : ∀ m s, m < n → Inv m s → ∃ s', Inv (m + 1) s' ∧ (Ev (g (m + 1) s') r → Ev (g m s) r)) : ∀ m s, m ≤ n → Inv m s → Ev (g m s) r := by
  have key : ∀ d m s, m + d = n → Inv m s → Ev (g m s) r := by
    intro d
    induction d with
    | zero =>
      intro m s e hi
      obtain rfl : m = n := by omega
      exact h0 s hi
    | succ d ih =>
      intro m s e hi
      obtain ⟨s', hi', k⟩ := hs m s (by omega) hi
      exact k (ih (m + 1) s' (by omega) hi')
  intro m s hm hi
  exact key (n - m) m s (by omega) hi
theorem rd_nat {xs : List Int} {m : Nat} (h : m < xs.length) : rd xs (m : Int) = xs[m] := by
  unfold rd
  rw [Int.toNat_natCast, List.getD_eq_getElem?_getD, List.getElem?_eq_getElem h]
  rfl
theorem w_succ {m : Nat} (h : m < 9223372036854775807) : wrap64 ((m : Int) + 1) = ((m + 1 : Nat) : Int) := by
  rw [w64 (by omega) (by omega)]
  omega
end Go.Proofs.Ytplgfchiaapmfaa.Com

/- The program's and the reference's tests of bounds. -/
namespace Go.Proofs.Ytplgfchiaapmfaa.Com
set_option linter.unusedSimpArgs false
set_option linter.unusedVariables false
open Go.RowKit Go.Proofs.YtplgfchiaapmfaaW.PrintWords Go.Proofs.Ytplgfchiaapmfaa.Q

theorem within_tells (x a b : Int) : impl_within.f x a b = some (decide (a ≤ x ∧ x ≤ b)) := by
  unfold impl_within.f
  split <;> simp [*]
theorem in_tells (x a b : Int) : spec_l00In.f x a b = some (decide (a ≤ x ∧ x ≤ b)) := by
  unfold spec_l00In.f
  by_cases h : x ≥ a
  · have h' : a ≤ x := h
    simp [h, h']
  · have h' : ¬ a ≤ x := h
    simp [h, h']
end Go.Proofs.Ytplgfchiaapmfaa.Com

/- What the laws' own helpers tell: a copy is the list itself, equality is equality, sizes are told. -/
namespace Go.Proofs.Ytplgfchiaapmfaa.Com
set_option linter.unusedSimpArgs false
set_option linter.unusedVariables false
open Go.RowKit Go.Proofs.YtplgfchiaapmfaaW.PrintWords Go.Proofs.Ytplgfchiaapmfaa.Q

theorem set_take (xs : List Int) (m : Nat) (h : m < xs.length) : (xs.take m ++ List.replicate (xs.length - m) 0).set m xs[m] = xs.take (m + 1) ++ List.replicate (xs.length - (m + 1)) 0 := by
  have hl : (xs.take m).length = m := by rw [List.length_take]; omega
  rw [List.set_append_right _ _ (by omega), hl, Nat.sub_self]
  obtain ⟨q, hq⟩ : ∃ q, xs.length - m = q + 1 := ⟨xs.length - m - 1, by omega⟩
  rw [hq, List.replicate_succ, List.set_cons_zero, show xs.length - (m + 1) = q by omega, List.take_succ_eq_append_getElem h, List.append_assoc]
  rfl
theorem toInt64S_ev (xs : List Int) (hx : xs.length ≤ 1048576) : Ev (fun k => laws_toInt64S.f k xs) xs := by
  unfold laws_toInt64S.f
  simp only [if_pos (show 0 ≤ (xs.length : Int) by omega), if_pos (show ((xs.length : Int)).toNat ≤ 35184372088832 by omega)]
  have := ev_count xs.length (fun m s k => laws_toInt64S.l0 k xs s (m : Int)) xs (fun m s => s = xs.take m ++ List.replicate (xs.length - m) 0) (fun s hs => ?_) (fun m s hm hs => ⟨xs.take (m + 1) ++ List.replicate (xs.length - (m + 1)) 0, rfl, fun ih => ?_⟩) 0 (List.replicate xs.length 0) (by omega) (by simp)
  · simpa using this
  · refine Ev.step (fun k => by rw [laws_toInt64S.l0]) ?_
    simp only [if_neg (show ¬ (xs.length : Int) < (xs.length : Int) by omega)]
    subst hs
    simp
    exact Ev.now _
  · refine Ev.step (fun k => by rw [laws_toInt64S.l0]) ?_
    subst hs
    have hl : (xs.take m ++ List.replicate (xs.length - m) 0).length = xs.length := by simp; omega
    simp only [if_pos (show (m : Int) < (xs.length : Int) by omega), if_pos (show 0 ≤ (m : Int) by omega), hl, rd_nat hm, Int.toNat_natCast, set_take xs m hm, w_succ (m := m) (by omega)]
    exact ih
theorem eqInt64S_ev (xs ys : List Int) (hx : xs.length ≤ 1048576) : Ev (fun k => laws_eqInt64S.f k xs ys) (decide (xs = ys)) := by
  unfold laws_eqInt64S.f
  by_cases hl : (xs.length : Int) = (ys.length : Int)
  · simp only [if_pos hl]
    have key : ∀ m, m ≤ xs.length → Ev (fun k => laws_eqInt64S.l0 k xs ys (m : Int)) (decide (xs.drop m = ys.drop m)) := by
      have gen := ev_list xs (fun m k => laws_eqInt64S.l0 k xs ys (m : Int)) (fun l => decide (l = ys.drop (xs.length - l.length))) ?_ ?_
      · intro m hm
        have := gen m hm
        rwa [List.length_drop, show xs.length - (xs.length - m) = m by omega] at this
      · refine Ev.step (fun k => by rw [laws_eqInt64S.l0]) ?_
        simp only [if_neg (show ¬ (xs.length : Int) < (xs.length : Int) by omega)]
        have : ys.drop (xs.length - ([] : List Int).length) = [] := by simp; omega
        rw [this]
        exact Ev.now _
      · intro m hm ih
        refine Ev.step (fun k => by rw [laws_eqInt64S.l0]) ?_
        have hy : m < ys.length := by omega
        simp only [if_pos (show (m : Int) < (xs.length : Int) by omega), if_pos (show 0 ≤ (m : Int) by omega), if_pos (show (m : Int) < (ys.length : Int) by omega), rd_nat hm, rd_nat hy, w_succ (m := m) (by omega)]
        rw [List.length_drop, show xs.length - (xs.length - (m + 1)) = m + 1 by omega] at ih
        have e : xs.length - (xs[m] :: xs.drop (m + 1)).length = m := by simp; omega
        rw [e, List.drop_eq_getElem_cons hy]
        by_cases c : xs[m] = ys[m]
        · simp only [if_pos c]
          rw [show decide (xs[m] :: xs.drop (m + 1) = ys[m] :: ys.drop (m + 1)) = decide (xs.drop (m + 1) = ys.drop (m + 1)) from decide_eq_decide.2 (by rw [c]; exact ⟨fun h => (List.cons.inj h).2, fun h => by rw [h]⟩)]
          exact ih
        · simp only [if_neg c]
          rw [decide_eq_false (show ¬ xs[m] :: xs.drop (m + 1) = ys[m] :: ys.drop (m + 1) from fun h => c (List.cons.inj h).1)]
          exact Ev.now _
    have := key 0 (by omega)
    simpa using this
  · simp only [if_neg hl]
    have : xs ≠ ys := fun e => hl (by rw [e])
    rw [decide_eq_false this]
    exact Ev.now _
theorem sz_tells (xs : List Int) (a : Int) (hx : xs.length ≤ maxLen) (ha : -1 ≤ a ∧ a ≤ 1048576) : laws_szInt64S.f xs a = some (if a - xs.length < 0 then -1 else a - xs.length) := by
  unfold laws_szInt64S.f
  unfold maxLen at hx
  rw [w64 (by omega) (by omega)]
  split <;> rfl
end Go.Proofs.Ytplgfchiaapmfaa.Com

/- Bits of small sets: what the machine's operations on them come to. -/
namespace Go.Proofs.Ytplgfchiaapmfaa.Com
set_option linter.unusedSimpArgs false
set_option linter.unusedVariables false
open Go.RowKit Go.Proofs.YtplgfchiaapmfaaW.PrintWords Go.Proofs.YtplgfchiaapmfaaW.PrintMore

theorem wraps_i64 (n : Int) (h₀ : 0 ≤ n) (h₁ : n < 2 ^ 63) : IntKind.i64.wrap n = n := by rw [IntKind.wrap_i64]; omega
theorem and_nat (a b : Nat) (ha : a < 4096) (hb : b < 4096) : Go.bits .and .i64 (a : Int) (b : Int) = ((a &&& b : Nat) : Int) :=
  (Go.bits_nat .i64 63 (by decide) wraps_i64 a b (by omega) (by omega)).1
theorem or_nat (a b : Nat) (ha : a < 4096) (hb : b < 4096) : Go.bits .or .i64 (a : Int) (b : Int) = ((a ||| b : Nat) : Int) :=
  (Go.bits_nat .i64 63 (by decide) wraps_i64 a b (by omega) (by omega)).2
theorem uw (n : Int) (h : 0 ≤ n ∧ n ≤ 4096) : IntKind.u64.wrap n = n := by
  simp [IntKind.wrap, IntKind.bits, IntKind.signed]
  omega
theorem shl_one (p : Nat) (h : p ≤ 12) : shl .i64 1 (p : Int) = 2 ^ p := by
  have : ∀ q : Fin 13, shl .i64 1 (q.val : Int) = 2 ^ q.val := by decide +kernel
  exact this ⟨p, by omega⟩
theorem shl_bit (b p : Nat) (hb : b ≤ 1) (h : p ≤ 12) : shl .i64 (b : Int) (p : Int) = ((b * 2 ^ p : Nat) : Int) := by
  have : ∀ (c : Fin 2) (q : Fin 13), shl .i64 (c.val : Int) (q.val : Int) = ((c.val * 2 ^ q.val : Nat) : Int) := by decide +kernel
  exact this ⟨b, by omega⟩ ⟨p, by omega⟩
theorem pow_bd {p : Nat} (h : p ≤ 12) : 1 ≤ 2 ^ p ∧ 2 ^ p ≤ 4096 := by
  have : ∀ q : Fin 13, 1 ≤ 2 ^ q.val ∧ 2 ^ q.val ≤ 4096 := by decide
  exact this ⟨p, by omega⟩
/-- Bit p of a set. -/
def bitAt (s p : Nat) : Nat := s / 2 ^ p % 2
theorem bitAt_le (s p : Nat) : bitAt s p ≤ 1 := by unfold bitAt; omega
theorem bit_tells (s p : Nat) (hs : s < 4096) (hp : p ≤ 12) : Go.bits .and .i64 (shr .i64 (s : Int) (p : Int)) 1 = ((bitAt s p : Nat) : Int) := by
  have e : shr .i64 (s : Int) (p : Int) = ((s / 2 ^ p : Nat) : Int) := by
    unfold shr
    rw [Int.toNat_natCast, Nat.min_eq_left (by have : IntKind.i64.bits = 64 := rfl; omega)]
    exact_mod_cast rfl
  have hlt : s / 2 ^ p < 4096 := Nat.lt_of_le_of_lt (Nat.div_le_self _ _) hs
  rw [e]
  have := and_nat (s / 2 ^ p) 1 hlt (by omega)
  rw [Nat.and_one_is_mod] at this
  exact this
/-- How many bits are set, of the first f. -/
def popf : Nat → Nat → Nat
  | 0, _ => 0
  | f + 1, n => n % 2 + popf f (n / 2)
def pop (n : Nat) : Nat := popf 12 n
theorem popf_le (f : Nat) : ∀ n, popf f n ≤ f := by
  induction f with
  | zero => intro n; simp [popf]
  | succ f ih => intro n; unfold popf; have := ih (n / 2); omega
theorem pop_le (n : Nat) : pop n ≤ 12 := popf_le 12 n
end Go.Proofs.Ytplgfchiaapmfaa.Com

/- Systems of sets: the tests of validity, copies and sizes. -/
namespace Go.Proofs.Ytplgfchiaapmfaa.Com
set_option linter.unusedSimpArgs false
set_option linter.unusedVariables false
open Go.RowKit Go.Proofs.YtplgfchiaapmfaaW.PrintWords Go.Proofs.YtplgfchiaapmfaaW.PrintMore Go.Proofs.Ytplgfchiaapmfaa.Q

/-- The set of all points. -/
def full (p : Int) : Int := wrap64 (shl .i64 1 p - 1)
theorem full_nat (p : Nat) (h : p ≤ 12) : full (p : Int) = ((2 ^ p - 1 : Nat) : Int) := by
  have : ∀ q : Fin 13, full (q.val : Int) = ((2 ^ q.val - 1 : Nat) : Int) := by decide +kernel
  exact this ⟨p, by omega⟩
def validSys (p : Int) (l : List Int) : Bool := decide (0 ≤ p ∧ p ≤ 12) && decide ((l.length : Int) ≤ 12) && l.all fun x => decide (0 ≤ x ∧ x ≤ full p)
theorem validSys_of {p : Int} {l : List Int} (h : validSys p l = true) : (∃ q : Nat, p = (q : Int) ∧ q ≤ 12) ∧ l.length ≤ 12 ∧ ∀ x ∈ l, 0 ≤ x ∧ x ≤ full p := by
  unfold validSys at h
  simp only [Bool.and_eq_true, decide_eq_true_eq, List.all_eq_true] at h
  exact ⟨⟨p.toNat, by omega, by omega⟩, by omega, h.2⟩
theorem set_tells (p x : Int) (hp : 0 ≤ p ∧ p ≤ 12) : spec_l10Set.f p x = some (decide (0 ≤ x ∧ x ≤ full p)) := by
  unfold spec_l10Set.f full
  rw [uw p (by omega), if_pos hp.1, in_tells]
  rfl
theorem specIs_ev (p : Int) (l : List Int) (hx : l.length ≤ 1048576) : Ev (fun k => spec_l10Is.f k p l) (validSys p l) := by
  unfold spec_l10Is.f validSys
  simp only [in_tells, Option.bind_some, decide_eq_true_eq]
  have jf : Ev (fun k => spec_l10Is.j0 k true p l) false := Ev.step (fun k => by rw [spec_l10Is.j0]) (by simp only [if_true]; exact Ev.now _)
  by_cases h1 : 0 ≤ p ∧ p ≤ 12
  · simp only [if_pos h1, decide_eq_true h1, Bool.true_and]
    by_cases h2 : (l.length : Int) ≤ 12
    · rw [decide_eq_false (show ¬ (l.length : Int) > 12 by omega), decide_eq_true h2, Bool.true_and]
      refine Ev.step (fun k => by rw [spec_l10Is.j0]) ?_
      simp only [Bool.false_eq_true, if_false]
      have gen := ev_list l (fun m k => spec_l10Is.l0 k (m : Int) p l) (fun r => r.all fun x => decide (0 ≤ x ∧ x ≤ full p)) ?_ ?_ 0 (by omega)
      · exact gen
      · refine Ev.step (fun k => by rw [spec_l10Is.l0]) ?_
        simp only [if_neg (show ¬ (l.length : Int) < (l.length : Int) by omega)]
        exact Ev.now _
      · intro m hm ih
        refine Ev.step (fun k => by rw [spec_l10Is.l0]) ?_
        simp only [if_pos (show (m : Int) < (l.length : Int) by omega), if_pos (show 0 ≤ (m : Int) by omega), rd_nat hm, set_tells p _ h1, Option.bind_some, w_succ (m := m) (by omega), decide_eq_true_eq]
        rw [List.all_cons]
        by_cases c : 0 ≤ l[m] ∧ l[m] ≤ full p
        · simp only [if_pos c, decide_eq_true c, Bool.true_and]
          exact ih
        · simp only [if_neg c, decide_eq_false c, Bool.false_and]
          exact Ev.now _
    · rw [decide_eq_true (show (l.length : Int) > 12 by omega), decide_eq_false h2, Bool.false_and]
      exact jf
  · simp only [if_neg h1, decide_eq_false h1, Bool.false_and]
    exact jf
theorem implValidSys_tells (p : Int) (l : List Int) : impl_ValidSystem.f p l = some (validSys p l) := by
  unfold impl_ValidSystem.f validSys impl_areWithin.f full
  rw [within_tells]
  simp only [Option.bind_some, decide_eq_true_eq]
  by_cases h1 : 0 ≤ p ∧ p ≤ 12
  · rw [if_pos h1, decide_eq_true h1, if_pos h1.1]
    by_cases h2 : (l.length : Int) ≤ 12
    · rw [if_pos h2, decide_eq_true h2]
      rfl
    · rw [if_neg h2, decide_eq_false h2]
      rfl
  · rw [if_neg h1, decide_eq_false h1]
    rfl
theorem toSystem_ev (p : Int) (l : List Int) (hx : l.length ≤ 1048576) : Ev (fun k => laws_toSystem.f k p l) (p, l) := by
  unfold laws_toSystem.f
  exact Ev.bind (toInt64S_ev l hx) (Ev.now _)
theorem eqSystem_ev (p : Int) (l : List Int) (hx : l.length ≤ 1048576) : Ev (fun k => laws_eqSystem.f k p l p l) true := by
  unfold laws_eqSystem.f
  simp only [if_true]
  refine Ev.bind (eqInt64S_ev l l hx) ?_
  simp
  exact Ev.now _
theorem szSystem_tells (p : Int) (l : List Int) (hx : l.length ≤ maxLen) : (laws_szSystem.f p l 1048576 = some (-1) ∧ ¬ l.length ≤ 1048576) ∨ (∃ t, laws_szSystem.f p l 1048576 = some t ∧ 0 ≤ t ∧ l.length ≤ 1048576) := by
  unfold laws_szSystem.f
  rw [sz_tells l 1048576 hx (by omega), Option.bind_some]
  by_cases h : (1048576 : Int) - l.length < 0
  · left
    rw [if_pos h]
    exact ⟨rfl, by omega⟩
  · right
    rw [if_neg h, if_neg h]
    exact ⟨_, rfl, by omega, by omega⟩
end Go.Proofs.Ytplgfchiaapmfaa.Com

/- How many points a set has, on both sides. -/
namespace Go.Proofs.Ytplgfchiaapmfaa.Com
set_option linter.unusedSimpArgs false
set_option linter.unusedVariables false
open Go.RowKit Go.Proofs.YtplgfchiaapmfaaW.PrintWords Go.Proofs.YtplgfchiaapmfaaW.PrintMore Go.Proofs.Ytplgfchiaapmfaa.Q

theorem many_tells (n : Nat) (h : n < 4096) : impl_many.f (n : Int) = some ((pop n : Nat) : Int) := by
  have : ∀ a b : Fin 64, impl_many.f ((64 * a.val + b.val : Nat) : Int) = some ((pop (64 * a.val + b.val) : Nat) : Int) := by decide +kernel
  have q := this ⟨n / 64, by omega⟩ ⟨n % 64, by omega⟩
  simp only at q
  rwa [show 64 * (n / 64) + n % 64 = n by omega] at q
theorem count_ev (n : Nat) (h : n < 4096) : Ev (fun k => spec_l10Count.f k (n : Int)) ((pop n : Nat) : Int) := by
  have : ∀ a b : Fin 64, spec_l10Count.f 14 ((64 * a.val + b.val : Nat) : Int) = some ((pop (64 * a.val + b.val) : Nat) : Int) := by decide +kernel
  have q := this ⟨n / 64, by omega⟩ ⟨n % 64, by omega⟩
  simp only at q
  rw [show 64 * (n / 64) + n % 64 = n by omega] at q
  exact Ev.of (fun k => spec_l10Count.mono _ k) q
end Go.Proofs.Ytplgfchiaapmfaa.Com

/- Imbalances, on both sides. -/
namespace Go.Proofs.Ytplgfchiaapmfaa.Com
set_option linter.unusedSimpArgs false
set_option linter.unusedVariables false
set_option linter.unusedSectionVars false
open Go.RowKit Go.Proofs.YtplgfchiaapmfaaW.PrintWords Go.Proofs.YtplgfchiaapmfaaW.PrintMore Go.Proofs.Ytplgfchiaapmfaa.Q

def imb (s r : Nat) : Int := 2 * (pop (s &&& r) : Int) - (pop s : Int)
theorem imb_bd (s r : Nat) : -12 ≤ imb s r ∧ imb s r ≤ 24 := by
  unfold imb
  have := pop_le s
  have := pop_le (s &&& r)
  omega
theorem and_lt {s : Nat} (r : Nat) (h : s < 4096) : s &&& r < 4096 := Nat.lt_of_le_of_lt Nat.and_le_left h
theorem specImb_ev (s r : Nat) (hs : s < 4096) (hr : r < 4096) : Ev (fun k => spec_l10Imbalance.f k (s : Int) (r : Int)) (imb s r) := by
  unfold spec_l10Imbalance.f
  have := pop_le s
  have := pop_le (s &&& r)
  rw [and_nat s r hs hr]
  refine Ev.bind (count_ev (s &&& r) (and_lt r hs)) (Ev.bind (count_ev s hs) ?_)
  rw [w64 (x := 2 * ((pop (s &&& r) : Nat) : Int)) (by omega) (by omega), w64 (by omega) (by omega)]
  exact Ev.now _
def imbs (l : List Int) (r : Nat) : List Int := l.map fun x => imb x.toNat r
theorem full_lt {p : Nat} (h : p ≤ 12) {x : Int} (hx : 0 ≤ x ∧ x ≤ full p) : x.toNat < 2 ^ p ∧ x.toNat < 4096 := by
  rw [full_nat p h] at hx
  have := pow_bd h
  omega
section
variable {l : List Int} (hl : l.length ≤ 12) (hs : ∀ x ∈ l, 0 ≤ x ∧ x.toNat < 4096)
include hl hs
theorem implImbs_ev (p : Int) (r : Nat) (hr : r < 4096) : Ev (fun k => impl_System_imbalances.f k p l (r : Int)) (imbs l r) := by
  unfold impl_System_imbalances.f
  have gen := ev_fold l (fun m s k => impl_System_imbalances.l0 k (r : Int) s l (l.length : Int) (m : Int)) (fun d s => s ++ imbs d r) (fun m s => s.length = m) ?_ ?_ 0 [] (by omega) rfl
  · exact gen
  · intro s hm
    refine Ev.step (fun k => by rw [impl_System_imbalances.l0]) ?_
    simp only [if_neg (show ¬ (l.length : Int) < (l.length : Int) by omega), imbs, List.map_nil, List.append_nil]
    exact Ev.now _
  · intro m hm s hlen ih
    obtain ⟨x0, x1⟩ := hs l[m] (List.getElem_mem hm)
    refine Ev.step (fun k => by rw [impl_System_imbalances.l0]) ?_
    simp only [if_pos (show (m : Int) < (l.length : Int) by omega), if_pos (show 0 ≤ (m : Int) by omega), rd_nat hm, w_succ (m := m) (by omega), if_pos (show s.length < 17592186044416 by omega)]
    obtain ⟨n, hn⟩ : ∃ n : Nat, l[m] = (n : Int) := ⟨l[m].toNat, by omega⟩
    have hn' : n < 4096 := by rw [hn, Int.toNat_natCast] at x1; exact x1
    have := pop_le n
    have := pop_le (n &&& r)
    rw [hn, and_nat n r hn' hr, many_tells _ (and_lt r hn'), many_tells n hn']
    simp only [Option.bind_some]
    rw [w64 (x := 2 * ((pop (n &&& r) : Nat) : Int)) (by omega) (by omega), w64 (by omega) (by omega)]
    have e : s ++ imbs ((n : Int) :: l.drop (m + 1)) r = (s ++ [2 * ((pop (n &&& r) : Nat) : Int) - ((pop n : Nat) : Int)]) ++ imbs (l.drop (m + 1)) r := by
      simp [imbs, imb]
    rw [e]
    exact ih _ (by simp [hlen])
end
end Go.Proofs.Ytplgfchiaapmfaa.Com

/- The degree of a system, on both sides. -/
namespace Go.Proofs.Ytplgfchiaapmfaa.Com
set_option linter.unusedSimpArgs false
set_option linter.unusedVariables false
open Go.RowKit Go.Proofs.YtplgfchiaapmfaaW.PrintWords Go.Proofs.YtplgfchiaapmfaaW.PrintMore Go.Proofs.Ytplgfchiaapmfaa.Q

theorem max_mx (a b : Int) : spec_l00Max.f a b = some (mx a b) := by
  unfold spec_l00Max.f mx
  by_cases h : a > b
  · rw [if_pos h, if_neg (by omega)]
  · rw [if_neg h]
    by_cases h' : a < b
    · rw [if_pos h']
    · rw [if_neg h', show b = a by omega]
end Go.Proofs.Ytplgfchiaapmfaa.Com

/- The greatest absolute value of a list. -/
namespace Go.Proofs.Ytplgfchiaapmfaa.Com
set_option linter.unusedSimpArgs false
set_option linter.unusedVariables false
set_option linter.unusedSectionVars false
open Go.RowKit Go.Proofs.YtplgfchiaapmfaaW.PrintWords Go.Proofs.YtplgfchiaapmfaaW.PrintMore Go.Proofs.Ytplgfchiaapmfaa.Q

/-! ### Drift -/
def gr (l : List Int) : Int := l.foldl (fun s x => mx (mx s x) (-x)) 0
theorem gr_bd (B : Int) (hB : 0 ≤ B) (l : List Int) (h : ∀ x ∈ l, -B ≤ x ∧ x ≤ B) : 0 ≤ gr l ∧ gr l ≤ B := by
  have key : ∀ (l : List Int) (s : Int), 0 ≤ s ∧ s ≤ B → (∀ x ∈ l, -B ≤ x ∧ x ≤ B) → 0 ≤ l.foldl (fun s x => mx (mx s x) (-x)) s ∧ l.foldl (fun s x => mx (mx s x) (-x)) s ≤ B := by
    intro l
    induction l with
    | nil => intro s hs _; exact hs
    | cons x r ih =>
      intro s hs h
      have := h x List.mem_cons_self
      rw [List.foldl_cons]
      refine ih _ ?_ (fun y hy => h y (List.mem_cons_of_mem _ hy))
      unfold mx
      split <;> split <;> omega
  exact key l 0 (by omega) h
theorem greatest_ev (l : List Int) (hx : l.length ≤ 1048576) (hb : ∀ x ∈ l, -9223372036854775807 ≤ x ∧ x ≤ 9223372036854775807) : Ev (fun k => impl_greatest.f k l) (gr l) := by
  unfold impl_greatest.f
  have gen := ev_fold l (fun m s k => impl_greatest.l0 k s l (l.length : Int) (m : Int)) (fun r s => r.foldl (fun s x => mx (mx s x) (-x)) s) (fun m s => True) ?_ ?_ 0 0 (by omega) trivial
  · simpa [gr] using gen
  · intro s hs
    refine Ev.step (fun k => by rw [impl_greatest.l0]) ?_
    simp only [if_neg (show ¬ (l.length : Int) < (l.length : Int) by omega)]
    exact Ev.now _
  · intro m h s hs ih
    have b := hb l[m] (List.getElem_mem h)
    refine Ev.step (fun k => by rw [impl_greatest.l0]) ?_
    simp only [if_pos (show (m : Int) < (l.length : Int) by omega), if_pos (show 0 ≤ (m : Int) by omega), rd_nat h, w_succ (m := m) (by omega)]
    rw [w64 (x := -l[m]) (by omega) (by omega), List.foldl_cons]
    exact ih _ trivial
end Go.Proofs.Ytplgfchiaapmfaa.Com

/- The discrepancy of a system, on both sides. -/
namespace Go.Proofs.Ytplgfchiaapmfaa.Com
set_option linter.unusedSimpArgs false
set_option linter.unusedVariables false
set_option linter.unusedSectionVars false
open Go.RowKit Go.Proofs.YtplgfchiaapmfaaW.PrintWords Go.Proofs.YtplgfchiaapmfaaW.PrintMore Go.Proofs.Ytplgfchiaapmfaa.Q

/-- The first of the least values so far, and where it was. -/
def stepD (f : Nat → Int) (s : Int × Int) (r : Nat) : Int × Int := if s.1 < 0 then (f r, (r : Int)) else if f r < s.1 then (f r, (r : Int)) else s
def minD (f : Nat → Int) (ok : Nat → Bool) (n : Nat) : Int × Int := ((List.range n).filter ok).foldl (stepD f) (-1, 0)
theorem minD_succ (f : Nat → Int) (ok : Nat → Bool) (n : Nat) : minD f ok (n + 1) = if ok n then stepD f (minD f ok n) n else minD f ok n := by
  unfold minD
  rw [List.range_succ, List.filter_append, List.foldl_append]
  cases h : ok n <;> simp [h]
def most (l : List Int) (pts r : Nat) : Int := gr (l.map fun x => imb (x.toNat &&& pts) r)
section
variable {l : List Int} (hl : l.length ≤ 12) (hs : ∀ x ∈ l, 0 ≤ x ∧ x.toNat < 4096)
include hl hs
theorem most_bd (pts r : Nat) : 0 ≤ most l pts r ∧ most l pts r ≤ 24 :=
  gr_bd 24 (by omega) _ (fun y hy => by
    obtain ⟨x, _, rfl⟩ := List.mem_map.1 hy
    have := imb_bd (x.toNat &&& pts) r
    omega)
theorem most_ev (pts r : Nat) (hp : pts < 4096) (hr : r < 4096) : Ev (fun k => spec_l10Most.f k l (pts : Int) (r : Int)) (most l pts r) := by
  unfold spec_l10Most.f
  have gen := ev_fold l (fun m s k => spec_l10Most.l0 k l (pts : Int) (r : Int) s (m : Int)) (fun d s => (d.map fun x => imb (x.toNat &&& pts) r).foldl (fun s x => mx (mx s x) (-x)) s) (fun m s => True) ?_ ?_ 0 0 (by omega) trivial
  · simpa [most, gr] using gen
  · intro s hm
    refine Ev.step (fun k => by rw [spec_l10Most.l0]) ?_
    simp only [if_neg (show ¬ (l.length : Int) < (l.length : Int) by omega)]
    exact Ev.now _
  · intro m hm s _ ih
    obtain ⟨x0, x1⟩ := hs l[m] (List.getElem_mem hm)
    refine Ev.step (fun k => by rw [spec_l10Most.l0]) ?_
    simp only [if_pos (show (m : Int) < (l.length : Int) by omega), if_pos (show 0 ≤ (m : Int) by omega), rd_nat hm, w_succ (m := m) (by omega)]
    obtain ⟨n, hn⟩ : ∃ n : Nat, l[m] = (n : Int) := ⟨l[m].toNat, by omega⟩
    have hn' : n < 4096 := by rw [hn, Int.toNat_natCast] at x1; exact x1
    have b := imb_bd (n &&& pts) r
    rw [hn, and_nat n pts hn' hp, List.map_cons, List.foldl_cons, Int.toNat_natCast]
    refine Ev.bind (specImb_ev (n &&& pts) r (and_lt pts hn') hr) ?_
    rw [w64 (x := -imb (n &&& pts) r) (by omega) (by omega)]
    simp only [max_mx, Option.bind_some]
    rw [show mx s (mx (imb (n &&& pts) r) (-imb (n &&& pts) r)) = mx (mx s (imb (n &&& pts) r)) (-imb (n &&& pts) r) from by unfold mx; repeat' split <;> omega]
    exact ih _ trivial
/-- The reference's search, for any points. -/
theorem specDisc_ev (pts : Nat) (hp : pts < 4096) : Ev (fun k => spec_l10Discrepancy.f k l (pts : Int)) (minD (most l pts) (fun r => decide (r &&& pts = r)) (pts + 1)) := by
  unfold spec_l10Discrepancy.f
  have gen := ev_count (pts + 1) (fun m (s : Int × Int) k => spec_l10Discrepancy.l0 k l (pts : Int) s.1 s.2 (m : Int)) (minD (most l pts) (fun r => decide (r &&& pts = r)) (pts + 1)) (fun m s => s = minD (most l pts) (fun r => decide (r &&& pts = r)) m) ?_ ?_ 0 (-1, 0) (by omega) rfl
  · exact gen
  · rintro s rfl
    refine Ev.step (fun k => by rw [spec_l10Discrepancy.l0]) ?_
    simp only [if_neg (show ¬ ((pts + 1 : Nat) : Int) ≤ (pts : Int) by omega)]
    exact Ev.now _
  · rintro m s hm rfl
    refine ⟨_, rfl, fun ih => ?_⟩
    refine Ev.step (fun k => by rw [spec_l10Discrepancy.l0]) ?_
    simp only [if_pos (show (m : Int) ≤ (pts : Int) by omega), and_nat m pts (by omega) hp, w_succ (m := m) (by omega)]
    rw [minD_succ] at ih
    by_cases c : m &&& pts = m
    · simp only [c, if_true]
      rw [decide_eq_true c] at ih
      simp only [if_true, stepD] at ih
      refine Ev.bind (most_ev hl hs pts m hp (by omega)) ?_
      generalize minD (most l pts) (fun r => decide (r &&& pts = r)) m = s at ih ⊢
      by_cases c1 : s.1 < 0
      · simp only [if_pos c1] at ih ⊢
        exact ih
      · simp only [if_neg c1] at ih ⊢
        by_cases c2 : most l pts m < s.1
        · simp only [if_pos c2] at ih ⊢
          exact ih
        · simp only [if_neg c2] at ih ⊢
          exact ih
    · simp only [if_neg (show ¬ ((m &&& pts : Nat) : Int) = (m : Int) by omega)]
      rw [decide_eq_false c] at ih
      simpa using ih
/-- The program's search. -/
theorem implDisc_ev (p : Nat) (hp : p ≤ 12) : Ev (fun k => impl_System_discrepancy.f k (p : Int) l) (minD (fun r => gr (imbs l r)) (fun _ => true) (2 ^ p)) := by
  have hpw := pow_bd hp
  unfold impl_System_discrepancy.f
  simp only [if_pos (show 0 ≤ (p : Int) by omega), shl_one p hp]
  rw [show (2 : Int) ^ p = ((2 ^ p : Nat) : Int) by simp]
  have gen := ev_count (2 ^ p) (fun m (s : Int × Int) k => impl_System_discrepancy.l0 k s.2 s.1 ((2 ^ p : Nat) : Int) (m : Int) (p : Int) l) (minD (fun r => gr (imbs l r)) (fun _ => true) (2 ^ p)) (fun m s => s = minD (fun r => gr (imbs l r)) (fun _ => true) m) ?_ ?_ 0 (-1, 0) (by omega) rfl
  · exact gen
  · rintro s rfl
    refine Ev.step (fun k => by rw [impl_System_discrepancy.l0]) ?_
    simp only [if_neg (show ¬ ((2 ^ p : Nat) : Int) < ((2 ^ p : Nat) : Int) by omega)]
    exact Ev.now _
  · rintro m s hm rfl
    refine ⟨_, rfl, fun ih => ?_⟩
    refine Ev.step (fun k => by rw [impl_System_discrepancy.l0]) ?_
    simp only [if_pos (show (m : Int) < ((2 ^ p : Nat) : Int) by omega), w_succ (m := m) (by omega)]
    rw [minD_succ] at ih
    simp only [if_true, stepD] at ih
    refine Ev.bind (implImbs_ev hl hs _ m (by omega)) (Ev.bind (greatest_ev _ (by simp [imbs]; omega) (fun y hy => by
      obtain ⟨x, _, rfl⟩ := List.mem_map.1 hy
      have := imb_bd x.toNat m
      omega)) ?_)
    generalize minD (fun r => gr (imbs l r)) (fun _ => true) m = s at ih ⊢
    by_cases c1 : s.1 < 0
    · simp only [if_pos c1] at ih ⊢
      exact ih
    · simp only [if_neg c1] at ih ⊢
      by_cases c2 : gr (imbs l m) < s.1
      · simp only [if_pos c2] at ih ⊢
        exact ih
      · simp only [if_neg c2] at ih ⊢
        exact ih
end
theorem all_tells (p : Nat) (l : List Int) (h : p ≤ 12) : spec_l10All.f (p : Int) l = some ((2 ^ p - 1 : Nat) : Int) := by
  unfold spec_l10All.f
  rw [uw (p : Int) (by omega), if_pos (by omega), show wrap64 (shl .i64 1 (p : Int) - 1) = full p from rfl, full_nat p h]
end Go.Proofs.Ytplgfchiaapmfaa.Com

/- The average imbalance, on both sides. -/
namespace Go.Proofs.Ytplgfchiaapmfaa.Com
set_option linter.unusedSimpArgs false
set_option linter.unusedVariables false
set_option linter.unusedSectionVars false
open Go.RowKit Go.Proofs.YtplgfchiaapmfaaW.PrintWords Go.Proofs.YtplgfchiaapmfaaW.PrintMore Go.Proofs.Ytplgfchiaapmfaa.Q

theorem popf_zero (f : Nat) : popf f 0 = 0 := by
  induction f with
  | zero => rfl
  | succ f ih => unfold popf; simp [ih]
theorem popf_more (d : Nat) : ∀ f n, n < 2 ^ f → popf (f + d) n = popf f n := by
  intro f
  induction f with
  | zero =>
    intro n h
    have : n = 0 := by simpa using h
    subst this
    rw [popf_zero, popf_zero]
  | succ f ih =>
    intro n h
    rw [show f + 1 + d = (f + d) + 1 by omega, popf, popf, ih (n / 2) (by rw [Nat.pow_succ] at h; omega)]
theorem pop_small {p n : Nat} (hp : p ≤ 12) (h : n < 2 ^ p) : pop n = popf p n := by
  have := popf_more (12 - p) p n h
  rw [show p + (12 - p) = 12 by omega] at this
  exact this
section
variable {l : List Int} (hl : l.length ≤ 12) (hs : ∀ x ∈ l, 0 ≤ x ∧ x.toNat < 4096) {p : Nat} (hp : p ≤ 12)
include hl hs hp
end
end Go.Proofs.Ytplgfchiaapmfaa.Com

/- Restrictions of systems, on both sides. -/
namespace Go.Proofs.Ytplgfchiaapmfaa.Com
set_option linter.unusedSimpArgs false
set_option linter.unusedVariables false
set_option linter.unusedSectionVars false
open Go.RowKit Go.Proofs.YtplgfchiaapmfaaW.PrintWords Go.Proofs.YtplgfchiaapmfaaW.PrintMore Go.Proofs.Ytplgfchiaapmfaa.Q

def rst (pts s : Nat) : Nat → Int × Nat
  | 0 => (0, 0)
  | i + 1 => if bitAt pts i = 0 then rst pts s i else (Go.bits .or .i64 (rst pts s i).1 (shl .i64 ((bitAt s i : Nat) : Int) (((rst pts s i).2 : Nat) : Int)), (rst pts s i).2 + 1)
theorem rst_le (pts s i : Nat) : (rst pts s i).2 ≤ i := by
  induction i with
  | zero => exact Nat.le_refl _
  | succ i ih =>
    unfold rst
    split
    · omega
    · show (rst pts s i).2 + 1 ≤ i + 1
      omega
def rsts (l : List Int) (pts p : Nat) : List Int := l.map fun x => (rst pts x.toNat p).1
section
variable {l : List Int} (hl : l.length ≤ 12) (hs : ∀ x ∈ l, 0 ≤ x ∧ x.toNat < 4096) {pts p : Nat} (hp : p ≤ 12) (hpts : pts < 4096)
include hl hs hp hpts
theorem implRst_ev : Ev (fun k => impl_System_restricted.f k (p : Int) l (pts : Int)) (((pop pts : Nat) : Int), rsts l pts p) := by
  unfold impl_System_restricted.f
  refine ev_bind' (many_tells pts hpts) ?_
  generalize ((pop pts : Nat) : Int) = q
  have gen := ev_fold l (fun m s k => impl_System_restricted.l0 k (pts : Int) l (l.length : Int) (m : Int) (p : Int) l q s) (fun d s => (q, s ++ rsts d pts p)) (fun m s => s.length = m) ?_ ?_ 0 [] (by omega) rfl
  · exact gen
  · intro s hm
    refine Ev.step (fun k => by rw [impl_System_restricted.l0]) ?_
    simp only [if_neg (show ¬ (l.length : Int) < (l.length : Int) by omega), rsts, List.map_nil, List.append_nil]
    exact Ev.now _
  · intro m hm s hlen ih
    obtain ⟨x0, x1⟩ := hs l[m] (List.getElem_mem hm)
    refine Ev.step (fun k => by rw [impl_System_restricted.l0]) ?_
    simp only [if_pos (show (m : Int) < (l.length : Int) by omega), if_pos (show 0 ≤ (m : Int) by omega), rd_nat hm]
    obtain ⟨n, hn⟩ : ∃ n : Nat, l[m] = (n : Int) := ⟨l[m].toNat, by omega⟩
    have hn' : n < 4096 := by rw [hn, Int.toNat_natCast] at x1; exact x1
    rw [hn]
    have gen := ev_count p (fun i (st : Int × Nat) k => impl_System_restricted.l1 k (pts : Int) (n : Int) st.1 (st.2 : Int) l (l.length : Int) (m : Int) (p : Int) (i : Int) (p : Int) l q s) (q, s ++ rsts ((n : Int) :: l.drop (m + 1)) pts p) (fun i st => st = rst pts n i) ?_ ?_ 0 (0, 0) (by omega) rfl
    · exact gen
    · rintro st rfl
      refine Ev.step (fun k => by rw [impl_System_restricted.l1]) ?_
      simp only [if_neg (show ¬ (p : Int) < (p : Int) by omega), if_pos (show s.length < 17592186044416 by omega), w_succ (m := m) (by omega)]
      have e : s ++ rsts ((n : Int) :: l.drop (m + 1)) pts p = (s ++ [(rst pts n p).1]) ++ rsts (l.drop (m + 1)) pts p := by
        simp [rsts]
      rw [e]
      exact ih _ (by simp [hlen])
    · rintro i st hi rfl
      refine ⟨_, rfl, fun ih => ?_⟩
      have hle := rst_le pts n i
      refine Ev.step (fun k => by rw [impl_System_restricted.l1]) ?_
      simp only [if_pos (show (i : Int) < (p : Int) by omega), if_pos (show 0 ≤ (i : Int) by omega), bit_tells pts i hpts (by omega), bit_tells n i hn' (by omega), w_succ (m := i) (by omega), if_pos (show 0 ≤ (((rst pts n i).2 : Nat) : Int) by omega), w_succ (m := (rst pts n i).2) (by omega)]
      have hb := bitAt_le pts i
      rw [rst] at ih
      by_cases c : bitAt pts i = 0
      · simp only [if_pos c] at ih
        simp only [if_neg (show ¬ ((bitAt pts i : Nat) : Int) = 1 by omega)]
        exact ih
      · simp only [if_neg c] at ih
        simp only [if_pos (show ((bitAt pts i : Nat) : Int) = 1 by omega)]
        exact ih
end
end Go.Proofs.Ytplgfchiaapmfaa.Com

/- Sets drawn together to the points of another, and the least of many values. -/
namespace Go.Proofs.Ytplgfchiaapmfaa.Com
set_option linter.unusedSimpArgs false
set_option linter.unusedVariables false
set_option linter.unusedSectionVars false
open Go.RowKit Go.Proofs.YtplgfchiaapmfaaW.PrintWords Go.Proofs.YtplgfchiaapmfaaW.PrintMore Go.Proofs.Ytplgfchiaapmfaa.Q

def ext : Nat → Nat → Nat → Nat
  | 0, _, _ => 0
  | f + 1, m, s => if m % 2 = 0 then ext f (m / 2) (s / 2) else s % 2 + 2 * ext f (m / 2) (s / 2)
def dep : Nat → Nat → Nat → Nat
  | 0, _, _ => 0
  | f + 1, m, t => if m % 2 = 0 then 2 * dep f (m / 2) t else t % 2 + 2 * dep f (m / 2) (t / 2)
theorem ext_lt (f : Nat) : ∀ m s, ext f m s < 2 ^ popf f m := by
  induction f with
  | zero => intro m s; simp [ext, popf]
  | succ f ih =>
    intro m s
    unfold ext popf
    have := ih (m / 2) (s / 2)
    split
    next h => rw [h, Nat.zero_add]; exact this
    next h =>
      rw [show m % 2 = 1 by omega, Nat.pow_add]
      omega
theorem ext_lt' (f m s : Nat) : ext f m s < 2 ^ f := Nat.lt_of_lt_of_le (ext_lt f m s) (Nat.pow_le_pow_right (by omega) (popf_le f m))
theorem and_mod (a b : Nat) : (a &&& b) % 2 = (a % 2) * (b % 2) := by
  have := Nat.and_mod_two_pow (a := a) (b := b) (n := 1)
  rw [show (2 : Nat) ^ 1 = 2 from rfl] at this
  rw [this]
  rcases (show a % 2 = 0 ∨ a % 2 = 1 by omega) with h | h <;> rcases (show b % 2 = 0 ∨ b % 2 = 1 by omega) with h' | h' <;> rw [h, h'] <;> rfl
theorem pop_ext (f : Nat) : ∀ m s r, popf f (ext f m s &&& ext f m r) = popf f ((s &&& m) &&& r) := by
  induction f with
  | zero => intro m s r; rfl
  | succ f ih =>
    intro m s r
    have e : popf (f + 1) ((s &&& m) &&& r) = (s % 2) * (m % 2) * (r % 2) + popf f (((s / 2) &&& (m / 2)) &&& (r / 2)) := by
      rw [popf, and_mod, and_mod, Nat.and_div_two, Nat.and_div_two]
    rw [e]
    unfold ext
    split
    next h =>
      rw [h, Nat.mul_zero, Nat.zero_mul, Nat.zero_add, ← ih, popf_more 1 f _ (Nat.lt_of_le_of_lt Nat.and_le_left (ext_lt' f _ _))]
    next h =>
      rw [show m % 2 = 1 by omega, Nat.mul_one, popf, and_mod, Nat.and_div_two, ← ih,
        show (s % 2 + 2 * ext f (m / 2) (s / 2)) % 2 = s % 2 by omega, show (r % 2 + 2 * ext f (m / 2) (r / 2)) % 2 = r % 2 by omega,
        show (s % 2 + 2 * ext f (m / 2) (s / 2)) / 2 = ext f (m / 2) (s / 2) by omega, show (r % 2 + 2 * ext f (m / 2) (r / 2)) / 2 = ext f (m / 2) (r / 2) by omega]
theorem pop_ext_one (f m s : Nat) : popf f (ext f m s) = popf f (s &&& m) := by
  have := pop_ext f m s s
  rw [Nat.and_self] at this
  rw [this, Nat.and_comm s m, Nat.and_assoc, Nat.and_self]
theorem ext_dep (f : Nat) : ∀ m t, t < 2 ^ popf f m → ext f m (dep f m t) = t := by
  induction f with
  | zero => intro m t h; simp [popf] at h; subst h; rfl
  | succ f ih =>
    intro m t h
    unfold popf at h
    unfold ext dep
    split
    next c =>
      rw [show 2 * dep f (m / 2) t / 2 = dep f (m / 2) t by omega]
      exact ih _ _ (by rwa [c, Nat.zero_add] at h)
    next c =>
      rw [show m % 2 = 1 by omega, Nat.pow_add] at h
      rw [show (t % 2 + 2 * dep f (m / 2) (t / 2)) / 2 = dep f (m / 2) (t / 2) by omega, ih _ _ (by omega)]
      omega
theorem dep_sub (f : Nat) : ∀ m t, m < 2 ^ f → dep f m t &&& m = dep f m t := by
  induction f with
  | zero => intro m t h; simp [dep]
  | succ f ih =>
    intro m t h
    have hm : m / 2 < 2 ^ f := by rw [Nat.pow_succ] at h; omega
    have two : ∀ x y : Nat, x % 2 = y % 2 → x / 2 = y / 2 → x = y := fun x y _ _ => by omega
    unfold dep
    split
    next c =>
      apply two
      · rw [and_mod, c, Nat.mul_zero]; omega
      · rw [Nat.and_div_two, show 2 * dep f (m / 2) t / 2 = dep f (m / 2) t by omega, ih _ _ hm]
    next c =>
      apply two
      · rw [and_mod, show m % 2 = 1 by omega, Nat.mul_one]
      · rw [Nat.and_div_two, show (t % 2 + 2 * dep f (m / 2) (t / 2)) / 2 = dep f (m / 2) (t / 2) by omega, ih _ _ hm]
theorem bitAt_half (m i : Nat) : bitAt m (i + 1) = bitAt (m / 2) i := by
  unfold bitAt
  rw [Nat.pow_succ, Nat.mul_comm, ← Nat.div_div_eq_div_mul]
theorem popf_up (i : Nat) : ∀ m, popf (i + 1) m = popf i m + bitAt m i := by
  induction i with
  | zero => intro m; simp [popf, bitAt]
  | succ i ih =>
    intro m
    rw [popf, ih, bitAt_half, popf, Nat.add_assoc]
theorem ext_up (i : Nat) : ∀ m s, ext (i + 1) m s = ext i m s + bitAt m i * bitAt s i * 2 ^ popf i m := by
  induction i with
  | zero =>
    intro m s
    simp only [ext, popf, bitAt, Nat.pow_zero, Nat.div_one, Nat.mul_one, Nat.mul_zero, Nat.add_zero, Nat.zero_add]
    split
    next h => rw [h, Nat.zero_mul]
    next h => rw [show m % 2 = 1 by omega, Nat.one_mul]
  | succ i ih =>
    intro m s
    rw [ext, ih, bitAt_half, bitAt_half]
    rw [show ext (i + 1) m s = if m % 2 = 0 then ext i (m / 2) (s / 2) else s % 2 + 2 * ext i (m / 2) (s / 2) from rfl, popf]
    split
    next h => rw [h, Nat.zero_add]
    next h =>
      rw [show m % 2 = 1 by omega, Nat.pow_add, Nat.pow_one, Nat.mul_add, Nat.mul_left_comm _ 2]
      omega
theorem rst_ext (pts s : Nat) (i : Nat) (hi : i ≤ 12) : rst pts s i = (((ext i pts s : Nat) : Int), popf i pts) := by
  induction i with
  | zero => rfl
  | succ i ih =>
    have ih := ih (by omega)
    unfold rst
    rw [ih, popf_up, ext_up]
    have hb := bitAt_le pts i
    split
    next h => simp [h]
    next h =>
      rw [show bitAt pts i = 1 by omega, Nat.one_mul]
      have hc := popf_le i pts
      have hx := ext_lt i pts s
      have hs := bitAt_le s i
      have hp := pow_bd (p := popf i pts) (by omega)
      have hp' := pow_bd (p := i) (by omega)
      have hp1 : 2 ^ i ≤ 2048 := Nat.le_trans (Nat.pow_le_pow_right (by omega) (show i ≤ 11 by omega)) (by decide)
      have hp2 : 2 ^ popf i pts ≤ 2048 := Nat.le_trans (Nat.pow_le_pow_right (by omega) (show popf i pts ≤ 11 by omega)) (by decide)
      have hm : bitAt s i * 2 ^ popf i pts ≤ 2048 := Nat.le_trans (Nat.mul_le_mul hs hp2) (by omega)
      simp only
      rw [shl_bit (bitAt s i) (popf i pts) hs (by omega), or_nat _ _ (by omega) (by omega), Nat.or_comm, Nat.mul_comm (bitAt s i), ← Nat.two_pow_add_eq_or_of_lt hx]
      rw [Nat.add_comm]
/-! ### The least of many values -/
theorem minD_char {f : Nat → Int} (hf : ∀ r, 0 ≤ f r) (ok : Nat → Bool) (n : Nat) :
    ((∀ r, r < n → ok r = false) ∧ (minD f ok n).1 = -1) ∨ ((∃ r, r < n ∧ ok r = true ∧ (minD f ok n).1 = f r) ∧ ∀ r, r < n → ok r = true → (minD f ok n).1 ≤ f r) := by
  induction n with
  | zero => exact .inl ⟨fun r h => absurd h (by omega), rfl⟩
  | succ n ih =>
    rw [minD_succ]
    cases h : ok n with
    | false =>
      simp only [Bool.false_eq_true, if_false]
      rcases ih with ⟨a, b⟩ | ⟨⟨r, r0, r1, r2⟩, b⟩
      · refine .inl ⟨fun r hr => ?_, b⟩
        by_cases q : r = n
        · subst q; exact h
        · exact a r (by omega)
      · refine .inr ⟨⟨r, by omega, r1, r2⟩, fun r hr ho => ?_⟩
        by_cases q : r = n
        · subst q; rw [h] at ho; exact absurd ho (by simp)
        · exact b r (by omega) ho
    | true =>
      simp only [if_true]
      unfold stepD
      have hn := hf n
      rcases ih with ⟨a, b⟩ | ⟨⟨r, r0, r1, r2⟩, b⟩
      · rw [if_pos (by omega)]
        refine .inr ⟨⟨n, by omega, h, rfl⟩, fun r hr ho => ?_⟩
        by_cases q : r = n
        · subst q; exact Int.le_refl _
        · rw [a r (by omega)] at ho; exact absurd ho (by simp)
      · have := hf r
        rw [if_neg (by omega)]
        split
        next c =>
          refine .inr ⟨⟨n, by omega, h, rfl⟩, fun x hx ho => ?_⟩
          by_cases q : x = n
          · subst q; exact Int.le_refl _
          · have := b x (by omega) ho; simp only; omega
        next c =>
          refine .inr ⟨⟨r, by omega, r1, r2⟩, fun x hx ho => ?_⟩
          by_cases q : x = n
          · subst q; omega
          · exact b x (by omega) ho
theorem minD_eq {f g : Nat → Int} (hf : ∀ r, 0 ≤ f r) (hg : ∀ r, 0 ≤ g r) {ok ok' : Nat → Bool} {n m : Nat}
    (h1 : ∀ r, r < n → ok r = true → ∃ q, q < m ∧ ok' q = true ∧ g q = f r) (h2 : ∀ q, q < m → ok' q = true → ∃ r, r < n ∧ ok r = true ∧ f r = g q) : (minD f ok n).1 = (minD g ok' m).1 := by
  rcases minD_char hf ok n with ⟨a, b⟩ | ⟨⟨r, r0, r1, r2⟩, b⟩ <;> rcases minD_char hg ok' m with ⟨a', b'⟩ | ⟨⟨q, q0, q1, q2⟩, b'⟩
  · rw [b, b']
  · obtain ⟨r, r0, r1, _⟩ := h2 q q0 q1
    rw [a r r0] at r1; exact absurd r1 (by simp)
  · obtain ⟨q, q0, q1, _⟩ := h1 r r0 r1
    rw [a' q q0] at q1; exact absurd q1 (by simp)
  · obtain ⟨x, x0, x1, x2⟩ := h1 r r0 r1
    obtain ⟨y, y0, y1, y2⟩ := h2 q q0 q1
    have := b' x x0 x1
    have := b y y0 y1
    omega
end Go.Proofs.Ytplgfchiaapmfaa.Com

/- The hereditary discrepancy, on both sides. -/
namespace Go.Proofs.Ytplgfchiaapmfaa.Com
set_option linter.unusedSimpArgs false
set_option linter.unusedVariables false
set_option linter.unusedSectionVars false
open Go.RowKit Go.Proofs.YtplgfchiaapmfaaW.PrintWords Go.Proofs.YtplgfchiaapmfaaW.PrintMore Go.Proofs.Ytplgfchiaapmfaa.Q

def her (l : List Int) (pts : Nat) : Int := (minD (most l pts) (fun r => decide (r &&& pts = r)) (pts + 1)).1
def herTo (l : List Int) : Nat → Int
  | 0 => 0
  | n + 1 => mx (herTo l n) (her l n)
section
variable {l : List Int} (hl : l.length ≤ 12) (hs : ∀ x ∈ l, 0 ≤ x ∧ x.toNat < 4096)
include hl hs
theorem her_ext {p pts : Nat} (hp : p ≤ 12) (hl' : ∀ x ∈ l, x.toNat < 2 ^ p) (hpts : pts < 2 ^ p) :
    (minD (fun r => gr (imbs (rsts l pts p) r)) (fun _ => true) (2 ^ pop pts)).1 = her l pts := by
  have pp := pop_small hp hpts
  have key : ∀ r, r &&& pts = r → imbs (rsts l pts p) (ext p pts r) = l.map fun x => imb (x.toNat &&& pts) r := by
    intro r hr
    unfold imbs rsts
    rw [List.map_map]
    apply List.map_congr_left
    intro x hx
    have h1 : (x.toNat &&& pts) < 2 ^ p := Nat.lt_of_le_of_lt Nat.and_le_left (hl' x hx)
    have h2 : (x.toNat &&& pts) &&& r < 2 ^ p := Nat.lt_of_le_of_lt Nat.and_le_left h1
    have h3 := ext_lt' p pts x.toNat
    have h4 : ext p pts x.toNat &&& ext p pts r < 2 ^ p := Nat.lt_of_le_of_lt Nat.and_le_left h3
    show imb ((rst pts x.toNat p).1).toNat (ext p pts r) = _
    rw [rst_ext pts x.toNat p hp, Int.toNat_natCast]
    unfold imb
    rw [pop_small hp h1, pop_small hp h2, pop_small hp h3, pop_small hp h4, pop_ext, pop_ext_one]
  have nn : ∀ r, 0 ≤ gr (imbs (rsts l pts p) r) := fun r => (gr_bd 24 (by omega) _ (fun y hy => by
    obtain ⟨x, _, rfl⟩ := List.mem_map.1 hy
    have := imb_bd x.toNat r
    omega)).1
  unfold her
  refine minD_eq nn (fun r => (most_bd hl hs pts r).1) ?_ ?_
  · intro t ht _
    have hd := dep_sub p pts t hpts
    have he := ext_dep p pts t (by rw [← pp]; exact ht)
    refine ⟨dep p pts t, ?_, decide_eq_true hd, ?_⟩
    · have : dep p pts t ≤ pts := by rw [← hd]; exact Nat.and_le_right
      omega
    · unfold most
      rw [← key _ hd, he]
  · intro r hr ho
    have ho := of_decide_eq_true ho
    refine ⟨ext p pts r, by rw [pp]; exact ext_lt p pts r, rfl, ?_⟩
    unfold most
    rw [← key _ ho]
theorem specHer_ev {p : Nat} (hp : p ≤ 12) : Ev (fun k => spec_l10Hereditary.f k (p : Int) l) (herTo l (2 ^ p)) := by
  have pb := pow_bd hp
  unfold spec_l10Hereditary.f
  have gen := ev_count (2 ^ p) (fun m (s : Int) k => spec_l10Hereditary.l0 k s (m : Int) (p : Int) l) (herTo l (2 ^ p)) (fun m s => s = herTo l m) ?_ ?_ 0 0 (by omega) rfl
  · exact gen
  · rintro s rfl
    refine Ev.step (fun k => by rw [spec_l10Hereditary.l0]) ?_
    simp only [all_tells p l hp, Option.bind_some, if_neg (show ¬ ((2 ^ p : Nat) : Int) ≤ ((2 ^ p - 1 : Nat) : Int) by omega)]
    exact Ev.now _
  · rintro m s hm rfl
    refine ⟨_, rfl, fun ih => ?_⟩
    refine Ev.step (fun k => by rw [spec_l10Hereditary.l0]) ?_
    simp only [all_tells p l hp, Option.bind_some, if_pos (show (m : Int) ≤ ((2 ^ p - 1 : Nat) : Int) by omega)]
    refine Ev.bind (specDisc_ev hl hs m (by omega)) ?_
    simp only [max_mx, Option.bind_some, w_succ (m := m) (by omega)]
    exact ih
theorem implHer_ev {p : Nat} (hp : p ≤ 12) (hl' : ∀ x ∈ l, x.toNat < 2 ^ p) : Ev (fun k => impl_HereditaryOf.l0 k 0 ((2 ^ p : Nat) : Int) 0 (p : Int) l) (herTo l (2 ^ p), true) := by
  have pb := pow_bd hp
  have gen := ev_count (2 ^ p) (fun m (s : Int) k => impl_HereditaryOf.l0 k s ((2 ^ p : Nat) : Int) (m : Int) (p : Int) l) (herTo l (2 ^ p), true) (fun m s => s = herTo l m) ?_ ?_ 0 0 (by omega) rfl
  · exact gen
  · rintro s rfl
    refine Ev.step (fun k => by rw [impl_HereditaryOf.l0]) ?_
    simp only [if_neg (show ¬ ((2 ^ p : Nat) : Int) < ((2 ^ p : Nat) : Int) by omega)]
    exact Ev.now _
  · rintro m s hm rfl
    refine ⟨_, rfl, fun ih => ?_⟩
    rw [herTo, ← her_ext hl hs hp hl' hm] at ih
    refine Ev.step (fun k => by rw [impl_HereditaryOf.l0]) ?_
    simp only [if_pos (show (m : Int) < ((2 ^ p : Nat) : Int) by omega)]
    have hr : ∀ x ∈ rsts l m p, 0 ≤ x ∧ x.toNat < 4096 := by
      intro y hy
      obtain ⟨x, _, rfl⟩ := List.mem_map.1 hy
      have := ext_lt' p m x.toNat
      rw [rst_ext m x.toNat p hp, Int.toNat_natCast]
      omega
    refine Ev.bind (implRst_ev hl hs hp (by omega)) (Ev.bind (implDisc_ev (l := rsts l m p) (by simp [rsts]; omega) hr (pop m) (pop_le m)) ?_)
    simp only [w_succ (m := m) (by omega)]
    exact ih
end
theorem her_both (p : Int) (l : List Int) (hx : l.length ≤ 1048576) : ∃ r, Ev (fun k => spec_HereditaryOf.f k p l) r ∧ Ev (fun k => impl_HereditaryOf.f k p l) r ∧ Ev (fun k => spec_IsUnimodular.f k p l) (r.2 && decide (r.1 ≤ 1)) := by
  have jf : Ev (fun k => impl_HereditaryOf.j0 k true p l) (0, false) := Ev.step (fun k => by rw [impl_HereditaryOf.j0]) (by simp only [if_true]; exact Ev.now _)
  unfold spec_HereditaryOf.f impl_HereditaryOf.f spec_IsUnimodular.f
  cases h : validSys p l with
  | false =>
    refine ⟨(0, false), Ev.bind (specIs_ev p l hx) ?_, ev_bind' (implValidSys_tells p l) ?_, Ev.bind (specIs_ev p l hx) ?_⟩
    · simp only [h, Bool.false_eq_true, if_false]
      exact Ev.now _
    · simp only [h, Bool.false_eq_true, if_false]
      exact jf
    · simp only [h, Bool.false_eq_true, if_false, Bool.false_and]
      exact Ev.now _
  | true =>
    obtain ⟨⟨q, rfl, hq⟩, hl, hs⟩ := validSys_of h
    by_cases h8 : (q : Int) > 8
    · refine ⟨(0, false), Ev.bind (specIs_ev _ l hx) ?_, ev_bind' (implValidSys_tells _ l) ?_, Ev.bind (specIs_ev _ l hx) ?_⟩
      · simp only [h, if_true, if_pos h8]
        exact Ev.now _
      · simp only [h, if_true, decide_eq_true h8]
        exact jf
      · simp only [h, if_true, if_neg (show ¬ (q : Int) ≤ 8 by omega), Bool.false_and]
        exact Ev.now _
    · have hs' : ∀ x ∈ l, 0 ≤ x ∧ x.toNat < 4096 := fun x hx => ⟨(hs x hx).1, (full_lt hq (hs x hx)).2⟩
      refine ⟨(herTo l (2 ^ q), true), Ev.bind (specIs_ev _ l hx) ?_, ev_bind' (implValidSys_tells _ l) ?_, Ev.bind (specIs_ev _ l hx) ?_⟩
      · simp only [h, if_true, if_neg h8]
        exact Ev.bind (specHer_ev hl hs' hq) (Ev.now _)
      · simp only [h, if_true, decide_eq_false h8]
        refine Ev.step (fun k => by rw [impl_HereditaryOf.j0]) ?_
        simp only [Bool.false_eq_true, if_false, if_pos (show 0 ≤ (q : Int) by omega)]
        rw [shl_one q hq, show (2 : Int) ^ q = ((2 ^ q : Nat) : Int) by rw [Int.natCast_pow]; rfl]
        exact implHer_ev hl hs' hq (fun x hx => (full_lt hq (hs x hx)).1)
      · simp only [h, if_true, if_pos (show (q : Int) ≤ 8 by omega), Bool.true_and]
        exact Ev.bind (specHer_ev hl hs' hq) (Ev.now _)
end Go.Proofs.Ytplgfchiaapmfaa.Com

/- The pure statement of FnExactHereditaryOf: for all arguments the program's HereditaryOf returns what the reference's returns. -/
namespace Go.Proofs.Ytplgfchiaapmfaa.Pure
set_option linter.unusedSimpArgs false
set_option linter.unusedVariables false
open Go.RowKit Go.Proofs.Ytplgfchiaapmfaa.Q Go.Proofs.YtplgfchiaapmfaaW.PrintWords Go.Proofs.YtplgfchiaapmfaaW.PrintLast Go.Proofs.Ytplgfchiaapmfaa.Com

theorem FnExactHereditaryOf : laws_FnExactHereditaryOf.Pure := by
  intro p l _ hl
  apply ev_of
  unfold laws_FnExactHereditaryOf.f
  rcases szSystem_tells p l hl.1 with ⟨e, _⟩ | ⟨t, e, ht, hx⟩
  · simp only [e, Option.bind_some, if_pos (show (-1 : Int) < 0 by omega)]
    exact Ev.now _
  · simp only [e, Option.bind_some, if_neg (show ¬ t < 0 by omega)]
    obtain ⟨r, hs, hi, hu⟩ := her_both p l hx
    refine Ev.bind (toSystem_ev p l hx) (Ev.bind hs (Ev.bind (toSystem_ev p l hx) (Ev.bind hi ?_)))
    simp only [if_true, bne_self_eq_false]
    refine Ev.step (fun k => by rw [laws_FnExactHereditaryOf.j0]) ?_
    simp only [Bool.false_eq_true, if_false]
    refine Ev.bind (toSystem_ev p l hx) (Ev.bind (eqSystem_ev p l hx) ?_)
    simp only [if_true]
    exact Ev.now _
end Go.Proofs.Ytplgfchiaapmfaa.Pure
