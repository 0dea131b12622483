/- The statement FnSystemRounded, with all that its proof stands on: functions of the program as plain functions, the program's walks, and the plain law. Conditions: none beyond the statement's own. -/
import Derived.ArgAppend
import Derived.Below
import Derived.BigQuiet
import Derived.BigRegion
import Derived.Deep.AppendLies
import Derived.Deep.CutBlock
import Derived.Deep.DeepCutAuto
import Derived.Deep.Draws
import Derived.Deep.LoopGhost
import Derived.Deep.OwnRows
import Derived.Deep.QuietTactic
import Derived.Deep.RegionHeld3
import Derived.Ground.SlgnProg
import Derived.KernelRfl
import Derived.Laws.BitsLemmas
import Derived.Laws.BytesArg
import Derived.Laws.IdiomCopy
import Derived.Laws.MakeOwn
import Derived.Laws.OwnMore
import Derived.Laws.Rows
import Derived.Laws.Slices
import Derived.Lib.AppendStr
import Derived.Lib.ConvBytes
import Derived.Maps.AppendAt
import Derived.OrdersHeld
import Derived.OwnWalk
import Derived.ProofKit
import Derived.RowKit
import Derived.RowKit3
import Derived.Shelf.SlicesE.Clone
import Derived.Shelf.SlicesE.Compact
import Derived.Shelf.SlicesE.Equal
import Derived.Shelf.Strconv.Itoa0
import Derived.Sort.OwnSortedInts
import Derived.Tactics
import Derived.Test.YtdlnhddpgopghaaProg
import Derived.WalkKit
import Derived.WideLaws
import Derived.Test.YtdlnhddpgopghaaBFnSystemRounded1
import Derived.Test.YtdlnhddpgopghaaBFnSystemRounded2
import Derived.Test.YtdlnhddpgopghaaBFnSystemRounded3
import Derived.Test.YtdlnhddpgopghaaBFnSystemRounded4
import Derived.Test.YtdlnhddpgopghaaBFnSystemRounded5
import Derived.Test.YtdlnhddpgopghaaBFnSystemRounded6
import Derived.Test.YtdlnhddpgopghaaBFnSystemRounded7
import Derived.Test.YtdlnhddpgopghaaBFnSystemRounded8
set_option linter.unusedVariables false
set_option linter.unusedSimpArgs false
namespace Go.Proofs.Ytdlnhddpgopghaa.Com
open Go.RowKit Go.Proofs.YtdlnhddpgopghaaW.PrintWords
theorem w64 {x : Int} (h1 : -9223372036854775808 ≤ x) (h2 : x ≤ 9223372036854775807) : wrap64 x = x := by
 unfold wrap64
 omega
theorem ev_of {α : Type} {g : Nat → Option α} {r : α} (h : Ev g r) : ∃ k, g k = some r := h.rounds
theorem ev_bind' {α β : Type} {o : Option α} {f : Nat → α → Option β} {a : α} {r : β} (h : o = some a) (k : Ev (fun n => f n a) r) : Ev (fun n => o.bind (f n)) r := by
 subst h
 exact k
theorem tmod_nn {a b : Int} (h : 0 ≤ a) : Int.tmod a b = a % b := Int.tmod_eq_emod_of_nonneg h
end Go.Proofs.Ytdlnhddpgopghaa.Com
namespace Go.Proofs.Ytdlnhddpgopghaa.Com
set_option linter.unusedSimpArgs false
set_option linter.unusedVariables false
open Go.RowKit Go.Proofs.YtdlnhddpgopghaaW.PrintWords
theorem ev_fold {α σ ρ : Type} (xs : List α) (g : Nat → σ → Nat → Option ρ) (F : List α → σ → ρ) (Inv : Nat → σ → Prop)
  (h0 : ∀ s, Inv xs.length s → Ev (g xs.length s) (F [] s))
  (hs : ∀ m (h : m < xs.length) s, Inv m s → (∀ s', Inv (m + 1) s' → Ev (g (m + 1) s') (F (xs.drop (m + 1)) s')) → Ev (g m s) (F (xs[m] :: xs.drop (m + 1)) s)) :
  ∀ m s, m ≤ xs.length → Inv m s → Ev (g m s) (F (xs.drop m) s) := by
 have key : ∀ d m s, m + d = xs.length → Inv m s → Ev (g m s) (F (xs.drop m) s) := by
  intro d
  induction d with
  | zero =>
   intro m s e hi
   obtain rfl : m = xs.length := by omega
   rw [List.drop_length]
   exact h0 s hi
  | succ d ih =>
   intro m s e hi
   have h : m < xs.length := by omega
   rw [List.drop_eq_getElem_cons h]
   exact hs m h s hi (fun s' hi' => ih (m + 1) s' (by omega) hi')
 intro m s hm hi
 exact key (xs.length - m) m s (by omega) hi
theorem ev_list {α ρ : Type} (xs : List α) (g : Nat → Nat → Option ρ) (F : List α → ρ) (h0 : Ev (g xs.length) (F []))
  (hs : ∀ m (h : m < xs.length), Ev (g (m + 1)) (F (xs.drop (m + 1))) → Ev (g m) (F (xs[m] :: xs.drop (m + 1)))) (m : Nat) (hm : m ≤ xs.length) : Ev (g m) (F (xs.drop m)) :=
 ev_fold xs (fun m (_ : Unit) => g m) (fun l _ => F l) (fun _ _ => True) (fun _ _ => h0) (fun m h _ _ ih => hs m h (ih () trivial)) m () hm trivial
theorem ev_count {σ ρ : Type} (n : Nat) (g : Nat → σ → Nat → Option ρ) (r : ρ) (Inv : Nat → σ → Prop) (h0 : ∀ s, Inv n s → Ev (g n s) r)
  (hs : ∀ m s, m < n → Inv m s → ∃ s', Inv (m + 1) s' ∧ (Ev (g (m + 1) s') r → Ev (g m s) r)) : ∀ m s, m ≤ n → Inv m s → Ev (g m s) r := by
 have key : ∀ d m s, m + d = n → Inv m s → Ev (g m s) r := by
  intro d
  induction d with
  | zero =>
   intro m s e hi
   obtain rfl : m = n := by omega
   exact h0 s hi
  | succ d ih =>
   intro m s e hi
   obtain ⟨s', hi', k⟩ := hs m s (by omega) hi
   exact k (ih (m + 1) s' (by omega) hi')
 intro m s hm hi
 exact key (n - m) m s (by omega) hi
theorem rd_nat {xs : List Int} {m : Nat} (h : m < xs.length) : rd xs (m : Int) = xs[m] := by
 unfold rd
 rw [Int.toNat_natCast, List.getD_eq_getElem?_getD, List.getElem?_eq_getElem h]
 rfl
theorem w_succ {m : Nat} (h : m < 9223372036854775807) : wrap64 ((m : Int) + 1) = ((m + 1 : Nat) : Int) := by
 rw [w64 (by omega) (by omega)]
 omega
theorem w_pred {m : Nat} (h : 0 < m) (h' : m < 9223372036854775807) : wrap64 ((m : Int) - 1) = ((m - 1 : Nat) : Int) := by
 rw [w64 (by omega) (by omega)]
 omega
end Go.Proofs.Ytdlnhddpgopghaa.Com
namespace Go.Proofs.Ytdlnhddpgopghaa.Com
set_option linter.unusedSimpArgs false
set_option linter.unusedVariables false
open Go.RowKit Go.Proofs.YtdlnhddpgopghaaW.PrintWords Go.Proofs.Ytdlnhddpgopghaa.Q
theorem within_tells (x a b : Int) : impl_within.f x a b = some (decide (a ≤ x ∧ x ≤ b)) := by
 unfold impl_within.f
 split <;> simp [*]
theorem in_tells (x a b : Int) : spec_l00In.f x a b = some (decide (a ≤ x ∧ x ≤ b)) := by
 unfold spec_l00In.f
 by_cases h : x ≥ a
 ·have h' : a ≤ x := h
  simp [h, h']
 ·have h' : ¬ a ≤ x := h
  simp [h, h']
end Go.Proofs.Ytdlnhddpgopghaa.Com
namespace Go.Proofs.Ytdlnhddpgopghaa.Com
set_option linter.unusedSimpArgs false
set_option linter.unusedVariables false
open Go.RowKit Go.Proofs.YtdlnhddpgopghaaW.PrintWords Go.Proofs.YtdlnhddpgopghaaW.PrintMore
theorem wraps_i64 (n : Int) (h₀ : 0 ≤ n) (h₁ : n < 2 ^ 63) : IntKind.i64.wrap n = n := by rw [IntKind.wrap_i64]; omega
theorem and_nat (a b : Nat) (ha : a < 4096) (hb : b < 4096) : Go.bits .and .i64 (a : Int) (b : Int) = ((a &&& b : Nat) : Int) :=
 (Go.bits_nat .i64 63 (by decide) wraps_i64 a b (by omega) (by omega)).1
theorem or_nat (a b : Nat) (ha : a < 4096) (hb : b < 4096) : Go.bits .or .i64 (a : Int) (b : Int) = ((a ||| b : Nat) : Int) :=
 (Go.bits_nat .i64 63 (by decide) wraps_i64 a b (by omega) (by omega)).2
theorem uw (n : Int) (h : 0 ≤ n ∧ n ≤ 4096) : IntKind.u64.wrap n = n := by
 simp [IntKind.wrap, IntKind.bits, IntKind.signed]
 omega
theorem shl_one (p : Nat) (h : p ≤ 12) : shl .i64 1 (p : Int) = 2 ^ p := by
 have : ∀ q : Fin 13, shl .i64 1 (q.val : Int) = 2 ^ q.val := by decide +kernel
 exact this ⟨p, by omega⟩
theorem shl_bit (b p : Nat) (hb : b ≤ 1) (h : p ≤ 12) : shl .i64 (b : Int) (p : Int) = ((b * 2 ^ p : Nat) : Int) := by
 have : ∀ (c : Fin 2) (q : Fin 13), shl .i64 (c.val : Int) (q.val : Int) = ((c.val * 2 ^ q.val : Nat) : Int) := by decide +kernel
 exact this ⟨b, by omega⟩ ⟨p, by omega⟩
theorem pow_bd {p : Nat} (h : p ≤ 12) : 1 ≤ 2 ^ p ∧ 2 ^ p ≤ 4096 := by
 have : ∀ q : Fin 13, 1 ≤ 2 ^ q.val ∧ 2 ^ q.val ≤ 4096 := by decide
 exact this ⟨p, by omega⟩
def bitAt (s p : Nat) : Nat := s / 2 ^ p % 2
theorem bitAt_le (s p : Nat) : bitAt s p ≤ 1 := by unfold bitAt; omega
theorem bit_tells (s p : Nat) (hs : s < 4096) (hp : p ≤ 12) : Go.bits .and .i64 (shr .i64 (s : Int) (p : Int)) 1 = ((bitAt s p : Nat) : Int) := by
 have e : shr .i64 (s : Int) (p : Int) = ((s / 2 ^ p : Nat) : Int) := by
  unfold shr
  rw [Int.toNat_natCast, Nat.min_eq_left (by have : IntKind.i64.bits = 64 := rfl; omega)]
  exact_mod_cast rfl
 have hlt : s / 2 ^ p < 4096 := Nat.lt_of_le_of_lt (Nat.div_le_self _ _) hs
 rw [e]
 have := and_nat (s / 2 ^ p) 1 hlt (by omega)
 rw [Nat.and_one_is_mod] at this
 exact this
def popf : Nat → Nat → Nat
 | 0, _ => 0
 | f + 1, n => n % 2 + popf f (n / 2)
def pop (n : Nat) : Nat := popf 12 n
theorem popf_le (f : Nat) : ∀ n, popf f n ≤ f := by
 induction f with
 | zero => intro n; simp [popf]
 | succ f ih => intro n; unfold popf; have := ih (n / 2); omega
theorem pop_le (n : Nat) : pop n ≤ 12 := popf_le 12 n
end Go.Proofs.Ytdlnhddpgopghaa.Com
namespace Go.Proofs.Ytdlnhddpgopghaa.Com
set_option linter.unusedSimpArgs false
set_option linter.unusedVariables false
open Go.RowKit Go.Proofs.YtdlnhddpgopghaaW.PrintWords Go.Proofs.YtdlnhddpgopghaaW.PrintMore Go.Proofs.Ytdlnhddpgopghaa.Q
def full (p : Int) : Int := wrap64 (shl .i64 1 p - 1)
theorem full_nat (p : Nat) (h : p ≤ 12) : full (p : Int) = ((2 ^ p - 1 : Nat) : Int) := by
 have : ∀ q : Fin 13, full (q.val : Int) = ((2 ^ q.val - 1 : Nat) : Int) := by decide +kernel
 exact this ⟨p, by omega⟩
def validSys (p : Int) (l : List Int) : Bool := decide (0 ≤ p ∧ p ≤ 12) && decide ((l.length : Int) ≤ 12) && l.all fun x => decide (0 ≤ x ∧ x ≤ full p)
theorem validSys_of {p : Int} {l : List Int} (h : validSys p l = true) : (∃ q : Nat, p = (q : Int) ∧ q ≤ 12) ∧ l.length ≤ 12 ∧ ∀ x ∈ l, 0 ≤ x ∧ x ≤ full p := by
 unfold validSys at h
 simp only [Bool.and_eq_true, decide_eq_true_eq, List.all_eq_true] at h
 exact ⟨⟨p.toNat, by omega, by omega⟩, by omega, h.2⟩
theorem set_tells (p x : Int) (hp : 0 ≤ p ∧ p ≤ 12) : spec_l10Set.f p x = some (decide (0 ≤ x ∧ x ≤ full p)) := by
 unfold spec_l10Set.f full
 rw [uw p (by omega), if_pos hp.1, in_tells]
 rfl
theorem specIs_ev (p : Int) (l : List Int) (hx : l.length ≤ 1048576) : Ev (fun k => spec_l10Is.f k p l) (validSys p l) := by
 unfold spec_l10Is.f validSys
 simp only [in_tells, Option.bind_some, decide_eq_true_eq]
 have jf : Ev (fun k => spec_l10Is.j0 k true p l) false := Ev.step (fun k => by rw [spec_l10Is.j0]) (by simp only [if_true]; exact Ev.now _)
 by_cases h1 : 0 ≤ p ∧ p ≤ 12
 ·simp only [if_pos h1, decide_eq_true h1, Bool.true_and]
  by_cases h2 : (l.length : Int) ≤ 12
  ·rw [decide_eq_false (show ¬ (l.length : Int) > 12 by omega), decide_eq_true h2, Bool.true_and]
   refine Ev.step (fun k => by rw [spec_l10Is.j0]) ?_
   simp only [Bool.false_eq_true, if_false]
   have gen := ev_list l (fun m k => spec_l10Is.l0 k (m : Int) p l) (fun r => r.all fun x => decide (0 ≤ x ∧ x ≤ full p)) ?_ ?_ 0 (by omega)
   ·exact gen
   ·refine Ev.step (fun k => by rw [spec_l10Is.l0]) ?_
    simp only [if_neg (show ¬ (l.length : Int) < (l.length : Int) by omega)]
    exact Ev.now _
   ·intro m hm ih
    refine Ev.step (fun k => by rw [spec_l10Is.l0]) ?_
    simp only [if_pos (show (m : Int) < (l.length : Int) by omega), if_pos (show 0 ≤ (m : Int) by omega), rd_nat hm, set_tells p _ h1, Option.bind_some, w_succ (m := m) (by omega), decide_eq_true_eq]
    rw [List.all_cons]
    by_cases c : 0 ≤ l[m] ∧ l[m] ≤ full p
    ·simp only [if_pos c, decide_eq_true c, Bool.true_and]
     exact ih
    ·simp only [if_neg c, decide_eq_false c, Bool.false_and]
     exact Ev.now _
  ·rw [decide_eq_true (show (l.length : Int) > 12 by omega), decide_eq_false h2, Bool.false_and]
   exact jf
 ·simp only [if_neg h1, decide_eq_false h1, Bool.false_and]
  exact jf
theorem implValidSys_tells (p : Int) (l : List Int) : impl_ValidSystem.f p l = some (validSys p l) := by
 unfold impl_ValidSystem.f validSys impl_areWithin.f full
 rw [within_tells]
 simp only [Option.bind_some, decide_eq_true_eq]
 by_cases h1 : 0 ≤ p ∧ p ≤ 12
 ·rw [if_pos h1, decide_eq_true h1, if_pos h1.1]
  by_cases h2 : (l.length : Int) ≤ 12
  ·rw [if_pos h2, decide_eq_true h2]
   rfl
  ·rw [if_neg h2, decide_eq_false h2]
   rfl
 ·rw [if_neg h1, decide_eq_false h1]
  rfl
end Go.Proofs.Ytdlnhddpgopghaa.Com
namespace Go.Proofs.Ytdlnhddpgopghaa.Com
set_option linter.unusedSimpArgs false
set_option linter.unusedVariables false
open Go.RowKit Go.Proofs.YtdlnhddpgopghaaW.PrintWords Go.Proofs.YtdlnhddpgopghaaW.PrintMore Go.Proofs.Ytdlnhddpgopghaa.Q
theorem many_tells (n : Nat) (h : n < 4096) : impl_many.f (n : Int) = some ((pop n : Nat) : Int) := by
 have : ∀ a b : Fin 64, impl_many.f ((64 * a.val + b.val : Nat) : Int) = some ((pop (64 * a.val + b.val) : Nat) : Int) := by decide +kernel
 have q := this ⟨n / 64, by omega⟩ ⟨n % 64, by omega⟩
 simp only at q
 rwa [show 64 * (n / 64) + n % 64 = n by omega] at q
end Go.Proofs.Ytdlnhddpgopghaa.Com
namespace Go.Proofs.Ytdlnhddpgopghaa.Com
set_option linter.unusedSimpArgs false
set_option linter.unusedVariables false
set_option linter.unusedSectionVars false
open Go.RowKit Go.Proofs.YtdlnhddpgopghaaW.PrintWords Go.Proofs.YtdlnhddpgopghaaW.PrintMore Go.Proofs.Ytdlnhddpgopghaa.Q
def imb (s r : Nat) : Int := 2 * (pop (s &&& r) : Int) - (pop s : Int)
theorem imb_bd (s r : Nat) : -12 ≤ imb s r ∧ imb s r ≤ 24 := by
 unfold imb
 have := pop_le s
 have := pop_le (s &&& r)
 omega
theorem and_lt {s : Nat} (r : Nat) (h : s < 4096) : s &&& r < 4096 := Nat.lt_of_le_of_lt Nat.and_le_left h
def imbs (l : List Int) (r : Nat) : List Int := l.map fun x => imb x.toNat r
section
variable {l : List Int} (hl : l.length ≤ 12) (hs : ∀ x ∈ l, 0 ≤ x ∧ x.toNat < 4096)
include hl hs
theorem implImbs_ev (p : Int) (r : Nat) (hr : r < 4096) : Ev (fun k => impl_System_imbalances.f k p l (r : Int)) (imbs l r) := by
 unfold impl_System_imbalances.f
 have gen := ev_fold l (fun m s k => impl_System_imbalances.l0 k (r : Int) s l (l.length : Int) (m : Int)) (fun d s => s ++ imbs d r) (fun m s => s.length = m) ?_ ?_ 0 [] (by omega) rfl
 ·exact gen
 ·intro s hm
  refine Ev.step (fun k => by rw [impl_System_imbalances.l0]) ?_
  simp only [if_neg (show ¬ (l.length : Int) < (l.length : Int) by omega), imbs, List.map_nil, List.append_nil]
  exact Ev.now _
 ·intro m hm s hlen ih
  obtain ⟨x0, x1⟩ := hs l[m] (List.getElem_mem hm)
  refine Ev.step (fun k => by rw [impl_System_imbalances.l0]) ?_
  simp only [if_pos (show (m : Int) < (l.length : Int) by omega), if_pos (show 0 ≤ (m : Int) by omega), rd_nat hm, w_succ (m := m) (by omega), if_pos (show s.length < 17592186044416 by omega)]
  obtain ⟨n, hn⟩ : ∃ n : Nat, l[m] = (n : Int) := ⟨l[m].toNat, by omega⟩
  have hn' : n < 4096 := by rw [hn, Int.toNat_natCast] at x1; exact x1
  have := pop_le n
  have := pop_le (n &&& r)
  rw [hn, and_nat n r hn' hr, many_tells _ (and_lt r hn'), many_tells n hn']
  simp only [Option.bind_some]
  rw [w64 (x := 2 * ((pop (n &&& r) : Nat) : Int)) (by omega) (by omega), w64 (by omega) (by omega)]
  have e : s ++ imbs ((n : Int) :: l.drop (m + 1)) r = (s ++ [2 * ((pop (n &&& r) : Nat) : Int) - ((pop n : Nat) : Int)]) ++ imbs (l.drop (m + 1)) r := by
   simp [imbs, imb]
  rw [e]
  exact ih _ (by simp [hlen])
end
end Go.Proofs.Ytdlnhddpgopghaa.Com
namespace Go.Proofs.Ytdlnhddpgopghaa.Com
set_option linter.unusedSimpArgs false
set_option linter.unusedVariables false
set_option linter.unusedSectionVars false
open Go.RowKit Go.Proofs.YtdlnhddpgopghaaW.PrintWords Go.Proofs.YtdlnhddpgopghaaW.PrintMore Go.Proofs.Ytdlnhddpgopghaa.Q
def gr (l : List Int) : Int := l.foldl (fun s x => mx (mx s x) (-x)) 0
theorem gr_bd (B : Int) (hB : 0 ≤ B) (l : List Int) (h : ∀ x ∈ l, -B ≤ x ∧ x ≤ B) : 0 ≤ gr l ∧ gr l ≤ B := by
 have key : ∀ (l : List Int) (s : Int), 0 ≤ s ∧ s ≤ B → (∀ x ∈ l, -B ≤ x ∧ x ≤ B) → 0 ≤ l.foldl (fun s x => mx (mx s x) (-x)) s ∧ l.foldl (fun s x => mx (mx s x) (-x)) s ≤ B := by
  intro l
  induction l with
  | nil => intro s hs _; exact hs
  | cons x r ih =>
   intro s hs h
   have := h x List.mem_cons_self
   rw [List.foldl_cons]
   refine ih _ ?_ (fun y hy => h y (List.mem_cons_of_mem _ hy))
   unfold mx
   split <;> split <;> omega
 exact key l 0 (by omega) h
theorem greatest_ev (l : List Int) (hx : l.length ≤ 1048576) (hb : ∀ x ∈ l, -9223372036854775807 ≤ x ∧ x ≤ 9223372036854775807) : Ev (fun k => impl_greatest.f k l) (gr l) := by
 unfold impl_greatest.f
 have gen := ev_fold l (fun m s k => impl_greatest.l0 k s l (l.length : Int) (m : Int)) (fun r s => r.foldl (fun s x => mx (mx s x) (-x)) s) (fun m s => True) ?_ ?_ 0 0 (by omega) trivial
 ·simpa [gr] using gen
 ·intro s hs
  refine Ev.step (fun k => by rw [impl_greatest.l0]) ?_
  simp only [if_neg (show ¬ (l.length : Int) < (l.length : Int) by omega)]
  exact Ev.now _
 ·intro m h s hs ih
  have b := hb l[m] (List.getElem_mem h)
  refine Ev.step (fun k => by rw [impl_greatest.l0]) ?_
  simp only [if_pos (show (m : Int) < (l.length : Int) by omega), if_pos (show 0 ≤ (m : Int) by omega), rd_nat h, w_succ (m := m) (by omega)]
  rw [w64 (x := -l[m]) (by omega) (by omega), List.foldl_cons]
  exact ih _ trivial
end Go.Proofs.Ytdlnhddpgopghaa.Com
namespace Go.Proofs.Ytdlnhddpgopghaa.Com
set_option linter.unusedSimpArgs false
set_option linter.unusedVariables false
set_option linter.unusedSectionVars false
open Go.RowKit Go.Proofs.YtdlnhddpgopghaaW.PrintWords Go.Proofs.YtdlnhddpgopghaaW.PrintMore Go.Proofs.Ytdlnhddpgopghaa.Q
def stepD (f : Nat → Int) (s : Int × Int) (r : Nat) : Int × Int := if s.1 < 0 then (f r, (r : Int)) else if f r < s.1 then (f r, (r : Int)) else s
def minD (f : Nat → Int) (ok : Nat → Bool) (n : Nat) : Int × Int := ((List.range n).filter ok).foldl (stepD f) (-1, 0)
theorem minD_succ (f : Nat → Int) (ok : Nat → Bool) (n : Nat) : minD f ok (n + 1) = if ok n then stepD f (minD f ok n) n else minD f ok n := by
 unfold minD
 rw [List.range_succ, List.filter_append, List.foldl_append]
 cases h : ok n <;> simp [h]
def most (l : List Int) (pts r : Nat) : Int := gr (l.map fun x => imb (x.toNat &&& pts) r)
section
variable {l : List Int} (hl : l.length ≤ 12) (hs : ∀ x ∈ l, 0 ≤ x ∧ x.toNat < 4096)
include hl hs
theorem most_bd (pts r : Nat) : 0 ≤ most l pts r ∧ most l pts r ≤ 24 :=
 gr_bd 24 (by omega) _ (fun y hy => by
  obtain ⟨x, _, rfl⟩ := List.mem_map.1 hy
  have := imb_bd (x.toNat &&& pts) r
  omega)
theorem implDisc_ev (p : Nat) (hp : p ≤ 12) : Ev (fun k => impl_System_discrepancy.f k (p : Int) l) (minD (fun r => gr (imbs l r)) (fun _ => true) (2 ^ p)) := by
 have hpw := pow_bd hp
 unfold impl_System_discrepancy.f
 simp only [if_pos (show 0 ≤ (p : Int) by omega), shl_one p hp]
 rw [show (2 : Int) ^ p = ((2 ^ p : Nat) : Int) by simp]
 have gen := ev_count (2 ^ p) (fun m (s : Int × Int) k => impl_System_discrepancy.l0 k s.2 s.1 ((2 ^ p : Nat) : Int) (m : Int) (p : Int) l) (minD (fun r => gr (imbs l r)) (fun _ => true) (2 ^ p)) (fun m s => s = minD (fun r => gr (imbs l r)) (fun _ => true) m) ?_ ?_ 0 (-1, 0) (by omega) rfl
 ·exact gen
 ·rintro s rfl
  refine Ev.step (fun k => by rw [impl_System_discrepancy.l0]) ?_
  simp only [if_neg (show ¬ ((2 ^ p : Nat) : Int) < ((2 ^ p : Nat) : Int) by omega)]
  exact Ev.now _
 ·rintro m s hm rfl
  refine ⟨_, rfl, fun ih => ?_⟩
  refine Ev.step (fun k => by rw [impl_System_discrepancy.l0]) ?_
  simp only [if_pos (show (m : Int) < ((2 ^ p : Nat) : Int) by omega), w_succ (m := m) (by omega)]
  rw [minD_succ] at ih
  simp only [if_true, stepD] at ih
  refine Ev.bind (implImbs_ev hl hs _ m (by omega)) (Ev.bind (greatest_ev _ (by simp [imbs]; omega) (fun y hy => by
   obtain ⟨x, _, rfl⟩ := List.mem_map.1 hy
   have := imb_bd x.toNat m
   omega)) ?_)
  generalize minD (fun r => gr (imbs l r)) (fun _ => true) m = s at ih ⊢
  by_cases c1 : s.1 < 0
  ·simp only [if_pos c1] at ih ⊢
   exact ih
  ·simp only [if_neg c1] at ih ⊢
   by_cases c2 : gr (imbs l m) < s.1
   ·simp only [if_pos c2] at ih ⊢
    exact ih
   ·simp only [if_neg c2] at ih ⊢
    exact ih
end
end Go.Proofs.Ytdlnhddpgopghaa.Com
namespace Go.Proofs.Ytdlnhddpgopghaa.Com
set_option linter.unusedSimpArgs false
set_option linter.unusedVariables false
set_option linter.unusedSectionVars false
open Go.RowKit Go.Proofs.YtdlnhddpgopghaaW.PrintWords Go.Proofs.YtdlnhddpgopghaaW.PrintMore Go.Proofs.Ytdlnhddpgopghaa.Q
theorem popf_zero (f : Nat) : popf f 0 = 0 := by
 induction f with
 | zero => rfl
 | succ f ih => unfold popf; simp [ih]
theorem popf_more (d : Nat) : ∀ f n, n < 2 ^ f → popf (f + d) n = popf f n := by
 intro f
 induction f with
 | zero =>
  intro n h
  have : n = 0 := by simpa using h
  subst this
  rw [popf_zero, popf_zero]
 | succ f ih =>
  intro n h
  rw [show f + 1 + d = (f + d) + 1 by omega, popf, popf, ih (n / 2) (by rw [Nat.pow_succ] at h; omega)]
theorem pop_small {p n : Nat} (hp : p ≤ 12) (h : n < 2 ^ p) : pop n = popf p n := by
 have := popf_more (12 - p) p n h
 rw [show p + (12 - p) = 12 by omega] at this
 exact this
end Go.Proofs.Ytdlnhddpgopghaa.Com
namespace Go.Proofs.Ytdlnhddpgopghaa.Com
set_option linter.unusedSimpArgs false
set_option linter.unusedVariables false
set_option linter.unusedSectionVars false
open Go.RowKit Go.Proofs.YtdlnhddpgopghaaW.PrintWords Go.Proofs.YtdlnhddpgopghaaW.PrintMore Go.Proofs.Ytdlnhddpgopghaa.Q
def rst (pts s : Nat) : Nat → Int × Nat
 | 0 => (0, 0)
 | i + 1 => if bitAt pts i = 0 then rst pts s i else (Go.bits .or .i64 (rst pts s i).1 (shl .i64 ((bitAt s i : Nat) : Int) (((rst pts s i).2 : Nat) : Int)), (rst pts s i).2 + 1)
theorem rst_le (pts s i : Nat) : (rst pts s i).2 ≤ i := by
 induction i with
 | zero => exact Nat.le_refl _
 | succ i ih =>
  unfold rst
  split
  ·omega
  ·show (rst pts s i).2 + 1 ≤ i + 1
   omega
def rsts (l : List Int) (pts p : Nat) : List Int := l.map fun x => (rst pts x.toNat p).1
section
variable {l : List Int} (hl : l.length ≤ 12) (hs : ∀ x ∈ l, 0 ≤ x ∧ x.toNat < 4096) {pts p : Nat} (hp : p ≤ 12) (hpts : pts < 4096)
include hl hs hp hpts
theorem implRst_ev : Ev (fun k => impl_System_restricted.f k (p : Int) l (pts : Int)) (((pop pts : Nat) : Int), rsts l pts p) := by
 unfold impl_System_restricted.f
 refine ev_bind' (many_tells pts hpts) ?_
 generalize ((pop pts : Nat) : Int) = q
 have gen := ev_fold l (fun m s k => impl_System_restricted.l0 k (pts : Int) l (l.length : Int) (m : Int) (p : Int) l q s) (fun d s => (q, s ++ rsts d pts p)) (fun m s => s.length = m) ?_ ?_ 0 [] (by omega) rfl
 ·exact gen
 ·intro s hm
  refine Ev.step (fun k => by rw [impl_System_restricted.l0]) ?_
  simp only [if_neg (show ¬ (l.length : Int) < (l.length : Int) by omega), rsts, List.map_nil, List.append_nil]
  exact Ev.now _
 ·intro m hm s hlen ih
  obtain ⟨x0, x1⟩ := hs l[m] (List.getElem_mem hm)
  refine Ev.step (fun k => by rw [impl_System_restricted.l0]) ?_
  simp only [if_pos (show (m : Int) < (l.length : Int) by omega), if_pos (show 0 ≤ (m : Int) by omega), rd_nat hm]
  obtain ⟨n, hn⟩ : ∃ n : Nat, l[m] = (n : Int) := ⟨l[m].toNat, by omega⟩
  have hn' : n < 4096 := by rw [hn, Int.toNat_natCast] at x1; exact x1
  rw [hn]
  have gen := ev_count p (fun i (st : Int × Nat) k => impl_System_restricted.l1 k (pts : Int) (n : Int) st.1 (st.2 : Int) l (l.length : Int) (m : Int) (p : Int) (i : Int) (p : Int) l q s) (q, s ++ rsts ((n : Int) :: l.drop (m + 1)) pts p) (fun i st => st = rst pts n i) ?_ ?_ 0 (0, 0) (by omega) rfl
  ·exact gen
  ·rintro st rfl
   refine Ev.step (fun k => by rw [impl_System_restricted.l1]) ?_
   simp only [if_neg (show ¬ (p : Int) < (p : Int) by omega), if_pos (show s.length < 17592186044416 by omega), w_succ (m := m) (by omega)]
   have e : s ++ rsts ((n : Int) :: l.drop (m + 1)) pts p = (s ++ [(rst pts n p).1]) ++ rsts (l.drop (m + 1)) pts p := by
    simp [rsts]
   rw [e]
   exact ih _ (by simp [hlen])
  ·rintro i st hi rfl
   refine ⟨_, rfl, fun ih => ?_⟩
   have hle := rst_le pts n i
   refine Ev.step (fun k => by rw [impl_System_restricted.l1]) ?_
   simp only [if_pos (show (i : Int) < (p : Int) by omega), if_pos (show 0 ≤ (i : Int) by omega), bit_tells pts i hpts (by omega), bit_tells n i hn' (by omega), w_succ (m := i) (by omega), if_pos (show 0 ≤ (((rst pts n i).2 : Nat) : Int) by omega), w_succ (m := (rst pts n i).2) (by omega)]
   have hb := bitAt_le pts i
   rw [rst] at ih
   by_cases c : bitAt pts i = 0
   ·simp only [if_pos c] at ih
    simp only [if_neg (show ¬ ((bitAt pts i : Nat) : Int) = 1 by omega)]
    exact ih
   ·simp only [if_neg c] at ih
    simp only [if_pos (show ((bitAt pts i : Nat) : Int) = 1 by omega)]
    exact ih
end
end Go.Proofs.Ytdlnhddpgopghaa.Com
namespace Go.Proofs.Ytdlnhddpgopghaa.Com
set_option linter.unusedSimpArgs false
set_option linter.unusedVariables false
set_option linter.unusedSectionVars false
open Go.RowKit Go.Proofs.YtdlnhddpgopghaaW.PrintWords Go.Proofs.YtdlnhddpgopghaaW.PrintMore Go.Proofs.Ytdlnhddpgopghaa.Q
def ext : Nat → Nat → Nat → Nat
 | 0, _, _ => 0
 | f + 1, m, s => if m % 2 = 0 then ext f (m / 2) (s / 2) else s % 2 + 2 * ext f (m / 2) (s / 2)
def dep : Nat → Nat → Nat → Nat
 | 0, _, _ => 0
 | f + 1, m, t => if m % 2 = 0 then 2 * dep f (m / 2) t else t % 2 + 2 * dep f (m / 2) (t / 2)
theorem ext_lt (f : Nat) : ∀ m s, ext f m s < 2 ^ popf f m := by
 induction f with
 | zero => intro m s; simp [ext, popf]
 | succ f ih =>
  intro m s
  unfold ext popf
  have := ih (m / 2) (s / 2)
  split
  next h => rw [h, Nat.zero_add]; exact this
  next h =>
   rw [show m % 2 = 1 by omega, Nat.pow_add]
   omega
theorem ext_lt' (f m s : Nat) : ext f m s < 2 ^ f := Nat.lt_of_lt_of_le (ext_lt f m s) (Nat.pow_le_pow_right (by omega) (popf_le f m))
theorem and_mod (a b : Nat) : (a &&& b) % 2 = (a % 2) * (b % 2) := by
 have := Nat.and_mod_two_pow (a := a) (b := b) (n := 1)
 rw [show (2 : Nat) ^ 1 = 2 from rfl] at this
 rw [this]
 rcases (show a % 2 = 0 ∨ a % 2 = 1 by omega) with h | h <;> rcases (show b % 2 = 0 ∨ b % 2 = 1 by omega) with h' | h' <;> rw [h, h'] <;> rfl
theorem pop_ext (f : Nat) : ∀ m s r, popf f (ext f m s &&& ext f m r) = popf f ((s &&& m) &&& r) := by
 induction f with
 | zero => intro m s r; rfl
 | succ f ih =>
  intro m s r
  have e : popf (f + 1) ((s &&& m) &&& r) = (s % 2) * (m % 2) * (r % 2) + popf f (((s / 2) &&& (m / 2)) &&& (r / 2)) := by
   rw [popf, and_mod, and_mod, Nat.and_div_two, Nat.and_div_two]
  rw [e]
  unfold ext
  split
  next h =>
   rw [h, Nat.mul_zero, Nat.zero_mul, Nat.zero_add, ← ih, popf_more 1 f _ (Nat.lt_of_le_of_lt Nat.and_le_left (ext_lt' f _ _))]
  next h =>
   rw [show m % 2 = 1 by omega, Nat.mul_one, popf, and_mod, Nat.and_div_two, ← ih,
    show (s % 2 + 2 * ext f (m / 2) (s / 2)) % 2 = s % 2 by omega, show (r % 2 + 2 * ext f (m / 2) (r / 2)) % 2 = r % 2 by omega,
    show (s % 2 + 2 * ext f (m / 2) (s / 2)) / 2 = ext f (m / 2) (s / 2) by omega, show (r % 2 + 2 * ext f (m / 2) (r / 2)) / 2 = ext f (m / 2) (r / 2) by omega]
theorem pop_ext_one (f m s : Nat) : popf f (ext f m s) = popf f (s &&& m) := by
 have := pop_ext f m s s
 rw [Nat.and_self] at this
 rw [this, Nat.and_comm s m, Nat.and_assoc, Nat.and_self]
theorem ext_dep (f : Nat) : ∀ m t, t < 2 ^ popf f m → ext f m (dep f m t) = t := by
 induction f with
 | zero => intro m t h; simp [popf] at h; subst h; rfl
 | succ f ih =>
  intro m t h
  unfold popf at h
  unfold ext dep
  split
  next c =>
   rw [show 2 * dep f (m / 2) t / 2 = dep f (m / 2) t by omega]
   exact ih _ _ (by rwa [c, Nat.zero_add] at h)
  next c =>
   rw [show m % 2 = 1 by omega, Nat.pow_add] at h
   rw [show (t % 2 + 2 * dep f (m / 2) (t / 2)) / 2 = dep f (m / 2) (t / 2) by omega, ih _ _ (by omega)]
   omega
theorem dep_sub (f : Nat) : ∀ m t, m < 2 ^ f → dep f m t &&& m = dep f m t := by
 induction f with
 | zero => intro m t h; simp [dep]
 | succ f ih =>
  intro m t h
  have hm : m / 2 < 2 ^ f := by rw [Nat.pow_succ] at h; omega
  have two : ∀ x y : Nat, x % 2 = y % 2 → x / 2 = y / 2 → x = y := fun x y _ _ => by omega
  unfold dep
  split
  next c =>
   apply two
   ·rw [and_mod, c, Nat.mul_zero]; omega
   ·rw [Nat.and_div_two, show 2 * dep f (m / 2) t / 2 = dep f (m / 2) t by omega, ih _ _ hm]
  next c =>
   apply two
   ·rw [and_mod, show m % 2 = 1 by omega, Nat.mul_one]
   ·rw [Nat.and_div_two, show (t % 2 + 2 * dep f (m / 2) (t / 2)) / 2 = dep f (m / 2) (t / 2) by omega, ih _ _ hm]
theorem bitAt_half (m i : Nat) : bitAt m (i + 1) = bitAt (m / 2) i := by
 unfold bitAt
 rw [Nat.pow_succ, Nat.mul_comm, ← Nat.div_div_eq_div_mul]
theorem popf_up (i : Nat) : ∀ m, popf (i + 1) m = popf i m + bitAt m i := by
 induction i with
 | zero => intro m; simp [popf, bitAt]
 | succ i ih =>
  intro m
  rw [popf, ih, bitAt_half, popf, Nat.add_assoc]
theorem ext_up (i : Nat) : ∀ m s, ext (i + 1) m s = ext i m s + bitAt m i * bitAt s i * 2 ^ popf i m := by
 induction i with
 | zero =>
  intro m s
  simp only [ext, popf, bitAt, Nat.pow_zero, Nat.div_one, Nat.mul_one, Nat.mul_zero, Nat.add_zero, Nat.zero_add]
  split
  next h => rw [h, Nat.zero_mul]
  next h => rw [show m % 2 = 1 by omega, Nat.one_mul]
 | succ i ih =>
  intro m s
  rw [ext, ih, bitAt_half, bitAt_half]
  rw [show ext (i + 1) m s = if m % 2 = 0 then ext i (m / 2) (s / 2) else s % 2 + 2 * ext i (m / 2) (s / 2) from rfl, popf]
  split
  next h => rw [h, Nat.zero_add]
  next h =>
   rw [show m % 2 = 1 by omega, Nat.pow_add, Nat.pow_one, Nat.mul_add, Nat.mul_left_comm _ 2]
   omega
theorem rst_ext (pts s : Nat) (i : Nat) (hi : i ≤ 12) : rst pts s i = (((ext i pts s : Nat) : Int), popf i pts) := by
 induction i with
 | zero => rfl
 | succ i ih =>
  have ih := ih (by omega)
  unfold rst
  rw [ih, popf_up, ext_up]
  have hb := bitAt_le pts i
  split
  next h => simp [h]
  next h =>
   rw [show bitAt pts i = 1 by omega, Nat.one_mul]
   have hc := popf_le i pts
   have hx := ext_lt i pts s
   have hs := bitAt_le s i
   have hp := pow_bd (p := popf i pts) (by omega)
   have hp' := pow_bd (p := i) (by omega)
   have hp1 : 2 ^ i ≤ 2048 := Nat.le_trans (Nat.pow_le_pow_right (by omega) (show i ≤ 11 by omega)) (by decide)
   have hp2 : 2 ^ popf i pts ≤ 2048 := Nat.le_trans (Nat.pow_le_pow_right (by omega) (show popf i pts ≤ 11 by omega)) (by decide)
   have hm : bitAt s i * 2 ^ popf i pts ≤ 2048 := Nat.le_trans (Nat.mul_le_mul hs hp2) (by omega)
   simp only
   rw [shl_bit (bitAt s i) (popf i pts) hs (by omega), or_nat _ _ (by omega) (by omega), Nat.or_comm, Nat.mul_comm (bitAt s i), ← Nat.two_pow_add_eq_or_of_lt hx]
   rw [Nat.add_comm]
theorem minD_char {f : Nat → Int} (hf : ∀ r, 0 ≤ f r) (ok : Nat → Bool) (n : Nat) :
  ((∀ r, r < n → ok r = false) ∧ (minD f ok n).1 = -1) ∨ ((∃ r, r < n ∧ ok r = true ∧ (minD f ok n).1 = f r) ∧ ∀ r, r < n → ok r = true → (minD f ok n).1 ≤ f r) := by
 induction n with
 | zero => exact .inl ⟨fun r h => absurd h (by omega), rfl⟩
 | succ n ih =>
  rw [minD_succ]
  cases h : ok n with
  | false =>
   simp only [Bool.false_eq_true, if_false]
   rcases ih with ⟨a, b⟩ | ⟨⟨r, r0, r1, r2⟩, b⟩
   ·refine .inl ⟨fun r hr => ?_, b⟩
    by_cases q : r = n
    ·subst q; exact h
    ·exact a r (by omega)
   ·refine .inr ⟨⟨r, by omega, r1, r2⟩, fun r hr ho => ?_⟩
    by_cases q : r = n
    ·subst q; rw [h] at ho; exact absurd ho (by simp)
    ·exact b r (by omega) ho
  | true =>
   simp only [if_true]
   unfold stepD
   have hn := hf n
   rcases ih with ⟨a, b⟩ | ⟨⟨r, r0, r1, r2⟩, b⟩
   ·rw [if_pos (by omega)]
    refine .inr ⟨⟨n, by omega, h, rfl⟩, fun r hr ho => ?_⟩
    by_cases q : r = n
    ·subst q; exact Int.le_refl _
    ·rw [a r (by omega)] at ho; exact absurd ho (by simp)
   ·have := hf r
    rw [if_neg (by omega)]
    split
    next c =>
     refine .inr ⟨⟨n, by omega, h, rfl⟩, fun x hx ho => ?_⟩
     by_cases q : x = n
     ·subst q; exact Int.le_refl _
     ·have := b x (by omega) ho; simp only; omega
    next c =>
     refine .inr ⟨⟨r, by omega, r1, r2⟩, fun x hx ho => ?_⟩
     by_cases q : x = n
     ·subst q; omega
     ·exact b x (by omega) ho
theorem minD_eq {f g : Nat → Int} (hf : ∀ r, 0 ≤ f r) (hg : ∀ r, 0 ≤ g r) {ok ok' : Nat → Bool} {n m : Nat}
  (h1 : ∀ r, r < n → ok r = true → ∃ q, q < m ∧ ok' q = true ∧ g q = f r) (h2 : ∀ q, q < m → ok' q = true → ∃ r, r < n ∧ ok r = true ∧ f r = g q) : (minD f ok n).1 = (minD g ok' m).1 := by
 rcases minD_char hf ok n with ⟨a, b⟩ | ⟨⟨r, r0, r1, r2⟩, b⟩ <;> rcases minD_char hg ok' m with ⟨a', b'⟩ | ⟨⟨q, q0, q1, q2⟩, b'⟩
 ·rw [b, b']
 ·obtain ⟨r, r0, r1, _⟩ := h2 q q0 q1
  rw [a r r0] at r1; exact absurd r1 (by simp)
 ·obtain ⟨q, q0, q1, _⟩ := h1 r r0 r1
  rw [a' q q0] at q1; exact absurd q1 (by simp)
 ·obtain ⟨x, x0, x1, x2⟩ := h1 r r0 r1
  obtain ⟨y, y0, y1, y2⟩ := h2 q q0 q1
  have := b' x x0 x1
  have := b y y0 y1
  omega
end Go.Proofs.Ytdlnhddpgopghaa.Com
namespace Go.Proofs.Ytdlnhddpgopghaa.Com
set_option linter.unusedSimpArgs false
set_option linter.unusedVariables false
set_option linter.unusedSectionVars false
open Go.RowKit Go.Proofs.YtdlnhddpgopghaaW.PrintWords Go.Proofs.YtdlnhddpgopghaaW.PrintMore Go.Proofs.Ytdlnhddpgopghaa.Q
def her (l : List Int) (pts : Nat) : Int := (minD (most l pts) (fun r => decide (r &&& pts = r)) (pts + 1)).1
def herTo (l : List Int) : Nat → Int
 | 0 => 0
 | n + 1 => mx (herTo l n) (her l n)
section
variable {l : List Int} (hl : l.length ≤ 12) (hs : ∀ x ∈ l, 0 ≤ x ∧ x.toNat < 4096)
include hl hs
theorem her_ext {p pts : Nat} (hp : p ≤ 12) (hl' : ∀ x ∈ l, x.toNat < 2 ^ p) (hpts : pts < 2 ^ p) :
  (minD (fun r => gr (imbs (rsts l pts p) r)) (fun _ => true) (2 ^ pop pts)).1 = her l pts := by
 have pp := pop_small hp hpts
 have key : ∀ r, r &&& pts = r → imbs (rsts l pts p) (ext p pts r) = l.map fun x => imb (x.toNat &&& pts) r := by
  intro r hr
  unfold imbs rsts
  rw [List.map_map]
  apply List.map_congr_left
  intro x hx
  have h1 : (x.toNat &&& pts) < 2 ^ p := Nat.lt_of_le_of_lt Nat.and_le_left (hl' x hx)
  have h2 : (x.toNat &&& pts) &&& r < 2 ^ p := Nat.lt_of_le_of_lt Nat.and_le_left h1
  have h3 := ext_lt' p pts x.toNat
  have h4 : ext p pts x.toNat &&& ext p pts r < 2 ^ p := Nat.lt_of_le_of_lt Nat.and_le_left h3
  show imb ((rst pts x.toNat p).1).toNat (ext p pts r) = _
  rw [rst_ext pts x.toNat p hp, Int.toNat_natCast]
  unfold imb
  rw [pop_small hp h1, pop_small hp h2, pop_small hp h3, pop_small hp h4, pop_ext, pop_ext_one]
 have nn : ∀ r, 0 ≤ gr (imbs (rsts l pts p) r) := fun r => (gr_bd 24 (by omega) _ (fun y hy => by
  obtain ⟨x, _, rfl⟩ := List.mem_map.1 hy
  have := imb_bd x.toNat r
  omega)).1
 unfold her
 refine minD_eq nn (fun r => (most_bd hl hs pts r).1) ?_ ?_
 ·intro t ht _
  have hd := dep_sub p pts t hpts
  have he := ext_dep p pts t (by rw [← pp]; exact ht)
  refine ⟨dep p pts t, ?_, decide_eq_true hd, ?_⟩
  ·have : dep p pts t ≤ pts := by rw [← hd]; exact Nat.and_le_right
   omega
  ·unfold most
   rw [← key _ hd, he]
 ·intro r hr ho
  have ho := of_decide_eq_true ho
  refine ⟨ext p pts r, by rw [pp]; exact ext_lt p pts r, rfl, ?_⟩
  unfold most
  rw [← key _ ho]
theorem implHer_ev {p : Nat} (hp : p ≤ 12) (hl' : ∀ x ∈ l, x.toNat < 2 ^ p) : Ev (fun k => impl_HereditaryOf.l0 k 0 ((2 ^ p : Nat) : Int) 0 (p : Int) l) (herTo l (2 ^ p), true) := by
 have pb := pow_bd hp
 have gen := ev_count (2 ^ p) (fun m (s : Int) k => impl_HereditaryOf.l0 k s ((2 ^ p : Nat) : Int) (m : Int) (p : Int) l) (herTo l (2 ^ p), true) (fun m s => s = herTo l m) ?_ ?_ 0 0 (by omega) rfl
 ·exact gen
 ·rintro s rfl
  refine Ev.step (fun k => by rw [impl_HereditaryOf.l0]) ?_
  simp only [if_neg (show ¬ ((2 ^ p : Nat) : Int) < ((2 ^ p : Nat) : Int) by omega)]
  exact Ev.now _
 ·rintro m s hm rfl
  refine ⟨_, rfl, fun ih => ?_⟩
  rw [herTo, ← her_ext hl hs hp hl' hm] at ih
  refine Ev.step (fun k => by rw [impl_HereditaryOf.l0]) ?_
  simp only [if_pos (show (m : Int) < ((2 ^ p : Nat) : Int) by omega)]
  have hr : ∀ x ∈ rsts l m p, 0 ≤ x ∧ x.toNat < 4096 := by
   intro y hy
   obtain ⟨x, _, rfl⟩ := List.mem_map.1 hy
   have := ext_lt' p m x.toNat
   rw [rst_ext m x.toNat p hp, Int.toNat_natCast]
   omega
  refine Ev.bind (implRst_ev hl hs hp (by omega)) (Ev.bind (implDisc_ev (l := rsts l m p) (by simp [rsts]; omega) hr (pop m) (pop_le m)) ?_)
  simp only [w_succ (m := m) (by omega)]
  exact ih
end
end Go.Proofs.Ytdlnhddpgopghaa.Com
namespace Go.Proofs.Ytdlnhddpgopghaa.Com
set_option linter.unusedSimpArgs false
set_option linter.unusedVariables false
set_option linter.unusedSectionVars false
open Go.RowKit Go.Proofs.YtdlnhddpgopghaaW.PrintWords Go.Proofs.YtdlnhddpgopghaaW.PrintMore Go.Proofs.Ytdlnhddpgopghaa.Q
def altF : Nat → Nat → Bool → Nat
 | 0, _, _ => 0
 | f + 1, m, b => if m % 2 = 1 then (if b then 1 else 0) + 2 * altF f (m / 2) (!b) else 2 * altF f (m / 2) b
def alt (m : Nat) : Nat := altF 6 m true
theorem alt_facts : ∀ m : Fin 64, alt m.val &&& m.val = alt m.val ∧ -1 ≤ imb m.val (alt m.val) ∧ imb m.val (alt m.val) ≤ 1 := by decide +kernel
theorem alt_three : ∀ m s : Fin 64, -3 ≤ imb (s.val &&& m.val) (alt m.val) ∧ imb (s.val &&& m.val) (alt m.val) ≤ 3 := by decide +kernel
theorem alt_sub {m : Nat} (h : m < 64) : alt m &&& m = alt m := (alt_facts ⟨m, h⟩).1
section
variable {l : List Int} (hl : l.length ≤ 12) (hs : ∀ x ∈ l, 0 ≤ x ∧ x.toNat < 4096)
include hl hs
theorem her_le (pts r : Nat) (hr : r &&& pts = r) : her l pts ≤ most l pts r := by
 have hlt : r < pts + 1 := by
  have : r &&& pts ≤ pts := Nat.and_le_right
  omega
 unfold her
 rcases minD_char (fun r => (most_bd hl hs pts r).1) (fun r => decide (r &&& pts = r)) (pts + 1) with ⟨h, _⟩ | ⟨_, h⟩
 ·have := h r hlt
  rw [decide_eq_true hr] at this
  cases this
 ·exact h r hlt (decide_eq_true hr)
theorem most_le (pts r : Nat) (B : Int) (hB : 0 ≤ B) (h : ∀ x ∈ l, -B ≤ imb (x.toNat &&& pts) r ∧ imb (x.toNat &&& pts) r ≤ B) : most l pts r ≤ B :=
 (gr_bd B hB _ (fun y hy => by
  obtain ⟨x, hx, rfl⟩ := List.mem_map.1 hy
  exact h x hx)).2
theorem her_three (pts : Nat) (hp : pts < 64) (h6 : ∀ x ∈ l, x.toNat < 64) : her l pts ≤ 3 :=
 Int.le_trans (her_le hl hs pts (alt pts) (alt_sub hp)) (most_le hl hs pts _ 3 (by omega) (fun x hx => alt_three ⟨pts, hp⟩ ⟨x.toNat, h6 x hx⟩))
theorem her_to (n m : Nat) (h : m < n) : her l m ≤ herTo l n := by
 induction n with
 | zero => omega
 | succ n ih =>
  unfold herTo mx
  by_cases e : m = n
  ·subst e; split <;> omega
  ·have := ih (by omega)
   split <;> omega
theorem herTo_bd (B : Int) (hB : 0 ≤ B) (n : Nat) (h : ∀ m, m < n → her l m ≤ B) : herTo l n ≤ B := by
 induction n with
 | zero => exact hB
 | succ n ih =>
  have h1 := ih (fun m hm => h m (by omega))
  have h2 := h n (by omega)
  unfold herTo mx
  split <;> omega
theorem herTo_nn (n : Nat) : 0 ≤ herTo l n := by
 induction n with
 | zero => exact Int.le_refl _
 | succ n ih => unfold herTo mx; split <;> omega
end
end Go.Proofs.Ytdlnhddpgopghaa.Com
namespace Go.Proofs.Ytdlnhddpgopghaa.Com
set_option linter.unusedSimpArgs false
set_option linter.unusedVariables false
set_option linter.unusedSectionVars false
open Go.RowKit Go.Proofs.YtdlnhddpgopghaaW.PrintWords Go.Proofs.YtdlnhddpgopghaaW.PrintMore Go.Proofs.Ytdlnhddpgopghaa.Q
def fv (b x : Int) : Int := if Int.tmod x b < 0 then Int.tdiv x b - 1 else Int.tdiv x b
theorem tdiv_bd (x b : Int) (hx : -1000000 ≤ x ∧ x ≤ 1000000) : -1000000 ≤ Int.tdiv x b ∧ Int.tdiv x b ≤ 1000000 := by
 have h : (Int.tdiv x b).natAbs ≤ x.natAbs := by rw [Int.natAbs_tdiv]; exact Nat.div_le_self _ _
 omega
theorem fv_bd (b x : Int) (hx : -1000000 ≤ x ∧ x ≤ 1000000) : -1000001 ≤ fv b x ∧ fv b x ≤ 1000000 := by
 have := tdiv_bd x b hx
 unfold fv
 split <;> omega
theorem implFloor_tells (b x : Int) (hb : 1 ≤ b ∧ b ≤ 1000) (hx : -1000000 ≤ x ∧ x ≤ 1000000) : impl_floor.f x b = some (fv b x) := by
 have t := tdiv_bd x b hx
 unfold impl_floor.f fv
 rw [if_neg (by omega), w64 (x := Int.tdiv x b) (by omega) (by omega), w64 (x := Int.tdiv x b - 1) (by omega) (by omega)]
 split <;> rfl
theorem specFloor_tells (b x : Int) (hb : 1 ≤ b ∧ b ≤ 1000) (hx : -1000000 ≤ x ∧ x ≤ 1000000) : spec_l01Floor.f x b = some (fv b x) := by
 have t := tdiv_bd x b hx
 have e := Int.mul_tdiv_add_tmod x b
 have m : b * Int.tdiv x b = Int.tdiv x b * b := Int.mul_comm _ _
 have ml : Int.tmod x b < b := Int.tmod_lt_of_pos x (by omega)
 have mg : -b < Int.tmod x b := by
  have h : (Int.tmod x b).natAbs < b.natAbs := by rw [Int.natAbs_tmod]; exact Nat.mod_lt _ (by omega)
  omega
 unfold spec_l01Floor.f fv
 rw [if_neg (by omega), w64 (x := Int.tdiv x b) (by omega) (by omega), w64 (x := Int.tdiv x b * b) (by omega) (by omega), w64 (x := Int.tdiv x b - 1) (by omega) (by omega)]
 by_cases c : Int.tmod x b < 0
 ·rw [if_pos c, if_pos (by omega)]
 ·rw [if_neg c, if_neg (by omega)]
def cv (b x : Int) : Int := -fv b (-x)
theorem implCeil_tells (b x : Int) (hb : 1 ≤ b ∧ b ≤ 1000) (hx : -1000000 ≤ x ∧ x ≤ 1000000) : impl_ceiling.f x b = some (cv b x) := by
 have t := fv_bd b (-x) (by omega)
 unfold impl_ceiling.f cv
 rw [w64 (x := -x) (by omega) (by omega), implFloor_tells b (-x) hb (by omega), Option.bind_some, w64 (by omega) (by omega)]
theorem specCeil_tells (b x : Int) (hb : 1 ≤ b ∧ b ≤ 1000) (hx : -1000000 ≤ x ∧ x ≤ 1000000) : spec_l01Ceil.f x b = some (cv b x) := by
 have t := fv_bd b (-x) (by omega)
 unfold spec_l01Ceil.f cv
 rw [w64 (x := -x) (by omega) (by omega), specFloor_tells b (-x) hb (by omega), Option.bind_some, w64 (by omega) (by omega)]
def valsOk (b : Int) (v : List Int) : Bool := v.all (fun x => decide (-1000000 ≤ x ∧ x ≤ 1000000)) && (decide (1 ≤ b ∧ b ≤ 1000) && decide ((v.length : Int) ≤ 40))
theorem valsOk_is {b : Int} {v : List Int} (h : valsOk b v = true) : (1 ≤ b ∧ b ≤ 1000) ∧ v.length ≤ 40 ∧ ∀ x ∈ v, -1000000 ≤ x ∧ x ≤ 1000000 := by
 unfold valsOk at h
 simp only [Bool.and_eq_true, decide_eq_true_eq, List.all_eq_true] at h
 exact ⟨h.2.1, by omega, h.1⟩
theorem specVals_ev (b : Int) (v : List Int) (hx : v.length ≤ 1048576) : Ev (fun k => spec_l01Is.f k b v) (valsOk b v) := by
 unfold spec_l01Is.f
 have gen := ev_list v (fun m k => spec_l01Is.l0 k (m : Int) b v) (fun d => d.all (fun x => decide (-1000000 ≤ x ∧ x ≤ 1000000)) && (decide (1 ≤ b ∧ b ≤ 1000) && decide ((v.length : Int) ≤ 40))) ?_ ?_ 0 (by omega)
 ·exact gen
 ·refine Ev.step (fun k => by rw [spec_l01Is.l0]) ?_
  simp only [if_neg (show ¬ (v.length : Int) < (v.length : Int) by omega), in_tells, Option.bind_some, List.all_nil, Bool.true_and, decide_eq_true_eq]
  by_cases c : 1 ≤ b ∧ b ≤ 1000
  ·simp only [if_pos c, decide_eq_true c, Bool.true_and]
   exact Ev.now _
  ·simp only [if_neg c, decide_eq_false c, Bool.false_and]
   exact Ev.now _
 ·intro m hm ih
  refine Ev.step (fun k => by rw [spec_l01Is.l0]) ?_
  simp only [if_pos (show (m : Int) < (v.length : Int) by omega), if_pos (show 0 ≤ (m : Int) by omega), rd_nat hm, w_succ (m := m) (by omega), in_tells, Option.bind_some, List.all_cons, decide_eq_true_eq]
  by_cases c : -1000000 ≤ v[m] ∧ v[m] ≤ 1000000
  ·simp only [if_pos c, decide_eq_true c, Bool.true_and]
   exact ih
  ·simp only [if_neg c, decide_eq_false c, Bool.false_and]
   exact Ev.now _
theorem implVals_tells (b : Int) (v : List Int) : impl_ValidValues.f b v = some (valsOk b v) := by
 unfold impl_ValidValues.f impl_areWithin.f valsOk
 rw [within_tells]
 simp only [Option.bind_some, decide_eq_true_eq]
 by_cases c : 1 ≤ b ∧ b ≤ 1000
 ·rw [if_pos c, decide_eq_true c]
  by_cases d : (v.length : Int) ≤ 40
  ·rw [if_pos d, decide_eq_true d, Bool.true_and, Bool.and_true]
  ·rw [if_neg d, decide_eq_false d, Bool.and_false, Bool.and_false]
 ·rw [if_neg c, decide_eq_false c, Bool.false_and, Bool.and_false]
theorem each_ev (g : Int → Option Int) (h : Int → Int) (a : Int) (v : List Int) (hx : v.length ≤ 1048576) (hg : ∀ x ∈ v, g x = some (h x)) : Ev (fun k => impl_Values_each.f k a v g) (v.map h) := by
 unfold impl_Values_each.f
 have gen := ev_fold v (fun m (s : List Int) k => impl_Values_each.l0 g k s v (v.length : Int) (m : Int)) (fun d s => s ++ d.map h) (fun m s => s.length = m) ?_ ?_ 0 [] (by omega) rfl
 ·simpa using gen
 ·intro s _
  refine Ev.step (fun k => by rw [impl_Values_each.l0]) ?_
  simp only [if_neg (show ¬ (v.length : Int) < (v.length : Int) by omega), List.map_nil, List.append_nil]
  exact Ev.now _
 ·intro m hm s hs ih
  refine Ev.step (fun k => by rw [impl_Values_each.l0]) ?_
  simp only [if_pos (show (m : Int) < (v.length : Int) by omega), if_pos (show 0 ≤ (m : Int) by omega), rd_nat hm, w_succ (m := m) (by omega), hg _ (List.getElem_mem hm), Option.bind_some, if_pos (show s.length < 17592186044416 by omega)]
  rw [List.map_cons, List.append_cons s (h v[m]) ((v.drop (m + 1)).map h)]
  exact ih (s ++ [h v[m]]) (by simp [hs])
section
variable {b : Int} {v l : List Int} (hv : valsOk b v = true)
include hv
theorem floors_ev : Ev (fun k => impl_Values_floors.f k b v) (v.map (fv b)) := by
 obtain ⟨h1, h2, h3⟩ := valsOk_is hv
 unfold impl_Values_floors.f
 exact Ev.bind (each_ev _ (fv b) b v (by omega) (fun x hx => implFloor_tells b x h1 (h3 x hx))) (Ev.now _)
theorem ceilings_ev : Ev (fun k => impl_Values_ceilings.f k b v) (v.map (cv b)) := by
 obtain ⟨h1, h2, h3⟩ := valsOk_is hv
 unfold impl_Values_ceilings.f
 exact Ev.bind (each_ev _ (cv b) b v (by omega) (fun x hx => implCeil_tells b x h1 (h3 x hx))) (Ev.now _)
def roundsTo (b : Int) : List Int → List Int → Bool
 | [], _ => true
 | y :: r, v => (match v with | [] => false | x :: t => (decide (y = fv b x) || decide (y = cv b x)) && roundsTo b r t)
theorem implRounds_ev (hl : l.length = v.length) : Ev (fun k => impl_IsRounding.l0 k (v.map (fv b)) (v.map (cv b)) l (l.length : Int) 0) (roundsTo b l v) := by
 obtain ⟨h1, h2, h3⟩ := valsOk_is hv
 have gen := ev_list l (fun m k => impl_IsRounding.l0 k (v.map (fv b)) (v.map (cv b)) l (l.length : Int) (m : Int)) (fun d => roundsTo b d (v.drop (v.length - d.length))) ?_ ?_ 0 (by omega)
 ·simpa [hl] using gen
 ·refine Ev.step (fun k => by rw [impl_IsRounding.l0]) ?_
  simp only [if_neg (show ¬ (l.length : Int) < (l.length : Int) by omega), roundsTo]
  exact Ev.now _
 ·intro m hm ih
  have hm' : m < v.length := by omega
  have hd : (l.drop (m + 1)).length = l.length - (m + 1) := List.length_drop ..
  have t1 : v.length - (l[m] :: l.drop (m + 1)).length = m := by rw [List.length_cons, hd]; omega
  have t2 : v.length - (l.drop (m + 1)).length = m + 1 := by rw [hd]; omega
  rw [t1, List.drop_eq_getElem_cons hm']
  rw [t2] at ih
  have e1 : rd (v.map (fv b)) (m : Int) = fv b v[m] := by rw [rd_nat (by rw [List.length_map]; exact hm'), List.getElem_map]
  have e2 : rd (v.map (cv b)) (m : Int) = cv b v[m] := by rw [rd_nat (by rw [List.length_map]; exact hm'), List.getElem_map]
  refine Ev.step (fun k => by rw [impl_IsRounding.l0]) ?_
  simp only [if_pos (show (m : Int) < (l.length : Int) by omega), if_pos (show 0 ≤ (m : Int) by omega), List.length_map, if_pos (show (m : Int) < (v.length : Int) by omega), rd_nat hm, e1, e2, w_succ (m := m) (by omega), roundsTo]
  by_cases c : l[m] = fv b v[m]
  ·simp only [if_pos c, decide_eq_true c, Bool.true_or, Bool.true_and]
   exact ih
  ·by_cases d : l[m] = cv b v[m]
   ·simp only [if_neg c, if_pos d, decide_eq_true d, Bool.or_true, Bool.true_and]
    exact ih
   ·simp only [if_neg c, if_neg d, decide_eq_false c, decide_eq_false d, Bool.or_false, Bool.false_and]
    exact Ev.now _
end
end Go.Proofs.Ytdlnhddpgopghaa.Com
namespace Go.Proofs.Ytdlnhddpgopghaa.Com
set_option linter.unusedSimpArgs false
set_option linter.unusedVariables false
set_option linter.unusedSectionVars false
open Go.RowKit Go.Proofs.YtdlnhddpgopghaaW.PrintWords Go.Proofs.YtdlnhddpgopghaaW.PrintMore Go.Proofs.Ytdlnhddpgopghaa.Q
theorem prod_bd {b y : Int} (hb : 1 ≤ b ∧ b ≤ 1000) (hy : -1000001 ≤ y ∧ y ≤ 1000001) : -1000001000 ≤ b * y ∧ b * y ≤ 1000001000 := by
 have h1 := Int.mul_le_mul_of_nonneg_left hy.2 (show 0 ≤ b by omega)
 have h2 := Int.mul_le_mul_of_nonneg_left hy.1 (show 0 ≤ b by omega)
 omega
theorem roundsTo_bd {b : Int} (l : List Int) : ∀ v : List Int, (∀ x ∈ v, -1000000 ≤ x ∧ x ≤ 1000000) → roundsTo b l v = true → ∀ y ∈ l, -1000001 ≤ y ∧ y ≤ 1000001 := by
 induction l with
 | nil => intro v _ _ y hy; simp at hy
 | cons z r ih =>
  intro v hv h y hy
  cases v with
  | nil => simp [roundsTo] at h
  | cons x t =>
   simp only [roundsTo, Bool.and_eq_true, Bool.or_eq_true, decide_eq_true_eq] at h
   have hx := hv x List.mem_cons_self
   rcases List.mem_cons.1 hy with rfl | hy
   ·have f1 := fv_bd b x hx
    have f2 := fv_bd b (-x) (by omega)
    rcases h.1 with e | e
    ·omega
    ·unfold cv at e; omega
   ·exact ih t (fun q hq => hv q (List.mem_cons_of_mem _ hq)) h.2 y hy
def errs (b : Int) (l v : List Int) : List Int := List.zipWith (fun y x => b * y - x) l v
section
variable {b : Int} {v l : List Int} (hv : valsOk b v = true) (hl : l.length = v.length) (hy : ∀ y ∈ l, -1000001 ≤ y ∧ y ≤ 1000001)
include hv hl hy
theorem implErrs_ev : Ev (fun k => impl_Values_errors.f k b v l) (errs b l v) := by
 obtain ⟨h1, h2, h3⟩ := valsOk_is hv
 unfold impl_Values_errors.f
 have gen := ev_fold l (fun m (s : List Int) k => impl_Values_errors.l0 k s l (l.length : Int) (m : Int) b v) (fun d s => s ++ errs b d (v.drop (v.length - d.length))) (fun m s => s.length = m) ?_ ?_ 0 [] (by omega) rfl
 ·simpa [hl] using gen
 ·intro s _
  refine Ev.step (fun k => by rw [impl_Values_errors.l0]) ?_
  simp only [if_neg (show ¬ (l.length : Int) < (l.length : Int) by omega), errs, List.zipWith_nil_left, List.append_nil]
  exact Ev.now _
 ·intro m hm s hs ih
  have hm' : m < v.length := by omega
  have hd : (l.drop (m + 1)).length = l.length - (m + 1) := List.length_drop ..
  have t1 : v.length - (l[m] :: l.drop (m + 1)).length = m := by rw [List.length_cons, hd]; omega
  have t2 : v.length - (l.drop (m + 1)).length = m + 1 := by rw [hd]; omega
  rw [t1, List.drop_eq_getElem_cons hm']
  rw [t2] at ih
  have hx := h3 _ (List.getElem_mem hm')
  have p := prod_bd h1 (hy _ (List.getElem_mem hm))
  refine Ev.step (fun k => by rw [impl_Values_errors.l0]) ?_
  simp only [if_pos (show (m : Int) < (l.length : Int) by omega), if_pos (show 0 ≤ (m : Int) by omega), if_pos (show (m : Int) < (v.length : Int) by omega), rd_nat hm, rd_nat hm', w_succ (m := m) (by omega), if_pos (show s.length < 17592186044416 by omega)]
  rw [w64 (x := b * l[m]) (by omega) (by omega), w64 (x := b * l[m] - v[m]) (by omega) (by omega)]
  unfold errs
  rw [List.zipWith_cons_cons, List.append_cons s (b * l[m] - v[m]) (List.zipWith (fun y x => b * y - x) (l.drop (m + 1)) (v.drop (m + 1)))]
  exact ih (s ++ [b * l[m] - v[m]]) (by simp [hs])
def eSum (x : Int) : Nat → List Int → Int
 | _, [] => 0
 | m, e :: r => (bitAt x.toNat m : Int) * e + eSum x (m + 1) r
end
theorem eSum_bd (x : Int) (r : List Int) : ∀ m, (∀ e ∈ r, -2000000000 ≤ e ∧ e ≤ 2000000000) → -(2000000000 * (r.length : Int)) ≤ eSum x m r ∧ eSum x m r ≤ 2000000000 * (r.length : Int) := by
 induction r with
 | nil => intro m _; simp [eSum]
 | cons e r ih =>
  intro m h
  have := ih (m + 1) (fun z hz => h z (List.mem_cons_of_mem _ hz))
  have he := h e List.mem_cons_self
  have hb := bitAt_le x.toNat m
  unfold eSum
  rw [List.length_cons]
  rcases (show bitAt x.toNat m = 0 ∨ bitAt x.toNat m = 1 by omega) with c | c
  ·rw [c]; simp only [Int.natCast_zero, Int.zero_mul]; omega
  ·rw [c]; simp only [Int.natCast_one, Int.one_mul]; omega
end Go.Proofs.Ytdlnhddpgopghaa.Com
namespace Go.Proofs.Ytdlnhddpgopghaa.Com
set_option linter.unusedSimpArgs false
set_option linter.unusedVariables false
set_option linter.unusedSectionVars false
open Go.RowKit Go.Proofs.YtdlnhddpgopghaaW.PrintWords Go.Proofs.YtdlnhddpgopghaaW.PrintMore Go.Proofs.Ytdlnhddpgopghaa.Q
theorem errs_len {b : Int} {l v : List Int} (hl : l.length = v.length) : (errs b l v).length = l.length := by unfold errs; rw [List.length_zipWith]; omega
section
variable {b p : Int} {v l sets : List Int} (hv : valsOk b v = true) (hl : l.length = v.length) (hy : ∀ y ∈ l, -1000001 ≤ y ∧ y ≤ 1000001) (h12 : l.length ≤ 12) (hn : sets.length ≤ 12) (hs : ∀ x ∈ sets, 0 ≤ x ∧ x.toNat < 4096)
include hv hl hy h12 hn hs
theorem errs_bd : ∀ e ∈ errs b l v, -2000000000 ≤ e ∧ e ≤ 2000000000 := by
 obtain ⟨h1, h2, h3⟩ := valsOk_is hv
 intro e he
 unfold errs at he
 obtain ⟨i, hi, rfl⟩ := List.getElem_of_mem he
 rw [List.length_zipWith] at hi
 rw [List.getElem_zipWith]
 have p := prod_bd h1 (hy l[i] (List.getElem_mem (by omega)))
 have x := h3 v[i] (List.getElem_mem (by omega))
 omega
theorem implInner_ev (out : List Int) (c : Nat) (hc : c < sets.length) (R : List Int)
  (ih : Ev (fun k => impl_System_setErrors.l0 k (out ++ [eSum sets[c] 0 (errs b l v)]) (errs b l v) sets (sets.length : Int) ((c + 1 : Nat) : Int)) R) (ho : out.length ≤ 12) :
  Ev (fun k => impl_System_setErrors.l1 k out (errs b l v) sets[c] 0 sets (sets.length : Int) (c : Int) (errs b l v) ((errs b l v).length : Int) 0) R := by
 have eb := errs_bd hv hl hy h12 hn hs
 have el := errs_len (b := b) hl
 obtain ⟨x0, x1⟩ := hs _ (List.getElem_mem hc)
 generalize sets[c] = x at x0 x1 ih ⊢
 generalize errs b l v = es at eb el ih ⊢
 obtain ⟨n, rfl⟩ := Int.eq_ofNat_of_zero_le x0
 rw [Int.toNat_natCast] at x1
 refine ev_fold es (fun m (s : Int) k => impl_System_setErrors.l1 k out es (n : Int) s sets (sets.length : Int) (c : Int) es (es.length : Int) (m : Int)) (fun d s => R) (fun m s => s + eSum (n : Int) m (es.drop m) = eSum (n : Int) 0 es ∧ -(2000000000 * (m : Int)) ≤ s ∧ s ≤ 2000000000 * (m : Int)) ?_ ?_ 0 0 (by omega) ⟨by simp, by omega, by omega⟩
 ·rintro s ⟨e, _, _⟩
  rw [List.drop_length] at e
  simp only [eSum, Int.add_zero] at e
  refine Ev.step (fun k => by rw [impl_System_setErrors.l1]) ?_
  simp only [if_neg (show ¬ (es.length : Int) < (es.length : Int) by omega), if_pos (show out.length < 17592186044416 by omega), w_succ (m := c) (by omega), e]
  exact ih
 ·rintro m hm s ⟨e, s0, s1⟩ k
  have hz := eb _ (List.getElem_mem hm)
  have hb := bitAt_le n m
  rw [List.drop_eq_getElem_cons hm, eSum, Int.toNat_natCast] at e
  refine Ev.step (fun k => by rw [impl_System_setErrors.l1]) ?_
  simp only [if_pos (show (m : Int) < (es.length : Int) by omega), if_pos (show 0 ≤ (m : Int) by omega), rd_nat hm, w_succ (m := m) (by omega), bit_tells n m x1 (by omega)]
  generalize es[m] = z at hz e ⊢
  rcases (show bitAt n m = 0 ∨ bitAt n m = 1 by omega) with q | q
  ·rw [q] at e ⊢
   simp only [Int.natCast_zero, Int.zero_mul] at e ⊢
   rw [w64 (x := 0) (by omega) (by omega), w64 (x := s + 0) (by omega) (by omega)]
   exact k _ ⟨by omega, by omega, by omega⟩
  ·rw [q] at e ⊢
   simp only [Int.natCast_one, Int.one_mul] at e ⊢
   rw [w64 (x := z) (by omega) (by omega), w64 (x := s + z) (by omega) (by omega)]
   exact k _ ⟨by omega, by omega, by omega⟩
theorem implSetErrs_ev : Ev (fun k => impl_System_setErrors.f k p sets b v l) (sets.map fun x => eSum x 0 (errs b l v)) := by
 unfold impl_System_setErrors.f
 refine Ev.bind (implErrs_ev hv hl hy) ?_
 have gen := ev_fold sets (fun m (s : List Int) k => impl_System_setErrors.l0 k s (errs b l v) sets (sets.length : Int) (m : Int)) (fun d s => s ++ d.map fun x => eSum x 0 (errs b l v)) (fun m s => s.length = m) ?_ ?_ 0 [] (by omega) rfl
 ·simpa using gen
 ·intro s _
  refine Ev.step (fun k => by rw [impl_System_setErrors.l0]) ?_
  simp only [if_neg (show ¬ (sets.length : Int) < (sets.length : Int) by omega), List.map_nil, List.append_nil]
  exact Ev.now _
 ·intro m hm s hs' ih
  refine Ev.step (fun k => by rw [impl_System_setErrors.l0]) ?_
  simp only [if_pos (show (m : Int) < (sets.length : Int) by omega), if_pos (show 0 ≤ (m : Int) by omega), rd_nat hm]
  rw [List.map_cons, List.append_cons s (eSum sets[m] 0 (errs b l v)) ((sets.drop (m + 1)).map fun x => eSum x 0 (errs b l v))]
  exact implInner_ev hv hl hy h12 hn hs s m hm _ (ih (s ++ [eSum sets[m] 0 (errs b l v)]) (by simp [hs'])) (by omega)
theorem specInner_ev (out : List Int) (c : Nat) (hc : c < sets.length) (R : List Int)
  (ih : Ev (fun k => spec_l10Errors.l0 k l (out ++ [eSum sets[c] 0 (errs b l v)]) ((c + 1 : Nat) : Int) p sets b v) R) (ho : out.length ≤ 12) :
  Ev (fun k => spec_l10Errors.l1 k l out (c : Int) 0 0 p sets b v) R := by
 obtain ⟨h1, h2, h3⟩ := valsOk_is hv
 have el := errs_len (b := b) hl
 have hset := rd_nat hc
 obtain ⟨x0, x1⟩ := hs _ (List.getElem_mem hc)
 generalize sets[c] = x at x0 x1 ih hset
 obtain ⟨n, rfl⟩ := Int.eq_ofNat_of_zero_le x0
 rw [Int.toNat_natCast] at x1
 refine ev_count l.length (fun m (s : Int) k => spec_l10Errors.l1 k l out (c : Int) s (m : Int) p sets b v) R (fun m s => s + eSum (n : Int) m ((errs b l v).drop m) = eSum (n : Int) 0 (errs b l v) ∧ -(2000000000 * (m : Int)) ≤ s ∧ s ≤ 2000000000 * (m : Int)) ?_ ?_ 0 0 (by omega) ⟨by simp, by omega, by omega⟩
 ·rintro s ⟨e, _, _⟩
  rw [← el, List.drop_length] at e
  simp only [eSum, Int.add_zero] at e
  refine Ev.step (fun k => by rw [spec_l10Errors.l1]) ?_
  simp only [if_neg (show ¬ (l.length : Int) < (l.length : Int) by omega), if_pos (show out.length < 17592186044416 by omega), w_succ (m := c) (by omega), e]
  exact ih
 ·rintro m s hm ⟨e, s0, s1⟩
  have hm' : m < v.length := by omega
  have hme : m < (errs b l v).length := by omega
  have pb := prod_bd h1 (hy l[m] (List.getElem_mem hm))
  have xb := h3 v[m] (List.getElem_mem hm')
  have hb := bitAt_le n m
  have ee : (errs b l v)[m] = b * l[m] - v[m] := by simp [errs]
  rw [List.drop_eq_getElem_cons hme, eSum, Int.toNat_natCast, ee] at e
  rcases (show bitAt n m = 0 ∨ bitAt n m = 1 by omega) with q | q
  ·rw [q] at e
   simp only [Int.natCast_zero, Int.zero_mul] at e
   refine ⟨s, ⟨by omega, by omega, by omega⟩, fun k => ?_⟩
   refine Ev.step (fun k => by rw [spec_l10Errors.l1]) ?_
   simp only [if_pos (show (m : Int) < (l.length : Int) by omega), if_pos (show 0 ≤ (m : Int) by omega), if_pos (show 0 ≤ (c : Int) by omega), if_pos (show (c : Int) < (sets.length : Int) by omega), uw (m : Int) (show 0 ≤ (m : Int) ∧ (m : Int) ≤ 4096 by omega), hset, bit_tells n m x1 (by omega), q, Int.natCast_zero, if_neg (show ¬ (0 : Int) = 1 by omega), w_succ (m := m) (by omega)]
   exact k
  ·rw [q] at e
   simp only [Int.natCast_one, Int.one_mul] at e
   refine ⟨s + (b * l[m] - v[m]), ⟨by omega, by omega, by omega⟩, fun k => ?_⟩
   refine Ev.step (fun k => by rw [spec_l10Errors.l1]) ?_
   simp only [if_pos (show (m : Int) < (l.length : Int) by omega), if_pos (show 0 ≤ (m : Int) by omega), if_pos (show 0 ≤ (c : Int) by omega), if_pos (show (c : Int) < (sets.length : Int) by omega), if_pos (show (m : Int) < (v.length : Int) by omega), uw (m : Int) (show 0 ≤ (m : Int) ∧ (m : Int) ≤ 4096 by omega), hset, bit_tells n m x1 (by omega), q, Int.natCast_one, if_true, w_succ (m := m) (by omega), rd_nat hm, rd_nat hm']
   rw [w64 (x := b * l[m]) (by omega) (by omega), w64 (x := b * l[m] - v[m]) (by omega) (by omega), w64 (x := s + (b * l[m] - v[m])) (by omega) (by omega)]
   exact k
theorem specSetErrs_ev : Ev (fun k => spec_l10Errors.f k p sets b v l) (sets.map fun x => eSum x 0 (errs b l v)) := by
 unfold spec_l10Errors.f
 have gen := ev_fold sets (fun m (s : List Int) k => spec_l10Errors.l0 k l s (m : Int) p sets b v) (fun d s => s ++ d.map fun x => eSum x 0 (errs b l v)) (fun m s => s.length = m) ?_ ?_ 0 [] (by omega) rfl
 ·simpa using gen
 ·intro s _
  refine Ev.step (fun k => by rw [spec_l10Errors.l0]) ?_
  simp only [if_neg (show ¬ (sets.length : Int) < (sets.length : Int) by omega), List.map_nil, List.append_nil]
  exact Ev.now _
 ·intro m hm s hs' ih
  refine Ev.step (fun k => by rw [spec_l10Errors.l0]) ?_
  simp only [if_pos (show (m : Int) < (sets.length : Int) by omega)]
  rw [List.map_cons, List.append_cons s (eSum sets[m] 0 (errs b l v)) ((sets.drop (m + 1)).map fun x => eSum x 0 (errs b l v))]
  exact specInner_ev hv hl hy h12 hn hs s m hm _ (ih (s ++ [eSum sets[m] 0 (errs b l v)]) (by simp [hs'])) (by omega)
end
end Go.Proofs.Ytdlnhddpgopghaa.Com
namespace Go.Proofs.Ytdlnhddpgopghaa.Com
set_option linter.unusedSimpArgs false
set_option linter.unusedVariables false
set_option linter.unusedSectionVars false
open Go.RowKit Go.Proofs.YtdlnhddpgopghaaW.PrintWords Go.Proofs.YtdlnhddpgopghaaW.PrintMore Go.Proofs.Ytdlnhddpgopghaa.Q
theorem fv_char (b x : Int) (hb : 1 ≤ b) : 0 ≤ x - b * fv b x ∧ x - b * fv b x < b := by
 have h := Int.mul_tdiv_add_tmod x b
 have h1 := Int.tmod_lt_of_pos x (show 0 < b by omega)
 have h2 := Int.lt_tmod_of_pos x (show 0 < b by omega)
 unfold fv
 by_cases c : Int.tmod x b < 0
 ·rw [if_pos c, Int.mul_sub, Int.mul_one]
  omega
 ·rw [if_neg c]
  omega
theorem cv_is (b x : Int) (hb : 1 ≤ b) : cv b x = if fv b x * b = x then fv b x else fv b x + 1 := by
 have h1 := fv_char b x hb
 have h2 := fv_char b (-x) hb
 have hc : fv b (-x) = -cv b x := by unfold cv; omega
 rw [hc, Int.mul_neg] at h2
 rw [Int.mul_comm (fv b x) b]
 generalize fv b x = f at h1 ⊢
 generalize cv b x = c at h2 ⊢
 have hk : ∀ t : Int, b * (f + t) = b * f + b * t := fun t => Int.mul_add b f t
 by_cases e : b * f = x
 ·rw [if_pos e]
  rcases Int.lt_trichotomy c f with h | h | h
  ·have : b * (c + 1) ≤ b * f := Int.mul_le_mul_of_nonneg_left (by omega) (by omega)
   rw [Int.mul_add, Int.mul_one] at this
   omega
  ·exact h
  ·have : b * (f + 1) ≤ b * c := Int.mul_le_mul_of_nonneg_left (by omega) (by omega)
   rw [Int.mul_add, Int.mul_one] at this
   omega
 ·rw [if_neg e]
  rcases Int.lt_trichotomy c (f + 1) with h | h | h
  ·have : b * c ≤ b * f := Int.mul_le_mul_of_nonneg_left (by omega) (by omega)
   omega
  ·exact h
  ·have : b * (f + 2) ≤ b * c := Int.mul_le_mul_of_nonneg_left (by omega) (by omega)
   rw [Int.mul_add] at this
   omega
def ch (b x : Int) : List Int := if fv b x * b = x then [fv b x] else [fv b x, fv b x + 1]
def cands (b : Int) : List Int → List (List Int)
 | [] => [[]]
 | x :: r => (ch b x).flatMap fun c => (cands b r).map (c :: ·)
theorem ch_bd (b x : Int) (hx : -1000000 ≤ x ∧ x ≤ 1000000) : ∀ y ∈ ch b x, -1000001 ≤ y ∧ y ≤ 1000001 := by
 have := fv_bd b x hx
 intro y hy
 unfold ch at hy
 split at hy
 ·simp at hy; omega
 ·simp at hy; omega
def cost (b : Int) (sets v l : List Int) : Int := gr (sets.map fun x => eSum x 0 (errs b l v))
def upd (b : Int) (sets v : List Int) (st : List Int × Int) (l : List Int) : List Int × Int :=
 if st.2 < 0 then (l, cost b sets v l) else if cost b sets v l < st.2 then (l, cost b sets v l) else st
theorem mx_mx (s x : Int) : mx s (mx x (-x)) = mx (mx s x) (-x) := by unfold mx; (repeat' split) <;> omega
theorem l08Most_ev (l : List Int) (hl : l.length ≤ 1048576) (hb : ∀ x ∈ l, -9223372036854775807 ≤ x ∧ x ≤ 9223372036854775807) : Ev (fun k => spec_l08Most.f k l) (gr l) := by
 unfold spec_l08Most.f
 have gen := ev_fold l (fun m (s : Int) k => spec_l08Most.l0 k l s (m : Int)) (fun d s => d.foldl (fun s x => mx (mx s x) (-x)) s) (fun _ _ => True) ?_ ?_ 0 0 (by omega) trivial
 ·exact gen
 ·intro s _
  refine Ev.step (fun k => by rw [spec_l08Most.l0]) ?_
  simp only [if_neg (show ¬ (l.length : Int) < (l.length : Int) by omega), List.foldl_nil]
  exact Ev.now _
 ·intro m hm s _ ih
  have hx := hb _ (List.getElem_mem hm)
  refine Ev.step (fun k => by rw [spec_l08Most.l0]) ?_
  simp only [if_pos (show (m : Int) < (l.length : Int) by omega), if_pos (show (0 : Int) ≤ (m : Int) by omega), rd_nat hm]
  rw [w64 (x := -l[m]) (by omega) (by omega), w_succ (m := m) (by omega)]
  have e1 : ∀ a c : Int, spec_l00Max.f a c = some (mx a c) := fun a c => by unfold spec_l00Max.f mx; split <;> split <;> first | rfl | (congr 1; omega)
  refine ev_bind' (e1 _ _) (ev_bind' (e1 _ _) ?_)
  rw [mx_mx]
  exact ih _ trivial
section
variable {b p : Int} {v sets : List Int} (hv : valsOk b v = true) (h12 : v.length ≤ 12) (hn : sets.length ≤ 12) (hs : ∀ x ∈ sets, 0 ≤ x ∧ x.toNat < 4096)
include hv h12 hn hs
theorem cost_in (l : List Int) (hl : l.length = v.length) (hy : ∀ y ∈ l, -1000001 ≤ y ∧ y ≤ 1000001) : (∀ x ∈ (sets.map fun x => eSum x 0 (errs b l v)), -24000000000 ≤ x ∧ x ≤ 24000000000) ∧ 0 ≤ cost b sets v l := by
 have key : ∀ x ∈ (sets.map fun x => eSum x 0 (errs b l v)), -24000000000 ≤ x ∧ x ≤ 24000000000 := by
  intro x hx
  obtain ⟨s, _, rfl⟩ := List.mem_map.1 hx
  have hbd := errs_bd (sets := sets) hv hl hy (by omega) hn hs
  have := eSum_bd s (errs b l v) 0 hbd
  have hlen := errs_len (b := b) hl
  omega
 exact ⟨key, (gr_bd 24000000000 (by omega) _ key).1⟩
theorem leaf_ev (st : List Int × Int) (l : List Int) (hl : l.length = v.length) (hy : ∀ y ∈ l, -1000001 ≤ y ∧ y ≤ 1000001) : Ev (fun k => impl_SystemRounding.leaf k p b sets v l st) (upd b sets v st l) := by
 unfold impl_SystemRounding.leaf upd
 obtain ⟨hc, h0⟩ := cost_in hv h12 hn hs l hl hy
 refine Ev.bind (implSetErrs_ev hv hl hy (by omega) hn hs) (Ev.bind (greatest_ev _ (by rw [List.length_map]; omega) (fun x hx => by have := hc x hx; omega)) ?_)
 show Ev (fun _ => if st.2 < 0 then some (l, cost b sets v l) else if cost b sets v l < st.2 then some (l, cost b sets v l) else some st) _
 by_cases c1 : st.2 < 0
 ·simp only [if_pos c1]; exact Ev.now _
 ·simp only [if_neg c1]
  by_cases c2 : cost b sets v l < st.2
  ·simp only [if_pos c2]; exact Ev.now _
  ·simp only [if_neg c2]; exact Ev.now _
omit hv h12 hn hs in
theorem compact_two (a c : Int) : compactL [a, c] = if c = a then [a] else [a, c] := by
 have k0 : Go.Lib.keeps #[a, c] 0 = true := by simp [Go.Lib.keeps]
 have k1 : Go.Lib.keeps #[a, c] 1 = decide (c ≠ a) := by simp [Go.Lib.keeps]
 show List.map _ (List.filter (Go.Lib.keeps #[a, c]) [0, 1]) = _
 rw [List.filter_cons, k0, if_pos rfl, List.filter_cons, k1]
 by_cases e : c = a
 ·simp [e]
 ·simp [e]
theorem choices_tells (i : Nat) (hi : i < v.length) : impl_Values_choices.f b v (i : Int) = some (ch b v[i]) := by
 obtain ⟨b1, b2, b3⟩ := valsOk_is hv
 have hx := b3 _ (List.getElem_mem hi)
 unfold impl_Values_choices.f
 rw [if_pos (by omega), if_pos (by omega), rd_nat hi, implFloor_tells b _ b1 hx, Option.bind_some, implCeil_tells b _ b1 hx, Option.bind_some]
 unfold slices_Compact_int64_int64.f
 rw [if_pos (by simp), Option.bind_some]
 congr 1
 rw [cv_is b v[i] b1.1]
 rw [compact_two]
 unfold ch
 by_cases c : fv b v[i] * b = v[i]
 ·rw [if_pos c, if_pos c, if_pos rfl]
 ·rw [if_neg c, if_neg c, if_neg (by omega)]
theorem find_ev : ∀ (r pre : List Int) (st : List Int × Int), pre.length + r.length = v.length → r = v.drop pre.length → (∀ y ∈ pre, -1000001 ≤ y ∧ y ≤ 1000001) →
  Ev (fun k => impl_SystemRounding.find p b sets v k pre st) (((cands b r).map (pre ++ ·)).foldl (upd b sets v) st)
 | [], pre, st, hl, hr, hy => by
  rw [List.length_nil, Nat.add_zero] at hl
  refine Ev.step (fun k => by rw [impl_SystemRounding.find]) ?_
  simp only [if_pos (show pre.length < 1000000 by omega), if_pos (show (pre.length : Int) = (v.length : Int) by omega), cands, List.map_cons, List.map_nil, List.append_nil, List.foldl_cons, List.foldl_nil]
  exact leaf_ev hv h12 hn hs st pre hl hy
 | x :: r, pre, st, hl, hr, hy => by
  rw [List.length_cons] at hl
  have hi : pre.length < v.length := by omega
  have hx : v[pre.length] = x ∧ r = v.drop (pre.length + 1) := by
   rw [List.drop_eq_getElem_cons hi] at hr
   injection hr with h1 h2
   exact ⟨h1.symm, h2⟩
  obtain ⟨b1, b2, b3⟩ := valsOk_is hv
  have hxb := b3 _ (List.getElem_mem hi)
  rw [hx.1] at hxb
  refine Ev.step (fun k => by rw [impl_SystemRounding.find]) ?_
  simp only [if_pos (show pre.length < 1000000 by omega), if_neg (show ¬ (pre.length : Int) = (v.length : Int) by omega)]
  refine ev_bind' (choices_tells hv h12 hn hs pre.length hi) ?_
  rw [hx.1]
  have hch := ch_bd b x hxb
  have loop : ∀ (cs : List Int) (st : List Int × Int), (∀ c ∈ cs, -1000001 ≤ c ∧ c ≤ 1000001) → Ev (fun k => impl_SystemRounding.loop (impl_SystemRounding.find p b sets v k) pre cs st) (((cs.flatMap fun c => (cands b r).map (c :: ·)).map (pre ++ ·)).foldl (upd b sets v) st) := by
   intro cs
   induction cs with
   | nil =>
    intro st _
    simp only [impl_SystemRounding.loop, List.flatMap_nil, List.map_nil, List.foldl_nil]
    exact Ev.now _
   | cons c cs ih =>
    intro st hc
    have h1 := find_ev r (pre ++ [c]) st (by rw [List.length_append]; simp; omega) (by rw [List.length_append]; exact hx.2) (fun y hy' => by
     rcases List.mem_append.1 hy' with h | h
     ·exact hy y h
     ·have : y = c := by simpa using h
      rw [this]
      exact hc c (by simp))
    have h2 := ih (((cands b r).map ((pre ++ [c]) ++ ·)).foldl (upd b sets v) st) (fun z hz => hc z (List.mem_cons_of_mem _ hz))
    simp only [impl_SystemRounding.loop, List.flatMap_cons, List.map_append, List.foldl_append, List.map_map]
    refine Ev.bind h1 ?_
    have e : ((fun x => pre ++ x) ∘ fun x => c :: x) = fun x => (pre ++ [c]) ++ x := by funext t; simp
    rw [e]
    exact h2
  exact loop (ch b x) st hch
end
def lst (b : Int) : List Int → Nat → List Int
 | [], _ => []
 | x :: r, u => (fv b x + ((bitAt u r.length : Nat) : Int)) :: lst b r u
def fit (b : Int) : List Int → Nat → Bool
 | [], _ => true
 | x :: r, u => (decide (bitAt u r.length = 0) || decide (fv b x * b ≠ x)) && fit b r u
theorem bit_high (u m p t : Nat) (h : p < m) : bitAt (u + 2 ^ m * t) p = bitAt u p := by
 unfold bitAt
 obtain ⟨q, rfl⟩ : ∃ q, m = p + 1 + q := ⟨m - p - 1, by omega⟩
 have e : 2 ^ (p + 1 + q) * t = 2 ^ p * (2 * (2 ^ q * t)) := by
  rw [Nat.pow_add, Nat.pow_succ]
  simp only [Nat.mul_assoc]
 rw [e, Nat.add_mul_div_left _ _ (Nat.pow_pos (by omega))]
 omega
theorem lst_high (b : Int) (m t : Nat) : ∀ (r : List Int) (u : Nat), r.length ≤ m → lst b r (u + 2 ^ m * t) = lst b r u
 | [], _, _ => rfl
 | x :: r, u, h => by
  rw [List.length_cons] at h
  rw [lst, lst, bit_high u m r.length t (by omega), lst_high b m t r u (by omega)]
theorem fit_high (b : Int) (m t : Nat) : ∀ (r : List Int) (u : Nat), r.length ≤ m → fit b r (u + 2 ^ m * t) = fit b r u
 | [], _, _ => rfl
 | x :: r, u, h => by
  rw [List.length_cons] at h
  rw [fit, fit, bit_high u m r.length t (by omega), fit_high b m t r u (by omega)]
theorem bit_low (u m : Nat) (h : u < 2 ^ m) : bitAt u m = 0 ∧ bitAt (u + 2 ^ m * 1) m = 1 := by
 unfold bitAt
 refine ⟨by rw [Nat.div_eq_of_lt h], ?_⟩
 rw [Nat.add_mul_div_left _ _ (Nat.pow_pos (by omega)), Nat.div_eq_of_lt h]
def some_ (b : Int) (v : List Int) (u : Nat) : Option (List Int) := if fit b v u = true then some (lst b v u) else none
theorem fm_congr {α β : Type} {f g : α → Option β} : ∀ {l : List α}, (∀ x ∈ l, f x = g x) → l.filterMap f = l.filterMap g
 | [], _ => rfl
 | x :: l, h => by rw [List.filterMap_cons, List.filterMap_cons, h x (by simp), fm_congr (fun y hy => h y (List.mem_cons_of_mem _ hy))]
theorem ups_cands (b : Int) : ∀ v : List Int, (List.range (2 ^ v.length)).filterMap (some_ b v) = cands b v
 | [] => by simp [some_, fit, lst, cands, List.range_succ]
 | x :: r => by
  have ih := ups_cands b r
  rw [List.length_cons, Nat.pow_succ, show 2 ^ r.length * 2 = 2 ^ r.length + 2 ^ r.length by omega, List.range_add, List.filterMap_append, List.filterMap_map]
  have low : (List.range (2 ^ r.length)).filterMap (some_ b (x :: r)) = ((List.range (2 ^ r.length)).filterMap (some_ b r)).map (fv b x :: ·) := by
   rw [List.map_filterMap]
   refine fm_congr fun u hu => ?_
   have hu := List.mem_range.1 hu
   unfold some_
   rw [fit, lst, (bit_low u r.length hu).1]
   simp
  have high : (List.range (2 ^ r.length)).filterMap (some_ b (x :: r) ∘ fun x => 2 ^ r.length + x) = if fv b x * b = x then [] else ((List.range (2 ^ r.length)).filterMap (some_ b r)).map ((fv b x + 1) :: ·) := by
   by_cases c : fv b x * b = x
   ·rw [if_pos c]
    rw [List.filterMap_eq_nil_iff]
    intro u hu
    have hu := List.mem_range.1 hu
    show some_ b (x :: r) (2 ^ r.length + u) = none
    unfold some_
    rw [Nat.add_comm, show u + 2 ^ r.length = u + 2 ^ r.length * 1 by omega, fit, (bit_low u r.length hu).2]
    simp [c]
   ·rw [if_neg c, List.map_filterMap]
    refine fm_congr fun u hu => ?_
    have hu := List.mem_range.1 hu
    show some_ b (x :: r) (2 ^ r.length + u) = _
    unfold some_
    rw [Nat.add_comm, show u + 2 ^ r.length = u + 2 ^ r.length * 1 by omega, fit, lst, (bit_low u r.length hu).2, fit_high b r.length 1 r u (Nat.le_refl _), lst_high b r.length 1 r u (Nat.le_refl _)]
    simp [c]
  rw [low, high, ih, cands]
  unfold ch
  by_cases c : fv b x * b = x
  ·rw [if_pos c, if_pos c]; simp
  ·rw [if_neg c, if_neg c]; simp
theorem fold_filter {α β σ : Type} (g : α → Option β) (f : σ → β → σ) (h : σ → α → σ) (h1 : ∀ s x, g x = none → h s x = s) (h2 : ∀ s x y, g x = some y → h s x = f s y) : ∀ (l : List α) (s : σ), (l.filterMap g).foldl f s = l.foldl h s
 | [], s => rfl
 | x :: l, s => by
  rw [List.filterMap_cons, List.foldl_cons]
  cases e : g x with
  | none => rw [h1 s x e]; exact fold_filter g f h h1 h2 l s
  | some y => rw [List.foldl_cons, h2 s x y e]; exact fold_filter g f h h1 h2 l (f s y)
section
variable {b : Int} {v sets : List Int} (hv : valsOk b v = true) (h12 : v.length ≤ 12) (hn : sets.length ≤ 12) (hs : ∀ x ∈ sets, 0 ≤ x ∧ x.toNat < 4096)
include hv h12 hn hs
theorem lst_len : ∀ (r : List Int) (u : Nat), (lst b r u).length = r.length
 | [], _ => rfl
 | x :: r, u => by rw [lst, List.length_cons, List.length_cons, lst_len r u]
theorem lst_bd : ∀ (r : List Int) (u : Nat), (∀ x ∈ r, -1000000 ≤ x ∧ x ≤ 1000000) → ∀ y ∈ lst b r u, -1000001 ≤ y ∧ y ≤ 1000001
 | [], _, _, y, hy => by simp [lst] at hy
 | x :: r, u, h, y, hy => by
  rw [lst] at hy
  rcases List.mem_cons.1 hy with rfl | hy
  ·have := fv_bd b x (h x (by simp))
   have := bitAt_le u r.length
   omega
  ·exact lst_bd r u (fun z hz => h z (List.mem_cons_of_mem _ hz)) y hy
def step1 (b : Int) (sets v : List Int) (st : List Int × Int) (u : Nat) : List Int × Int := match some_ b v u with
 | some l => upd b sets v st l
 | none => st
theorem inner_ev (st : List Int × Int) (u : Nat) (hu : u < 4096) (R : List Int × Int × Bool)
  (cont : Ev (fun k => spec_SystemRounding.l0 k (step1 b sets v st u).1 (step1 b sets v st u).2 ((u + 1 : Nat) : Int) (v.length : Int) sets b v) R) :
  Ev (fun k => spec_SystemRounding.l1 k st.1 st.2 (u : Int) [] true 0 (v.length : Int) sets b v) R := by
 obtain ⟨b1, b2, b3⟩ := valsOk_is hv
 have gen := ev_fold v (fun m (s : List Int × Bool) k => spec_SystemRounding.l1 k st.1 st.2 (u : Int) s.1 s.2 (m : Int) (v.length : Int) sets b v) (fun d s => R) (fun m s => s.1 ++ lst b (v.drop m) u = lst b v u ∧ (s.2 && fit b (v.drop m) u) = fit b v u ∧ s.1.length = m) ?_ ?_ 0 ([], true) (by omega) ⟨by simp, by simp, rfl⟩
 ·exact gen
 ·rintro ⟨l, f⟩ ⟨h1, h2, h3⟩
  simp only at h1 h2 h3
  rw [List.drop_length] at h1 h2
  rw [show lst b [] u = [] from rfl, List.append_nil] at h1
  rw [show fit b [] u = true from rfl, Bool.and_true] at h2
  subst h1 h2
  refine Ev.step (fun k => by rw [spec_SystemRounding.l1]) ?_
  rw [w_succ (m := u) (by omega)]
  simp only [if_neg (show ¬ (v.length : Int) < (v.length : Int) by omega)]
  by_cases c : fit b v u = true
  ·have hl := lst_len (b := b) hv h12 hn hs v u
   have hy := lst_bd (b := b) hv h12 hn hs v u b3
   obtain ⟨hc, h0⟩ := cost_in hv h12 hn hs _ hl hy
   have e1 : step1 b sets v st u = upd b sets v st (lst b v u) := by unfold step1 some_; rw [if_pos c]
   rw [e1] at cont
   simp only [c, if_true]
   refine Ev.bind (specSetErrs_ev hv hl hy (by omega) hn hs) (Ev.bind (l08Most_ev _ (by rw [List.length_map]; omega) (fun x hx => by have := hc x hx; omega)) ?_)
   show Ev (fun k => if st.2 < 0 then spec_SystemRounding.l0 k (lst b v u) (cost b sets v (lst b v u)) _ _ _ _ _ else if cost b sets v (lst b v u) < st.2 then spec_SystemRounding.l0 k (lst b v u) (cost b sets v (lst b v u)) _ _ _ _ _ else spec_SystemRounding.l0 k st.1 st.2 _ _ _ _ _) R
   unfold upd at cont
   by_cases c1 : st.2 < 0
   ·simp only [if_pos c1] at cont ⊢; exact cont
   ·by_cases c2 : cost b sets v (lst b v u) < st.2
    ·simp only [if_neg c1, if_pos c2] at cont ⊢; exact cont
    ·simp only [if_neg c1, if_neg c2] at cont ⊢; exact cont
  ·have e1 : step1 b sets v st u = st := by unfold step1 some_; rw [if_neg c]
   rw [e1] at cont
   simp only [if_neg c]
   exact cont
 ·rintro m hm ⟨l, f⟩ ⟨h1, h2, h3⟩ ih
  simp only at h1 h2 h3
  have hx := b3 _ (List.getElem_mem hm)
  have hbd := fv_bd b v[m] hx
  have hpb := prod_bd (b := b) (y := fv b v[m]) b1 (by omega)
  have hdl : (v.drop (m + 1)).length = v.length - 1 - m := by rw [List.length_drop]; omega
  rw [List.drop_eq_getElem_cons hm, lst, hdl] at h1
  rw [List.drop_eq_getElem_cons hm, fit, hdl] at h2
  have hbt := bit_tells u (v.length - 1 - m) hu (by omega)
  have hbl := bitAt_le u (v.length - 1 - m)
  refine Ev.step (fun k => by rw [spec_SystemRounding.l1]) ?_
  have hw1 : wrap64 ((v.length : Int) - 1) = ((v.length - 1 : Nat) : Int) := w_pred (by omega) (by omega)
  have hw2 : wrap64 (((v.length - 1 : Nat) : Int) - (m : Int)) = ((v.length - 1 - m : Nat) : Int) := by rw [w64 (by omega) (by omega)]; omega
  simp only [if_pos (show (m : Int) < (v.length : Int) by omega), if_pos (show (0 : Int) ≤ (m : Int) by omega), rd_nat hm]
  refine ev_bind' (specFloor_tells b _ b1 hx) ?_
  rw [hw1, hw2, uw _ ⟨by omega, by omega⟩, hbt, w_succ (m := m) (by omega), w64 (x := fv b v[m] + ((bitAt u (v.length - 1 - m) : Nat) : Int)) (by omega) (by omega)]
  rw [Int.mul_comm] at hpb
  rw [w64 (x := fv b v[m] * b) (by omega) (by omega)]
  simp only [if_pos (show (0 : Int) ≤ ((v.length - 1 - m : Nat) : Int) by omega), if_pos (show l.length < 17592186044416 by omega)]
  have hnext : ∀ f', (f' && fit b (v.drop (m + 1)) u) = fit b v u → Ev (fun k => spec_SystemRounding.l1 k st.1 st.2 (u : Int) (l ++ [fv b v[m] + ((bitAt u (v.length - 1 - m) : Nat) : Int)]) f' ((m + 1 : Nat) : Int) (v.length : Int) sets b v) R := fun f' hf' => ih (_, f') ⟨by simpa using h1, hf', by simp [h3]⟩
  cases f with
  | false =>
   simp only [Bool.false_eq_true, if_false]
   exact hnext false (by simpa using h2)
  | true =>
   simp only [if_true]
   by_cases c0 : bitAt u (v.length - 1 - m) = 0
   ·simp only [if_pos (show ((bitAt u (v.length - 1 - m) : Nat) : Int) = 0 by omega)]
    exact hnext true (by rw [← h2]; simp [c0])
   ·simp only [if_neg (show ¬ ((bitAt u (v.length - 1 - m) : Nat) : Int) = 0 by omega)]
    refine hnext _ ?_
    rw [← h2]
    by_cases c1 : fv b v[m] * b = v[m]
    ·simp [c0, c1]
    ·have : (fv b v[m] * b != v[m]) = true := by simpa using c1
     simp [c0, c1, this]
theorem specRounds_all : Ev (fun k => spec_SystemRounding.l0 k [] (-1) 0 (v.length : Int) sets b v) (((cands b v).foldl (upd b sets v) ([], -1)).1, ((cands b v).foldl (upd b sets v) ([], -1)).2, true) := by
 have hp := pow_bd h12
 have hshl := shl_one v.length h12
 have h2 : ((2 : Int) ^ v.length) = ((2 ^ v.length : Nat) : Int) := by exact_mod_cast rfl
 have fin : ∀ s : List Int × Int, (List.range (2 ^ v.length)).foldl (step1 b sets v) s = (cands b v).foldl (upd b sets v) s := by
  intro s
  rw [← ups_cands b v]
  exact (fold_filter (some_ b v) (upd b sets v) (step1 b sets v) (fun s x e => by unfold step1; rw [e]) (fun s x y e => by unfold step1; rw [e]) _ s).symm
 have gen := ev_fold (List.range (2 ^ v.length)) (fun m (s : List Int × Int) k => spec_SystemRounding.l0 k s.1 s.2 (m : Int) (v.length : Int) sets b v) (fun d s => ((d.foldl (step1 b sets v) s).1, (d.foldl (step1 b sets v) s).2, true)) (fun _ _ => True) ?_ ?_ 0 ([], -1) (by omega) trivial
 ·rw [List.drop_zero, fin] at gen
  exact gen
 ·rintro s _
  refine Ev.step (fun k => by rw [spec_SystemRounding.l0]) ?_
  rw [List.length_range, uw _ ⟨by omega, by omega⟩, hshl, h2]
  simp only [if_pos (show (0 : Int) ≤ (v.length : Int) by omega), if_neg (show ¬ ((2 ^ v.length : Nat) : Int) < ((2 ^ v.length : Nat) : Int) by omega), List.foldl_nil]
  exact Ev.now _
 ·rintro m hm s _ ih
  have hm' : m < 2 ^ v.length := by simpa using hm
  refine Ev.step (fun k => by rw [spec_SystemRounding.l0]) ?_
  rw [uw _ ⟨by omega, by omega⟩, hshl, h2]
  simp only [if_pos (show (0 : Int) ≤ (v.length : Int) by omega), if_pos (show (m : Int) < ((2 ^ v.length : Nat) : Int) by omega), List.getElem_range, List.foldl_cons]
  exact inner_ev hv h12 hn hs s m (by omega) _ (ih _ trivial)
end
theorem full_lt3 {p : Nat} (h : p ≤ 12) {x : Int} (hx : 0 ≤ x ∧ x ≤ full p) : x.toNat < 2 ^ p ∧ x.toNat < 4096 := by
 rw [full_nat p h] at hx
 have := pow_bd h
 omega
def sysRound (p : Int) (sets : List Int) (b : Int) (v : List Int) : List Int × Int × Bool :=
 if validSys p sets = true ∧ valsOk b v = true ∧ (v.length : Int) = p then (((cands b v).foldl (upd b sets v) ([], -1)).1, ((cands b v).foldl (upd b sets v) ([], -1)).2, true) else ([], 0, false)
theorem specBoth_ev (p : Int) (sets : List Int) (b : Int) (v : List Int) (hx : sets.length ≤ 1048576) (hx' : v.length ≤ 1048576) : Ev (fun k => spec_l10Both.f k p sets b v) (decide (validSys p sets = true ∧ valsOk b v = true ∧ (v.length : Int) = p)) := by
 unfold spec_l10Both.f
 refine Ev.bind (specIs_ev p sets hx) ?_
 by_cases h1 : validSys p sets = true
 ·simp only [h1, if_true, true_and]
  refine Ev.bind (specVals_ev b v hx') ?_
  by_cases h2 : valsOk b v = true
  ·simp only [h2, if_true, true_and]
   rw [show decide ((v.length : Int) = p) = ((v.length : Int) == p) from by by_cases c : (v.length : Int) = p <;> simp [c]]
   exact Ev.now _
  ·simp only [if_neg h2, h2, false_and, decide_false]
   exact Ev.now _
 ·simp only [if_neg h1, h1, false_and, decide_false]
  exact Ev.now _
theorem fits_tells (p : Int) (sets : List Int) (b : Int) (v : List Int) : impl_fits.f p sets b v = some (decide (validSys p sets = true ∧ valsOk b v = true ∧ (v.length : Int) = p)) := by
 unfold impl_fits.f impl_size_int64.f
 rw [implValidSys_tells, Option.bind_some]
 by_cases h1 : validSys p sets = true
 ·rw [if_pos h1, implVals_tells, Option.bind_some]
  by_cases h2 : valsOk b v = true
  ·rw [if_pos h2, Option.bind_some]
   congr 1
   by_cases c : (v.length : Int) = p
   ·simp [h1, h2, c]
   ·simp [h1, h2, c, Ne.symm c]
  ·rw [if_neg h2]
   simp [h2]
 ·rw [if_neg h1]
  simp [h1]
theorem sysRound_both (p : Int) (sets : List Int) (b : Int) (v : List Int) (hx : sets.length ≤ 1048576) (hx' : v.length ≤ 1048576) :
  Ev (fun k => spec_SystemRounding.f k p sets b v) (sysRound p sets b v) ∧ Ev (fun k => impl_SystemRounding.f k p sets b v) (sysRound p sets b v) := by
 unfold spec_SystemRounding.f impl_SystemRounding.f sysRound
 have hb := specBoth_ev p sets b v hx hx'
 by_cases c : validSys p sets = true ∧ valsOk b v = true ∧ (v.length : Int) = p
 ·rw [decide_eq_true c] at hb
  obtain ⟨h1, h2, rfl⟩ := c
  obtain ⟨⟨q, hq, hq12⟩, hn, hs⟩ := validSys_of h1
  have h12 : v.length ≤ 12 := by omega
  have hs' : ∀ x ∈ sets, 0 ≤ x ∧ x.toNat < 4096 := fun x hx => ⟨(hs x hx).1, (full_lt3 h12 (hs x hx)).2⟩
  rw [if_pos ⟨h1, h2, rfl⟩]
  refine ⟨Ev.bind hb ?_, ev_bind' (a := true) (by rw [fits_tells, decide_eq_true ⟨h1, h2, rfl⟩]) ?_⟩
  ·simp only [if_true]
   exact specRounds_all h2 h12 hn hs'
  ·simp only [if_true]
   have := find_ev (p := (v.length : Int)) h2 h12 hn hs' v [] ([], -1) (by simp) rfl (by simp)
   rw [show ((cands b v).map (([] : List Int) ++ ·)) = cands b v by simp] at this
   exact Ev.bind this (Ev.now _)
 ·rw [decide_eq_false c] at hb
  rw [if_neg c]
  refine ⟨Ev.bind hb ?_, ev_bind' (a := false) (by rw [fits_tells, decide_eq_false c]) ?_⟩
  ·simp only [Bool.false_eq_true, if_false]
   exact Ev.now _
  ·simp only [Bool.false_eq_true, if_false]
   exact Ev.now _
theorem fold_upd (b : Int) (sets v : List Int) : ∀ (ls : List (List Int)) (st : List Int × Int), (∀ l ∈ ls, 0 ≤ cost b sets v l) → 0 ≤ st.2 →
  let e := ls.foldl (upd b sets v) st
  e.2 ≤ st.2 ∧ 0 ≤ e.2 ∧ (∀ l ∈ ls, e.2 ≤ cost b sets v l) ∧ (e = st ∨ ∃ l ∈ ls, e = (l, cost b sets v l))
 | [], st, _, h => ⟨Int.le_refl _, h, by simp, .inl rfl⟩
 | l :: ls, st, hc, h => by
  have h0 := hc l (by simp)
  have hst : (upd b sets v st l).2 ≤ st.2 ∧ 0 ≤ (upd b sets v st l).2 ∧ (upd b sets v st l).2 ≤ cost b sets v l ∧ (upd b sets v st l = st ∨ upd b sets v st l = (l, cost b sets v l)) := by
   unfold upd
   rw [if_neg (by omega)]
   by_cases c : cost b sets v l < st.2
   ·rw [if_pos c]; exact ⟨by simp; omega, h0, Int.le_refl _, .inr rfl⟩
   ·rw [if_neg c]; exact ⟨Int.le_refl _, h, by omega, .inl rfl⟩
  obtain ⟨a1, a2, a3, a4⟩ := hst
  obtain ⟨b1, b2, b3, b4⟩ := fold_upd b sets v ls (upd b sets v st l) (fun x hx => hc x (List.mem_cons_of_mem _ hx)) a2
  simp only [List.foldl_cons]
  refine ⟨by omega, b2, ?_, ?_⟩
  ·intro x hx
   rcases List.mem_cons.1 hx with rfl | hx
   ·omega
   ·exact b3 x hx
  ·rcases b4 with e | ⟨x, hx, e⟩
   ·rw [e]
    rcases a4 with e2 | e2
    ·exact .inl e2
    ·exact .inr ⟨l, by simp, e2⟩
   ·exact .inr ⟨x, List.mem_cons_of_mem _ hx, e⟩
theorem cands_ne (b : Int) : ∀ v : List Int, ∃ l r, cands b v = l :: r
 | [] => ⟨[], [], rfl⟩
 | x :: r => by
  obtain ⟨l, t, h⟩ := cands_ne b r
  rw [cands, h]
  unfold ch
  split <;> exact ⟨_, _, rfl⟩
theorem best_is {b : Int} {sets v : List Int} (hc : ∀ l ∈ cands b v, 0 ≤ cost b sets v l) :
  let e := (cands b v).foldl (upd b sets v) ([], -1)
  (∃ l ∈ cands b v, e = (l, cost b sets v l)) ∧ ∀ l ∈ cands b v, e.2 ≤ cost b sets v l := by
 obtain ⟨l, r, h⟩ := cands_ne b v
 rw [h] at hc ⊢
 simp only [List.foldl_cons]
 have e0 : upd b sets v ([], -1) l = (l, cost b sets v l) := by unfold upd; rw [if_pos (by simp)]
 rw [e0]
 obtain ⟨b1, b2, b3, b4⟩ := fold_upd b sets v r (l, cost b sets v l) (fun x hx => hc x (List.mem_cons_of_mem _ hx)) (hc l (by simp))
 refine ⟨?_, ?_⟩
 ·rcases b4 with e | ⟨x, hx, e⟩
  ·exact ⟨l, by simp, e⟩
  ·exact ⟨x, List.mem_cons_of_mem _ hx, e⟩
 ·intro x hx
  rcases List.mem_cons.1 hx with rfl | hx
  ·exact b1
  ·exact b3 x hx
end Go.Proofs.Ytdlnhddpgopghaa.Com
namespace Go.Proofs.Ytdlnhddpgopghaa.Com
set_option linter.unusedSimpArgs false
set_option linter.unusedVariables false
set_option linter.unusedSectionVars false
open Go.RowKit Go.Proofs.YtdlnhddpgopghaaW.PrintWords Go.Proofs.YtdlnhddpgopghaaW.PrintMore Go.Proofs.Ytdlnhddpgopghaa.Q
def sm : Nat → (Nat → Int) → Int
 | 0, _ => 0
 | n + 1, f => sm n f + f n
theorem sm_congr {f g : Nat → Int} : ∀ n, (∀ i, i < n → f i = g i) → sm n f = sm n g
 | 0, _ => rfl
 | n + 1, h => by rw [sm, sm, sm_congr n (fun i hi => h i (by omega)), h n (by omega)]
theorem sm_add (f g : Nat → Int) : ∀ n, sm n (fun i => f i + g i) = sm n f + sm n g
 | 0 => rfl
 | n + 1 => by simp only [sm, sm_add f g n]; omega
theorem sm_sub (f g : Nat → Int) : ∀ n, sm n (fun i => f i - g i) = sm n f - sm n g
 | 0 => rfl
 | n + 1 => by simp only [sm, sm_sub f g n]; omega
theorem sm_mul (c : Int) (f : Nat → Int) : ∀ n, sm n (fun i => c * f i) = c * sm n f
 | 0 => by simp [sm]
 | n + 1 => by simp only [sm, sm_mul c f n, Int.mul_add]
theorem sm_zero : ∀ n, sm n (fun _ => 0) = 0
 | 0 => rfl
 | n + 1 => by simp [sm, sm_zero n]
theorem sm_bd {f : Nat → Int} (B : Int) : ∀ n : Nat, (∀ i, i < n → -B ≤ f i ∧ f i ≤ B) → -(B * n) ≤ sm n f ∧ sm n f ≤ B * n
 | 0, _ => by simp [sm]
 | n + 1, h => by
  have ih := sm_bd B n (fun i hi => h i (by omega))
  have hn := h n (by omega)
  simp only [sm]
  rw [Int.natCast_succ, Int.mul_add, Int.mul_one]
  omega
theorem sm_swap (f : Nat → Nat → Int) (m : Nat) : ∀ n, sm n (fun i => sm m (fun j => f i j)) = sm m (fun j => sm n (fun i => f i j))
 | 0 => by simp [sm, sm_zero]
 | n + 1 => by
  simp only [sm, sm_swap f m n]
  rw [← sm_add]
theorem sm_two {f : Nat → Int} {j k : Nat} (hne : j ≠ k) (p q : Int) : ∀ n, j < n → k < n → sm n (fun t => if t = j then p else if t = k then q else f t) = sm n f - f j - f k + p + q
 | 0, h, _ => by omega
 | n + 1, hj, hk => by
  have one : ∀ (z : Nat) (y : Int) (g : Nat → Int) (m : Nat), sm m (fun t => if t = z then y else g t) = sm m g + (if z < m then y - g z else 0) := by
   intro z y g m
   induction m with
   | zero => simp [sm]
   | succ m ih =>
    simp only [sm, ih]
    by_cases e : m = z
    ·subst e; simp; omega
    ·rw [if_neg e]
     by_cases c : z < m
     ·rw [if_pos c, if_pos (by omega)]; omega
     ·rw [if_neg c, if_neg (by omega)]; omega
  rw [one j p (fun t => if t = k then q else f t) (n + 1), one k q f (n + 1), if_pos hj, if_pos hk, if_neg hne]
  omega
def dot (S : Nat) (f : Nat → Int) : Int := sm 12 (fun i => (bitAt S i : Int) * f i)
theorem dot_add (S : Nat) (f g : Nat → Int) : dot S (fun i => f i + g i) = dot S f + dot S g := by
 unfold dot
 rw [← sm_add]
 exact sm_congr 12 (fun i _ => Int.mul_add _ _ _)
theorem dot_sub (S : Nat) (f g : Nat → Int) : dot S (fun i => f i - g i) = dot S f - dot S g := by
 unfold dot
 rw [← sm_sub]
 exact sm_congr 12 (fun i _ => Int.mul_sub _ _ _)
theorem dot_mul (S : Nat) (c : Int) (f : Nat → Int) : dot S (fun i => c * f i) = c * dot S f := by
 unfold dot
 rw [← sm_mul]
 exact sm_congr 12 (fun i _ => by rw [Int.mul_left_comm])
theorem dot_bd (S : Nat) (f : Nat → Int) (B : Int) (hB : 0 ≤ B) (h : ∀ i, -B ≤ f i ∧ f i ≤ B) : -(B * 12) ≤ dot S f ∧ dot S f ≤ B * 12 := by
 refine sm_bd B 12 (fun i _ => ?_)
 have hb := bitAt_le S i
 have := h i
 rcases (show bitAt S i = 0 ∨ bitAt S i = 1 by omega) with e | e
 ·rw [e]; simp; exact hB
 ·rw [e]; simp; exact this
theorem dot_congr {S : Nat} {f g : Nat → Int} (h : ∀ i, f i = g i) : dot S f = dot S g := by
 rw [show f = g from funext h]
theorem dot_sum (S : Nat) (f : Nat → Nat → Int) (D : Nat) : dot S (fun i => sm D (fun j => f j i)) = sm D (fun j => dot S (f j)) := by
 unfold dot
 exact (sm_congr 12 (fun i _ => (sm_mul _ _ D).symm)).trans (sm_swap (fun i j => (bitAt S i : Int) * f j i) D 12)
theorem bit_test (s i : Nat) : bitAt s i = (s.testBit i).toNat := by unfold bitAt; rw [Nat.toNat_testBit]
theorem bit_and (a b i : Nat) : bitAt (a &&& b) i = bitAt a i * bitAt b i := by
 rw [bit_test, bit_test, bit_test, Nat.testBit_and]
 cases a.testBit i <;> cases b.testBit i <;> rfl
theorem popf_sm (m : Nat) : ∀ n, ((popf n m : Nat) : Int) = sm n (fun i => (bitAt m i : Int))
 | 0 => rfl
 | n + 1 => by rw [popf_up, sm, ← popf_sm m n]; omega
theorem imb_dot (S J r : Nat) : imb (S &&& J) r = dot S (fun i => (bitAt J i : Int) * (2 * (bitAt r i : Int) - 1)) := by
 unfold imb pop dot
 rw [popf_sm, popf_sm, ← sm_mul, ← sm_sub]
 refine sm_congr 12 (fun i _ => ?_)
 show 2 * ((bitAt (S &&& J &&& r) i : Nat) : Int) - ((bitAt (S &&& J) i : Nat) : Int) = (bitAt S i : Int) * ((bitAt J i : Int) * (2 * (bitAt r i : Int) - 1))
 rw [bit_and, bit_and]
 have h1 := bitAt_le S i
 have h2 := bitAt_le J i
 have h3 := bitAt_le r i
 rcases (show bitAt S i = 0 ∨ bitAt S i = 1 by omega) with e1 | e1 <;> rcases (show bitAt J i = 0 ∨ bitAt J i = 1 by omega) with e2 | e2 <;> rcases (show bitAt r i = 0 ∨ bitAt r i = 1 by omega) with e3 | e3 <;> rw [e1, e2, e3] <;> rfl
def maskOf (f : Nat → Bool) : Nat → Nat
 | 0 => 0
 | n + 1 => maskOf f n + (if f n = true then 2 ^ n else 0)
theorem mask_lt (f : Nat → Bool) : ∀ n, maskOf f n < 2 ^ n
 | 0 => by simp [maskOf]
 | n + 1 => by
  have := mask_lt f n
  rw [maskOf, Nat.pow_succ]
  split <;> omega
theorem mask_bit (f : Nat → Bool) : ∀ n i, i < n → bitAt (maskOf f n) i = (f i).toNat
 | 0, i, h => by omega
 | n + 1, i, h => by
  have hlt := mask_lt f n
  rw [maskOf]
  by_cases c : i = n
  ·subst c
   have hl := bit_low (maskOf f i) i hlt
   rw [Nat.mul_one] at hl
   by_cases e : f i = true
   ·rw [if_pos e, hl.2, e]; rfl
   ·rw [if_neg e, Nat.add_zero, hl.1]
    simp at e
    rw [e]; rfl
  ·have ih := mask_bit f n i (by omega)
   by_cases e : f n = true
   ·rw [if_pos e]
    have := bit_high (maskOf f n) n i 1 (by omega)
    rw [Nat.mul_one] at this
    rw [this, ih]
   ·rw [if_neg e, Nat.add_zero, ih]
theorem bit_out (m n i : Nat) (h : m < 2 ^ n) (hi : n ≤ i) : bitAt m i = 0 := by
 unfold bitAt
 rw [Nat.div_eq_of_lt (Nat.lt_of_lt_of_le h (Nat.pow_le_pow_right (by omega) hi))]
def Balanced (l : List Nat) (q : Nat) (h : Int) : Prop := ∀ f : Nat → Bool, (∀ i, q ≤ i → f i = false) → ∃ χ : Nat → Int, (∀ i, (f i = true → χ i = 1 ∨ χ i = -1) ∧ (f i = false → χ i = 0)) ∧ ∀ S ∈ l, -h ≤ dot S χ ∧ dot S χ ≤ h
theorem balanced_of {l : List Int} (hl : l.length ≤ 12) (hs : ∀ x ∈ l, 0 ≤ x ∧ x.toNat < 4096) (q : Nat) : Balanced (l.map Int.toNat) q (herTo l (2 ^ q)) := by
 intro f hf
 have hJ := mask_lt f q
 obtain ⟨J, hJe⟩ : ∃ J, maskOf f q = J := ⟨_, rfl⟩
 rw [hJe] at hJ
 have hle := her_to hl hs (2 ^ q) J hJ
 have hbit : ∀ i, (bitAt J i : Int) = ((f i).toNat : Int) := by
  intro i
  by_cases c : i < q
  ·rw [← hJe, mask_bit f q i c]
  ·rw [bit_out J q i hJ (by omega), hf i (by omega)]; rfl
 have hmin : ∃ r, most l J r ≤ herTo l (2 ^ q) := by
  unfold her at hle
  rcases minD_char (fun r => (most_bd hl hs J r).1) (fun r => decide (r &&& J = r)) (J + 1) with ⟨h, _⟩ | ⟨⟨r, _, _, e⟩, _⟩
  ·have := h 0 (by omega)
   rw [decide_eq_true (Nat.zero_and J)] at this
   cases this
  ·rw [e] at hle
   exact ⟨r, hle⟩
 obtain ⟨r, hr⟩ := hmin
 refine ⟨fun i => (bitAt J i : Int) * (2 * (bitAt r i : Int) - 1), fun i => ⟨fun h => ?_, fun h => ?_⟩, ?_⟩
 ·show (bitAt J i : Int) * (2 * (bitAt r i : Int) - 1) = 1 ∨ (bitAt J i : Int) * (2 * (bitAt r i : Int) - 1) = -1
  rw [hbit, h]
  have := bitAt_le r i
  rcases (show bitAt r i = 0 ∨ bitAt r i = 1 by omega) with e | e <;> rw [e] <;> decide
 ·show (bitAt J i : Int) * (2 * (bitAt r i : Int) - 1) = 0
  rw [hbit, h]; simp
 ·intro S hS
  obtain ⟨x, hx, rfl⟩ := List.mem_map.1 hS
  rw [← imb_dot]
  have key : ∀ (zs : List Int) (z : Int), z ∈ zs → z ≤ gr zs ∧ -z ≤ gr zs := by
   intro zs
   have gen : ∀ (zs : List Int) (s : Int), s ≤ zs.foldl (fun s x => mx (mx s x) (-x)) s ∧ ∀ z ∈ zs, z ≤ zs.foldl (fun s x => mx (mx s x) (-x)) s ∧ -z ≤ zs.foldl (fun s x => mx (mx s x) (-x)) s := by
    intro zs
    induction zs with
    | nil => intro s; exact ⟨Int.le_refl _, by simp⟩
    | cons y zs ih =>
     intro s
     rw [List.foldl_cons]
     obtain ⟨h1, h2⟩ := ih (mx (mx s y) (-y))
     have h3 : s ≤ mx (mx s y) (-y) ∧ y ≤ mx (mx s y) (-y) ∧ -y ≤ mx (mx s y) (-y) := by unfold mx; (repeat' split) <;> omega
     refine ⟨by omega, fun z hz => ?_⟩
     rcases List.mem_cons.1 hz with rfl | hz
     ·omega
     ·exact h2 z hz
   exact fun z hz => (gen zs 0).2 z hz
  have := key (l.map fun x => imb (x.toNat &&& J) r) _ (List.mem_map.2 ⟨x, hx, rfl⟩)
  unfold most at hr
  omega
theorem dyadic {l : List Nat} {q : Nat} {h : Int} (hb : Balanced l q h) (h0 : 0 ≤ h) : ∀ (K : Nat) (b : Nat → Int), (∀ i, 0 ≤ b i ∧ b i ≤ 2 ^ K) → (∀ i, q ≤ i → b i = 0) →
  ∃ x : Nat → Int, (∀ i, (x i = 0 ∨ x i = 1) ∧ (b i = 0 → x i = 0)) ∧ ∀ S ∈ l, -((2 ^ K - 1) * h) ≤ dot S (fun i => 2 ^ K * x i - b i) ∧ dot S (fun i => 2 ^ K * x i - b i) ≤ (2 ^ K - 1) * h
 | 0, b, hbd, _ => by
  refine ⟨b, fun i => ⟨by have := hbd i; simp at this; omega, fun e => e⟩, fun S _ => ?_⟩
  have e : dot S (fun i => 2 ^ 0 * b i - b i) = 0 := by
   have : dot S (fun i => 2 ^ 0 * b i - b i) = dot S (fun _ => 0) := dot_congr (fun i => by simp)
   rw [this]
   unfold dot
   simp [sm]
  rw [e]
  simp
 | K + 1, b, hbd, hout => by
  obtain ⟨χ, hχ, hbal⟩ := hb (fun i => decide (b i % 2 = 1)) (fun i hi => by rw [hout i hi]; rfl)
  have hp : (2 : Int) ^ (K + 1) = 2 * 2 ^ K := by rw [Int.pow_succ]; omega
  have hb2 : ∀ i, ∃ c, 2 * c = b i + χ i ∧ 0 ≤ c ∧ c ≤ 2 ^ K ∧ (b i = 0 → c = 0) := by
   intro i
   have h1 := hbd i
   rw [hp] at h1
   obtain ⟨g1, g2⟩ := hχ i
   by_cases c : b i % 2 = 1
   ·have := g1 (decide_eq_true c)
    exact ⟨(b i + χ i) / 2, by omega, by omega, by omega, by omega⟩
   ·have := g2 (decide_eq_false c)
    exact ⟨b i / 2, by omega, by omega, by omega, by omega⟩
  let c : Nat → Int := fun i => Classical.choose (hb2 i)
  have hc : ∀ i, 2 * c i = b i + χ i ∧ 0 ≤ c i ∧ c i ≤ 2 ^ K ∧ (b i = 0 → c i = 0) := fun i => Classical.choose_spec (hb2 i)
  obtain ⟨x, hx, hd⟩ := dyadic hb h0 K c (fun i => ⟨(hc i).2.1, (hc i).2.2.1⟩) (fun i hi => (hc i).2.2.2 (hout i hi))
  refine ⟨x, fun i => ⟨(hx i).1, fun e => (hx i).2 ((hc i).2.2.2 e)⟩, fun S hS => ?_⟩
  have e : dot S (fun i => 2 ^ (K + 1) * x i - b i) = 2 * dot S (fun i => 2 ^ K * x i - c i) + dot S χ := by
   rw [← dot_mul, ← dot_add]
   refine dot_congr (fun i => ?_)
   have := (hc i).1
   rw [hp, Int.mul_sub, ← Int.mul_assoc]
   omega
  have h1 := hd S hS
  have h2 := hbal S hS
  have e3 : (2 ^ (K + 1) - 1) * h = 2 * ((2 ^ K - 1) * h) + h := by
   rw [hp, Int.sub_mul, Int.sub_mul, Int.one_mul, Int.mul_assoc]
   omega
  rw [e, e3]
  omega
theorem round_le {l : List Nat} {q : Nat} {h : Int} (hb : Balanced l q h) (h0 : 0 ≤ h) (D : Int) (hD : 1 ≤ D ∧ D ≤ 12) (a : Nat → Int) (ha : ∀ i, 0 ≤ a i ∧ a i ≤ D) (hout : ∀ i, q ≤ i → a i = 0) :
  ∃ x : Nat → Int, (∀ i, (x i = 0 ∨ x i = 1) ∧ (a i = 0 → x i = 0)) ∧ ∀ S ∈ l, -(h * D) ≤ dot S (fun i => D * x i - a i) ∧ dot S (fun i => D * x i - a i) ≤ h * D := by
 have hb1 : ∀ i, 0 ≤ 1024 * a i / D ∧ 1024 * a i / D ≤ 2 ^ 10 := by
  intro i
  have := ha i
  refine ⟨Int.ediv_nonneg (by omega) (by omega), ?_⟩
  have : 1024 * a i / D ≤ 1024 * D / D := Int.ediv_le_ediv (by omega) (by omega)
  rw [Int.mul_ediv_cancel _ (by omega)] at this
  exact this
 obtain ⟨x, hx, hd⟩ := dyadic hb h0 10 (fun i => 1024 * a i / D) hb1 (fun i hi => by simp [hout i hi])
 refine ⟨x, fun i => ⟨(hx i).1, fun e => (hx i).2 (by simp [e])⟩, fun S hS => ?_⟩
 obtain ⟨g1, g2⟩ := hd S hS
 have hr : ∀ i, -D ≤ D * (1024 * a i / D) - 1024 * a i ∧ D * (1024 * a i / D) - 1024 * a i ≤ D := by
  intro i
  have h1 := Int.emod_nonneg (1024 * a i) (show D ≠ 0 by omega)
  have h2 := Int.emod_lt_of_pos (1024 * a i) (show 0 < D by omega)
  have h3 := Int.mul_ediv_add_emod (1024 * a i) D
  omega
 have hrd := dot_bd S (fun i => D * (1024 * a i / D) - 1024 * a i) D (by omega) hr
 have e : 1024 * dot S (fun i => D * x i - a i) = D * dot S (fun i => 2 ^ 10 * x i - 1024 * a i / D) + dot S (fun i => D * (1024 * a i / D) - 1024 * a i) := by
  rw [← dot_mul, ← dot_mul, ← dot_add]
  refine dot_congr (fun i => ?_)
  rw [Int.mul_sub, Int.mul_sub, show ((2 : Int) ^ 10) = 1024 from rfl, Int.mul_left_comm 1024 D (x i)]
  omega
 generalize dot S (fun i => D * x i - a i) = z at e ⊢
 generalize dot S (fun i => 2 ^ 10 * x i - 1024 * a i / D) = y at e g1 g2
 generalize dot S (fun i => D * (1024 * a i / D) - 1024 * a i) = t at e hrd
 have m1 := Int.mul_le_mul_of_nonneg_left g1 (show 0 ≤ D by omega)
 have m2 := Int.mul_le_mul_of_nonneg_left g2 (show 0 ≤ D by omega)
 have e5 : D * ((2 ^ 10 - 1) * h) = 1023 * (h * D) := by
  rw [show ((2 : Int) ^ 10 - 1) = 1023 from rfl, Int.mul_left_comm, Int.mul_comm D h]
 have hn : 0 ≤ h * D := Int.mul_nonneg h0 (by omega)
 rw [Int.mul_neg] at m1
 rw [e5] at m1 m2
 omega
def sumL : List Nat → (Nat → Int) → Int
 | [], _ => 0
 | S :: r, f => f S + sumL r f
theorem sumL_le {f g : Nat → Int} : ∀ l : List Nat, (∀ S ∈ l, f S ≤ g S) → sumL l f ≤ sumL l g
 | [], _ => Int.le_refl _
 | S :: r, h => by
  have h1 := h S (by simp)
  have h2 := sumL_le r (fun x hx => h x (List.mem_cons_of_mem _ hx))
  simp only [sumL]
  omega
theorem sumL_lt {f g : Nat → Int} : ∀ l : List Nat, (∀ S ∈ l, f S ≤ g S) → (∃ S ∈ l, f S < g S) → sumL l f < sumL l g
 | [], _, ⟨S, h, _⟩ => by simp at h
 | S :: r, h, ⟨T, hT, hlt⟩ => by
  have h1 := h S (by simp)
  have h2 := sumL_le r (fun x hx => h x (List.mem_cons_of_mem _ hx))
  simp only [sumL]
  rcases List.mem_cons.1 hT with rfl | hT
  ·omega
  ·have := sumL_lt r (fun x hx => h x (List.mem_cons_of_mem _ hx)) ⟨T, hT, hlt⟩
   omega
theorem sumL_nn {f : Nat → Int} : ∀ l : List Nat, (∀ S ∈ l, 0 ≤ f S) → 0 ≤ sumL l f
 | [], _ => Int.le_refl _
 | S :: r, h => by
  have h1 := h S (by simp)
  have h2 := sumL_nn r (fun x hx => h x (List.mem_cons_of_mem _ hx))
  simp only [sumL]
  omega
theorem sm_nn {f : Nat → Int} : ∀ n, (∀ i, i < n → 0 ≤ f i) → 0 ≤ sm n f
 | 0, _ => Int.le_refl _
 | n + 1, h => by
  have h1 := h n (by omega)
  have h2 := sm_nn n (fun i hi => h i (by omega))
  simp only [sm]
  omega
structure Deco (D : Nat) (a : Nat → Int) (X : Nat → Nat → Int) : Prop where
 bits : ∀ j i, X j i = 0 ∨ X j i = 1
 sum : ∀ i, sm D (fun j => X j i) = a i
def pot (l : List Nat) (D : Nat) (X : Nat → Nat → Int) : Int := sumL l (fun S => sm D (fun j => dot S (X j) * dot S (X j)))
theorem sq_less {s d e : Int} (hp : (s + d) % 2 = 0) (hq : (s + e) % 2 = 0) (he : -1 ≤ e ∧ e ≤ 1) : e * e ≤ d * d ∧ ((2 ≤ d ∨ d ≤ -2) → e * e < d * d) := by
 rcases (show e = 0 ∨ e = 1 ∨ e = -1 by omega) with rfl | rfl | rfl
 ·have : 0 ≤ d * d := by
   rcases Int.le_total 0 d with h | h
   ·exact Int.mul_nonneg h h
   ·have := Int.mul_nonneg (show 0 ≤ -d by omega) (show 0 ≤ -d by omega)
    rwa [Int.neg_mul_neg] at this
  refine ⟨by simpa using this, fun hd => ?_⟩
  rcases hd with h | h
  ·have := Int.mul_le_mul h h (by omega) (by omega); omega
  ·have := Int.mul_le_mul (show 2 ≤ -d by omega) (show 2 ≤ -d by omega) (by omega) (by omega)
   rw [Int.neg_mul_neg] at this; omega
 all_goals
  have hd : 1 ≤ d ∨ d ≤ -1 := by omega
  refine ⟨?_, fun hd => ?_⟩
  ·rcases hd with h | h
   ·have := Int.mul_le_mul h h (by omega) (by omega); omega
   ·have := Int.mul_le_mul (show 1 ≤ -d by omega) (show 1 ≤ -d by omega) (by omega) (by omega)
    rw [Int.neg_mul_neg] at this; omega
  ·rcases hd with h | h
   ·have := Int.mul_le_mul h h (by omega) (by omega); omega
   ·have := Int.mul_le_mul (show 2 ≤ -d by omega) (show 2 ≤ -d by omega) (by omega) (by omega)
    rw [Int.neg_mul_neg] at this; omega
theorem two_sq (u v : Int) : 2 * (u * u + v * v) = (u + v) * (u + v) + (u - v) * (u - v) := by
 simp only [Int.add_mul, Int.mul_add, Int.sub_mul, Int.mul_sub, Int.mul_comm v u]
 omega
theorem pair_step {l : List Nat} {q : Nat} (hb : Balanced l q 1) {D : Nat} {a : Nat → Int} (hout : ∀ i, q ≤ i → a i = 0) {X : Nat → Nat → Int} (hX : Deco D a X) (hz : ∀ j i, q ≤ i → X j i = 0) {j k : Nat} (hj : j < D) (hk : k < D) (hne : j ≠ k)
  (hbig : ∃ S ∈ l, 2 ≤ dot S (X j) - dot S (X k) ∨ dot S (X j) - dot S (X k) ≤ -2) : ∃ Y, Deco D a Y ∧ (∀ j i, q ≤ i → Y j i = 0) ∧ pot l D Y < pot l D X := by
 obtain ⟨χ, hχ, hbal⟩ := hb (fun i => decide (X j i ≠ X k i)) (fun i hi => by simp [hz j i hi, hz k i hi])
 have huv : ∀ i, ∃ u v : Int, (u = 0 ∨ u = 1) ∧ (v = 0 ∨ v = 1) ∧ u + v = X j i + X k i ∧ u - v = χ i := by
  intro i
  obtain ⟨g1, g2⟩ := hχ i
  by_cases c : X j i = X k i
  ·have := g2 (by simp [c])
   exact ⟨X j i, X k i, hX.bits j i, hX.bits k i, rfl, by omega⟩
  ·have hc := g1 (by simp [c])
   have h1 := hX.bits j i
   have h2 := hX.bits k i
   rcases hc with e | e
   ·exact ⟨1, 0, by omega, by omega, by omega, by omega⟩
   ·exact ⟨0, 1, by omega, by omega, by omega, by omega⟩
 let u : Nat → Int := fun i => Classical.choose (huv i)
 let v : Nat → Int := fun i => Classical.choose (Classical.choose_spec (huv i))
 have h : ∀ i, (u i = 0 ∨ u i = 1) ∧ (v i = 0 ∨ v i = 1) ∧ u i + v i = X j i + X k i ∧ u i - v i = χ i := fun i => Classical.choose_spec (Classical.choose_spec (huv i))
 let Y : Nat → Nat → Int := fun t => if t = j then u else if t = k then v else X t
 have hY : ∀ (F : (Nat → Int) → Int), sm D (fun t => F (Y t)) = sm D (fun t => F (X t)) - F (X j) - F (X k) + F u + F v := by
  intro F
  rw [← sm_two (f := fun t => F (X t)) hne (F u) (F v) D hj hk]
  refine sm_congr D (fun t _ => ?_)
  show F (if t = j then u else if t = k then v else X t) = _
  by_cases c1 : t = j
  ·rw [if_pos c1, if_pos c1]
  ·rw [if_neg c1, if_neg c1]
   by_cases c2 : t = k
   ·rw [if_pos c2, if_pos c2]
   ·rw [if_neg c2, if_neg c2]
 refine ⟨Y, ⟨?_, ?_⟩, ?_, ?_⟩
 ·intro t i
  show (if t = j then u else if t = k then v else X t) i = 0 ∨ (if t = j then u else if t = k then v else X t) i = 1
  by_cases c1 : t = j
  ·rw [if_pos c1]; exact (h i).1
  ·rw [if_neg c1]
   by_cases c2 : t = k
   ·rw [if_pos c2]; exact (h i).2.1
   ·rw [if_neg c2]; exact hX.bits t i
 ·intro i
  have := hY (fun f => f i)
  rw [this, hX.sum i]
  have := (h i).2.2.1
  omega
 ·intro t i hi
  have e1 := hz j i hi
  have e2 := hz k i hi
  have e3 := h i
  show (if t = j then u else if t = k then v else X t) i = 0
  by_cases c1 : t = j
  ·rw [if_pos c1]; omega
  ·rw [if_neg c1]
   by_cases c2 : t = k
   ·rw [if_pos c2]; omega
   ·rw [if_neg c2]; exact hz t i hi
 ·have key : ∀ S ∈ l, sm D (fun t => dot S (Y t) * dot S (Y t)) ≤ sm D (fun t => dot S (X t) * dot S (X t)) ∧ ((2 ≤ dot S (X j) - dot S (X k) ∨ dot S (X j) - dot S (X k) ≤ -2) → sm D (fun t => dot S (Y t) * dot S (Y t)) < sm D (fun t => dot S (X t) * dot S (X t))) := by
   intro S hS
   rw [hY (fun f => dot S f * dot S f)]
   have s1 : dot S u + dot S v = dot S (X j) + dot S (X k) := by rw [← dot_add, ← dot_add]; exact dot_congr (fun i => (h i).2.2.1)
   have s2 : dot S u - dot S v = dot S χ := by rw [← dot_sub]; exact dot_congr (fun i => (h i).2.2.2)
   have hb := hbal S hS
   have t1 := two_sq (dot S u) (dot S v)
   have t2 := two_sq (dot S (X j)) (dot S (X k))
   rw [s1] at t1
   obtain ⟨q1, q2⟩ := sq_less (s := dot S (X j) + dot S (X k)) (d := dot S (X j) - dot S (X k)) (e := dot S u - dot S v) (by omega) (by omega) (by rw [s2]; omega)
   refine ⟨by omega, fun hd => ?_⟩
   have := q2 hd
   omega
  obtain ⟨S, hS, hd⟩ := hbig
  exact sumL_lt l (fun S hS => (key S hS).1) ⟨S, hS, (key S hS).2 hd⟩
theorem equal_all {l : List Nat} {q : Nat} (hb : Balanced l q 1) {D : Nat} {a : Nat → Int} (hout : ∀ i, q ≤ i → a i = 0) : ∀ (n : Nat) (X : Nat → Nat → Int), Deco D a X → (∀ j i, q ≤ i → X j i = 0) → (pot l D X).toNat ≤ n →
  ∃ Y, Deco D a Y ∧ ∀ j k, j < D → k < D → ∀ S ∈ l, -1 ≤ dot S (Y j) - dot S (Y k) ∧ dot S (Y j) - dot S (Y k) ≤ 1 := by
 intro n
 have hpn : ∀ X : Nat → Nat → Int, 0 ≤ pot l D X := fun X => sumL_nn l (fun S _ => sm_nn D (fun j _ => by
  rcases Int.le_total 0 (dot S (X j)) with h | h
  ·exact Int.mul_nonneg h h
  ·have := Int.mul_nonneg (show 0 ≤ -dot S (X j) by omega) (show 0 ≤ -dot S (X j) by omega)
   rwa [Int.neg_mul_neg] at this))
 induction n with
 | zero =>
  intro X hX hz hp
  by_cases c : ∀ j k, j < D → k < D → ∀ S ∈ l, -1 ≤ dot S (X j) - dot S (X k) ∧ dot S (X j) - dot S (X k) ≤ 1
  ·exact ⟨X, hX, c⟩
  ·exfalso
   apply c
   intro j k hj hk S hS
   by_cases e : -1 ≤ dot S (X j) - dot S (X k) ∧ dot S (X j) - dot S (X k) ≤ 1
   ·exact e
   ·have hne : j ≠ k := fun he => by subst he; omega
    obtain ⟨Y, _, _, h3⟩ := pair_step hb hout hX hz hj hk hne ⟨S, hS, by omega⟩
    have := hpn Y
    have := hpn X
    omega
 | succ n ih =>
  intro X hX hz hp
  by_cases c : ∀ j k, j < D → k < D → ∀ S ∈ l, -1 ≤ dot S (X j) - dot S (X k) ∧ dot S (X j) - dot S (X k) ≤ 1
  ·exact ⟨X, hX, c⟩
  ·have : ∃ j k, j < D ∧ k < D ∧ ∃ S ∈ l, ¬ (-1 ≤ dot S (X j) - dot S (X k) ∧ dot S (X j) - dot S (X k) ≤ 1) := by
    refine Classical.byContradiction fun hno => c (fun j k hj hk S hS => ?_)
    refine Classical.byContradiction fun hx => hno ⟨j, k, hj, hk, S, hS, hx⟩
   obtain ⟨j, k, hj, hk, S, hS, hx⟩ := this
   have hne : j ≠ k := fun he => by subst he; omega
   obtain ⟨Y, h1, h2, h3⟩ := pair_step hb hout hX hz hj hk hne ⟨S, hS, by omega⟩
   have := hpn Y
   have := hpn X
   exact ih Y h1 h2 (by omega)
theorem round_lt {l : List Nat} {q : Nat} (hb : Balanced l q 1) (D : Nat) (hD : 1 ≤ D) (a : Nat → Int) (ha : ∀ i, 0 ≤ a i ∧ a i ≤ D) (hout : ∀ i, q ≤ i → a i = 0) :
  ∃ x : Nat → Int, (∀ i, (x i = 0 ∨ x i = 1) ∧ (a i = 0 → x i = 0)) ∧ ∀ S ∈ l, -((D : Int) - 1) ≤ dot S (fun i => (D : Int) * x i - a i) ∧ dot S (fun i => (D : Int) * x i - a i) ≤ (D : Int) - 1 := by
 have start : ∀ (z : Int) (n : Nat), sm n (fun j => if (j : Int) < z then 1 else 0) = if z ≤ 0 then 0 else if z ≤ n then z else n := by
  intro z n
  induction n with
  | zero => simp [sm]; omega
  | succ n ih =>
   simp only [sm, ih]
   by_cases c0 : z ≤ 0
   ·rw [if_pos c0, if_pos c0, if_neg (by omega)]; rfl
   ·rw [if_neg c0, if_neg c0]
    by_cases c1 : z ≤ n
    ·rw [if_pos c1, if_neg (by omega), if_pos (by omega)]; omega
    ·rw [if_neg c1, if_pos (by omega)]
     by_cases c2 : z ≤ ((n + 1 : Nat) : Int)
     ·rw [if_pos c2]; omega
     ·rw [if_neg c2]; omega
 let X : Nat → Nat → Int := fun j i => if (j : Int) < a i then 1 else 0
 have hX : Deco D a X := ⟨fun j i => by show (if (j : Int) < a i then (1 : Int) else 0) = 0 ∨ (if (j : Int) < a i then (1 : Int) else 0) = 1; split <;> simp, fun i => by
  show sm D (fun j => if (j : Int) < a i then (1 : Int) else 0) = a i
  rw [start]
  have := ha i
  by_cases c : a i ≤ 0
  ·rw [if_pos c]; omega
  ·rw [if_neg c, if_pos (by omega)]⟩
 obtain ⟨Y, hY, heq⟩ := equal_all hb hout (pot l D X).toNat X hX (fun j i hi => by show (if (j : Int) < a i then (1 : Int) else 0) = 0; rw [hout i hi, if_neg (by omega)]) (Nat.le_refl _)
 have hzero : ∀ i, a i = 0 → Y 0 i = 0 := by
  intro i hi
  have hs := hY.sum i
  rw [hi] at hs
  have nn : ∀ n, 0 ≤ sm n (fun j => Y j i) := fun n => sm_nn n (fun j _ => by rcases hY.bits j i with e | e <;> omega)
  have mono : ∀ n, 1 ≤ n → Y 0 i ≤ sm n (fun j => Y j i) := by
   intro n hn
   induction n with
   | zero => omega
   | succ n ih =>
    simp only [sm]
    have hb' := hY.bits n i
    by_cases c : n = 0
    ·subst c; simp [sm]
    ·have := ih (by omega); omega
  have := mono D hD
  have := hY.bits 0 i
  omega
 refine ⟨Y 0, fun i => ⟨hY.bits 0 i, hzero i⟩, fun S hS => ?_⟩
 have e1 : dot S (fun i => (D : Int) * Y 0 i - a i) = sm D (fun k => dot S (Y 0) - dot S (Y k)) := by
  rw [dot_sub, dot_mul, sm_sub]
  have c1 : ∀ (n : Nat) (z : Int), sm n (fun _ => z) = (n : Int) * z := by
   intro n z
   induction n with
   | zero => simp [sm]
   | succ n ih => rw [sm, ih, Int.natCast_succ, Int.add_mul, Int.one_mul]
  rw [c1, ← dot_sum S Y D]
  congr 1
  exact dot_congr (fun i => (hY.sum i).symm)
 have e2 : ∀ n, n + 1 ≤ D → -(n : Int) ≤ sm (n + 1) (fun k => dot S (Y 0) - dot S (Y k)) ∧ sm (n + 1) (fun k => dot S (Y 0) - dot S (Y k)) ≤ n := by
  intro n hn
  induction n with
  | zero => simp [sm]
  | succ n ih =>
   have h1 := ih (by omega)
   have h2 := heq 0 (n + 1) (by omega) (by omega) S hS
   rw [sm]
   omega
 obtain ⟨n, rfl⟩ : ∃ n, D = n + 1 := ⟨D - 1, by omega⟩
 have := e2 n (Nat.le_refl _)
 rw [e1]
 omega
end Go.Proofs.Ytdlnhddpgopghaa.Com
namespace Go.Proofs.Ytdlnhddpgopghaa.Com
set_option linter.unusedSimpArgs false
set_option linter.unusedVariables false
set_option linter.unusedSectionVars false
open Go.RowKit Go.Proofs.YtdlnhddpgopghaaW.PrintWords Go.Proofs.YtdlnhddpgopghaaW.PrintMore Go.Proofs.Ytdlnhddpgopghaa.Q
theorem and_255 (x : Nat) (h : x < 18446744073709551616) : ∃ r : Nat, Go.bits .and .u64 (x : Int) 255 = (r : Int) ∧ r ≤ 255 :=
 ⟨x &&& 255, (Go.bits_nat .u64 64 (by decide) (fun n h0 h1 => by simp [IntKind.wrap, IntKind.bits, IntKind.signed]; omega) x 255 h (by decide)).1, Nat.and_le_right⟩
theorem u64_bd (n : Int) : 0 ≤ IntKind.u64.wrap n ∧ IntKind.u64.wrap n < 18446744073709551616 := by
 simp [IntKind.wrap, IntKind.bits, IntKind.signed]
 omega
theorem u8_bd {x : Int} (h : (Lit.int .u8 x).wf = true) : 0 ≤ x ∧ x ≤ 255 := by
 simp [Lit.wf, IntKind.min, IntKind.max, IntKind.signed, IntKind.bits] at h
 omega
theorem next_tells (l : List Int) (hl : ∀ x ∈ l, (Lit.int .u8 x).wf = true) (a s : Int) (ha : 0 ≤ a ∧ a ≤ 1000) : ∃ v s', spec_l00Src_next.f l a s = some (v, a + 1, s') ∧ 0 ≤ v ∧ v ≤ 255 := by
 unfold spec_l00Src_next.f
 rw [w64 (x := a + 1) (by omega) (by omega)]
 have big : ∀ y : Int, ∃ r : Nat, Go.bits .and .u64 (IntKind.u64.wrap y / 1099511627776) 255 = (r : Int) ∧ r ≤ 255 := by
  intro y
  have b := u64_bd y
  obtain ⟨n, hn⟩ := Int.eq_ofNat_of_zero_le (show 0 ≤ IntKind.u64.wrap y / 1099511627776 by omega)
  rw [hn]
  exact and_255 n (by omega)
 by_cases h : a < (l.length : Int)
 ·rw [if_pos h, if_pos ha.1, if_pos (by omega)]
  have hlt : a.toNat < l.length := by omega
  have hv : rd l a = l[a.toNat] := by
   have := rd_nat hlt
   rwa [Int.toNat_of_nonneg ha.1] at this
  have b := u8_bd (hl _ (List.getElem_mem hlt))
  rw [hv, w64 (x := l[a.toNat]) (by omega) (by omega)]
  exact ⟨_, _, rfl, b.1, b.2⟩
 ·rw [if_neg h]
  split
  ·exact ⟨_, _, rfl, by omega, by omega⟩
  ·obtain ⟨r, hr, hr'⟩ := big (IntKind.u64.wrap (IntKind.u64.wrap (s * 6364136223846793005)) + 1442695040888963407)
   rw [hr, w64 (x := (r : Int)) (by omega) (by omega)]
   exact ⟨_, _, rfl, by omega, by omega⟩
theorem pick_tells (l : List Int) (hl : ∀ x ∈ l, (Lit.int .u8 x).wf = true) (a s n : Int) (ha : 0 ≤ a ∧ a ≤ 1000) (hn : 1 ≤ n ∧ n ≤ 200) : ∃ v a' s', spec_l00Src_pick.f l a s n = some (v, a', s') ∧ 0 ≤ v ∧ v < n ∧ 0 ≤ a' ∧ a' ≤ a + 1 := by
 unfold spec_l00Src_pick.f
 by_cases h : n ≤ 1
 ·rw [if_pos h]
  exact ⟨_, _, _, rfl, by omega, by omega, by omega, by omega⟩
 ·obtain ⟨v, s', e, h0, h1⟩ := next_tells l hl a s ha
  rw [if_neg h, e, Option.bind_some, if_neg (by omega), if_neg (by omega), tmod_nn h0]
  have := Int.emod_nonneg v (show n ≠ 0 by omega)
  have := Int.emod_lt_of_pos v (show 0 < n by omega)
  exact ⟨v % n, a + 1, s', rfl, by omega, by omega, by omega, by omega⟩
theorem r8System_ev (l : List Int) (hl : ∀ x ∈ l, (Lit.int .u8 x).wf = true) : ∃ (q : Nat) (y : List Int), Ev (fun k => spec_R8System.f k l) ((q : Int), y) ∧ q ≤ 6 ∧ y.length ≤ 5 ∧ ∀ x ∈ y, 0 ≤ x ∧ x ≤ full q := by
 unfold spec_R8System.f spec_l00From.f spec_l10DrawOk.f
 obtain ⟨p, a, s, e, p0, p1, a0, a1⟩ := pick_tells l hl 0 0 7 (by omega) (by omega)
 obtain ⟨c, a', s', e', c0, c1, a0', a1'⟩ := pick_tells l hl a s 6 (by omega) (by omega)
 obtain ⟨q, rfl⟩ := Int.eq_ofNat_of_zero_le p0
 obtain ⟨c, rfl⟩ := Int.eq_ofNat_of_zero_le c0
 have hq : q ≤ 6 := by omega
 have hpw : 2 ^ q ≤ 64 := Nat.le_trans (Nat.pow_le_pow_right (by omega) hq) (by decide)
 have hpw0 : 1 ≤ 2 ^ q := Nat.pos_of_ne_zero (by simp)
 have key : ∀ (c : Nat) (a s : Int) (y : List Int), 0 ≤ a ∧ a + c ≤ 10 → (∀ x ∈ y, 0 ≤ x ∧ x ≤ full q) → y.length + c ≤ 5 → ∃ y' a' s', Ev (fun k => spec_l10DrawOk.l0 k (c : Int) l a s (q : Int) y) ((q : Int), y', a', s') ∧ y'.length ≤ 5 ∧ ∀ x ∈ y', 0 ≤ x ∧ x ≤ full q := by
  intro c
  induction c with
  | zero =>
   intro a s y ha hy hlen
   refine ⟨y, a, s, ?_, by omega, hy⟩
   refine Ev.step (fun k => by rw [spec_l10DrawOk.l0]) ?_
   simp only [if_neg (show ¬ ((0 : Nat) : Int) > 0 by omega)]
   exact Ev.now _
  | succ c ih =>
   intro a s y ha hy hlen
   obtain ⟨v, a2, s2, e2, v0, v1, b0, b1⟩ := pick_tells l hl a s (2 ^ q : Nat) (by omega) (by omega)
   obtain ⟨y', a', s', h1, h2, h3⟩ := ih a2 s2 (y ++ [v]) (by omega) (by
    intro x hx
    rcases List.mem_append.1 hx with h | h
    ·exact hy x h
    ·rw [List.mem_singleton] at h
     subst h
     rw [full_nat q (by omega)]
     omega) (by rw [List.length_append, List.length_singleton]; omega)
   refine ⟨y', a', s', ?_, h2, h3⟩
   refine Ev.step (fun k => by rw [spec_l10DrawOk.l0]) ?_
   simp only [if_pos (show ((c + 1 : Nat) : Int) > 0 by omega), uw (q : Int) (by omega), if_pos (show 0 ≤ (q : Int) by omega), shl_one q (by omega), show (2 : Int) ^ q = ((2 ^ q : Nat) : Int) by rw [Int.natCast_pow]; rfl, e2, Option.bind_some, if_pos (show y.length < 17592186044416 by omega)]
   rw [show wrap64 (((c + 1 : Nat) : Int) - 1) = (c : Int) by rw [w64 (by omega) (by omega)]; omega]
   exact h1
 obtain ⟨y', a2, s2, h1, h2, h3⟩ := key c a' s' [] (by omega) (by simp) (by simp; omega)
 refine ⟨q, y', ?_, hq, h2, h3⟩
 refine ev_bind' rfl (Ev.bind (a := ((q : Int), y', a2, s2)) ?_ (Ev.now _))
 rw [w64 (x := 6 + 1) (by omega) (by omega)]
 exact ev_bind' e (ev_bind' e' h1)
theorem r8Greatest_ev (l : List Int) (hx : l.length ≤ 1048576) (hb : ∀ x ∈ l, -9223372036854775807 ≤ x ∧ x ≤ 9223372036854775807) : Ev (fun k => laws_r8Greatest.f k l) (gr l) := by
 unfold laws_r8Greatest.f
 have gen := ev_fold l (fun m s k => laws_r8Greatest.l0 k l s (m : Int)) (fun r s => r.foldl (fun s x => mx (mx s x) (-x)) s) (fun m s => 0 ≤ s) ?_ ?_ 0 0 (by omega) (Int.le_refl _)
 ·simpa [gr] using gen
 ·intro s _
  refine Ev.step (fun k => by rw [laws_r8Greatest.l0]) ?_
  simp only [if_neg (show ¬ (l.length : Int) < (l.length : Int) by omega)]
  exact Ev.now _
 ·intro m hm s s0 ih
  have b := hb l[m] (List.getElem_mem hm)
  have ea : laws_r8Abs.f l[m] = some (if l[m] < 0 then -l[m] else l[m]) := by
   unfold laws_r8Abs.f
   split
   ·rw [w64 (by omega) (by omega)]
   ·rfl
  refine Ev.step (fun k => by rw [laws_r8Greatest.l0]) ?_
  simp only [if_pos (show (m : Int) < (l.length : Int) by omega), if_pos (show 0 ≤ (m : Int) by omega), rd_nat hm, w_succ (m := m) (by omega), ea, Option.bind_some]
  rw [List.foldl_cons]
  have e : mx (mx s l[m]) (-l[m]) = if (if l[m] < 0 then -l[m] else l[m]) > s then (if l[m] < 0 then -l[m] else l[m]) else s := by
   unfold mx
   repeat' split <;> omega
  rw [e]
  by_cases c : (if l[m] < 0 then -l[m] else l[m]) > s
  ·simp only [if_pos c]
   exact ih _ (by omega)
  ·simp only [if_neg c]
   exact ih _ s0
end Go.Proofs.Ytdlnhddpgopghaa.Com
namespace Go.Proofs.Ytdlnhddpgopghaa.Pure
set_option linter.unusedSimpArgs false
set_option linter.unusedVariables false
set_option linter.unusedSectionVars false
open Go.RowKit Go.Proofs.Ytdlnhddpgopghaa.Q Go.Proofs.YtdlnhddpgopghaaW.PrintWords Go.Proofs.YtdlnhddpgopghaaW.PrintLast Go.Proofs.Ytdlnhddpgopghaa.Com
theorem r8At_any (l : List Int) (hl : ∀ x ∈ l, (Lit.int .u8 x).wf = true) (i : Nat) (n : Int) (hn : 1 ≤ n) : ∃ r : Nat, laws_r8At.f l (i : Int) n = some (r : Int) ∧ (r : Int) < n := by
 unfold laws_r8At.f
 by_cases h1 : n ≤ 1
 ·rw [if_pos h1]
  exact ⟨0, rfl, by omega⟩
 ·rw [if_neg h1]
  by_cases h2 : (i : Int) ≥ (l.length : Int)
  ·rw [if_pos h2]
   exact ⟨0, rfl, by omega⟩
  ·have hlt : i < l.length := by omega
   have b := u8_bd (hl _ (List.getElem_mem hlt))
   have e := rd_nat hlt
   rw [if_neg h2, if_pos (by omega), if_pos (by omega), if_neg (by omega), e, w64 (by omega) (by omega), tmod_nn b.1]
   have := Int.emod_nonneg l[i] (show n ≠ 0 by omega)
   have := Int.emod_lt_of_pos l[i] (show 0 < n by omega)
   exact ⟨(l[i] % n).toNat, by rw [Int.toNat_of_nonneg (by omega)], by omega⟩
theorem mem_cands (b : Int) (hb : 1 ≤ b) : ∀ v l : List Int, l ∈ cands b v ↔ l.length = v.length ∧ roundsTo b l v = true
 | [], l => by
  simp only [cands, List.mem_singleton, List.length_nil]
  constructor
  ·rintro rfl; exact ⟨rfl, rfl⟩
  ·rintro ⟨h, _⟩; exact List.length_eq_zero_iff.1 h
 | x :: r, [] => by
  simp only [cands, List.mem_flatMap, List.mem_map, List.length_nil, List.length_cons]
  constructor
  ·rintro ⟨c, _, t, _, h⟩; cases h
  ·rintro ⟨h, _⟩; omega
 | x :: r, y :: l => by
  have ih := mem_cands b hb r l
  have hc : y ∈ ch b x ↔ (y = fv b x ∨ y = cv b x) := by
   rw [cv_is b x hb]
   unfold ch
   by_cases c : fv b x * b = x
   ·rw [if_pos c, if_pos c]; simp
   ·rw [if_neg c, if_neg c]; simp
  simp only [cands, List.mem_flatMap, List.mem_map, List.length_cons, roundsTo, Bool.and_eq_true, Bool.or_eq_true, decide_eq_true_eq]
  rw [← hc]
  constructor
  ·rintro ⟨c, h1, t, h2, h⟩
   injection h with e1 e2
   subst e1 e2
   have := ih.1 h2
   exact ⟨by omega, h1, this.2⟩
  ·rintro ⟨h1, h2, h3⟩
   exact ⟨y, h2, l, ih.2 ⟨by omega, h3⟩, rfl⟩
section
variable {b : Int} {v sets : List Int} (h1 : validSys (v.length : Int) sets = true) (h2 : valsOk b v = true)
include h1 h2
omit h1 in
theorem isRound_ev {l : List Int} (h4 : l.length = v.length) (h5 : roundsTo b l v = true) : Ev (fun k => impl_IsRounding.f k b v l) true := by
 have R2 : Ev (fun k => impl_IsRounding.f k b v l) (roundsTo b l v) := by
  unfold impl_IsRounding.f
  refine ev_bind' (implVals_tells b v) ?_
  rw [show ((l.length : Int) != (v.length : Int)) = false from by rw [h4]; exact bne_self_eq_false _]
  simp only [h2, if_true]
  refine Ev.step (fun k => by rw [impl_IsRounding.j0]) ?_
  simp only [Bool.false_eq_true, if_false]
  exact Ev.bind (floors_ev h2) (Ev.bind (ceilings_ev h2) (implRounds_ev h2 h4))
 rwa [h5] at R2
theorem setErrs_ev {l : List Int} (h4 : l.length = v.length) (h5 : roundsTo b l v = true) : Ev (fun k => impl_SetErrors.f k (v.length : Int) sets b v l) (sets.map fun x => eSum x 0 (errs b l v), true) := by
 obtain ⟨⟨q, hq, hq12⟩, hn, hs⟩ := validSys_of h1
 have h12 : v.length ≤ 12 := by omega
 have hs' : ∀ x ∈ sets, 0 ≤ x ∧ x.toNat < 4096 := fun x hx => ⟨(hs x hx).1, (full_lt3 h12 (hs x hx)).2⟩
 have hy := roundsTo_bd l v (valsOk_is h2).2.2 h5
 unfold impl_SetErrors.f
 refine ev_bind' (a := true) (by rw [fits_tells, decide_eq_true ⟨h1, h2, rfl⟩]) ?_
 simp only [if_true]
 refine Ev.bind (isRound_ev h2 h4 h5) ?_
 simp only [if_true]
 exact Ev.bind (implSetErrs_ev h2 h4 hy (by omega) hn hs') (Ev.now _)
end
theorem drawn_ev (s : List Int) (hs : ∀ x ∈ s, (Lit.int .u8 x).wf = true) {b : Int} {v : List Int} (h2 : valsOk b v = true) : ∃ l, Ev (fun k => spec_R8Rounding.f k s b v) l ∧ l.length = v.length ∧ roundsTo b l v = true := by
 obtain ⟨b1, b2, b3⟩ := valsOk_is h2
 unfold spec_R8Rounding.f spec_l00From.f
 have key : ∀ (n m : Nat) (acc : List Int) (a t : Int), m + n = v.length → acc.length = m → 0 ≤ a ∧ a + n ≤ 100 →
   ∃ r, Ev (fun k => spec_R8Rounding.l0 k acc (m : Int) b v s a t) (acc ++ r) ∧ r.length = n ∧ roundsTo b r (v.drop m) = true := by
  intro n
  induction n with
  | zero =>
   intro m acc a t hm _ _
   refine ⟨[], ?_, rfl, rfl⟩
   refine Ev.step (fun k => by rw [spec_R8Rounding.l0]) ?_
   simp only [if_neg (show ¬ (m : Int) < (v.length : Int) by omega), List.append_nil]
   exact Ev.now _
  | succ n ih =>
   intro m acc a t hm hacc ha
   have hlt : m < v.length := by omega
   have hx := b3 _ (List.getElem_mem hlt)
   obtain ⟨w, a2, t2, e2, w0, w1, a20, a21⟩ := pick_tells s hs a t 2 (by omega) (by omega)
   have one : spec_l00Src_one.f s a t 2 = some ((w == 0), a2, t2) := by unfold spec_l00Src_one.f; rw [e2]; rfl
   have hd : v.drop m = v[m] :: v.drop (m + 1) := List.drop_eq_getElem_cons hlt
   by_cases c : (w == 0) = true
   ·obtain ⟨r, h1, h3, h4⟩ := ih (m + 1) (acc ++ [cv b v[m]]) a2 t2 (by omega) (by rw [List.length_append, List.length_singleton]; omega) (by omega)
    refine ⟨cv b v[m] :: r, ?_, by rw [List.length_cons]; omega, by rw [hd]; simp [roundsTo, h4]⟩
    refine Ev.step (fun k => by rw [spec_R8Rounding.l0]) ?_
    simp only [if_pos (show (m : Int) < (v.length : Int) by omega), if_pos (show (0 : Int) ≤ (m : Int) by omega), rd_nat hlt]
    refine ev_bind' (specFloor_tells b _ b1 hx) (ev_bind' one ?_)
    simp only [c, if_true]
    refine ev_bind' (specCeil_tells b _ b1 hx) ?_
    simp only [if_pos (show acc.length < 17592186044416 by omega), w_succ (m := m) (by omega)]
    rw [show acc ++ cv b v[m] :: r = acc ++ [cv b v[m]] ++ r by simp]
    exact h1
   ·obtain ⟨r, h1, h3, h4⟩ := ih (m + 1) (acc ++ [fv b v[m]]) a2 t2 (by omega) (by rw [List.length_append, List.length_singleton]; omega) (by omega)
    refine ⟨fv b v[m] :: r, ?_, by rw [List.length_cons]; omega, by rw [hd]; simp [roundsTo, h4]⟩
    refine Ev.step (fun k => by rw [spec_R8Rounding.l0]) ?_
    simp only [if_pos (show (m : Int) < (v.length : Int) by omega), if_pos (show (0 : Int) ≤ (m : Int) by omega), rd_nat hlt]
    refine ev_bind' (specFloor_tells b _ b1 hx) (ev_bind' one ?_)
    simp only [if_neg c]
    simp only [if_pos (show acc.length < 17592186044416 by omega), w_succ (m := m) (by omega)]
    rw [show acc ++ fv b v[m] :: r = acc ++ [fv b v[m]] ++ r by simp]
    exact h1
 obtain ⟨r, g1, g2, g3⟩ := key v.length 0 [] 0 0 (by omega) rfl (by omega)
 rw [List.drop_zero] at g3
 exact ⟨r, ev_bind' rfl g1, g2, g3⟩
def upFrom (b : Int) (x : Nat → Int) : List Int → Nat → List Int
 | [], _ => []
 | y :: r, m => (fv b y + x m) :: upFrom b x r (m + 1)
theorem upFrom_len (b : Int) (x : Nat → Int) : ∀ (v : List Int) (m : Nat), (upFrom b x v m).length = v.length
 | [], _ => rfl
 | y :: r, m => by rw [upFrom, List.length_cons, List.length_cons, upFrom_len b x r (m + 1)]
theorem upFrom_ok (b : Int) (hb : 1 ≤ b) (x : Nat → Int) : ∀ (v : List Int) (m : Nat), (∀ i (h : i < v.length), (x (m + i) = 0 ∨ x (m + i) = 1) ∧ (v[i] - b * fv b v[i] = 0 → x (m + i) = 0)) → roundsTo b (upFrom b x v m) v = true
 | [], _, _ => rfl
 | y :: r, m, h => by
  have h0 := h 0 (by simp)
  simp only [Nat.add_zero, List.getElem_cons_zero] at h0
  have ih := upFrom_ok b hb x r (m + 1) (fun i hi => by
   have := h (i + 1) (by rw [List.length_cons]; omega)
   simp only [List.getElem_cons_succ] at this
   rwa [show m + (i + 1) = m + 1 + i by omega] at this)
  rw [upFrom, roundsTo]
  simp only [Bool.and_eq_true, Bool.or_eq_true, decide_eq_true_eq]
  refine ⟨?_, ih⟩
  rw [cv_is b y hb, Int.mul_comm (fv b y) b]
  by_cases c : b * fv b y = y
  ·rw [if_pos c]
   have := h0.2 (by omega)
   omega
  ·rw [if_neg c]
   omega
theorem upFrom_errs (b : Int) (x : Nat → Int) : ∀ (v : List Int) (m i : Nat) (h : i < v.length) (h' : i < (errs b (upFrom b x v m) v).length), (errs b (upFrom b x v m) v)[i] = b * x (m + i) - (v[i] - b * fv b v[i])
 | [], _, i, h, _ => by simp at h
 | y :: r, m, 0, _, _ => by
  show b * (fv b y + x m) - y = b * x (m + 0) - (y - b * fv b y)
  rw [Nat.add_zero, Int.mul_add]; omega
 | y :: r, m, i + 1, h, h' => by
  have := upFrom_errs b x r (m + 1) i (by rw [List.length_cons] at h; omega) (by
   have e : errs b (upFrom b x (y :: r) m) (y :: r) = (b * (fv b y + x m) - y) :: errs b (upFrom b x r (m + 1)) r := rfl
   rw [e, List.length_cons] at h'; omega)
  rw [show m + (i + 1) = m + 1 + i by omega]
  exact this
theorem eSum_sm (s : Int) (F : Nat → Int) : ∀ (r : List Int) (m : Nat), (∀ i (h : i < r.length), F (m + i) = r[i]) → sm m (fun i => (bitAt s.toNat i : Int) * F i) + eSum s m r = sm (m + r.length) (fun i => (bitAt s.toNat i : Int) * F i)
 | [], m, _ => by simp [eSum]
 | e :: r, m, h => by
  have h0 := h 0 (by simp)
  simp only [Nat.add_zero, List.getElem_cons_zero] at h0
  have ih := eSum_sm s F r (m + 1) (fun i hi => by
   have := h (i + 1) (by rw [List.length_cons]; omega)
   simp only [List.getElem_cons_succ] at this
   rwa [show m + (i + 1) = m + 1 + i by omega] at this)
  rw [eSum, List.length_cons, show m + (r.length + 1) = m + 1 + r.length by omega, ← ih, sm, h0]
  omega
theorem sm_tail (G : Nat → Int) (n : Nat) (h : ∀ i, n ≤ i → G i = 0) : ∀ d, sm (n + d) G = sm n G
 | 0 => rfl
 | d + 1 => by rw [show n + (d + 1) = (n + d) + 1 by omega, sm, sm_tail G n h d, h (n + d) (by omega)]; omega
theorem cost_le {b : Int} {v sets : List Int} (hb : 1 ≤ b) (h12 : v.length ≤ 12) (a : Nat → Int) (haE : ∀ i (h : i < v.length), a i = v[i] - b * fv b v[i]) (ha0 : ∀ i, v.length ≤ i → a i = 0) (x : Nat → Int) (hx : ∀ i, (x i = 0 ∨ x i = 1) ∧ (a i = 0 → x i = 0)) (B : Int) (hB : 0 ≤ B)
  (hd : ∀ S ∈ sets.map Int.toNat, -B ≤ dot S (fun i => b * x i - a i) ∧ dot S (fun i => b * x i - a i) ≤ B) : ∃ l ∈ cands b v, cost b sets v l ≤ B := by
 refine ⟨upFrom b x v 0, (mem_cands b hb v _).2 ⟨upFrom_len b x v 0, upFrom_ok b hb x v 0 (fun i hi => ?_)⟩, ?_⟩
 ·rw [Nat.zero_add]
  have := hx i
  rw [haE i hi] at this
  exact this
 ·refine (gr_bd B hB _ ?_).2
  intro y hy
  obtain ⟨s, hs, rfl⟩ := List.mem_map.1 hy
  have hlen : (errs b (upFrom b x v 0) v).length = v.length := by rw [errs_len (upFrom_len b x v 0), upFrom_len]
  have e := eSum_sm s (fun i => b * x i - a i) (errs b (upFrom b x v 0) v) 0 (fun i hi => by
   rw [upFrom_errs b x v 0 i (by omega) hi, Nat.zero_add, haE i (by omega)])
  rw [hlen, Nat.zero_add] at e
  simp only [sm, Int.zero_add] at e
  have ht := sm_tail (fun i => (bitAt s.toNat i : Int) * (b * x i - a i)) v.length (fun i hi => by
   show (bitAt s.toNat i : Int) * (b * x i - a i) = 0
   have h0 := ha0 i hi
   rw [(hx i).2 h0, h0]
   simp) (12 - v.length)
  rw [show v.length + (12 - v.length) = 12 by omega] at ht
  rw [e, ← ht]
  exact hd _ (List.mem_map.2 ⟨s, hs, rfl⟩)
theorem last_ev (s : List Int) (hs : ∀ x ∈ s, (Lit.int .u8 x).wf = true) (q : Nat) (y : List Int) (hq : q ≤ 6) (hy5 : y.length ≤ 5) (hy : ∀ x ∈ y, 0 ≤ x ∧ x ≤ full q) (D : Nat) (hD : 1 ≤ D ∧ D ≤ 12) (v : List Int) (hvl : v.length = q) (hvb : ∀ x ∈ v, -20 ≤ x ∧ x ≤ 29) :
  Ev (fun k => laws_FnSystemRounded.l0 k s (q : Int) (q : Int) y (D : Int) v) true := by
 subst hvl
 have v1 : validSys (v.length : Int) y = true := by
  unfold validSys
  simp only [Bool.and_eq_true, decide_eq_true_eq, List.all_eq_true]
  exact ⟨⟨by omega, by omega⟩, hy⟩
 have v2 : valsOk (D : Int) v = true := by
  unfold valsOk
  simp only [Bool.and_eq_true, decide_eq_true_eq, List.all_eq_true]
  exact ⟨fun x hx => by have := hvb x hx; omega, by omega, by omega⟩
 have hlt : ∀ x ∈ y, x.toNat < 2 ^ v.length := fun x hx => (full_lt3 (by omega) (hy x hx)).1
 have hs4 : ∀ x ∈ y, 0 ≤ x ∧ x.toNat < 4096 := fun x hx => ⟨(hy x hx).1, (full_lt3 (by omega) (hy x hx)).2⟩
 have hlen : y.length ≤ 12 := by omega
 have hher : Ev (fun k => impl_HereditaryOf.f k (v.length : Int) y) (herTo y (2 ^ v.length), true) := by
  unfold impl_HereditaryOf.f
  refine ev_bind' (implValidSys_tells _ _) ?_
  simp only [v1, if_true, decide_eq_false (show ¬ (v.length : Int) > 8 by omega)]
  refine Ev.step (fun k => by rw [impl_HereditaryOf.j0]) ?_
  simp only [Bool.false_eq_true, if_false, if_pos (show 0 ≤ (v.length : Int) by omega)]
  rw [shl_one v.length (by omega), show (2 : Int) ^ v.length = ((2 ^ v.length : Nat) : Int) by rw [Int.natCast_pow]; rfl]
  exact implHer_ev hlen hs4 (by omega) hlt
 have h64 : 2 ^ v.length ≤ 64 := Nat.le_trans (Nat.pow_le_pow_right (by omega) hq) (by decide)
 have h3 : herTo y (2 ^ v.length) ≤ 3 := herTo_bd hlen hs4 3 (by omega) (2 ^ v.length) (fun m hm => her_three hlen hs4 m (by omega) (fun x hx => by have := hlt x hx; omega))
 have h0 := herTo_nn hlen hs4 (2 ^ v.length)
 have hbal := balanced_of hlen hs4 v.length
 generalize herTo y (2 ^ v.length) = h at hher h3 h0 hbal
 have hb1 : (1 : Int) ≤ (D : Int) := by omega
 have hcn : ∀ l ∈ cands (D : Int) v, 0 ≤ cost (D : Int) y v l := fun l hl => by
  have hm := (mem_cands _ hb1 v l).1 hl
  exact (cost_in v2 (by omega) hlen hs4 l hm.1 (roundsTo_bd l v (valsOk_is v2).2.2 hm.2)).2
 have hround := (sysRound_both (v.length : Int) y (D : Int) v (by omega) (by omega)).2
 have hbest := best_is hcn
 unfold sysRound at hround
 rw [if_pos ⟨v1, v2, rfl⟩] at hround
 simp only at hbest
 generalize (cands (D : Int) v).foldl (upd (D : Int) y v) ([], -1) = e at hround hbest
 obtain ⟨⟨best, hbm, rfl⟩, hleast⟩ := hbest
 simp only at hround hleast
 obtain ⟨bl, br⟩ := (mem_cands _ hb1 v best).1 hbm
 obtain ⟨l, hdr, ll, lr⟩ := drawn_ev s hs v2
 have hlm := (mem_cands _ hb1 v l).2 ⟨ll, lr⟩
 have grEv : ∀ l : List Int, l ∈ cands (D : Int) v → Ev (fun k => laws_r8Greatest.f k (y.map fun x => eSum x 0 (errs (D : Int) l v))) (cost (D : Int) y v l) := by
  intro l hl
  have hm := (mem_cands _ hb1 v l).1 hl
  have := (cost_in v2 (by omega) hlen hs4 l hm.1 (roundsTo_bd l v (valsOk_is v2).2.2 hm.2)).1
  exact r8Greatest_ev _ (by rw [List.length_map]; omega) (fun x hx => by have := this x hx; omega)
 let a : Nat → Int := fun i => if c : i < v.length then v[i] - (D : Int) * fv (D : Int) v[i] else 0
 have haE : ∀ i (c : i < v.length), a i = v[i] - (D : Int) * fv (D : Int) v[i] := fun i c => dif_pos c
 have ha0 : ∀ i, v.length ≤ i → a i = 0 := fun i c => dif_neg (by omega)
 have hab : ∀ i, 0 ≤ a i ∧ a i ≤ (D : Int) := by
  intro i
  by_cases c : i < v.length
  ·rw [haE i c]
   have := fv_char (D : Int) v[i] hb1
   omega
  ·rw [ha0 i (by omega)]
   omega
 have hm0 : 0 ≤ h * (D : Int) := Int.mul_nonneg h0 (by omega)
 have hmx : h * (D : Int) ≤ 36 := by
  have : h * (D : Int) ≤ 3 * 12 := Int.mul_le_mul h3 (by omega) (by omega) (by omega)
  omega
 have hle : cost (D : Int) y v best ≤ h * (D : Int) := by
  obtain ⟨x, hx, hd⟩ := round_le hbal h0 (D : Int) (by omega) a hab ha0
  obtain ⟨l', hl', hc⟩ := cost_le hb1 (by omega) a haE ha0 x hx (h * (D : Int)) hm0 hd
  have := hleast l' hl'
  omega
 have hlt1 : h = 1 → cost (D : Int) y v best < (D : Int) := by
  intro e1
  rw [e1] at hbal
  obtain ⟨x, hx, hd⟩ := round_lt hbal D (by omega) a hab ha0
  obtain ⟨l', hl', hc⟩ := cost_le hb1 (by omega) a haE ha0 x hx ((D : Int) - 1) (by omega) hd
  have := hleast l' hl'
  omega
 refine Ev.step (fun k => by rw [laws_FnSystemRounded.l0]) ?_
 simp only [if_neg (show ¬ (v.length : Int) < (v.length : Int) by omega)]
 refine Ev.bind hround (Ev.bind (setErrs_ev v1 v2 bl br) (Ev.bind hdr (Ev.bind (setErrs_ev v1 v2 ll lr) (Ev.bind hher ?_))))
 simp only [if_true, List.length_map]
 refine Ev.bind (grEv best hbm) ?_
 simp only [if_true]
 refine Ev.bind (grEv l hlm) ?_
 have := hleast l hlm
 simp only [if_neg (show ¬ cost (D : Int) y v l < cost (D : Int) y v best by omega)]
 refine Ev.bind (isRound_ev v2 bl br) ?_
 rw [w64 (x := h * (D : Int)) (by omega) (by omega)]
 simp only [if_true, if_pos hle]
 by_cases c : h = 1
 ·simp only [if_pos c, decide_eq_true (hlt1 c)]
  exact Ev.now _
 ·simp only [if_neg c]
  exact Ev.now _
theorem FnSystemRounded : laws_FnSystemRounded.Pure := by
 intro l0 l1 _ _ hl0 _ _ hl1
 apply ev_of
 unfold laws_FnSystemRounded.f laws_r8Long.f
 by_cases c1 : (l0.length : Int) > 48
 ·simp only [if_pos c1, Option.bind_some, if_true]
  exact Ev.now _
 simp only [if_neg c1, Option.bind_some]
 by_cases c2 : (l1.length : Int) > 48
 ·simp only [decide_eq_true c2, if_true]
  exact Ev.now _
 simp only [decide_eq_false c2, Bool.false_eq_true, if_false]
 obtain ⟨q, y, hsys, hq, hy5, hy⟩ := r8System_ev l0 hl0
 obtain ⟨d, hd, hd12⟩ := r8At_any l1 hl1 0 12 (by omega)
 refine Ev.bind hsys (ev_bind' hd ?_)
 rw [w64 (x := 1 + (d : Int)) (by omega) (by omega), show 1 + (d : Int) = ((d + 1 : Nat) : Int) by omega]
 have key : ∀ (n m : Nat) (acc : List Int), m + n = q → acc.length = m → (∀ x ∈ acc, -20 ≤ x ∧ x ≤ 29) → Ev (fun k => laws_FnSystemRounded.l0 k l1 (m : Int) (q : Int) y ((d + 1 : Nat) : Int) acc) true := by
  intro n
  induction n with
  | zero =>
   intro m acc hm hacc hb
   obtain rfl : m = q := by omega
   exact last_ev l1 hl1 m y hq hy5 hy (d + 1) (by omega) acc hacc hb
  | succ n ih =>
   intro m acc hm hacc hb
   obtain ⟨w, hw, hw50⟩ := r8At_any l1 hl1 (m + 1) 50 (by omega)
   refine Ev.step (fun k => by rw [laws_FnSystemRounded.l0]) ?_
   simp only [if_pos (show (m : Int) < (q : Int) by omega), w_succ (m := m) (by omega)]
   refine ev_bind' hw ?_
   simp only [if_pos (show acc.length < 17592186044416 by omega)]
   rw [w64 (x := (w : Int) - 20) (by omega) (by omega)]
   exact ih (m + 1) _ (by omega) (by rw [List.length_append, List.length_singleton]; omega) (fun x hx => by
    rcases List.mem_append.1 hx with h | h
    ·exact hb x h
    ·rw [List.mem_singleton] at h; omega)
 exact key q 0 [] (by omega) rfl (by simp)
end Go.Proofs.Ytdlnhddpgopghaa.Pure
