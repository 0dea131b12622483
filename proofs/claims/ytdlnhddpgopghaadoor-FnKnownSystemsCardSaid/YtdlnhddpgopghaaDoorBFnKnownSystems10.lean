/- The statement FnKnownSystems, with all that its proof stands on: functions of the program as plain functions, the program's walks, and the plain law. Conditions: none beyond the statement's own. -/
import Derived.ArgAppend
import Derived.Below
import Derived.BigQuiet
import Derived.BigRegion
import Derived.Deep.AppendLies
import Derived.Deep.CutBlock
import Derived.Deep.DeepCutAuto
import Derived.Deep.Draws
import Derived.Deep.LoopGhost
import Derived.Deep.OwnRows
import Derived.Deep.QuietTactic
import Derived.Deep.RegionHeld3
import Derived.KernelRfl
import Derived.Laws.BitsLemmas
import Derived.Laws.BytesArg
import Derived.Laws.IdiomCopy
import Derived.Laws.MakeOwn
import Derived.Laws.OwnMore
import Derived.Laws.Rows
import Derived.Laws.Slices
import Derived.Lib.AppendIntMem
import Derived.Lib.AppendStr
import Derived.Lib.ConvBytes
import Derived.Lib.ParseIntBTie
import Derived.Lib.SlBytesConst
import Derived.Maps.AppendAt
import Derived.OrdersHeld
import Derived.OwnWalk
import Derived.ProofKit
import Derived.RowKit
import Derived.RowKit3
import Derived.Shelf.LaysC
import Derived.Shelf.LaysM
import Derived.Shelf.Strconv.Clone
import Derived.Shelf.Strconv.ErrVarParseInt
import Derived.Shelf.Strconv.Itoa0
import Derived.Shelf.Strconv.Itoa1
import Derived.Shelf.Strconv.Itoa2
import Derived.Shelf.Strconv.Itoa3
import Derived.Shelf.Strconv.Itoa4
import Derived.Shelf.Strconv.Lower
import Derived.Shelf.Strconv.ParseInt10
import Derived.Shelf.Strconv.ParseInt10All
import Derived.Shelf.Strconv.ParseInt10At16
import Derived.Shelf.Strconv.ParseInt10At32
import Derived.Shelf.Strconv.ParseInt10At64
import Derived.Shelf.Strconv.ParseInt10At8
import Derived.Shelf.Strconv.ParseIntEmpty
import Derived.Shelf.Strconv.ParseIntPublic10
import Derived.Shelf.Strconv.ParseUint10
import Derived.Shelf.Strconv.ParseUint10Any
import Derived.Shelf.Strconv.ParseUint10At
import Derived.Shelf.Strconv.ParseUint10Empty
import Derived.Shelf.Strconv.ParseUint10b16
import Derived.Shelf.Strconv.ParseUint10b32
import Derived.Shelf.Strconv.ParseUint10b64
import Derived.Shelf.Strconv.ParseUint10b8
import Derived.Shelf.Strconv.ParseUintEmpty
import Derived.Shelf.Strconv.RangeError
import Derived.Shelf.Strconv.SyntaxError
import Derived.Shelf.Strconv.ToError
import Derived.Shelf.Strconv.ToErrorRange
import Derived.Shelf.Strings.Builder1
import Derived.Shelf.Strings.Builder2
import Derived.Shelf.Strings.Count
import Derived.Shelf.Strings.Cut
import Derived.Shelf.Strings.OnBuilder
import Derived.Shelf.Strings.Search1
import Derived.Shelf.Strings.Search2
import Derived.Shelf.Strings.Search3
import Derived.Shelf.Strings.Shaped
import Derived.Shelf.Unicode.DecodeSlow
import Derived.Sort.OwnSortedInts
import Derived.Tactics
import Derived.Test.YtdlnhddpgopghaaDoorProg
import Derived.WalkKit
import Derived.WalkSmall
import Derived.WideLaws
import Derived.Test.YtdlnhddpgopghaaDoorBFnKnownSystems1
import Derived.Test.YtdlnhddpgopghaaDoorBFnKnownSystems2
import Derived.Test.YtdlnhddpgopghaaDoorBFnKnownSystems3
import Derived.Test.YtdlnhddpgopghaaDoorBFnKnownSystems4
import Derived.Test.YtdlnhddpgopghaaDoorBFnKnownSystems5
import Derived.Test.YtdlnhddpgopghaaDoorBFnKnownSystems6
import Derived.Test.YtdlnhddpgopghaaDoorBFnKnownSystems7
import Derived.Test.YtdlnhddpgopghaaDoorBFnKnownSystems8
import Derived.Test.YtdlnhddpgopghaaDoorBFnKnownSystems9
set_option linter.unusedVariables false
set_option linter.unusedSimpArgs false
namespace Go.Proofs.YtdlnhddpgopghaaDoor.Com
open Go.RowKit Go.Proofs.YtdlnhddpgopghaaDoorW.PrintWords
theorem w64 {x : Int} (h1 : -9223372036854775808 ≤ x) (h2 : x ≤ 9223372036854775807) : wrap64 x = x := by
 unfold wrap64
 omega
theorem mul_bd {a b A B : Int} (h0 : 0 ≤ a) (h1 : a ≤ A) (h2 : 0 ≤ b) (h3 : b ≤ B) : 0 ≤ a * b ∧ a * b ≤ A * B :=
 ⟨Int.mul_nonneg h0 h2, Int.mul_le_mul h1 h3 h2 (Int.le_trans h0 h1)⟩
theorem ev_of {α : Type} {g : Nat → Option α} {r : α} (h : Ev g r) : ∃ k, g k = some r := h.rounds
theorem ev_bind' {α β : Type} {o : Option α} {f : Nat → α → Option β} {a : α} {r : β} (h : o = some a) (k : Ev (fun n => f n a) r) : Ev (fun n => o.bind (f n)) r := by
 subst h
 exact k
theorem tmod_nn {a b : Int} (h : 0 ≤ a) : Int.tmod a b = a % b := Int.tmod_eq_emod_of_nonneg h
end Go.Proofs.YtdlnhddpgopghaaDoor.Com
namespace Go.Proofs.YtdlnhddpgopghaaDoor.Com
set_option linter.unusedSimpArgs false
set_option linter.unusedVariables false
open Go.RowKit Go.Proofs.YtdlnhddpgopghaaDoorW.PrintWords
theorem ev_fold {α σ ρ : Type} (xs : List α) (g : Nat → σ → Nat → Option ρ) (F : List α → σ → ρ) (Inv : Nat → σ → Prop)
  (h0 : ∀ s, Inv xs.length s → Ev (g xs.length s) (F [] s))
  (hs : ∀ m (h : m < xs.length) s, Inv m s → (∀ s', Inv (m + 1) s' → Ev (g (m + 1) s') (F (xs.drop (m + 1)) s')) → Ev (g m s) (F (xs[m] :: xs.drop (m + 1)) s)) :
  ∀ m s, m ≤ xs.length → Inv m s → Ev (g m s) (F (xs.drop m) s) := by
 have key : ∀ d m s, m + d = xs.length → Inv m s → Ev (g m s) (F (xs.drop m) s) := by
  intro d
  induction d with
  | zero =>
   intro m s e hi
   obtain rfl : m = xs.length := by omega
   rw [List.drop_length]
   exact h0 s hi
  | succ d ih =>
   intro m s e hi
   have h : m < xs.length := by omega
   rw [List.drop_eq_getElem_cons h]
   exact hs m h s hi (fun s' hi' => ih (m + 1) s' (by omega) hi')
 intro m s hm hi
 exact key (xs.length - m) m s (by omega) hi
theorem ev_list {α ρ : Type} (xs : List α) (g : Nat → Nat → Option ρ) (F : List α → ρ) (h0 : Ev (g xs.length) (F []))
  (hs : ∀ m (h : m < xs.length), Ev (g (m + 1)) (F (xs.drop (m + 1))) → Ev (g m) (F (xs[m] :: xs.drop (m + 1)))) (m : Nat) (hm : m ≤ xs.length) : Ev (g m) (F (xs.drop m)) :=
 ev_fold xs (fun m (_ : Unit) => g m) (fun l _ => F l) (fun _ _ => True) (fun _ _ => h0) (fun m h _ _ ih => hs m h (ih () trivial)) m () hm trivial
theorem ev_count {σ ρ : Type} (n : Nat) (g : Nat → σ → Nat → Option ρ) (r : ρ) (Inv : Nat → σ → Prop) (h0 : ∀ s, Inv n s → Ev (g n s) r)
  (hs : ∀ m s, m < n → Inv m s → ∃ s', Inv (m + 1) s' ∧ (Ev (g (m + 1) s') r → Ev (g m s) r)) : ∀ m s, m ≤ n → Inv m s → Ev (g m s) r := by
 have key : ∀ d m s, m + d = n → Inv m s → Ev (g m s) r := by
  intro d
  induction d with
  | zero =>
   intro m s e hi
   obtain rfl : m = n := by omega
   exact h0 s hi
  | succ d ih =>
   intro m s e hi
   obtain ⟨s', hi', k⟩ := hs m s (by omega) hi
   exact k (ih (m + 1) s' (by omega) hi')
 intro m s hm hi
 exact key (n - m) m s (by omega) hi
theorem rd_nat {xs : List Int} {m : Nat} (h : m < xs.length) : rd xs (m : Int) = xs[m] := by
 unfold rd
 rw [Int.toNat_natCast, List.getD_eq_getElem?_getD, List.getElem?_eq_getElem h]
 rfl
theorem w_succ {m : Nat} (h : m < 9223372036854775807) : wrap64 ((m : Int) + 1) = ((m + 1 : Nat) : Int) := by
 rw [w64 (by omega) (by omega)]
 omega
theorem w_pred {m : Nat} (h : 0 < m) (h' : m < 9223372036854775807) : wrap64 ((m : Int) - 1) = ((m - 1 : Nat) : Int) := by
 rw [w64 (by omega) (by omega)]
 omega
end Go.Proofs.YtdlnhddpgopghaaDoor.Com
namespace Go.Proofs.YtdlnhddpgopghaaDoor.Com
set_option linter.unusedSimpArgs false
set_option linter.unusedVariables false
open Go.RowKit Go.Proofs.YtdlnhddpgopghaaDoorW.PrintWords Go.Proofs.YtdlnhddpgopghaaDoor.Q
theorem within_tells (x a b : Int) : impl_within.f x a b = some (decide (a ≤ x ∧ x ≤ b)) := by
 unfold impl_within.f
 split <;> simp [*]
end Go.Proofs.YtdlnhddpgopghaaDoor.Com
namespace Go.Proofs.YtdlnhddpgopghaaDoor.Com
set_option linter.unusedSimpArgs false
set_option linter.unusedVariables false
open Go.RowKit Go.Proofs.YtdlnhddpgopghaaDoorW.PrintWords Go.Proofs.YtdlnhddpgopghaaDoorW.PrintMore
theorem wraps_i64 (n : Int) (h₀ : 0 ≤ n) (h₁ : n < 2 ^ 63) : IntKind.i64.wrap n = n := by rw [IntKind.wrap_i64]; omega
theorem and_nat (a b : Nat) (ha : a < 4096) (hb : b < 4096) : Go.bits .and .i64 (a : Int) (b : Int) = ((a &&& b : Nat) : Int) :=
 (Go.bits_nat .i64 63 (by decide) wraps_i64 a b (by omega) (by omega)).1
theorem or_nat (a b : Nat) (ha : a < 4096) (hb : b < 4096) : Go.bits .or .i64 (a : Int) (b : Int) = ((a ||| b : Nat) : Int) :=
 (Go.bits_nat .i64 63 (by decide) wraps_i64 a b (by omega) (by omega)).2
theorem uw (n : Int) (h : 0 ≤ n ∧ n ≤ 4096) : IntKind.u64.wrap n = n := by
 simp [IntKind.wrap, IntKind.bits, IntKind.signed]
 omega
theorem shl_one (p : Nat) (h : p ≤ 12) : shl .i64 1 (p : Int) = 2 ^ p := by
 have : ∀ q : Fin 13, shl .i64 1 (q.val : Int) = 2 ^ q.val := by decide +kernel
 exact this ⟨p, by omega⟩
theorem shl_bit (b p : Nat) (hb : b ≤ 1) (h : p ≤ 12) : shl .i64 (b : Int) (p : Int) = ((b * 2 ^ p : Nat) : Int) := by
 have : ∀ (c : Fin 2) (q : Fin 13), shl .i64 (c.val : Int) (q.val : Int) = ((c.val * 2 ^ q.val : Nat) : Int) := by decide +kernel
 exact this ⟨b, by omega⟩ ⟨p, by omega⟩
theorem pow_bd {p : Nat} (h : p ≤ 12) : 1 ≤ 2 ^ p ∧ 2 ^ p ≤ 4096 := by
 have : ∀ q : Fin 13, 1 ≤ 2 ^ q.val ∧ 2 ^ q.val ≤ 4096 := by decide
 exact this ⟨p, by omega⟩
def bitAt (s p : Nat) : Nat := s / 2 ^ p % 2
theorem bitAt_le (s p : Nat) : bitAt s p ≤ 1 := by unfold bitAt; omega
theorem bit_tells (s p : Nat) (hs : s < 4096) (hp : p ≤ 12) : Go.bits .and .i64 (shr .i64 (s : Int) (p : Int)) 1 = ((bitAt s p : Nat) : Int) := by
 have e : shr .i64 (s : Int) (p : Int) = ((s / 2 ^ p : Nat) : Int) := by
  unfold shr
  rw [Int.toNat_natCast, Nat.min_eq_left (by have : IntKind.i64.bits = 64 := rfl; omega)]
  exact_mod_cast rfl
 have hlt : s / 2 ^ p < 4096 := Nat.lt_of_le_of_lt (Nat.div_le_self _ _) hs
 rw [e]
 have := and_nat (s / 2 ^ p) 1 hlt (by omega)
 rw [Nat.and_one_is_mod] at this
 exact this
def popf : Nat → Nat → Nat
 | 0, _ => 0
 | f + 1, n => n % 2 + popf f (n / 2)
def pop (n : Nat) : Nat := popf 12 n
theorem popf_le (f : Nat) : ∀ n, popf f n ≤ f := by
 induction f with
 | zero => intro n; simp [popf]
 | succ f ih => intro n; unfold popf; have := ih (n / 2); omega
theorem pop_le (n : Nat) : pop n ≤ 12 := popf_le 12 n
end Go.Proofs.YtdlnhddpgopghaaDoor.Com
namespace Go.Proofs.YtdlnhddpgopghaaDoor.Com
set_option linter.unusedSimpArgs false
set_option linter.unusedVariables false
open Go.RowKit Go.Proofs.YtdlnhddpgopghaaDoorW.PrintWords Go.Proofs.YtdlnhddpgopghaaDoorW.PrintMore Go.Proofs.YtdlnhddpgopghaaDoor.Q
def full (p : Int) : Int := wrap64 (shl .i64 1 p - 1)
theorem full_nat (p : Nat) (h : p ≤ 12) : full (p : Int) = ((2 ^ p - 1 : Nat) : Int) := by
 have : ∀ q : Fin 13, full (q.val : Int) = ((2 ^ q.val - 1 : Nat) : Int) := by decide +kernel
 exact this ⟨p, by omega⟩
def validSys (p : Int) (l : List Int) : Bool := decide (0 ≤ p ∧ p ≤ 12) && decide ((l.length : Int) ≤ 12) && l.all fun x => decide (0 ≤ x ∧ x ≤ full p)
theorem validSys_of {p : Int} {l : List Int} (h : validSys p l = true) : (∃ q : Nat, p = (q : Int) ∧ q ≤ 12) ∧ l.length ≤ 12 ∧ ∀ x ∈ l, 0 ≤ x ∧ x ≤ full p := by
 unfold validSys at h
 simp only [Bool.and_eq_true, decide_eq_true_eq, List.all_eq_true] at h
 exact ⟨⟨p.toNat, by omega, by omega⟩, by omega, h.2⟩
theorem implValidSys_tells (p : Int) (l : List Int) : impl_ValidSystem.f p l = some (validSys p l) := by
 unfold impl_ValidSystem.f validSys impl_areWithin.f full
 rw [within_tells]
 simp only [Option.bind_some, decide_eq_true_eq]
 by_cases h1 : 0 ≤ p ∧ p ≤ 12
 ·rw [if_pos h1, decide_eq_true h1, if_pos h1.1]
  by_cases h2 : (l.length : Int) ≤ 12
  ·rw [if_pos h2, decide_eq_true h2]
   rfl
  ·rw [if_neg h2, decide_eq_false h2]
   rfl
 ·rw [if_neg h1, decide_eq_false h1]
  rfl
end Go.Proofs.YtdlnhddpgopghaaDoor.Com
namespace Go.Proofs.YtdlnhddpgopghaaDoor.Com
set_option linter.unusedSimpArgs false
set_option linter.unusedVariables false
open Go.RowKit Go.Proofs.YtdlnhddpgopghaaDoorW.PrintWords Go.Proofs.YtdlnhddpgopghaaDoorW.PrintMore Go.Proofs.YtdlnhddpgopghaaDoor.Q
theorem many_tells (n : Nat) (h : n < 4096) : impl_many.f (n : Int) = some ((pop n : Nat) : Int) := by
 have : ∀ a b : Fin 64, impl_many.f ((64 * a.val + b.val : Nat) : Int) = some ((pop (64 * a.val + b.val) : Nat) : Int) := by decide +kernel
 have q := this ⟨n / 64, by omega⟩ ⟨n % 64, by omega⟩
 simp only at q
 rwa [show 64 * (n / 64) + n % 64 = n by omega] at q
end Go.Proofs.YtdlnhddpgopghaaDoor.Com
namespace Go.Proofs.YtdlnhddpgopghaaDoor.Com
set_option linter.unusedSimpArgs false
set_option linter.unusedVariables false
set_option linter.unusedSectionVars false
open Go.RowKit Go.Proofs.YtdlnhddpgopghaaDoorW.PrintWords Go.Proofs.YtdlnhddpgopghaaDoorW.PrintMore Go.Proofs.YtdlnhddpgopghaaDoor.Q
def imb (s r : Nat) : Int := 2 * (pop (s &&& r) : Int) - (pop s : Int)
theorem imb_bd (s r : Nat) : -12 ≤ imb s r ∧ imb s r ≤ 24 := by
 unfold imb
 have := pop_le s
 have := pop_le (s &&& r)
 omega
theorem and_lt {s : Nat} (r : Nat) (h : s < 4096) : s &&& r < 4096 := Nat.lt_of_le_of_lt Nat.and_le_left h
def imbs (l : List Int) (r : Nat) : List Int := l.map fun x => imb x.toNat r
theorem full_lt {p : Nat} (h : p ≤ 12) {x : Int} (hx : 0 ≤ x ∧ x ≤ full p) : x.toNat < 2 ^ p ∧ x.toNat < 4096 := by
 rw [full_nat p h] at hx
 have := pow_bd h
 omega
section
variable {l : List Int} (hl : l.length ≤ 12) (hs : ∀ x ∈ l, 0 ≤ x ∧ x.toNat < 4096)
include hl hs
theorem implImbs_ev (p : Int) (r : Nat) (hr : r < 4096) : Ev (fun k => impl_System_imbalances.f k p l (r : Int)) (imbs l r) := by
 unfold impl_System_imbalances.f
 have gen := ev_fold l (fun m s k => impl_System_imbalances.l0 k (r : Int) s l (l.length : Int) (m : Int)) (fun d s => s ++ imbs d r) (fun m s => s.length = m) ?_ ?_ 0 [] (by omega) rfl
 ·exact gen
 ·intro s hm
  refine Ev.step (fun k => by rw [impl_System_imbalances.l0]) ?_
  simp only [if_neg (show ¬ (l.length : Int) < (l.length : Int) by omega), imbs, List.map_nil, List.append_nil]
  exact Ev.now _
 ·intro m hm s hlen ih
  obtain ⟨x0, x1⟩ := hs l[m] (List.getElem_mem hm)
  refine Ev.step (fun k => by rw [impl_System_imbalances.l0]) ?_
  simp only [if_pos (show (m : Int) < (l.length : Int) by omega), if_pos (show 0 ≤ (m : Int) by omega), rd_nat hm, w_succ (m := m) (by omega), if_pos (show s.length < 17592186044416 by omega)]
  obtain ⟨n, hn⟩ : ∃ n : Nat, l[m] = (n : Int) := ⟨l[m].toNat, by omega⟩
  have hn' : n < 4096 := by rw [hn, Int.toNat_natCast] at x1; exact x1
  have := pop_le n
  have := pop_le (n &&& r)
  rw [hn, and_nat n r hn' hr, many_tells _ (and_lt r hn'), many_tells n hn']
  simp only [Option.bind_some]
  rw [w64 (x := 2 * ((pop (n &&& r) : Nat) : Int)) (by omega) (by omega), w64 (by omega) (by omega)]
  have e : s ++ imbs ((n : Int) :: l.drop (m + 1)) r = (s ++ [2 * ((pop (n &&& r) : Nat) : Int) - ((pop n : Nat) : Int)]) ++ imbs (l.drop (m + 1)) r := by
   simp [imbs, imb]
  rw [e]
  exact ih _ (by simp [hlen])
end
end Go.Proofs.YtdlnhddpgopghaaDoor.Com
namespace Go.Proofs.YtdlnhddpgopghaaDoor.Com
set_option linter.unusedSimpArgs false
set_option linter.unusedVariables false
set_option linter.unusedSectionVars false
open Go.RowKit Go.Proofs.YtdlnhddpgopghaaDoorW.PrintWords Go.Proofs.YtdlnhddpgopghaaDoorW.PrintMore Go.Proofs.YtdlnhddpgopghaaDoor.Q
def gr (l : List Int) : Int := l.foldl (fun s x => mx (mx s x) (-x)) 0
theorem gr_bd (B : Int) (hB : 0 ≤ B) (l : List Int) (h : ∀ x ∈ l, -B ≤ x ∧ x ≤ B) : 0 ≤ gr l ∧ gr l ≤ B := by
 have key : ∀ (l : List Int) (s : Int), 0 ≤ s ∧ s ≤ B → (∀ x ∈ l, -B ≤ x ∧ x ≤ B) → 0 ≤ l.foldl (fun s x => mx (mx s x) (-x)) s ∧ l.foldl (fun s x => mx (mx s x) (-x)) s ≤ B := by
  intro l
  induction l with
  | nil => intro s hs _; exact hs
  | cons x r ih =>
   intro s hs h
   have := h x List.mem_cons_self
   rw [List.foldl_cons]
   refine ih _ ?_ (fun y hy => h y (List.mem_cons_of_mem _ hy))
   unfold mx
   split <;> split <;> omega
 exact key l 0 (by omega) h
theorem greatest_ev (l : List Int) (hx : l.length ≤ 1048576) (hb : ∀ x ∈ l, -9223372036854775807 ≤ x ∧ x ≤ 9223372036854775807) : Ev (fun k => impl_greatest.f k l) (gr l) := by
 unfold impl_greatest.f
 have gen := ev_fold l (fun m s k => impl_greatest.l0 k s l (l.length : Int) (m : Int)) (fun r s => r.foldl (fun s x => mx (mx s x) (-x)) s) (fun m s => True) ?_ ?_ 0 0 (by omega) trivial
 ·simpa [gr] using gen
 ·intro s hs
  refine Ev.step (fun k => by rw [impl_greatest.l0]) ?_
  simp only [if_neg (show ¬ (l.length : Int) < (l.length : Int) by omega)]
  exact Ev.now _
 ·intro m h s hs ih
  have b := hb l[m] (List.getElem_mem h)
  refine Ev.step (fun k => by rw [impl_greatest.l0]) ?_
  simp only [if_pos (show (m : Int) < (l.length : Int) by omega), if_pos (show 0 ≤ (m : Int) by omega), rd_nat h, w_succ (m := m) (by omega)]
  rw [w64 (x := -l[m]) (by omega) (by omega), List.foldl_cons]
  exact ih _ trivial
end Go.Proofs.YtdlnhddpgopghaaDoor.Com
namespace Go.Proofs.YtdlnhddpgopghaaDoor.Com
set_option linter.unusedSimpArgs false
set_option linter.unusedVariables false
set_option linter.unusedSectionVars false
open Go.RowKit Go.Proofs.YtdlnhddpgopghaaDoorW.PrintWords Go.Proofs.YtdlnhddpgopghaaDoorW.PrintMore Go.Proofs.YtdlnhddpgopghaaDoor.Q
def stepD (f : Nat → Int) (s : Int × Int) (r : Nat) : Int × Int := if s.1 < 0 then (f r, (r : Int)) else if f r < s.1 then (f r, (r : Int)) else s
def minD (f : Nat → Int) (ok : Nat → Bool) (n : Nat) : Int × Int := ((List.range n).filter ok).foldl (stepD f) (-1, 0)
theorem minD_succ (f : Nat → Int) (ok : Nat → Bool) (n : Nat) : minD f ok (n + 1) = if ok n then stepD f (minD f ok n) n else minD f ok n := by
 unfold minD
 rw [List.range_succ, List.filter_append, List.foldl_append]
 cases h : ok n <;> simp [h]
def most (l : List Int) (pts r : Nat) : Int := gr (l.map fun x => imb (x.toNat &&& pts) r)
section
variable {l : List Int} (hl : l.length ≤ 12) (hs : ∀ x ∈ l, 0 ≤ x ∧ x.toNat < 4096)
include hl hs
theorem most_bd (pts r : Nat) : 0 ≤ most l pts r ∧ most l pts r ≤ 24 :=
 gr_bd 24 (by omega) _ (fun y hy => by
  obtain ⟨x, _, rfl⟩ := List.mem_map.1 hy
  have := imb_bd (x.toNat &&& pts) r
  omega)
theorem implDisc_ev (p : Nat) (hp : p ≤ 12) : Ev (fun k => impl_System_discrepancy.f k (p : Int) l) (minD (fun r => gr (imbs l r)) (fun _ => true) (2 ^ p)) := by
 have hpw := pow_bd hp
 unfold impl_System_discrepancy.f
 simp only [if_pos (show 0 ≤ (p : Int) by omega), shl_one p hp]
 rw [show (2 : Int) ^ p = ((2 ^ p : Nat) : Int) by simp]
 have gen := ev_count (2 ^ p) (fun m (s : Int × Int) k => impl_System_discrepancy.l0 k s.2 s.1 ((2 ^ p : Nat) : Int) (m : Int) (p : Int) l) (minD (fun r => gr (imbs l r)) (fun _ => true) (2 ^ p)) (fun m s => s = minD (fun r => gr (imbs l r)) (fun _ => true) m) ?_ ?_ 0 (-1, 0) (by omega) rfl
 ·exact gen
 ·rintro s rfl
  refine Ev.step (fun k => by rw [impl_System_discrepancy.l0]) ?_
  simp only [if_neg (show ¬ ((2 ^ p : Nat) : Int) < ((2 ^ p : Nat) : Int) by omega)]
  exact Ev.now _
 ·rintro m s hm rfl
  refine ⟨_, rfl, fun ih => ?_⟩
  refine Ev.step (fun k => by rw [impl_System_discrepancy.l0]) ?_
  simp only [if_pos (show (m : Int) < ((2 ^ p : Nat) : Int) by omega), w_succ (m := m) (by omega)]
  rw [minD_succ] at ih
  simp only [if_true, stepD] at ih
  refine Ev.bind (implImbs_ev hl hs _ m (by omega)) (Ev.bind (greatest_ev _ (by simp [imbs]; omega) (fun y hy => by
   obtain ⟨x, _, rfl⟩ := List.mem_map.1 hy
   have := imb_bd x.toNat m
   omega)) ?_)
  generalize minD (fun r => gr (imbs l r)) (fun _ => true) m = s at ih ⊢
  by_cases c1 : s.1 < 0
  ·simp only [if_pos c1] at ih ⊢
   exact ih
  ·simp only [if_neg c1] at ih ⊢
   by_cases c2 : gr (imbs l m) < s.1
   ·simp only [if_pos c2] at ih ⊢
    exact ih
   ·simp only [if_neg c2] at ih ⊢
    exact ih
end
end Go.Proofs.YtdlnhddpgopghaaDoor.Com
namespace Go.Proofs.YtdlnhddpgopghaaDoor.Com
set_option linter.unusedSimpArgs false
set_option linter.unusedVariables false
set_option linter.unusedSectionVars false
open Go.RowKit Go.Proofs.YtdlnhddpgopghaaDoorW.PrintWords Go.Proofs.YtdlnhddpgopghaaDoorW.PrintMore Go.Proofs.YtdlnhddpgopghaaDoor.Q
theorem popf_zero (f : Nat) : popf f 0 = 0 := by
 induction f with
 | zero => rfl
 | succ f ih => unfold popf; simp [ih]
theorem popf_more (d : Nat) : ∀ f n, n < 2 ^ f → popf (f + d) n = popf f n := by
 intro f
 induction f with
 | zero =>
  intro n h
  have : n = 0 := by simpa using h
  subst this
  rw [popf_zero, popf_zero]
 | succ f ih =>
  intro n h
  rw [show f + 1 + d = (f + d) + 1 by omega, popf, popf, ih (n / 2) (by rw [Nat.pow_succ] at h; omega)]
theorem pop_small {p n : Nat} (hp : p ≤ 12) (h : n < 2 ^ p) : pop n = popf p n := by
 have := popf_more (12 - p) p n h
 rw [show p + (12 - p) = 12 by omega] at this
 exact this
end Go.Proofs.YtdlnhddpgopghaaDoor.Com
namespace Go.Proofs.YtdlnhddpgopghaaDoor.Com
set_option linter.unusedSimpArgs false
set_option linter.unusedVariables false
set_option linter.unusedSectionVars false
open Go.RowKit Go.Proofs.YtdlnhddpgopghaaDoorW.PrintWords Go.Proofs.YtdlnhddpgopghaaDoorW.PrintMore Go.Proofs.YtdlnhddpgopghaaDoor.Q
def rst (pts s : Nat) : Nat → Int × Nat
 | 0 => (0, 0)
 | i + 1 => if bitAt pts i = 0 then rst pts s i else (Go.bits .or .i64 (rst pts s i).1 (shl .i64 ((bitAt s i : Nat) : Int) (((rst pts s i).2 : Nat) : Int)), (rst pts s i).2 + 1)
theorem rst_le (pts s i : Nat) : (rst pts s i).2 ≤ i := by
 induction i with
 | zero => exact Nat.le_refl _
 | succ i ih =>
  unfold rst
  split
  ·omega
  ·show (rst pts s i).2 + 1 ≤ i + 1
   omega
def rsts (l : List Int) (pts p : Nat) : List Int := l.map fun x => (rst pts x.toNat p).1
section
variable {l : List Int} (hl : l.length ≤ 12) (hs : ∀ x ∈ l, 0 ≤ x ∧ x.toNat < 4096) {pts p : Nat} (hp : p ≤ 12) (hpts : pts < 4096)
include hl hs hp hpts
theorem implRst_ev : Ev (fun k => impl_System_restricted.f k (p : Int) l (pts : Int)) (((pop pts : Nat) : Int), rsts l pts p) := by
 unfold impl_System_restricted.f
 refine ev_bind' (many_tells pts hpts) ?_
 generalize ((pop pts : Nat) : Int) = q
 have gen := ev_fold l (fun m s k => impl_System_restricted.l0 k (pts : Int) l (l.length : Int) (m : Int) (p : Int) l q s) (fun d s => (q, s ++ rsts d pts p)) (fun m s => s.length = m) ?_ ?_ 0 [] (by omega) rfl
 ·exact gen
 ·intro s hm
  refine Ev.step (fun k => by rw [impl_System_restricted.l0]) ?_
  simp only [if_neg (show ¬ (l.length : Int) < (l.length : Int) by omega), rsts, List.map_nil, List.append_nil]
  exact Ev.now _
 ·intro m hm s hlen ih
  obtain ⟨x0, x1⟩ := hs l[m] (List.getElem_mem hm)
  refine Ev.step (fun k => by rw [impl_System_restricted.l0]) ?_
  simp only [if_pos (show (m : Int) < (l.length : Int) by omega), if_pos (show 0 ≤ (m : Int) by omega), rd_nat hm]
  obtain ⟨n, hn⟩ : ∃ n : Nat, l[m] = (n : Int) := ⟨l[m].toNat, by omega⟩
  have hn' : n < 4096 := by rw [hn, Int.toNat_natCast] at x1; exact x1
  rw [hn]
  have gen := ev_count p (fun i (st : Int × Nat) k => impl_System_restricted.l1 k (pts : Int) (n : Int) st.1 (st.2 : Int) l (l.length : Int) (m : Int) (p : Int) (i : Int) (p : Int) l q s) (q, s ++ rsts ((n : Int) :: l.drop (m + 1)) pts p) (fun i st => st = rst pts n i) ?_ ?_ 0 (0, 0) (by omega) rfl
  ·exact gen
  ·rintro st rfl
   refine Ev.step (fun k => by rw [impl_System_restricted.l1]) ?_
   simp only [if_neg (show ¬ (p : Int) < (p : Int) by omega), if_pos (show s.length < 17592186044416 by omega), w_succ (m := m) (by omega)]
   have e : s ++ rsts ((n : Int) :: l.drop (m + 1)) pts p = (s ++ [(rst pts n p).1]) ++ rsts (l.drop (m + 1)) pts p := by
    simp [rsts]
   rw [e]
   exact ih _ (by simp [hlen])
  ·rintro i st hi rfl
   refine ⟨_, rfl, fun ih => ?_⟩
   have hle := rst_le pts n i
   refine Ev.step (fun k => by rw [impl_System_restricted.l1]) ?_
   simp only [if_pos (show (i : Int) < (p : Int) by omega), if_pos (show 0 ≤ (i : Int) by omega), bit_tells pts i hpts (by omega), bit_tells n i hn' (by omega), w_succ (m := i) (by omega), if_pos (show 0 ≤ (((rst pts n i).2 : Nat) : Int) by omega), w_succ (m := (rst pts n i).2) (by omega)]
   have hb := bitAt_le pts i
   rw [rst] at ih
   by_cases c : bitAt pts i = 0
   ·simp only [if_pos c] at ih
    simp only [if_neg (show ¬ ((bitAt pts i : Nat) : Int) = 1 by omega)]
    exact ih
   ·simp only [if_neg c] at ih
    simp only [if_pos (show ((bitAt pts i : Nat) : Int) = 1 by omega)]
    exact ih
end
end Go.Proofs.YtdlnhddpgopghaaDoor.Com
namespace Go.Proofs.YtdlnhddpgopghaaDoor.Com
set_option linter.unusedSimpArgs false
set_option linter.unusedVariables false
set_option linter.unusedSectionVars false
open Go.RowKit Go.Proofs.YtdlnhddpgopghaaDoorW.PrintWords Go.Proofs.YtdlnhddpgopghaaDoorW.PrintMore Go.Proofs.YtdlnhddpgopghaaDoor.Q
def ext : Nat → Nat → Nat → Nat
 | 0, _, _ => 0
 | f + 1, m, s => if m % 2 = 0 then ext f (m / 2) (s / 2) else s % 2 + 2 * ext f (m / 2) (s / 2)
def dep : Nat → Nat → Nat → Nat
 | 0, _, _ => 0
 | f + 1, m, t => if m % 2 = 0 then 2 * dep f (m / 2) t else t % 2 + 2 * dep f (m / 2) (t / 2)
theorem ext_lt (f : Nat) : ∀ m s, ext f m s < 2 ^ popf f m := by
 induction f with
 | zero => intro m s; simp [ext, popf]
 | succ f ih =>
  intro m s
  unfold ext popf
  have := ih (m / 2) (s / 2)
  split
  next h => rw [h, Nat.zero_add]; exact this
  next h =>
   rw [show m % 2 = 1 by omega, Nat.pow_add]
   omega
theorem ext_lt' (f m s : Nat) : ext f m s < 2 ^ f := Nat.lt_of_lt_of_le (ext_lt f m s) (Nat.pow_le_pow_right (by omega) (popf_le f m))
theorem and_mod (a b : Nat) : (a &&& b) % 2 = (a % 2) * (b % 2) := by
 have := Nat.and_mod_two_pow (a := a) (b := b) (n := 1)
 rw [show (2 : Nat) ^ 1 = 2 from rfl] at this
 rw [this]
 rcases (show a % 2 = 0 ∨ a % 2 = 1 by omega) with h | h <;> rcases (show b % 2 = 0 ∨ b % 2 = 1 by omega) with h' | h' <;> rw [h, h'] <;> rfl
theorem pop_ext (f : Nat) : ∀ m s r, popf f (ext f m s &&& ext f m r) = popf f ((s &&& m) &&& r) := by
 induction f with
 | zero => intro m s r; rfl
 | succ f ih =>
  intro m s r
  have e : popf (f + 1) ((s &&& m) &&& r) = (s % 2) * (m % 2) * (r % 2) + popf f (((s / 2) &&& (m / 2)) &&& (r / 2)) := by
   rw [popf, and_mod, and_mod, Nat.and_div_two, Nat.and_div_two]
  rw [e]
  unfold ext
  split
  next h =>
   rw [h, Nat.mul_zero, Nat.zero_mul, Nat.zero_add, ← ih, popf_more 1 f _ (Nat.lt_of_le_of_lt Nat.and_le_left (ext_lt' f _ _))]
  next h =>
   rw [show m % 2 = 1 by omega, Nat.mul_one, popf, and_mod, Nat.and_div_two, ← ih,
    show (s % 2 + 2 * ext f (m / 2) (s / 2)) % 2 = s % 2 by omega, show (r % 2 + 2 * ext f (m / 2) (r / 2)) % 2 = r % 2 by omega,
    show (s % 2 + 2 * ext f (m / 2) (s / 2)) / 2 = ext f (m / 2) (s / 2) by omega, show (r % 2 + 2 * ext f (m / 2) (r / 2)) / 2 = ext f (m / 2) (r / 2) by omega]
theorem pop_ext_one (f m s : Nat) : popf f (ext f m s) = popf f (s &&& m) := by
 have := pop_ext f m s s
 rw [Nat.and_self] at this
 rw [this, Nat.and_comm s m, Nat.and_assoc, Nat.and_self]
theorem ext_dep (f : Nat) : ∀ m t, t < 2 ^ popf f m → ext f m (dep f m t) = t := by
 induction f with
 | zero => intro m t h; simp [popf] at h; subst h; rfl
 | succ f ih =>
  intro m t h
  unfold popf at h
  unfold ext dep
  split
  next c =>
   rw [show 2 * dep f (m / 2) t / 2 = dep f (m / 2) t by omega]
   exact ih _ _ (by rwa [c, Nat.zero_add] at h)
  next c =>
   rw [show m % 2 = 1 by omega, Nat.pow_add] at h
   rw [show (t % 2 + 2 * dep f (m / 2) (t / 2)) / 2 = dep f (m / 2) (t / 2) by omega, ih _ _ (by omega)]
   omega
theorem dep_sub (f : Nat) : ∀ m t, m < 2 ^ f → dep f m t &&& m = dep f m t := by
 induction f with
 | zero => intro m t h; simp [dep]
 | succ f ih =>
  intro m t h
  have hm : m / 2 < 2 ^ f := by rw [Nat.pow_succ] at h; omega
  have two : ∀ x y : Nat, x % 2 = y % 2 → x / 2 = y / 2 → x = y := fun x y _ _ => by omega
  unfold dep
  split
  next c =>
   apply two
   ·rw [and_mod, c, Nat.mul_zero]; omega
   ·rw [Nat.and_div_two, show 2 * dep f (m / 2) t / 2 = dep f (m / 2) t by omega, ih _ _ hm]
  next c =>
   apply two
   ·rw [and_mod, show m % 2 = 1 by omega, Nat.mul_one]
   ·rw [Nat.and_div_two, show (t % 2 + 2 * dep f (m / 2) (t / 2)) / 2 = dep f (m / 2) (t / 2) by omega, ih _ _ hm]
theorem bitAt_half (m i : Nat) : bitAt m (i + 1) = bitAt (m / 2) i := by
 unfold bitAt
 rw [Nat.pow_succ, Nat.mul_comm, ← Nat.div_div_eq_div_mul]
theorem popf_up (i : Nat) : ∀ m, popf (i + 1) m = popf i m + bitAt m i := by
 induction i with
 | zero => intro m; simp [popf, bitAt]
 | succ i ih =>
  intro m
  rw [popf, ih, bitAt_half, popf, Nat.add_assoc]
theorem ext_up (i : Nat) : ∀ m s, ext (i + 1) m s = ext i m s + bitAt m i * bitAt s i * 2 ^ popf i m := by
 induction i with
 | zero =>
  intro m s
  simp only [ext, popf, bitAt, Nat.pow_zero, Nat.div_one, Nat.mul_one, Nat.mul_zero, Nat.add_zero, Nat.zero_add]
  split
  next h => rw [h, Nat.zero_mul]
  next h => rw [show m % 2 = 1 by omega, Nat.one_mul]
 | succ i ih =>
  intro m s
  rw [ext, ih, bitAt_half, bitAt_half]
  rw [show ext (i + 1) m s = if m % 2 = 0 then ext i (m / 2) (s / 2) else s % 2 + 2 * ext i (m / 2) (s / 2) from rfl, popf]
  split
  next h => rw [h, Nat.zero_add]
  next h =>
   rw [show m % 2 = 1 by omega, Nat.pow_add, Nat.pow_one, Nat.mul_add, Nat.mul_left_comm _ 2]
   omega
theorem rst_ext (pts s : Nat) (i : Nat) (hi : i ≤ 12) : rst pts s i = (((ext i pts s : Nat) : Int), popf i pts) := by
 induction i with
 | zero => rfl
 | succ i ih =>
  have ih := ih (by omega)
  unfold rst
  rw [ih, popf_up, ext_up]
  have hb := bitAt_le pts i
  split
  next h => simp [h]
  next h =>
   rw [show bitAt pts i = 1 by omega, Nat.one_mul]
   have hc := popf_le i pts
   have hx := ext_lt i pts s
   have hs := bitAt_le s i
   have hp := pow_bd (p := popf i pts) (by omega)
   have hp' := pow_bd (p := i) (by omega)
   have hp1 : 2 ^ i ≤ 2048 := Nat.le_trans (Nat.pow_le_pow_right (by omega) (show i ≤ 11 by omega)) (by decide)
   have hp2 : 2 ^ popf i pts ≤ 2048 := Nat.le_trans (Nat.pow_le_pow_right (by omega) (show popf i pts ≤ 11 by omega)) (by decide)
   have hm : bitAt s i * 2 ^ popf i pts ≤ 2048 := Nat.le_trans (Nat.mul_le_mul hs hp2) (by omega)
   simp only
   rw [shl_bit (bitAt s i) (popf i pts) hs (by omega), or_nat _ _ (by omega) (by omega), Nat.or_comm, Nat.mul_comm (bitAt s i), ← Nat.two_pow_add_eq_or_of_lt hx]
   rw [Nat.add_comm]
theorem minD_char {f : Nat → Int} (hf : ∀ r, 0 ≤ f r) (ok : Nat → Bool) (n : Nat) :
  ((∀ r, r < n → ok r = false) ∧ (minD f ok n).1 = -1) ∨ ((∃ r, r < n ∧ ok r = true ∧ (minD f ok n).1 = f r) ∧ ∀ r, r < n → ok r = true → (minD f ok n).1 ≤ f r) := by
 induction n with
 | zero => exact .inl ⟨fun r h => absurd h (by omega), rfl⟩
 | succ n ih =>
  rw [minD_succ]
  cases h : ok n with
  | false =>
   simp only [Bool.false_eq_true, if_false]
   rcases ih with ⟨a, b⟩ | ⟨⟨r, r0, r1, r2⟩, b⟩
   ·refine .inl ⟨fun r hr => ?_, b⟩
    by_cases q : r = n
    ·subst q; exact h
    ·exact a r (by omega)
   ·refine .inr ⟨⟨r, by omega, r1, r2⟩, fun r hr ho => ?_⟩
    by_cases q : r = n
    ·subst q; rw [h] at ho; exact absurd ho (by simp)
    ·exact b r (by omega) ho
  | true =>
   simp only [if_true]
   unfold stepD
   have hn := hf n
   rcases ih with ⟨a, b⟩ | ⟨⟨r, r0, r1, r2⟩, b⟩
   ·rw [if_pos (by omega)]
    refine .inr ⟨⟨n, by omega, h, rfl⟩, fun r hr ho => ?_⟩
    by_cases q : r = n
    ·subst q; exact Int.le_refl _
    ·rw [a r (by omega)] at ho; exact absurd ho (by simp)
   ·have := hf r
    rw [if_neg (by omega)]
    split
    next c =>
     refine .inr ⟨⟨n, by omega, h, rfl⟩, fun x hx ho => ?_⟩
     by_cases q : x = n
     ·subst q; exact Int.le_refl _
     ·have := b x (by omega) ho; simp only; omega
    next c =>
     refine .inr ⟨⟨r, by omega, r1, r2⟩, fun x hx ho => ?_⟩
     by_cases q : x = n
     ·subst q; omega
     ·exact b x (by omega) ho
theorem minD_eq {f g : Nat → Int} (hf : ∀ r, 0 ≤ f r) (hg : ∀ r, 0 ≤ g r) {ok ok' : Nat → Bool} {n m : Nat}
  (h1 : ∀ r, r < n → ok r = true → ∃ q, q < m ∧ ok' q = true ∧ g q = f r) (h2 : ∀ q, q < m → ok' q = true → ∃ r, r < n ∧ ok r = true ∧ f r = g q) : (minD f ok n).1 = (minD g ok' m).1 := by
 rcases minD_char hf ok n with ⟨a, b⟩ | ⟨⟨r, r0, r1, r2⟩, b⟩ <;> rcases minD_char hg ok' m with ⟨a', b'⟩ | ⟨⟨q, q0, q1, q2⟩, b'⟩
 ·rw [b, b']
 ·obtain ⟨r, r0, r1, _⟩ := h2 q q0 q1
  rw [a r r0] at r1; exact absurd r1 (by simp)
 ·obtain ⟨q, q0, q1, _⟩ := h1 r r0 r1
  rw [a' q q0] at q1; exact absurd q1 (by simp)
 ·obtain ⟨x, x0, x1, x2⟩ := h1 r r0 r1
  obtain ⟨y, y0, y1, y2⟩ := h2 q q0 q1
  have := b' x x0 x1
  have := b y y0 y1
  omega
end Go.Proofs.YtdlnhddpgopghaaDoor.Com
namespace Go.Proofs.YtdlnhddpgopghaaDoor.Com
set_option linter.unusedSimpArgs false
set_option linter.unusedVariables false
set_option linter.unusedSectionVars false
open Go.RowKit Go.Proofs.YtdlnhddpgopghaaDoorW.PrintWords Go.Proofs.YtdlnhddpgopghaaDoorW.PrintMore Go.Proofs.YtdlnhddpgopghaaDoor.Q
def her (l : List Int) (pts : Nat) : Int := (minD (most l pts) (fun r => decide (r &&& pts = r)) (pts + 1)).1
def herTo (l : List Int) : Nat → Int
 | 0 => 0
 | n + 1 => mx (herTo l n) (her l n)
section
variable {l : List Int} (hl : l.length ≤ 12) (hs : ∀ x ∈ l, 0 ≤ x ∧ x.toNat < 4096)
include hl hs
theorem her_ext {p pts : Nat} (hp : p ≤ 12) (hl' : ∀ x ∈ l, x.toNat < 2 ^ p) (hpts : pts < 2 ^ p) :
  (minD (fun r => gr (imbs (rsts l pts p) r)) (fun _ => true) (2 ^ pop pts)).1 = her l pts := by
 have pp := pop_small hp hpts
 have key : ∀ r, r &&& pts = r → imbs (rsts l pts p) (ext p pts r) = l.map fun x => imb (x.toNat &&& pts) r := by
  intro r hr
  unfold imbs rsts
  rw [List.map_map]
  apply List.map_congr_left
  intro x hx
  have h1 : (x.toNat &&& pts) < 2 ^ p := Nat.lt_of_le_of_lt Nat.and_le_left (hl' x hx)
  have h2 : (x.toNat &&& pts) &&& r < 2 ^ p := Nat.lt_of_le_of_lt Nat.and_le_left h1
  have h3 := ext_lt' p pts x.toNat
  have h4 : ext p pts x.toNat &&& ext p pts r < 2 ^ p := Nat.lt_of_le_of_lt Nat.and_le_left h3
  show imb ((rst pts x.toNat p).1).toNat (ext p pts r) = _
  rw [rst_ext pts x.toNat p hp, Int.toNat_natCast]
  unfold imb
  rw [pop_small hp h1, pop_small hp h2, pop_small hp h3, pop_small hp h4, pop_ext, pop_ext_one]
 have nn : ∀ r, 0 ≤ gr (imbs (rsts l pts p) r) := fun r => (gr_bd 24 (by omega) _ (fun y hy => by
  obtain ⟨x, _, rfl⟩ := List.mem_map.1 hy
  have := imb_bd x.toNat r
  omega)).1
 unfold her
 refine minD_eq nn (fun r => (most_bd hl hs pts r).1) ?_ ?_
 ·intro t ht _
  have hd := dep_sub p pts t hpts
  have he := ext_dep p pts t (by rw [← pp]; exact ht)
  refine ⟨dep p pts t, ?_, decide_eq_true hd, ?_⟩
  ·have : dep p pts t ≤ pts := by rw [← hd]; exact Nat.and_le_right
   omega
  ·unfold most
   rw [← key _ hd, he]
 ·intro r hr ho
  have ho := of_decide_eq_true ho
  refine ⟨ext p pts r, by rw [pp]; exact ext_lt p pts r, rfl, ?_⟩
  unfold most
  rw [← key _ ho]
theorem implHer_ev {p : Nat} (hp : p ≤ 12) (hl' : ∀ x ∈ l, x.toNat < 2 ^ p) : Ev (fun k => impl_HereditaryOf.l0 k 0 ((2 ^ p : Nat) : Int) 0 (p : Int) l) (herTo l (2 ^ p), true) := by
 have pb := pow_bd hp
 have gen := ev_count (2 ^ p) (fun m (s : Int) k => impl_HereditaryOf.l0 k s ((2 ^ p : Nat) : Int) (m : Int) (p : Int) l) (herTo l (2 ^ p), true) (fun m s => s = herTo l m) ?_ ?_ 0 0 (by omega) rfl
 ·exact gen
 ·rintro s rfl
  refine Ev.step (fun k => by rw [impl_HereditaryOf.l0]) ?_
  simp only [if_neg (show ¬ ((2 ^ p : Nat) : Int) < ((2 ^ p : Nat) : Int) by omega)]
  exact Ev.now _
 ·rintro m s hm rfl
  refine ⟨_, rfl, fun ih => ?_⟩
  rw [herTo, ← her_ext hl hs hp hl' hm] at ih
  refine Ev.step (fun k => by rw [impl_HereditaryOf.l0]) ?_
  simp only [if_pos (show (m : Int) < ((2 ^ p : Nat) : Int) by omega)]
  have hr : ∀ x ∈ rsts l m p, 0 ≤ x ∧ x.toNat < 4096 := by
   intro y hy
   obtain ⟨x, _, rfl⟩ := List.mem_map.1 hy
   have := ext_lt' p m x.toNat
   rw [rst_ext m x.toNat p hp, Int.toNat_natCast]
   omega
  refine Ev.bind (implRst_ev hl hs hp (by omega)) (Ev.bind (implDisc_ev (l := rsts l m p) (by simp [rsts]; omega) hr (pop m) (pop_le m)) ?_)
  simp only [w_succ (m := m) (by omega)]
  exact ih
end
theorem uni_ev {p : Int} {l : List Int} {r : Int × Bool} (h : Ev (fun k => impl_HereditaryOf.f k p l) r) : Ev (fun k => impl_IsUnimodular.f k p l) (r.2 && decide (r.1 ≤ 1)) := by
 unfold impl_IsUnimodular.f
 refine Ev.bind h ?_
 cases e : r.2 with
 | true =>
  simp only [if_true, Bool.true_and]
  exact Ev.now _
 | false =>
  simp only [Bool.false_eq_true, if_false, Bool.false_and]
  exact Ev.now _
end Go.Proofs.YtdlnhddpgopghaaDoor.Com
namespace Go.Proofs.YtdlnhddpgopghaaDoor.Com
set_option linter.unusedSimpArgs false
set_option linter.unusedVariables false
set_option linter.unusedSectionVars false
open Go.RowKit Go.Proofs.YtdlnhddpgopghaaDoorW.PrintWords Go.Proofs.YtdlnhddpgopghaaDoorW.PrintMore Go.Proofs.YtdlnhddpgopghaaDoor.Q
def altF : Nat → Nat → Bool → Nat
 | 0, _, _ => 0
 | f + 1, m, b => if m % 2 = 1 then (if b then 1 else 0) + 2 * altF f (m / 2) (!b) else 2 * altF f (m / 2) b
def alt (m : Nat) : Nat := altF 6 m true
theorem alt_facts : ∀ m : Fin 64, alt m.val &&& m.val = alt m.val ∧ -1 ≤ imb m.val (alt m.val) ∧ imb m.val (alt m.val) ≤ 1 := by decide +kernel
theorem sub_zero {s t m : Nat} (h1 : t &&& m = t) (h2 : s &&& m = 0) : s &&& t = 0 := by
 have : s &&& t = s &&& (t &&& m) := by rw [h1]
 rw [this, Nat.and_comm t m, ← Nat.and_assoc, h2, Nat.zero_and]
theorem alt_sub {m : Nat} (h : m < 64) : alt m &&& m = alt m := (alt_facts ⟨m, h⟩).1
section
variable {l : List Int} (hl : l.length ≤ 12) (hs : ∀ x ∈ l, 0 ≤ x ∧ x.toNat < 4096)
include hl hs
theorem her_le (pts r : Nat) (hr : r &&& pts = r) : her l pts ≤ most l pts r := by
 have hlt : r < pts + 1 := by
  have : r &&& pts ≤ pts := Nat.and_le_right
  omega
 unfold her
 rcases minD_char (fun r => (most_bd hl hs pts r).1) (fun r => decide (r &&& pts = r)) (pts + 1) with ⟨h, _⟩ | ⟨_, h⟩
 ·have := h r hlt
  rw [decide_eq_true hr] at this
  cases this
 ·exact h r hlt (decide_eq_true hr)
theorem most_le (pts r : Nat) (B : Int) (hB : 0 ≤ B) (h : ∀ x ∈ l, -B ≤ imb (x.toNat &&& pts) r ∧ imb (x.toNat &&& pts) r ≤ B) : most l pts r ≤ B :=
 (gr_bd B hB _ (fun y hy => by
  obtain ⟨x, hx, rfl⟩ := List.mem_map.1 hy
  exact h x hx)).2
theorem herTo_bd (B : Int) (hB : 0 ≤ B) (n : Nat) (h : ∀ m, m < n → her l m ≤ B) : herTo l n ≤ B := by
 induction n with
 | zero => exact hB
 | succ n ih =>
  have h1 := ih (fun m hm => h m (by omega))
  have h2 := h n (by omega)
  unfold herTo mx
  split <;> omega
end
end Go.Proofs.YtdlnhddpgopghaaDoor.Com
namespace Go.Proofs.YtdlnhddpgopghaaDoor.Com
set_option linter.unusedSimpArgs false
set_option linter.unusedVariables false
set_option linter.unusedSectionVars false
open Go.RowKit Go.Proofs.YtdlnhddpgopghaaDoorW.PrintWords Go.Proofs.YtdlnhddpgopghaaDoorW.PrintMore Go.Proofs.YtdlnhddpgopghaaDoor.Q
theorem and_255 (x : Nat) (h : x < 18446744073709551616) : ∃ r : Nat, Go.bits .and .u64 (x : Int) 255 = (r : Int) ∧ r ≤ 255 :=
 ⟨x &&& 255, (Go.bits_nat .u64 64 (by decide) (fun n h0 h1 => by simp [IntKind.wrap, IntKind.bits, IntKind.signed]; omega) x 255 h (by decide)).1, Nat.and_le_right⟩
theorem u64_bd (n : Int) : 0 ≤ IntKind.u64.wrap n ∧ IntKind.u64.wrap n < 18446744073709551616 := by
 simp [IntKind.wrap, IntKind.bits, IntKind.signed]
 omega
theorem u8_bd {x : Int} (h : (Lit.int .u8 x).wf = true) : 0 ≤ x ∧ x ≤ 255 := by
 simp [Lit.wf, IntKind.min, IntKind.max, IntKind.signed, IntKind.bits] at h
 omega
theorem next_tells (l : List Int) (hl : ∀ x ∈ l, (Lit.int .u8 x).wf = true) (a s : Int) (ha : 0 ≤ a ∧ a ≤ 1000) : ∃ v s', spec_l00Src_next.f l a s = some (v, a + 1, s') ∧ 0 ≤ v ∧ v ≤ 255 := by
 unfold spec_l00Src_next.f
 rw [w64 (x := a + 1) (by omega) (by omega)]
 have big : ∀ y : Int, ∃ r : Nat, Go.bits .and .u64 (IntKind.u64.wrap y / 1099511627776) 255 = (r : Int) ∧ r ≤ 255 := by
  intro y
  have b := u64_bd y
  obtain ⟨n, hn⟩ := Int.eq_ofNat_of_zero_le (show 0 ≤ IntKind.u64.wrap y / 1099511627776 by omega)
  rw [hn]
  exact and_255 n (by omega)
 by_cases h : a < (l.length : Int)
 ·rw [if_pos h, if_pos ha.1, if_pos (by omega)]
  have hlt : a.toNat < l.length := by omega
  have hv : rd l a = l[a.toNat] := by
   have := rd_nat hlt
   rwa [Int.toNat_of_nonneg ha.1] at this
  have b := u8_bd (hl _ (List.getElem_mem hlt))
  rw [hv, w64 (x := l[a.toNat]) (by omega) (by omega)]
  exact ⟨_, _, rfl, b.1, b.2⟩
 ·rw [if_neg h]
  split
  ·exact ⟨_, _, rfl, by omega, by omega⟩
  ·obtain ⟨r, hr, hr'⟩ := big (IntKind.u64.wrap (IntKind.u64.wrap (s * 6364136223846793005)) + 1442695040888963407)
   rw [hr, w64 (x := (r : Int)) (by omega) (by omega)]
   exact ⟨_, _, rfl, by omega, by omega⟩
theorem pick_tells (l : List Int) (hl : ∀ x ∈ l, (Lit.int .u8 x).wf = true) (a s n : Int) (ha : 0 ≤ a ∧ a ≤ 1000) (hn : 1 ≤ n ∧ n ≤ 200) : ∃ v a' s', spec_l00Src_pick.f l a s n = some (v, a', s') ∧ 0 ≤ v ∧ v < n ∧ 0 ≤ a' ∧ a' ≤ a + 1 := by
 unfold spec_l00Src_pick.f
 by_cases h : n ≤ 1
 ·rw [if_pos h]
  exact ⟨_, _, _, rfl, by omega, by omega, by omega, by omega⟩
 ·obtain ⟨v, s', e, h0, h1⟩ := next_tells l hl a s ha
  rw [if_neg h, e, Option.bind_some, if_neg (by omega), if_neg (by omega), tmod_nn h0]
  have := Int.emod_nonneg v (show n ≠ 0 by omega)
  have := Int.emod_lt_of_pos v (show 0 < n by omega)
  exact ⟨v % n, a + 1, s', rfl, by omega, by omega, by omega, by omega⟩
theorem weight_ev (n : Nat) (h : n < 4096) : Ev (fun k => laws_r8Weight.f k (n : Int)) ((pop n : Nat) : Int) := by
 have : ∀ a b : Fin 64, laws_r8Weight.f 14 ((64 * a.val + b.val : Nat) : Int) = some ((pop (64 * a.val + b.val) : Nat) : Int) := by decide +kernel
 have q := this ⟨n / 64, by omega⟩ ⟨n % 64, by omega⟩
 simp only at q
 rw [show 64 * (n / 64) + n % 64 = n by omega] at q
 exact Ev.of (fun k => laws_r8Weight.mono _ k) q
end Go.Proofs.YtdlnhddpgopghaaDoor.Com
namespace Go.Proofs.YtdlnhddpgopghaaDoor.Com
set_option linter.unusedSimpArgs false
set_option linter.unusedVariables false
open Go.RowKit Go.Proofs.YtdlnhddpgopghaaDoorW.PrintWords Go.Proofs.YtdlnhddpgopghaaDoorW.PrintMore Go.Proofs.YtdlnhddpgopghaaDoor.Q
def bytesOf (s : List Int) : List UInt8 := s.map fun n => UInt8.ofNat n.toNat
theorem str_bytes (s : List Int) : strOfNums s = ⟨(bytesOf s).toArray⟩ := by
 apply ByteArray.ext
 simp [strOfNums, bytesOf]
theorem str_app (a b : List Int) : strOfNums a ++ strOfNums b = strOfNums (a ++ b) := by
 apply ByteArray.ext
 simp [strOfNums, ByteArray.data_append]
def digs (n : Nat) : List Int := if h : n < 10 then [48 + (n : Int)] else digs (n / 10) ++ [48 + ((n % 10 : Nat) : Int)]
termination_by n
decreasing_by omega
theorem digs_lt {n : Nat} (h : n < 10) : digs n = [48 + (n : Int)] := by rw [digs, dif_pos h]
theorem digs_ge {n : Nat} (h : ¬ n < 10) : digs n = digs (n / 10) ++ [48 + ((n % 10 : Nat) : Int)] := by rw [digs, dif_neg h]
theorem digs_len (d : Nat) : ∀ n, n < 10 ^ (d + 1) → (digs n).length ≤ d + 1 := by
 induction d with
 | zero => intro n h; rw [digs_lt (by simpa using h)]; simp
 | succ d ih =>
  intro n h
  by_cases q : n < 10
  ·rw [digs_lt q]; simp
  ·rw [digs_ge q, List.length_append, List.length_singleton]
   have := ih (n / 10) (by rw [Nat.pow_succ] at h; omega)
   omega
theorem digs_bytes (n : Nat) : Go.Lib.decDigits n = bytesOf (digs n) := by
 induction n using Nat.strongRecOn with
 | _ n ih =>
  rw [Go.Lib.decDigits]
  by_cases q : n < 10
  ·rw [dif_pos q, digs_lt q]
   show [UInt8.ofNat (48 + n)] = [UInt8.ofNat (48 + (n : Int)).toNat]
   rw [show (48 + (n : Int)).toNat = 48 + n by omega]
  ·rw [dif_neg q, digs_ge q, ih (n / 10) (by omega)]
   unfold bytesOf
   rw [List.map_append]
   show _ ++ [UInt8.ofNat (48 + n % 10)] = _ ++ [UInt8.ofNat (48 + ((n % 10 : Nat) : Int)).toNat]
   rw [show (48 + ((n % 10 : Nat) : Int)).toNat = 48 + n % 10 by omega]
end Go.Proofs.YtdlnhddpgopghaaDoor.Com
namespace Go.Proofs.YtdlnhddpgopghaaDoor.Com
set_option linter.unusedSimpArgs false
set_option linter.unusedVariables false
set_option linter.unusedSectionVars false
open Go.RowKit Go.Proofs.YtdlnhddpgopghaaDoorW.PrintWords Go.Proofs.YtdlnhddpgopghaaDoorW.PrintMore Go.Proofs.YtdlnhddpgopghaaDoor.Q
def hasB (s : Int) (i : Nat) : Bool := decide (Go.bits .and .i64 (shr .i64 s (i : Int)) 1 = 1)
def chars (s : Int) : List Nat → List Int
 | [] => []
 | i :: r => (if hasB s i = true then [97 + (i : Int)] else []) ++ chars s r
theorem chars_len (s : Int) (l : List Nat) : (chars s l).length ≤ l.length := by
 induction l with
 | nil => exact Nat.le_refl _
 | cons i r ih =>
  unfold chars
  rw [List.length_append, List.length_cons]
  split <;> simp <;> omega
def word (P : Nat) (s : Int) : List Int := if s = 0 then [45] else chars s (List.range P)
theorem word_len (P : Nat) (s : Int) (h : P ≤ 12) : (word P s).length ≤ 12 := by
 unfold word
 split
 ·simp
 ·have := chars_len s (List.range P)
  rw [List.length_range] at this
  omega
def rest (P : Nat) : Bool → List Int → List Int
 | _, [] => []
 | f, s :: r => (if f = true then [] else [44]) ++ (word P s ++ rest P false r)
theorem rest_join (P : Nat) (l : List Int) : bytesOf (rest P true l) = Go.Lib.join (l.map fun s => bytesOf (word P s)) [44] := by
 unfold Go.Lib.join
 cases l with
 | nil => rfl
 | cons s r =>
  have key : ∀ (r : List Int) (s : Int), bytesOf (word P s ++ rest P false r) = List.intercalate [44] ((s :: r).map fun s => bytesOf (word P s)) := by
   intro r
   induction r with
   | nil => intro s; simp [rest, bytesOf, List.intercalate]
   | cons t r ih =>
    intro s
    have := ih t
    simp only [rest, Bool.false_eq_true, if_false, List.map_cons] at this ⊢
    rw [show List.intercalate [44] (bytesOf (word P s) :: bytesOf (word P t) :: r.map fun s => bytesOf (word P s)) = bytesOf (word P s) ++ [44] ++ List.intercalate [44] (bytesOf (word P t) :: r.map fun s => bytesOf (word P s)) by simp [List.intercalate]]
    rw [← this]
    simp [bytesOf]
  have := key r s
  simpa [rest] using this
theorem dec12_len (q : Nat) (h : q ≤ 12) : (digs q).length ≤ 2 := digs_len 1 q (by omega)
theorem implDec_tells (q : Nat) (h : q ≤ 12) : impl_Decimal.f (q : Int) = some (strOfNums (digs q)) := by
 unfold impl_Decimal.f
 rw [if_pos (by omega), Int.toNat_natCast, digs_bytes, ← str_bytes]
section
variable {P : Nat} {l : List Int} (hP : P ≤ 12) (hl : l.length ≤ 12)
include hP hl
def wordsOf (P : Nat) (d : List Int) : List ByteArray := d.map fun s => strOfNums (word P s)
theorem words_data (P : Nat) (d : List Int) : (wordsOf P d).map (·.data.toList) = d.map fun s => bytesOf (word P s) := by
 unfold wordsOf
 rw [List.map_map]
 refine List.map_congr_left fun s _ => ?_
 simp [str_bytes]
theorem rest_len (f : Bool) (d : List Int) : (rest P f d).length ≤ 13 * d.length := by
 induction d generalizing f with
 | nil => simp [rest]
 | cons s r ih =>
  have := ih false
  have hw := word_len P s hP
  unfold rest
  rw [List.length_append, List.length_append, List.length_cons]
  split <;> simp <;> omega
theorem implJoin : strings_Join.f (wordsOf P l) (⟨#[44]⟩ : ByteArray) = some (strOfNums (rest P true l)) := by
 unfold strings_Join.f
 rw [words_data hP hl P l, show ((⟨#[44]⟩ : ByteArray).data.toList) = ([44] : List UInt8) from rfl, ← rest_join]
 have h1 := rest_len hP hl true l
 have h2 : (wordsOf P l).length = l.length := by unfold wordsOf; rw [List.length_map]
 have h3 : (bytesOf (rest P true l)).length = (rest P true l).length := by unfold bytesOf; rw [List.length_map]
 rw [if_pos ⟨by omega, by omega⟩, str_bytes]
theorem implChars_ev (m : Nat) (hm : m < l.length) (ws : List ByteArray) (hw : ws.length ≤ 12) (G : ByteArray × Bool)
  (cont : Ev (fun k => impl_SystemText.l0 k (ws ++ [strOfNums (word P l[m])]) l (l.length : Int) (wrap64 ((m : Int) + 1)) (P : Int) l) G) :
  Ev (fun k => impl_SystemText.l1 k ws l[m] [] l (l.length : Int) (m : Int) (P : Int) 0 (P : Int) l) G := by
 have gen := ev_fold (List.range P) (fun j (t : List Int) k => impl_SystemText.l1 k ws l[m] t l (l.length : Int) (m : Int) (P : Int) (j : Int) (P : Int) l) (fun d t => G) (fun j t => t.length ≤ j ∧ t ++ chars l[m] ((List.range P).drop j) = chars l[m] (List.range P)) ?_ ?_ 0 [] (by omega) ⟨by simp, by simp⟩
 ·exact gen
 ·rintro t ⟨ht, he⟩
  refine Ev.step (fun k => by rw [impl_SystemText.l1]) ?_
  rw [List.drop_length, show chars l[m] [] = [] from rfl, List.append_nil] at he
  simp only [List.length_range, if_neg (show ¬ (P : Int) < (P : Int) by omega), if_pos (show ws.length < 8796093022208 by omega)]
  by_cases c : l[m] = 0
  ·simp only [if_pos c]
   rw [show word P l[m] = [45] by unfold word; rw [if_pos c]] at cont
   exact cont
  ·simp only [if_neg c]
   rw [show word P l[m] = chars l[m] (List.range P) by unfold word; rw [if_neg c]] at cont
   rw [he]
   exact cont
 ·rintro j hj t ⟨ht, he⟩ ih
  have hj' : j < P := by simpa using hj
  refine Ev.step (fun k => by rw [impl_SystemText.l1]) ?_
  rw [List.drop_eq_getElem_cons hj, List.getElem_range, show chars l[m] (j :: List.drop (j + 1) (List.range P)) = (if hasB l[m] j = true then [97 + (j : Int)] else []) ++ chars l[m] (List.drop (j + 1) (List.range P)) from rfl] at he
  simp only [if_pos (show (j : Int) < (P : Int) by omega), if_pos (show 0 ≤ (j : Int) by omega), w_succ (m := j) (by omega)]
  by_cases c : Go.bits .and .i64 (shr .i64 l[m] (j : Int)) 1 = 1
  ·have hb : hasB l[m] j = true := by unfold hasB; exact decide_eq_true c
   rw [if_pos hb, ← List.append_assoc] at he
   rw [w64 (x := 97 + (j : Int)) (by omega) (by omega), show (97 + (j : Int)) % 256 = 97 + (j : Int) by omega]
   simp only [if_pos c, if_pos (show t.length < 140737488355328 by omega)]
   exact ih _ ⟨by rw [List.length_append]; simp; omega, he⟩
  ·have hb : hasB l[m] j = false := by unfold hasB; exact decide_eq_false c
   rw [hb] at he
   simp only [Bool.false_eq_true, if_false, List.nil_append] at he
   simp only [if_neg c]
   exact ih _ ⟨by omega, he⟩
theorem implSets_ev : Ev (fun k => impl_SystemText.l0 k [] l (l.length : Int) 0 (P : Int) l) (strOfNums (digs P ++ [58] ++ rest P true l), true) := by
 have h1 := rest_len hP hl true l
 have h2 := dec12_len P hP
 have hd : strOfNums (digs P) ++ (⟨#[58]⟩ : ByteArray) = strOfNums (digs P ++ [58]) := by rw [← str_app]; rfl
 refine ev_fold l (fun m (ws : List ByteArray) k => impl_SystemText.l0 k ws l (l.length : Int) (m : Int) (P : Int) l) (fun d ws => (strOfNums (digs P ++ [58] ++ rest P true l), true)) (fun m ws => ws = wordsOf P (l.take m)) ?_ ?_ 0 [] (by omega) (by simp [wordsOf])
 ·rintro _ rfl
  refine Ev.step (fun k => by rw [impl_SystemText.l0]) ?_
  rw [List.take_length]
  simp only [if_neg (show ¬ (l.length : Int) < (l.length : Int) by omega), implDec_tells P hP, Option.bind_some, strOfNums_size, if_pos (show (digs P).length + 1 ≤ 9223372036854775807 by omega), implJoin hP hl, hd, str_app, List.length_append, List.length_singleton, if_pos (show (digs P).length + 1 + (rest P true l).length ≤ 9223372036854775807 by omega)]
  exact Ev.now _
 ·rintro m hm _ rfl ih
  refine Ev.step (fun k => by rw [impl_SystemText.l0]) ?_
  simp only [if_pos (show (m : Int) < (l.length : Int) by omega), if_pos (show 0 ≤ (m : Int) by omega), rd_nat hm]
  refine implChars_ev hP hl m hm _ (by unfold wordsOf; rw [List.length_map, List.length_take]; omega) _ ?_
  rw [w_succ (m := m) (by omega)]
  refine ih _ ?_
  rw [List.take_succ_eq_append_getElem hm]
  unfold wordsOf
  rw [List.map_append]
  rfl
end
end Go.Proofs.YtdlnhddpgopghaaDoor.Com
namespace Go.Proofs.YtdlnhddpgopghaaDoor.Com
set_option linter.unusedSimpArgs false
set_option linter.unusedVariables false
set_option linter.unusedSectionVars false
open Go.RowKit Go.Proofs.YtdlnhddpgopghaaDoorW.PrintWords Go.Proofs.YtdlnhddpgopghaaDoorW.PrintMore Go.Proofs.YtdlnhddpgopghaaDoor.Q
def mkB (l : List UInt8) : ByteArray := ⟨l.toArray⟩
theorem mkB_data (l : List UInt8) : (mkB l).data.toList = l := by simp [mkB]
theorem mkB_size (l : List UInt8) : (mkB l).size = l.length := by show l.toArray.size = _; simp
theorem mkB_ext {a : ByteArray} {l : List UInt8} (h : a.data.toList = l) : a = mkB l := ByteArray.ext (Array.toList_inj.1 (by rw [h]; simp [mkB]))
theorem mkB_self (a : ByteArray) : mkB a.data.toList = a := (mkB_ext rfl).symm
theorem toList_iff (a b : ByteArray) : (a.toList = b.toList) = (a = b) := by
 rw [ByteArray.toList_eq, ByteArray.toList_eq]
 exact propext ⟨fun h => ByteArray.ext (Array.toList_inj.1 h), fun h => by rw [h]⟩
theorem toList_nil (l : List UInt8) : ((mkB l).toList = []) = (l = []) := by rw [ByteArray.toList_eq, mkB_data]
theorem extB (l : List UInt8) (a b : Nat) : (mkB l).extract a b = mkB ((l.drop a).take (b - a)) := mkB_ext (by rw [ByteArray.data_extract, Array.toList_extract, List.extract_eq_take_drop, mkB_data])
theorem bt_mk (l : List UInt8) (m : Nat) (h : m < l.length) : bt (mkB l) (m : Int) = ((l[m]).toNat : Int) := by
 have h' : m < (mkB l).size := by rw [mkB_size]; exact h
 unfold bt
 rw [dif_pos (by rw [Int.toNat_natCast]; exact h')]
 simp [ByteArray.getElem_eq_getElem_data, mkB]
def cAt (c : UInt8) (l : List UInt8) : Nat := (l.takeWhile (· != c)).length
theorem cAt_le (c : UInt8) (l : List UInt8) : cAt c l ≤ l.length := (List.takeWhile_prefix _).length_le
theorem cAt_self (c : UInt8) (r : List UInt8) : cAt c (c :: r) = 0 := by unfold cAt; rw [List.takeWhile_cons, if_neg (by simp)]; rfl
theorem cAt_cons {c b : UInt8} (h : b ≠ c) (r : List UInt8) : cAt c (b :: r) = cAt c r + 1 := by unfold cAt; rw [List.takeWhile_cons, if_pos (by simp [h])]; simp
theorem index_c (c : UInt8) : ∀ l : List UInt8, Go.Lib.indexByte l c = if cAt c l < l.length then (cAt c l : Int) else -1
 | [] => by simp [Go.Lib.indexByte, cAt]
 | b :: r => by
  have ih := index_c c r
  have hle := cAt_le c r
  unfold Go.Lib.indexByte
  by_cases hb : b = c
  ·subst hb
   rw [cAt_self, if_pos (by simp)]
   simp
  ·rw [if_neg (by simp [hb]), ih, cAt_cons hb]
   by_cases q : cAt c r < r.length
   ·rw [if_pos q, if_neg (by simp), if_pos (by simpa using q)]
    omega
   ·rw [if_neg q, if_pos (by simp), if_neg (by simpa using q)]
theorem cAt_app (c : UInt8) : ∀ (u d : List UInt8), (∀ b ∈ u, b ≠ c) → cAt c (u ++ c :: d) = u.length
 | [], d, _ => cAt_self c d
 | b :: u, d, h => by
  rw [List.cons_append, cAt_cons (h b (by simp)), cAt_app c u d (fun x hx => h x (List.mem_cons_of_mem _ hx))]
  rfl
theorem cAt_no (c : UInt8) : ∀ (u : List UInt8), (∀ b ∈ u, b ≠ c) → cAt c u = u.length
 | [], _ => rfl
 | b :: u, h => by
  rw [cAt_cons (h b (by simp)), cAt_no c u (fun x hx => h x (List.mem_cons_of_mem _ hx))]
  rfl
def splitC (c : UInt8) : List UInt8 → List (List UInt8)
 | [] => [[]]
 | b :: r => if b = c then [] :: splitC c r else match splitC c r with
  | [] => [[b]]
  | l :: ls => (b :: l) :: ls
theorem splitC_ne (c : UInt8) : ∀ l, splitC c l ≠ []
 | [] => by simp [splitC]
 | b :: r => by
  rw [splitC]
  split
  ·simp
  ·split <;> simp
theorem splitC_len (c : UInt8) : ∀ l, (splitC c l).length = l.count c + 1
 | [] => rfl
 | b :: r => by
  have ih := splitC_len c r
  rw [splitC]
  by_cases hb : b = c
  ·rw [if_pos hb, List.length_cons, ih, hb, List.count_cons_self]
  ·rw [if_neg hb, List.count_cons_of_ne hb]
   cases hs : splitC c r with
   | nil => exact absurd hs (splitC_ne c r)
   | cons l ls => rw [hs] at ih; simpa using ih
theorem splitC_at (c : UInt8) : ∀ l, cAt c l < l.length → splitC c l = l.take (cAt c l) :: splitC c (l.drop (cAt c l + 1))
 | [], h => by simp at h
 | b :: r, h => by
  by_cases hb : b = c
  ·subst hb
   rw [cAt_self, splitC, if_pos rfl]
   simp
  ·rw [cAt_cons hb] at h ⊢
   rw [splitC, if_neg hb, splitC_at c r (by simpa using h)]
   simp
theorem splitC_last (c : UInt8) : ∀ l, ¬ cAt c l < l.length → splitC c l = [l]
 | [], _ => rfl
 | b :: r, h => by
  by_cases hb : b = c
  ·subst hb
   rw [cAt_self] at h
   simp at h
  ·rw [cAt_cons hb] at h
   rw [splitC, if_neg hb, splitC_last c r (by simpa using h)]
theorem splitC_app (c : UInt8) : ∀ (u d : List UInt8), (∀ b ∈ u, b ≠ c) → splitC c (u ++ c :: d) = u :: splitC c d
 | [], d, _ => by simp [splitC]
 | b :: u, d, h => by
  rw [List.cons_append, splitC, if_neg (h b (by simp)), splitC_app c u d (fun x hx => h x (List.mem_cons_of_mem _ hx))]
theorem splitC_no (c : UInt8) (u : List UInt8) (h : ∀ b ∈ u, b ≠ c) : splitC c u = [u] := splitC_last c u (by rw [cAt_no c u h]; omega)
theorem splitC_join (c : UInt8) : ∀ (ws : List (List UInt8)), ws ≠ [] → (∀ w ∈ ws, ∀ b ∈ w, b ≠ c) → splitC c (Go.Lib.join ws [c]) = ws
 | [], h, _ => absurd rfl h
 | [w], _, hw => by
  rw [show Go.Lib.join [w] [c] = w by simp [Go.Lib.join, List.intercalate]]
  exact splitC_no c w (hw w (by simp))
 | w :: x :: ws, _, hw => by
  have e : Go.Lib.join (w :: x :: ws) [c] = w ++ c :: Go.Lib.join (x :: ws) [c] := by simp [Go.Lib.join, List.intercalate]
  rw [e, splitC_app c _ _ (hw w (by simp)), splitC_join c (x :: ws) (by simp) (fun y hy => hw y (List.mem_cons_of_mem _ hy))]
theorem one_data (c : UInt8) : ((⟨#[c]⟩ : ByteArray).data.toList.headD 0) = c := rfl
theorem one_size (c : UInt8) : (⟨#[c]⟩ : ByteArray).size = 1 := rfl
theorem cut_tells (l : List UInt8) (c : UInt8) (hl : l.length ≤ 1048576) :
  strings_Cut.f (mkB l) ⟨#[c]⟩ = some (if cAt c l < l.length then (mkB (l.take (cAt c l)), mkB (l.drop (cAt c l + 1)), true) else (mkB l, ⟨#[]⟩, false)) := by
 unfold strings_Cut.f stringslite_Cut.f stringslite_Index.f
 rw [if_pos (one_size c), one_data, mkB_data, index_c]
 have hle := cAt_le c l
 by_cases h : cAt c l < l.length
 ·simp only [if_pos h, Option.bind_some, mkB_size, one_size]
  rw [show ((1 : Nat) : Int) = 1 from rfl, w_succ (m := cAt c l) (by omega)]
  simp only [if_pos (show ((cAt c l : Nat) : Int) ≥ 0 by omega), if_pos (show (0 : Int) ≤ ((cAt c l : Nat) : Int) by omega), if_pos (show ((cAt c l : Nat) : Int) ≤ (l.length : Int) by omega), if_pos (show (0 : Int) ≤ ((cAt c l + 1 : Nat) : Int) by omega), if_pos (show ((cAt c l + 1 : Nat) : Int) ≤ (l.length : Int) by omega), Int.toNat_natCast, extB, Option.bind_some]
  rw [List.drop_zero, Nat.sub_zero, List.take_of_length_le (l := l.drop (cAt c l + 1)) (by rw [List.length_drop]; omega)]
 ·simp only [if_neg h, Option.bind_some, if_neg (show ¬ (-1 : Int) ≥ 0 by omega)]
theorem index_tells (l : List UInt8) (c : UInt8) : strings_Index.f (mkB l) ⟨#[c]⟩ = some (if cAt c l < l.length then (cAt c l : Int) else -1) := by
 unfold strings_Index.f
 rw [if_pos (one_size c), one_data, mkB_data, index_c]
theorem count_tells (l : List UInt8) (c : UInt8) : strings_Count.f (mkB l) ⟨#[c]⟩ = some ((l.count c : Nat) : Int) := by
 unfold strings_Count.f
 rw [if_pos (one_size c), one_data, mkB_data]
 rfl
theorem split_go (c : UInt8) (n : Nat) (hn : n ≤ 1048577) (all : List (List UInt8)) (hall : all.length = n) : ∀ (m : Nat) (d : List UInt8) (done : List (List UInt8)), d.length ≤ 1048576 → (splitC c d).length = m + 1 → done ++ splitC c d = all →
  Ev (fun k => strings_genSplit.l0 k (mkB d) ⟨#[c]⟩ 0 ((n - 1 : Nat) : Int) ((done.map mkB) ++ List.replicate (m + 1) (⟨#[]⟩ : ByteArray)) (done.length : Int)) (all.map mkB) := by
 intro m
 induction m with
 | zero =>
  intro d done hd hm he
  have hdl : done.length + 1 = n := by rw [← hall, ← he, List.length_append, hm]
  have hno : ¬ cAt c d < d.length := by
   intro h
   rw [splitC_at c d h] at hm
   have := splitC_ne c (d.drop (cAt c d + 1))
   have h2 := List.length_pos_iff.2 this
   rw [List.length_cons] at hm
   omega
  rw [splitC_last c d hno] at he
  refine Ev.step (fun k => by rw [strings_genSplit.l0]) ?_
  rw [w_succ (m := done.length) (by omega)]
  simp only [if_neg (show ¬ ((done.length : Nat) : Int) < ((n - 1 : Nat) : Int) by omega), if_pos (show (0 : Int) ≤ ((done.length : Nat) : Int) by omega), List.length_append, List.length_map, List.length_replicate, if_pos (show ((done.length : Nat) : Int) < ((done.length + (0 + 1) : Nat) : Int) by omega), if_pos (show (0 : Int) ≤ ((done.length + 1 : Nat) : Int) by omega), if_pos (show ((done.length + 1 : Nat) : Int) ≤ ((done.length + (0 + 1) : Nat) : Int) by omega), Int.toNat_natCast]
  have e : List.take (done.length + 1) ((done.map mkB ++ List.replicate (0 + 1) (⟨#[]⟩ : ByteArray)).set done.length (mkB d)) = all.map mkB := by
   rw [List.set_append_right _ _ (by rw [List.length_map]; omega), List.length_map, Nat.sub_self]
   rw [show List.replicate (0 + 1) (⟨#[]⟩ : ByteArray) = [⟨#[]⟩] from rfl, List.set_cons_zero, List.take_of_length_le (by simp), ← he]
   simp
  rw [e]
  exact Ev.now _
 | succ m ih =>
  intro d done hd hm he
  have hdl : done.length + m + 2 = n := by rw [← hall, ← he, List.length_append, hm]; omega
  have hyes : cAt c d < d.length := by
   by_cases h : cAt c d < d.length
   ·exact h
   ·rw [splitC_last c d h] at hm
    simp at hm
  have hs := splitC_at c d hyes
  refine Ev.step (fun k => by rw [strings_genSplit.l0]) ?_
  refine ?_
  have hi := index_tells d c
  rw [if_pos hyes] at hi
  simp only [if_pos (show ((done.length : Nat) : Int) < ((n - 1 : Nat) : Int) by omega)]
  refine ev_bind' hi ?_
  rw [w64 (x := (cAt c d : Int) + 0) (by omega) (by omega), w_succ (m := done.length) (by omega), one_size, show ((1 : Nat) : Int) = 1 from rfl, w_succ (m := cAt c d) (by omega)]
  simp only [if_neg (show ¬ ((cAt c d : Nat) : Int) < 0 by omega), Int.add_zero, mkB_size, if_pos (show (0 : Int) ≤ ((cAt c d : Nat) : Int) by omega), if_pos (show ((cAt c d : Nat) : Int) ≤ (d.length : Int) by omega), if_pos (show (0 : Int) ≤ ((done.length : Nat) : Int) by omega), List.length_append, List.length_map, List.length_replicate, if_pos (show ((done.length : Nat) : Int) < ((done.length + (m + 1 + 1) : Nat) : Int) by omega), if_pos (show (0 : Int) ≤ ((cAt c d + 1 : Nat) : Int) by omega), if_pos (show ((cAt c d + 1 : Nat) : Int) ≤ (d.length : Int) by omega), Int.toNat_natCast, extB]
  rw [List.drop_zero, Nat.sub_zero, List.take_of_length_le (l := d.drop (cAt c d + 1)) (by rw [List.length_drop]; omega)]
  rw [List.set_append_right _ _ (by rw [List.length_map]; omega), List.length_map, Nat.sub_self, List.replicate_succ, List.set_cons_zero]
  have hm' : (splitC c (d.drop (cAt c d + 1))).length = m + 1 := by rw [hs] at hm; simpa using hm
  have := ih (d.drop (cAt c d + 1)) (done ++ [d.take (cAt c d)]) (by rw [List.length_drop]; omega) hm' (by rw [← he, hs]; simp)
  rw [List.map_append, List.length_append, List.append_assoc] at this
  exact this
theorem split_ev (l : List UInt8) (c : UInt8) (hl : l.length ≤ 1048576) : Ev (fun k => strings_Split.f k (mkB l) ⟨#[c]⟩) ((splitC c l).map mkB) := by
 have hlen := splitC_len c l
 have hcl : l.count c ≤ l.length := List.count_le_length
 unfold strings_Split.f
 refine Ev.bind (a := (splitC c l).map mkB) ?_ (Ev.now _)
 unfold strings_genSplit.f
 have hne : ¬ (⟨#[c]⟩ : ByteArray).toList = ([] : List UInt8) := by rw [ByteArray.toList_eq]; simp
 simp only [if_neg (show ¬ (-1 : Int) = 0 by omega), if_neg hne, if_pos (show (-1 : Int) < 0 by omega)]
 refine ev_bind' (count_tells l c) ?_
 refine Ev.step (fun k => by rw [strings_genSplit.j0]) ?_
 rw [mkB_size, w_succ (m := l.count c) (by omega), w_succ (m := l.length) (by omega)]
 have hmn : mn ((l.count c + 1 : Nat) : Int) ((l.length + 1 : Nat) : Int) = ((l.count c + 1 : Nat) : Int) := by unfold mn; split <;> omega
 rw [hmn]
 simp only [if_pos (show (0 : Int) ≤ ((l.count c + 1 : Nat) : Int) by omega), Int.toNat_natCast, if_pos (show l.count c + 1 ≤ 17592186044416 by omega)]
 have hw : wrap64 (((l.count c + 1 : Nat) : Int) - 1) = ((l.count c + 1 - 1 : Nat) : Int) := w_pred (by omega) (by omega)
 rw [hw]
 have := split_go c (l.count c + 1) (by omega) (splitC c l) hlen (l.count c) l [] hl hlen rfl
 exact this
end Go.Proofs.YtdlnhddpgopghaaDoor.Com
namespace Go.Proofs.YtdlnhddpgopghaaDoor.Com
set_option linter.unusedSimpArgs false
set_option linter.unusedVariables false
set_option linter.unusedSectionVars false
open Go.RowKit Go.Proofs.YtdlnhddpgopghaaDoorW.PrintWords Go.Proofs.YtdlnhddpgopghaaDoorW.PrintMore Go.Proofs.YtdlnhddpgopghaaDoor.Q
def textS (p : Int) (l : List Int) : ByteArray := strOfNums (digs p.toNat ++ [58] ++ rest p.toNat true l)
def readRes (s : ByteArray) (p : Int) (l : List Int) : Int × List Int × Bool := if validSys p l = true ∧ textS p l = s then (p, l, true) else (0, [], false)
theorem implText_ev (p : Int) (l : List Int) (hx : l.length ≤ 1048576) : Ev (fun k => impl_SystemText.f k p l) (if validSys p l = true then (textS p l, true) else (⟨#[]⟩, false)) := by
 by_cases v : validSys p l = true
 ·obtain ⟨⟨P, rfl, hP⟩, hl, _⟩ := validSys_of v
  rw [if_pos v]
  unfold impl_SystemText.f
  refine ev_bind' (implValidSys_tells (P : Int) l) ?_
  simp only [v, if_true]
  exact implSets_ev hP hl
 ·have v0 : validSys p l = false := by simpa using v
  rw [if_neg v]
  unfold impl_SystemText.f
  refine ev_bind' (implValidSys_tells p l) ?_
  simp only [v0, Bool.false_eq_true, if_false]
  exact Ev.now _
def orTo (o : Int) (b : UInt8) : Int := if 97 ≤ b.toNat ∧ b.toNat < 109 then Go.bits .or .i64 o (shl .i64 1 ((b.toNat : Int) - 97)) else o
def wordVal (w : List UInt8) : Int := w.foldl orTo 0
def headOf (L : List UInt8) : List UInt8 := if cAt 58 L < L.length then L.take (cAt 58 L) else L
def restOf (L : List UInt8) : List UInt8 := if cAt 58 L < L.length then L.drop (cAt 58 L + 1) else []
def implP (L : List UInt8) : Int × List Int := (((impl_ReadDecimal.f (mkB (headOf L))).getD (0, false)).1, if restOf L = [] then [] else (splitC 44 (restOf L)).map wordVal)
theorem implWord_ev (s rs : ByteArray) (ws : List ByteArray) (i : Nat) (p : Int) (l : List Int) (r : Int × List Int × Bool) (w : List UInt8) (hw : w.length ≤ 1048576) (hl : l.length ≤ 1048577) (hi : i ≤ 1048577)
  (cont : Ev (fun k => impl_ReadSystem.l0 k s rs ws (ws.length : Int) ((i + 1 : Nat) : Int) p (if rs.toList = [] then l else l ++ [wordVal w])) r) :
  Ev (fun k => impl_ReadSystem.l1 k s rs (mkB w) 0 ws (ws.length : Int) (i : Int) (w.length : Int) 0 p l) r := by
 have gen := ev_fold w (fun j (o : Int) k => impl_ReadSystem.l1 k s rs (mkB w) o ws (ws.length : Int) (i : Int) (w.length : Int) (j : Int) p l) (fun d o => r) (fun j o => (w.drop j).foldl orTo o = wordVal w) ?_ ?_ 0 0 (by omega) rfl
 ·exact gen
 ·intro o ho
  rw [List.drop_length, List.foldl_nil] at ho
  refine Ev.step (fun k => by rw [impl_ReadSystem.l1]) ?_
  rw [w_succ (m := i) (by omega)]
  simp only [if_neg (show ¬ (w.length : Int) < (w.length : Int) by omega)]
  by_cases c : rs.toList = ([] : List UInt8)
  ·simp only [if_pos c] at cont ⊢
   exact cont
  ·simp only [if_neg c] at cont
   simp only [if_neg c, if_pos (show l.length < 17592186044416 by omega), ho]
   exact cont
 ·intro j hj o ho ih
  rw [List.drop_eq_getElem_cons hj, List.foldl_cons] at ho
  refine Ev.step (fun k => by rw [impl_ReadSystem.l1]) ?_
  rw [bt_mk w j hj, w_succ (m := j) (by omega)]
  generalize w[j] = b at ho ⊢
  have hb2 := b.toNat_lt
  rw [w64 (x := (b.toNat : Int)) (by omega) (by omega), w64 (x := (b.toNat : Int) - 97) (by omega) (by omega)]
  simp only [if_pos (show (j : Int) < (w.length : Int) by omega), if_pos (show (0 : Int) ≤ (j : Int) by omega), mkB_size]
  by_cases c97 : 97 ≤ b.toNat
  ·by_cases c109 : b.toNat < 109
   ·simp only [if_pos (show (b.toNat : Int) - 97 ≥ 0 by omega), if_pos (show (b.toNat : Int) - 97 < 12 by omega)]
    refine ih _ ?_
    rw [← ho]
    unfold orTo
    rw [if_pos ⟨c97, c109⟩]
   ·simp only [if_pos (show (b.toNat : Int) - 97 ≥ 0 by omega), if_neg (show ¬ (b.toNat : Int) - 97 < 12 by omega)]
    refine ih _ ?_
    rw [← ho]
    unfold orTo
    rw [if_neg (by omega)]
  ·simp only [if_neg (show ¬ (b.toNat : Int) - 97 ≥ 0 by omega)]
   refine ih _ ?_
   rw [← ho]
   unfold orTo
   rw [if_neg (by omega)]
theorem implWords_ev (s : ByteArray) (rl : List UInt8) (ws : List (List UInt8)) (p : Int) (hws : ws.length ≤ 1048577) (hw : ∀ w ∈ ws, w.length ≤ 1048576) (hne : rl ≠ [] → ws.length ≤ 1048576) :
  Ev (fun k => impl_ReadSystem.l0 k s (mkB rl) (ws.map mkB) ((ws.map mkB).length : Int) 0 p []) (readRes s p (if rl = [] then [] else ws.map wordVal)) := by
 have hml : (ws.map mkB).length = ws.length := List.length_map _
 have gen := ev_fold ws (fun m (l : List Int) k => impl_ReadSystem.l0 k s (mkB rl) (ws.map mkB) ((ws.map mkB).length : Int) (m : Int) p l) (fun d l => readRes s p (if rl = [] then [] else ws.map wordVal)) (fun m l => l = if rl = [] then [] else (ws.take m).map wordVal) ?_ ?_ 0 [] (by omega) (by simp)
 ·exact gen
 ·rintro _ rfl
  refine Ev.step (fun k => by rw [impl_ReadSystem.l0]) ?_
  simp only [hml, if_neg (show ¬ (ws.length : Int) < (ws.length : Int) by omega), List.take_length]
  have hll : (if rl = [] then ([] : List Int) else ws.map wordVal).length ≤ 1048576 := by
   by_cases c : rl = []
   ·simp [c]
   ·rw [if_neg c, List.length_map]; exact hne c
  generalize (if rl = [] then ([] : List Int) else ws.map wordVal) = l at hll ⊢
  refine Ev.bind (implText_ev p l hll) ?_
  unfold readRes
  by_cases v : validSys p l = true
  ·simp only [v, if_true, true_and, toList_iff]
   by_cases c : textS p l = s
   ·simp only [if_pos c]
    exact Ev.now _
   ·simp only [if_neg c]
    exact Ev.now _
  ·have v0 : validSys p l = false := by simpa using v
   simp only [v0, Bool.false_eq_true, if_false, false_and]
   exact Ev.now _
 ·rintro m hm l hl ih
  have hml2 : m < (ws.map mkB).length := by rw [hml]; exact hm
  refine Ev.step (fun k => by rw [impl_ReadSystem.l0]) ?_
  have hrd : rdOf ByteArray.empty (ws.map mkB) (m : Int) = mkB ws[m] := by
   unfold rdOf
   rw [Int.toNat_natCast, List.getD_eq_getElem?_getD, List.getElem?_eq_getElem hml2]
   simp
  simp only [hml, if_pos (show (m : Int) < (ws.length : Int) by omega), if_pos (show (0 : Int) ≤ (m : Int) by omega), hrd, mkB_size]
  have hll : l.length ≤ m := by
   rw [hl]
   split
   ·simp
   ·rw [List.length_map, List.length_take]; omega
  have := implWord_ev s (mkB rl) (ws.map mkB) m p l (readRes s p (if rl = [] then [] else ws.map wordVal)) ws[m] (hw _ (List.getElem_mem hm)) (by omega) (by omega) (ih _ (by
   by_cases c : rl = []
   ·simp only [toList_nil, if_pos c] at hl ⊢; exact hl
   ·simp only [toList_nil, if_neg c] at hl ⊢
    rw [hl, List.take_succ_eq_append_getElem hm, List.map_append]
    rfl))
  rw [hml] at this
  exact this
theorem splitC_long (c : UInt8) : ∀ l, ∀ w ∈ splitC c l, w.length ≤ l.length
 | [], w, h => by simp [splitC] at h; simp [h]
 | b :: r, w, h => by
  have ih := splitC_long c r
  rw [splitC] at h
  split at h
  ·rcases List.mem_cons.1 h with rfl | h
   ·simp
   ·have := ih w h; simp; omega
  ·split at h
   ·simp at h; simp [h]
   ·rename_i l ls hs
    rcases List.mem_cons.1 h with rfl | h
    ·have := ih l (by rw [hs]; simp); simp; omega
    ·have := ih w (by rw [hs]; exact List.mem_cons_of_mem _ h); simp; omega
theorem dec_total (l : List UInt8) (h : l.length ≤ 1048576) : ∃ r, impl_ReadDecimal.f (mkB l) = some r := by
 unfold impl_ReadDecimal.f
 rw [if_pos (by rw [mkB_size]; omega)]
 cases Lib.parseIntB 64 (mkB l).data.toList with
 | ok v => by_cases c : (⟨(Go.Lib.itoa v).toArray⟩ : ByteArray) = mkB l ∧ -1000000000 ≤ v ∧ v ≤ 1000000000 <;> simp [c]
 | «syntax» => exact ⟨_, rfl⟩
 | range => exact ⟨_, rfl⟩
theorem implRead_ev (L : List UInt8) (hL : L.length ≤ 1048576) : Ev (fun k => impl_ReadSystem.f k (mkB L)) (readRes (mkB L) (implP L).1 (implP L).2) := by
 unfold impl_ReadSystem.f
 have hc := cut_tells L 58 hL
 have hle := cAt_le 58 L
 have hc2 : strings_Cut.f (mkB L) ⟨#[58]⟩ = some (mkB (headOf L), mkB (restOf L), decide (cAt 58 L < L.length)) := by
  rw [hc]
  unfold headOf restOf
  by_cases c : cAt 58 L < L.length
  ·simp only [if_pos c, decide_eq_true c]
  ·simp only [if_neg c, decide_eq_false c]
   rfl
 refine ev_bind' hc2 ?_
 have hh : (headOf L).length ≤ 1048576 := by
  unfold headOf
  split
  ·rw [List.length_take]; omega
  ·exact hL
 have hr : (restOf L).length + 1 ≤ 1048577 ∧ (restOf L ≠ [] → (restOf L).length + 1 ≤ 1048576) := by
  unfold restOf
  by_cases c : cAt 58 L < L.length
  ·simp only [if_pos c, List.length_drop]
   exact ⟨by omega, fun _ => by omega⟩
  ·simp only [if_neg c]
   exact ⟨by simp, fun h => absurd rfl h⟩
 obtain ⟨⟨v, b⟩, hd⟩ := dec_total (headOf L) hh
 refine ev_bind' hd ?_
 refine Ev.bind (split_ev (restOf L) 44 (by omega)) ?_
 have hcl : (restOf L).count 44 ≤ (restOf L).length := List.count_le_length
 have hsl := splitC_len 44 (restOf L)
 have := implWords_ev (mkB L) (restOf L) (splitC 44 (restOf L)) v (by omega) (fun w hw => by have := splitC_long 44 (restOf L) w hw; omega) (fun h => by have := hr.2 h; omega)
 unfold implP
 rw [hd]
 exact this
theorem bytes_app (a b : List Int) : bytesOf (a ++ b) = bytesOf a ++ bytesOf b := by unfold bytesOf; rw [List.map_append]
theorem textS_mk (P : Nat) (l : List Int) : textS (P : Int) l = mkB (bytesOf (digs P) ++ 58 :: bytesOf (rest P true l)) := by
 unfold textS
 rw [str_bytes, Int.toNat_natCast, List.append_assoc, bytes_app, bytes_app]
 rfl
theorem upto12 {P : Nat} (h : P ≤ 12) : P = 0 ∨ P = 1 ∨ P = 2 ∨ P = 3 ∨ P = 4 ∨ P = 5 ∨ P = 6 ∨ P = 7 ∨ P = 8 ∨ P = 9 ∨ P = 10 ∨ P = 11 ∨ P = 12 := by omega
theorem digs_ne {P : Nat} (h : P ≤ 12) : ∀ b ∈ bytesOf (digs P), b ≠ 58 := by
 rcases upto12 h with rfl | rfl | rfl | rfl | rfl | rfl | rfl | rfl | rfl | rfl | rfl | rfl | rfl
 all_goals first | (rw [digs_lt (by omega)]; decide) | (rw [digs_ge (by omega), digs_lt (by omega)]; decide)
theorem parse_text {P : Nat} (h : P ≤ 12) : Lib.parseIntB 64 (bytesOf (digs P)) = .ok (P : Int) := by
 rcases upto12 h with rfl | rfl | rfl | rfl | rfl | rfl | rfl | rfl | rfl | rfl | rfl | rfl | rfl
 all_goals first | (rw [digs_lt (by omega)]; rfl) | (rw [digs_ge (by omega), digs_lt (by omega)]; rfl)
theorem dec_text {P : Nat} (h : P ≤ 12) : impl_ReadDecimal.f (mkB (bytesOf (digs P))) = some ((P : Int), true) := by
 unfold impl_ReadDecimal.f
 have hl : (bytesOf (digs P)).length ≤ 2 := by unfold bytesOf; rw [List.length_map]; exact dec12_len P h
 rw [if_pos (by rw [mkB_size]; omega), mkB_data, parse_text h]
 have e : (⟨(Go.Lib.itoa (P : Int)).toArray⟩ : ByteArray) = mkB (bytesOf (digs P)) := by
  unfold Go.Lib.itoa
  rw [if_neg (by omega), Int.toNat_natCast, digs_bytes]
  rfl
 simp only
 rw [if_pos ⟨e, by omega, by omega⟩]
theorem or_low (t j : Nat) (hj : j ≤ 11) (ht : t < 4096) (hb : bitAt t j = 1) : orTo ((t % 2 ^ j : Nat) : Int) (UInt8.ofNat (97 + (j : Int)).toNat) = ((t % 2 ^ (j + 1) : Nat) : Int) := by
 have e : (UInt8.ofNat (97 + (j : Int)).toNat).toNat = 97 + j := by
  rw [show (97 + (j : Int)).toNat = 97 + j by omega]
  simp
  omega
 have hp := pow_bd (p := j) (by omega)
 have hp2 : 2 ^ j ≤ 2048 := by
  have := pow_bd (p := j + 1) (by omega)
  rw [Nat.pow_succ] at this
  omega
 have hlt : t % 2 ^ j < 2 ^ j := Nat.mod_lt _ (by omega)
 unfold orTo
 rw [e, if_pos (by omega), show (((97 + j : Nat) : Int) - 97) = (j : Int) by omega, shl_one j (by omega)]
 have h2 : ((2 : Int) ^ j) = ((2 ^ j : Nat) : Int) := by exact_mod_cast rfl
 rw [h2, or_nat _ _ (by omega) (by omega)]
 have ho : t % 2 ^ j ||| 2 ^ j = t % 2 ^ (j + 1) := by
  have := Nat.two_pow_add_eq_or_of_lt hlt 1
  rw [Nat.mul_one] at this
  rw [Nat.or_comm, ← this, Nat.mod_pow_succ]
  unfold bitAt at hb
  rw [hb]
  omega
 rw [ho]
theorem low_no (t j : Nat) (hb : bitAt t j = 0) : t % 2 ^ (j + 1) = t % 2 ^ j := by
 unfold bitAt at hb
 rw [Nat.mod_pow_succ, hb]
 omega
theorem fold_chars (t : Nat) (ht : t < 4096) : ∀ (n j : Nat), j + n ≤ 12 → (bytesOf (chars (t : Int) (List.range' j n))).foldl orTo ((t % 2 ^ j : Nat) : Int) = ((t % 2 ^ (j + n) : Nat) : Int)
 | 0, j, _ => rfl
 | n + 1, j, h => by
  have ih := fold_chars t ht n (j + 1) (by omega)
  rw [List.range'_succ, chars, bytes_app, List.foldl_append]
  have hbt := bit_tells t j ht (by omega)
  have hb : hasB (t : Int) j = decide (bitAt t j = 1) := by
   unfold hasB
   rw [hbt]
   exact decide_eq_decide.2 ⟨fun h => by omega, fun h => by omega⟩
  have hle := bitAt_le t j
  rw [show j + (n + 1) = j + 1 + n by omega, ← ih]
  by_cases c : bitAt t j = 1
  ·rw [hb, decide_eq_true c, if_pos rfl]
   rw [show bytesOf [97 + (j : Int)] = [UInt8.ofNat (97 + (j : Int)).toNat] from rfl, List.foldl_cons, List.foldl_nil, or_low t j (by omega) ht c]
  ·rw [hb, decide_eq_false c, if_neg (by simp)]
   rw [show bytesOf [] = [] from rfl, List.foldl_nil, low_no t j (by omega)]
theorem word_val {P : Nat} (hP : P ≤ 12) {s : Int} (h0 : 0 ≤ s) (h1 : s ≤ full (P : Int)) : wordVal (bytesOf (word P s)) = s := by
 obtain ⟨t, rfl⟩ := Int.eq_ofNat_of_zero_le h0
 rw [full_nat P hP] at h1
 have hp := pow_bd hP
 unfold word
 by_cases c : ((t : Nat) : Int) = 0
 ·rw [if_pos c, c]
  rfl
 ·rw [if_neg c, List.range_eq_range']
  have := fold_chars t (by omega) P 0 (by omega)
  rw [Nat.pow_zero, Nat.mod_one, Nat.zero_add, Nat.mod_eq_of_lt (by omega)] at this
  exact this
theorem chars_ne (s : Int) : ∀ (l : List Nat), (∀ i ∈ l, i ≤ 12) → ∀ b ∈ bytesOf (chars s l), b ≠ 44
 | [], _, b, h => by simp [chars, bytesOf] at h
 | i :: r, hl, b, h => by
  rw [chars, bytes_app] at h
  rcases List.mem_append.1 h with h | h
  ·have hi := hl i (by simp)
   split at h
   ·simp [bytesOf] at h
    rw [h]
    intro e
    have := congrArg UInt8.toNat e
    rw [show (97 + (i : Int)).toNat = 97 + i by omega] at this
    simp at this
    omega
   ·simp [bytesOf] at h
  ·exact chars_ne s r (fun x hx => hl x (List.mem_cons_of_mem _ hx)) b h
theorem word_ne {P : Nat} (hP : P ≤ 12) (s : Int) : ∀ b ∈ bytesOf (word P s), b ≠ 44 := by
 unfold word
 split
 ·decide
 ·exact chars_ne s _ (fun i hi => by have := List.mem_range.1 hi; omega)
theorem word_some {P : Nat} (hP : P ≤ 12) {s : Int} (h0 : 0 ≤ s) (h1 : s ≤ full (P : Int)) : bytesOf (word P s) ≠ [] := by
 intro e
 have := word_val hP h0 h1
 rw [e] at this
 have hs : (0 : Int) = s := this
 subst hs
 simp [word, bytesOf] at e
theorem implP_text (p : Int) (l : List Int) (L : List UInt8) (v : validSys p l = true) (h : textS p l = mkB L) : implP L = (p, l) := by
 obtain ⟨⟨P, rfl, hP⟩, hl, hr⟩ := validSys_of v
 rw [textS_mk] at h
 have e : L = bytesOf (digs P) ++ 58 :: bytesOf (rest P true l) := by have := congrArg (fun b : ByteArray => b.data.toList) h; simpa [mkB_data] using this.symm
 subst e
 have hc := cAt_app 58 (bytesOf (digs P)) (bytesOf (rest P true l)) (digs_ne hP)
 have hh : headOf (bytesOf (digs P) ++ 58 :: bytesOf (rest P true l)) = bytesOf (digs P) := by
  unfold headOf
  rw [hc, if_pos (by simp), List.take_left']
  rfl
 have hR : restOf (bytesOf (digs P) ++ 58 :: bytesOf (rest P true l)) = bytesOf (rest P true l) := by
  unfold restOf
  rw [hc, if_pos (by simp), List.drop_append]
  simp
 unfold implP
 rw [hh, hR, dec_text hP]
 simp only [Option.getD_some]
 cases l with
 | nil => rfl
 | cons s r =>
  have hj := rest_join P (s :: r)
  have hsp : splitC 44 (bytesOf (rest P true (s :: r))) = (s :: r).map fun s => bytesOf (word P s) := by
   rw [hj]
   exact splitC_join 44 _ (by simp) (fun w hw b hb => by
    obtain ⟨x, _, rfl⟩ := List.mem_map.1 hw
    exact word_ne hP x b hb)
  have hs := hr s (by simp)
  have hne : bytesOf (rest P true (s :: r)) ≠ [] := by
   rw [rest, bytes_app, bytes_app, show bytesOf (if true = true then [] else [44]) = [] from rfl, List.nil_append]
   exact fun e => word_some hP hs.1 hs.2 (List.append_eq_nil_iff.1 e).1
  rw [if_neg hne, hsp, List.map_map]
  have hmap : (s :: r).map (wordVal ∘ fun s => bytesOf (word P s)) = s :: r := by
   conv => rhs; rw [← List.map_id (s :: r)]
   exact List.map_congr_left fun x hx => word_val hP (hr x hx).1 (hr x hx).2
  rw [hmap]
theorem sysRead_back (p : Int) (l : List Int) (v : validSys p l = true) (hz : (textS p l).size ≤ 1048576) : Ev (fun k => impl_ReadSystem.f k (textS p l)) (p, l, true) := by
 obtain ⟨L, hL⟩ : ∃ L, textS p l = mkB L := ⟨_, (mkB_self _).symm⟩
 have h2 := implRead_ev L (by rw [hL, mkB_size] at hz; exact hz)
 rw [implP_text p l L v hL] at h2
 rw [hL]
 unfold readRes at h2
 rw [if_pos ⟨v, hL⟩] at h2
 exact h2
end Go.Proofs.YtdlnhddpgopghaaDoor.Com
namespace Go.Proofs.YtdlnhddpgopghaaDoor.Com
set_option linter.unusedSimpArgs false
set_option linter.unusedVariables false
set_option linter.unusedSectionVars false
open Go.RowKit Go.Proofs.YtdlnhddpgopghaaDoorW.PrintWords Go.Proofs.YtdlnhddpgopghaaDoorW.PrintMore Go.Proofs.YtdlnhddpgopghaaDoor.Q
theorem rdr_nat {xs : List (List Int)} {m : Nat} (h : m < xs.length) : rd_L3 xs (m : Int) = xs[m] := by
 unfold rd_L3
 rw [Int.toNat_natCast, List.getD_eq_getElem?_getD, List.getElem?_eq_getElem h]
 rfl
end Go.Proofs.YtdlnhddpgopghaaDoor.Com
namespace Go.Proofs.YtdlnhddpgopghaaDoor.Pure
set_option linter.unusedSimpArgs false
set_option linter.unusedVariables false
open Go.RowKit Go.Proofs.YtdlnhddpgopghaaDoor.Q Go.Proofs.YtdlnhddpgopghaaDoorW.PrintWords Go.Proofs.YtdlnhddpgopghaaDoorW.PrintLast Go.Proofs.YtdlnhddpgopghaaDoor.Com
def ivOk (p : Int) (x : List Int) : Prop := x.length = 2 ∧ 0 ≤ rd x 0 ∧ rd x 0 ≤ rd x 1 ∧ rd x 1 ≤ p - 1
instance (p : Int) (x : List Int) : Decidable (ivOk p x) := by unfold ivOk; infer_instance
def ivM (x : List Int) : Int := wrap64 (shl .i64 1 (rd x 1 + 1) - shl .i64 1 (rd x 0))
def ivF (p : Int) : List (List Int) → List Int → Int × List Int × Bool
 | [], acc => (p, acc, true)
 | x :: r, acc => if ivOk p x then ivF p r (acc ++ [ivM x]) else (0, [], false)
theorem two_of {x : List Int} (h : x.length = 2) : x = [rd x 0, rd x 1] := by
 match x, h with
 | [a, b], _ => rfl
def ivR (p : Int) (l : List (List Int)) : Int × List Int × Bool := if 0 ≤ p ∧ p ≤ 12 then if l.length ≤ 12 then ivF p l [] else (0, [], false) else (0, [], false)
theorem ivlImpl (p : Int) (hp : 0 ≤ p ∧ p ≤ 12) (l : List (List Int)) (hl : l.length ≤ 12) : Ev (fun k => impl_IntervalSystem.l0 k p l (l.length : Int) 0 p []) (ivF p l []) := by
 have w1 : wrap64 (p - 1) = p - 1 := w64 (by omega) (by omega)
 have gen := ev_fold l (fun m (s : List Int) k => impl_IntervalSystem.l0 k p l (l.length : Int) (m : Int) p s) (fun d s => ivF p d s) (fun m s => s.length = m) ?_ ?_ 0 [] (by omega) rfl
 ·exact gen
 ·intro s _
  refine Ev.step (fun k => by rw [impl_IntervalSystem.l0]) ?_
  simp only [if_neg (show ¬ (l.length : Int) < (l.length : Int) by omega)]
  exact Ev.now _
 ·intro m hm s hs ih
  refine Ev.step (fun k => by rw [impl_IntervalSystem.l0]) ?_
  simp only [if_pos (show (m : Int) < (l.length : Int) by omega), if_pos (show 0 ≤ (m : Int) by omega), rdr_nat hm, w_succ (m := m) (by omega), impl_areWithin.f, Option.bind_some, w1, List.all_eq_true, decide_eq_true_eq]
  generalize l[m] = x
  unfold ivF
  by_cases h2 : x.length = 2
  ·simp only [if_pos (show (x.length : Int) = 2 by omega), if_pos (show (0 : Int) < (x.length : Int) by omega), if_pos (show (1 : Int) < (x.length : Int) by omega)]
   have ar : (∀ y ∈ x, 0 ≤ y ∧ y ≤ p - 1) ↔ ((0 ≤ rd x 0 ∧ rd x 0 ≤ p - 1) ∧ (0 ≤ rd x 1 ∧ rd x 1 ≤ p - 1)) := by
    have e := two_of h2
    generalize rd x 0 = u at e ⊢
    generalize rd x 1 = v at e ⊢
    subst e
    simp
   by_cases a : ∀ y ∈ x, 0 ≤ y ∧ y ≤ p - 1
   ·have b := ar.1 a
    simp only [if_pos a]
    by_cases c : rd x 0 > rd x 1
    ·have no : ¬ ivOk p x := fun h => by have := h.2.2.1; omega
     simp only [if_pos c, if_neg no]
     exact Ev.now _
    ·have ok : ivOk p x := ⟨h2, b.1.1, by omega, b.2.2⟩
     simp only [if_neg c, if_pos ok]
     rw [w64 (x := rd x 1 + 1) (by omega) (by omega)]
     simp only [if_pos (show 0 ≤ rd x 1 + 1 by omega), if_pos (show 0 ≤ rd x 0 by omega), if_pos (show s.length < 17592186044416 by omega)]
     exact ih _ (by simp [hs])
   ·have no : ¬ ivOk p x := fun h => a (ar.2 ⟨⟨h.2.1, by have := h.2.2; omega⟩, ⟨by have := h.2.1; have := h.2.2.1; omega, h.2.2.2⟩⟩)
    simp only [if_neg a, if_neg no]
    exact Ev.now _
  ·have no : ¬ ivOk p x := fun h => h2 h.1
   simp only [if_neg (show ¬ (x.length : Int) = 2 by omega), if_neg no]
   exact Ev.now _
theorem ivImpl (p : Int) (l : List (List Int)) : Ev (fun k => impl_IntervalSystem.f k p l) (ivR p l) := by
 unfold impl_IntervalSystem.f ivR
 refine ev_bind' (within_tells _ _ _) ?_
 by_cases hp : 0 ≤ p ∧ p ≤ 12
 ·simp only [decide_eq_true hp, if_true, if_pos hp]
  refine Ev.step (fun k => by rw [impl_IntervalSystem.j0]) ?_
  by_cases hl : l.length ≤ 12
  ·simp only [decide_eq_true_eq, if_neg (show ¬ (l.length : Int) > 12 by omega), if_pos hl]
   exact ivlImpl p hp l hl
  ·simp only [decide_eq_true_eq, if_pos (show (l.length : Int) > 12 by omega), if_neg hl]
   exact Ev.now _
 ·simp only [decide_eq_false hp, Bool.false_eq_true, if_false, if_neg hp]
  refine Ev.step (fun k => by rw [impl_IntervalSystem.j0]) ?_
  simp only [if_true]
  exact Ev.now _
end Go.Proofs.YtdlnhddpgopghaaDoor.Pure
namespace Go.Proofs.YtdlnhddpgopghaaDoor.Pure
set_option linter.unusedSimpArgs false
set_option linter.unusedVariables false
open Go.RowKit Go.Proofs.YtdlnhddpgopghaaDoor.Q Go.Proofs.YtdlnhddpgopghaaDoorW.PrintWords Go.Proofs.YtdlnhddpgopghaaDoorW.PrintLast Go.Proofs.YtdlnhddpgopghaaDoor.Com
theorem implDiscOf (q : Nat) (hq : q ≤ 12) (l : List Int) (hl : l.length ≤ 12) (hs : ∀ x ∈ l, 0 ≤ x ∧ x ≤ full q) (hv : validSys q l = true) : Ev (fun k => impl_DiscrepancyOf.f k (q : Int) l) ((minD (fun r => gr (imbs l r)) (fun _ => true) (2 ^ q)).1, (minD (fun r => gr (imbs l r)) (fun _ => true) (2 ^ q)).2, true) := by
 have hs' : ∀ x ∈ l, 0 ≤ x ∧ x.toNat < 4096 := fun x hx => ⟨(hs x hx).1, (full_lt hq (hs x hx)).2⟩
 unfold impl_DiscrepancyOf.f
 refine ev_bind' (implValidSys_tells _ l) ?_
 simp only [hv, if_true]
 exact Ev.bind (implDisc_ev hl hs' q hq) (Ev.now _)
theorem r8At_tells (l : List Int) (hl : ∀ x ∈ l, (Lit.int .u8 x).wf = true) (n : Int) (hn : 1 ≤ n) : ∃ r : Nat, laws_r8At.f l 0 n = some (r : Int) ∧ (r : Int) < n := by
 unfold laws_r8At.f
 by_cases h1 : n ≤ 1
 ·rw [if_pos h1]
  exact ⟨0, rfl, by omega⟩
 ·rw [if_neg h1]
  by_cases h2 : 0 ≥ (l.length : Int)
  ·rw [if_pos h2]
   exact ⟨0, rfl, by omega⟩
  ·have hlt : 0 < l.length := by omega
   have b := u8_bd (hl _ (List.getElem_mem hlt))
   have e := rd_nat hlt
   rw [Int.natCast_zero] at e
   rw [if_neg h2, if_pos (by omega), if_pos (by omega), if_neg (by omega), e, w64 (by omega) (by omega), tmod_nn b.1]
   have := Int.emod_nonneg l[0] (show n ≠ 0 by omega)
   have := Int.emod_lt_of_pos l[0] (show 0 < n by omega)
   exact ⟨(l[0] % n).toNat, by rw [Int.toNat_of_nonneg (by omega)], by omega⟩
end Go.Proofs.YtdlnhddpgopghaaDoor.Pure
namespace Go.Proofs.YtdlnhddpgopghaaDoor.Pure
set_option linter.unusedSimpArgs false
set_option linter.unusedVariables false
open Go.RowKit Go.Proofs.YtdlnhddpgopghaaDoor.Q Go.Proofs.YtdlnhddpgopghaaDoorW.PrintWords Go.Proofs.YtdlnhddpgopghaaDoorW.PrintLast Go.Proofs.YtdlnhddpgopghaaDoor.Com
def ivE (e : List Int) (n : Nat) : Prop := ∃ a b : Nat, e = [(a : Int), (b : Int)] ∧ a ≤ b ∧ b < n
def ivN (a b : Nat) : Nat := 2 ^ (b + 1) - 2 ^ a
theorem iv_facts : ∀ a b : Fin 6, a.val ≤ b.val → shl .i64 1 ((b.val : Int) + 1) - shl .i64 1 (a.val : Int) = ((ivN a.val b.val : Nat) : Int) ∧ ivN a.val b.val < 64 ∧ pop (ivN a.val b.val) = b.val - a.val + 1 ∧ bitAt (ivN a.val b.val) a.val = 1 := by decide +kernel
theorem iv_lt : ∀ n b a : Fin 7, a.val ≤ b.val → b.val < n.val → ivN a.val b.val < 2 ^ n.val := by decide +kernel
theorem iv_one : ∀ (m : Fin 64) (a b : Fin 6), a.val ≤ b.val → -1 ≤ imb (ivN a.val b.val &&& m.val) (alt m.val) ∧ imb (ivN a.val b.val &&& m.val) (alt m.val) ≤ 1 := by decide +kernel
theorem ivM_is {n : Nat} (hn : n ≤ 6) (a b : Nat) (hab : a ≤ b) (hb : b < n) : ivM [(a : Int), (b : Int)] = ((ivN a b : Nat) : Int) := by
 obtain ⟨h1, h2, _⟩ := iv_facts ⟨a, by omega⟩ ⟨b, by omega⟩ hab
 simp only at h1 h2
 unfold ivM
 show wrap64 (shl .i64 1 ((b : Int) + 1) - shl .i64 1 (a : Int)) = _
 rw [h1, w64 (by omega) (by omega)]
theorem ivF_all {n : Nat} (hn : n ≤ 6) : ∀ (l : List (List Int)) (acc : List Int), (∀ e ∈ l, ivE e n) → ivF (n : Int) l acc = ((n : Int), acc ++ l.map ivM, true)
 | [], acc, _ => by simp [ivF]
 | x :: r, acc, h => by
  obtain ⟨a, b, rfl, hab, hb⟩ := h x (by simp)
  have ok : ivOk (n : Int) [(a : Int), (b : Int)] := by
   refine ⟨rfl, ?_, ?_, ?_⟩
   ·show (0 : Int) ≤ (a : Int); omega
   ·show (a : Int) ≤ (b : Int); omega
   ·show (b : Int) ≤ (n : Int) - 1; omega
  rw [ivF, if_pos ok, ivF_all hn r _ (fun e he => h e (List.mem_cons_of_mem _ he))]
  simp
theorem ends_ev (l : List Int) (hl : ∀ x ∈ l, (Lit.int .u8 x).wf = true) (n : Nat) (h1 : 1 ≤ n) (h6 : n ≤ 6) : ∃ ends, Ev (fun k => spec_R8Ends.f k l (n : Int)) ends ∧ ends.length ≤ 5 ∧ ∀ e ∈ ends, ivE e n := by
 unfold spec_R8Ends.f spec_l00From.f
 obtain ⟨c, a, s, e, c0, c1, a0, a1⟩ := pick_tells l hl 0 0 6 (by omega) (by omega)
 obtain ⟨c, rfl⟩ := Int.eq_ofNat_of_zero_le c0
 have key : ∀ (c : Nat) (a s : Int) (y : List (List Int)), 0 ≤ a ∧ a + 2 * c ≤ 20 → (∀ e ∈ y, ivE e n) → y.length + c ≤ 5 → ∃ ends, Ev (fun k => spec_R8Ends.l0 k (n : Int) y (c : Int) l a s) ends ∧ ends.length ≤ 5 ∧ ∀ e ∈ ends, ivE e n := by
  intro c
  induction c with
  | zero =>
   intro a s y ha hy hlen
   refine ⟨y, ?_, by omega, hy⟩
   refine Ev.step (fun k => by rw [spec_R8Ends.l0]) ?_
   simp only [if_neg (show ¬ ((0 : Nat) : Int) > 0 by omega)]
   exact Ev.now _
  | succ c ih =>
   intro a s y ha hy hlen
   obtain ⟨v, a2, s2, e2, v0, v1, b0, b1⟩ := pick_tells l hl a s (n : Int) (by omega) (by omega)
   obtain ⟨v', a3, s3, e3, v0', v1', b0', b1'⟩ := pick_tells l hl a2 s2 ((n : Int) - v) (by omega) (by omega)
   obtain ⟨x, rfl⟩ := Int.eq_ofNat_of_zero_le v0
   obtain ⟨z, rfl⟩ := Int.eq_ofNat_of_zero_le v0'
   obtain ⟨ends, h1, h2, h3⟩ := ih a3 s3 (y ++ [[(x : Int), ((x + z : Nat) : Int)]]) (by omega) (by
    intro t ht
    rcases List.mem_append.1 ht with h | h
    ·exact hy t h
    ·rw [List.mem_singleton] at h
     exact ⟨x, x + z, h, by omega, by omega⟩) (by rw [List.length_append, List.length_singleton]; omega)
   refine ⟨ends, ?_, h2, h3⟩
   refine Ev.step (fun k => by rw [spec_R8Ends.l0]) ?_
   simp only [if_pos (show ((c + 1 : Nat) : Int) > 0 by omega)]
   refine ev_bind' e2 ?_
   simp only
   rw [w64 (x := (n : Int) - (x : Int)) (by omega) (by omega), w64 (x := ((c + 1 : Nat) : Int) - 1) (by omega) (by omega), show ((c + 1 : Nat) : Int) - 1 = (c : Int) by omega]
   refine ev_bind' e3 ?_
   simp only [if_pos (show y.length < 5864062014805 by omega)]
   rw [w64 (x := (x : Int) + (z : Int)) (by omega) (by omega), show (x : Int) + (z : Int) = ((x + z : Nat) : Int) by omega]
   exact h1
 obtain ⟨ends, g1, g2, g3⟩ := key c a s [] (by omega) (by simp) (by simp; omega)
 refine ⟨ends, ?_, g2, g3⟩
 refine ev_bind' rfl ?_
 exact ev_bind' e g1
def hadD (j : Nat) (sets : List Int) : Int := (minD (fun r => gr (imbs sets r)) (fun _ => true) (2 ^ (2 ^ j))).1
theorem had_facts : ∀ j : Fin 4, ((impl_HadamardSystem.f 120 (j.val : Int)).getD (0, [], false)).2.2 = true ∧ ((impl_HadamardSystem.f 120 (j.val : Int)).getD (0, [], false)).1 = ((2 ^ j.val : Nat) : Int) ∧
  ((impl_HadamardSystem.f 120 (j.val : Int)).getD (0, [], false)).2.1.length = 2 ^ j.val ∧ validSys ((2 ^ j.val : Nat) : Int) ((impl_HadamardSystem.f 120 (j.val : Int)).getD (0, [], false)).2.1 = true ∧
  ((2 ^ j.val : Nat) : Int) ≤ 4 * hadD j.val ((impl_HadamardSystem.f 120 (j.val : Int)).getD (0, [], false)).2.1 * hadD j.val ((impl_HadamardSystem.f 120 (j.val : Int)).getD (0, [], false)).2.1 ∧ hadD j.val ((impl_HadamardSystem.f 120 (j.val : Int)).getD (0, [], false)).2.1 ≤ 100 ∧ 0 ≤ hadD j.val ((impl_HadamardSystem.f 120 (j.val : Int)).getD (0, [], false)).2.1 ∧ (impl_HadamardSystem.f 120 (j.val : Int)).isSome = true := by decide +kernel
theorem had_ev (j : Nat) (hj : j < 4) : ∃ (sets : List Int) (d z : Int), Ev (fun k => impl_HadamardSystem.f k (j : Int)) (((2 ^ j : Nat) : Int), sets, true) ∧ sets.length = 2 ^ j ∧ Ev (fun k => impl_DiscrepancyOf.f k ((2 ^ j : Nat) : Int) sets) (d, z, true) ∧ ((2 ^ j : Nat) : Int) ≤ 4 * d * d ∧ 0 ≤ d ∧ d ≤ 100 := by
 obtain ⟨h1, h2, h3, h4, h5, h6, h7, h8⟩ := had_facts ⟨j, hj⟩
 simp only at h1 h2 h3 h4 h5 h6 h7 h8
 obtain ⟨⟨p, sets, b⟩, hr⟩ := Option.isSome_iff_exists.1 h8
 rw [hr] at h1 h2 h3 h4 h5 h6 h7
 simp only [Option.getD_some] at h1 h2 h3 h4 h5 h6 h7
 subst h1 h2
 have hp8 : 2 ^ j ≤ 12 := by
  have : ∀ i : Fin 4, 2 ^ i.val ≤ 12 := by decide
  exact this ⟨j, hj⟩
 obtain ⟨_, hl, hs⟩ := validSys_of h4
 have hd := implDiscOf (2 ^ j) hp8 sets hl hs h4
 exact ⟨sets, hadD j sets, _, Ev.of (fun k => impl_HadamardSystem.mono _ k) hr, h3, hd, h5, h7, h6⟩
theorem same_ev (l : List Int) (hl : l.length ≤ 1048576) : Ev (fun k => laws_r8Same.f k l l) true := by
 unfold laws_r8Same.f
 simp only [if_true]
 have gen := ev_list l (fun m k => laws_r8Same.l0 k l l (m : Int)) (fun _ => true) ?_ ?_ 0 (by omega)
 ·exact gen
 ·refine Ev.step (fun k => by rw [laws_r8Same.l0]) ?_
  simp only [if_neg (show ¬ (l.length : Int) < (l.length : Int) by omega)]
  exact Ev.now _
 ·intro m hm ih
  refine Ev.step (fun k => by rw [laws_r8Same.l0]) ?_
  simp only [if_pos (show (m : Int) < (l.length : Int) by omega), if_pos (show (0 : Int) ≤ (m : Int) by omega), if_true, w_succ (m := m) (by omega)]
  exact ih
theorem uni_iv {n : Nat} (hn : n ≤ 6) (ends : List (List Int)) (h5 : ends.length ≤ 5) (he : ∀ e ∈ ends, ivE e n) : Ev (fun k => impl_IsUnimodular.f k (n : Int) (ends.map ivM)) true ∧ validSys (n : Int) (ends.map ivM) = true := by
 have hmem : ∀ x ∈ ends.map ivM, ∃ a b : Nat, x = ((ivN a b : Nat) : Int) ∧ a ≤ b ∧ b < n := by
  intro x hx
  obtain ⟨e, hee, rfl⟩ := List.mem_map.1 hx
  obtain ⟨a, b, rfl, hab, hb⟩ := he e hee
  exact ⟨a, b, ivM_is hn a b hab hb, hab, hb⟩
 have hlen : (ends.map ivM).length ≤ 12 := by rw [List.length_map]; omega
 have hlt : ∀ x ∈ ends.map ivM, 0 ≤ x ∧ x.toNat < 2 ^ n := by
  intro x hx
  obtain ⟨a, b, rfl, hab, hb⟩ := hmem x hx
  have := iv_lt ⟨n, by omega⟩ ⟨b, by omega⟩ ⟨a, by omega⟩ hab hb
  simp only at this
  exact ⟨by omega, by omega⟩
 have hp := pow_bd (show n ≤ 12 by omega)
 have hs4 : ∀ x ∈ ends.map ivM, 0 ≤ x ∧ x.toNat < 4096 := fun x hx => ⟨(hlt x hx).1, by have := (hlt x hx).2; omega⟩
 have v : validSys (n : Int) (ends.map ivM) = true := by
  unfold validSys
  rw [Bool.and_eq_true, Bool.and_eq_true]
  refine ⟨⟨decide_eq_true (by omega), decide_eq_true (by omega)⟩, List.all_eq_true.2 fun x hx => decide_eq_true ?_⟩
  rw [full_nat n (by omega)]
  have := hlt x hx
  omega
 refine ⟨?_, v⟩
 have hher : Ev (fun k => impl_HereditaryOf.f k (n : Int) (ends.map ivM)) (herTo (ends.map ivM) (2 ^ n), true) := by
  unfold impl_HereditaryOf.f
  refine ev_bind' (implValidSys_tells _ _) ?_
  simp only [v, if_true, decide_eq_false (show ¬ (n : Int) > 8 by omega)]
  refine Ev.step (fun k => by rw [impl_HereditaryOf.j0]) ?_
  simp only [Bool.false_eq_true, if_false, if_pos (show 0 ≤ (n : Int) by omega)]
  rw [shl_one n (by omega), show (2 : Int) ^ n = ((2 ^ n : Nat) : Int) by rw [Int.natCast_pow]; rfl]
  exact implHer_ev hlen hs4 (by omega) (fun x hx => (hlt x hx).2)
 have hu := uni_ev hher
 have h64 : 2 ^ n ≤ 64 := Nat.le_trans (Nat.pow_le_pow_right (by omega) hn) (by decide)
 have hle : herTo (ends.map ivM) (2 ^ n) ≤ 1 := herTo_bd hlen hs4 1 (by omega) (2 ^ n) (fun m hm => by
  have hm64 : m < 64 := by omega
  refine Int.le_trans (her_le hlen hs4 m (alt m) (alt_sub hm64)) (most_le hlen hs4 m _ 1 (by omega) (fun x hx => ?_))
  obtain ⟨a, b, rfl, hab, hb⟩ := hmem x hx
  have := iv_one ⟨m, hm64⟩ ⟨a, by omega⟩ ⟨b, by omega⟩ hab
  simpa using this)
 simp only [decide_eq_true hle, Bool.and_self] at hu
 exact hu
theorem FnKnownSystems : laws_FnKnownSystems.Pure := by
 intro code more _ _ hc _ _ hm
 apply ev_of
 unfold laws_FnKnownSystems.f
 obtain ⟨lg, hlg⟩ : ∃ lg, laws_r8Long.f code more = some lg := by
  unfold laws_r8Long.f
  split <;> exact ⟨_, rfl⟩
 refine ev_bind' hlg ?_
 by_cases c : lg = true
 ·simp only [if_pos c]
  exact Ev.now _
 simp only [if_neg c]
 obtain ⟨r, hr, hr6⟩ := r8At_tells code hc 6 (by omega)
 refine ev_bind' hr ?_
 have hn : wrap64 (1 + (r : Int)) = ((1 + r : Nat) : Int) := by rw [w64 (by omega) (by omega)]; omega
 simp only [hn]
 obtain ⟨n, hnn⟩ : ∃ n, 1 + r = n := ⟨_, rfl⟩
 rw [hnn]
 have h1 : 1 ≤ n := by omega
 have h6 : n ≤ 6 := by omega
 obtain ⟨ends, hE, he5, heE⟩ := ends_ev more hm n h1 h6
 refine Ev.bind hE ?_
 have hIv := ivImpl (n : Int) ends
 have hR : ivR (n : Int) ends = ((n : Int), ends.map ivM, true) := by
  unfold ivR
  rw [if_pos (by omega), if_pos (by omega), ivF_all h6 ends [] heE]
  rfl
 rw [hR] at hIv
 refine Ev.bind hIv ?_
 obtain ⟨j, hj, hj4⟩ := r8At_tells more hm 4 (by omega)
 refine ev_bind' hj ?_
 obtain ⟨sets, d, z, hH, hHl, hD, hd, hd0, hd1⟩ := had_ev j (by omega)
 refine Ev.bind hH (Ev.bind hD ?_)
 obtain ⟨hU, v⟩ := uni_iv h6 ends he5 heE
 simp only [if_true]
 refine Ev.bind hU ?_
 have hjw := uw (j : Int) (by omega)
 have hsh : shl .i64 1 (j : Int) = ((2 ^ j : Nat) : Int) := by rw [shl_one j (by omega), Int.natCast_pow]; rfl
 simp only [if_true, List.length_map, hjw, hsh, if_pos (show (0 : Int) ≤ (j : Int) by omega), hHl]
 refine Ev.step (fun k => by rw [laws_FnKnownSystems.j0]) ?_
 have hdd : d * d ≤ 10000 := by
  have := (mul_bd hd0 hd1 hd0 hd1).2
  omega
 have hdd0 : 0 ≤ d * d := Int.mul_nonneg hd0 hd0
 have e4 : 4 * d * d = 4 * (d * d) := Int.mul_assoc 4 d d
 rw [w64 (x := 4 * d) (by omega) (by omega), w64 (x := 4 * d * d) (by omega) (by omega), decide_eq_false (by omega)]
 simp only [Bool.false_eq_true, if_false]
 have htx := implText_ev (n : Int) (ends.map ivM) (by rw [List.length_map]; omega)
 rw [if_pos v] at htx
 obtain ⟨⟨q, hq, hq12⟩, hvl, _⟩ := validSys_of v
 have hsz : (textS (n : Int) (ends.map ivM)).size ≤ 1048576 := by
  unfold textS
  rw [strOfNums_size, List.length_append, List.length_append]
  have h2 := dec12_len n (by omega)
  have h3 := rest_len (P := n) (l := ends.map ivM) (by omega) hvl true (ends.map ivM)
  rw [Int.toNat_natCast]
  simp only [List.length_singleton]
  omega
 have hback := sysRead_back (n : Int) (ends.map ivM) v hsz
 have gen := ev_list ends (fun m k => laws_FnKnownSystems.l0 k ends (m : Int) (n : Int) (ends.map ivM)) (fun _ => true) ?_ ?_ 0 (by omega)
 ·exact gen
 ·refine Ev.step (fun k => by rw [laws_FnKnownSystems.l0]) ?_
  simp only [if_neg (show ¬ (ends.length : Int) < (ends.length : Int) by omega)]
  refine Ev.bind htx (Ev.bind hback ?_)
  simp only [if_true]
  exact Ev.bind (same_ev _ (by rw [List.length_map]; omega)) (Ev.now _)
 ·intro m hm' ih
  obtain ⟨a, b, hab0, hab, hb⟩ := heE _ (List.getElem_mem hm')
  have hms : m < (ends.map ivM).length := by rw [List.length_map]; exact hm'
  have hset : rd (ends.map ivM) (m : Int) = ((ivN a b : Nat) : Int) := by
   rw [rd_nat hms, List.getElem_map, hab0, ivM_is h6 a b hab hb]
  have hend : rd_L3 ends (m : Int) = [(a : Int), (b : Int)] := by rw [rdr_nat hm', hab0]
  obtain ⟨f1, f2, f3, f4⟩ := iv_facts ⟨a, by omega⟩ ⟨b, by omega⟩ hab
  simp only at f1 f2 f3 f4
  have hbt := bit_tells (ivN a b) a (by omega) (by omega)
  rw [f4] at hbt
  refine Ev.step (fun k => by rw [laws_FnKnownSystems.l0]) ?_
  simp only [if_pos (show (m : Int) < (ends.length : Int) by omega), if_pos (show (0 : Int) ≤ (m : Int) by omega), List.length_map, hset]
  refine Ev.bind (weight_ev (ivN a b) (by omega)) ?_
  rw [hend, f3]
  have ra : rd [(a : Int), (b : Int)] 0 = (a : Int) := rfl
  have rb : rd [(a : Int), (b : Int)] 1 = (b : Int) := rfl
  rw [ra, rb, w64 (x := (b : Int) - (a : Int)) (by omega) (by omega), w64 (x := (b : Int) - (a : Int) + 1) (by omega) (by omega), uw (a : Int) (by omega)]
  simp only [List.length_cons, List.length_nil, if_pos (show (1 : Int) < ((0 + 1 + 1 : Nat) : Int) by omega), if_pos (show (0 : Int) < ((0 + 1 + 1 : Nat) : Int) by omega), if_pos (show ((b - a + 1 : Nat) : Int) = (b : Int) - (a : Int) + 1 by omega), if_pos (show (0 : Int) ≤ (a : Int) by omega), hbt, w_succ (m := m) (by omega)]
  simp only [if_pos (show ((1 : Nat) : Int) = 1 from rfl)]
  exact ih
end Go.Proofs.YtdlnhddpgopghaaDoor.Pure
