/- Bits of small sets: what the machine's operations on them come to. -/
import Derived.Test.YtplgfchiaapmfaaFold
import Derived.Laws.BitsLemmas

namespace Go.Proofs.Ytplgfchiaapmfaa.Com
set_option linter.unusedSimpArgs false
set_option linter.unusedVariables false
open Go.RowKit Go.Proofs.YtplgfchiaapmfaaW.PrintWords Go.Proofs.YtplgfchiaapmfaaW.PrintMore

theorem wraps_i64 (n : Int) (h₀ : 0 ≤ n) (h₁ : n < 2 ^ 63) : IntKind.i64.wrap n = n := by rw [IntKind.wrap_i64]; omega
theorem and_nat (a b : Nat) (ha : a < 4096) (hb : b < 4096) : Go.bits .and .i64 (a : Int) (b : Int) = ((a &&& b : Nat) : Int) :=
  (Go.bits_nat .i64 63 (by decide) wraps_i64 a b (by omega) (by omega)).1
theorem or_nat (a b : Nat) (ha : a < 4096) (hb : b < 4096) : Go.bits .or .i64 (a : Int) (b : Int) = ((a ||| b : Nat) : Int) :=
  (Go.bits_nat .i64 63 (by decide) wraps_i64 a b (by omega) (by omega)).2
theorem uw (n : Int) (h : 0 ≤ n ∧ n ≤ 4096) : IntKind.u64.wrap n = n := by
  simp [IntKind.wrap, IntKind.bits, IntKind.signed]
  omega
theorem shl_one (p : Nat) (h : p ≤ 12) : shl .i64 1 (p : Int) = 2 ^ p := by
  have : ∀ q : Fin 13, shl .i64 1 (q.val : Int) = 2 ^ q.val := by decide +kernel
  exact this ⟨p, by omega⟩
theorem shl_bit (b p : Nat) (hb : b ≤ 1) (h : p ≤ 12) : shl .i64 (b : Int) (p : Int) = ((b * 2 ^ p : Nat) : Int) := by
  have : ∀ (c : Fin 2) (q : Fin 13), shl .i64 (c.val : Int) (q.val : Int) = ((c.val * 2 ^ q.val : Nat) : Int) := by decide +kernel
  exact this ⟨b, by omega⟩ ⟨p, by omega⟩
theorem pow_bd {p : Nat} (h : p ≤ 12) : 1 ≤ 2 ^ p ∧ 2 ^ p ≤ 4096 := by
  have : ∀ q : Fin 13, 1 ≤ 2 ^ q.val ∧ 2 ^ q.val ≤ 4096 := by decide
  exact this ⟨p, by omega⟩
/-- Bit p of a set. -/
def bitAt (s p : Nat) : Nat := s / 2 ^ p % 2
theorem bitAt_le (s p : Nat) : bitAt s p ≤ 1 := by unfold bitAt; omega
theorem bit_tells (s p : Nat) (hs : s < 4096) (hp : p ≤ 12) : Go.bits .and .i64 (shr .i64 (s : Int) (p : Int)) 1 = ((bitAt s p : Nat) : Int) := by
  have e : shr .i64 (s : Int) (p : Int) = ((s / 2 ^ p : Nat) : Int) := by
    unfold shr
    rw [Int.toNat_natCast, Nat.min_eq_left (by have : IntKind.i64.bits = 64 := rfl; omega)]
    exact_mod_cast rfl
  have hlt : s / 2 ^ p < 4096 := Nat.lt_of_le_of_lt (Nat.div_le_self _ _) hs
  rw [e]
  have := and_nat (s / 2 ^ p) 1 hlt (by omega)
  rw [Nat.and_one_is_mod] at this
  exact this
/-- How many bits are set, of the first f. -/
def popf : Nat → Nat → Nat
  | 0, _ => 0
  | f + 1, n => n % 2 + popf f (n / 2)
def pop (n : Nat) : Nat := popf 12 n
theorem popf_le (f : Nat) : ∀ n, popf f n ≤ f := by
  induction f with
  | zero => intro n; simp [popf]
  | succ f ih => intro n; unfold popf; have := ih (n / 2); omega
theorem pop_le (n : Nat) : pop n ≤ 12 := popf_le 12 n
end Go.Proofs.Ytplgfchiaapmfaa.Com
