/- Loops over lists, by their rounds: general lemmas. -/
import Derived.Test.YtgndemjphjhahaaCom
namespace Go.Proofs.Ytgndemjphjhahaa.Com
set_option linter.unusedSimpArgs false
set_option linter.unusedVariables false
open Go.RowKit Go.Proofs.YtgndemjphjhahaaW.PrintWords

theorem ev_fold {α σ ρ : Type} (xs : List α) (g : Nat → σ → Nat → Option ρ) (F : List α → σ → ρ) (Inv : Nat → σ → Prop)
    (h0 : ∀ s, Inv xs.length s → Ev (g xs.length s) (F [] s))
    (hs : ∀ m (h : m < xs.length) s, Inv m s → (∀ s', Inv (m + 1) s' → Ev (g (m + 1) s') (F (xs.drop (m + 1)) s')) → Ev (g m s) (F (xs[m] :: xs.drop (m + 1)) s)) :
    ∀ m s, m ≤ xs.length → Inv m s → Ev (g m s) (F (xs.drop m) s) := by
  have key : ∀ d m s, m + d = xs.length → Inv m s → Ev (g m s) (F (xs.drop m) s) := by
    intro d
    induction d with
    | zero =>
      intro m s e hi
      obtain rfl : m = xs.length := by omega
      rw [List.drop_length]
      exact h0 s hi
    | succ d ih =>
      intro m s e hi
      have h : m < xs.length := by omega
      rw [List.drop_eq_getElem_cons h]
      exact hs m h s hi (fun s' hi' => ih (m + 1) s' (by omega) hi')
  intro m s hm hi
  exact key (xs.length - m) m s (by omega) hi
theorem ev_list {α ρ : Type} (xs : List α) (g : Nat → Nat → Option ρ) (F : List α → ρ) (h0 : Ev (g xs.length) (F []))
    (hs : ∀ m (h : m < xs.length), Ev (g (m + 1)) (F (xs.drop (m + 1))) → Ev (g m) (F (xs[m] :: xs.drop (m + 1)))) (m : Nat) (hm : m ≤ xs.length) : Ev (g m) (F (xs.drop m)) :=
  ev_fold xs (fun m (_ : Unit) => g m) (fun l _ => F l) (fun _ _ => True) (fun _ _ => h0) (fun m h _ _ ih => hs m h (ih () trivial)) m () hm trivial
/-- A loop that counts from m up to n. -/
theorem ev_count {σ ρ : Type} (n : Nat) (g : Nat → σ → Nat → Option ρ) (r : ρ) (Inv : Nat → σ → Prop) (h0 : ∀ s, Inv n s → Ev (g n s) r)
    (hs : ∀ m s, m < n → Inv m s → ∃ s', Inv (m + 1) s' ∧ (Ev (g (m + 1) s') r → Ev (g m s) r)) : ∀ m s, m ≤ n → Inv m s → Ev (g m s) r := by
  have key : ∀ d m s, m + d = n → Inv m s → Ev (g m s) r := by
    intro d
    induction d with
    | zero =>
      intro m s e hi
      obtain rfl : m = n := by omega
      exact h0 s hi
    | succ d ih =>
      intro m s e hi
      obtain ⟨s', hi', k⟩ := hs m s (by omega) hi
      exact k (ih (m + 1) s' (by omega) hi')
  intro m s hm hi
  exact key (n - m) m s (by omega) hi
theorem rd_nat {xs : List Int} {m : Nat} (h : m < xs.length) : rd xs (m : Int) = xs[m] := by
  unfold rd
  rw [Int.toNat_natCast, List.getD_eq_getElem?_getD, List.getElem?_eq_getElem h]
  rfl
theorem w_succ {m : Nat} (h : m < 9223372036854775807) : wrap64 ((m : Int) + 1) = ((m + 1 : Nat) : Int) := by
  rw [w64 (by omega) (by omega)]
  omega
theorem w_pred {m : Nat} (h : 0 < m) (h' : m < 9223372036854775807) : wrap64 ((m : Int) - 1) = ((m - 1 : Nat) : Int) := by
  rw [w64 (by omega) (by omega)]
  omega
end Go.Proofs.Ytgndemjphjhahaa.Com
