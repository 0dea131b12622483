/- The statement FnExactSetErrors, with all that its proof stands on: functions of the program as plain functions, the program's walks, and the plain law. Conditions: none beyond the statement's own. -/
import Derived.ArgAppend
import Derived.Below
import Derived.BigQuiet
import Derived.Deep.AppendLies
import Derived.Deep.CutBlock
import Derived.Deep.DeepCutAuto
import Derived.Deep.Draws
import Derived.Deep.LoopGhost
import Derived.Deep.OwnRows
import Derived.Deep.QuietTactic
import Derived.Deep.RegionHeld3
import Derived.KernelRfl
import Derived.Laws.BitsLemmas
import Derived.Laws.BytesArg
import Derived.Laws.IdiomCopy
import Derived.Laws.MakeOwn
import Derived.Laws.OwnMore
import Derived.Laws.Rows
import Derived.Laws.Slices
import Derived.Lib.AppendStr
import Derived.Lib.ConvBytes
import Derived.Maps.AppendAt
import Derived.OrdersHeld
import Derived.OwnWalk
import Derived.RowKit
import Derived.RowKit3
import Derived.Tactics
import Derived.Test.YtoebllbpoinifaaProg
import Derived.WalkKit
import Derived.WideLaws
import Derived.Test.YtoebllbpoinifaaBFnExactSetErrors0
import Derived.Test.YtoebllbpoinifaaBFnExactSetErrors1
import Derived.Test.YtoebllbpoinifaaBFnExactSetErrors2
import Derived.Test.YtoebllbpoinifaaBFnExactSetErrors3
import Derived.Test.YtoebllbpoinifaaBFnExactSetErrors4
import Derived.Test.YtoebllbpoinifaaBFnExactSetErrors5
import Derived.Test.YtoebllbpoinifaaBFnExactSetErrors6
import Derived.Test.YtoebllbpoinifaaBFnExactSetErrors7
set_option linter.unusedVariables false
set_option linter.unusedSimpArgs false
namespace Go.Proofs.Ytoebllbpoinifaa.Com
open Go.RowKit Go.Proofs.YtoebllbpoinifaaW.PrintWords
theorem w64 {x : Int} (h1 : -9223372036854775808 ≤ x) (h2 : x ≤ 9223372036854775807) : wrap64 x = x := by
 unfold wrap64
 omega
theorem ev_of {α : Type} {g : Nat → Option α} {r : α} (h : Ev g r) : ∃ k, g k = some r := h.rounds
theorem ev_bind' {α β : Type} {o : Option α} {f : Nat → α → Option β} {a : α} {r : β} (h : o = some a) (k : Ev (fun n => f n a) r) : Ev (fun n => o.bind (f n)) r := by
 subst h
 exact k
end Go.Proofs.Ytoebllbpoinifaa.Com
namespace Go.Proofs.Ytoebllbpoinifaa.Com
set_option linter.unusedSimpArgs false
set_option linter.unusedVariables false
open Go.RowKit Go.Proofs.YtoebllbpoinifaaW.PrintWords
theorem ev_fold {α σ ρ : Type} (xs : List α) (g : Nat → σ → Nat → Option ρ) (F : List α → σ → ρ) (Inv : Nat → σ → Prop)
  (h0 : ∀ s, Inv xs.length s → Ev (g xs.length s) (F [] s))
  (hs : ∀ m (h : m < xs.length) s, Inv m s → (∀ s', Inv (m + 1) s' → Ev (g (m + 1) s') (F (xs.drop (m + 1)) s')) → Ev (g m s) (F (xs[m] :: xs.drop (m + 1)) s)) :
  ∀ m s, m ≤ xs.length → Inv m s → Ev (g m s) (F (xs.drop m) s) := by
 have key : ∀ d m s, m + d = xs.length → Inv m s → Ev (g m s) (F (xs.drop m) s) := by
  intro d
  induction d with
  | zero =>
   intro m s e hi
   obtain rfl : m = xs.length := by omega
   rw [List.drop_length]
   exact h0 s hi
  | succ d ih =>
   intro m s e hi
   have h : m < xs.length := by omega
   rw [List.drop_eq_getElem_cons h]
   exact hs m h s hi (fun s' hi' => ih (m + 1) s' (by omega) hi')
 intro m s hm hi
 exact key (xs.length - m) m s (by omega) hi
theorem ev_list {α ρ : Type} (xs : List α) (g : Nat → Nat → Option ρ) (F : List α → ρ) (h0 : Ev (g xs.length) (F []))
  (hs : ∀ m (h : m < xs.length), Ev (g (m + 1)) (F (xs.drop (m + 1))) → Ev (g m) (F (xs[m] :: xs.drop (m + 1)))) (m : Nat) (hm : m ≤ xs.length) : Ev (g m) (F (xs.drop m)) :=
 ev_fold xs (fun m (_ : Unit) => g m) (fun l _ => F l) (fun _ _ => True) (fun _ _ => h0) (fun m h _ _ ih => hs m h (ih () trivial)) m () hm trivial
theorem ev_count {σ ρ : Type} (n : Nat) (g : Nat → σ → Nat → Option ρ) (r : ρ) (Inv : Nat → σ → Prop) (h0 : ∀ s, Inv n s → Ev (g n s) r)
  (hs : ∀ m s, m < n → Inv m s → ∃ s', Inv (m + 1) s' ∧ (Ev (g (m + 1) s') r → Ev (g m s) r)) : ∀ m s, m ≤ n → Inv m s → Ev (g m s) r := by
 have key : ∀ d m s, m + d = n → Inv m s → Ev (g m s) r := by
  intro d
  induction d with
  | zero =>
   intro m s e hi
   obtain rfl : m = n := by omega
   exact h0 s hi
  | succ d ih =>
   intro m s e hi
   obtain ⟨s', hi', k⟩ := hs m s (by omega) hi
   exact k (ih (m + 1) s' (by omega) hi')
 intro m s hm hi
 exact key (n - m) m s (by omega) hi
theorem rd_nat {xs : List Int} {m : Nat} (h : m < xs.length) : rd xs (m : Int) = xs[m] := by
 unfold rd
 rw [Int.toNat_natCast, List.getD_eq_getElem?_getD, List.getElem?_eq_getElem h]
 rfl
theorem w_succ {m : Nat} (h : m < 9223372036854775807) : wrap64 ((m : Int) + 1) = ((m + 1 : Nat) : Int) := by
 rw [w64 (by omega) (by omega)]
 omega
end Go.Proofs.Ytoebllbpoinifaa.Com
namespace Go.Proofs.Ytoebllbpoinifaa.Com
set_option linter.unusedSimpArgs false
set_option linter.unusedVariables false
open Go.RowKit Go.Proofs.YtoebllbpoinifaaW.PrintWords Go.Proofs.Ytoebllbpoinifaa.Q
theorem within_tells (x a b : Int) : impl_within.f x a b = some (decide (a ≤ x ∧ x ≤ b)) := by
 unfold impl_within.f
 split <;> simp [*]
theorem in_tells (x a b : Int) : spec_l00In.f x a b = some (decide (a ≤ x ∧ x ≤ b)) := by
 unfold spec_l00In.f
 by_cases h : x ≥ a
 ·have h' : a ≤ x := h
  simp [h, h']
 ·have h' : ¬ a ≤ x := h
  simp [h, h']
end Go.Proofs.Ytoebllbpoinifaa.Com
namespace Go.Proofs.Ytoebllbpoinifaa.Com
set_option linter.unusedSimpArgs false
set_option linter.unusedVariables false
set_option linter.unusedSectionVars false
open Go.RowKit Go.Proofs.YtoebllbpoinifaaW.PrintWords Go.Proofs.YtoebllbpoinifaaW.PrintMore Go.Proofs.Ytoebllbpoinifaa.Q
def fv (b x : Int) : Int := if Int.tmod x b < 0 then Int.tdiv x b - 1 else Int.tdiv x b
theorem tdiv_bd (x b : Int) (hx : -1000000 ≤ x ∧ x ≤ 1000000) : -1000000 ≤ Int.tdiv x b ∧ Int.tdiv x b ≤ 1000000 := by
 have h : (Int.tdiv x b).natAbs ≤ x.natAbs := by rw [Int.natAbs_tdiv]; exact Nat.div_le_self _ _
 omega
theorem fv_bd (b x : Int) (hx : -1000000 ≤ x ∧ x ≤ 1000000) : -1000001 ≤ fv b x ∧ fv b x ≤ 1000000 := by
 have := tdiv_bd x b hx
 unfold fv
 split <;> omega
theorem implFloor_tells (b x : Int) (hb : 1 ≤ b ∧ b ≤ 1000) (hx : -1000000 ≤ x ∧ x ≤ 1000000) : impl_floor.f x b = some (fv b x) := by
 have t := tdiv_bd x b hx
 unfold impl_floor.f fv
 rw [if_neg (by omega), w64 (x := Int.tdiv x b) (by omega) (by omega), w64 (x := Int.tdiv x b - 1) (by omega) (by omega)]
 split <;> rfl
theorem specFloor_tells (b x : Int) (hb : 1 ≤ b ∧ b ≤ 1000) (hx : -1000000 ≤ x ∧ x ≤ 1000000) : spec_l01Floor.f x b = some (fv b x) := by
 have t := tdiv_bd x b hx
 have e := Int.mul_tdiv_add_tmod x b
 have m : b * Int.tdiv x b = Int.tdiv x b * b := Int.mul_comm _ _
 have ml : Int.tmod x b < b := Int.tmod_lt_of_pos x (by omega)
 have mg : -b < Int.tmod x b := by
  have h : (Int.tmod x b).natAbs < b.natAbs := by rw [Int.natAbs_tmod]; exact Nat.mod_lt _ (by omega)
  omega
 unfold spec_l01Floor.f fv
 rw [if_neg (by omega), w64 (x := Int.tdiv x b) (by omega) (by omega), w64 (x := Int.tdiv x b * b) (by omega) (by omega), w64 (x := Int.tdiv x b - 1) (by omega) (by omega)]
 by_cases c : Int.tmod x b < 0
 ·rw [if_pos c, if_pos (by omega)]
 ·rw [if_neg c, if_neg (by omega)]
def cv (b x : Int) : Int := -fv b (-x)
theorem implCeil_tells (b x : Int) (hb : 1 ≤ b ∧ b ≤ 1000) (hx : -1000000 ≤ x ∧ x ≤ 1000000) : impl_ceiling.f x b = some (cv b x) := by
 have t := fv_bd b (-x) (by omega)
 unfold impl_ceiling.f cv
 rw [w64 (x := -x) (by omega) (by omega), implFloor_tells b (-x) hb (by omega), Option.bind_some, w64 (by omega) (by omega)]
theorem specCeil_tells (b x : Int) (hb : 1 ≤ b ∧ b ≤ 1000) (hx : -1000000 ≤ x ∧ x ≤ 1000000) : spec_l01Ceil.f x b = some (cv b x) := by
 have t := fv_bd b (-x) (by omega)
 unfold spec_l01Ceil.f cv
 rw [w64 (x := -x) (by omega) (by omega), specFloor_tells b (-x) hb (by omega), Option.bind_some, w64 (by omega) (by omega)]
def valsOk (b : Int) (v : List Int) : Bool := v.all (fun x => decide (-1000000 ≤ x ∧ x ≤ 1000000)) && (decide (1 ≤ b ∧ b ≤ 1000) && decide ((v.length : Int) ≤ 40))
theorem valsOk_is {b : Int} {v : List Int} (h : valsOk b v = true) : (1 ≤ b ∧ b ≤ 1000) ∧ v.length ≤ 40 ∧ ∀ x ∈ v, -1000000 ≤ x ∧ x ≤ 1000000 := by
 unfold valsOk at h
 simp only [Bool.and_eq_true, decide_eq_true_eq, List.all_eq_true] at h
 exact ⟨h.2.1, by omega, h.1⟩
theorem specVals_ev (b : Int) (v : List Int) (hx : v.length ≤ 1048576) : Ev (fun k => spec_l01Is.f k b v) (valsOk b v) := by
 unfold spec_l01Is.f
 have gen := ev_list v (fun m k => spec_l01Is.l0 k (m : Int) b v) (fun d => d.all (fun x => decide (-1000000 ≤ x ∧ x ≤ 1000000)) && (decide (1 ≤ b ∧ b ≤ 1000) && decide ((v.length : Int) ≤ 40))) ?_ ?_ 0 (by omega)
 ·exact gen
 ·refine Ev.step (fun k => by rw [spec_l01Is.l0]) ?_
  simp only [if_neg (show ¬ (v.length : Int) < (v.length : Int) by omega), in_tells, Option.bind_some, List.all_nil, Bool.true_and, decide_eq_true_eq]
  by_cases c : 1 ≤ b ∧ b ≤ 1000
  ·simp only [if_pos c, decide_eq_true c, Bool.true_and]
   exact Ev.now _
  ·simp only [if_neg c, decide_eq_false c, Bool.false_and]
   exact Ev.now _
 ·intro m hm ih
  refine Ev.step (fun k => by rw [spec_l01Is.l0]) ?_
  simp only [if_pos (show (m : Int) < (v.length : Int) by omega), if_pos (show 0 ≤ (m : Int) by omega), rd_nat hm, w_succ (m := m) (by omega), in_tells, Option.bind_some, List.all_cons, decide_eq_true_eq]
  by_cases c : -1000000 ≤ v[m] ∧ v[m] ≤ 1000000
  ·simp only [if_pos c, decide_eq_true c, Bool.true_and]
   exact ih
  ·simp only [if_neg c, decide_eq_false c, Bool.false_and]
   exact Ev.now _
theorem implVals_tells (b : Int) (v : List Int) : impl_ValidValues.f b v = some (valsOk b v) := by
 unfold impl_ValidValues.f impl_areWithin.f valsOk
 rw [within_tells]
 simp only [Option.bind_some, decide_eq_true_eq]
 by_cases c : 1 ≤ b ∧ b ≤ 1000
 ·rw [if_pos c, decide_eq_true c]
  by_cases d : (v.length : Int) ≤ 40
  ·rw [if_pos d, decide_eq_true d, Bool.true_and, Bool.and_true]
  ·rw [if_neg d, decide_eq_false d, Bool.and_false, Bool.and_false]
 ·rw [if_neg c, decide_eq_false c, Bool.false_and, Bool.and_false]
theorem each_ev (g : Int → Option Int) (h : Int → Int) (a : Int) (v : List Int) (hx : v.length ≤ 1048576) (hg : ∀ x ∈ v, g x = some (h x)) : Ev (fun k => impl_Values_each.f k a v g) (v.map h) := by
 unfold impl_Values_each.f
 have gen := ev_fold v (fun m (s : List Int) k => impl_Values_each.l0 g k s v (v.length : Int) (m : Int)) (fun d s => s ++ d.map h) (fun m s => s.length = m) ?_ ?_ 0 [] (by omega) rfl
 ·simpa using gen
 ·intro s _
  refine Ev.step (fun k => by rw [impl_Values_each.l0]) ?_
  simp only [if_neg (show ¬ (v.length : Int) < (v.length : Int) by omega), List.map_nil, List.append_nil]
  exact Ev.now _
 ·intro m hm s hs ih
  refine Ev.step (fun k => by rw [impl_Values_each.l0]) ?_
  simp only [if_pos (show (m : Int) < (v.length : Int) by omega), if_pos (show 0 ≤ (m : Int) by omega), rd_nat hm, w_succ (m := m) (by omega), hg _ (List.getElem_mem hm), Option.bind_some, if_pos (show s.length < 17592186044416 by omega)]
  rw [List.map_cons, List.append_cons s (h v[m]) ((v.drop (m + 1)).map h)]
  exact ih (s ++ [h v[m]]) (by simp [hs])
section
variable {b : Int} {v l : List Int} (hv : valsOk b v = true)
include hv
theorem floors_ev : Ev (fun k => impl_Values_floors.f k b v) (v.map (fv b)) := by
 obtain ⟨h1, h2, h3⟩ := valsOk_is hv
 unfold impl_Values_floors.f
 exact Ev.bind (each_ev _ (fv b) b v (by omega) (fun x hx => implFloor_tells b x h1 (h3 x hx))) (Ev.now _)
theorem ceilings_ev : Ev (fun k => impl_Values_ceilings.f k b v) (v.map (cv b)) := by
 obtain ⟨h1, h2, h3⟩ := valsOk_is hv
 unfold impl_Values_ceilings.f
 exact Ev.bind (each_ev _ (cv b) b v (by omega) (fun x hx => implCeil_tells b x h1 (h3 x hx))) (Ev.now _)
def roundsTo (b : Int) : List Int → List Int → Bool
 | [], _ => true
 | y :: r, v => (match v with | [] => false | x :: t => (decide (y = fv b x) || decide (y = cv b x)) && roundsTo b r t)
theorem specRounds_ev (hl : l.length = v.length) : Ev (fun k => spec_l01Rounds.l0 k l 0 b v) (roundsTo b l v) := by
 obtain ⟨h1, h2, h3⟩ := valsOk_is hv
 have gen := ev_list l (fun m k => spec_l01Rounds.l0 k l (m : Int) b v) (fun d => roundsTo b d (v.drop (v.length - d.length))) ?_ ?_ 0 (by omega)
 ·simpa [hl] using gen
 ·refine Ev.step (fun k => by rw [spec_l01Rounds.l0]) ?_
  simp only [if_neg (show ¬ (l.length : Int) < (l.length : Int) by omega), roundsTo]
  exact Ev.now _
 ·intro m hm ih
  have hm' : m < v.length := by omega
  have hd : (l.drop (m + 1)).length = l.length - (m + 1) := List.length_drop ..
  have t1 : v.length - (l[m] :: l.drop (m + 1)).length = m := by rw [List.length_cons, hd]; omega
  have t2 : v.length - (l.drop (m + 1)).length = m + 1 := by rw [hd]; omega
  rw [t1, List.drop_eq_getElem_cons hm']
  rw [t2] at ih
  have hx := h3 _ (List.getElem_mem hm')
  refine Ev.step (fun k => by rw [spec_l01Rounds.l0]) ?_
  simp only [if_pos (show (m : Int) < (l.length : Int) by omega), if_pos (show 0 ≤ (m : Int) by omega), if_pos (show (m : Int) < (v.length : Int) by omega), rd_nat hm, rd_nat hm', w_succ (m := m) (by omega), specFloor_tells b _ h1 hx, specCeil_tells b _ h1 hx, Option.bind_some, roundsTo]
  by_cases c : l[m] = fv b v[m]
  ·simp only [if_pos c, decide_eq_true c, Bool.true_or, Bool.true_and]
   exact ih
  ·by_cases d : l[m] = cv b v[m]
   ·simp only [if_neg c, if_pos d, decide_eq_true d, Bool.or_true, Bool.true_and]
    exact ih
   ·simp only [if_neg c, if_neg d, decide_eq_false c, decide_eq_false d, Bool.or_false, Bool.false_and]
    exact Ev.now _
theorem implRounds_ev (hl : l.length = v.length) : Ev (fun k => impl_IsRounding.l0 k (v.map (fv b)) (v.map (cv b)) l (l.length : Int) 0) (roundsTo b l v) := by
 obtain ⟨h1, h2, h3⟩ := valsOk_is hv
 have gen := ev_list l (fun m k => impl_IsRounding.l0 k (v.map (fv b)) (v.map (cv b)) l (l.length : Int) (m : Int)) (fun d => roundsTo b d (v.drop (v.length - d.length))) ?_ ?_ 0 (by omega)
 ·simpa [hl] using gen
 ·refine Ev.step (fun k => by rw [impl_IsRounding.l0]) ?_
  simp only [if_neg (show ¬ (l.length : Int) < (l.length : Int) by omega), roundsTo]
  exact Ev.now _
 ·intro m hm ih
  have hm' : m < v.length := by omega
  have hd : (l.drop (m + 1)).length = l.length - (m + 1) := List.length_drop ..
  have t1 : v.length - (l[m] :: l.drop (m + 1)).length = m := by rw [List.length_cons, hd]; omega
  have t2 : v.length - (l.drop (m + 1)).length = m + 1 := by rw [hd]; omega
  rw [t1, List.drop_eq_getElem_cons hm']
  rw [t2] at ih
  have e1 : rd (v.map (fv b)) (m : Int) = fv b v[m] := by rw [rd_nat (by rw [List.length_map]; exact hm'), List.getElem_map]
  have e2 : rd (v.map (cv b)) (m : Int) = cv b v[m] := by rw [rd_nat (by rw [List.length_map]; exact hm'), List.getElem_map]
  refine Ev.step (fun k => by rw [impl_IsRounding.l0]) ?_
  simp only [if_pos (show (m : Int) < (l.length : Int) by omega), if_pos (show 0 ≤ (m : Int) by omega), List.length_map, if_pos (show (m : Int) < (v.length : Int) by omega), rd_nat hm, e1, e2, w_succ (m := m) (by omega), roundsTo]
  by_cases c : l[m] = fv b v[m]
  ·simp only [if_pos c, decide_eq_true c, Bool.true_or, Bool.true_and]
   exact ih
  ·by_cases d : l[m] = cv b v[m]
   ·simp only [if_neg c, if_pos d, decide_eq_true d, Bool.or_true, Bool.true_and]
    exact ih
   ·simp only [if_neg c, if_neg d, decide_eq_false c, decide_eq_false d, Bool.or_false, Bool.false_and]
    exact Ev.now _
end
end Go.Proofs.Ytoebllbpoinifaa.Com
namespace Go.Proofs.Ytoebllbpoinifaa.Com
set_option linter.unusedSimpArgs false
set_option linter.unusedVariables false
open Go.RowKit Go.Proofs.YtoebllbpoinifaaW.PrintWords Go.Proofs.YtoebllbpoinifaaW.PrintMore
theorem wraps_i64 (n : Int) (h₀ : 0 ≤ n) (h₁ : n < 2 ^ 63) : IntKind.i64.wrap n = n := by rw [IntKind.wrap_i64]; omega
theorem and_nat (a b : Nat) (ha : a < 4096) (hb : b < 4096) : Go.bits .and .i64 (a : Int) (b : Int) = ((a &&& b : Nat) : Int) :=
 (Go.bits_nat .i64 63 (by decide) wraps_i64 a b (by omega) (by omega)).1
theorem uw (n : Int) (h : 0 ≤ n ∧ n ≤ 4096) : IntKind.u64.wrap n = n := by
 simp [IntKind.wrap, IntKind.bits, IntKind.signed]
 omega
theorem pow_bd {p : Nat} (h : p ≤ 12) : 1 ≤ 2 ^ p ∧ 2 ^ p ≤ 4096 := by
 have : ∀ q : Fin 13, 1 ≤ 2 ^ q.val ∧ 2 ^ q.val ≤ 4096 := by decide
 exact this ⟨p, by omega⟩
def bitAt (s p : Nat) : Nat := s / 2 ^ p % 2
theorem bitAt_le (s p : Nat) : bitAt s p ≤ 1 := by unfold bitAt; omega
theorem bit_tells (s p : Nat) (hs : s < 4096) (hp : p ≤ 12) : Go.bits .and .i64 (shr .i64 (s : Int) (p : Int)) 1 = ((bitAt s p : Nat) : Int) := by
 have e : shr .i64 (s : Int) (p : Int) = ((s / 2 ^ p : Nat) : Int) := by
  unfold shr
  rw [Int.toNat_natCast, Nat.min_eq_left (by have : IntKind.i64.bits = 64 := rfl; omega)]
  exact_mod_cast rfl
 have hlt : s / 2 ^ p < 4096 := Nat.lt_of_le_of_lt (Nat.div_le_self _ _) hs
 rw [e]
 have := and_nat (s / 2 ^ p) 1 hlt (by omega)
 rw [Nat.and_one_is_mod] at this
 exact this
end Go.Proofs.Ytoebllbpoinifaa.Com
namespace Go.Proofs.Ytoebllbpoinifaa.Com
set_option linter.unusedSimpArgs false
set_option linter.unusedVariables false
set_option linter.unusedSectionVars false
open Go.RowKit Go.Proofs.YtoebllbpoinifaaW.PrintWords Go.Proofs.YtoebllbpoinifaaW.PrintMore Go.Proofs.Ytoebllbpoinifaa.Q
theorem prod_bd {b y : Int} (hb : 1 ≤ b ∧ b ≤ 1000) (hy : -1000001 ≤ y ∧ y ≤ 1000001) : -1000001000 ≤ b * y ∧ b * y ≤ 1000001000 := by
 have h1 := Int.mul_le_mul_of_nonneg_left hy.2 (show 0 ≤ b by omega)
 have h2 := Int.mul_le_mul_of_nonneg_left hy.1 (show 0 ≤ b by omega)
 omega
theorem roundsTo_bd {b : Int} (l : List Int) : ∀ v : List Int, (∀ x ∈ v, -1000000 ≤ x ∧ x ≤ 1000000) → roundsTo b l v = true → ∀ y ∈ l, -1000001 ≤ y ∧ y ≤ 1000001 := by
 induction l with
 | nil => intro v _ _ y hy; simp at hy
 | cons z r ih =>
  intro v hv h y hy
  cases v with
  | nil => simp [roundsTo] at h
  | cons x t =>
   simp only [roundsTo, Bool.and_eq_true, Bool.or_eq_true, decide_eq_true_eq] at h
   have hx := hv x List.mem_cons_self
   rcases List.mem_cons.1 hy with rfl | hy
   ·have f1 := fv_bd b x hx
    have f2 := fv_bd b (-x) (by omega)
    rcases h.1 with e | e
    ·omega
    ·unfold cv at e; omega
   ·exact ih t (fun q hq => hv q (List.mem_cons_of_mem _ hq)) h.2 y hy
def errs (b : Int) (l v : List Int) : List Int := List.zipWith (fun y x => b * y - x) l v
section
variable {b : Int} {v l : List Int} (hv : valsOk b v = true) (hl : l.length = v.length) (hy : ∀ y ∈ l, -1000001 ≤ y ∧ y ≤ 1000001)
include hv hl hy
theorem implErrs_ev : Ev (fun k => impl_Values_errors.f k b v l) (errs b l v) := by
 obtain ⟨h1, h2, h3⟩ := valsOk_is hv
 unfold impl_Values_errors.f
 have gen := ev_fold l (fun m (s : List Int) k => impl_Values_errors.l0 k s l (l.length : Int) (m : Int) b v) (fun d s => s ++ errs b d (v.drop (v.length - d.length))) (fun m s => s.length = m) ?_ ?_ 0 [] (by omega) rfl
 ·simpa [hl] using gen
 ·intro s _
  refine Ev.step (fun k => by rw [impl_Values_errors.l0]) ?_
  simp only [if_neg (show ¬ (l.length : Int) < (l.length : Int) by omega), errs, List.zipWith_nil_left, List.append_nil]
  exact Ev.now _
 ·intro m hm s hs ih
  have hm' : m < v.length := by omega
  have hd : (l.drop (m + 1)).length = l.length - (m + 1) := List.length_drop ..
  have t1 : v.length - (l[m] :: l.drop (m + 1)).length = m := by rw [List.length_cons, hd]; omega
  have t2 : v.length - (l.drop (m + 1)).length = m + 1 := by rw [hd]; omega
  rw [t1, List.drop_eq_getElem_cons hm']
  rw [t2] at ih
  have hx := h3 _ (List.getElem_mem hm')
  have p := prod_bd h1 (hy _ (List.getElem_mem hm))
  refine Ev.step (fun k => by rw [impl_Values_errors.l0]) ?_
  simp only [if_pos (show (m : Int) < (l.length : Int) by omega), if_pos (show 0 ≤ (m : Int) by omega), if_pos (show (m : Int) < (v.length : Int) by omega), rd_nat hm, rd_nat hm', w_succ (m := m) (by omega), if_pos (show s.length < 17592186044416 by omega)]
  rw [w64 (x := b * l[m]) (by omega) (by omega), w64 (x := b * l[m] - v[m]) (by omega) (by omega)]
  unfold errs
  rw [List.zipWith_cons_cons, List.append_cons s (b * l[m] - v[m]) (List.zipWith (fun y x => b * y - x) (l.drop (m + 1)) (v.drop (m + 1)))]
  exact ih (s ++ [b * l[m] - v[m]]) (by simp [hs])
def eSum (x : Int) : Nat → List Int → Int
 | _, [] => 0
 | m, e :: r => (bitAt x.toNat m : Int) * e + eSum x (m + 1) r
end
end Go.Proofs.Ytoebllbpoinifaa.Com
namespace Go.Proofs.Ytoebllbpoinifaa.Com
set_option linter.unusedSimpArgs false
set_option linter.unusedVariables false
set_option linter.unusedSectionVars false
open Go.RowKit Go.Proofs.YtoebllbpoinifaaW.PrintWords Go.Proofs.YtoebllbpoinifaaW.PrintMore Go.Proofs.Ytoebllbpoinifaa.Q
theorem errs_len {b : Int} {l v : List Int} (hl : l.length = v.length) : (errs b l v).length = l.length := by unfold errs; rw [List.length_zipWith]; omega
section
variable {b p : Int} {v l sets : List Int} (hv : valsOk b v = true) (hl : l.length = v.length) (hy : ∀ y ∈ l, -1000001 ≤ y ∧ y ≤ 1000001) (h12 : l.length ≤ 12) (hn : sets.length ≤ 12) (hs : ∀ x ∈ sets, 0 ≤ x ∧ x.toNat < 4096)
include hv hl hy h12 hn hs
theorem errs_bd : ∀ e ∈ errs b l v, -2000000000 ≤ e ∧ e ≤ 2000000000 := by
 obtain ⟨h1, h2, h3⟩ := valsOk_is hv
 intro e he
 unfold errs at he
 obtain ⟨i, hi, rfl⟩ := List.getElem_of_mem he
 rw [List.length_zipWith] at hi
 rw [List.getElem_zipWith]
 have p := prod_bd h1 (hy l[i] (List.getElem_mem (by omega)))
 have x := h3 v[i] (List.getElem_mem (by omega))
 omega
theorem implInner_ev (out : List Int) (c : Nat) (hc : c < sets.length) (R : List Int)
  (ih : Ev (fun k => impl_System_setErrors.l0 k (out ++ [eSum sets[c] 0 (errs b l v)]) (errs b l v) sets (sets.length : Int) ((c + 1 : Nat) : Int)) R) (ho : out.length ≤ 12) :
  Ev (fun k => impl_System_setErrors.l1 k out (errs b l v) sets[c] 0 sets (sets.length : Int) (c : Int) (errs b l v) ((errs b l v).length : Int) 0) R := by
 have eb := errs_bd hv hl hy h12 hn hs
 have el := errs_len (b := b) hl
 obtain ⟨x0, x1⟩ := hs _ (List.getElem_mem hc)
 generalize sets[c] = x at x0 x1 ih ⊢
 generalize errs b l v = es at eb el ih ⊢
 obtain ⟨n, rfl⟩ := Int.eq_ofNat_of_zero_le x0
 rw [Int.toNat_natCast] at x1
 refine ev_fold es (fun m (s : Int) k => impl_System_setErrors.l1 k out es (n : Int) s sets (sets.length : Int) (c : Int) es (es.length : Int) (m : Int)) (fun d s => R) (fun m s => s + eSum (n : Int) m (es.drop m) = eSum (n : Int) 0 es ∧ -(2000000000 * (m : Int)) ≤ s ∧ s ≤ 2000000000 * (m : Int)) ?_ ?_ 0 0 (by omega) ⟨by simp, by omega, by omega⟩
 ·rintro s ⟨e, _, _⟩
  rw [List.drop_length] at e
  simp only [eSum, Int.add_zero] at e
  refine Ev.step (fun k => by rw [impl_System_setErrors.l1]) ?_
  simp only [if_neg (show ¬ (es.length : Int) < (es.length : Int) by omega), if_pos (show out.length < 17592186044416 by omega), w_succ (m := c) (by omega), e]
  exact ih
 ·rintro m hm s ⟨e, s0, s1⟩ k
  have hz := eb _ (List.getElem_mem hm)
  have hb := bitAt_le n m
  rw [List.drop_eq_getElem_cons hm, eSum, Int.toNat_natCast] at e
  refine Ev.step (fun k => by rw [impl_System_setErrors.l1]) ?_
  simp only [if_pos (show (m : Int) < (es.length : Int) by omega), if_pos (show 0 ≤ (m : Int) by omega), rd_nat hm, w_succ (m := m) (by omega), bit_tells n m x1 (by omega)]
  generalize es[m] = z at hz e ⊢
  rcases (show bitAt n m = 0 ∨ bitAt n m = 1 by omega) with q | q
  ·rw [q] at e ⊢
   simp only [Int.natCast_zero, Int.zero_mul] at e ⊢
   rw [w64 (x := 0) (by omega) (by omega), w64 (x := s + 0) (by omega) (by omega)]
   exact k _ ⟨by omega, by omega, by omega⟩
  ·rw [q] at e ⊢
   simp only [Int.natCast_one, Int.one_mul] at e ⊢
   rw [w64 (x := z) (by omega) (by omega), w64 (x := s + z) (by omega) (by omega)]
   exact k _ ⟨by omega, by omega, by omega⟩
theorem implSetErrs_ev : Ev (fun k => impl_System_setErrors.f k p sets b v l) (sets.map fun x => eSum x 0 (errs b l v)) := by
 unfold impl_System_setErrors.f
 refine Ev.bind (implErrs_ev hv hl hy) ?_
 have gen := ev_fold sets (fun m (s : List Int) k => impl_System_setErrors.l0 k s (errs b l v) sets (sets.length : Int) (m : Int)) (fun d s => s ++ d.map fun x => eSum x 0 (errs b l v)) (fun m s => s.length = m) ?_ ?_ 0 [] (by omega) rfl
 ·simpa using gen
 ·intro s _
  refine Ev.step (fun k => by rw [impl_System_setErrors.l0]) ?_
  simp only [if_neg (show ¬ (sets.length : Int) < (sets.length : Int) by omega), List.map_nil, List.append_nil]
  exact Ev.now _
 ·intro m hm s hs' ih
  refine Ev.step (fun k => by rw [impl_System_setErrors.l0]) ?_
  simp only [if_pos (show (m : Int) < (sets.length : Int) by omega), if_pos (show 0 ≤ (m : Int) by omega), rd_nat hm]
  rw [List.map_cons, List.append_cons s (eSum sets[m] 0 (errs b l v)) ((sets.drop (m + 1)).map fun x => eSum x 0 (errs b l v))]
  exact implInner_ev hv hl hy h12 hn hs s m hm _ (ih (s ++ [eSum sets[m] 0 (errs b l v)]) (by simp [hs'])) (by omega)
theorem specInner_ev (out : List Int) (c : Nat) (hc : c < sets.length) (R : List Int)
  (ih : Ev (fun k => spec_l10Errors.l0 k l (out ++ [eSum sets[c] 0 (errs b l v)]) ((c + 1 : Nat) : Int) p sets b v) R) (ho : out.length ≤ 12) :
  Ev (fun k => spec_l10Errors.l1 k l out (c : Int) 0 0 p sets b v) R := by
 obtain ⟨h1, h2, h3⟩ := valsOk_is hv
 have el := errs_len (b := b) hl
 have hset := rd_nat hc
 obtain ⟨x0, x1⟩ := hs _ (List.getElem_mem hc)
 generalize sets[c] = x at x0 x1 ih hset
 obtain ⟨n, rfl⟩ := Int.eq_ofNat_of_zero_le x0
 rw [Int.toNat_natCast] at x1
 refine ev_count l.length (fun m (s : Int) k => spec_l10Errors.l1 k l out (c : Int) s (m : Int) p sets b v) R (fun m s => s + eSum (n : Int) m ((errs b l v).drop m) = eSum (n : Int) 0 (errs b l v) ∧ -(2000000000 * (m : Int)) ≤ s ∧ s ≤ 2000000000 * (m : Int)) ?_ ?_ 0 0 (by omega) ⟨by simp, by omega, by omega⟩
 ·rintro s ⟨e, _, _⟩
  rw [← el, List.drop_length] at e
  simp only [eSum, Int.add_zero] at e
  refine Ev.step (fun k => by rw [spec_l10Errors.l1]) ?_
  simp only [if_neg (show ¬ (l.length : Int) < (l.length : Int) by omega), if_pos (show out.length < 17592186044416 by omega), w_succ (m := c) (by omega), e]
  exact ih
 ·rintro m s hm ⟨e, s0, s1⟩
  have hm' : m < v.length := by omega
  have hme : m < (errs b l v).length := by omega
  have pb := prod_bd h1 (hy l[m] (List.getElem_mem hm))
  have xb := h3 v[m] (List.getElem_mem hm')
  have hb := bitAt_le n m
  have ee : (errs b l v)[m] = b * l[m] - v[m] := by simp [errs]
  rw [List.drop_eq_getElem_cons hme, eSum, Int.toNat_natCast, ee] at e
  rcases (show bitAt n m = 0 ∨ bitAt n m = 1 by omega) with q | q
  ·rw [q] at e
   simp only [Int.natCast_zero, Int.zero_mul] at e
   refine ⟨s, ⟨by omega, by omega, by omega⟩, fun k => ?_⟩
   refine Ev.step (fun k => by rw [spec_l10Errors.l1]) ?_
   simp only [if_pos (show (m : Int) < (l.length : Int) by omega), if_pos (show 0 ≤ (m : Int) by omega), if_pos (show 0 ≤ (c : Int) by omega), if_pos (show (c : Int) < (sets.length : Int) by omega), uw (m : Int) (show 0 ≤ (m : Int) ∧ (m : Int) ≤ 4096 by omega), hset, bit_tells n m x1 (by omega), q, Int.natCast_zero, if_neg (show ¬ (0 : Int) = 1 by omega), w_succ (m := m) (by omega)]
   exact k
  ·rw [q] at e
   simp only [Int.natCast_one, Int.one_mul] at e
   refine ⟨s + (b * l[m] - v[m]), ⟨by omega, by omega, by omega⟩, fun k => ?_⟩
   refine Ev.step (fun k => by rw [spec_l10Errors.l1]) ?_
   simp only [if_pos (show (m : Int) < (l.length : Int) by omega), if_pos (show 0 ≤ (m : Int) by omega), if_pos (show 0 ≤ (c : Int) by omega), if_pos (show (c : Int) < (sets.length : Int) by omega), if_pos (show (m : Int) < (v.length : Int) by omega), uw (m : Int) (show 0 ≤ (m : Int) ∧ (m : Int) ≤ 4096 by omega), hset, bit_tells n m x1 (by omega), q, Int.natCast_one, if_true, w_succ (m := m) (by omega), rd_nat hm, rd_nat hm']
   rw [w64 (x := b * l[m]) (by omega) (by omega), w64 (x := b * l[m] - v[m]) (by omega) (by omega), w64 (x := s + (b * l[m] - v[m])) (by omega) (by omega)]
   exact k
theorem specSetErrs_ev : Ev (fun k => spec_l10Errors.f k p sets b v l) (sets.map fun x => eSum x 0 (errs b l v)) := by
 unfold spec_l10Errors.f
 have gen := ev_fold sets (fun m (s : List Int) k => spec_l10Errors.l0 k l s (m : Int) p sets b v) (fun d s => s ++ d.map fun x => eSum x 0 (errs b l v)) (fun m s => s.length = m) ?_ ?_ 0 [] (by omega) rfl
 ·simpa using gen
 ·intro s _
  refine Ev.step (fun k => by rw [spec_l10Errors.l0]) ?_
  simp only [if_neg (show ¬ (sets.length : Int) < (sets.length : Int) by omega), List.map_nil, List.append_nil]
  exact Ev.now _
 ·intro m hm s hs' ih
  refine Ev.step (fun k => by rw [spec_l10Errors.l0]) ?_
  simp only [if_pos (show (m : Int) < (sets.length : Int) by omega)]
  rw [List.map_cons, List.append_cons s (eSum sets[m] 0 (errs b l v)) ((sets.drop (m + 1)).map fun x => eSum x 0 (errs b l v))]
  exact specInner_ev hv hl hy h12 hn hs s m hm _ (ih (s ++ [eSum sets[m] 0 (errs b l v)]) (by simp [hs'])) (by omega)
end
end Go.Proofs.Ytoebllbpoinifaa.Com
namespace Go.Proofs.Ytoebllbpoinifaa.Com
set_option linter.unusedSimpArgs false
set_option linter.unusedVariables false
open Go.RowKit Go.Proofs.YtoebllbpoinifaaW.PrintWords Go.Proofs.Ytoebllbpoinifaa.Q
def markL (n : Nat) (a : Int) : List Int := (List.range n).map fun (i : Nat) => a + (i : Int)
theorem markL_len (n : Nat) (a : Int) : (markL n a).length = n := by simp [markL]
theorem markL_at (n : Nat) (a : Int) (i : Nat) (h : i < (markL n a).length) : (markL n a)[i] = a + i := by simp [markL]
theorem markL_succ (n : Nat) (a : Int) : markL (n + 1) a = markL n a ++ [a + n] := by
 unfold markL
 rw [List.range_succ, List.map_append]
 rfl
theorem mark_set (xs : List Int) (m : Nat) (a : Int) (h : m < xs.length) : (markL m a ++ xs.drop m).set m (a + m) = markL (m + 1) a ++ xs.drop (m + 1) := by
 rw [List.set_append_right _ _ (by rw [markL_len]; omega), markL_len, Nat.sub_self, List.drop_eq_getElem_cons h, List.set_cons_zero, markL_succ, List.append_assoc]
 rfl
theorem markInt64S_ev (xs : List Int) (a : Int) (hx : xs.length ≤ 1048576) (ha : 0 ≤ a ∧ a ≤ 1000000000000) : Ev (fun k => laws_markInt64S.f k xs a) (a + xs.length, markL xs.length a) := by
 unfold laws_markInt64S.f
 have gen := ev_count xs.length (fun m (s : List Int × Int) k => laws_markInt64S.l0 k s.1 s.2 (m : Int)) (a + (xs.length : Int), markL xs.length a) (fun m s => s = (markL m a ++ xs.drop m, a + m)) ?_ ?_ 0 (xs, a) (by omega) (by simp [markL])
 ·exact gen
 ·rintro s rfl
  refine Ev.step (fun k => by rw [laws_markInt64S.l0]) ?_
  have hl : (markL xs.length a ++ xs.drop xs.length).length = xs.length := by rw [List.length_append, markL_len, List.length_drop]; omega
  rw [List.drop_length, List.append_nil] at hl ⊢
  simp only [hl, if_neg (show ¬ (xs.length : Int) < (xs.length : Int) by omega)]
  exact Ev.now _
 ·rintro m s hm rfl
  refine ⟨_, rfl, fun ih => ?_⟩
  refine Ev.step (fun k => by rw [laws_markInt64S.l0]) ?_
  have hl : (markL m a ++ xs.drop m).length = xs.length := by rw [List.length_append, markL_len, List.length_drop]; omega
  simp only [hl, if_pos (show (m : Int) < (xs.length : Int) by omega), if_pos (show 0 ≤ (m : Int) by omega), Int.toNat_natCast, mark_set xs m a hm, w_succ (m := m) (by omega)]
  rw [w64 (by omega) (by omega)]
  simp only at ih
  rwa [show a + ((m + 1 : Nat) : Int) = a + (m : Int) + 1 by omega] at ih
theorem heldInt64S_ev (n : Nat) (a : Int) (hx : n ≤ 1048576) (ha : 0 ≤ a ∧ a ≤ 1000000000000) : Ev (fun k => laws_heldInt64S.f k (markL n a) a) (a + n) := by
 unfold laws_heldInt64S.f
 have gen := ev_count n (fun m (s : Int) k => laws_heldInt64S.l0 k (markL n a) s (m : Int)) (a + (n : Int)) (fun m s => s = a + m) ?_ ?_ 0 a (by omega) (by simp)
 ·exact gen
 ·rintro s rfl
  refine Ev.step (fun k => by rw [laws_heldInt64S.l0]) ?_
  simp only [markL_len, if_neg (show ¬ (n : Int) < (n : Int) by omega)]
  exact Ev.now _
 ·rintro m s hm rfl
  refine ⟨_, rfl, fun ih => ?_⟩
  refine Ev.step (fun k => by rw [laws_heldInt64S.l0]) ?_
  have h : m < (markL n a).length := by rw [markL_len]; exact hm
  simp only [if_pos (show (m : Int) < ((markL n a).length : Int) by rw [markL_len]; omega), if_pos (show 0 ≤ (m : Int) by omega), rd_nat h, markL_at, if_true, w_succ (m := m) (by omega)]
  rw [w64 (by omega) (by omega)]
  rwa [show a + ((m + 1 : Nat) : Int) = a + (m : Int) + 1 by omega] at ih
end Go.Proofs.Ytoebllbpoinifaa.Com
namespace Go.Proofs.Ytoebllbpoinifaa.Com
set_option linter.unusedSimpArgs false
set_option linter.unusedVariables false
open Go.RowKit Go.Proofs.YtoebllbpoinifaaW.PrintWords Go.Proofs.Ytoebllbpoinifaa.Q
theorem markSystem_ev (p : Int) (l : List Int) (hx : l.length ≤ 1048576) : Ev (fun k => laws_markSystem.f k p l 1) (1 + l.length, markL l.length 1) := by
 unfold laws_markSystem.f
 exact Ev.bind (markInt64S_ev l 1 hx (by omega)) (Ev.now _)
end Go.Proofs.Ytoebllbpoinifaa.Com
namespace Go.Proofs.Ytoebllbpoinifaa.Com
set_option linter.unusedSimpArgs false
set_option linter.unusedVariables false
open Go.RowKit Go.Proofs.YtoebllbpoinifaaW.PrintWords Go.Proofs.Ytoebllbpoinifaa.Q
theorem set_take (xs : List Int) (m : Nat) (h : m < xs.length) : (xs.take m ++ List.replicate (xs.length - m) 0).set m xs[m] = xs.take (m + 1) ++ List.replicate (xs.length - (m + 1)) 0 := by
 have hl : (xs.take m).length = m := by rw [List.length_take]; omega
 rw [List.set_append_right _ _ (by omega), hl, Nat.sub_self]
 obtain ⟨q, hq⟩ : ∃ q, xs.length - m = q + 1 := ⟨xs.length - m - 1, by omega⟩
 rw [hq, List.replicate_succ, List.set_cons_zero, show xs.length - (m + 1) = q by omega, List.take_succ_eq_append_getElem h, List.append_assoc]
 rfl
theorem toInt64S_ev (xs : List Int) (hx : xs.length ≤ 1048576) : Ev (fun k => laws_toInt64S.f k xs) xs := by
 unfold laws_toInt64S.f
 simp only [if_pos (show 0 ≤ (xs.length : Int) by omega), if_pos (show ((xs.length : Int)).toNat ≤ 35184372088832 by omega)]
 have := ev_count xs.length (fun m s k => laws_toInt64S.l0 k xs s (m : Int)) xs (fun m s => s = xs.take m ++ List.replicate (xs.length - m) 0) (fun s hs => ?_) (fun m s hm hs => ⟨xs.take (m + 1) ++ List.replicate (xs.length - (m + 1)) 0, rfl, fun ih => ?_⟩) 0 (List.replicate xs.length 0) (by omega) (by simp)
 ·simpa using this
 ·refine Ev.step (fun k => by rw [laws_toInt64S.l0]) ?_
  simp only [if_neg (show ¬ (xs.length : Int) < (xs.length : Int) by omega)]
  subst hs
  simp
  exact Ev.now _
 ·refine Ev.step (fun k => by rw [laws_toInt64S.l0]) ?_
  subst hs
  have hl : (xs.take m ++ List.replicate (xs.length - m) 0).length = xs.length := by simp; omega
  simp only [if_pos (show (m : Int) < (xs.length : Int) by omega), if_pos (show 0 ≤ (m : Int) by omega), hl, rd_nat hm, Int.toNat_natCast, set_take xs m hm, w_succ (m := m) (by omega)]
  exact ih
theorem eqInt64S_ev (xs ys : List Int) (hx : xs.length ≤ 1048576) : Ev (fun k => laws_eqInt64S.f k xs ys) (decide (xs = ys)) := by
 unfold laws_eqInt64S.f
 by_cases hl : (xs.length : Int) = (ys.length : Int)
 ·simp only [if_pos hl]
  have key : ∀ m, m ≤ xs.length → Ev (fun k => laws_eqInt64S.l0 k xs ys (m : Int)) (decide (xs.drop m = ys.drop m)) := by
   have gen := ev_list xs (fun m k => laws_eqInt64S.l0 k xs ys (m : Int)) (fun l => decide (l = ys.drop (xs.length - l.length))) ?_ ?_
   ·intro m hm
    have := gen m hm
    rwa [List.length_drop, show xs.length - (xs.length - m) = m by omega] at this
   ·refine Ev.step (fun k => by rw [laws_eqInt64S.l0]) ?_
    simp only [if_neg (show ¬ (xs.length : Int) < (xs.length : Int) by omega)]
    have : ys.drop (xs.length - ([] : List Int).length) = [] := by simp; omega
    rw [this]
    exact Ev.now _
   ·intro m hm ih
    refine Ev.step (fun k => by rw [laws_eqInt64S.l0]) ?_
    have hy : m < ys.length := by omega
    simp only [if_pos (show (m : Int) < (xs.length : Int) by omega), if_pos (show 0 ≤ (m : Int) by omega), if_pos (show (m : Int) < (ys.length : Int) by omega), rd_nat hm, rd_nat hy, w_succ (m := m) (by omega)]
    rw [List.length_drop, show xs.length - (xs.length - (m + 1)) = m + 1 by omega] at ih
    have e : xs.length - (xs[m] :: xs.drop (m + 1)).length = m := by simp; omega
    rw [e, List.drop_eq_getElem_cons hy]
    by_cases c : xs[m] = ys[m]
    ·simp only [if_pos c]
     rw [show decide (xs[m] :: xs.drop (m + 1) = ys[m] :: ys.drop (m + 1)) = decide (xs.drop (m + 1) = ys.drop (m + 1)) from decide_eq_decide.2 (by rw [c]; exact ⟨fun h => (List.cons.inj h).2, fun h => by rw [h]⟩)]
     exact ih
    ·simp only [if_neg c]
     rw [decide_eq_false (show ¬ xs[m] :: xs.drop (m + 1) = ys[m] :: ys.drop (m + 1) from fun h => c (List.cons.inj h).1)]
     exact Ev.now _
  have := key 0 (by omega)
  simpa using this
 ·simp only [if_neg hl]
  have : xs ≠ ys := fun e => hl (by rw [e])
  rw [decide_eq_false this]
  exact Ev.now _
theorem sz_tells (xs : List Int) (a : Int) (hx : xs.length ≤ maxLen) (ha : -1 ≤ a ∧ a ≤ 1048576) : laws_szInt64S.f xs a = some (if a - xs.length < 0 then -1 else a - xs.length) := by
 unfold laws_szInt64S.f
 unfold maxLen at hx
 rw [w64 (by omega) (by omega)]
 split <;> rfl
end Go.Proofs.Ytoebllbpoinifaa.Com
namespace Go.Proofs.Ytoebllbpoinifaa.Com
set_option linter.unusedSimpArgs false
set_option linter.unusedVariables false
open Go.RowKit Go.Proofs.YtoebllbpoinifaaW.PrintWords Go.Proofs.YtoebllbpoinifaaW.PrintMore Go.Proofs.Ytoebllbpoinifaa.Q
def full (p : Int) : Int := wrap64 (shl .i64 1 p - 1)
theorem full_nat (p : Nat) (h : p ≤ 12) : full (p : Int) = ((2 ^ p - 1 : Nat) : Int) := by
 have : ∀ q : Fin 13, full (q.val : Int) = ((2 ^ q.val - 1 : Nat) : Int) := by decide +kernel
 exact this ⟨p, by omega⟩
def validSys (p : Int) (l : List Int) : Bool := decide (0 ≤ p ∧ p ≤ 12) && decide ((l.length : Int) ≤ 12) && l.all fun x => decide (0 ≤ x ∧ x ≤ full p)
theorem validSys_of {p : Int} {l : List Int} (h : validSys p l = true) : (∃ q : Nat, p = (q : Int) ∧ q ≤ 12) ∧ l.length ≤ 12 ∧ ∀ x ∈ l, 0 ≤ x ∧ x ≤ full p := by
 unfold validSys at h
 simp only [Bool.and_eq_true, decide_eq_true_eq, List.all_eq_true] at h
 exact ⟨⟨p.toNat, by omega, by omega⟩, by omega, h.2⟩
theorem set_tells (p x : Int) (hp : 0 ≤ p ∧ p ≤ 12) : spec_l10Set.f p x = some (decide (0 ≤ x ∧ x ≤ full p)) := by
 unfold spec_l10Set.f full
 rw [uw p (by omega), if_pos hp.1, in_tells]
 rfl
theorem specIs_ev (p : Int) (l : List Int) (hx : l.length ≤ 1048576) : Ev (fun k => spec_l10Is.f k p l) (validSys p l) := by
 unfold spec_l10Is.f validSys
 simp only [in_tells, Option.bind_some, decide_eq_true_eq]
 have jf : Ev (fun k => spec_l10Is.j0 k true p l) false := Ev.step (fun k => by rw [spec_l10Is.j0]) (by simp only [if_true]; exact Ev.now _)
 by_cases h1 : 0 ≤ p ∧ p ≤ 12
 ·simp only [if_pos h1, decide_eq_true h1, Bool.true_and]
  by_cases h2 : (l.length : Int) ≤ 12
  ·rw [decide_eq_false (show ¬ (l.length : Int) > 12 by omega), decide_eq_true h2, Bool.true_and]
   refine Ev.step (fun k => by rw [spec_l10Is.j0]) ?_
   simp only [Bool.false_eq_true, if_false]
   have gen := ev_list l (fun m k => spec_l10Is.l0 k (m : Int) p l) (fun r => r.all fun x => decide (0 ≤ x ∧ x ≤ full p)) ?_ ?_ 0 (by omega)
   ·exact gen
   ·refine Ev.step (fun k => by rw [spec_l10Is.l0]) ?_
    simp only [if_neg (show ¬ (l.length : Int) < (l.length : Int) by omega)]
    exact Ev.now _
   ·intro m hm ih
    refine Ev.step (fun k => by rw [spec_l10Is.l0]) ?_
    simp only [if_pos (show (m : Int) < (l.length : Int) by omega), if_pos (show 0 ≤ (m : Int) by omega), rd_nat hm, set_tells p _ h1, Option.bind_some, w_succ (m := m) (by omega), decide_eq_true_eq]
    rw [List.all_cons]
    by_cases c : 0 ≤ l[m] ∧ l[m] ≤ full p
    ·simp only [if_pos c, decide_eq_true c, Bool.true_and]
     exact ih
    ·simp only [if_neg c, decide_eq_false c, Bool.false_and]
     exact Ev.now _
  ·rw [decide_eq_true (show (l.length : Int) > 12 by omega), decide_eq_false h2, Bool.false_and]
   exact jf
 ·simp only [if_neg h1, decide_eq_false h1, Bool.false_and]
  exact jf
theorem implValidSys_tells (p : Int) (l : List Int) : impl_ValidSystem.f p l = some (validSys p l) := by
 unfold impl_ValidSystem.f validSys impl_areWithin.f full
 rw [within_tells]
 simp only [Option.bind_some, decide_eq_true_eq]
 by_cases h1 : 0 ≤ p ∧ p ≤ 12
 ·rw [if_pos h1, decide_eq_true h1, if_pos h1.1]
  by_cases h2 : (l.length : Int) ≤ 12
  ·rw [if_pos h2, decide_eq_true h2]
   rfl
  ·rw [if_neg h2, decide_eq_false h2]
   rfl
 ·rw [if_neg h1, decide_eq_false h1]
  rfl
theorem toSystem_ev (p : Int) (l : List Int) (hx : l.length ≤ 1048576) : Ev (fun k => laws_toSystem.f k p l) (p, l) := by
 unfold laws_toSystem.f
 exact Ev.bind (toInt64S_ev l hx) (Ev.now _)
theorem eqSystem_ev (p : Int) (l : List Int) (hx : l.length ≤ 1048576) : Ev (fun k => laws_eqSystem.f k p l p l) true := by
 unfold laws_eqSystem.f
 simp only [if_true]
 refine Ev.bind (eqInt64S_ev l l hx) ?_
 simp
 exact Ev.now _
theorem szSystem_tells (p : Int) (l : List Int) (hx : l.length ≤ maxLen) : (laws_szSystem.f p l 1048576 = some (-1) ∧ ¬ l.length ≤ 1048576) ∨ (∃ t, laws_szSystem.f p l 1048576 = some t ∧ 0 ≤ t ∧ l.length ≤ 1048576) := by
 unfold laws_szSystem.f
 rw [sz_tells l 1048576 hx (by omega), Option.bind_some]
 by_cases h : (1048576 : Int) - l.length < 0
 ·left
  rw [if_pos h]
  exact ⟨rfl, by omega⟩
 ·right
  rw [if_neg h, if_neg h]
  exact ⟨_, rfl, by omega, by omega⟩
end Go.Proofs.Ytoebllbpoinifaa.Com
namespace Go.Proofs.Ytoebllbpoinifaa.Pure
set_option linter.unusedSimpArgs false
set_option linter.unusedVariables false
set_option linter.unusedSectionVars false
open Go.RowKit Go.Proofs.Ytoebllbpoinifaa.Q Go.Proofs.YtoebllbpoinifaaW.PrintWords Go.Proofs.YtoebllbpoinifaaW.PrintLast Go.Proofs.Ytoebllbpoinifaa.Com
theorem full_lt2 {p : Nat} (h : p ≤ 12) {x : Int} (hx : 0 ≤ x ∧ x ≤ full p) : x.toNat < 2 ^ p ∧ x.toNat < 4096 := by
 rw [full_nat p h] at hx
 have := pow_bd h
 omega
theorem setErrs_both (p b : Int) (sets v l : List Int) (hx : sets.length ≤ 1048576) (hx' : v.length ≤ 1048576) (hl : l.length ≤ 1048576) :
  ∃ r : List Int × Bool, Ev (fun k => spec_SetErrors.f k p sets b v l) r ∧ Ev (fun k => impl_SetErrors.f k p sets b v l) r ∧ r.1.length ≤ 12 := by
 unfold spec_SetErrors.f impl_SetErrors.f spec_l10Both.f impl_fits.f impl_size_int64_106.f
 by_cases h1 : validSys p sets = true
 ·by_cases h2 : valsOk b v = true
  ·by_cases h3 : (v.length : Int) = p
   ·have S : Ev (fun k => (spec_l10Is.f k p sets).bind fun t523 => if t523 = true then (spec_l01Is.f k b v).bind fun t524 => if t524 = true then some ((v.length : Int) == p) else some false else some false) true := by
     refine Ev.bind (specIs_ev p sets hx) ?_
     simp only [h1, if_true]
     refine Ev.bind (specVals_ev b v hx') ?_
     simp only [h2, if_true, beq_iff_eq.mpr h3]
     exact Ev.now _
    obtain ⟨⟨q, rfl, hq⟩, hn, hs⟩ := validSys_of h1
    have hs' : ∀ x ∈ sets, 0 ≤ x ∧ x.toNat < 4096 := fun x hx => ⟨(hs x hx).1, (full_lt2 hq (hs x hx)).2⟩
    obtain ⟨b1, b2, b3⟩ := valsOk_is h2
    have fits : (some ((q : Int) == (v.length : Int)) : Option Bool) = some true := by rw [beq_iff_eq.mpr h3.symm]
    by_cases h4 : l.length = v.length
    ·have R1 : Ev (fun k => spec_l01Rounds.f k b v l) (roundsTo b l v) := by
      unfold spec_l01Rounds.f
      simp only [if_pos (show (l.length : Int) = (v.length : Int) by omega)]
      exact specRounds_ev h2 h4
     have R2 : Ev (fun k => impl_IsRounding.f k b v l) (roundsTo b l v) := by
      unfold impl_IsRounding.f
      refine ev_bind' (implVals_tells b v) ?_
      rw [show ((l.length : Int) != (v.length : Int)) = false from by rw [h4]; exact bne_self_eq_false _]
      simp only [h2, if_true]
      refine Ev.step (fun k => by rw [impl_IsRounding.j0]) ?_
      simp only [Bool.false_eq_true, if_false]
      exact Ev.bind (floors_ev h2) (Ev.bind (ceilings_ev h2) (implRounds_ev h2 h4))
     by_cases h5 : roundsTo b l v = true
     ·have hy := roundsTo_bd l v b3 h5
      refine ⟨(sets.map fun x => eSum x 0 (errs b l v), true), Ev.bind S ?_, ev_bind' (a := true) (by rw [implValidSys_tells, h1, Option.bind_some, if_pos rfl, implVals_tells, h2, Option.bind_some, if_pos rfl, Option.bind_some]; exact fits) ?_, by simp only [List.length_map]; omega⟩
      ·simp only [if_true]
       refine Ev.bind R1 ?_
       simp only [h5, if_true]
       exact Ev.bind (specSetErrs_ev h2 h4 hy (by omega) hn hs') (Ev.now _)
      ·simp only [if_true]
       refine Ev.bind R2 ?_
       simp only [h5, if_true]
       exact Ev.bind (implSetErrs_ev h2 h4 hy (by omega) hn hs') (Ev.now _)
     ·refine ⟨([], false), Ev.bind S ?_, ev_bind' (a := true) (by rw [implValidSys_tells, h1, Option.bind_some, if_pos rfl, implVals_tells, h2, Option.bind_some, if_pos rfl, Option.bind_some]; exact fits) ?_, by simp⟩
      ·simp only [if_true]
       refine Ev.bind R1 ?_
       simp only [if_neg h5]
       exact Ev.now _
      ·simp only [if_true]
       refine Ev.bind R2 ?_
       simp only [if_neg h5]
       exact Ev.now _
    ·refine ⟨([], false), Ev.bind S ?_, ev_bind' (a := true) (by rw [implValidSys_tells, h1, Option.bind_some, if_pos rfl, implVals_tells, h2, Option.bind_some, if_pos rfl, Option.bind_some]; exact fits) ?_, by simp⟩
     ·simp only [if_true]
      refine Ev.bind (a := false) ?_ (by simp only [Bool.false_eq_true, if_false]; exact Ev.now _)
      unfold spec_l01Rounds.f
      simp only [if_neg (show ¬ (l.length : Int) = (v.length : Int) by omega)]
      exact Ev.now _
     ·simp only [if_true]
      refine Ev.bind (a := false) ?_ (by simp only [Bool.false_eq_true, if_false]; exact Ev.now _)
      unfold impl_IsRounding.f
      refine ev_bind' (implVals_tells b v) ?_
      rw [show ((l.length : Int) != (v.length : Int)) = true from by simpa using fun h => h4 (by omega)]
      simp only [h2, if_true]
      refine Ev.step (fun k => by rw [impl_IsRounding.j0]) ?_
      simp only [if_true]
      exact Ev.now _
   ·refine ⟨([], false), Ev.bind (a := false) ?_ (by simp only [Bool.false_eq_true, if_false]; exact Ev.now _), ev_bind' (a := false) (by rw [implValidSys_tells, h1, Option.bind_some, if_pos rfl, implVals_tells, h2, Option.bind_some, if_pos rfl, Option.bind_some, beq_eq_false_iff_ne.mpr (Ne.symm h3)]) (by simp only [Bool.false_eq_true, if_false]; exact Ev.now _), by simp⟩
    refine Ev.bind (specIs_ev p sets hx) ?_
    simp only [h1, if_true]
    refine Ev.bind (specVals_ev b v hx') ?_
    simp only [h2, if_true, beq_eq_false_iff_ne.mpr h3]
    exact Ev.now _
  ·refine ⟨([], false), Ev.bind (a := false) ?_ (by simp only [Bool.false_eq_true, if_false]; exact Ev.now _), ev_bind' (a := false) (by rw [implValidSys_tells, h1, Option.bind_some, if_pos rfl, implVals_tells, Option.bind_some, if_neg h2]) (by simp only [Bool.false_eq_true, if_false]; exact Ev.now _), by simp⟩
   refine Ev.bind (specIs_ev p sets hx) ?_
   simp only [h1, if_true]
   refine Ev.bind (specVals_ev b v hx') ?_
   simp only [if_neg h2]
   exact Ev.now _
 ·refine ⟨([], false), Ev.bind (a := false) ?_ (by simp only [Bool.false_eq_true, if_false]; exact Ev.now _), ev_bind' (a := false) (by rw [implValidSys_tells, Option.bind_some, if_neg h1]) (by simp only [Bool.false_eq_true, if_false]; exact Ev.now _), by simp⟩
  refine Ev.bind (specIs_ev p sets hx) ?_
  simp only [if_neg h1]
  exact Ev.now _
theorem FnExactSetErrors : laws_FnExactSetErrors.Pure := by
 intro p sets b v l _ hs0 _ hv0 hl0
 apply ev_of
 unfold laws_FnExactSetErrors.f
 by_cases hlong : (l.length : Int) > 1048576
 ·simp only [if_pos hlong]
  exact Ev.now _
 simp only [if_neg hlong]
 have hl : l.length ≤ 1048576 := by omega
 rcases szSystem_tells p sets hs0.1 with ⟨e, _⟩ | ⟨t, e, t0, hx⟩
 ·refine ev_bind' e ?_
  simp only [if_pos (show (-1 : Int) < 0 by omega)]
  exact Ev.now _
 have ht : t ≤ 1048576 := by
  unfold laws_szSystem.f at e
  rw [sz_tells sets 1048576 hs0.1 (by omega), Option.bind_some] at e
  by_cases c : (1048576 : Int) - (sets.length : Int) < 0
  ·rw [if_pos c] at e; simp at e; omega
  ·rw [if_neg c, if_neg (by omega)] at e; simp at e; omega
 refine ev_bind' e ?_
 simp only [if_neg (show ¬ t < 0 by omega)]
 unfold laws_szValues.f
 rw [sz_tells v t hv0.1 (by omega), Option.bind_some]
 by_cases c : t - (v.length : Int) < 0
 ·rw [if_pos c]
  simp only [if_pos (show (-1 : Int) < 0 by omega), Option.bind_some]
  exact Ev.now _
 rw [if_neg c]
 have hx' : v.length ≤ 1048576 := by omega
 simp only [if_neg c, Option.bind_some]
 obtain ⟨⟨g, bb⟩, E1, E2, g1⟩ := setErrs_both p b sets v l hx hx' hl
 simp only at g1
 have c1 : g.length ≤ 1048576 := by omega
 have TS := toSystem_ev p sets hx
 have ES := eqSystem_ev p sets hx
 have TV : Ev (fun k => laws_toValues.f k b v) (b, v) := by unfold laws_toValues.f; exact Ev.bind (toInt64S_ev v hx') (Ev.now _)
 have EV : Ev (fun k => laws_eqValues.f k b v b v) true := by
  unfold laws_eqValues.f
  simp only [if_true]
  refine Ev.bind (eqInt64S_ev v v hx') ?_
  simp only [decide_true, if_true]
  exact Ev.now _
 have TL := toInt64S_ev l hl
 have EL := eqInt64S_ev l l hl
 have EG := eqInt64S_ev g g c1
 simp only [decide_true] at EL EG
 have MV : Ev (fun k => laws_markValues.f k b v (1 + (sets.length : Int))) (1 + (sets.length : Int) + (v.length : Int), markL v.length (1 + (sets.length : Int))) := by
  unfold laws_markValues.f
  exact Ev.bind (markInt64S_ev v _ hx' (by omega)) (Ev.now _)
 refine Ev.bind TS (Ev.bind TV (Ev.bind TL (Ev.bind E1 (Ev.bind TS (Ev.bind TV (Ev.bind TL (Ev.bind E2 (Ev.bind EG ?_))))))))
 simp only [if_true]
 refine Ev.bind TS (Ev.bind ES ?_)
 simp only [if_true]
 refine Ev.bind TV (Ev.bind EV ?_)
 simp only [if_true]
 refine Ev.bind TL (Ev.bind EL ?_)
 simp only [if_true]
 refine Ev.bind (markSystem_ev p sets hx) (Ev.bind MV (Ev.bind (markInt64S_ev l _ hl (by omega)) ?_))
 simp only [if_neg (show ¬ 1 + (sets.length : Int) + (v.length : Int) + (l.length : Int) < 0 by omega)]
 refine Ev.bind EG ?_
 simp only [if_true]
 refine Ev.bind (markInt64S_ev g 1 c1 (by omega)) (Ev.bind (heldInt64S_ev g.length 1 c1 (by omega)) ?_)
 simp only [if_neg (show ¬ 1 + (g.length : Int) < 0 by omega), if_true]
 refine Ev.bind TS (Ev.bind TV (Ev.bind TL (Ev.bind E2 (Ev.bind EG ?_))))
 simp only [if_true]
 refine Ev.bind (heldInt64S_ev g.length 1 c1 (by omega)) ?_
 simp only [if_neg (show ¬ 1 + (g.length : Int) < 0 by omega), if_true]
 exact Ev.now _
end Go.Proofs.Ytoebllbpoinifaa.Pure
