/- The statement FnExactSystemRounding, with all that its proof stands on: functions of the program as plain functions, the program's walks, and the plain law. Conditions: none beyond the statement's own. -/
import Derived.ArgAppend
import Derived.Below
import Derived.BigQuiet
import Derived.BigRegion
import Derived.Deep.AppendLies
import Derived.Deep.CutBlock
import Derived.Deep.DeepCutAuto
import Derived.Deep.Draws
import Derived.Deep.LoopGhost
import Derived.Deep.OwnRows
import Derived.Deep.QuietTactic
import Derived.Deep.RegionHeld3
import Derived.Ground.SlgnProg
import Derived.KernelRfl
import Derived.Laws.BitsLemmas
import Derived.Laws.BytesArg
import Derived.Laws.IdiomCopy
import Derived.Laws.MakeOwn
import Derived.Laws.OwnMore
import Derived.Laws.Rows
import Derived.Laws.Slices
import Derived.Lib.AppendStr
import Derived.Lib.ConvBytes
import Derived.Maps.AppendAt
import Derived.OrdersHeld
import Derived.OwnWalk
import Derived.ProofKit
import Derived.RowKit
import Derived.RowKit3
import Derived.Shelf.SlicesE.Clone
import Derived.Shelf.SlicesE.Compact
import Derived.Shelf.SlicesE.Equal
import Derived.Shelf.Strconv.Itoa0
import Derived.Sort.OwnSortedInts
import Derived.Tactics
import Derived.Test.YtdlnhddpgopghaaProg
import Derived.WalkKit
import Derived.WideLaws
import Derived.Test.YtdlnhddpgopghaaBFnExactSystemRounding0
import Derived.Test.YtdlnhddpgopghaaBFnExactSystemRounding1
import Derived.Test.YtdlnhddpgopghaaBFnExactSystemRounding2
import Derived.Test.YtdlnhddpgopghaaBFnExactSystemRounding3
import Derived.Test.YtdlnhddpgopghaaBFnExactSystemRounding5
import Derived.Test.YtdlnhddpgopghaaBFnExactSystemRounding6
import Derived.Test.YtdlnhddpgopghaaBFnExactSystemRounding7
set_option linter.unusedVariables false
set_option linter.unusedSimpArgs false
namespace Go.Proofs.Ytdlnhddpgopghaa.Com
open Go.RowKit Go.Proofs.YtdlnhddpgopghaaW.PrintWords
theorem w64 {x : Int} (h1 : -9223372036854775808 ≤ x) (h2 : x ≤ 9223372036854775807) : wrap64 x = x := by
 unfold wrap64
 omega
theorem ev_of {α : Type} {g : Nat → Option α} {r : α} (h : Ev g r) : ∃ k, g k = some r := h.rounds
theorem ev_bind' {α β : Type} {o : Option α} {f : Nat → α → Option β} {a : α} {r : β} (h : o = some a) (k : Ev (fun n => f n a) r) : Ev (fun n => o.bind (f n)) r := by
 subst h
 exact k
end Go.Proofs.Ytdlnhddpgopghaa.Com
namespace Go.Proofs.Ytdlnhddpgopghaa.Com
set_option linter.unusedSimpArgs false
set_option linter.unusedVariables false
open Go.RowKit Go.Proofs.YtdlnhddpgopghaaW.PrintWords
theorem ev_fold {α σ ρ : Type} (xs : List α) (g : Nat → σ → Nat → Option ρ) (F : List α → σ → ρ) (Inv : Nat → σ → Prop)
  (h0 : ∀ s, Inv xs.length s → Ev (g xs.length s) (F [] s))
  (hs : ∀ m (h : m < xs.length) s, Inv m s → (∀ s', Inv (m + 1) s' → Ev (g (m + 1) s') (F (xs.drop (m + 1)) s')) → Ev (g m s) (F (xs[m] :: xs.drop (m + 1)) s)) :
  ∀ m s, m ≤ xs.length → Inv m s → Ev (g m s) (F (xs.drop m) s) := by
 have key : ∀ d m s, m + d = xs.length → Inv m s → Ev (g m s) (F (xs.drop m) s) := by
  intro d
  induction d with
  | zero =>
   intro m s e hi
   obtain rfl : m = xs.length := by omega
   rw [List.drop_length]
   exact h0 s hi
  | succ d ih =>
   intro m s e hi
   have h : m < xs.length := by omega
   rw [List.drop_eq_getElem_cons h]
   exact hs m h s hi (fun s' hi' => ih (m + 1) s' (by omega) hi')
 intro m s hm hi
 exact key (xs.length - m) m s (by omega) hi
theorem ev_list {α ρ : Type} (xs : List α) (g : Nat → Nat → Option ρ) (F : List α → ρ) (h0 : Ev (g xs.length) (F []))
  (hs : ∀ m (h : m < xs.length), Ev (g (m + 1)) (F (xs.drop (m + 1))) → Ev (g m) (F (xs[m] :: xs.drop (m + 1)))) (m : Nat) (hm : m ≤ xs.length) : Ev (g m) (F (xs.drop m)) :=
 ev_fold xs (fun m (_ : Unit) => g m) (fun l _ => F l) (fun _ _ => True) (fun _ _ => h0) (fun m h _ _ ih => hs m h (ih () trivial)) m () hm trivial
theorem ev_count {σ ρ : Type} (n : Nat) (g : Nat → σ → Nat → Option ρ) (r : ρ) (Inv : Nat → σ → Prop) (h0 : ∀ s, Inv n s → Ev (g n s) r)
  (hs : ∀ m s, m < n → Inv m s → ∃ s', Inv (m + 1) s' ∧ (Ev (g (m + 1) s') r → Ev (g m s) r)) : ∀ m s, m ≤ n → Inv m s → Ev (g m s) r := by
 have key : ∀ d m s, m + d = n → Inv m s → Ev (g m s) r := by
  intro d
  induction d with
  | zero =>
   intro m s e hi
   obtain rfl : m = n := by omega
   exact h0 s hi
  | succ d ih =>
   intro m s e hi
   obtain ⟨s', hi', k⟩ := hs m s (by omega) hi
   exact k (ih (m + 1) s' (by omega) hi')
 intro m s hm hi
 exact key (n - m) m s (by omega) hi
theorem rd_nat {xs : List Int} {m : Nat} (h : m < xs.length) : rd xs (m : Int) = xs[m] := by
 unfold rd
 rw [Int.toNat_natCast, List.getD_eq_getElem?_getD, List.getElem?_eq_getElem h]
 rfl
theorem w_succ {m : Nat} (h : m < 9223372036854775807) : wrap64 ((m : Int) + 1) = ((m + 1 : Nat) : Int) := by
 rw [w64 (by omega) (by omega)]
 omega
theorem w_pred {m : Nat} (h : 0 < m) (h' : m < 9223372036854775807) : wrap64 ((m : Int) - 1) = ((m - 1 : Nat) : Int) := by
 rw [w64 (by omega) (by omega)]
 omega
end Go.Proofs.Ytdlnhddpgopghaa.Com
namespace Go.Proofs.Ytdlnhddpgopghaa.Com
set_option linter.unusedSimpArgs false
set_option linter.unusedVariables false
open Go.RowKit Go.Proofs.YtdlnhddpgopghaaW.PrintWords Go.Proofs.Ytdlnhddpgopghaa.Q
theorem within_tells (x a b : Int) : impl_within.f x a b = some (decide (a ≤ x ∧ x ≤ b)) := by
 unfold impl_within.f
 split <;> simp [*]
theorem in_tells (x a b : Int) : spec_l00In.f x a b = some (decide (a ≤ x ∧ x ≤ b)) := by
 unfold spec_l00In.f
 by_cases h : x ≥ a
 ·have h' : a ≤ x := h
  simp [h, h']
 ·have h' : ¬ a ≤ x := h
  simp [h, h']
end Go.Proofs.Ytdlnhddpgopghaa.Com
namespace Go.Proofs.Ytdlnhddpgopghaa.Com
set_option linter.unusedSimpArgs false
set_option linter.unusedVariables false
set_option linter.unusedSectionVars false
open Go.RowKit Go.Proofs.YtdlnhddpgopghaaW.PrintWords Go.Proofs.YtdlnhddpgopghaaW.PrintMore Go.Proofs.Ytdlnhddpgopghaa.Q
def fv (b x : Int) : Int := if Int.tmod x b < 0 then Int.tdiv x b - 1 else Int.tdiv x b
theorem tdiv_bd (x b : Int) (hx : -1000000 ≤ x ∧ x ≤ 1000000) : -1000000 ≤ Int.tdiv x b ∧ Int.tdiv x b ≤ 1000000 := by
 have h : (Int.tdiv x b).natAbs ≤ x.natAbs := by rw [Int.natAbs_tdiv]; exact Nat.div_le_self _ _
 omega
theorem fv_bd (b x : Int) (hx : -1000000 ≤ x ∧ x ≤ 1000000) : -1000001 ≤ fv b x ∧ fv b x ≤ 1000000 := by
 have := tdiv_bd x b hx
 unfold fv
 split <;> omega
theorem implFloor_tells (b x : Int) (hb : 1 ≤ b ∧ b ≤ 1000) (hx : -1000000 ≤ x ∧ x ≤ 1000000) : impl_floor.f x b = some (fv b x) := by
 have t := tdiv_bd x b hx
 unfold impl_floor.f fv
 rw [if_neg (by omega), w64 (x := Int.tdiv x b) (by omega) (by omega), w64 (x := Int.tdiv x b - 1) (by omega) (by omega)]
 split <;> rfl
theorem specFloor_tells (b x : Int) (hb : 1 ≤ b ∧ b ≤ 1000) (hx : -1000000 ≤ x ∧ x ≤ 1000000) : spec_l01Floor.f x b = some (fv b x) := by
 have t := tdiv_bd x b hx
 have e := Int.mul_tdiv_add_tmod x b
 have m : b * Int.tdiv x b = Int.tdiv x b * b := Int.mul_comm _ _
 have ml : Int.tmod x b < b := Int.tmod_lt_of_pos x (by omega)
 have mg : -b < Int.tmod x b := by
  have h : (Int.tmod x b).natAbs < b.natAbs := by rw [Int.natAbs_tmod]; exact Nat.mod_lt _ (by omega)
  omega
 unfold spec_l01Floor.f fv
 rw [if_neg (by omega), w64 (x := Int.tdiv x b) (by omega) (by omega), w64 (x := Int.tdiv x b * b) (by omega) (by omega), w64 (x := Int.tdiv x b - 1) (by omega) (by omega)]
 by_cases c : Int.tmod x b < 0
 ·rw [if_pos c, if_pos (by omega)]
 ·rw [if_neg c, if_neg (by omega)]
def cv (b x : Int) : Int := -fv b (-x)
theorem implCeil_tells (b x : Int) (hb : 1 ≤ b ∧ b ≤ 1000) (hx : -1000000 ≤ x ∧ x ≤ 1000000) : impl_ceiling.f x b = some (cv b x) := by
 have t := fv_bd b (-x) (by omega)
 unfold impl_ceiling.f cv
 rw [w64 (x := -x) (by omega) (by omega), implFloor_tells b (-x) hb (by omega), Option.bind_some, w64 (by omega) (by omega)]
def valsOk (b : Int) (v : List Int) : Bool := v.all (fun x => decide (-1000000 ≤ x ∧ x ≤ 1000000)) && (decide (1 ≤ b ∧ b ≤ 1000) && decide ((v.length : Int) ≤ 40))
theorem valsOk_is {b : Int} {v : List Int} (h : valsOk b v = true) : (1 ≤ b ∧ b ≤ 1000) ∧ v.length ≤ 40 ∧ ∀ x ∈ v, -1000000 ≤ x ∧ x ≤ 1000000 := by
 unfold valsOk at h
 simp only [Bool.and_eq_true, decide_eq_true_eq, List.all_eq_true] at h
 exact ⟨h.2.1, by omega, h.1⟩
theorem specVals_ev (b : Int) (v : List Int) (hx : v.length ≤ 1048576) : Ev (fun k => spec_l01Is.f k b v) (valsOk b v) := by
 unfold spec_l01Is.f
 have gen := ev_list v (fun m k => spec_l01Is.l0 k (m : Int) b v) (fun d => d.all (fun x => decide (-1000000 ≤ x ∧ x ≤ 1000000)) && (decide (1 ≤ b ∧ b ≤ 1000) && decide ((v.length : Int) ≤ 40))) ?_ ?_ 0 (by omega)
 ·exact gen
 ·refine Ev.step (fun k => by rw [spec_l01Is.l0]) ?_
  simp only [if_neg (show ¬ (v.length : Int) < (v.length : Int) by omega), in_tells, Option.bind_some, List.all_nil, Bool.true_and, decide_eq_true_eq]
  by_cases c : 1 ≤ b ∧ b ≤ 1000
  ·simp only [if_pos c, decide_eq_true c, Bool.true_and]
   exact Ev.now _
  ·simp only [if_neg c, decide_eq_false c, Bool.false_and]
   exact Ev.now _
 ·intro m hm ih
  refine Ev.step (fun k => by rw [spec_l01Is.l0]) ?_
  simp only [if_pos (show (m : Int) < (v.length : Int) by omega), if_pos (show 0 ≤ (m : Int) by omega), rd_nat hm, w_succ (m := m) (by omega), in_tells, Option.bind_some, List.all_cons, decide_eq_true_eq]
  by_cases c : -1000000 ≤ v[m] ∧ v[m] ≤ 1000000
  ·simp only [if_pos c, decide_eq_true c, Bool.true_and]
   exact ih
  ·simp only [if_neg c, decide_eq_false c, Bool.false_and]
   exact Ev.now _
theorem implVals_tells (b : Int) (v : List Int) : impl_ValidValues.f b v = some (valsOk b v) := by
 unfold impl_ValidValues.f impl_areWithin.f valsOk
 rw [within_tells]
 simp only [Option.bind_some, decide_eq_true_eq]
 by_cases c : 1 ≤ b ∧ b ≤ 1000
 ·rw [if_pos c, decide_eq_true c]
  by_cases d : (v.length : Int) ≤ 40
  ·rw [if_pos d, decide_eq_true d, Bool.true_and, Bool.and_true]
  ·rw [if_neg d, decide_eq_false d, Bool.and_false, Bool.and_false]
 ·rw [if_neg c, decide_eq_false c, Bool.false_and, Bool.and_false]
end Go.Proofs.Ytdlnhddpgopghaa.Com
namespace Go.Proofs.Ytdlnhddpgopghaa.Com
set_option linter.unusedSimpArgs false
set_option linter.unusedVariables false
open Go.RowKit Go.Proofs.YtdlnhddpgopghaaW.PrintWords Go.Proofs.YtdlnhddpgopghaaW.PrintMore
theorem wraps_i64 (n : Int) (h₀ : 0 ≤ n) (h₁ : n < 2 ^ 63) : IntKind.i64.wrap n = n := by rw [IntKind.wrap_i64]; omega
theorem and_nat (a b : Nat) (ha : a < 4096) (hb : b < 4096) : Go.bits .and .i64 (a : Int) (b : Int) = ((a &&& b : Nat) : Int) :=
 (Go.bits_nat .i64 63 (by decide) wraps_i64 a b (by omega) (by omega)).1
theorem uw (n : Int) (h : 0 ≤ n ∧ n ≤ 4096) : IntKind.u64.wrap n = n := by
 simp [IntKind.wrap, IntKind.bits, IntKind.signed]
 omega
theorem shl_one (p : Nat) (h : p ≤ 12) : shl .i64 1 (p : Int) = 2 ^ p := by
 have : ∀ q : Fin 13, shl .i64 1 (q.val : Int) = 2 ^ q.val := by decide +kernel
 exact this ⟨p, by omega⟩
theorem pow_bd {p : Nat} (h : p ≤ 12) : 1 ≤ 2 ^ p ∧ 2 ^ p ≤ 4096 := by
 have : ∀ q : Fin 13, 1 ≤ 2 ^ q.val ∧ 2 ^ q.val ≤ 4096 := by decide
 exact this ⟨p, by omega⟩
def bitAt (s p : Nat) : Nat := s / 2 ^ p % 2
theorem bitAt_le (s p : Nat) : bitAt s p ≤ 1 := by unfold bitAt; omega
theorem bit_tells (s p : Nat) (hs : s < 4096) (hp : p ≤ 12) : Go.bits .and .i64 (shr .i64 (s : Int) (p : Int)) 1 = ((bitAt s p : Nat) : Int) := by
 have e : shr .i64 (s : Int) (p : Int) = ((s / 2 ^ p : Nat) : Int) := by
  unfold shr
  rw [Int.toNat_natCast, Nat.min_eq_left (by have : IntKind.i64.bits = 64 := rfl; omega)]
  exact_mod_cast rfl
 have hlt : s / 2 ^ p < 4096 := Nat.lt_of_le_of_lt (Nat.div_le_self _ _) hs
 rw [e]
 have := and_nat (s / 2 ^ p) 1 hlt (by omega)
 rw [Nat.and_one_is_mod] at this
 exact this
end Go.Proofs.Ytdlnhddpgopghaa.Com
namespace Go.Proofs.Ytdlnhddpgopghaa.Com
set_option linter.unusedSimpArgs false
set_option linter.unusedVariables false
set_option linter.unusedSectionVars false
open Go.RowKit Go.Proofs.YtdlnhddpgopghaaW.PrintWords Go.Proofs.YtdlnhddpgopghaaW.PrintMore Go.Proofs.Ytdlnhddpgopghaa.Q
theorem prod_bd {b y : Int} (hb : 1 ≤ b ∧ b ≤ 1000) (hy : -1000001 ≤ y ∧ y ≤ 1000001) : -1000001000 ≤ b * y ∧ b * y ≤ 1000001000 := by
 have h1 := Int.mul_le_mul_of_nonneg_left hy.2 (show 0 ≤ b by omega)
 have h2 := Int.mul_le_mul_of_nonneg_left hy.1 (show 0 ≤ b by omega)
 omega
def errs (b : Int) (l v : List Int) : List Int := List.zipWith (fun y x => b * y - x) l v
section
variable {b : Int} {v l : List Int} (hv : valsOk b v = true) (hl : l.length = v.length) (hy : ∀ y ∈ l, -1000001 ≤ y ∧ y ≤ 1000001)
include hv hl hy
theorem implErrs_ev : Ev (fun k => impl_Values_errors.f k b v l) (errs b l v) := by
 obtain ⟨h1, h2, h3⟩ := valsOk_is hv
 unfold impl_Values_errors.f
 have gen := ev_fold l (fun m (s : List Int) k => impl_Values_errors.l0 k s l (l.length : Int) (m : Int) b v) (fun d s => s ++ errs b d (v.drop (v.length - d.length))) (fun m s => s.length = m) ?_ ?_ 0 [] (by omega) rfl
 ·simpa [hl] using gen
 ·intro s _
  refine Ev.step (fun k => by rw [impl_Values_errors.l0]) ?_
  simp only [if_neg (show ¬ (l.length : Int) < (l.length : Int) by omega), errs, List.zipWith_nil_left, List.append_nil]
  exact Ev.now _
 ·intro m hm s hs ih
  have hm' : m < v.length := by omega
  have hd : (l.drop (m + 1)).length = l.length - (m + 1) := List.length_drop ..
  have t1 : v.length - (l[m] :: l.drop (m + 1)).length = m := by rw [List.length_cons, hd]; omega
  have t2 : v.length - (l.drop (m + 1)).length = m + 1 := by rw [hd]; omega
  rw [t1, List.drop_eq_getElem_cons hm']
  rw [t2] at ih
  have hx := h3 _ (List.getElem_mem hm')
  have p := prod_bd h1 (hy _ (List.getElem_mem hm))
  refine Ev.step (fun k => by rw [impl_Values_errors.l0]) ?_
  simp only [if_pos (show (m : Int) < (l.length : Int) by omega), if_pos (show 0 ≤ (m : Int) by omega), if_pos (show (m : Int) < (v.length : Int) by omega), rd_nat hm, rd_nat hm', w_succ (m := m) (by omega), if_pos (show s.length < 17592186044416 by omega)]
  rw [w64 (x := b * l[m]) (by omega) (by omega), w64 (x := b * l[m] - v[m]) (by omega) (by omega)]
  unfold errs
  rw [List.zipWith_cons_cons, List.append_cons s (b * l[m] - v[m]) (List.zipWith (fun y x => b * y - x) (l.drop (m + 1)) (v.drop (m + 1)))]
  exact ih (s ++ [b * l[m] - v[m]]) (by simp [hs])
def eSum (x : Int) : Nat → List Int → Int
 | _, [] => 0
 | m, e :: r => (bitAt x.toNat m : Int) * e + eSum x (m + 1) r
end
theorem eSum_bd (x : Int) (r : List Int) : ∀ m, (∀ e ∈ r, -2000000000 ≤ e ∧ e ≤ 2000000000) → -(2000000000 * (r.length : Int)) ≤ eSum x m r ∧ eSum x m r ≤ 2000000000 * (r.length : Int) := by
 induction r with
 | nil => intro m _; simp [eSum]
 | cons e r ih =>
  intro m h
  have := ih (m + 1) (fun z hz => h z (List.mem_cons_of_mem _ hz))
  have he := h e List.mem_cons_self
  have hb := bitAt_le x.toNat m
  unfold eSum
  rw [List.length_cons]
  rcases (show bitAt x.toNat m = 0 ∨ bitAt x.toNat m = 1 by omega) with c | c
  ·rw [c]; simp only [Int.natCast_zero, Int.zero_mul]; omega
  ·rw [c]; simp only [Int.natCast_one, Int.one_mul]; omega
end Go.Proofs.Ytdlnhddpgopghaa.Com
namespace Go.Proofs.Ytdlnhddpgopghaa.Com
set_option linter.unusedSimpArgs false
set_option linter.unusedVariables false
set_option linter.unusedSectionVars false
open Go.RowKit Go.Proofs.YtdlnhddpgopghaaW.PrintWords Go.Proofs.YtdlnhddpgopghaaW.PrintMore Go.Proofs.Ytdlnhddpgopghaa.Q
theorem errs_len {b : Int} {l v : List Int} (hl : l.length = v.length) : (errs b l v).length = l.length := by unfold errs; rw [List.length_zipWith]; omega
section
variable {b p : Int} {v l sets : List Int} (hv : valsOk b v = true) (hl : l.length = v.length) (hy : ∀ y ∈ l, -1000001 ≤ y ∧ y ≤ 1000001) (h12 : l.length ≤ 12) (hn : sets.length ≤ 12) (hs : ∀ x ∈ sets, 0 ≤ x ∧ x.toNat < 4096)
include hv hl hy h12 hn hs
theorem errs_bd : ∀ e ∈ errs b l v, -2000000000 ≤ e ∧ e ≤ 2000000000 := by
 obtain ⟨h1, h2, h3⟩ := valsOk_is hv
 intro e he
 unfold errs at he
 obtain ⟨i, hi, rfl⟩ := List.getElem_of_mem he
 rw [List.length_zipWith] at hi
 rw [List.getElem_zipWith]
 have p := prod_bd h1 (hy l[i] (List.getElem_mem (by omega)))
 have x := h3 v[i] (List.getElem_mem (by omega))
 omega
theorem implInner_ev (out : List Int) (c : Nat) (hc : c < sets.length) (R : List Int)
  (ih : Ev (fun k => impl_System_setErrors.l0 k (out ++ [eSum sets[c] 0 (errs b l v)]) (errs b l v) sets (sets.length : Int) ((c + 1 : Nat) : Int)) R) (ho : out.length ≤ 12) :
  Ev (fun k => impl_System_setErrors.l1 k out (errs b l v) sets[c] 0 sets (sets.length : Int) (c : Int) (errs b l v) ((errs b l v).length : Int) 0) R := by
 have eb := errs_bd hv hl hy h12 hn hs
 have el := errs_len (b := b) hl
 obtain ⟨x0, x1⟩ := hs _ (List.getElem_mem hc)
 generalize sets[c] = x at x0 x1 ih ⊢
 generalize errs b l v = es at eb el ih ⊢
 obtain ⟨n, rfl⟩ := Int.eq_ofNat_of_zero_le x0
 rw [Int.toNat_natCast] at x1
 refine ev_fold es (fun m (s : Int) k => impl_System_setErrors.l1 k out es (n : Int) s sets (sets.length : Int) (c : Int) es (es.length : Int) (m : Int)) (fun d s => R) (fun m s => s + eSum (n : Int) m (es.drop m) = eSum (n : Int) 0 es ∧ -(2000000000 * (m : Int)) ≤ s ∧ s ≤ 2000000000 * (m : Int)) ?_ ?_ 0 0 (by omega) ⟨by simp, by omega, by omega⟩
 ·rintro s ⟨e, _, _⟩
  rw [List.drop_length] at e
  simp only [eSum, Int.add_zero] at e
  refine Ev.step (fun k => by rw [impl_System_setErrors.l1]) ?_
  simp only [if_neg (show ¬ (es.length : Int) < (es.length : Int) by omega), if_pos (show out.length < 17592186044416 by omega), w_succ (m := c) (by omega), e]
  exact ih
 ·rintro m hm s ⟨e, s0, s1⟩ k
  have hz := eb _ (List.getElem_mem hm)
  have hb := bitAt_le n m
  rw [List.drop_eq_getElem_cons hm, eSum, Int.toNat_natCast] at e
  refine Ev.step (fun k => by rw [impl_System_setErrors.l1]) ?_
  simp only [if_pos (show (m : Int) < (es.length : Int) by omega), if_pos (show 0 ≤ (m : Int) by omega), rd_nat hm, w_succ (m := m) (by omega), bit_tells n m x1 (by omega)]
  generalize es[m] = z at hz e ⊢
  rcases (show bitAt n m = 0 ∨ bitAt n m = 1 by omega) with q | q
  ·rw [q] at e ⊢
   simp only [Int.natCast_zero, Int.zero_mul] at e ⊢
   rw [w64 (x := 0) (by omega) (by omega), w64 (x := s + 0) (by omega) (by omega)]
   exact k _ ⟨by omega, by omega, by omega⟩
  ·rw [q] at e ⊢
   simp only [Int.natCast_one, Int.one_mul] at e ⊢
   rw [w64 (x := z) (by omega) (by omega), w64 (x := s + z) (by omega) (by omega)]
   exact k _ ⟨by omega, by omega, by omega⟩
theorem implSetErrs_ev : Ev (fun k => impl_System_setErrors.f k p sets b v l) (sets.map fun x => eSum x 0 (errs b l v)) := by
 unfold impl_System_setErrors.f
 refine Ev.bind (implErrs_ev hv hl hy) ?_
 have gen := ev_fold sets (fun m (s : List Int) k => impl_System_setErrors.l0 k s (errs b l v) sets (sets.length : Int) (m : Int)) (fun d s => s ++ d.map fun x => eSum x 0 (errs b l v)) (fun m s => s.length = m) ?_ ?_ 0 [] (by omega) rfl
 ·simpa using gen
 ·intro s _
  refine Ev.step (fun k => by rw [impl_System_setErrors.l0]) ?_
  simp only [if_neg (show ¬ (sets.length : Int) < (sets.length : Int) by omega), List.map_nil, List.append_nil]
  exact Ev.now _
 ·intro m hm s hs' ih
  refine Ev.step (fun k => by rw [impl_System_setErrors.l0]) ?_
  simp only [if_pos (show (m : Int) < (sets.length : Int) by omega), if_pos (show 0 ≤ (m : Int) by omega), rd_nat hm]
  rw [List.map_cons, List.append_cons s (eSum sets[m] 0 (errs b l v)) ((sets.drop (m + 1)).map fun x => eSum x 0 (errs b l v))]
  exact implInner_ev hv hl hy h12 hn hs s m hm _ (ih (s ++ [eSum sets[m] 0 (errs b l v)]) (by simp [hs'])) (by omega)
theorem specInner_ev (out : List Int) (c : Nat) (hc : c < sets.length) (R : List Int)
  (ih : Ev (fun k => spec_l10Errors.l0 k l (out ++ [eSum sets[c] 0 (errs b l v)]) ((c + 1 : Nat) : Int) p sets b v) R) (ho : out.length ≤ 12) :
  Ev (fun k => spec_l10Errors.l1 k l out (c : Int) 0 0 p sets b v) R := by
 obtain ⟨h1, h2, h3⟩ := valsOk_is hv
 have el := errs_len (b := b) hl
 have hset := rd_nat hc
 obtain ⟨x0, x1⟩ := hs _ (List.getElem_mem hc)
 generalize sets[c] = x at x0 x1 ih hset
 obtain ⟨n, rfl⟩ := Int.eq_ofNat_of_zero_le x0
 rw [Int.toNat_natCast] at x1
 refine ev_count l.length (fun m (s : Int) k => spec_l10Errors.l1 k l out (c : Int) s (m : Int) p sets b v) R (fun m s => s + eSum (n : Int) m ((errs b l v).drop m) = eSum (n : Int) 0 (errs b l v) ∧ -(2000000000 * (m : Int)) ≤ s ∧ s ≤ 2000000000 * (m : Int)) ?_ ?_ 0 0 (by omega) ⟨by simp, by omega, by omega⟩
 ·rintro s ⟨e, _, _⟩
  rw [← el, List.drop_length] at e
  simp only [eSum, Int.add_zero] at e
  refine Ev.step (fun k => by rw [spec_l10Errors.l1]) ?_
  simp only [if_neg (show ¬ (l.length : Int) < (l.length : Int) by omega), if_pos (show out.length < 17592186044416 by omega), w_succ (m := c) (by omega), e]
  exact ih
 ·rintro m s hm ⟨e, s0, s1⟩
  have hm' : m < v.length := by omega
  have hme : m < (errs b l v).length := by omega
  have pb := prod_bd h1 (hy l[m] (List.getElem_mem hm))
  have xb := h3 v[m] (List.getElem_mem hm')
  have hb := bitAt_le n m
  have ee : (errs b l v)[m] = b * l[m] - v[m] := by simp [errs]
  rw [List.drop_eq_getElem_cons hme, eSum, Int.toNat_natCast, ee] at e
  rcases (show bitAt n m = 0 ∨ bitAt n m = 1 by omega) with q | q
  ·rw [q] at e
   simp only [Int.natCast_zero, Int.zero_mul] at e
   refine ⟨s, ⟨by omega, by omega, by omega⟩, fun k => ?_⟩
   refine Ev.step (fun k => by rw [spec_l10Errors.l1]) ?_
   simp only [if_pos (show (m : Int) < (l.length : Int) by omega), if_pos (show 0 ≤ (m : Int) by omega), if_pos (show 0 ≤ (c : Int) by omega), if_pos (show (c : Int) < (sets.length : Int) by omega), uw (m : Int) (show 0 ≤ (m : Int) ∧ (m : Int) ≤ 4096 by omega), hset, bit_tells n m x1 (by omega), q, Int.natCast_zero, if_neg (show ¬ (0 : Int) = 1 by omega), w_succ (m := m) (by omega)]
   exact k
  ·rw [q] at e
   simp only [Int.natCast_one, Int.one_mul] at e
   refine ⟨s + (b * l[m] - v[m]), ⟨by omega, by omega, by omega⟩, fun k => ?_⟩
   refine Ev.step (fun k => by rw [spec_l10Errors.l1]) ?_
   simp only [if_pos (show (m : Int) < (l.length : Int) by omega), if_pos (show 0 ≤ (m : Int) by omega), if_pos (show 0 ≤ (c : Int) by omega), if_pos (show (c : Int) < (sets.length : Int) by omega), if_pos (show (m : Int) < (v.length : Int) by omega), uw (m : Int) (show 0 ≤ (m : Int) ∧ (m : Int) ≤ 4096 by omega), hset, bit_tells n m x1 (by omega), q, Int.natCast_one, if_true, w_succ (m := m) (by omega), rd_nat hm, rd_nat hm']
   rw [w64 (x := b * l[m]) (by omega) (by omega), w64 (x := b * l[m] - v[m]) (by omega) (by omega), w64 (x := s + (b * l[m] - v[m])) (by omega) (by omega)]
   exact k
theorem specSetErrs_ev : Ev (fun k => spec_l10Errors.f k p sets b v l) (sets.map fun x => eSum x 0 (errs b l v)) := by
 unfold spec_l10Errors.f
 have gen := ev_fold sets (fun m (s : List Int) k => spec_l10Errors.l0 k l s (m : Int) p sets b v) (fun d s => s ++ d.map fun x => eSum x 0 (errs b l v)) (fun m s => s.length = m) ?_ ?_ 0 [] (by omega) rfl
 ·simpa using gen
 ·intro s _
  refine Ev.step (fun k => by rw [spec_l10Errors.l0]) ?_
  simp only [if_neg (show ¬ (sets.length : Int) < (sets.length : Int) by omega), List.map_nil, List.append_nil]
  exact Ev.now _
 ·intro m hm s hs' ih
  refine Ev.step (fun k => by rw [spec_l10Errors.l0]) ?_
  simp only [if_pos (show (m : Int) < (sets.length : Int) by omega)]
  rw [List.map_cons, List.append_cons s (eSum sets[m] 0 (errs b l v)) ((sets.drop (m + 1)).map fun x => eSum x 0 (errs b l v))]
  exact specInner_ev hv hl hy h12 hn hs s m hm _ (ih (s ++ [eSum sets[m] 0 (errs b l v)]) (by simp [hs'])) (by omega)
end
end Go.Proofs.Ytdlnhddpgopghaa.Com
namespace Go.Proofs.Ytdlnhddpgopghaa.Com
set_option linter.unusedSimpArgs false
set_option linter.unusedVariables false
open Go.RowKit Go.Proofs.YtdlnhddpgopghaaW.PrintWords Go.Proofs.Ytdlnhddpgopghaa.Q
theorem set_take (xs : List Int) (m : Nat) (h : m < xs.length) : (xs.take m ++ List.replicate (xs.length - m) 0).set m xs[m] = xs.take (m + 1) ++ List.replicate (xs.length - (m + 1)) 0 := by
 have hl : (xs.take m).length = m := by rw [List.length_take]; omega
 rw [List.set_append_right _ _ (by omega), hl, Nat.sub_self]
 obtain ⟨q, hq⟩ : ∃ q, xs.length - m = q + 1 := ⟨xs.length - m - 1, by omega⟩
 rw [hq, List.replicate_succ, List.set_cons_zero, show xs.length - (m + 1) = q by omega, List.take_succ_eq_append_getElem h, List.append_assoc]
 rfl
theorem toInt64S_ev (xs : List Int) (hx : xs.length ≤ 1048576) : Ev (fun k => laws_toInt64S.f k xs) xs := by
 unfold laws_toInt64S.f
 simp only [if_pos (show 0 ≤ (xs.length : Int) by omega), if_pos (show ((xs.length : Int)).toNat ≤ 35184372088832 by omega)]
 have := ev_count xs.length (fun m s k => laws_toInt64S.l0 k xs s (m : Int)) xs (fun m s => s = xs.take m ++ List.replicate (xs.length - m) 0) (fun s hs => ?_) (fun m s hm hs => ⟨xs.take (m + 1) ++ List.replicate (xs.length - (m + 1)) 0, rfl, fun ih => ?_⟩) 0 (List.replicate xs.length 0) (by omega) (by simp)
 ·simpa using this
 ·refine Ev.step (fun k => by rw [laws_toInt64S.l0]) ?_
  simp only [if_neg (show ¬ (xs.length : Int) < (xs.length : Int) by omega)]
  subst hs
  simp
  exact Ev.now _
 ·refine Ev.step (fun k => by rw [laws_toInt64S.l0]) ?_
  subst hs
  have hl : (xs.take m ++ List.replicate (xs.length - m) 0).length = xs.length := by simp; omega
  simp only [if_pos (show (m : Int) < (xs.length : Int) by omega), if_pos (show 0 ≤ (m : Int) by omega), hl, rd_nat hm, Int.toNat_natCast, set_take xs m hm, w_succ (m := m) (by omega)]
  exact ih
theorem eqInt64S_ev (xs ys : List Int) (hx : xs.length ≤ 1048576) : Ev (fun k => laws_eqInt64S.f k xs ys) (decide (xs = ys)) := by
 unfold laws_eqInt64S.f
 by_cases hl : (xs.length : Int) = (ys.length : Int)
 ·simp only [if_pos hl]
  have key : ∀ m, m ≤ xs.length → Ev (fun k => laws_eqInt64S.l0 k xs ys (m : Int)) (decide (xs.drop m = ys.drop m)) := by
   have gen := ev_list xs (fun m k => laws_eqInt64S.l0 k xs ys (m : Int)) (fun l => decide (l = ys.drop (xs.length - l.length))) ?_ ?_
   ·intro m hm
    have := gen m hm
    rwa [List.length_drop, show xs.length - (xs.length - m) = m by omega] at this
   ·refine Ev.step (fun k => by rw [laws_eqInt64S.l0]) ?_
    simp only [if_neg (show ¬ (xs.length : Int) < (xs.length : Int) by omega)]
    have : ys.drop (xs.length - ([] : List Int).length) = [] := by simp; omega
    rw [this]
    exact Ev.now _
   ·intro m hm ih
    refine Ev.step (fun k => by rw [laws_eqInt64S.l0]) ?_
    have hy : m < ys.length := by omega
    simp only [if_pos (show (m : Int) < (xs.length : Int) by omega), if_pos (show 0 ≤ (m : Int) by omega), if_pos (show (m : Int) < (ys.length : Int) by omega), rd_nat hm, rd_nat hy, w_succ (m := m) (by omega)]
    rw [List.length_drop, show xs.length - (xs.length - (m + 1)) = m + 1 by omega] at ih
    have e : xs.length - (xs[m] :: xs.drop (m + 1)).length = m := by simp; omega
    rw [e, List.drop_eq_getElem_cons hy]
    by_cases c : xs[m] = ys[m]
    ·simp only [if_pos c]
     rw [show decide (xs[m] :: xs.drop (m + 1) = ys[m] :: ys.drop (m + 1)) = decide (xs.drop (m + 1) = ys.drop (m + 1)) from decide_eq_decide.2 (by rw [c]; exact ⟨fun h => (List.cons.inj h).2, fun h => by rw [h]⟩)]
     exact ih
    ·simp only [if_neg c]
     rw [decide_eq_false (show ¬ xs[m] :: xs.drop (m + 1) = ys[m] :: ys.drop (m + 1) from fun h => c (List.cons.inj h).1)]
     exact Ev.now _
  have := key 0 (by omega)
  simpa using this
 ·simp only [if_neg hl]
  have : xs ≠ ys := fun e => hl (by rw [e])
  rw [decide_eq_false this]
  exact Ev.now _
theorem sz_tells (xs : List Int) (a : Int) (hx : xs.length ≤ maxLen) (ha : -1 ≤ a ∧ a ≤ 1048576) : laws_szInt64S.f xs a = some (if a - xs.length < 0 then -1 else a - xs.length) := by
 unfold laws_szInt64S.f
 unfold maxLen at hx
 rw [w64 (by omega) (by omega)]
 split <;> rfl
end Go.Proofs.Ytdlnhddpgopghaa.Com
namespace Go.Proofs.Ytdlnhddpgopghaa.Com
set_option linter.unusedSimpArgs false
set_option linter.unusedVariables false
open Go.RowKit Go.Proofs.YtdlnhddpgopghaaW.PrintWords Go.Proofs.YtdlnhddpgopghaaW.PrintMore Go.Proofs.Ytdlnhddpgopghaa.Q
def full (p : Int) : Int := wrap64 (shl .i64 1 p - 1)
theorem full_nat (p : Nat) (h : p ≤ 12) : full (p : Int) = ((2 ^ p - 1 : Nat) : Int) := by
 have : ∀ q : Fin 13, full (q.val : Int) = ((2 ^ q.val - 1 : Nat) : Int) := by decide +kernel
 exact this ⟨p, by omega⟩
def validSys (p : Int) (l : List Int) : Bool := decide (0 ≤ p ∧ p ≤ 12) && decide ((l.length : Int) ≤ 12) && l.all fun x => decide (0 ≤ x ∧ x ≤ full p)
theorem validSys_of {p : Int} {l : List Int} (h : validSys p l = true) : (∃ q : Nat, p = (q : Int) ∧ q ≤ 12) ∧ l.length ≤ 12 ∧ ∀ x ∈ l, 0 ≤ x ∧ x ≤ full p := by
 unfold validSys at h
 simp only [Bool.and_eq_true, decide_eq_true_eq, List.all_eq_true] at h
 exact ⟨⟨p.toNat, by omega, by omega⟩, by omega, h.2⟩
theorem set_tells (p x : Int) (hp : 0 ≤ p ∧ p ≤ 12) : spec_l10Set.f p x = some (decide (0 ≤ x ∧ x ≤ full p)) := by
 unfold spec_l10Set.f full
 rw [uw p (by omega), if_pos hp.1, in_tells]
 rfl
theorem specIs_ev (p : Int) (l : List Int) (hx : l.length ≤ 1048576) : Ev (fun k => spec_l10Is.f k p l) (validSys p l) := by
 unfold spec_l10Is.f validSys
 simp only [in_tells, Option.bind_some, decide_eq_true_eq]
 have jf : Ev (fun k => spec_l10Is.j0 k true p l) false := Ev.step (fun k => by rw [spec_l10Is.j0]) (by simp only [if_true]; exact Ev.now _)
 by_cases h1 : 0 ≤ p ∧ p ≤ 12
 ·simp only [if_pos h1, decide_eq_true h1, Bool.true_and]
  by_cases h2 : (l.length : Int) ≤ 12
  ·rw [decide_eq_false (show ¬ (l.length : Int) > 12 by omega), decide_eq_true h2, Bool.true_and]
   refine Ev.step (fun k => by rw [spec_l10Is.j0]) ?_
   simp only [Bool.false_eq_true, if_false]
   have gen := ev_list l (fun m k => spec_l10Is.l0 k (m : Int) p l) (fun r => r.all fun x => decide (0 ≤ x ∧ x ≤ full p)) ?_ ?_ 0 (by omega)
   ·exact gen
   ·refine Ev.step (fun k => by rw [spec_l10Is.l0]) ?_
    simp only [if_neg (show ¬ (l.length : Int) < (l.length : Int) by omega)]
    exact Ev.now _
   ·intro m hm ih
    refine Ev.step (fun k => by rw [spec_l10Is.l0]) ?_
    simp only [if_pos (show (m : Int) < (l.length : Int) by omega), if_pos (show 0 ≤ (m : Int) by omega), rd_nat hm, set_tells p _ h1, Option.bind_some, w_succ (m := m) (by omega), decide_eq_true_eq]
    rw [List.all_cons]
    by_cases c : 0 ≤ l[m] ∧ l[m] ≤ full p
    ·simp only [if_pos c, decide_eq_true c, Bool.true_and]
     exact ih
    ·simp only [if_neg c, decide_eq_false c, Bool.false_and]
     exact Ev.now _
  ·rw [decide_eq_true (show (l.length : Int) > 12 by omega), decide_eq_false h2, Bool.false_and]
   exact jf
 ·simp only [if_neg h1, decide_eq_false h1, Bool.false_and]
  exact jf
theorem implValidSys_tells (p : Int) (l : List Int) : impl_ValidSystem.f p l = some (validSys p l) := by
 unfold impl_ValidSystem.f validSys impl_areWithin.f full
 rw [within_tells]
 simp only [Option.bind_some, decide_eq_true_eq]
 by_cases h1 : 0 ≤ p ∧ p ≤ 12
 ·rw [if_pos h1, decide_eq_true h1, if_pos h1.1]
  by_cases h2 : (l.length : Int) ≤ 12
  ·rw [if_pos h2, decide_eq_true h2]
   rfl
  ·rw [if_neg h2, decide_eq_false h2]
   rfl
 ·rw [if_neg h1, decide_eq_false h1]
  rfl
theorem toSystem_ev (p : Int) (l : List Int) (hx : l.length ≤ 1048576) : Ev (fun k => laws_toSystem.f k p l) (p, l) := by
 unfold laws_toSystem.f
 exact Ev.bind (toInt64S_ev l hx) (Ev.now _)
theorem eqSystem_ev (p : Int) (l : List Int) (hx : l.length ≤ 1048576) : Ev (fun k => laws_eqSystem.f k p l p l) true := by
 unfold laws_eqSystem.f
 simp only [if_true]
 refine Ev.bind (eqInt64S_ev l l hx) ?_
 simp
 exact Ev.now _
theorem szSystem_tells (p : Int) (l : List Int) (hx : l.length ≤ maxLen) : (laws_szSystem.f p l 1048576 = some (-1) ∧ ¬ l.length ≤ 1048576) ∨ (∃ t, laws_szSystem.f p l 1048576 = some t ∧ 0 ≤ t ∧ l.length ≤ 1048576) := by
 unfold laws_szSystem.f
 rw [sz_tells l 1048576 hx (by omega), Option.bind_some]
 by_cases h : (1048576 : Int) - l.length < 0
 ·left
  rw [if_pos h]
  exact ⟨rfl, by omega⟩
 ·right
  rw [if_neg h, if_neg h]
  exact ⟨_, rfl, by omega, by omega⟩
end Go.Proofs.Ytdlnhddpgopghaa.Com
namespace Go.Proofs.Ytdlnhddpgopghaa.Com
set_option linter.unusedSimpArgs false
set_option linter.unusedVariables false
set_option linter.unusedSectionVars false
open Go.RowKit Go.Proofs.YtdlnhddpgopghaaW.PrintWords Go.Proofs.YtdlnhddpgopghaaW.PrintMore Go.Proofs.Ytdlnhddpgopghaa.Q
def gr (l : List Int) : Int := l.foldl (fun s x => mx (mx s x) (-x)) 0
theorem gr_bd (B : Int) (hB : 0 ≤ B) (l : List Int) (h : ∀ x ∈ l, -B ≤ x ∧ x ≤ B) : 0 ≤ gr l ∧ gr l ≤ B := by
 have key : ∀ (l : List Int) (s : Int), 0 ≤ s ∧ s ≤ B → (∀ x ∈ l, -B ≤ x ∧ x ≤ B) → 0 ≤ l.foldl (fun s x => mx (mx s x) (-x)) s ∧ l.foldl (fun s x => mx (mx s x) (-x)) s ≤ B := by
  intro l
  induction l with
  | nil => intro s hs _; exact hs
  | cons x r ih =>
   intro s hs h
   have := h x List.mem_cons_self
   rw [List.foldl_cons]
   refine ih _ ?_ (fun y hy => h y (List.mem_cons_of_mem _ hy))
   unfold mx
   split <;> split <;> omega
 exact key l 0 (by omega) h
theorem greatest_ev (l : List Int) (hx : l.length ≤ 1048576) (hb : ∀ x ∈ l, -9223372036854775807 ≤ x ∧ x ≤ 9223372036854775807) : Ev (fun k => impl_greatest.f k l) (gr l) := by
 unfold impl_greatest.f
 have gen := ev_fold l (fun m s k => impl_greatest.l0 k s l (l.length : Int) (m : Int)) (fun r s => r.foldl (fun s x => mx (mx s x) (-x)) s) (fun m s => True) ?_ ?_ 0 0 (by omega) trivial
 ·simpa [gr] using gen
 ·intro s hs
  refine Ev.step (fun k => by rw [impl_greatest.l0]) ?_
  simp only [if_neg (show ¬ (l.length : Int) < (l.length : Int) by omega)]
  exact Ev.now _
 ·intro m h s hs ih
  have b := hb l[m] (List.getElem_mem h)
  refine Ev.step (fun k => by rw [impl_greatest.l0]) ?_
  simp only [if_pos (show (m : Int) < (l.length : Int) by omega), if_pos (show 0 ≤ (m : Int) by omega), rd_nat h, w_succ (m := m) (by omega)]
  rw [w64 (x := -l[m]) (by omega) (by omega), List.foldl_cons]
  exact ih _ trivial
end Go.Proofs.Ytdlnhddpgopghaa.Com
namespace Go.Proofs.Ytdlnhddpgopghaa.Com
set_option linter.unusedSimpArgs false
set_option linter.unusedVariables false
set_option linter.unusedSectionVars false
open Go.RowKit Go.Proofs.YtdlnhddpgopghaaW.PrintWords Go.Proofs.YtdlnhddpgopghaaW.PrintMore Go.Proofs.Ytdlnhddpgopghaa.Q
theorem fv_char (b x : Int) (hb : 1 ≤ b) : 0 ≤ x - b * fv b x ∧ x - b * fv b x < b := by
 have h := Int.mul_tdiv_add_tmod x b
 have h1 := Int.tmod_lt_of_pos x (show 0 < b by omega)
 have h2 := Int.lt_tmod_of_pos x (show 0 < b by omega)
 unfold fv
 by_cases c : Int.tmod x b < 0
 ·rw [if_pos c, Int.mul_sub, Int.mul_one]
  omega
 ·rw [if_neg c]
  omega
theorem cv_is (b x : Int) (hb : 1 ≤ b) : cv b x = if fv b x * b = x then fv b x else fv b x + 1 := by
 have h1 := fv_char b x hb
 have h2 := fv_char b (-x) hb
 have hc : fv b (-x) = -cv b x := by unfold cv; omega
 rw [hc, Int.mul_neg] at h2
 rw [Int.mul_comm (fv b x) b]
 generalize fv b x = f at h1 ⊢
 generalize cv b x = c at h2 ⊢
 have hk : ∀ t : Int, b * (f + t) = b * f + b * t := fun t => Int.mul_add b f t
 by_cases e : b * f = x
 ·rw [if_pos e]
  rcases Int.lt_trichotomy c f with h | h | h
  ·have : b * (c + 1) ≤ b * f := Int.mul_le_mul_of_nonneg_left (by omega) (by omega)
   rw [Int.mul_add, Int.mul_one] at this
   omega
  ·exact h
  ·have : b * (f + 1) ≤ b * c := Int.mul_le_mul_of_nonneg_left (by omega) (by omega)
   rw [Int.mul_add, Int.mul_one] at this
   omega
 ·rw [if_neg e]
  rcases Int.lt_trichotomy c (f + 1) with h | h | h
  ·have : b * c ≤ b * f := Int.mul_le_mul_of_nonneg_left (by omega) (by omega)
   omega
  ·exact h
  ·have : b * (f + 2) ≤ b * c := Int.mul_le_mul_of_nonneg_left (by omega) (by omega)
   rw [Int.mul_add] at this
   omega
def ch (b x : Int) : List Int := if fv b x * b = x then [fv b x] else [fv b x, fv b x + 1]
def cands (b : Int) : List Int → List (List Int)
 | [] => [[]]
 | x :: r => (ch b x).flatMap fun c => (cands b r).map (c :: ·)
theorem ch_bd (b x : Int) (hx : -1000000 ≤ x ∧ x ≤ 1000000) : ∀ y ∈ ch b x, -1000001 ≤ y ∧ y ≤ 1000001 := by
 have := fv_bd b x hx
 intro y hy
 unfold ch at hy
 split at hy
 ·simp at hy; omega
 ·simp at hy; omega
theorem cands_len (b : Int) : ∀ v : List Int, ∀ l ∈ cands b v, l.length = v.length
 | [], l, h => by simp [cands] at h; simp [h]
 | x :: r, l, h => by
  simp only [cands, List.mem_flatMap, List.mem_map] at h
  obtain ⟨c, _, t, ht, rfl⟩ := h
  simp [cands_len b r t ht]
theorem cands_bd (b : Int) : ∀ v : List Int, (∀ x ∈ v, -1000000 ≤ x ∧ x ≤ 1000000) → ∀ l ∈ cands b v, ∀ y ∈ l, -1000001 ≤ y ∧ y ≤ 1000001
 | [], _, l, h, y, hy => by simp [cands] at h; subst h; simp at hy
 | x :: r, hv, l, h, y, hy => by
  simp only [cands, List.mem_flatMap, List.mem_map] at h
  obtain ⟨c, hc, t, ht, rfl⟩ := h
  rcases List.mem_cons.1 hy with rfl | hy
  ·exact ch_bd b x (hv x (by simp)) _ hc
  ·exact cands_bd b r (fun z hz => hv z (List.mem_cons_of_mem _ hz)) t ht y hy
def cost (b : Int) (sets v l : List Int) : Int := gr (sets.map fun x => eSum x 0 (errs b l v))
def upd (b : Int) (sets v : List Int) (st : List Int × Int) (l : List Int) : List Int × Int :=
 if st.2 < 0 then (l, cost b sets v l) else if cost b sets v l < st.2 then (l, cost b sets v l) else st
theorem mx_mx (s x : Int) : mx s (mx x (-x)) = mx (mx s x) (-x) := by unfold mx; (repeat' split) <;> omega
theorem most_ev (l : List Int) (hl : l.length ≤ 1048576) (hb : ∀ x ∈ l, -9223372036854775807 ≤ x ∧ x ≤ 9223372036854775807) : Ev (fun k => spec_l08Most.f k l) (gr l) := by
 unfold spec_l08Most.f
 have gen := ev_fold l (fun m (s : Int) k => spec_l08Most.l0 k l s (m : Int)) (fun d s => d.foldl (fun s x => mx (mx s x) (-x)) s) (fun _ _ => True) ?_ ?_ 0 0 (by omega) trivial
 ·exact gen
 ·intro s _
  refine Ev.step (fun k => by rw [spec_l08Most.l0]) ?_
  simp only [if_neg (show ¬ (l.length : Int) < (l.length : Int) by omega), List.foldl_nil]
  exact Ev.now _
 ·intro m hm s _ ih
  have hx := hb _ (List.getElem_mem hm)
  refine Ev.step (fun k => by rw [spec_l08Most.l0]) ?_
  simp only [if_pos (show (m : Int) < (l.length : Int) by omega), if_pos (show (0 : Int) ≤ (m : Int) by omega), rd_nat hm]
  rw [w64 (x := -l[m]) (by omega) (by omega), w_succ (m := m) (by omega)]
  have e1 : ∀ a c : Int, spec_l00Max.f a c = some (mx a c) := fun a c => by unfold spec_l00Max.f mx; split <;> split <;> first | rfl | (congr 1; omega)
  refine ev_bind' (e1 _ _) (ev_bind' (e1 _ _) ?_)
  rw [mx_mx]
  exact ih _ trivial
section
variable {b p : Int} {v sets : List Int} (hv : valsOk b v = true) (h12 : v.length ≤ 12) (hn : sets.length ≤ 12) (hs : ∀ x ∈ sets, 0 ≤ x ∧ x.toNat < 4096)
include hv h12 hn hs
theorem cost_in (l : List Int) (hl : l.length = v.length) (hy : ∀ y ∈ l, -1000001 ≤ y ∧ y ≤ 1000001) : (∀ x ∈ (sets.map fun x => eSum x 0 (errs b l v)), -24000000000 ≤ x ∧ x ≤ 24000000000) ∧ 0 ≤ cost b sets v l := by
 have key : ∀ x ∈ (sets.map fun x => eSum x 0 (errs b l v)), -24000000000 ≤ x ∧ x ≤ 24000000000 := by
  intro x hx
  obtain ⟨s, _, rfl⟩ := List.mem_map.1 hx
  have hbd := errs_bd (sets := sets) hv hl hy (by omega) hn hs
  have := eSum_bd s (errs b l v) 0 hbd
  have hlen := errs_len (b := b) hl
  omega
 exact ⟨key, (gr_bd 24000000000 (by omega) _ key).1⟩
theorem leaf_ev (st : List Int × Int) (l : List Int) (hl : l.length = v.length) (hy : ∀ y ∈ l, -1000001 ≤ y ∧ y ≤ 1000001) : Ev (fun k => impl_SystemRounding.leaf k p b sets v l st) (upd b sets v st l) := by
 unfold impl_SystemRounding.leaf upd
 obtain ⟨hc, h0⟩ := cost_in hv h12 hn hs l hl hy
 refine Ev.bind (implSetErrs_ev hv hl hy (by omega) hn hs) (Ev.bind (greatest_ev _ (by rw [List.length_map]; omega) (fun x hx => by have := hc x hx; omega)) ?_)
 show Ev (fun _ => if st.2 < 0 then some (l, cost b sets v l) else if cost b sets v l < st.2 then some (l, cost b sets v l) else some st) _
 by_cases c1 : st.2 < 0
 ·simp only [if_pos c1]; exact Ev.now _
 ·simp only [if_neg c1]
  by_cases c2 : cost b sets v l < st.2
  ·simp only [if_pos c2]; exact Ev.now _
  ·simp only [if_neg c2]; exact Ev.now _
omit hv h12 hn hs in
theorem compact_two (a c : Int) : compactL [a, c] = if c = a then [a] else [a, c] := by
 have k0 : Go.Lib.keeps #[a, c] 0 = true := by simp [Go.Lib.keeps]
 have k1 : Go.Lib.keeps #[a, c] 1 = decide (c ≠ a) := by simp [Go.Lib.keeps]
 show List.map _ (List.filter (Go.Lib.keeps #[a, c]) [0, 1]) = _
 rw [List.filter_cons, k0, if_pos rfl, List.filter_cons, k1]
 by_cases e : c = a
 ·simp [e]
 ·simp [e]
theorem choices_tells (i : Nat) (hi : i < v.length) : impl_Values_choices.f b v (i : Int) = some (ch b v[i]) := by
 obtain ⟨b1, b2, b3⟩ := valsOk_is hv
 have hx := b3 _ (List.getElem_mem hi)
 unfold impl_Values_choices.f
 rw [if_pos (by omega), if_pos (by omega), rd_nat hi, implFloor_tells b _ b1 hx, Option.bind_some, implCeil_tells b _ b1 hx, Option.bind_some]
 unfold slices_Compact_int64_int64.f
 rw [if_pos (by simp), Option.bind_some]
 congr 1
 rw [cv_is b v[i] b1.1]
 rw [compact_two]
 unfold ch
 by_cases c : fv b v[i] * b = v[i]
 ·rw [if_pos c, if_pos c, if_pos rfl]
 ·rw [if_neg c, if_neg c, if_neg (by omega)]
theorem find_ev : ∀ (r pre : List Int) (st : List Int × Int), pre.length + r.length = v.length → r = v.drop pre.length → (∀ y ∈ pre, -1000001 ≤ y ∧ y ≤ 1000001) →
  Ev (fun k => impl_SystemRounding.find p b sets v k pre st) (((cands b r).map (pre ++ ·)).foldl (upd b sets v) st)
 | [], pre, st, hl, hr, hy => by
  rw [List.length_nil, Nat.add_zero] at hl
  refine Ev.step (fun k => by rw [impl_SystemRounding.find]) ?_
  simp only [if_pos (show pre.length < 1000000 by omega), if_pos (show (pre.length : Int) = (v.length : Int) by omega), cands, List.map_cons, List.map_nil, List.append_nil, List.foldl_cons, List.foldl_nil]
  exact leaf_ev hv h12 hn hs st pre hl hy
 | x :: r, pre, st, hl, hr, hy => by
  rw [List.length_cons] at hl
  have hi : pre.length < v.length := by omega
  have hx : v[pre.length] = x ∧ r = v.drop (pre.length + 1) := by
   rw [List.drop_eq_getElem_cons hi] at hr
   injection hr with h1 h2
   exact ⟨h1.symm, h2⟩
  obtain ⟨b1, b2, b3⟩ := valsOk_is hv
  have hxb := b3 _ (List.getElem_mem hi)
  rw [hx.1] at hxb
  refine Ev.step (fun k => by rw [impl_SystemRounding.find]) ?_
  simp only [if_pos (show pre.length < 1000000 by omega), if_neg (show ¬ (pre.length : Int) = (v.length : Int) by omega)]
  refine ev_bind' (choices_tells hv h12 hn hs pre.length hi) ?_
  rw [hx.1]
  have hch := ch_bd b x hxb
  have loop : ∀ (cs : List Int) (st : List Int × Int), (∀ c ∈ cs, -1000001 ≤ c ∧ c ≤ 1000001) → Ev (fun k => impl_SystemRounding.loop (impl_SystemRounding.find p b sets v k) pre cs st) (((cs.flatMap fun c => (cands b r).map (c :: ·)).map (pre ++ ·)).foldl (upd b sets v) st) := by
   intro cs
   induction cs with
   | nil =>
    intro st _
    simp only [impl_SystemRounding.loop, List.flatMap_nil, List.map_nil, List.foldl_nil]
    exact Ev.now _
   | cons c cs ih =>
    intro st hc
    have h1 := find_ev r (pre ++ [c]) st (by rw [List.length_append]; simp; omega) (by rw [List.length_append]; exact hx.2) (fun y hy' => by
     rcases List.mem_append.1 hy' with h | h
     ·exact hy y h
     ·have : y = c := by simpa using h
      rw [this]
      exact hc c (by simp))
    have h2 := ih (((cands b r).map ((pre ++ [c]) ++ ·)).foldl (upd b sets v) st) (fun z hz => hc z (List.mem_cons_of_mem _ hz))
    simp only [impl_SystemRounding.loop, List.flatMap_cons, List.map_append, List.foldl_append, List.map_map]
    refine Ev.bind h1 ?_
    have e : ((fun x => pre ++ x) ∘ fun x => c :: x) = fun x => (pre ++ [c]) ++ x := by funext t; simp
    rw [e]
    exact h2
  exact loop (ch b x) st hch
end
def lst (b : Int) : List Int → Nat → List Int
 | [], _ => []
 | x :: r, u => (fv b x + ((bitAt u r.length : Nat) : Int)) :: lst b r u
def fit (b : Int) : List Int → Nat → Bool
 | [], _ => true
 | x :: r, u => (decide (bitAt u r.length = 0) || decide (fv b x * b ≠ x)) && fit b r u
theorem bit_high (u m p t : Nat) (h : p < m) : bitAt (u + 2 ^ m * t) p = bitAt u p := by
 unfold bitAt
 obtain ⟨q, rfl⟩ : ∃ q, m = p + 1 + q := ⟨m - p - 1, by omega⟩
 have e : 2 ^ (p + 1 + q) * t = 2 ^ p * (2 * (2 ^ q * t)) := by
  rw [Nat.pow_add, Nat.pow_succ]
  simp only [Nat.mul_assoc]
 rw [e, Nat.add_mul_div_left _ _ (Nat.pow_pos (by omega))]
 omega
theorem lst_high (b : Int) (m t : Nat) : ∀ (r : List Int) (u : Nat), r.length ≤ m → lst b r (u + 2 ^ m * t) = lst b r u
 | [], _, _ => rfl
 | x :: r, u, h => by
  rw [List.length_cons] at h
  rw [lst, lst, bit_high u m r.length t (by omega), lst_high b m t r u (by omega)]
theorem fit_high (b : Int) (m t : Nat) : ∀ (r : List Int) (u : Nat), r.length ≤ m → fit b r (u + 2 ^ m * t) = fit b r u
 | [], _, _ => rfl
 | x :: r, u, h => by
  rw [List.length_cons] at h
  rw [fit, fit, bit_high u m r.length t (by omega), fit_high b m t r u (by omega)]
theorem bit_low (u m : Nat) (h : u < 2 ^ m) : bitAt u m = 0 ∧ bitAt (u + 2 ^ m * 1) m = 1 := by
 unfold bitAt
 refine ⟨by rw [Nat.div_eq_of_lt h], ?_⟩
 rw [Nat.add_mul_div_left _ _ (Nat.pow_pos (by omega)), Nat.div_eq_of_lt h]
def some_ (b : Int) (v : List Int) (u : Nat) : Option (List Int) := if fit b v u = true then some (lst b v u) else none
theorem fm_congr {α β : Type} {f g : α → Option β} : ∀ {l : List α}, (∀ x ∈ l, f x = g x) → l.filterMap f = l.filterMap g
 | [], _ => rfl
 | x :: l, h => by rw [List.filterMap_cons, List.filterMap_cons, h x (by simp), fm_congr (fun y hy => h y (List.mem_cons_of_mem _ hy))]
theorem ups_cands (b : Int) : ∀ v : List Int, (List.range (2 ^ v.length)).filterMap (some_ b v) = cands b v
 | [] => by simp [some_, fit, lst, cands, List.range_succ]
 | x :: r => by
  have ih := ups_cands b r
  rw [List.length_cons, Nat.pow_succ, show 2 ^ r.length * 2 = 2 ^ r.length + 2 ^ r.length by omega, List.range_add, List.filterMap_append, List.filterMap_map]
  have low : (List.range (2 ^ r.length)).filterMap (some_ b (x :: r)) = ((List.range (2 ^ r.length)).filterMap (some_ b r)).map (fv b x :: ·) := by
   rw [List.map_filterMap]
   refine fm_congr fun u hu => ?_
   have hu := List.mem_range.1 hu
   unfold some_
   rw [fit, lst, (bit_low u r.length hu).1]
   simp
  have high : (List.range (2 ^ r.length)).filterMap (some_ b (x :: r) ∘ fun x => 2 ^ r.length + x) = if fv b x * b = x then [] else ((List.range (2 ^ r.length)).filterMap (some_ b r)).map ((fv b x + 1) :: ·) := by
   by_cases c : fv b x * b = x
   ·rw [if_pos c]
    rw [List.filterMap_eq_nil_iff]
    intro u hu
    have hu := List.mem_range.1 hu
    show some_ b (x :: r) (2 ^ r.length + u) = none
    unfold some_
    rw [Nat.add_comm, show u + 2 ^ r.length = u + 2 ^ r.length * 1 by omega, fit, (bit_low u r.length hu).2]
    simp [c]
   ·rw [if_neg c, List.map_filterMap]
    refine fm_congr fun u hu => ?_
    have hu := List.mem_range.1 hu
    show some_ b (x :: r) (2 ^ r.length + u) = _
    unfold some_
    rw [Nat.add_comm, show u + 2 ^ r.length = u + 2 ^ r.length * 1 by omega, fit, lst, (bit_low u r.length hu).2, fit_high b r.length 1 r u (Nat.le_refl _), lst_high b r.length 1 r u (Nat.le_refl _)]
    simp [c]
  rw [low, high, ih, cands]
  unfold ch
  by_cases c : fv b x * b = x
  ·rw [if_pos c, if_pos c]; simp
  ·rw [if_neg c, if_neg c]; simp
theorem fold_filter {α β σ : Type} (g : α → Option β) (f : σ → β → σ) (h : σ → α → σ) (h1 : ∀ s x, g x = none → h s x = s) (h2 : ∀ s x y, g x = some y → h s x = f s y) : ∀ (l : List α) (s : σ), (l.filterMap g).foldl f s = l.foldl h s
 | [], s => rfl
 | x :: l, s => by
  rw [List.filterMap_cons, List.foldl_cons]
  cases e : g x with
  | none => rw [h1 s x e]; exact fold_filter g f h h1 h2 l s
  | some y => rw [List.foldl_cons, h2 s x y e]; exact fold_filter g f h h1 h2 l (f s y)
section
variable {b : Int} {v sets : List Int} (hv : valsOk b v = true) (h12 : v.length ≤ 12) (hn : sets.length ≤ 12) (hs : ∀ x ∈ sets, 0 ≤ x ∧ x.toNat < 4096)
include hv h12 hn hs
theorem lst_len : ∀ (r : List Int) (u : Nat), (lst b r u).length = r.length
 | [], _ => rfl
 | x :: r, u => by rw [lst, List.length_cons, List.length_cons, lst_len r u]
theorem lst_bd : ∀ (r : List Int) (u : Nat), (∀ x ∈ r, -1000000 ≤ x ∧ x ≤ 1000000) → ∀ y ∈ lst b r u, -1000001 ≤ y ∧ y ≤ 1000001
 | [], _, _, y, hy => by simp [lst] at hy
 | x :: r, u, h, y, hy => by
  rw [lst] at hy
  rcases List.mem_cons.1 hy with rfl | hy
  ·have := fv_bd b x (h x (by simp))
   have := bitAt_le u r.length
   omega
  ·exact lst_bd r u (fun z hz => h z (List.mem_cons_of_mem _ hz)) y hy
def step1 (b : Int) (sets v : List Int) (st : List Int × Int) (u : Nat) : List Int × Int := match some_ b v u with
 | some l => upd b sets v st l
 | none => st
theorem inner_ev (st : List Int × Int) (u : Nat) (hu : u < 4096) (R : List Int × Int × Bool)
  (cont : Ev (fun k => spec_SystemRounding.l0 k (step1 b sets v st u).1 (step1 b sets v st u).2 ((u + 1 : Nat) : Int) (v.length : Int) sets b v) R) :
  Ev (fun k => spec_SystemRounding.l1 k st.1 st.2 (u : Int) [] true 0 (v.length : Int) sets b v) R := by
 obtain ⟨b1, b2, b3⟩ := valsOk_is hv
 have gen := ev_fold v (fun m (s : List Int × Bool) k => spec_SystemRounding.l1 k st.1 st.2 (u : Int) s.1 s.2 (m : Int) (v.length : Int) sets b v) (fun d s => R) (fun m s => s.1 ++ lst b (v.drop m) u = lst b v u ∧ (s.2 && fit b (v.drop m) u) = fit b v u ∧ s.1.length = m) ?_ ?_ 0 ([], true) (by omega) ⟨by simp, by simp, rfl⟩
 ·exact gen
 ·rintro ⟨l, f⟩ ⟨h1, h2, h3⟩
  simp only at h1 h2 h3
  rw [List.drop_length] at h1 h2
  rw [show lst b [] u = [] from rfl, List.append_nil] at h1
  rw [show fit b [] u = true from rfl, Bool.and_true] at h2
  subst h1 h2
  refine Ev.step (fun k => by rw [spec_SystemRounding.l1]) ?_
  rw [w_succ (m := u) (by omega)]
  simp only [if_neg (show ¬ (v.length : Int) < (v.length : Int) by omega)]
  by_cases c : fit b v u = true
  ·have hl := lst_len (b := b) hv h12 hn hs v u
   have hy := lst_bd (b := b) hv h12 hn hs v u b3
   obtain ⟨hc, h0⟩ := cost_in hv h12 hn hs _ hl hy
   have e1 : step1 b sets v st u = upd b sets v st (lst b v u) := by unfold step1 some_; rw [if_pos c]
   rw [e1] at cont
   simp only [c, if_true]
   refine Ev.bind (specSetErrs_ev hv hl hy (by omega) hn hs) (Ev.bind (most_ev _ (by rw [List.length_map]; omega) (fun x hx => by have := hc x hx; omega)) ?_)
   show Ev (fun k => if st.2 < 0 then spec_SystemRounding.l0 k (lst b v u) (cost b sets v (lst b v u)) _ _ _ _ _ else if cost b sets v (lst b v u) < st.2 then spec_SystemRounding.l0 k (lst b v u) (cost b sets v (lst b v u)) _ _ _ _ _ else spec_SystemRounding.l0 k st.1 st.2 _ _ _ _ _) R
   unfold upd at cont
   by_cases c1 : st.2 < 0
   ·simp only [if_pos c1] at cont ⊢; exact cont
   ·by_cases c2 : cost b sets v (lst b v u) < st.2
    ·simp only [if_neg c1, if_pos c2] at cont ⊢; exact cont
    ·simp only [if_neg c1, if_neg c2] at cont ⊢; exact cont
  ·have e1 : step1 b sets v st u = st := by unfold step1 some_; rw [if_neg c]
   rw [e1] at cont
   simp only [if_neg c]
   exact cont
 ·rintro m hm ⟨l, f⟩ ⟨h1, h2, h3⟩ ih
  simp only at h1 h2 h3
  have hx := b3 _ (List.getElem_mem hm)
  have hbd := fv_bd b v[m] hx
  have hpb := prod_bd (b := b) (y := fv b v[m]) b1 (by omega)
  have hdl : (v.drop (m + 1)).length = v.length - 1 - m := by rw [List.length_drop]; omega
  rw [List.drop_eq_getElem_cons hm, lst, hdl] at h1
  rw [List.drop_eq_getElem_cons hm, fit, hdl] at h2
  have hbt := bit_tells u (v.length - 1 - m) hu (by omega)
  have hbl := bitAt_le u (v.length - 1 - m)
  refine Ev.step (fun k => by rw [spec_SystemRounding.l1]) ?_
  have hw1 : wrap64 ((v.length : Int) - 1) = ((v.length - 1 : Nat) : Int) := w_pred (by omega) (by omega)
  have hw2 : wrap64 (((v.length - 1 : Nat) : Int) - (m : Int)) = ((v.length - 1 - m : Nat) : Int) := by rw [w64 (by omega) (by omega)]; omega
  simp only [if_pos (show (m : Int) < (v.length : Int) by omega), if_pos (show (0 : Int) ≤ (m : Int) by omega), rd_nat hm]
  refine ev_bind' (specFloor_tells b _ b1 hx) ?_
  rw [hw1, hw2, uw _ ⟨by omega, by omega⟩, hbt, w_succ (m := m) (by omega), w64 (x := fv b v[m] + ((bitAt u (v.length - 1 - m) : Nat) : Int)) (by omega) (by omega)]
  rw [Int.mul_comm] at hpb
  rw [w64 (x := fv b v[m] * b) (by omega) (by omega)]
  simp only [if_pos (show (0 : Int) ≤ ((v.length - 1 - m : Nat) : Int) by omega), if_pos (show l.length < 17592186044416 by omega)]
  have hnext : ∀ f', (f' && fit b (v.drop (m + 1)) u) = fit b v u → Ev (fun k => spec_SystemRounding.l1 k st.1 st.2 (u : Int) (l ++ [fv b v[m] + ((bitAt u (v.length - 1 - m) : Nat) : Int)]) f' ((m + 1 : Nat) : Int) (v.length : Int) sets b v) R := fun f' hf' => ih (_, f') ⟨by simpa using h1, hf', by simp [h3]⟩
  cases f with
  | false =>
   simp only [Bool.false_eq_true, if_false]
   exact hnext false (by simpa using h2)
  | true =>
   simp only [if_true]
   by_cases c0 : bitAt u (v.length - 1 - m) = 0
   ·simp only [if_pos (show ((bitAt u (v.length - 1 - m) : Nat) : Int) = 0 by omega)]
    exact hnext true (by rw [← h2]; simp [c0])
   ·simp only [if_neg (show ¬ ((bitAt u (v.length - 1 - m) : Nat) : Int) = 0 by omega)]
    refine hnext _ ?_
    rw [← h2]
    by_cases c1 : fv b v[m] * b = v[m]
    ·simp [c0, c1]
    ·have : (fv b v[m] * b != v[m]) = true := by simpa using c1
     simp [c0, c1, this]
theorem specRounds_all : Ev (fun k => spec_SystemRounding.l0 k [] (-1) 0 (v.length : Int) sets b v) (((cands b v).foldl (upd b sets v) ([], -1)).1, ((cands b v).foldl (upd b sets v) ([], -1)).2, true) := by
 have hp := pow_bd h12
 have hshl := shl_one v.length h12
 have h2 : ((2 : Int) ^ v.length) = ((2 ^ v.length : Nat) : Int) := by exact_mod_cast rfl
 have fin : ∀ s : List Int × Int, (List.range (2 ^ v.length)).foldl (step1 b sets v) s = (cands b v).foldl (upd b sets v) s := by
  intro s
  rw [← ups_cands b v]
  exact (fold_filter (some_ b v) (upd b sets v) (step1 b sets v) (fun s x e => by unfold step1; rw [e]) (fun s x y e => by unfold step1; rw [e]) _ s).symm
 have gen := ev_fold (List.range (2 ^ v.length)) (fun m (s : List Int × Int) k => spec_SystemRounding.l0 k s.1 s.2 (m : Int) (v.length : Int) sets b v) (fun d s => ((d.foldl (step1 b sets v) s).1, (d.foldl (step1 b sets v) s).2, true)) (fun _ _ => True) ?_ ?_ 0 ([], -1) (by omega) trivial
 ·rw [List.drop_zero, fin] at gen
  exact gen
 ·rintro s _
  refine Ev.step (fun k => by rw [spec_SystemRounding.l0]) ?_
  rw [List.length_range, uw _ ⟨by omega, by omega⟩, hshl, h2]
  simp only [if_pos (show (0 : Int) ≤ (v.length : Int) by omega), if_neg (show ¬ ((2 ^ v.length : Nat) : Int) < ((2 ^ v.length : Nat) : Int) by omega), List.foldl_nil]
  exact Ev.now _
 ·rintro m hm s _ ih
  have hm' : m < 2 ^ v.length := by simpa using hm
  refine Ev.step (fun k => by rw [spec_SystemRounding.l0]) ?_
  rw [uw _ ⟨by omega, by omega⟩, hshl, h2]
  simp only [if_pos (show (0 : Int) ≤ (v.length : Int) by omega), if_pos (show (m : Int) < ((2 ^ v.length : Nat) : Int) by omega), List.getElem_range, List.foldl_cons]
  exact inner_ev hv h12 hn hs s m (by omega) _ (ih _ trivial)
end
theorem full_lt3 {p : Nat} (h : p ≤ 12) {x : Int} (hx : 0 ≤ x ∧ x ≤ full p) : x.toNat < 2 ^ p ∧ x.toNat < 4096 := by
 rw [full_nat p h] at hx
 have := pow_bd h
 omega
def sysRound (p : Int) (sets : List Int) (b : Int) (v : List Int) : List Int × Int × Bool :=
 if validSys p sets = true ∧ valsOk b v = true ∧ (v.length : Int) = p then (((cands b v).foldl (upd b sets v) ([], -1)).1, ((cands b v).foldl (upd b sets v) ([], -1)).2, true) else ([], 0, false)
theorem specBoth_ev (p : Int) (sets : List Int) (b : Int) (v : List Int) (hx : sets.length ≤ 1048576) (hx' : v.length ≤ 1048576) : Ev (fun k => spec_l10Both.f k p sets b v) (decide (validSys p sets = true ∧ valsOk b v = true ∧ (v.length : Int) = p)) := by
 unfold spec_l10Both.f
 refine Ev.bind (specIs_ev p sets hx) ?_
 by_cases h1 : validSys p sets = true
 ·simp only [h1, if_true, true_and]
  refine Ev.bind (specVals_ev b v hx') ?_
  by_cases h2 : valsOk b v = true
  ·simp only [h2, if_true, true_and]
   rw [show decide ((v.length : Int) = p) = ((v.length : Int) == p) from by by_cases c : (v.length : Int) = p <;> simp [c]]
   exact Ev.now _
  ·simp only [if_neg h2, h2, false_and, decide_false]
   exact Ev.now _
 ·simp only [if_neg h1, h1, false_and, decide_false]
  exact Ev.now _
theorem fits_tells (p : Int) (sets : List Int) (b : Int) (v : List Int) : impl_fits.f p sets b v = some (decide (validSys p sets = true ∧ valsOk b v = true ∧ (v.length : Int) = p)) := by
 unfold impl_fits.f impl_size_int64.f
 rw [implValidSys_tells, Option.bind_some]
 by_cases h1 : validSys p sets = true
 ·rw [if_pos h1, implVals_tells, Option.bind_some]
  by_cases h2 : valsOk b v = true
  ·rw [if_pos h2, Option.bind_some]
   congr 1
   by_cases c : (v.length : Int) = p
   ·simp [h1, h2, c]
   ·simp [h1, h2, c, Ne.symm c]
  ·rw [if_neg h2]
   simp [h2]
 ·rw [if_neg h1]
  simp [h1]
theorem sysRound_both (p : Int) (sets : List Int) (b : Int) (v : List Int) (hx : sets.length ≤ 1048576) (hx' : v.length ≤ 1048576) :
  Ev (fun k => spec_SystemRounding.f k p sets b v) (sysRound p sets b v) ∧ Ev (fun k => impl_SystemRounding.f k p sets b v) (sysRound p sets b v) := by
 unfold spec_SystemRounding.f impl_SystemRounding.f sysRound
 have hb := specBoth_ev p sets b v hx hx'
 by_cases c : validSys p sets = true ∧ valsOk b v = true ∧ (v.length : Int) = p
 ·rw [decide_eq_true c] at hb
  obtain ⟨h1, h2, rfl⟩ := c
  obtain ⟨⟨q, hq, hq12⟩, hn, hs⟩ := validSys_of h1
  have h12 : v.length ≤ 12 := by omega
  have hs' : ∀ x ∈ sets, 0 ≤ x ∧ x.toNat < 4096 := fun x hx => ⟨(hs x hx).1, (full_lt3 h12 (hs x hx)).2⟩
  rw [if_pos ⟨h1, h2, rfl⟩]
  refine ⟨Ev.bind hb ?_, ev_bind' (a := true) (by rw [fits_tells, decide_eq_true ⟨h1, h2, rfl⟩]) ?_⟩
  ·simp only [if_true]
   exact specRounds_all h2 h12 hn hs'
  ·simp only [if_true]
   have := find_ev (p := (v.length : Int)) h2 h12 hn hs' v [] ([], -1) (by simp) rfl (by simp)
   rw [show ((cands b v).map (([] : List Int) ++ ·)) = cands b v by simp] at this
   exact Ev.bind this (Ev.now _)
 ·rw [decide_eq_false c] at hb
  rw [if_neg c]
  refine ⟨Ev.bind hb ?_, ev_bind' (a := false) (by rw [fits_tells, decide_eq_false c]) ?_⟩
  ·simp only [Bool.false_eq_true, if_false]
   exact Ev.now _
  ·simp only [Bool.false_eq_true, if_false]
   exact Ev.now _
theorem fold_upd (b : Int) (sets v : List Int) : ∀ (ls : List (List Int)) (st : List Int × Int), (∀ l ∈ ls, 0 ≤ cost b sets v l) → 0 ≤ st.2 →
  let e := ls.foldl (upd b sets v) st
  e.2 ≤ st.2 ∧ 0 ≤ e.2 ∧ (∀ l ∈ ls, e.2 ≤ cost b sets v l) ∧ (e = st ∨ ∃ l ∈ ls, e = (l, cost b sets v l))
 | [], st, _, h => ⟨Int.le_refl _, h, by simp, .inl rfl⟩
 | l :: ls, st, hc, h => by
  have h0 := hc l (by simp)
  have hst : (upd b sets v st l).2 ≤ st.2 ∧ 0 ≤ (upd b sets v st l).2 ∧ (upd b sets v st l).2 ≤ cost b sets v l ∧ (upd b sets v st l = st ∨ upd b sets v st l = (l, cost b sets v l)) := by
   unfold upd
   rw [if_neg (by omega)]
   by_cases c : cost b sets v l < st.2
   ·rw [if_pos c]; exact ⟨by simp; omega, h0, Int.le_refl _, .inr rfl⟩
   ·rw [if_neg c]; exact ⟨Int.le_refl _, h, by omega, .inl rfl⟩
  obtain ⟨a1, a2, a3, a4⟩ := hst
  obtain ⟨b1, b2, b3, b4⟩ := fold_upd b sets v ls (upd b sets v st l) (fun x hx => hc x (List.mem_cons_of_mem _ hx)) a2
  simp only [List.foldl_cons]
  refine ⟨by omega, b2, ?_, ?_⟩
  ·intro x hx
   rcases List.mem_cons.1 hx with rfl | hx
   ·omega
   ·exact b3 x hx
  ·rcases b4 with e | ⟨x, hx, e⟩
   ·rw [e]
    rcases a4 with e2 | e2
    ·exact .inl e2
    ·exact .inr ⟨l, by simp, e2⟩
   ·exact .inr ⟨x, List.mem_cons_of_mem _ hx, e⟩
theorem cands_ne (b : Int) : ∀ v : List Int, ∃ l r, cands b v = l :: r
 | [] => ⟨[], [], rfl⟩
 | x :: r => by
  obtain ⟨l, t, h⟩ := cands_ne b r
  rw [cands, h]
  unfold ch
  split <;> exact ⟨_, _, rfl⟩
theorem best_is {b : Int} {sets v : List Int} (hc : ∀ l ∈ cands b v, 0 ≤ cost b sets v l) :
  let e := (cands b v).foldl (upd b sets v) ([], -1)
  (∃ l ∈ cands b v, e = (l, cost b sets v l)) ∧ ∀ l ∈ cands b v, e.2 ≤ cost b sets v l := by
 obtain ⟨l, r, h⟩ := cands_ne b v
 rw [h] at hc ⊢
 simp only [List.foldl_cons]
 have e0 : upd b sets v ([], -1) l = (l, cost b sets v l) := by unfold upd; rw [if_pos (by simp)]
 rw [e0]
 obtain ⟨b1, b2, b3, b4⟩ := fold_upd b sets v r (l, cost b sets v l) (fun x hx => hc x (List.mem_cons_of_mem _ hx)) (hc l (by simp))
 refine ⟨?_, ?_⟩
 ·rcases b4 with e | ⟨x, hx, e⟩
  ·exact ⟨l, by simp, e⟩
  ·exact ⟨x, List.mem_cons_of_mem _ hx, e⟩
 ·intro x hx
  rcases List.mem_cons.1 hx with rfl | hx
  ·exact b1
  ·exact b3 x hx
end Go.Proofs.Ytdlnhddpgopghaa.Com
namespace Go.Proofs.Ytdlnhddpgopghaa.Com
set_option linter.unusedSimpArgs false
set_option linter.unusedVariables false
open Go.RowKit Go.Proofs.YtdlnhddpgopghaaW.PrintWords Go.Proofs.Ytdlnhddpgopghaa.Q
def markL (n : Nat) (a : Int) : List Int := (List.range n).map fun (i : Nat) => a + (i : Int)
theorem markL_len (n : Nat) (a : Int) : (markL n a).length = n := by simp [markL]
theorem markL_at (n : Nat) (a : Int) (i : Nat) (h : i < (markL n a).length) : (markL n a)[i] = a + i := by simp [markL]
theorem markL_succ (n : Nat) (a : Int) : markL (n + 1) a = markL n a ++ [a + n] := by
 unfold markL
 rw [List.range_succ, List.map_append]
 rfl
theorem mark_set (xs : List Int) (m : Nat) (a : Int) (h : m < xs.length) : (markL m a ++ xs.drop m).set m (a + m) = markL (m + 1) a ++ xs.drop (m + 1) := by
 rw [List.set_append_right _ _ (by rw [markL_len]; omega), markL_len, Nat.sub_self, List.drop_eq_getElem_cons h, List.set_cons_zero, markL_succ, List.append_assoc]
 rfl
theorem markInt64S_ev (xs : List Int) (a : Int) (hx : xs.length ≤ 1048576) (ha : 0 ≤ a ∧ a ≤ 1000000000000) : Ev (fun k => laws_markInt64S.f k xs a) (a + xs.length, markL xs.length a) := by
 unfold laws_markInt64S.f
 have gen := ev_count xs.length (fun m (s : List Int × Int) k => laws_markInt64S.l0 k s.1 s.2 (m : Int)) (a + (xs.length : Int), markL xs.length a) (fun m s => s = (markL m a ++ xs.drop m, a + m)) ?_ ?_ 0 (xs, a) (by omega) (by simp [markL])
 ·exact gen
 ·rintro s rfl
  refine Ev.step (fun k => by rw [laws_markInt64S.l0]) ?_
  have hl : (markL xs.length a ++ xs.drop xs.length).length = xs.length := by rw [List.length_append, markL_len, List.length_drop]; omega
  rw [List.drop_length, List.append_nil] at hl ⊢
  simp only [hl, if_neg (show ¬ (xs.length : Int) < (xs.length : Int) by omega)]
  exact Ev.now _
 ·rintro m s hm rfl
  refine ⟨_, rfl, fun ih => ?_⟩
  refine Ev.step (fun k => by rw [laws_markInt64S.l0]) ?_
  have hl : (markL m a ++ xs.drop m).length = xs.length := by rw [List.length_append, markL_len, List.length_drop]; omega
  simp only [hl, if_pos (show (m : Int) < (xs.length : Int) by omega), if_pos (show 0 ≤ (m : Int) by omega), Int.toNat_natCast, mark_set xs m a hm, w_succ (m := m) (by omega)]
  rw [w64 (by omega) (by omega)]
  simp only at ih
  rwa [show a + ((m + 1 : Nat) : Int) = a + (m : Int) + 1 by omega] at ih
theorem heldInt64S_ev (n : Nat) (a : Int) (hx : n ≤ 1048576) (ha : 0 ≤ a ∧ a ≤ 1000000000000) : Ev (fun k => laws_heldInt64S.f k (markL n a) a) (a + n) := by
 unfold laws_heldInt64S.f
 have gen := ev_count n (fun m (s : Int) k => laws_heldInt64S.l0 k (markL n a) s (m : Int)) (a + (n : Int)) (fun m s => s = a + m) ?_ ?_ 0 a (by omega) (by simp)
 ·exact gen
 ·rintro s rfl
  refine Ev.step (fun k => by rw [laws_heldInt64S.l0]) ?_
  simp only [markL_len, if_neg (show ¬ (n : Int) < (n : Int) by omega)]
  exact Ev.now _
 ·rintro m s hm rfl
  refine ⟨_, rfl, fun ih => ?_⟩
  refine Ev.step (fun k => by rw [laws_heldInt64S.l0]) ?_
  have h : m < (markL n a).length := by rw [markL_len]; exact hm
  simp only [if_pos (show (m : Int) < ((markL n a).length : Int) by rw [markL_len]; omega), if_pos (show 0 ≤ (m : Int) by omega), rd_nat h, markL_at, if_true, w_succ (m := m) (by omega)]
  rw [w64 (by omega) (by omega)]
  rwa [show a + ((m + 1 : Nat) : Int) = a + (m : Int) + 1 by omega] at ih
end Go.Proofs.Ytdlnhddpgopghaa.Com
namespace Go.Proofs.Ytdlnhddpgopghaa.Com
set_option linter.unusedSimpArgs false
set_option linter.unusedVariables false
open Go.RowKit Go.Proofs.YtdlnhddpgopghaaW.PrintWords Go.Proofs.Ytdlnhddpgopghaa.Q
theorem markSystem_ev (p : Int) (l : List Int) (hx : l.length ≤ 1048576) : Ev (fun k => laws_markSystem.f k p l 1) (1 + l.length, markL l.length 1) := by
 unfold laws_markSystem.f
 exact Ev.bind (markInt64S_ev l 1 hx (by omega)) (Ev.now _)
end Go.Proofs.Ytdlnhddpgopghaa.Com
namespace Go.Proofs.Ytdlnhddpgopghaa.Pure
set_option linter.unusedSimpArgs false
set_option linter.unusedVariables false
set_option linter.unusedSectionVars false
open Go.RowKit Go.Proofs.Ytdlnhddpgopghaa.Q Go.Proofs.YtdlnhddpgopghaaW.PrintWords Go.Proofs.YtdlnhddpgopghaaW.PrintLast Go.Proofs.Ytdlnhddpgopghaa.Com
theorem sysRound_len (p : Int) (sets : List Int) (b : Int) (v : List Int) : (sysRound p sets b v).1.length ≤ 12 := by
 unfold sysRound
 by_cases c : validSys p sets = true ∧ valsOk b v = true ∧ (v.length : Int) = p
 ·rw [if_pos c]
  obtain ⟨h1, h2, rfl⟩ := c
  obtain ⟨⟨q, hq, hq12⟩, hn, hs⟩ := validSys_of h1
  have h12 : v.length ≤ 12 := by omega
  have hs' : ∀ x ∈ sets, 0 ≤ x ∧ x.toNat < 4096 := fun x hx => ⟨(hs x hx).1, (full_lt3 h12 (hs x hx)).2⟩
  obtain ⟨b1, b2, b3⟩ := valsOk_is h2
  obtain ⟨⟨l, hl, e⟩, _⟩ := best_is (sets := sets) (b := b) (v := v) (fun l hl => (cost_in h2 h12 hn hs' l (cands_len b v l hl) (cands_bd b v b3 l hl)).2)
  have e1 := cands_len b v l hl
  show ((cands b v).foldl (upd b sets v) ([], -1)).1.length ≤ 12
  rw [show (cands b v).foldl (upd b sets v) ([], -1) = (l, cost b sets v l) from e]
  show l.length ≤ 12
  omega
 ·rw [if_neg c]
  simp
theorem FnExactSystemRounding : laws_FnExactSystemRounding.Pure := by
 intro p sets b v _ hs0 _ hv0
 apply ev_of
 unfold laws_FnExactSystemRounding.f
 rcases szSystem_tells p sets hs0.1 with ⟨e, _⟩ | ⟨t, e, t0, hx⟩
 ·refine ev_bind' e ?_
  simp only [if_pos (show (-1 : Int) < 0 by omega)]
  exact Ev.now _
 have ht : t ≤ 1048576 := by
  unfold laws_szSystem.f at e
  rw [sz_tells sets 1048576 hs0.1 (by omega), Option.bind_some] at e
  by_cases c : (1048576 : Int) - (sets.length : Int) < 0
  ·rw [if_pos c] at e; simp at e; omega
  ·rw [if_neg c, if_neg (by omega)] at e; simp at e; omega
 refine ev_bind' e ?_
 simp only [if_neg (show ¬ t < 0 by omega)]
 unfold laws_szValues.f
 rw [sz_tells v t hv0.1 (by omega), Option.bind_some]
 by_cases c : t - (v.length : Int) < 0
 ·rw [if_pos c]
  simp only [if_pos (show (-1 : Int) < 0 by omega), Option.bind_some]
  exact Ev.now _
 rw [if_neg c]
 have hx' : v.length ≤ 1048576 := by omega
 simp only [if_neg c, Option.bind_some]
 obtain ⟨E1, E2⟩ := sysRound_both p sets b v hx hx'
 have g1 := sysRound_len p sets b v
 obtain ⟨⟨g, m, bb⟩, hg⟩ : ∃ r, sysRound p sets b v = r := ⟨_, rfl⟩
 rw [hg] at E1 E2 g1
 simp only at g1
 have TS := toSystem_ev p sets hx
 have ES := eqSystem_ev p sets hx
 have TV : Ev (fun k => laws_toValues.f k b v) (b, v) := by unfold laws_toValues.f; exact Ev.bind (toInt64S_ev v hx') (Ev.now _)
 have EV : Ev (fun k => laws_eqValues.f k b v b v) true := by
  unfold laws_eqValues.f
  simp only [if_true]
  refine Ev.bind (eqInt64S_ev v v hx') ?_
  simp only [decide_true, if_true]
  exact Ev.now _
 have EG : Ev (fun k => laws_eqInt64S.f k g g) true := by have := eqInt64S_ev g g (by omega); simpa using this
 refine Ev.bind TS (Ev.bind TV (Ev.bind E1 (Ev.bind TS (Ev.bind TV (Ev.bind E2 (Ev.bind EG ?_))))))
 simp only [if_true]
 refine Ev.bind TS (Ev.bind ES ?_)
 simp only [if_true]
 refine Ev.bind TV (Ev.bind EV ?_)
 simp only [if_true]
 have MS := markSystem_ev p sets hx
 have MV : Ev (fun k => laws_markValues.f k b v (1 + (sets.length : Int))) (1 + (sets.length : Int) + (v.length : Int), markL v.length (1 + (sets.length : Int))) := by unfold laws_markValues.f; exact Ev.bind (markInt64S_ev v _ hx' (by omega)) (Ev.now _)
 refine Ev.bind MS (Ev.bind MV ?_)
 simp only [if_neg (show ¬ 1 + (sets.length : Int) + (v.length : Int) < 0 by omega)]
 refine Ev.bind EG ?_
 simp only [if_true]
 have HG := heldInt64S_ev g.length 1 (by omega) (by omega)
 refine Ev.bind (markInt64S_ev g 1 (by omega) (by omega)) (Ev.bind HG ?_)
 simp only [if_neg (show ¬ 1 + (g.length : Int) < 0 by omega), if_true]
 refine Ev.bind TS (Ev.bind TV (Ev.bind E2 (Ev.bind EG ?_)))
 simp only [if_true]
 refine Ev.bind HG ?_
 simp only [if_neg (show ¬ 1 + (g.length : Int) < 0 by omega), if_true]
 exact Ev.now _
end Go.Proofs.Ytdlnhddpgopghaa.Pure
