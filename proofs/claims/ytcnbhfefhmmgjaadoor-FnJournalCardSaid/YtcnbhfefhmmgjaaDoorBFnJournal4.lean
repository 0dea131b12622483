/- The statement FnJournal, with all that its proof stands on: functions of the program as plain functions, the program's walks, and the plain law. Conditions: none beyond the statement's own. -/
import Derived.CallsIn
import Derived.ControlIn
import Derived.Deep.RegionHeld3
import Derived.Laws.BitsLemmas
import Derived.OrdersHeld
import Derived.OrdersIn
import Derived.OwnWalkIn
import Derived.RangeFuncCalls
import Derived.RowKit
import Derived.TacticsIn
import Derived.Test.YtcnbhfefhmmgjaaDoorBFnJournal2
import Derived.Test.YtcnbhfefhmmgjaaDoorBFnJournal3
set_option linter.unusedVariables false
set_option linter.unusedSimpArgs false
namespace Go.Proofs.YtcnbhfefhmmgjaaDoor.Box
open Go Go.Proofs.YtcnbhfefhmmgjaaDoorW.PrintLast
variable {P : Program} {n : Nat} {r : Option Nat}
theorem anyIn_of (md : Region.Mode) (ops : Array Oper) (K : Act → World → Prop) (hc : ∀ (i : Nat) (o : Oper), ops[i]? = some o → Oper.calm o = true) : ∀ (fuel : Nat) (listed : Array Bool) (a : Act) (w : World),
  wpAny P md ops (Exit.then K fun _ _ _ => False) fuel listed a w → wpAnyIn { Fence.wide with round := r } n P md ops (Exit.then K fun _ _ _ => False) fuel listed a w
 | 0, listed, a, w, h => h
 | fuel + 1, listed, a, w, h => by
  refine ⟨h.1, fun i hi => ?_⟩
  have h := h.2 i hi
  have hm := anyIn_of md ops K hc fuel (listed.setIfInBounds i true)
  unfold wpOp at h
  unfold wpOpIn
  split
  ·rename_i ho
   simp only [ho] at h
   exact hm _ _ h
  ·rename_i o ho
   simp only [ho] at h
   have hs : o.semAt r a.eval = execOp a.eval o := by
    cases r with
    | none => simp [Oper.semAt]
    | some l => exact Oper.semAt_some l _ _ (Oper.calm_ne (hc i o ho))
   split at h
   ·rename_i hw
    rw [if_pos hw]
    rcases h with h | ⟨_, a', w', hn⟩
    ·refine ⟨fun _ _ => trivial, ?_⟩
     show o.uponIn _ n P a _ _ ((o.semAt r a.eval).run P w)
     rw [hs]
     refine uponIn_of ?_
     unfold Oper.wp at h
     revert h
     generalize (execOp a.eval o).run P w = res
     intro h
     unfold Oper.upon at h ⊢
     split at h
     ·exact hm _ _ h
     ·exact hm _ _ h
     ·exact hm _ _ h
     ·refine h.mono ?_
      intro e w' h
      cases e with
      | returned v => exact hm _ _ h
      | panicked ch => exact h
      | outgrown => exact h
     ·exact Rows.mono h fun v w' h => hm _ _ h
     ·exact h
     ·exact h.elim
    ·exact hn.elim
   ·rename_i hw
    rw [if_neg hw]
    exact ⟨fun _ _ => trivial, hm _ _ h⟩
theorem startOf {id m : Nat} {l : List Oper} {S : World → Prop} {ds : List Nat} {Q : Exit → Act → World → Prop} {a : Act} {w : World} (fl : Array Bool) (hc : l.all Oper.calm = true) (hm : P.follows .mixedOrders = true) (hn : l.toArray.size = m) (hl : Array.replicate m false = fl) (hS : S w.drew)
  (h : ∀ K : Act → World → Prop, (∀ a w, Q .normal a w → K a w) → S w.drew → wpAnyLast P .any l.toArray (Exit.then K fun _ _ _ => False) S ds m fl a w.drew) :
  (Code.region id l.toArray true).wpIn { Fence.wide with round := r } n P Q a w := by
 subst hn
 subst hl
 refine wpIn_mono (Q := Exit.then (fun a w => Q .normal a w) fun _ _ _ => False) (wpIn_region_any hm (anyIn_of _ _ _ (fun i o ho => ?_) _ _ _ _ (wpAny_of_last _ _ _ _ (h _ (fun _ _ h => h) hS)))) ?_
 ·have hmem : o ∈ l := by
   have : l[i]? = some o := by simpa using ho
   exact List.mem_of_getElem? this
  exact List.all_eq_true.1 hc o hmem
 ·intro e a w h
  cases e <;> first | exact h | exact h.elim
theorem startIn {l₀ id m : Nat} {l : List Oper} {S : World → Prop} {ds : List Nat} {Q : Exit → Act → World → Prop} {a : Act} {w : World} (fl : Array Bool) (hc : l.all Oper.calm = true) (hm : P.follows .mixedOrders = true) (hn : l.toArray.size = m) (hl : Array.replicate m false = fl) (hS : S w.drew)
  (h : ∀ K : Act → World → Prop, (∀ a w, Q .normal a w → K a w) → S w.drew → wpAnyLast P .any l.toArray (Exit.then K fun _ _ _ => False) S ds m fl a w.drew) :
  (Code.region id l.toArray true).wpIn (Fence.wide.inRound l₀) n P Q a w := startOf (r := some l₀) fl hc hm hn hl hS h
end Go.Proofs.YtcnbhfefhmmgjaaDoor.Box
