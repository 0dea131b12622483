/- The statement FnDiffused, with all that its proof stands on: functions of the program as plain functions, the program's walks, and the plain law. Conditions: none beyond the statement's own. -/
import Derived.CallsIn
import Derived.ControlIn
import Derived.OwnWalkIn
import Derived.RangeFuncCalls
import Derived.TacticsIn
set_option linter.unusedVariables false
set_option linter.unusedSimpArgs false
namespace Go.Proofs.Ytpdkknfooblplaa.Box
open Go
def Oper.calm (o : Oper) : Bool := match o.op with | .defer _ => false | _ => true
theorem Oper.calm_ne {o : Oper} (h : Oper.calm o = true) : ∀ c, o.op ≠ .defer c := fun c e => by simp [Oper.calm, e] at h
variable {P : Program} {n : Nat} {r : Option Nat}
theorem rowsIn_of {row : String} {args : Array Value} {w : World} {R : Value → World → Prop} (h : Rows P row args w R) : RowsIn { Fence.wide with round := r } n P row args w R :=
 fun c cs _ => let ⟨v, w', q, s⟩ := h c cs; ⟨v, w', q, stepsIn_wide.2 s⟩
theorem uponIn_of {o : Oper} {a : Act} {next : Act → World → Prop} {Q : Exit → Act → World → Prop} {res : Result Next} (h : o.upon P a next Q res) : o.uponIn { Fence.wide with round := r } n P a next Q res := by
 unfold Oper.upon at h
 unfold Oper.uponIn
 split at h
 ·exact h
 ·exact h
 ·exact h
 ·exact ⟨fun e => by simp [Fence.wide] at e, callsIn_wide.2 h⟩
 ·exact ⟨fun e => by simp [Fence.wide] at e, rowsIn_of h⟩
 ·exact h
 ·exact h.elim
theorem opOf {ops : Array Oper} {o : Oper} {rest : List Oper} {Q : Exit → Act → World → Prop} {a : Act} {w : World} (hc : Oper.calm o = true)
  (h : ∀ Kc : Act → World → Prop, (∀ a w, wpListIn { Fence.wide with round := r } n P ops Q rest a w → Kc a w) → if Region.wanted o (yielded ops a.tmps) = true then Oper.wp P o a w Kc (fun _ _ _ => False) else Kc (a.put o.dst undef) w) :
  wpListIn { Fence.wide with round := r } n P ops Q (o :: rest) a w := by
 have hs : o.semAt r a.eval = execOp a.eval o := by
  cases r with
  | none => simp [Oper.semAt]
  | some l => exact Oper.semAt_some l _ _ (Oper.calm_ne hc)
 have h := h _ fun _ _ h => h
 unfold wpListIn
 split at h
 ·rename_i hw
  rw [if_pos hw]
  refine ⟨fun _ _ => trivial, ?_⟩
  show o.uponIn _ n P a _ _ ((o.semAt r a.eval).run P w)
  rw [hs]
  unfold Oper.wp at h
  revert h
  generalize (execOp a.eval o).run P w = res
  intro h
  refine uponIn_of ?_
  unfold Oper.upon at h ⊢
  split at h
  ·exact h
  ·exact h
  ·exact h
  ·refine h.mono ?_
   intro e w' h
   cases e with
   | returned v => exact h
   | panicked ch => exact h.elim
   | outgrown => obtain ⟨_, _, h⟩ := h; exact h.elim
  ·exact h
  ·exact h.elim
  ·exact h.elim
 ·rename_i hw
  rw [if_neg hw]
  exact ⟨fun _ _ => trivial, h⟩
theorem opIn {l₀ : Nat} {ops : Array Oper} {o : Oper} {rest : List Oper} {Q : Exit → Act → World → Prop} {a : Act} {w : World} (hc : Oper.calm o = true)
  (h : ∀ Kc : Act → World → Prop, (∀ a w, wpListIn (Fence.wide.inRound l₀) n P ops Q rest a w → Kc a w) → if Region.wanted o (yielded ops a.tmps) = true then Oper.wp P o a w Kc (fun _ _ _ => False) else Kc (a.put o.dst undef) w) :
  wpListIn (Fence.wide.inRound l₀) n P ops Q (o :: rest) a w := opOf (r := some l₀) hc h
theorem gateB {F : Fence} {b : Builtin} {xs : Array Operand} {ts : Array TypeId} {ops : Array Oper} {o : Oper} {rest : List Oper} {Q : Exit → Act → World → Prop} {a : Act} {w : World} (_ho : o.op = .call { callee := .builtin b, args := xs, argTypes := ts }) (h : wpListIn F n P ops Q (o :: rest) a w) : wpListIn F n P ops Q (o :: rest) a w := h
end Go.Proofs.Ytpdkknfooblplaa.Box
