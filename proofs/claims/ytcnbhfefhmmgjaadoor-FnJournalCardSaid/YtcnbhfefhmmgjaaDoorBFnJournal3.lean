/- The statement FnJournal, with all that its proof stands on: functions of the program as plain functions, the program's walks, and the plain law. Conditions: none beyond the statement's own. -/
import Derived.CallsIn
import Derived.ControlIn
import Derived.OwnWalkIn
import Derived.RangeFuncCalls
import Derived.TacticsIn
set_option linter.unusedVariables false
set_option linter.unusedSimpArgs false
namespace Go.Proofs.YtcnbhfefhmmgjaaDoor.Box
open Go
def Oper.calm (o : Oper) : Bool := match o.op with | .defer _ => false | _ => true
theorem Oper.calm_ne {o : Oper} (h : Oper.calm o = true) : ∀ c, o.op ≠ .defer c := fun c e => by simp [Oper.calm, e] at h
variable {P : Program} {n : Nat} {r : Option Nat}
theorem rowsIn_of {row : String} {args : Array Value} {w : World} {R : Value → World → Prop} (h : Rows P row args w R) : RowsIn { Fence.wide with round := r } n P row args w R :=
 fun c cs _ => let ⟨v, w', q, s⟩ := h c cs; ⟨v, w', q, stepsIn_wide.2 s⟩
theorem uponIn_of {o : Oper} {a : Act} {next : Act → World → Prop} {Q : Exit → Act → World → Prop} {res : Result Next} (h : o.upon P a next Q res) : o.uponIn { Fence.wide with round := r } n P a next Q res := by
 unfold Oper.upon at h
 unfold Oper.uponIn
 split at h
 ·exact h
 ·exact h
 ·exact h
 ·exact ⟨fun e => by simp [Fence.wide] at e, callsIn_wide.2 h⟩
 ·exact ⟨fun e => by simp [Fence.wide] at e, rowsIn_of h⟩
 ·exact h
 ·exact h.elim
end Go.Proofs.YtcnbhfefhmmgjaaDoor.Box
