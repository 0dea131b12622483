/- The statement FnExactIntervalSystem, with all that its proof stands on: functions of the program as plain functions, the program's walks, and the plain law. Conditions: none beyond the statement's own. -/
import Derived.ArgAppend
import Derived.Below
import Derived.BigQuiet
import Derived.ChangeOld
import Derived.Deep.AppendLies
import Derived.Deep.CutBlock
import Derived.Deep.DeepCutAuto
import Derived.Deep.Draws
import Derived.Deep.LoopGhost
import Derived.Deep.OwnRows
import Derived.Deep.QuietTactic
import Derived.Deep.RegionHeld3
import Derived.Deep.Slices
import Derived.KernelRfl
import Derived.Laws.BitsLemmas
import Derived.Laws.BytesArg
import Derived.Laws.IdiomCopy
import Derived.Laws.MakeOwn
import Derived.Laws.OwnMore
import Derived.Laws.Rows
import Derived.Laws.Slices
import Derived.Lib.AppendStr
import Derived.Lib.ConvBytes
import Derived.Lib.SmallJoins
import Derived.Maps.AppendAt
import Derived.OpenShut
import Derived.OrdersHeld
import Derived.OwnWalk
import Derived.ProofKit
import Derived.RowKit
import Derived.RowKit3
import Derived.ShutString
import Derived.SizedLaws
import Derived.Tactics
import Derived.Test.YtplgfchiaapmfaaProg
import Derived.Test.YtplgfchiaapmfaaRows
import Derived.WalkKit
import Derived.WideLaws
import Derived.Test.YtplgfchiaapmfaaBFnExactIntervalSystem0
import Derived.Test.YtplgfchiaapmfaaBFnExactIntervalSystem1
import Derived.Test.YtplgfchiaapmfaaBFnExactIntervalSystem2
import Derived.Test.YtplgfchiaapmfaaBFnExactIntervalSystem3
import Derived.Test.YtplgfchiaapmfaaBFnExactIntervalSystem4
import Derived.Test.YtplgfchiaapmfaaBFnExactIntervalSystem5
import Derived.Test.YtplgfchiaapmfaaBFnExactIntervalSystem6
set_option linter.unusedVariables false
set_option linter.unusedSimpArgs false
namespace Go.Proofs.Ytplgfchiaapmfaa.fnExactIntervalSystem
open Go.ChangeShapes Go.WideShapes Go.ChangeAt Go.RowKit Go.Proofs.Ytplgfchiaapmfaa Opn
open Go.Proofs.YtplgfchiaapmfaaW.PrintWords Go.Proofs.Ytplgfchiaapmfaa.Q
open Go.ChangeMaps (open_string shut_string)
set_option linter.unusedVariables false
theorem own : ownKnob Try.prog.godebug = none := by kernel_rfl
theorem laidOut : laidOutB Try.prog = true := by kernel_rfl
set_option maxRecDepth 100000 in
theorem lifted (os : Os) (started : os.Started) (H : Type) (enc : TypeId × Value → H) :
  ReturnsInHanded {} Try.checked os 6 .any (Rows.fnExactIntervalSystemSpec.pre6 enc Try.prog Try.f6 Rows.fnExactIntervalSystemRow.domain false) (Rows.fnExactIntervalSystemSpec.post enc Try.prog Try.f6 false true false false) := by
 refine returnsInHanded_of_change_sized (C := Try.checked) own started (by kernel_rfl) Try.func6
  (ChangeSpec.witness6 (enc := enc) (C := Try.checked) false ⟨#[], #[.int .i64 0, .slice none 0 0], []⟩ 8 (by kernel_rfl) (by kernel_rfl) (by kernel_rfl) (by kernel_rfl)) ?_
 intro W base args ds gs before hval0 hW hcnd hsz0 _
 have hval : ∀ (j : Nat) t v, Try.f6.params[j]? = some t → args[j]? = some v → Value.okWide Try.prog W .any base t v := hval0
 have hW' := hW
 obtain ⟨p, q, hA0, hV, rfl, hfz, hnd⟩ := hW
 have hA : DataW.TrodAll enc Try.prog W 0 (fun _ => true) true Try.f6.params.toList args.toList ds p := hA0
 rw [Try.params6] at hA hval
 obtain ⟨v0, vs0, d0, ds0, p0, q0, hargs, rfl, rfl, h0, r0⟩ := trodAll_cons hA
 obtain ⟨v1, vs1, d1, ds1, p1, q1, rfl, rfl, rfl, h1, r1⟩ := trodAll_cons r0
 obtain ⟨rfl, rfl, rfl⟩ := trodAll_nil r1
 obtain rfl : args = #[v0, v1] := by cases args; simp_all
 obtain ⟨rfl, rfl⟩ := trodVars_none hV
 obtain ⟨a0, rfl, rfl, rfl, w0⟩ := open_int Try.underlying2 (hval 0 2 v0 rfl rfl) h0
 have k1 := h1
 have lt1 : ∀ x ∈ p1, x.block < W.heap.size := by obtain ⟨m, hm⟩ := k1; exact DataW.trod_lt m _ _ _ hm
 obtain ⟨fu1, hf1⟩ := h1
 obtain ⟨va1, vl1, vc1, rfl⟩ := okWide_slice Try.underlying37 (hval 1 37 v1 rfl rfl)
 have hg1 : DataW.trod enc Try.prog W 0 (fun _ => true) true fu1 37 [Value.slice va1 vl1 vc1] = some (d1, p1) := hf1
 obtain ⟨l1, hk1, w1⟩ := (@opn_slice (List Int) ⟨[]⟩ _ _ _ _ _ Try.underlying37 (by kernel_rfl) (@opn_slice Int ⟨0⟩ _ _ _ _ _ Try.underlying22 (by kernel_rfl) (opn_int (k := .i64) Try.underlying2))) enc W _ _ _ _ _ _ hg1
 obtain ⟨A1, c1, he1, hc1, hr1⟩ := slice_of hk1
 injection he1 with i1 i2 i3; subst i1 i2 i3
 clear hA0 hval0 hsz0
 refine (Q.laws_FnExactIntervalSystem.walk Pure.FnExactIntervalSystem a0 _ _ l1 W hr1 hc1 w0 w1).mono fun e W' ⟨he, bel⟩ => ?_
 subst he
 exact ⟨_, rfl, _, _, _, [], _, [], hW', trodAll_mk1 (shut_bool Try.underlying4 _), (trodAll_cons_mk (shut_int Try.underlying2 w0) (trodAll_cons_mk (Below.trod laidOut (by kernel_rfl) (of_decide_eq_true (by kernel_rfl)) k1 bel lt1) trodAll_mk0)), rfl, bel.frame _, fun h => by cases h⟩
theorem over : Rows.fnExactIntervalSystemRow.holds Try.pinned (OpenSpec.ofChange Rows.fnExactIntervalSystemSpec) :=
 OpenClaim.holds_of_wide 6 Try.f6 rfl rfl rfl rfl rfl rfl rfl ⟨rfl, rfl, rfl, rfl, rfl⟩ rfl rfl rfl rfl rfl (by kernel_rfl) Try.func6 (by kernel_rfl)
  (of_decide_eq_true (by kernel_rfl)) (by unfold Func.isWrapper; first | (rw [if_pos (by decide +kernel)]; kernel_rfl) | (rw [if_neg (by decide +kernel)]; exact ⟨rfl, rfl⟩))
  (fun os started H enc _ => lifted os started H enc)
theorem proved : Rows.FnExactIntervalSystemSaid := over
end Go.Proofs.Ytplgfchiaapmfaa.fnExactIntervalSystem
namespace Go.Proofs.Ytplgfchiaapmfaa
theorem fnExactIntervalSystem_holds : Rows.FnExactIntervalSystemSaid := fnExactIntervalSystem.proved
end Go.Proofs.Ytplgfchiaapmfaa
