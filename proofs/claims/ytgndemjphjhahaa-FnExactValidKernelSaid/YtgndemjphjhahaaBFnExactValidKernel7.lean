/- The statement FnExactValidKernel, with all that its proof stands on: functions of the program as plain functions, the program's walks, and the plain law. Conditions: none beyond the statement's own. -/
import Derived.ArgAppend
import Derived.Below
import Derived.BigQuiet
import Derived.ChangeOld
import Derived.Deep.AppendLies
import Derived.Deep.CutBlock
import Derived.Deep.DeepCutAuto
import Derived.Deep.Draws
import Derived.Deep.LoopGhost
import Derived.Deep.OwnRows
import Derived.Deep.QuietTactic
import Derived.Deep.RegionHeld3
import Derived.Deep.Slices
import Derived.KernelRfl
import Derived.Laws.BitsLemmas
import Derived.Laws.BytesArg
import Derived.Laws.IdiomCopy
import Derived.Laws.MakeOwn
import Derived.Laws.OwnMore
import Derived.Laws.Rows
import Derived.Laws.Slices
import Derived.Lib.AppendStr
import Derived.Lib.ConvBytes
import Derived.Lib.SmallJoins
import Derived.Maps.AppendAt
import Derived.OpenShut
import Derived.OrdersHeld
import Derived.OwnWalk
import Derived.ProofKit
import Derived.RowKit
import Derived.RowKit3
import Derived.ShutString
import Derived.SizedLaws
import Derived.Tactics
import Derived.Test.YtgndemjphjhahaaProg
import Derived.Test.YtgndemjphjhahaaRows
import Derived.WalkKit
import Derived.WideLaws
import Derived.Test.YtgndemjphjhahaaBFnExactValidKernel0
import Derived.Test.YtgndemjphjhahaaBFnExactValidKernel1
import Derived.Test.YtgndemjphjhahaaBFnExactValidKernel2
import Derived.Test.YtgndemjphjhahaaBFnExactValidKernel3
import Derived.Test.YtgndemjphjhahaaBFnExactValidKernel4
import Derived.Test.YtgndemjphjhahaaBFnExactValidKernel5
import Derived.Test.YtgndemjphjhahaaBFnExactValidKernel6
set_option linter.unusedVariables false
set_option linter.unusedSimpArgs false
namespace Go.Proofs.Ytgndemjphjhahaa.fnExactValidKernel
open Go.ChangeShapes Go.WideShapes Go.ChangeAt Go.RowKit Go.Proofs.Ytgndemjphjhahaa Opn
open Go.Proofs.YtgndemjphjhahaaW.PrintWords Go.Proofs.Ytgndemjphjhahaa.Q
open Go.ChangeMaps (open_string shut_string)
set_option linter.unusedVariables false
theorem own : ownKnob Try.prog.godebug = none := by kernel_rfl
theorem laidOut : laidOutB Try.prog = true := by kernel_rfl
set_option maxRecDepth 100000 in
theorem lifted (os : Os) (started : os.Started) (H : Type) (enc : TypeId × Value → H) :
  ReturnsInHanded {} Try.checked os 4 .any (Rows.fnExactValidKernelSpec.pre6 enc Try.prog Try.f4 Rows.fnExactValidKernelRow.domain false) (Rows.fnExactValidKernelSpec.post enc Try.prog Try.f4 false true false false) := by
 refine returnsInHanded_of_change_sized (C := Try.checked) own started (by kernel_rfl) Try.func4
  (ChangeSpec.witness6 (enc := enc) (C := Try.checked) false ⟨#[], #[.agg #[.int .i64 0, .slice none 0 0]], []⟩ 8 (by kernel_rfl) (by kernel_rfl) (by kernel_rfl) (by kernel_rfl)) ?_
 intro W base args ds gs before hval0 hW hcnd hsz0 _
 have hval : ∀ (j : Nat) t v, Try.f4.params[j]? = some t → args[j]? = some v → Value.okWide Try.prog W .any base t v := hval0
 have hW' := hW
 obtain ⟨p, q, hA0, hV, rfl, hfz, hnd⟩ := hW
 have hA : DataW.TrodAll enc Try.prog W 0 (fun _ => true) true Try.f4.params.toList args.toList ds p := hA0
 rw [Try.params4] at hA hval
 obtain ⟨v0, vs0, d0, ds0, p0, q0, hargs, rfl, rfl, h0, r0⟩ := trodAll_cons hA
 obtain ⟨rfl, rfl, rfl⟩ := trodAll_nil r0
 obtain rfl : args = #[v0] := by cases args; simp_all
 obtain ⟨rfl, rfl⟩ := trodVars_none hV
 have k0 := h0
 have lt0 : ∀ x ∈ p0, x.block < W.heap.size := by obtain ⟨m, hm⟩ := k0; exact DataW.trod_lt m _ _ _ hm
 obtain ⟨fu0, hf0⟩ := h0
 obtain ⟨cs0, rfl, hcs0⟩ := okWide_struct Try.underlying32 (hval 0 32 v0 rfl rfl)
 have hg0 : DataW.trod enc Try.prog W 0 (fun _ => true) true fu0 32 cs0.toList = some (d0, p0) := hf0
 obtain ⟨x0_0, x0_1, y0_0, y0_1, m0, hx0, e0_0, e0_1⟩ := fields2 Try.underlying32 (by kernel_rfl) ⟨by kernel_rfl, by kernel_rfl⟩ ⟨by kernel_rfl, by kernel_rfl⟩ hg0
 obtain rfl : cs0 = #[x0_0, x0_1] := Array.ext' hx0
 obtain ⟨a0_0, hk0_0, w0_0⟩ := (opn_int (k := .i64) Try.underlying2) enc W _ _ _ _ _ _ e0_0
 obtain rfl := int_of hk0_0
 obtain ⟨l0_1, hk0_1, w0_1⟩ := (@opn_slice S111 ⟨z111⟩ _ _ _ _ _ Try.underlying30 (by kernel_rfl) (opn_struct3 (p := fun x_ : S111 => (x_.f0, x_.f1, x_.f2)) (mk := fun x0 x1 x2 => (⟨x0, x1, x2⟩ : S111)) Try.underlying111 (by kernel_rfl) ⟨by kernel_rfl, by kernel_rfl⟩ ⟨by kernel_rfl, by kernel_rfl⟩ ⟨by kernel_rfl, by kernel_rfl⟩ (opn_int (k := .i64) Try.underlying2) (opn_int (k := .i64) Try.underlying2) (opn_int (k := .i64) Try.underlying2) (fun _ _ _ => rfl))) enc W _ _ _ _ _ _ e0_1
 obtain ⟨A0_1, c0_1, he0_1, hc0_1, hr0_1⟩ := slice_of hk0_1
 subst he0_1
 clear hA0 hval0 hsz0
 refine (Q.laws_FnExactValidKernel.walk Pure.FnExactValidKernel a0_0 A0_1 c0_1 l0_1 W hr0_1 hc0_1 w0_0 w0_1).mono fun e W' ⟨he, bel⟩ => ?_
 subst he
 exact ⟨_, rfl, _, _, _, [], _, [], hW', trodAll_mk1 (shut_bool Try.underlying4 _), (trodAll_cons_mk (Below.trod laidOut (by kernel_rfl) (of_decide_eq_true (by kernel_rfl)) k0 bel lt0) trodAll_mk0), rfl, bel.frame _, fun h => by cases h⟩
theorem over : Rows.fnExactValidKernelRow.holds Try.pinned (OpenSpec.ofChange Rows.fnExactValidKernelSpec) :=
 OpenClaim.holds_of_wide 4 Try.f4 rfl rfl rfl rfl rfl rfl rfl ⟨rfl, rfl, rfl, rfl, rfl⟩ rfl rfl rfl rfl rfl (by kernel_rfl) Try.func4 (by kernel_rfl)
  (of_decide_eq_true (by kernel_rfl)) (by unfold Func.isWrapper; first | (rw [if_pos (by decide +kernel)]; kernel_rfl) | (rw [if_neg (by decide +kernel)]; exact ⟨rfl, rfl⟩))
  (fun os started H enc _ => lifted os started H enc)
theorem proved : Rows.FnExactValidKernelSaid := over
end Go.Proofs.Ytgndemjphjhahaa.fnExactValidKernel
namespace Go.Proofs.Ytgndemjphjhahaa
theorem fnExactValidKernel_holds : Rows.FnExactValidKernelSaid := fnExactValidKernel.proved
end Go.Proofs.Ytgndemjphjhahaa
