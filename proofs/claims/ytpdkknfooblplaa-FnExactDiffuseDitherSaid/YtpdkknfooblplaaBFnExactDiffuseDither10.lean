/- The statement FnExactDiffuseDither, with all that its proof stands on: functions of the program as plain functions, the program's walks, and the plain law. Conditions: none beyond the statement's own. -/
import Derived.ArgAppend
import Derived.Below
import Derived.BigQuiet
import Derived.BigRegion
import Derived.ChangeOld
import Derived.Deep.AppendLies
import Derived.Deep.CutBlock
import Derived.Deep.DeepCutAuto
import Derived.Deep.Draws
import Derived.Deep.LoopGhost
import Derived.Deep.OwnRows
import Derived.Deep.QuietTactic
import Derived.Deep.RegionHeld3
import Derived.Deep.Slices
import Derived.KernelRfl
import Derived.Laws.BitsLemmas
import Derived.Laws.BytesArg
import Derived.Laws.IdiomCopy
import Derived.Laws.MakeOwn
import Derived.Laws.OwnMore
import Derived.Laws.Rows
import Derived.Laws.Slices
import Derived.Lib.AppendStr
import Derived.Lib.ConvBytes
import Derived.Lib.SmallJoins
import Derived.Maps.AppendAt
import Derived.OpenShut
import Derived.OrdersHeld
import Derived.OwnWalk
import Derived.ProofKit
import Derived.RowKit
import Derived.RowKit3
import Derived.ShutString
import Derived.SizedLaws
import Derived.Tactics
import Derived.Test.YtpdkknfooblplaaProg
import Derived.Test.YtpdkknfooblplaaRows
import Derived.WalkKit
import Derived.WideLaws
import Derived.Test.YtpdkknfooblplaaBFnExactDiffuseDither0
import Derived.Test.YtpdkknfooblplaaBFnExactDiffuseDither1
import Derived.Test.YtpdkknfooblplaaBFnExactDiffuseDither2
import Derived.Test.YtpdkknfooblplaaBFnExactDiffuseDither3
import Derived.Test.YtpdkknfooblplaaBFnExactDiffuseDither4
import Derived.Test.YtpdkknfooblplaaBFnExactDiffuseDither5
import Derived.Test.YtpdkknfooblplaaBFnExactDiffuseDither6
import Derived.Test.YtpdkknfooblplaaBFnExactDiffuseDither7
import Derived.Test.YtpdkknfooblplaaBFnExactDiffuseDither8
import Derived.Test.YtpdkknfooblplaaBFnExactDiffuseDither9
set_option linter.unusedVariables false
set_option linter.unusedSimpArgs false
namespace Go.Proofs.Ytpdkknfooblplaa.fnExactDiffuseDither
open Go.ChangeShapes Go.WideShapes Go.ChangeAt Go.RowKit Go.Proofs.Ytpdkknfooblplaa Opn
open Go.Proofs.YtpdkknfooblplaaW.PrintWords Go.Proofs.Ytpdkknfooblplaa.Q
open Go.ChangeMaps (open_string shut_string)
set_option linter.unusedVariables false
theorem own : ownKnob Try.prog.godebug = none := by kernel_rfl
theorem laidOut : laidOutB Try.prog = true := by kernel_rfl
set_option maxRecDepth 100000 in
theorem lifted (os : Os) (started : os.Started) (H : Type) (enc : TypeId × Value → H) :
  ReturnsInHanded {} Try.checked os 4 .any (Rows.fnExactDiffuseDitherSpec.pre6 enc Try.prog Try.f4 Rows.fnExactDiffuseDitherRow.domain false) (Rows.fnExactDiffuseDitherSpec.post enc Try.prog Try.f4 false true false false) := by
 refine returnsInHanded_of_change_sized (C := Try.checked) own started (by kernel_rfl) Try.func4
  (ChangeSpec.witness6 (enc := enc) (C := Try.checked) false ⟨#[], #[.agg #[.slice none 0 0], .agg #[.int .i64 0, .slice none 0 0], .bool false], []⟩ 8 (by kernel_rfl) (by kernel_rfl) (by kernel_rfl) (by kernel_rfl)) ?_
 intro W base args ds gs before hval0 hW hcnd hsz0 _
 have hval : ∀ (j : Nat) t v, Try.f4.params[j]? = some t → args[j]? = some v → Value.okWide Try.prog W .any base t v := hval0
 have hW' := hW
 obtain ⟨p, q, hA0, hV, rfl, hfz, hnd⟩ := hW
 have hA : DataW.TrodAll enc Try.prog W 0 (fun _ => true) true Try.f4.params.toList args.toList ds p := hA0
 rw [Try.params4] at hA hval
 obtain ⟨v0, vs0, d0, ds0, p0, q0, hargs, rfl, rfl, h0, r0⟩ := trodAll_cons hA
 obtain ⟨v1, vs1, d1, ds1, p1, q1, rfl, rfl, rfl, h1, r1⟩ := trodAll_cons r0
 obtain ⟨v2, vs2, d2, ds2, p2, q2, rfl, rfl, rfl, h2, r2⟩ := trodAll_cons r1
 obtain ⟨rfl, rfl, rfl⟩ := trodAll_nil r2
 obtain rfl : args = #[v0, v1, v2] := by cases args; simp_all
 obtain ⟨rfl, rfl⟩ := trodVars_none hV
 have k0 := h0
 have lt0 : ∀ x ∈ p0, x.block < W.heap.size := by obtain ⟨m, hm⟩ := k0; exact DataW.trod_lt m _ _ _ hm
 obtain ⟨fu0, hf0⟩ := h0
 obtain ⟨cs0, rfl, hcs0⟩ := okWide_struct Try.underlying29 (hval 0 29 v0 rfl rfl)
 have hg0 : DataW.trod enc Try.prog W 0 (fun _ => true) true fu0 29 cs0.toList = some (d0, p0) := hf0
 obtain ⟨x0_0, y0_0, m0, hx0, e0_0⟩ := fields1 Try.underlying29 (by kernel_rfl) ⟨by kernel_rfl, by kernel_rfl⟩ hg0
 obtain rfl : cs0 = #[x0_0] := Array.ext' hx0
 obtain ⟨l0_0, hk0_0, w0_0⟩ := (@opn_slice (List Int) ⟨[]⟩ _ _ _ _ _ Try.underlying22 (by kernel_rfl) (@opn_slice Int ⟨0⟩ _ _ _ _ _ Try.underlying58 (by kernel_rfl) (opn_int (k := .i64) Try.underlying2))) enc W _ _ _ _ _ _ e0_0
 obtain ⟨A0_0, c0_0, he0_0, hc0_0, hr0_0⟩ := slice_of hk0_0
 subst he0_0
 have k1 := h1
 have lt1 : ∀ x ∈ p1, x.block < W.heap.size := by obtain ⟨m, hm⟩ := k1; exact DataW.trod_lt m _ _ _ hm
 obtain ⟨fu1, hf1⟩ := h1
 obtain ⟨cs1, rfl, hcs1⟩ := okWide_struct Try.underlying32 (hval 1 32 v1 rfl rfl)
 have hg1 : DataW.trod enc Try.prog W 0 (fun _ => true) true fu1 32 cs1.toList = some (d1, p1) := hf1
 obtain ⟨x1_0, x1_1, y1_0, y1_1, m1, hx1, e1_0, e1_1⟩ := fields2 Try.underlying32 (by kernel_rfl) ⟨by kernel_rfl, by kernel_rfl⟩ ⟨by kernel_rfl, by kernel_rfl⟩ hg1
 obtain rfl : cs1 = #[x1_0, x1_1] := Array.ext' hx1
 obtain ⟨a1_0, hk1_0, w1_0⟩ := (opn_int (k := .i64) Try.underlying2) enc W _ _ _ _ _ _ e1_0
 obtain rfl := int_of hk1_0
 obtain ⟨l1_1, hk1_1, w1_1⟩ := (@opn_slice S96 ⟨z96⟩ _ _ _ _ _ Try.underlying30 (by kernel_rfl) (opn_struct3 (p := fun x_ : S96 => (x_.f0, x_.f1, x_.f2)) (mk := fun x0 x1 x2 => (⟨x0, x1, x2⟩ : S96)) Try.underlying96 (by kernel_rfl) ⟨by kernel_rfl, by kernel_rfl⟩ ⟨by kernel_rfl, by kernel_rfl⟩ ⟨by kernel_rfl, by kernel_rfl⟩ (opn_int (k := .i64) Try.underlying2) (opn_int (k := .i64) Try.underlying2) (opn_int (k := .i64) Try.underlying2) (fun _ _ _ => rfl))) enc W _ _ _ _ _ _ e1_1
 obtain ⟨A1_1, c1_1, he1_1, hc1_1, hr1_1⟩ := slice_of hk1_1
 subst he1_1
 obtain ⟨a2, rfl, rfl, rfl⟩ := open_bool Try.underlying4 (hval 2 4 v2 rfl rfl) h2
 clear hA0 hval0 hsz0
 refine (Q.laws_FnExactDiffuseDither.walk Pure.FnExactDiffuseDither A0_0 c0_0 l0_0 a1_0 A1_1 c1_1 l1_1 a2 W hr0_0 hc0_0 hr1_1 hc1_1 w0_0 w1_0 w1_1).mono fun e W' ⟨he, bel⟩ => ?_
 subst he
 exact ⟨_, rfl, _, _, _, [], _, [], hW', trodAll_mk1 (shut_bool Try.underlying4 _), (trodAll_cons_mk (Below.trod laidOut (by kernel_rfl) (of_decide_eq_true (by kernel_rfl)) k0 bel lt0) (trodAll_cons_mk (Below.trod laidOut (by kernel_rfl) (of_decide_eq_true (by kernel_rfl)) k1 bel lt1) (trodAll_cons_mk (shut_bool Try.underlying4 _) trodAll_mk0))), rfl, bel.frame _, fun h => by cases h⟩
theorem over : Rows.fnExactDiffuseDitherRow.holds Try.pinned (OpenSpec.ofChange Rows.fnExactDiffuseDitherSpec) :=
 OpenClaim.holds_of_wide 4 Try.f4 rfl rfl rfl rfl rfl rfl rfl ⟨rfl, rfl, rfl, rfl, rfl⟩ rfl rfl rfl rfl rfl (by kernel_rfl) Try.func4 (by kernel_rfl)
  (of_decide_eq_true (by kernel_rfl)) (by unfold Func.isWrapper; first | (rw [if_pos (by decide +kernel)]; kernel_rfl) | (rw [if_neg (by decide +kernel)]; exact ⟨rfl, rfl⟩))
  (fun os started H enc _ => lifted os started H enc)
theorem proved : Rows.FnExactDiffuseDitherSaid := over
end Go.Proofs.Ytpdkknfooblplaa.fnExactDiffuseDither
namespace Go.Proofs.Ytpdkknfooblplaa
theorem fnExactDiffuseDither_holds : Rows.FnExactDiffuseDitherSaid := fnExactDiffuseDither.proved
end Go.Proofs.Ytpdkknfooblplaa
