/- The statement FnExactSetErrors, with all that its proof stands on: functions of the program as plain functions, the program's walks, and the plain law. Conditions: none beyond the statement's own. -/
import Derived.ArgAppend
import Derived.Below
import Derived.BigQuiet
import Derived.ChangeOld
import Derived.Deep.AppendLies
import Derived.Deep.CutBlock
import Derived.Deep.DeepCutAuto
import Derived.Deep.Draws
import Derived.Deep.LoopGhost
import Derived.Deep.OwnRows
import Derived.Deep.QuietTactic
import Derived.Deep.RegionHeld3
import Derived.Deep.Slices
import Derived.KernelRfl
import Derived.Laws.BitsLemmas
import Derived.Laws.BytesArg
import Derived.Laws.IdiomCopy
import Derived.Laws.MakeOwn
import Derived.Laws.OwnMore
import Derived.Laws.Rows
import Derived.Laws.Slices
import Derived.Lib.AppendStr
import Derived.Lib.ConvBytes
import Derived.Lib.SmallJoins
import Derived.Maps.AppendAt
import Derived.OpenShut
import Derived.OrdersHeld
import Derived.OwnWalk
import Derived.ProofKit
import Derived.RowKit
import Derived.RowKit3
import Derived.ShutString
import Derived.SizedLaws
import Derived.Tactics
import Derived.Test.YtoebllbpoinifaaProg
import Derived.Test.YtoebllbpoinifaaRows
import Derived.WalkKit
import Derived.WideLaws
import Derived.Test.YtoebllbpoinifaaBFnExactSetErrors0
import Derived.Test.YtoebllbpoinifaaBFnExactSetErrors1
import Derived.Test.YtoebllbpoinifaaBFnExactSetErrors2
import Derived.Test.YtoebllbpoinifaaBFnExactSetErrors3
import Derived.Test.YtoebllbpoinifaaBFnExactSetErrors4
import Derived.Test.YtoebllbpoinifaaBFnExactSetErrors5
import Derived.Test.YtoebllbpoinifaaBFnExactSetErrors6
import Derived.Test.YtoebllbpoinifaaBFnExactSetErrors7
import Derived.Test.YtoebllbpoinifaaBFnExactSetErrors8
import Derived.Test.YtoebllbpoinifaaBFnExactSetErrors9
set_option linter.unusedVariables false
set_option linter.unusedSimpArgs false
namespace Go.Proofs.Ytoebllbpoinifaa.fnExactSetErrors
open Go.ChangeShapes Go.WideShapes Go.ChangeAt Go.RowKit Go.Proofs.Ytoebllbpoinifaa Opn
open Go.Proofs.YtoebllbpoinifaaW.PrintWords Go.Proofs.Ytoebllbpoinifaa.Q
open Go.ChangeMaps (open_string shut_string)
set_option linter.unusedVariables false
theorem own : ownKnob Try.prog.godebug = none := by kernel_rfl
theorem laidOut : laidOutB Try.prog = true := by kernel_rfl
set_option maxRecDepth 100000 in
theorem lifted (os : Os) (started : os.Started) (H : Type) (enc : TypeId × Value → H) :
  ReturnsInHanded {} Try.checked os 6 .any (Rows.fnExactSetErrorsSpec.pre6 enc Try.prog Try.f6 Rows.fnExactSetErrorsRow.domain false) (Rows.fnExactSetErrorsSpec.post enc Try.prog Try.f6 false true false false) := by
 refine returnsInHanded_of_change_sized (C := Try.checked) own started (by kernel_rfl) Try.func6
  (ChangeSpec.witness6 (enc := enc) (C := Try.checked) false ⟨#[], #[.agg #[.int .i64 0, .slice none 0 0], .agg #[.int .i64 0, .slice none 0 0], .slice none 0 0], []⟩ 8 (by kernel_rfl) (by kernel_rfl) (by kernel_rfl) (by kernel_rfl)) ?_
 intro W base args ds gs before hval0 hW hcnd hsz0 _
 have hval : ∀ (j : Nat) t v, Try.f6.params[j]? = some t → args[j]? = some v → Value.okWide Try.prog W .any base t v := hval0
 have hW' := hW
 obtain ⟨p, q, hA0, hV, rfl, hfz, hnd⟩ := hW
 have hA : DataW.TrodAll enc Try.prog W 0 (fun _ => true) true Try.f6.params.toList args.toList ds p := hA0
 rw [Try.params6] at hA hval
 obtain ⟨v0, vs0, d0, ds0, p0, q0, hargs, rfl, rfl, h0, r0⟩ := trodAll_cons hA
 obtain ⟨v1, vs1, d1, ds1, p1, q1, rfl, rfl, rfl, h1, r1⟩ := trodAll_cons r0
 obtain ⟨v2, vs2, d2, ds2, p2, q2, rfl, rfl, rfl, h2, r2⟩ := trodAll_cons r1
 obtain ⟨rfl, rfl, rfl⟩ := trodAll_nil r2
 obtain rfl : args = #[v0, v1, v2] := by cases args; simp_all
 obtain ⟨rfl, rfl⟩ := trodVars_none hV
 have k0 := h0
 have lt0 : ∀ x ∈ p0, x.block < W.heap.size := by obtain ⟨m, hm⟩ := k0; exact DataW.trod_lt m _ _ _ hm
 obtain ⟨fu0, hf0⟩ := h0
 obtain ⟨cs0, rfl, hcs0⟩ := okWide_struct Try.underlying51 (hval 0 51 v0 rfl rfl)
 have hg0 : DataW.trod enc Try.prog W 0 (fun _ => true) true fu0 51 cs0.toList = some (d0, p0) := hf0
 obtain ⟨x0_0, x0_1, y0_0, y0_1, m0, hx0, e0_0, e0_1⟩ := fields2 Try.underlying51 (by kernel_rfl) ⟨by kernel_rfl, by kernel_rfl⟩ ⟨by kernel_rfl, by kernel_rfl⟩ hg0
 obtain rfl : cs0 = #[x0_0, x0_1] := Array.ext' hx0
 obtain ⟨a0_0, hk0_0, w0_0⟩ := (opn_int (k := .i64) Try.underlying2) enc W _ _ _ _ _ _ e0_0
 obtain rfl := int_of hk0_0
 obtain ⟨l0_1, hk0_1, w0_1⟩ := (@opn_slice Int ⟨0⟩ _ _ _ _ _ Try.underlying24 (by kernel_rfl) (opn_int (k := .i64) Try.underlying2)) enc W _ _ _ _ _ _ e0_1
 obtain ⟨A0_1, c0_1, he0_1, hc0_1, hr0_1⟩ := slice_of hk0_1
 subst he0_1
 have k1 := h1
 have lt1 : ∀ x ∈ p1, x.block < W.heap.size := by obtain ⟨m, hm⟩ := k1; exact DataW.trod_lt m _ _ _ hm
 obtain ⟨fu1, hf1⟩ := h1
 obtain ⟨cs1, rfl, hcs1⟩ := okWide_struct Try.underlying53 (hval 1 53 v1 rfl rfl)
 have hg1 : DataW.trod enc Try.prog W 0 (fun _ => true) true fu1 53 cs1.toList = some (d1, p1) := hf1
 obtain ⟨x1_0, x1_1, y1_0, y1_1, m1, hx1, e1_0, e1_1⟩ := fields2 Try.underlying53 (by kernel_rfl) ⟨by kernel_rfl, by kernel_rfl⟩ ⟨by kernel_rfl, by kernel_rfl⟩ hg1
 obtain rfl : cs1 = #[x1_0, x1_1] := Array.ext' hx1
 obtain ⟨a1_0, hk1_0, w1_0⟩ := (opn_int (k := .i64) Try.underlying2) enc W _ _ _ _ _ _ e1_0
 obtain rfl := int_of hk1_0
 obtain ⟨l1_1, hk1_1, w1_1⟩ := (@opn_slice Int ⟨0⟩ _ _ _ _ _ Try.underlying24 (by kernel_rfl) (opn_int (k := .i64) Try.underlying2)) enc W _ _ _ _ _ _ e1_1
 obtain ⟨A1_1, c1_1, he1_1, hc1_1, hr1_1⟩ := slice_of hk1_1
 subst he1_1
 have k2 := h2
 have lt2 : ∀ x ∈ p2, x.block < W.heap.size := by obtain ⟨m, hm⟩ := k2; exact DataW.trod_lt m _ _ _ hm
 obtain ⟨fu2, hf2⟩ := h2
 obtain ⟨va2, vl2, vc2, rfl⟩ := okWide_slice Try.underlying24 (hval 2 24 v2 rfl rfl)
 have hg2 : DataW.trod enc Try.prog W 0 (fun _ => true) true fu2 24 [Value.slice va2 vl2 vc2] = some (d2, p2) := hf2
 obtain ⟨l2, hk2, w2⟩ := (@opn_slice Int ⟨0⟩ _ _ _ _ _ Try.underlying24 (by kernel_rfl) (opn_int (k := .i64) Try.underlying2)) enc W _ _ _ _ _ _ hg2
 obtain ⟨A2, c2, he2, hc2, hr2⟩ := slice_of hk2
 injection he2 with i1 i2 i3; subst i1 i2 i3
 clear hA0 hval0 hsz0
 refine (Q.laws_FnExactSetErrors.walk Pure.FnExactSetErrors a0_0 A0_1 c0_1 l0_1 a1_0 A1_1 c1_1 l1_1 _ _ l2 W hr0_1 hc0_1 hr1_1 hc1_1 hr2 hc2 w0_0 w0_1 w1_0 w1_1 w2).mono fun e W' ⟨he, bel⟩ => ?_
 subst he
 exact ⟨_, rfl, _, _, _, [], _, [], hW', trodAll_mk1 (shut_bool Try.underlying4 _), (trodAll_cons_mk (Below.trod laidOut (by kernel_rfl) (of_decide_eq_true (by kernel_rfl)) k0 bel lt0) (trodAll_cons_mk (Below.trod laidOut (by kernel_rfl) (of_decide_eq_true (by kernel_rfl)) k1 bel lt1) (trodAll_cons_mk (Below.trod laidOut (by kernel_rfl) (of_decide_eq_true (by kernel_rfl)) k2 bel lt2) trodAll_mk0))), rfl, bel.frame _, fun h => by cases h⟩
theorem over : Rows.fnExactSetErrorsRow.holds Try.pinned (OpenSpec.ofChange Rows.fnExactSetErrorsSpec) :=
 OpenClaim.holds_of_wide 6 Try.f6 rfl rfl rfl rfl rfl rfl rfl ⟨rfl, rfl, rfl, rfl, rfl⟩ rfl rfl rfl rfl rfl (by kernel_rfl) Try.func6 (by kernel_rfl)
  (of_decide_eq_true (by kernel_rfl)) (by unfold Func.isWrapper; first | (rw [if_pos (by decide +kernel)]; kernel_rfl) | (rw [if_neg (by decide +kernel)]; exact ⟨rfl, rfl⟩))
  (fun os started H enc _ => lifted os started H enc)
theorem proved : Rows.FnExactSetErrorsSaid := over
end Go.Proofs.Ytoebllbpoinifaa.fnExactSetErrors
namespace Go.Proofs.Ytoebllbpoinifaa
theorem fnExactSetErrors_holds : Rows.FnExactSetErrorsSaid := fnExactSetErrors.proved
end Go.Proofs.Ytoebllbpoinifaa
