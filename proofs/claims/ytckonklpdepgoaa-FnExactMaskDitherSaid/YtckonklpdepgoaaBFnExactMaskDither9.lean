/- The statement FnExactMaskDither, with all that its proof stands on: functions of the program as plain functions, the program's walks, and the plain law. Conditions: none beyond the statement's own. -/
import Derived.ArgAppend
import Derived.Below
import Derived.BigQuiet
import Derived.BigRegion
import Derived.ChangeOld
import Derived.Deep.AppendLies
import Derived.Deep.CutBlock
import Derived.Deep.DeepCutAuto
import Derived.Deep.Draws
import Derived.Deep.LoopGhost
import Derived.Deep.OwnRows
import Derived.Deep.QuietTactic
import Derived.Deep.RegionHeld3
import Derived.Deep.Slices
import Derived.Ground.SlgmProg
import Derived.Ground.SlgnProg
import Derived.KernelRfl
import Derived.Laws.BitsLemmas
import Derived.Laws.BytesArg
import Derived.Laws.IdiomCopy
import Derived.Laws.MakeOwn
import Derived.Laws.OwnMore
import Derived.Laws.Rows
import Derived.Laws.Slices
import Derived.Lib.AppendStr
import Derived.Lib.ConvBytes
import Derived.Lib.SmallJoins
import Derived.Maps.AppendAt
import Derived.OpenShut
import Derived.OrdersHeld
import Derived.OwnWalk
import Derived.ProofKit
import Derived.RowKit
import Derived.RowKit3
import Derived.Shelf.SlicesE.Clone
import Derived.Shelf.Small.Bits
import Derived.Shelf.Small.Strs
import Derived.Shelf.SortM.Plain
import Derived.Shelf.Strconv.Itoa0
import Derived.Shelf.Strings.Search1
import Derived.ShutString
import Derived.SizedLaws
import Derived.Sort.OwnSortedInts
import Derived.Tactics
import Derived.Test.YtckonklpdepgoaaProg
import Derived.Test.YtckonklpdepgoaaRows
import Derived.WalkKit
import Derived.WideLaws
import Derived.Test.YtckonklpdepgoaaBFnExactMaskDither0
import Derived.Test.YtckonklpdepgoaaBFnExactMaskDither1
import Derived.Test.YtckonklpdepgoaaBFnExactMaskDither2
import Derived.Test.YtckonklpdepgoaaBFnExactMaskDither3
import Derived.Test.YtckonklpdepgoaaBFnExactMaskDither4
import Derived.Test.YtckonklpdepgoaaBFnExactMaskDither5
import Derived.Test.YtckonklpdepgoaaBFnExactMaskDither6
import Derived.Test.YtckonklpdepgoaaBFnExactMaskDither7
import Derived.Test.YtckonklpdepgoaaBFnExactMaskDither8
set_option linter.unusedVariables false
set_option linter.unusedSimpArgs false
namespace Go.Proofs.Ytckonklpdepgoaa.fnExactMaskDither
open Go.ChangeShapes Go.WideShapes Go.ChangeAt Go.RowKit Go.Proofs.Ytckonklpdepgoaa Opn
open Go.Proofs.YtckonklpdepgoaaW.PrintWords Go.Proofs.Ytckonklpdepgoaa.Q
open Go.ChangeMaps (open_string shut_string)
set_option linter.unusedVariables false
theorem own : ownKnob Try.prog.godebug = none := by kernel_rfl
theorem laidOut : laidOutB Try.prog = true := by kernel_rfl
set_option maxRecDepth 100000 in
theorem lifted (os : Os) (started : os.Started) (H : Type) (enc : TypeId × Value → H) :
  ReturnsInHanded {} Try.checked os 9 .any (Rows.fnExactMaskDitherSpec.pre6 enc Try.prog Try.f9 Rows.fnExactMaskDitherRow.domain false) (Rows.fnExactMaskDitherSpec.post enc Try.prog Try.f9 false true false false) := by
 refine returnsInHanded_of_change_sized (C := Try.checked) own started (by kernel_rfl) Try.func9
  (ChangeSpec.witness6 (enc := enc) (C := Try.checked) false ⟨#[], #[.agg #[.slice none 0 0], .slice none 0 0], []⟩ 8 (by kernel_rfl) (by kernel_rfl) (by kernel_rfl) (by kernel_rfl)) ?_
 intro W base args ds gs before hval0 hW hcnd hsz0 _
 have hval : ∀ (j : Nat) t v, Try.f9.params[j]? = some t → args[j]? = some v → Value.okWide Try.prog W .any base t v := hval0
 have hW' := hW
 obtain ⟨p, q, hA0, hV, rfl, hfz, hnd⟩ := hW
 have hA : DataW.TrodAll enc Try.prog W 0 (fun _ => true) true Try.f9.params.toList args.toList ds p := hA0
 rw [Try.params9] at hA hval
 obtain ⟨v0, vs0, d0, ds0, p0, q0, hargs, rfl, rfl, h0, r0⟩ := trodAll_cons hA
 obtain ⟨v1, vs1, d1, ds1, p1, q1, rfl, rfl, rfl, h1, r1⟩ := trodAll_cons r0
 obtain ⟨rfl, rfl, rfl⟩ := trodAll_nil r1
 obtain rfl : args = #[v0, v1] := by cases args; simp_all
 obtain ⟨rfl, rfl⟩ := trodVars_none hV
 have k0 := h0
 have lt0 : ∀ x ∈ p0, x.block < W.heap.size := by obtain ⟨m, hm⟩ := k0; exact DataW.trod_lt m _ _ _ hm
 obtain ⟨fu0, hf0⟩ := h0
 obtain ⟨cs0, rfl, hcs0⟩ := okWide_struct Try.underlying49 (hval 0 49 v0 rfl rfl)
 have hg0 : DataW.trod enc Try.prog W 0 (fun _ => true) true fu0 49 cs0.toList = some (d0, p0) := hf0
 obtain ⟨x0_0, y0_0, m0, hx0, e0_0⟩ := fields1 Try.underlying49 (by kernel_rfl) ⟨by kernel_rfl, by kernel_rfl⟩ hg0
 obtain rfl : cs0 = #[x0_0] := Array.ext' hx0
 obtain ⟨l0_0, hk0_0, w0_0⟩ := (@opn_slice (List Int) ⟨[]⟩ _ _ _ _ _ Try.underlying22 (by kernel_rfl) (@opn_slice Int ⟨0⟩ _ _ _ _ _ Try.underlying34 (by kernel_rfl) (opn_int (k := .i64) Try.underlying2))) enc W _ _ _ _ _ _ e0_0
 obtain ⟨A0_0, c0_0, he0_0, hc0_0, hr0_0⟩ := slice_of hk0_0
 subst he0_0
 have k1 := h1
 have lt1 : ∀ x ∈ p1, x.block < W.heap.size := by obtain ⟨m, hm⟩ := k1; exact DataW.trod_lt m _ _ _ hm
 obtain ⟨fu1, hf1⟩ := h1
 obtain ⟨va1, vl1, vc1, rfl⟩ := okWide_slice Try.underlying22 (hval 1 22 v1 rfl rfl)
 have hg1 : DataW.trod enc Try.prog W 0 (fun _ => true) true fu1 22 [Value.slice va1 vl1 vc1] = some (d1, p1) := hf1
 obtain ⟨l1, hk1, w1⟩ := (@opn_slice (List Int) ⟨[]⟩ _ _ _ _ _ Try.underlying22 (by kernel_rfl) (@opn_slice Int ⟨0⟩ _ _ _ _ _ Try.underlying34 (by kernel_rfl) (opn_int (k := .i64) Try.underlying2))) enc W _ _ _ _ _ _ hg1
 obtain ⟨A1, c1, he1, hc1, hr1⟩ := slice_of hk1
 injection he1 with i1 i2 i3; subst i1 i2 i3
 clear hA0 hval0 hsz0
 refine (Q.laws_FnExactMaskDither.walk Pure.FnExactMaskDither A0_0 c0_0 l0_0 _ _ l1 W hr0_0 hc0_0 hr1 hc1 w0_0 w1).mono fun e W' ⟨he, bel⟩ => ?_
 subst he
 exact ⟨_, rfl, _, _, _, [], _, [], hW', trodAll_mk1 (shut_bool Try.underlying4 _), (trodAll_cons_mk (Below.trod laidOut (by kernel_rfl) (of_decide_eq_true (by kernel_rfl)) k0 bel lt0) (trodAll_cons_mk (Below.trod laidOut (by kernel_rfl) (of_decide_eq_true (by kernel_rfl)) k1 bel lt1) trodAll_mk0)), rfl, bel.frame _, fun h => by cases h⟩
theorem over : Rows.fnExactMaskDitherRow.holds Try.pinned (OpenSpec.ofChange Rows.fnExactMaskDitherSpec) :=
 OpenClaim.holds_of_wide 9 Try.f9 rfl rfl rfl rfl rfl rfl rfl ⟨rfl, rfl, rfl, rfl, rfl⟩ rfl rfl rfl rfl rfl (by kernel_rfl) Try.func9 (by kernel_rfl)
  (of_decide_eq_true (by kernel_rfl)) (by unfold Func.isWrapper; first | (rw [if_pos (by decide +kernel)]; kernel_rfl) | (rw [if_neg (by decide +kernel)]; exact ⟨rfl, rfl⟩))
  (fun os started H enc _ => lifted os started H enc)
theorem proved : Rows.FnExactMaskDitherSaid := over
end Go.Proofs.Ytckonklpdepgoaa.fnExactMaskDither
namespace Go.Proofs.Ytckonklpdepgoaa
theorem fnExactMaskDither_holds : Rows.FnExactMaskDitherSaid := fnExactMaskDither.proved
end Go.Proofs.Ytckonklpdepgoaa
