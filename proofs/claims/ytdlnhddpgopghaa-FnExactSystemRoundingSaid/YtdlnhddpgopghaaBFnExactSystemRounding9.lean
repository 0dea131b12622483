/- The statement FnExactSystemRounding, with all that its proof stands on: functions of the program as plain functions, the program's walks, and the plain law. Conditions: none beyond the statement's own. -/
import Derived.ArgAppend
import Derived.Below
import Derived.BigQuiet
import Derived.BigRegion
import Derived.ChangeOld
import Derived.Deep.AppendLies
import Derived.Deep.CutBlock
import Derived.Deep.DeepCutAuto
import Derived.Deep.Draws
import Derived.Deep.LoopGhost
import Derived.Deep.OwnRows
import Derived.Deep.QuietTactic
import Derived.Deep.RegionHeld3
import Derived.Deep.Slices
import Derived.Ground.SlgnProg
import Derived.KernelRfl
import Derived.Laws.BitsLemmas
import Derived.Laws.BytesArg
import Derived.Laws.IdiomCopy
import Derived.Laws.MakeOwn
import Derived.Laws.OwnMore
import Derived.Laws.Rows
import Derived.Laws.Slices
import Derived.Lib.AppendStr
import Derived.Lib.ConvBytes
import Derived.Lib.SmallJoins
import Derived.Maps.AppendAt
import Derived.OpenShut
import Derived.OrdersHeld
import Derived.OwnWalk
import Derived.ProofKit
import Derived.RowKit
import Derived.RowKit3
import Derived.Shelf.SlicesE.Clone
import Derived.Shelf.SlicesE.Compact
import Derived.Shelf.SlicesE.Equal
import Derived.Shelf.Strconv.Itoa0
import Derived.ShutString
import Derived.SizedLaws
import Derived.Sort.OwnSortedInts
import Derived.Tactics
import Derived.Test.YtdlnhddpgopghaaProg
import Derived.Test.YtdlnhddpgopghaaRows
import Derived.WalkKit
import Derived.WideLaws
import Derived.Test.YtdlnhddpgopghaaBFnExactSystemRounding0
import Derived.Test.YtdlnhddpgopghaaBFnExactSystemRounding1
import Derived.Test.YtdlnhddpgopghaaBFnExactSystemRounding2
import Derived.Test.YtdlnhddpgopghaaBFnExactSystemRounding3
import Derived.Test.YtdlnhddpgopghaaBFnExactSystemRounding4
import Derived.Test.YtdlnhddpgopghaaBFnExactSystemRounding5
import Derived.Test.YtdlnhddpgopghaaBFnExactSystemRounding6
import Derived.Test.YtdlnhddpgopghaaBFnExactSystemRounding7
import Derived.Test.YtdlnhddpgopghaaBFnExactSystemRounding8
set_option linter.unusedVariables false
set_option linter.unusedSimpArgs false
namespace Go.Proofs.Ytdlnhddpgopghaa.fnExactSystemRounding
open Go.ChangeShapes Go.WideShapes Go.ChangeAt Go.RowKit Go.Proofs.Ytdlnhddpgopghaa Opn
open Go.Proofs.YtdlnhddpgopghaaW.PrintWords Go.Proofs.Ytdlnhddpgopghaa.Q
open Go.ChangeMaps (open_string shut_string)
set_option linter.unusedVariables false
theorem own : ownKnob Try.prog.godebug = none := by kernel_rfl
theorem laidOut : laidOutB Try.prog = true := by kernel_rfl
set_option maxRecDepth 100000 in
theorem lifted (os : Os) (started : os.Started) (H : Type) (enc : TypeId × Value → H) :
  ReturnsInHanded {} Try.checked os 3 .any (Rows.fnExactSystemRoundingSpec.pre6 enc Try.prog Try.f3 Rows.fnExactSystemRoundingRow.domain false) (Rows.fnExactSystemRoundingSpec.post enc Try.prog Try.f3 false true false false) := by
 refine returnsInHanded_of_change_sized (C := Try.checked) own started (by kernel_rfl) Try.func3
  (ChangeSpec.witness6 (enc := enc) (C := Try.checked) false ⟨#[], #[.agg #[.int .i64 0, .slice none 0 0], .agg #[.int .i64 0, .slice none 0 0]], []⟩ 8 (by kernel_rfl) (by kernel_rfl) (by kernel_rfl) (by kernel_rfl)) ?_
 intro W base args ds gs before hval0 hW hcnd hsz0 _
 have hval : ∀ (j : Nat) t v, Try.f3.params[j]? = some t → args[j]? = some v → Value.okWide Try.prog W .any base t v := hval0
 have hW' := hW
 obtain ⟨p, q, hA0, hV, rfl, hfz, hnd⟩ := hW
 have hA : DataW.TrodAll enc Try.prog W 0 (fun _ => true) true Try.f3.params.toList args.toList ds p := hA0
 rw [Try.params3] at hA hval
 obtain ⟨v0, vs0, d0, ds0, p0, q0, hargs, rfl, rfl, h0, r0⟩ := trodAll_cons hA
 obtain ⟨v1, vs1, d1, ds1, p1, q1, rfl, rfl, rfl, h1, r1⟩ := trodAll_cons r0
 obtain ⟨rfl, rfl, rfl⟩ := trodAll_nil r1
 obtain rfl : args = #[v0, v1] := by cases args; simp_all
 obtain ⟨rfl, rfl⟩ := trodVars_none hV
 have k0 := h0
 have lt0 : ∀ x ∈ p0, x.block < W.heap.size := by obtain ⟨m, hm⟩ := k0; exact DataW.trod_lt m _ _ _ hm
 obtain ⟨fu0, hf0⟩ := h0
 obtain ⟨cs0, rfl, hcs0⟩ := okWide_struct Try.underlying24 (hval 0 24 v0 rfl rfl)
 have hg0 : DataW.trod enc Try.prog W 0 (fun _ => true) true fu0 24 cs0.toList = some (d0, p0) := hf0
 obtain ⟨x0_0, x0_1, y0_0, y0_1, m0, hx0, e0_0, e0_1⟩ := fields2 Try.underlying24 (by kernel_rfl) ⟨by kernel_rfl, by kernel_rfl⟩ ⟨by kernel_rfl, by kernel_rfl⟩ hg0
 obtain rfl : cs0 = #[x0_0, x0_1] := Array.ext' hx0
 obtain ⟨a0_0, hk0_0, w0_0⟩ := (opn_int (k := .i64) Try.underlying2) enc W _ _ _ _ _ _ e0_0
 obtain rfl := int_of hk0_0
 obtain ⟨l0_1, hk0_1, w0_1⟩ := (@opn_slice Int ⟨0⟩ _ _ _ _ _ Try.underlying22 (by kernel_rfl) (opn_int (k := .i64) Try.underlying2)) enc W _ _ _ _ _ _ e0_1
 obtain ⟨A0_1, c0_1, he0_1, hc0_1, hr0_1⟩ := slice_of hk0_1
 subst he0_1
 have k1 := h1
 have lt1 : ∀ x ∈ p1, x.block < W.heap.size := by obtain ⟨m, hm⟩ := k1; exact DataW.trod_lt m _ _ _ hm
 obtain ⟨fu1, hf1⟩ := h1
 obtain ⟨cs1, rfl, hcs1⟩ := okWide_struct Try.underlying26 (hval 1 26 v1 rfl rfl)
 have hg1 : DataW.trod enc Try.prog W 0 (fun _ => true) true fu1 26 cs1.toList = some (d1, p1) := hf1
 obtain ⟨x1_0, x1_1, y1_0, y1_1, m1, hx1, e1_0, e1_1⟩ := fields2 Try.underlying26 (by kernel_rfl) ⟨by kernel_rfl, by kernel_rfl⟩ ⟨by kernel_rfl, by kernel_rfl⟩ hg1
 obtain rfl : cs1 = #[x1_0, x1_1] := Array.ext' hx1
 obtain ⟨a1_0, hk1_0, w1_0⟩ := (opn_int (k := .i64) Try.underlying2) enc W _ _ _ _ _ _ e1_0
 obtain rfl := int_of hk1_0
 obtain ⟨l1_1, hk1_1, w1_1⟩ := (@opn_slice Int ⟨0⟩ _ _ _ _ _ Try.underlying22 (by kernel_rfl) (opn_int (k := .i64) Try.underlying2)) enc W _ _ _ _ _ _ e1_1
 obtain ⟨A1_1, c1_1, he1_1, hc1_1, hr1_1⟩ := slice_of hk1_1
 subst he1_1
 clear hA0 hval0 hsz0
 refine (Q.laws_FnExactSystemRounding.walk Pure.FnExactSystemRounding a0_0 A0_1 c0_1 l0_1 a1_0 A1_1 c1_1 l1_1 W hr0_1 hc0_1 hr1_1 hc1_1 w0_0 w0_1 w1_0 w1_1).mono fun e W' ⟨he, bel⟩ => ?_
 subst he
 exact ⟨_, rfl, _, _, _, [], _, [], hW', trodAll_mk1 (shut_bool Try.underlying4 _), (trodAll_cons_mk (Below.trod laidOut (by kernel_rfl) (of_decide_eq_true (by kernel_rfl)) k0 bel lt0) (trodAll_cons_mk (Below.trod laidOut (by kernel_rfl) (of_decide_eq_true (by kernel_rfl)) k1 bel lt1) trodAll_mk0)), rfl, bel.frame _, fun h => by cases h⟩
theorem over : Rows.fnExactSystemRoundingRow.holds Try.pinned (OpenSpec.ofChange Rows.fnExactSystemRoundingSpec) :=
 OpenClaim.holds_of_wide 3 Try.f3 rfl rfl rfl rfl rfl rfl rfl ⟨rfl, rfl, rfl, rfl, rfl⟩ rfl rfl rfl rfl rfl (by kernel_rfl) Try.func3 (by kernel_rfl)
  (of_decide_eq_true (by kernel_rfl)) (by unfold Func.isWrapper; first | (rw [if_pos (by decide +kernel)]; kernel_rfl) | (rw [if_neg (by decide +kernel)]; exact ⟨rfl, rfl⟩))
  (fun os started H enc _ => lifted os started H enc)
theorem proved : Rows.FnExactSystemRoundingSaid := over
end Go.Proofs.Ytdlnhddpgopghaa.fnExactSystemRounding
namespace Go.Proofs.Ytdlnhddpgopghaa
theorem fnExactSystemRounding_holds : Rows.FnExactSystemRoundingSaid := fnExactSystemRounding.proved
end Go.Proofs.Ytdlnhddpgopghaa
