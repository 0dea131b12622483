/- The statement FnExactValidDesk, with all that its proof stands on: functions of the program as plain functions, the program's walks, and the plain law. Conditions: none beyond the statement's own. -/
import Derived.ArgAppend
import Derived.Below
import Derived.BigQuiet
import Derived.BigRegion
import Derived.ChangeOld
import Derived.Deep.AppendLies
import Derived.Deep.CutBlock
import Derived.Deep.DeepCutAuto
import Derived.Deep.Draws
import Derived.Deep.LoopGhost
import Derived.Deep.OwnRows
import Derived.Deep.QuietTactic
import Derived.Deep.RegionHeld3
import Derived.Deep.Slices
import Derived.KernelRfl
import Derived.LaidMore
import Derived.Laws.BitsLemmas
import Derived.Laws.BytesArg
import Derived.Laws.IdiomCopy
import Derived.Laws.MakeOwn
import Derived.Laws.OwnMore
import Derived.Laws.Rows
import Derived.Laws.Slices
import Derived.Lay
import Derived.Lib.AppendIntMem
import Derived.Lib.AppendStr
import Derived.Lib.ConvBytes
import Derived.Lib.SmallJoins
import Derived.Maps.AppendAt
import Derived.OpenShut
import Derived.OrdersHeld
import Derived.OwnWalk
import Derived.ProofKit
import Derived.RowKit
import Derived.RowKit3
import Derived.SevenTiedAt
import Derived.Shelf.LaysM
import Derived.Shelf.Small.Strs
import Derived.Shelf.Small.Utf8
import Derived.Shelf.Strconv.Itoa0
import Derived.Shelf.Strconv.Itoa1
import Derived.Shelf.Strconv.Itoa2
import Derived.Shelf.Strconv.Itoa3
import Derived.Shelf.Strconv.Itoa4
import Derived.Shelf.Strings.AsciiSet
import Derived.Shelf.Strings.Builder1
import Derived.Shelf.Strings.BuilderF
import Derived.Shelf.Strings.Cut
import Derived.Shelf.Strings.Prefix
import Derived.Shelf.Strings.Runes
import Derived.Shelf.Strings.Search1
import Derived.Shelf.Strings.Search2
import Derived.Shelf.Strings.Search3
import Derived.Shelf.Strings.Shaped
import Derived.Shelf.Strings.SlTrimAscii
import Derived.Shelf.Strings.Trim
import Derived.Shelf.Unicode.Decode
import Derived.Shelf.Unicode.DecodeAny
import Derived.Shelf.Unicode.DecodeLast
import Derived.Shelf.Unicode.DecodeSlow
import Derived.ShutString
import Derived.SizedLaws
import Derived.Sort.OwnSortedInts
import Derived.Stop.Joined
import Derived.Tactics
import Derived.Test.YtcnbhfefhmmgjaaDoorCards
import Derived.Test.YtcnbhfefhmmgjaaDoorProg
import Derived.Test.YtcnbhfefhmmgjaaDoorRows
import Derived.Test.YtcnbhfefhmmgjaaDoorTie
import Derived.WalkKit
import Derived.WalkSmall
import Derived.WideLaws
import Derived.Test.YtcnbhfefhmmgjaaDoorBFnExactValidDesk0
import Derived.Test.YtcnbhfefhmmgjaaDoorBFnExactValidDesk1
import Derived.Test.YtcnbhfefhmmgjaaDoorBFnExactValidDesk2
import Derived.Test.YtcnbhfefhmmgjaaDoorBFnExactValidDesk3
import Derived.Test.YtcnbhfefhmmgjaaDoorBFnExactValidDesk4
import Derived.Test.YtcnbhfefhmmgjaaDoorBFnExactValidDesk5
import Derived.Test.YtcnbhfefhmmgjaaDoorBFnExactValidDesk6
import Derived.Test.YtcnbhfefhmmgjaaDoorBFnExactValidDesk7
import Derived.Test.YtcnbhfefhmmgjaaDoorBFnExactValidDesk8
set_option linter.unusedVariables false
set_option linter.unusedSimpArgs false
namespace Go.Proofs.YtcnbhfefhmmgjaaDoor.fnExactValidDesk
open Go.ChangeShapes Go.WideShapes Go.ChangeAt Go.RowKit Go.Proofs.YtcnbhfefhmmgjaaDoor Opn
open Go.Proofs.YtcnbhfefhmmgjaaDoorW.PrintWords Go.Proofs.YtcnbhfefhmmgjaaDoor.Q
open Go.ChangeMaps (open_string shut_string)
set_option linter.unusedVariables false
theorem own : ownKnob Tryd.prog.godebug = none := by kernel_rfl
theorem laidOut : laidOutB Tryd.prog = true := by kernel_rfl
set_option maxRecDepth 100000 in
theorem door_met (os : Os) (args : Array Value) : laidMetH Tryd.prog Rows.fnExactValidDeskRow.laid ((World.laidAll Tryd.prog os Rows.fnExactValidDeskRow.laid).forCall (fun _ _ => 0) ⟨#[], args, []⟩).memory := by
 rw [MakeChecks.laidMetH_plain _ _ _ (by kernel_rfl)]
 exact laidMet_laidAll _ (by kernel_rfl) (by kernel_rfl)
set_option maxRecDepth 100000 in
theorem lifted (os : Os) (started : os.Started) (H : Type) (enc : TypeId × Value → H) :
  ReturnsInHanded {} Tryd.checked os 5 .any (fun w args => (Rows.fnExactValidDeskSpec.pre enc Tryd.prog Tryd.f5 [] false w args ∧ laidMetH Tryd.prog Rows.fnExactValidDeskRow.laid w) ∧ sizedMet enc Tryd.prog Tryd.f5 (OpenSpec.ofChange Rows.fnExactValidDeskSpec) false w args) (Rows.fnExactValidDeskSpec.post enc Tryd.prog Tryd.f5 false true false false) := by
 refine returnsInHanded_of_change_and (C := Tryd.checked) (X := fun w _ => laidMetH Tryd.prog Rows.fnExactValidDeskRow.laid w) (fun _ _ _ hh h => h.of_heap hh) own started (by kernel_rfl) Tryd.func5
  (ChangeSpec.witness_shaped (enc := enc) (C := Tryd.checked) (os := os) (X := fun w _ => laidMetH Tryd.prog Rows.fnExactValidDeskRow.laid w) false (World.laidAll Tryd.prog os Rows.fnExactValidDeskRow.laid) #[.agg #[.slice none 0 0, .slice none 0 0]] 8 (World.laidAll_os _ _ _) (World.shaped_of_ZipB (by kernel_rfl) (by kernel_rfl)) (by kernel_rfl) (by kernel_rfl) (by kernel_rfl) (door_met os _)) ?_
 intro W base args ds gs before hval0 hW hcnd hsz0 hL _
 have hval : ∀ (j : Nat) t v, Tryd.f5.params[j]? = some t → args[j]? = some v → Value.okWide Tryd.prog W .any base t v := hval0
 have hW' := hW
 obtain ⟨p, q, hA0, hV, rfl, hfz, hnd⟩ := hW
 have hA : DataW.TrodAll enc Tryd.prog W 0 (fun _ => true) true Tryd.f5.params.toList args.toList ds p := hA0
 rw [Tryd.params5] at hA hval
 obtain ⟨v0, vs0, d0, ds0, p0, q0, hargs, rfl, rfl, h0, r0⟩ := trodAll_cons hA
 obtain ⟨rfl, rfl, rfl⟩ := trodAll_nil r0
 obtain rfl : args = #[v0] := by cases args; simp_all
 obtain ⟨rfl, rfl⟩ := trodVars_none hV
 have k0 := h0
 have lt0 : ∀ x ∈ p0, x.block < W.heap.size := by obtain ⟨m, hm⟩ := k0; exact DataW.trod_lt m _ _ _ hm
 obtain ⟨fu0, hf0⟩ := h0
 obtain ⟨cs0, rfl, hcs0⟩ := okWide_struct Tryd.underlying34 (hval 0 34 v0 rfl rfl)
 have hg0 : DataW.trod enc Tryd.prog W 0 (fun _ => true) true fu0 34 cs0.toList = some (d0, p0) := hf0
 obtain ⟨x0_0, x0_1, y0_0, y0_1, m0, hx0, e0_0, e0_1⟩ := fields2 Tryd.underlying34 (by kernel_rfl) ⟨by kernel_rfl, by kernel_rfl⟩ ⟨by kernel_rfl, by kernel_rfl⟩ hg0
 obtain rfl : cs0 = #[x0_0, x0_1] := Array.ext' hx0
 obtain ⟨l0_0, hk0_0, w0_0⟩ := (@opn_slice ByteArray ⟨(⟨#[]⟩ : ByteArray)⟩ _ _ _ _ _ Tryd.underlying22 (by kernel_rfl) (opn_string Tryd.underlying9)) enc W _ _ _ _ _ _ e0_0
 obtain ⟨A0_0, c0_0, he0_0, hc0_0, hr0_0⟩ := slice_of hk0_0
 subst he0_0
 obtain ⟨l0_1, hk0_1, w0_1⟩ := (@opn_slice S90 ⟨z90⟩ _ _ _ _ _ Tryd.underlying32 (by kernel_rfl) (opn_struct2 (p := fun x : S90 => (x.f0, x.f1)) (mk := fun x0 x1 => (⟨x0, x1⟩ : S90)) Tryd.underlying90 (by kernel_rfl) ⟨by kernel_rfl, by kernel_rfl⟩ ⟨by kernel_rfl, by kernel_rfl⟩ (opn_int (k := .i64) Tryd.underlying2) (@opn_slice Int ⟨0⟩ _ _ _ _ _ Tryd.underlying75 (by kernel_rfl) (opn_int (k := .i64) Tryd.underlying2)) (fun _ _ => rfl))) enc W _ _ _ _ _ _ e0_1
 obtain ⟨A0_1, c0_1, he0_1, hc0_1, hr0_1⟩ := slice_of hk0_1
 subst he0_1
 clear hA0 hval0 hsz0
 refine (Q.laws_FnExactValidDesk.walk Pure.FnExactValidDesk A0_0 c0_0 l0_0 A0_1 c0_1 l0_1 W hr0_0 hc0_0 hr0_1 hc0_1 w0_0 w0_1).mono fun e W' ⟨he, bel⟩ => ?_
 subst he
 exact ⟨_, rfl, _, _, _, [], _, [], hW', trodAll_mk1 (shut_bool Tryd.underlying4 _), (trodAll_cons_mk (Below.trod laidOut (by kernel_rfl) (of_decide_eq_true (by kernel_rfl)) k0 bel lt0) trodAll_mk0), rfl, bel.frame _, fun h => by cases h⟩
theorem over : Rows.fnExactValidDeskRow.holds Tryd.pinned (OpenSpec.ofChange Rows.fnExactValidDeskSpec) :=
 OpenClaim.holds_of_wide 5 Tryd.f5 rfl rfl rfl rfl rfl rfl rfl ⟨rfl, rfl, rfl, rfl, rfl⟩ rfl rfl rfl rfl rfl (by kernel_rfl) Tryd.func5 (by kernel_rfl)
  (of_decide_eq_true (by kernel_rfl)) (by unfold Func.isWrapper; first | (rw [if_pos (by decide +kernel)]; kernel_rfl) | (rw [if_neg (by decide +kernel)]; exact ⟨rfl, rfl⟩))
  (fun os started H enc _ => lifted os started H enc)
theorem proved : Rows.FnExactValidDeskSaid := over
end Go.Proofs.YtcnbhfefhmmgjaaDoor.fnExactValidDesk
namespace Go.Proofs.YtcnbhfefhmmgjaaDoor
theorem fnExactValidDesk_row : Rows.FnExactValidDeskSaid := fnExactValidDesk.proved
theorem fnExactValidDesk_holds : Rows.FnExactValidDeskCardSaid :=
 Claim7.holds_tied_plain_at .later [] [.data, .pinned] true (true, "4e7c3545f9c512d91045da73edc0865678b3335669d4bd898bf7b0e76a9ff869") false
  fnExactValidDesk_row (fun _ h => by cases h) (by kernel_rfl) (fun _ h => by cases h) fnExactValidDesk_row_tie rfl ⟨rfl, rfl⟩ (by kernel_rfl) rfl
  (fun f fn hf hfn => by
   obtain rfl : f = 5 := Option.some.inj ((show Tryd.prog.funcNamed "loop.example/g01129/laws.FnExactValidDesk" = some 5 by kernel_rfl).symm.trans hf) |>.symm
   obtain rfl : fn = Tryd.f5 := (Option.some.inj (Tryd.func5.symm.trans hfn)).symm
   exact ⟨by kernel_rfl, fun j t ht => by
    have hm : t ∈ Tryd.f5.params.toList := Array.mem_toList_iff.2 (Array.mem_of_getElem? ht)
    have hall : (Tryd.f5.params.toList.all fun u => !Tryd.prog.wantsStandIn u) = true := by kernel_rfl
    exact (show Tryd.prog.wantsStandIn t = false by simpa using List.all_eq_true.1 hall t hm)⟩)
  (by kernel_rfl)
end Go.Proofs.YtcnbhfefhmmgjaaDoor
