/- The row of laws_FnExactValidPicture: for every input the law returns true and each argument reads afterwards as before; out of its pure statement and the walk. -/
import Derived.Test.YtgndemjphjhahaaRows
import Derived.Test.YtgndemjphjhahaaQ34
import Derived.Test.YtgndemjphjhahaaPureFnExactValidPicture
import Derived.Test.YtgndemjphjhahaaOpn
import Derived.WalkKit
import Derived.ProofKit
import Derived.OpenShut
import Derived.ShutString
import Derived.ChangeOld
import Derived.Below
import Derived.SizedLaws
namespace Go.Proofs.Ytgndemjphjhahaa.fnExactValidPicture
open Go.ChangeShapes Go.WideShapes Go.ChangeAt Go.RowKit Go.Proofs.Ytgndemjphjhahaa Opn
open Go.Proofs.YtgndemjphjhahaaW.PrintWords Go.Proofs.Ytgndemjphjhahaa.Q
open Go.ChangeMaps (open_string shut_string)
set_option linter.unusedVariables false
theorem own : ownKnob Try.prog.godebug = none := by kernel_rfl
theorem laidOut : laidOutB Try.prog = true := by kernel_rfl
set_option maxRecDepth 100000 in
theorem lifted (os : Os) (started : os.Started) (H : Type) (enc : TypeId × Value → H) :
    ReturnsInHanded {} Try.checked os 6 .any (Rows.fnExactValidPictureSpec.pre6 enc Try.prog Try.f6 Rows.fnExactValidPictureRow.domain false) (Rows.fnExactValidPictureSpec.post enc Try.prog Try.f6 false true false false) := by
  refine returnsInHanded_of_change_sized (C := Try.checked) own started (by kernel_rfl) Try.func6
    (ChangeSpec.witness6 (enc := enc) (C := Try.checked) false ⟨#[], #[.agg #[.slice none 0 0]], []⟩ 8 (by kernel_rfl) (by kernel_rfl) (by kernel_rfl) (by kernel_rfl)) ?_
  intro W base args ds gs before hval0 hW hcnd hsz0 _
  have hval : ∀ (j : Nat) t v, Try.f6.params[j]? = some t → args[j]? = some v → Value.okWide Try.prog W .any base t v := hval0
  have hW' := hW
  obtain ⟨p, q, hA0, hV, rfl, hfz, hnd⟩ := hW
  have hA : DataW.TrodAll enc Try.prog W 0 (fun _ => true) true Try.f6.params.toList args.toList ds p := hA0
  rw [Try.params6] at hA hval
  obtain ⟨v0, vs0, d0, ds0, p0, q0, hargs, rfl, rfl, h0, r0⟩ := trodAll_cons hA
  obtain ⟨rfl, rfl, rfl⟩ := trodAll_nil r0
  obtain rfl : args = #[v0] := by cases args; simp_all
  obtain ⟨rfl, rfl⟩ := trodVars_none hV
  have k0 := h0
  have lt0 : ∀ x ∈ p0, x.block < W.heap.size := by obtain ⟨m, hm⟩ := k0; exact DataW.trod_lt m _ _ _ hm
  obtain ⟨fu0, hf0⟩ := h0
  obtain ⟨cs0, rfl, hcs0⟩ := okWide_struct Try.underlying43 (hval 0 43 v0 rfl rfl)
  have hg0 : DataW.trod enc Try.prog W 0 (fun _ => true) true fu0 43 cs0.toList = some (d0, p0) := hf0
  obtain ⟨x0_0, y0_0, m0, hx0, e0_0⟩ := fields1 Try.underlying43 (by kernel_rfl) ⟨by kernel_rfl, by kernel_rfl⟩ hg0
  obtain rfl : cs0 = #[x0_0] := Array.ext' hx0
  obtain ⟨l0_0, hk0_0, w0_0⟩ := (@opn_slice (List Int) ⟨[]⟩ _ _ _ _ _ Try.underlying37 (by kernel_rfl) (@opn_slice Int ⟨0⟩ _ _ _ _ _ Try.underlying65 (by kernel_rfl) (opn_int (k := .i64) Try.underlying2))) enc W _ _ _ _ _ _ e0_0
  obtain ⟨A0_0, c0_0, he0_0, hc0_0, hr0_0⟩ := slice_of hk0_0
  subst he0_0
  clear hA0 hval0 hsz0
  refine (Q.laws_FnExactValidPicture.walk Pure.FnExactValidPicture A0_0 c0_0 l0_0 W hr0_0 hc0_0 w0_0).mono fun e W' ⟨he, bel⟩ => ?_
  subst he
  exact ⟨_, rfl, _, _, _, [], _, [], hW', trodAll_mk1 (shut_bool Try.underlying4 _), (trodAll_cons_mk (Below.trod laidOut (by kernel_rfl) (of_decide_eq_true (by kernel_rfl)) k0 bel lt0) trodAll_mk0), rfl, bel.frame _, fun h => by cases h⟩
theorem over : Rows.fnExactValidPictureRow.holds Try.pinned (OpenSpec.ofChange Rows.fnExactValidPictureSpec) :=
  OpenClaim.holds_of_wide 6 Try.f6 rfl rfl rfl rfl rfl rfl rfl ⟨rfl, rfl, rfl, rfl, rfl⟩ rfl rfl rfl rfl rfl (by kernel_rfl) Try.func6 (by kernel_rfl)
    (of_decide_eq_true (by kernel_rfl)) (by unfold Func.isWrapper; first | (rw [if_pos (by decide +kernel)]; kernel_rfl) | (rw [if_neg (by decide +kernel)]; exact ⟨rfl, rfl⟩))
    (fun os started H enc _ => lifted os started H enc)
theorem proved : Rows.FnExactValidPictureSaid := over
#print axioms proved
end Go.Proofs.Ytgndemjphjhahaa.fnExactValidPicture
namespace Go.Proofs.Ytgndemjphjhahaa
/-- The row, under a short name, for the claim. -/
theorem fnExactValidPicture_holds : Rows.FnExactValidPictureSaid := fnExactValidPicture.proved
end Go.Proofs.Ytgndemjphjhahaa
