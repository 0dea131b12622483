/- The statement FnHereditary, with all that its proof stands on: functions of the program as plain functions, the program's walks, and the plain law. Conditions: none beyond the statement's own. -/
import Derived.ArgAppend
import Derived.Below
import Derived.BigQuiet
import Derived.Deep.AppendLies
import Derived.Deep.CutBlock
import Derived.Deep.DeepCutAuto
import Derived.Deep.Draws
import Derived.Deep.LoopGhost
import Derived.Deep.OwnRows
import Derived.Deep.QuietTactic
import Derived.Deep.RegionHeld3
import Derived.KernelRfl
import Derived.Laws.BitsLemmas
import Derived.Laws.BytesArg
import Derived.Laws.IdiomCopy
import Derived.Laws.MakeOwn
import Derived.Laws.OwnMore
import Derived.Laws.Rows
import Derived.Laws.Slices
import Derived.Lib.AppendStr
import Derived.Lib.ConvBytes
import Derived.Maps.AppendAt
import Derived.OrdersHeld
import Derived.OwnWalk
import Derived.RowKit
import Derived.RowKit3
import Derived.Tactics
import Derived.Test.YtplgfchiaapmfaaProg
import Derived.WalkKit
import Derived.WideLaws
import Derived.Test.YtplgfchiaapmfaaBFnHereditary1
import Derived.Test.YtplgfchiaapmfaaBFnHereditary2
import Derived.Test.YtplgfchiaapmfaaBFnHereditary3
import Derived.Test.YtplgfchiaapmfaaBFnHereditary4
import Derived.Test.YtplgfchiaapmfaaBFnHereditary5
set_option linter.unusedVariables false
set_option linter.unusedSimpArgs false
namespace Go.Proofs.Ytplgfchiaapmfaa.Q
open Go.RowKit Go.Proofs.YtplgfchiaapmfaaW.PrintWords Go.Proofs.YtplgfchiaapmfaaW.PrintLast Go.Proofs.YtplgfchiaapmfaaW.PrintMore
attribute [local go_sem] max2_int min2_int max_two min_two max_three min_three max_four min_four   -- for this text's walks alone
set_option linter.unusedVariables false
set_option linter.unusedSimpArgs false
mutual
def laws_FnHereditary.j0 : Nat → Int → Int → Int → Bool → Int → List Int → Option (Bool)
 | 0, _, _, _, _, _, _ => none
 | k + 1, x6, x11, x13, x119, x512000, x512001 => if x119 = true then (some false) else (if x11 > 0 then (if x6 ≥ (wrap64 (2 * x11)) then (laws_FnHereditary.j1 k x6 x13 true x512000 x512001) else (if x11 = 0 then (laws_FnHereditary.j1 k x6 x13 (decide (x6 > 0)) x512000 x512001) else (laws_FnHereditary.j1 k x6 x13 false x512000 x512001))) else (if x11 = 0 then (laws_FnHereditary.j1 k x6 x13 (decide (x6 > 0)) x512000 x512001) else (laws_FnHereditary.j1 k x6 x13 false x512000 x512001)))
def laws_FnHereditary.j1 : Nat → Int → Int → Bool → Int → List Int → Option (Bool)
 | 0, _, _, _, _, _ => none
 | k + 1, x6, x13, x135, x512000, x512001 => if x135 = true then (some false) else (laws_FnHereditary.l0 k x6 x13 0 x512000 x512001)
def laws_FnHereditary.l0 : Nat → Int → Int → Int → Int → List Int → Option (Bool)
 | 0, _, _, _, _, _ => none
 | k + 1, x6, x13, x19, x512000, x512001 => if x19 ≤ x13 then ((impl_RestrictSystem.f k x512000 x512001 x19).bind fun bt532 => ((impl_DiscrepancyOf.f k bt532.1 bt532.2.1).bind fun bt538 => (if bt532.2.2 = true then (if bt538.2.2 = true then (laws_FnHereditary.j3 k x6 x13 x19 bt538.1 (decide (bt538.1 > x6)) x512000 x512001) else (laws_FnHereditary.j3 k x6 x13 x19 bt538.1 true x512000 x512001)) else (laws_FnHereditary.j3 k x6 x13 x19 bt538.1 true x512000 x512001)))) else (some false)
def laws_FnHereditary.j3 : Nat → Int → Int → Int → Int → Bool → Int → List Int → Option (Bool)
 | 0, _, _, _, _, _, _, _ => none
 | k + 1, x6, x13, x19, x22, x163, x512000, x512001 => if x163 = true then (some false) else (if x22 = x6 then (some true) else (laws_FnHereditary.l0 k x6 x13 (wrap64 (x19 + 1)) x512000 x512001))
end
def laws_FnHereditary.f (k : Nat) (l0 : List Int) (l1 : List Int) : Option (Bool) := (laws_r8Long.f l0 l1).bind fun t506 => (if t506 = true then (some true) else ((spec_R8System.f k l0).bind fun bt507 => ((impl_HereditaryOf.f k bt507.1 bt507.2).bind fun bt512 => ((impl_DiscrepancyOf.f k bt507.1 bt507.2).bind fun bt514 => ((impl_DegreeOf.f k bt507.1 bt507.2).bind fun bt517 => (if 0 ≤ (IntKind.u64.wrap (bt507.1)) then ((laws_r8At.f l1 0 (wrap64 ((wrap64 ((shl .i64 1 (IntKind.u64.wrap (bt507.1))) - 1)) + 1))).bind fun t519 => ((impl_RestrictSystem.f k bt507.1 bt507.2 t519).bind fun bt520 => ((impl_DiscrepancyOf.f k bt520.1 bt520.2.1).bind fun bt526 => (if bt512.2 = true then (if bt514.2.2 = true then (if bt517.2 = true then (if bt520.2.2 = true then (if bt526.2.2 = true then (if bt514.1 > bt512.1 then (laws_FnHereditary.j0 k bt512.1 bt517.1 (wrap64 ((shl .i64 1 (IntKind.u64.wrap (bt507.1))) - 1)) true bt507.1 bt507.2) else (if bt526.1 > bt512.1 then (laws_FnHereditary.j0 k bt512.1 bt517.1 (wrap64 ((shl .i64 1 (IntKind.u64.wrap (bt507.1))) - 1)) true bt507.1 bt507.2) else ((laws_r8At.f l1 0 (wrap64 ((wrap64 ((shl .i64 1 (IntKind.u64.wrap (bt507.1))) - 1)) + 1))).bind fun t529 => ((laws_r8Weight.f k t529).bind fun t530 => (if bt520.1 = t530 then (if (bt520.2.1.length : Int) = (bt507.2.length : Int) then ((impl_IsUnimodular.f k bt507.1 bt507.2).bind fun t531 => (laws_FnHereditary.j0 k bt512.1 bt517.1 (wrap64 ((shl .i64 1 (IntKind.u64.wrap (bt507.1))) - 1)) (t531 != (decide (bt512.1 ≤ 1))) bt507.1 bt507.2)) else (laws_FnHereditary.j0 k bt512.1 bt517.1 (wrap64 ((shl .i64 1 (IntKind.u64.wrap (bt507.1))) - 1)) true bt507.1 bt507.2)) else (laws_FnHereditary.j0 k bt512.1 bt517.1 (wrap64 ((shl .i64 1 (IntKind.u64.wrap (bt507.1))) - 1)) true bt507.1 bt507.2)))))) else (laws_FnHereditary.j0 k bt512.1 bt517.1 (wrap64 ((shl .i64 1 (IntKind.u64.wrap (bt507.1))) - 1)) true bt507.1 bt507.2)) else (laws_FnHereditary.j0 k bt512.1 bt517.1 (wrap64 ((shl .i64 1 (IntKind.u64.wrap (bt507.1))) - 1)) true bt507.1 bt507.2)) else (laws_FnHereditary.j0 k bt512.1 bt517.1 (wrap64 ((shl .i64 1 (IntKind.u64.wrap (bt507.1))) - 1)) true bt507.1 bt507.2)) else (laws_FnHereditary.j0 k bt512.1 bt517.1 (wrap64 ((shl .i64 1 (IntKind.u64.wrap (bt507.1))) - 1)) true bt507.1 bt507.2)) else (laws_FnHereditary.j0 k bt512.1 bt517.1 (wrap64 ((shl .i64 1 (IntKind.u64.wrap (bt507.1))) - 1)) true bt507.1 bt507.2))))) else (none)))))))
theorem laws_FnHereditary.mono_l : ∀ k, (∀ y0 y1 y2 y3 y4 y5, LeO (laws_FnHereditary.j0 k y0 y1 y2 y3 y4 y5) (laws_FnHereditary.j0 (k + 1) y0 y1 y2 y3 y4 y5)) ∧ (∀ y0 y1 y2 y3 y4, LeO (laws_FnHereditary.j1 k y0 y1 y2 y3 y4) (laws_FnHereditary.j1 (k + 1) y0 y1 y2 y3 y4)) ∧ (∀ y0 y1 y2 y3 y4, LeO (laws_FnHereditary.l0 k y0 y1 y2 y3 y4) (laws_FnHereditary.l0 (k + 1) y0 y1 y2 y3 y4)) ∧ (∀ y0 y1 y2 y3 y4 y5 y6, LeO (laws_FnHereditary.j3 k y0 y1 y2 y3 y4 y5 y6) (laws_FnHereditary.j3 (k + 1) y0 y1 y2 y3 y4 y5 y6))
 | 0 => ⟨fun _ _ _ _ _ _ r h => by simp [laws_FnHereditary.j0] at h, fun _ _ _ _ _ r h => by simp [laws_FnHereditary.j1] at h, fun _ _ _ _ _ r h => by simp [laws_FnHereditary.l0] at h, fun _ _ _ _ _ _ _ r h => by simp [laws_FnHereditary.j3] at h⟩
 | k + 1 => by
  obtain ⟨ih0, ih1, ih2, ih3⟩ := laws_FnHereditary.mono_l k
  refine ⟨?_, ?_, ?_, ?_⟩
  ·intro y0 y1 y2 y3 y4 y5
   unfold laws_FnHereditary.j0
   repeat' first
   | (with_reducible exact ih0 _ _ _ _ _ _)
   | (with_reducible exact ih1 _ _ _ _ _)
   | (with_reducible exact ih2 _ _ _ _ _)
   | (with_reducible exact ih3 _ _ _ _ _ _ _)
   | (with_reducible exact impl_DegreeOf.mono _ _ _)
   | (with_reducible exact impl_DiscrepancyOf.mono _ _ _)
   | (with_reducible exact impl_HereditaryOf.mono _ _ _)
   | (with_reducible exact impl_IsUnimodular.mono _ _ _)
   | (with_reducible exact impl_RestrictSystem.mono _ _ _ _)
   | (with_reducible exact laws_r8Weight.mono _ _)
   | (with_reducible exact spec_R8System.mono _ _)
   | (with_reducible exact LeO.refl _)
   | (with_reducible exact LeO.none _)
   | (with_reducible refine LeO.ite ?_ ?_)
   | (with_reducible refine LeO.bind ?_ (fun _ => ?_))
   | exact ih0 _ _ _ _ _ _
   | exact ih1 _ _ _ _ _
   | exact ih2 _ _ _ _ _
   | exact ih3 _ _ _ _ _ _ _
   | exact impl_DegreeOf.mono _ _ _
   | exact impl_DiscrepancyOf.mono _ _ _
   | exact impl_HereditaryOf.mono _ _ _
   | exact impl_IsUnimodular.mono _ _ _
   | exact impl_RestrictSystem.mono _ _ _ _
   | exact laws_r8Weight.mono _ _
   | exact spec_R8System.mono _ _
   | exact LeO.none _
   | refine LeO.ite ?_ ?_
   | refine LeO.bind ?_ (fun _ => ?_)
  ·intro y0 y1 y2 y3 y4
   unfold laws_FnHereditary.j1
   repeat' first
   | (with_reducible exact ih0 _ _ _ _ _ _)
   | (with_reducible exact ih1 _ _ _ _ _)
   | (with_reducible exact ih2 _ _ _ _ _)
   | (with_reducible exact ih3 _ _ _ _ _ _ _)
   | (with_reducible exact impl_DegreeOf.mono _ _ _)
   | (with_reducible exact impl_DiscrepancyOf.mono _ _ _)
   | (with_reducible exact impl_HereditaryOf.mono _ _ _)
   | (with_reducible exact impl_IsUnimodular.mono _ _ _)
   | (with_reducible exact impl_RestrictSystem.mono _ _ _ _)
   | (with_reducible exact laws_r8Weight.mono _ _)
   | (with_reducible exact spec_R8System.mono _ _)
   | (with_reducible exact LeO.refl _)
   | (with_reducible exact LeO.none _)
   | (with_reducible refine LeO.ite ?_ ?_)
   | (with_reducible refine LeO.bind ?_ (fun _ => ?_))
   | exact ih0 _ _ _ _ _ _
   | exact ih1 _ _ _ _ _
   | exact ih2 _ _ _ _ _
   | exact ih3 _ _ _ _ _ _ _
   | exact impl_DegreeOf.mono _ _ _
   | exact impl_DiscrepancyOf.mono _ _ _
   | exact impl_HereditaryOf.mono _ _ _
   | exact impl_IsUnimodular.mono _ _ _
   | exact impl_RestrictSystem.mono _ _ _ _
   | exact laws_r8Weight.mono _ _
   | exact spec_R8System.mono _ _
   | exact LeO.none _
   | refine LeO.ite ?_ ?_
   | refine LeO.bind ?_ (fun _ => ?_)
  ·intro y0 y1 y2 y3 y4
   unfold laws_FnHereditary.l0
   repeat' first
   | (with_reducible exact ih0 _ _ _ _ _ _)
   | (with_reducible exact ih1 _ _ _ _ _)
   | (with_reducible exact ih2 _ _ _ _ _)
   | (with_reducible exact ih3 _ _ _ _ _ _ _)
   | (with_reducible exact impl_DegreeOf.mono _ _ _)
   | (with_reducible exact impl_DiscrepancyOf.mono _ _ _)
   | (with_reducible exact impl_HereditaryOf.mono _ _ _)
   | (with_reducible exact impl_IsUnimodular.mono _ _ _)
   | (with_reducible exact impl_RestrictSystem.mono _ _ _ _)
   | (with_reducible exact laws_r8Weight.mono _ _)
   | (with_reducible exact spec_R8System.mono _ _)
   | (with_reducible exact LeO.refl _)
   | (with_reducible exact LeO.none _)
   | (with_reducible refine LeO.ite ?_ ?_)
   | (with_reducible refine LeO.bind ?_ (fun _ => ?_))
   | exact ih0 _ _ _ _ _ _
   | exact ih1 _ _ _ _ _
   | exact ih2 _ _ _ _ _
   | exact ih3 _ _ _ _ _ _ _
   | exact impl_DegreeOf.mono _ _ _
   | exact impl_DiscrepancyOf.mono _ _ _
   | exact impl_HereditaryOf.mono _ _ _
   | exact impl_IsUnimodular.mono _ _ _
   | exact impl_RestrictSystem.mono _ _ _ _
   | exact laws_r8Weight.mono _ _
   | exact spec_R8System.mono _ _
   | exact LeO.none _
   | refine LeO.ite ?_ ?_
   | refine LeO.bind ?_ (fun _ => ?_)
  ·intro y0 y1 y2 y3 y4 y5 y6
   unfold laws_FnHereditary.j3
   repeat' first
   | (with_reducible exact ih0 _ _ _ _ _ _)
   | (with_reducible exact ih1 _ _ _ _ _)
   | (with_reducible exact ih2 _ _ _ _ _)
   | (with_reducible exact ih3 _ _ _ _ _ _ _)
   | (with_reducible exact impl_DegreeOf.mono _ _ _)
   | (with_reducible exact impl_DiscrepancyOf.mono _ _ _)
   | (with_reducible exact impl_HereditaryOf.mono _ _ _)
   | (with_reducible exact impl_IsUnimodular.mono _ _ _)
   | (with_reducible exact impl_RestrictSystem.mono _ _ _ _)
   | (with_reducible exact laws_r8Weight.mono _ _)
   | (with_reducible exact spec_R8System.mono _ _)
   | (with_reducible exact LeO.refl _)
   | (with_reducible exact LeO.none _)
   | (with_reducible refine LeO.ite ?_ ?_)
   | (with_reducible refine LeO.bind ?_ (fun _ => ?_))
   | exact ih0 _ _ _ _ _ _
   | exact ih1 _ _ _ _ _
   | exact ih2 _ _ _ _ _
   | exact ih3 _ _ _ _ _ _ _
   | exact impl_DegreeOf.mono _ _ _
   | exact impl_DiscrepancyOf.mono _ _ _
   | exact impl_HereditaryOf.mono _ _ _
   | exact impl_IsUnimodular.mono _ _ _
   | exact impl_RestrictSystem.mono _ _ _ _
   | exact laws_r8Weight.mono _ _
   | exact spec_R8System.mono _ _
   | exact LeO.none _
   | refine LeO.ite ?_ ?_
   | refine LeO.bind ?_ (fun _ => ?_)
theorem laws_FnHereditary.mono : ∀ a0 a1 k, LeO (laws_FnHereditary.f k a0 a1) (laws_FnHereditary.f (k + 1) a0 a1) := by
 intro a0 a1 k
 obtain ⟨ih0, ih1, ih2, ih3⟩ := laws_FnHereditary.mono_l k
 unfold laws_FnHereditary.f
 repeat' first
   | (with_reducible exact ih0 _ _ _ _ _ _)
   | (with_reducible exact ih1 _ _ _ _ _)
   | (with_reducible exact ih2 _ _ _ _ _)
   | (with_reducible exact ih3 _ _ _ _ _ _ _)
   | (with_reducible exact impl_DegreeOf.mono _ _ _)
   | (with_reducible exact impl_DiscrepancyOf.mono _ _ _)
   | (with_reducible exact impl_HereditaryOf.mono _ _ _)
   | (with_reducible exact impl_IsUnimodular.mono _ _ _)
   | (with_reducible exact impl_RestrictSystem.mono _ _ _ _)
   | (with_reducible exact laws_r8Weight.mono _ _)
   | (with_reducible exact spec_R8System.mono _ _)
   | (with_reducible exact LeO.refl _)
   | (with_reducible exact LeO.none _)
   | (with_reducible refine LeO.ite ?_ ?_)
   | (with_reducible refine LeO.bind ?_ (fun _ => ?_))
   | exact ih0 _ _ _ _ _ _
   | exact ih1 _ _ _ _ _
   | exact ih2 _ _ _ _ _
   | exact ih3 _ _ _ _ _ _ _
   | exact impl_DegreeOf.mono _ _ _
   | exact impl_DiscrepancyOf.mono _ _ _
   | exact impl_HereditaryOf.mono _ _ _
   | exact impl_IsUnimodular.mono _ _ _
   | exact impl_RestrictSystem.mono _ _ _ _
   | exact laws_r8Weight.mono _ _
   | exact spec_R8System.mono _ _
   | exact LeO.none _
   | refine LeO.ite ?_ ?_
   | refine LeO.bind ?_ (fun _ => ?_)
def laws_FnHereditary.T8 : Bool × List (List Nat × List Nat) := (true, [([], []), ([], []), ([], []), ([2], [2]), ([1, 3], [1, 3]), ([0, 4, 4], [0, 4]), ([5], [5]), ([6], [6]), ([6], [6]), ([], []), ([9, 7, 5, 0, 1, 2, 3, 4, 5, 6, 7, 9], [7, 9]), ([8, 10, 0, 1, 2, 3, 4, 5, 6, 7, 8, 9, 10], [8])])
def laws_FnHereditary.B8 : List Nat := [0, 0, 0, 4, 14, 31, 63, 127, 127, 0, 767, 2047]
theorem laws_FnHereditary.tab8 : rtab .any (opsOf Try.f10 8) = laws_FnHereditary.T8 := by kernel_rfl
theorem laws_FnHereditary.bits8 : waitsOk laws_FnHereditary.T8.2 laws_FnHereditary.B8 = true := by kernel_rfl
def laws_FnHereditary.T10 : Bool × List (List Nat × List Nat) := (true, [([], []), ([0], [0]), ([1], [1]), ([2], [2]), ([3, 2], [2, 3]), ([2, 4], [2, 4]), ([5, 2], [5]), ([6], [6]), ([7, 6], [6, 7]), ([6, 8], [6, 8]), ([9, 6], [9]), ([10], [10]), ([11, 10], [10, 11]), ([10, 12], [10, 12]), ([13, 10], [13]), ([14], [14]), ([15, 14], [14, 15]), ([14, 16], [14, 16]), ([17, 14], [17]), ([18], [18]), ([18], [18]), ([19, 20, 18], [18, 19, 20]), ([18, 21], [18, 21]), ([22, 18], [22]), ([23], [23]), ([23], [23]), ([24, 25, 23], [23, 24, 25]), ([23, 26], [23, 26]), ([27, 23], [27]), ([28], [28]), ([29, 28], [28, 29]), ([28], [28]), ([28], [28]), ([32, 28], [28, 32]), ([31, 33, 28, 28], [28, 31, 33]), ([34, 34, 28], [28, 34]), ([30, 35, 28], [28, 30, 35]), ([28, 36], [28, 36]), ([37, 35], [37]), ([38], [38]), ([39, 38], [38, 39]), ([40, 38], [38, 40]), ([38], [38]), ([42, 38], [38, 42]), ([43, 38], [38, 43]), ([41, 44, 38], [38, 41, 44]), ([38, 45], [38, 45]), ([46, 38], [46]), ([47], [47]), ([48, 47, 47], [47, 48]), ([47], [47]), ([50, 47], [47, 50]), ([49, 51, 47], [47, 49, 51]), ([47, 52], [47, 52])])
def laws_FnHereditary.B10 : List Nat := [0, 1, 3, 7, 15, 31, 63, 127, 255, 511, 1023, 2047, 4095, 8191, 16383, 32767, 65535, 131071, 262143, 524287, 524287, 2097151, 4194303, 8388607, 16777215, 16777215, 67108863, 134217727, 268435455, 536870911, 1073741823, 536870911, 536870911, 4831838207, 15569256447, 32749125631, 68719476735, 137438953471, 274877906943, 549755813887, 1099511627775, 2199023255551, 549755813887, 4947802324991, 13743895347199, 35184372088831, 70368744177663, 140737488355327, 281474976710655, 562949953421311, 281474976710655, 1407374883553279, 4503599627370495, 9007199254740991]
theorem laws_FnHereditary.tab10 : rtab .any (opsOf Try.f10 10) = laws_FnHereditary.T10 := by kernel_rfl
theorem laws_FnHereditary.bits10 : waitsOk laws_FnHereditary.T10.2 laws_FnHereditary.B10 = true := by kernel_rfl
theorem laws_FnHereditary.j0_no (k : Nat) (a b c d : Int) (e : List Int) : laws_FnHereditary.j0 k a b c true d e ≠ some true := by cases k <;> simp [laws_FnHereditary.j0]
set_option maxHeartbeats 8000000 in
set_option maxRecDepth 100000 in
theorem laws_FnHereditary.calls (k : Nat) (A0 : Option Addr) (c0 : Nat) (l0 : List Int) (A1 : Option Addr) (c1 : Nat) (l1 : List Int) (r : Bool) (hr_ : r = true) (w : World) (hr0 : Kd.C (Kd.int .u8) w A0 l0.length l0) (hc0 : l0.length ≤ c0) (hr1 : Kd.C (Kd.int .u8) w A1 l1.length l1) (hc1 : l1.length ≤ c1) (h : laws_FnHereditary.f k l0 l1 = some r) :
  Calls Try.prog 10 #[.slice A0 l0.length c0, .slice A1 l1.length c1] w fun e w' => e = .returned (.bool r) ∧ Below w.heap.size w w' := by
 have hu27 := Try.underlying27
 have HR0 := Aside0.mk hr0
 have HC0 := Aside0.mk hc0
 clear hr0 hc0
 have HR1 := Aside0.mk hr1
 have HC1 := Aside0.mk hc1
 clear hr1 hc1
 have HB := Aside0.mk (Below.refl w.heap.size w)
 have H : ((laws_r8Long.f l0 l1).bind fun t506 => (if t506 = true then (some true) else ((spec_R8System.f k l0).bind fun bt507 => ((impl_HereditaryOf.f k bt507.1 bt507.2).bind fun bt512 => ((impl_DiscrepancyOf.f k bt507.1 bt507.2).bind fun bt514 => ((impl_DegreeOf.f k bt507.1 bt507.2).bind fun bt517 => (if 0 ≤ (IntKind.u64.wrap (bt507.1)) then ((laws_r8At.f l1 0 (wrap64 ((wrap64 ((shl .i64 1 (IntKind.u64.wrap (bt507.1))) - 1)) + 1))).bind fun t519 => ((impl_RestrictSystem.f k bt507.1 bt507.2 t519).bind fun bt520 => ((impl_DiscrepancyOf.f k bt520.1 bt520.2.1).bind fun bt526 => (if bt512.2 = true then (if bt514.2.2 = true then (if bt517.2 = true then (if bt520.2.2 = true then (if bt526.2.2 = true then (if bt514.1 > bt512.1 then (laws_FnHereditary.j0 k bt512.1 bt517.1 (wrap64 ((shl .i64 1 (IntKind.u64.wrap (bt507.1))) - 1)) true bt507.1 bt507.2) else (if bt526.1 > bt512.1 then (laws_FnHereditary.j0 k bt512.1 bt517.1 (wrap64 ((shl .i64 1 (IntKind.u64.wrap (bt507.1))) - 1)) true bt507.1 bt507.2) else ((laws_r8At.f l1 0 (wrap64 ((wrap64 ((shl .i64 1 (IntKind.u64.wrap (bt507.1))) - 1)) + 1))).bind fun t529 => ((laws_r8Weight.f k t529).bind fun t530 => (if bt520.1 = t530 then (if (bt520.2.1.length : Int) = (bt507.2.length : Int) then ((impl_IsUnimodular.f k bt507.1 bt507.2).bind fun t531 => (laws_FnHereditary.j0 k bt512.1 bt517.1 (wrap64 ((shl .i64 1 (IntKind.u64.wrap (bt507.1))) - 1)) (t531 != (decide (bt512.1 ≤ 1))) bt507.1 bt507.2)) else (laws_FnHereditary.j0 k bt512.1 bt517.1 (wrap64 ((shl .i64 1 (IntKind.u64.wrap (bt507.1))) - 1)) true bt507.1 bt507.2)) else (laws_FnHereditary.j0 k bt512.1 bt517.1 (wrap64 ((shl .i64 1 (IntKind.u64.wrap (bt507.1))) - 1)) true bt507.1 bt507.2)))))) else (laws_FnHereditary.j0 k bt512.1 bt517.1 (wrap64 ((shl .i64 1 (IntKind.u64.wrap (bt507.1))) - 1)) true bt507.1 bt507.2)) else (laws_FnHereditary.j0 k bt512.1 bt517.1 (wrap64 ((shl .i64 1 (IntKind.u64.wrap (bt507.1))) - 1)) true bt507.1 bt507.2)) else (laws_FnHereditary.j0 k bt512.1 bt517.1 (wrap64 ((shl .i64 1 (IntKind.u64.wrap (bt507.1))) - 1)) true bt507.1 bt507.2)) else (laws_FnHereditary.j0 k bt512.1 bt517.1 (wrap64 ((shl .i64 1 (IntKind.u64.wrap (bt507.1))) - 1)) true bt507.1 bt507.2)) else (laws_FnHereditary.j0 k bt512.1 bt517.1 (wrap64 ((shl .i64 1 (IntKind.u64.wrap (bt507.1))) - 1)) true bt507.1 bt507.2))))) else (none)))))))) = some r := h
 clear h
 replace H := Option.bind_eq_some_iff.mp H
 obtain ⟨t506, A30, H⟩ := H
 replace H : (if t506 = true then (some true) else ((spec_R8System.f k l0).bind fun bt507 => ((impl_HereditaryOf.f k bt507.1 bt507.2).bind fun bt512 => ((impl_DiscrepancyOf.f k bt507.1 bt507.2).bind fun bt514 => ((impl_DegreeOf.f k bt507.1 bt507.2).bind fun bt517 => (if 0 ≤ (IntKind.u64.wrap (bt507.1)) then ((laws_r8At.f l1 0 (wrap64 ((wrap64 ((shl .i64 1 (IntKind.u64.wrap (bt507.1))) - 1)) + 1))).bind fun t519 => ((impl_RestrictSystem.f k bt507.1 bt507.2 t519).bind fun bt520 => ((impl_DiscrepancyOf.f k bt520.1 bt520.2.1).bind fun bt526 => (if bt512.2 = true then (if bt514.2.2 = true then (if bt517.2 = true then (if bt520.2.2 = true then (if bt526.2.2 = true then (if bt514.1 > bt512.1 then (laws_FnHereditary.j0 k bt512.1 bt517.1 (wrap64 ((shl .i64 1 (IntKind.u64.wrap (bt507.1))) - 1)) true bt507.1 bt507.2) else (if bt526.1 > bt512.1 then (laws_FnHereditary.j0 k bt512.1 bt517.1 (wrap64 ((shl .i64 1 (IntKind.u64.wrap (bt507.1))) - 1)) true bt507.1 bt507.2) else ((laws_r8At.f l1 0 (wrap64 ((wrap64 ((shl .i64 1 (IntKind.u64.wrap (bt507.1))) - 1)) + 1))).bind fun t529 => ((laws_r8Weight.f k t529).bind fun t530 => (if bt520.1 = t530 then (if (bt520.2.1.length : Int) = (bt507.2.length : Int) then ((impl_IsUnimodular.f k bt507.1 bt507.2).bind fun t531 => (laws_FnHereditary.j0 k bt512.1 bt517.1 (wrap64 ((shl .i64 1 (IntKind.u64.wrap (bt507.1))) - 1)) (t531 != (decide (bt512.1 ≤ 1))) bt507.1 bt507.2)) else (laws_FnHereditary.j0 k bt512.1 bt517.1 (wrap64 ((shl .i64 1 (IntKind.u64.wrap (bt507.1))) - 1)) true bt507.1 bt507.2)) else (laws_FnHereditary.j0 k bt512.1 bt517.1 (wrap64 ((shl .i64 1 (IntKind.u64.wrap (bt507.1))) - 1)) true bt507.1 bt507.2)))))) else (laws_FnHereditary.j0 k bt512.1 bt517.1 (wrap64 ((shl .i64 1 (IntKind.u64.wrap (bt507.1))) - 1)) true bt507.1 bt507.2)) else (laws_FnHereditary.j0 k bt512.1 bt517.1 (wrap64 ((shl .i64 1 (IntKind.u64.wrap (bt507.1))) - 1)) true bt507.1 bt507.2)) else (laws_FnHereditary.j0 k bt512.1 bt517.1 (wrap64 ((shl .i64 1 (IntKind.u64.wrap (bt507.1))) - 1)) true bt507.1 bt507.2)) else (laws_FnHereditary.j0 k bt512.1 bt517.1 (wrap64 ((shl .i64 1 (IntKind.u64.wrap (bt507.1))) - 1)) true bt507.1 bt507.2)) else (laws_FnHereditary.j0 k bt512.1 bt517.1 (wrap64 ((shl .i64 1 (IntKind.u64.wrap (bt507.1))) - 1)) true bt507.1 bt507.2))))) else (none))))))) = some r := H
 have A3 := Aside0.mk A30
 clear A30
 by_cases c4 : t506 = true
 ·subst c4
  have H1 : (some true) = some r := by rw [if_pos rfl] at H; exact H
  clear H
  have H := H1
  clear H1
  obtain rfl := Option.some.inj H
  go_enter Try.func10, Try.ntmps10
  go_wp2_with (first | ((with_reducible refine gate_callee (f := 34) rfl ?_); refine goesL_ (some 27) rfl rfl Try.func34 (by kernel_rfl) rfl #[.slice A0 l0.length c0, .slice A1 l1.length c1] rfl (by (try simp only [List.map_toArray, List.map_cons, List.map_nil]); first | done | rfl | (simp only [List.length_drop, List.length_take]; rfl) | (simp only [show ∀ (n_ : Nat) (b_ : Int), Int.tdiv (n_ : Int) b_ = (n_ : Int) / b_ from fun n_ b_ => Int.tdiv_eq_ediv_of_nonneg (Int.natCast_nonneg n_)]; rfl)) ?_; (with_reducible refine (laws_r8Long.calls _ _ l0 _ _ l1 true _ ?side1 ?side2 ?side3 ?side4 A3.out).mono ?_); (case side1 => repeat (first | exact HR0.out | (with_reducible refine Kd.C_alloc ?_ _) | (with_reducible refine Kd.C_drewN ?_ _) | (with_reducible refine Kd.C_drew ?_))); (case side2 => exact HC0.out); (case side3 => repeat (first | exact HR1.out | (with_reducible refine Kd.C_alloc ?_ _) | (with_reducible refine Kd.C_drewN ?_ _) | (with_reducible refine Kd.C_drew ?_))); (case side4 => exact HC1.out); rintro e w' ⟨rfl, ⟨nd, rfl⟩⟩; refine ⟨_, rfl, ?_⟩))
  go_ret
  exact ⟨by first | rfl | (simp [errW_none, errW_some] <;> rfl) | (simp [*, errW_none, errW_some] <;> rfl), by repeat (first | (with_reducible first | exact HB.out | apply below_alloc | apply pw_below_drewN | apply below_drew1) | exact HB.out)⟩
 ·replace c4 := Bool.eq_false_iff.mpr c4
  subst c4
  have H1 : ((spec_R8System.f k l0).bind fun bt507 => ((impl_HereditaryOf.f k bt507.1 bt507.2).bind fun bt512 => ((impl_DiscrepancyOf.f k bt507.1 bt507.2).bind fun bt514 => ((impl_DegreeOf.f k bt507.1 bt507.2).bind fun bt517 => (if 0 ≤ (IntKind.u64.wrap (bt507.1)) then ((laws_r8At.f l1 0 (wrap64 ((wrap64 ((shl .i64 1 (IntKind.u64.wrap (bt507.1))) - 1)) + 1))).bind fun t519 => ((impl_RestrictSystem.f k bt507.1 bt507.2 t519).bind fun bt520 => ((impl_DiscrepancyOf.f k bt520.1 bt520.2.1).bind fun bt526 => (if bt512.2 = true then (if bt514.2.2 = true then (if bt517.2 = true then (if bt520.2.2 = true then (if bt526.2.2 = true then (if bt514.1 > bt512.1 then (laws_FnHereditary.j0 k bt512.1 bt517.1 (wrap64 ((shl .i64 1 (IntKind.u64.wrap (bt507.1))) - 1)) true bt507.1 bt507.2) else (if bt526.1 > bt512.1 then (laws_FnHereditary.j0 k bt512.1 bt517.1 (wrap64 ((shl .i64 1 (IntKind.u64.wrap (bt507.1))) - 1)) true bt507.1 bt507.2) else ((laws_r8At.f l1 0 (wrap64 ((wrap64 ((shl .i64 1 (IntKind.u64.wrap (bt507.1))) - 1)) + 1))).bind fun t529 => ((laws_r8Weight.f k t529).bind fun t530 => (if bt520.1 = t530 then (if (bt520.2.1.length : Int) = (bt507.2.length : Int) then ((impl_IsUnimodular.f k bt507.1 bt507.2).bind fun t531 => (laws_FnHereditary.j0 k bt512.1 bt517.1 (wrap64 ((shl .i64 1 (IntKind.u64.wrap (bt507.1))) - 1)) (t531 != (decide (bt512.1 ≤ 1))) bt507.1 bt507.2)) else (laws_FnHereditary.j0 k bt512.1 bt517.1 (wrap64 ((shl .i64 1 (IntKind.u64.wrap (bt507.1))) - 1)) true bt507.1 bt507.2)) else (laws_FnHereditary.j0 k bt512.1 bt517.1 (wrap64 ((shl .i64 1 (IntKind.u64.wrap (bt507.1))) - 1)) true bt507.1 bt507.2)))))) else (laws_FnHereditary.j0 k bt512.1 bt517.1 (wrap64 ((shl .i64 1 (IntKind.u64.wrap (bt507.1))) - 1)) true bt507.1 bt507.2)) else (laws_FnHereditary.j0 k bt512.1 bt517.1 (wrap64 ((shl .i64 1 (IntKind.u64.wrap (bt507.1))) - 1)) true bt507.1 bt507.2)) else (laws_FnHereditary.j0 k bt512.1 bt517.1 (wrap64 ((shl .i64 1 (IntKind.u64.wrap (bt507.1))) - 1)) true bt507.1 bt507.2)) else (laws_FnHereditary.j0 k bt512.1 bt517.1 (wrap64 ((shl .i64 1 (IntKind.u64.wrap (bt507.1))) - 1)) true bt507.1 bt507.2)) else (laws_FnHereditary.j0 k bt512.1 bt517.1 (wrap64 ((shl .i64 1 (IntKind.u64.wrap (bt507.1))) - 1)) true bt507.1 bt507.2))))) else (none)))))) = some r := by rw [if_neg (show ¬ (false = true) by decide)] at H; exact H
  clear H
  have H := H1
  clear H1
  replace H := Option.bind_eq_some_iff.mp H
  obtain ⟨⟨t507, t508⟩, A50, H⟩ := H
  replace H : ((impl_HereditaryOf.f k t507 t508).bind fun bt512 => ((impl_DiscrepancyOf.f k t507 t508).bind fun bt514 => ((impl_DegreeOf.f k t507 t508).bind fun bt517 => (if 0 ≤ (IntKind.u64.wrap (t507)) then ((laws_r8At.f l1 0 (wrap64 ((wrap64 ((shl .i64 1 (IntKind.u64.wrap (t507))) - 1)) + 1))).bind fun t519 => ((impl_RestrictSystem.f k t507 t508 t519).bind fun bt520 => ((impl_DiscrepancyOf.f k bt520.1 bt520.2.1).bind fun bt526 => (if bt512.2 = true then (if bt514.2.2 = true then (if bt517.2 = true then (if bt520.2.2 = true then (if bt526.2.2 = true then (if bt514.1 > bt512.1 then (laws_FnHereditary.j0 k bt512.1 bt517.1 (wrap64 ((shl .i64 1 (IntKind.u64.wrap (t507))) - 1)) true t507 t508) else (if bt526.1 > bt512.1 then (laws_FnHereditary.j0 k bt512.1 bt517.1 (wrap64 ((shl .i64 1 (IntKind.u64.wrap (t507))) - 1)) true t507 t508) else ((laws_r8At.f l1 0 (wrap64 ((wrap64 ((shl .i64 1 (IntKind.u64.wrap (t507))) - 1)) + 1))).bind fun t529 => ((laws_r8Weight.f k t529).bind fun t530 => (if bt520.1 = t530 then (if (bt520.2.1.length : Int) = (t508.length : Int) then ((impl_IsUnimodular.f k t507 t508).bind fun t531 => (laws_FnHereditary.j0 k bt512.1 bt517.1 (wrap64 ((shl .i64 1 (IntKind.u64.wrap (t507))) - 1)) (t531 != (decide (bt512.1 ≤ 1))) t507 t508)) else (laws_FnHereditary.j0 k bt512.1 bt517.1 (wrap64 ((shl .i64 1 (IntKind.u64.wrap (t507))) - 1)) true t507 t508)) else (laws_FnHereditary.j0 k bt512.1 bt517.1 (wrap64 ((shl .i64 1 (IntKind.u64.wrap (t507))) - 1)) true t507 t508)))))) else (laws_FnHereditary.j0 k bt512.1 bt517.1 (wrap64 ((shl .i64 1 (IntKind.u64.wrap (t507))) - 1)) true t507 t508)) else (laws_FnHereditary.j0 k bt512.1 bt517.1 (wrap64 ((shl .i64 1 (IntKind.u64.wrap (t507))) - 1)) true t507 t508)) else (laws_FnHereditary.j0 k bt512.1 bt517.1 (wrap64 ((shl .i64 1 (IntKind.u64.wrap (t507))) - 1)) true t507 t508)) else (laws_FnHereditary.j0 k bt512.1 bt517.1 (wrap64 ((shl .i64 1 (IntKind.u64.wrap (t507))) - 1)) true t507 t508)) else (laws_FnHereditary.j0 k bt512.1 bt517.1 (wrap64 ((shl .i64 1 (IntKind.u64.wrap (t507))) - 1)) true t507 t508))))) else (none))))) = some r := H
  have A5 := Aside0.mk A50
  clear A50
  replace H := Option.bind_eq_some_iff.mp H
  obtain ⟨⟨t512, t513⟩, A60, H⟩ := H
  replace H : ((impl_DiscrepancyOf.f k t507 t508).bind fun bt514 => ((impl_DegreeOf.f k t507 t508).bind fun bt517 => (if 0 ≤ (IntKind.u64.wrap (t507)) then ((laws_r8At.f l1 0 (wrap64 ((wrap64 ((shl .i64 1 (IntKind.u64.wrap (t507))) - 1)) + 1))).bind fun t519 => ((impl_RestrictSystem.f k t507 t508 t519).bind fun bt520 => ((impl_DiscrepancyOf.f k bt520.1 bt520.2.1).bind fun bt526 => (if t513 = true then (if bt514.2.2 = true then (if bt517.2 = true then (if bt520.2.2 = true then (if bt526.2.2 = true then (if bt514.1 > t512 then (laws_FnHereditary.j0 k t512 bt517.1 (wrap64 ((shl .i64 1 (IntKind.u64.wrap (t507))) - 1)) true t507 t508) else (if bt526.1 > t512 then (laws_FnHereditary.j0 k t512 bt517.1 (wrap64 ((shl .i64 1 (IntKind.u64.wrap (t507))) - 1)) true t507 t508) else ((laws_r8At.f l1 0 (wrap64 ((wrap64 ((shl .i64 1 (IntKind.u64.wrap (t507))) - 1)) + 1))).bind fun t529 => ((laws_r8Weight.f k t529).bind fun t530 => (if bt520.1 = t530 then (if (bt520.2.1.length : Int) = (t508.length : Int) then ((impl_IsUnimodular.f k t507 t508).bind fun t531 => (laws_FnHereditary.j0 k t512 bt517.1 (wrap64 ((shl .i64 1 (IntKind.u64.wrap (t507))) - 1)) (t531 != (decide (t512 ≤ 1))) t507 t508)) else (laws_FnHereditary.j0 k t512 bt517.1 (wrap64 ((shl .i64 1 (IntKind.u64.wrap (t507))) - 1)) true t507 t508)) else (laws_FnHereditary.j0 k t512 bt517.1 (wrap64 ((shl .i64 1 (IntKind.u64.wrap (t507))) - 1)) true t507 t508)))))) else (laws_FnHereditary.j0 k t512 bt517.1 (wrap64 ((shl .i64 1 (IntKind.u64.wrap (t507))) - 1)) true t507 t508)) else (laws_FnHereditary.j0 k t512 bt517.1 (wrap64 ((shl .i64 1 (IntKind.u64.wrap (t507))) - 1)) true t507 t508)) else (laws_FnHereditary.j0 k t512 bt517.1 (wrap64 ((shl .i64 1 (IntKind.u64.wrap (t507))) - 1)) true t507 t508)) else (laws_FnHereditary.j0 k t512 bt517.1 (wrap64 ((shl .i64 1 (IntKind.u64.wrap (t507))) - 1)) true t507 t508)) else (laws_FnHereditary.j0 k t512 bt517.1 (wrap64 ((shl .i64 1 (IntKind.u64.wrap (t507))) - 1)) true t507 t508))))) else (none)))) = some r := H
  have A6 := Aside0.mk A60
  clear A60
  replace H := Option.bind_eq_some_iff.mp H
  obtain ⟨⟨t514, t515, t516⟩, A70, H⟩ := H
  replace H : ((impl_DegreeOf.f k t507 t508).bind fun bt517 => (if 0 ≤ (IntKind.u64.wrap (t507)) then ((laws_r8At.f l1 0 (wrap64 ((wrap64 ((shl .i64 1 (IntKind.u64.wrap (t507))) - 1)) + 1))).bind fun t519 => ((impl_RestrictSystem.f k t507 t508 t519).bind fun bt520 => ((impl_DiscrepancyOf.f k bt520.1 bt520.2.1).bind fun bt526 => (if t513 = true then (if t516 = true then (if bt517.2 = true then (if bt520.2.2 = true then (if bt526.2.2 = true then (if t514 > t512 then (laws_FnHereditary.j0 k t512 bt517.1 (wrap64 ((shl .i64 1 (IntKind.u64.wrap (t507))) - 1)) true t507 t508) else (if bt526.1 > t512 then (laws_FnHereditary.j0 k t512 bt517.1 (wrap64 ((shl .i64 1 (IntKind.u64.wrap (t507))) - 1)) true t507 t508) else ((laws_r8At.f l1 0 (wrap64 ((wrap64 ((shl .i64 1 (IntKind.u64.wrap (t507))) - 1)) + 1))).bind fun t529 => ((laws_r8Weight.f k t529).bind fun t530 => (if bt520.1 = t530 then (if (bt520.2.1.length : Int) = (t508.length : Int) then ((impl_IsUnimodular.f k t507 t508).bind fun t531 => (laws_FnHereditary.j0 k t512 bt517.1 (wrap64 ((shl .i64 1 (IntKind.u64.wrap (t507))) - 1)) (t531 != (decide (t512 ≤ 1))) t507 t508)) else (laws_FnHereditary.j0 k t512 bt517.1 (wrap64 ((shl .i64 1 (IntKind.u64.wrap (t507))) - 1)) true t507 t508)) else (laws_FnHereditary.j0 k t512 bt517.1 (wrap64 ((shl .i64 1 (IntKind.u64.wrap (t507))) - 1)) true t507 t508)))))) else (laws_FnHereditary.j0 k t512 bt517.1 (wrap64 ((shl .i64 1 (IntKind.u64.wrap (t507))) - 1)) true t507 t508)) else (laws_FnHereditary.j0 k t512 bt517.1 (wrap64 ((shl .i64 1 (IntKind.u64.wrap (t507))) - 1)) true t507 t508)) else (laws_FnHereditary.j0 k t512 bt517.1 (wrap64 ((shl .i64 1 (IntKind.u64.wrap (t507))) - 1)) true t507 t508)) else (laws_FnHereditary.j0 k t512 bt517.1 (wrap64 ((shl .i64 1 (IntKind.u64.wrap (t507))) - 1)) true t507 t508)) else (laws_FnHereditary.j0 k t512 bt517.1 (wrap64 ((shl .i64 1 (IntKind.u64.wrap (t507))) - 1)) true t507 t508))))) else (none))) = some r := H
  have A7 := Aside0.mk A70
  clear A70
  replace H := Option.bind_eq_some_iff.mp H
  obtain ⟨⟨t517, t518⟩, A80, H⟩ := H
  replace H : (if 0 ≤ (IntKind.u64.wrap (t507)) then ((laws_r8At.f l1 0 (wrap64 ((wrap64 ((shl .i64 1 (IntKind.u64.wrap (t507))) - 1)) + 1))).bind fun t519 => ((impl_RestrictSystem.f k t507 t508 t519).bind fun bt520 => ((impl_DiscrepancyOf.f k bt520.1 bt520.2.1).bind fun bt526 => (if t513 = true then (if t516 = true then (if t518 = true then (if bt520.2.2 = true then (if bt526.2.2 = true then (if t514 > t512 then (laws_FnHereditary.j0 k t512 t517 (wrap64 ((shl .i64 1 (IntKind.u64.wrap (t507))) - 1)) true t507 t508) else (if bt526.1 > t512 then (laws_FnHereditary.j0 k t512 t517 (wrap64 ((shl .i64 1 (IntKind.u64.wrap (t507))) - 1)) true t507 t508) else ((laws_r8At.f l1 0 (wrap64 ((wrap64 ((shl .i64 1 (IntKind.u64.wrap (t507))) - 1)) + 1))).bind fun t529 => ((laws_r8Weight.f k t529).bind fun t530 => (if bt520.1 = t530 then (if (bt520.2.1.length : Int) = (t508.length : Int) then ((impl_IsUnimodular.f k t507 t508).bind fun t531 => (laws_FnHereditary.j0 k t512 t517 (wrap64 ((shl .i64 1 (IntKind.u64.wrap (t507))) - 1)) (t531 != (decide (t512 ≤ 1))) t507 t508)) else (laws_FnHereditary.j0 k t512 t517 (wrap64 ((shl .i64 1 (IntKind.u64.wrap (t507))) - 1)) true t507 t508)) else (laws_FnHereditary.j0 k t512 t517 (wrap64 ((shl .i64 1 (IntKind.u64.wrap (t507))) - 1)) true t507 t508)))))) else (laws_FnHereditary.j0 k t512 t517 (wrap64 ((shl .i64 1 (IntKind.u64.wrap (t507))) - 1)) true t507 t508)) else (laws_FnHereditary.j0 k t512 t517 (wrap64 ((shl .i64 1 (IntKind.u64.wrap (t507))) - 1)) true t507 t508)) else (laws_FnHereditary.j0 k t512 t517 (wrap64 ((shl .i64 1 (IntKind.u64.wrap (t507))) - 1)) true t507 t508)) else (laws_FnHereditary.j0 k t512 t517 (wrap64 ((shl .i64 1 (IntKind.u64.wrap (t507))) - 1)) true t507 t508)) else (laws_FnHereditary.j0 k t512 t517 (wrap64 ((shl .i64 1 (IntKind.u64.wrap (t507))) - 1)) true t507 t508))))) else (none)) = some r := H
  have A8 := Aside0.mk A80
  clear A80
  obtain ⟨ji9, hji9⟩ : ∃ j_ : Int, (IntKind.u64.wrap (t507)) = j_ := ⟨_, rfl⟩
  replace H : (if 0 ≤ (ji9) then ((laws_r8At.f l1 0 (wrap64 ((wrap64 ((shl .i64 1 (ji9)) - 1)) + 1))).bind fun t519 => ((impl_RestrictSystem.f k t507 t508 t519).bind fun bt520 => ((impl_DiscrepancyOf.f k bt520.1 bt520.2.1).bind fun bt526 => (if t513 = true then (if t516 = true then (if t518 = true then (if bt520.2.2 = true then (if bt526.2.2 = true then (if t514 > t512 then (laws_FnHereditary.j0 k t512 t517 (wrap64 ((shl .i64 1 (ji9)) - 1)) true t507 t508) else (if bt526.1 > t512 then (laws_FnHereditary.j0 k t512 t517 (wrap64 ((shl .i64 1 (ji9)) - 1)) true t507 t508) else ((laws_r8At.f l1 0 (wrap64 ((wrap64 ((shl .i64 1 (ji9)) - 1)) + 1))).bind fun t529 => ((laws_r8Weight.f k t529).bind fun t530 => (if bt520.1 = t530 then (if (bt520.2.1.length : Int) = (t508.length : Int) then ((impl_IsUnimodular.f k t507 t508).bind fun t531 => (laws_FnHereditary.j0 k t512 t517 (wrap64 ((shl .i64 1 (ji9)) - 1)) (t531 != (decide (t512 ≤ 1))) t507 t508)) else (laws_FnHereditary.j0 k t512 t517 (wrap64 ((shl .i64 1 (ji9)) - 1)) true t507 t508)) else (laws_FnHereditary.j0 k t512 t517 (wrap64 ((shl .i64 1 (ji9)) - 1)) true t507 t508)))))) else (laws_FnHereditary.j0 k t512 t517 (wrap64 ((shl .i64 1 (ji9)) - 1)) true t507 t508)) else (laws_FnHereditary.j0 k t512 t517 (wrap64 ((shl .i64 1 (ji9)) - 1)) true t507 t508)) else (laws_FnHereditary.j0 k t512 t517 (wrap64 ((shl .i64 1 (ji9)) - 1)) true t507 t508)) else (laws_FnHereditary.j0 k t512 t517 (wrap64 ((shl .i64 1 (ji9)) - 1)) true t507 t508)) else (laws_FnHereditary.j0 k t512 t517 (wrap64 ((shl .i64 1 (ji9)) - 1)) true t507 t508))))) else (none)) = some r := by first | (rw [hji9] at H; exact H) | (simp only [hji9] at H ⊢; exact H)
  (try rw [hji9] at A3)
  (try rw [hji9] at A5)
  (try rw [hji9] at A6)
  (try rw [hji9] at A7)
  (try rw [hji9] at A8)
  by_cases c10 : 0 ≤ (ji9)
  ·rw [if_pos c10] at H
   have c10b0 := eq_true c10
   have c10b1 : decide (0 ≤ (ji9)) = true := decide_eq_true c10
   clear c10
   obtain ⟨ji11, hji11⟩ : ∃ j_ : Int, (shl .i64 1 (ji9)) = j_ := ⟨_, rfl⟩
   replace H : ((laws_r8At.f l1 0 (wrap64 ((wrap64 ((ji11) - 1)) + 1))).bind fun t519 => ((impl_RestrictSystem.f k t507 t508 t519).bind fun bt520 => ((impl_DiscrepancyOf.f k bt520.1 bt520.2.1).bind fun bt526 => (if t513 = true then (if t516 = true then (if t518 = true then (if bt520.2.2 = true then (if bt526.2.2 = true then (if t514 > t512 then (laws_FnHereditary.j0 k t512 t517 (wrap64 ((ji11) - 1)) true t507 t508) else (if bt526.1 > t512 then (laws_FnHereditary.j0 k t512 t517 (wrap64 ((ji11) - 1)) true t507 t508) else ((laws_r8At.f l1 0 (wrap64 ((wrap64 ((ji11) - 1)) + 1))).bind fun t529 => ((laws_r8Weight.f k t529).bind fun t530 => (if bt520.1 = t530 then (if (bt520.2.1.length : Int) = (t508.length : Int) then ((impl_IsUnimodular.f k t507 t508).bind fun t531 => (laws_FnHereditary.j0 k t512 t517 (wrap64 ((ji11) - 1)) (t531 != (decide (t512 ≤ 1))) t507 t508)) else (laws_FnHereditary.j0 k t512 t517 (wrap64 ((ji11) - 1)) true t507 t508)) else (laws_FnHereditary.j0 k t512 t517 (wrap64 ((ji11) - 1)) true t507 t508)))))) else (laws_FnHereditary.j0 k t512 t517 (wrap64 ((ji11) - 1)) true t507 t508)) else (laws_FnHereditary.j0 k t512 t517 (wrap64 ((ji11) - 1)) true t507 t508)) else (laws_FnHereditary.j0 k t512 t517 (wrap64 ((ji11) - 1)) true t507 t508)) else (laws_FnHereditary.j0 k t512 t517 (wrap64 ((ji11) - 1)) true t507 t508)) else (laws_FnHereditary.j0 k t512 t517 (wrap64 ((ji11) - 1)) true t507 t508))))) = some r := by first | (rw [hji11] at H; exact H) | (simp only [hji11] at H ⊢; exact H)
   (try rw [hji11] at A3)
   (try rw [hji11] at A5)
   (try rw [hji11] at A6)
   (try rw [hji11] at A7)
   (try rw [hji11] at A8)
   have hji11_ : (IntKind.i64.wrap (1 * 2 ^ min (ji9).toNat 64)) = ji11 := hji11
   have hji11z : (ji9) ≤ 64 → (IntKind.i64.wrap (1 * 2 ^ (ji9).toNat)) = ji11 := shl_small hji11
   have hji11u : (IntKind.i64.wrap (2 ^ min (ji9).toNat 64)) = ji11 := by have h_ := hji11_; rw [Int.one_mul] at h_; exact h_
   have hji11v : (ji9) ≤ 64 → (IntKind.i64.wrap (2 ^ (ji9).toNat)) = ji11 := fun hle_ => by have h_ := hji11z hle_; rw [Int.one_mul] at h_; exact h_
   have hji11y : (wrap64 (1 * 2 ^ min (ji9).toNat 64)) = ji11 := (i64_w _).symm.trans hji11_
   have hji11x : (ji9) ≤ 64 → (wrap64 (1 * 2 ^ (ji9).toNat)) = ji11 := fun h_ => (i64_w _).symm.trans (hji11z h_)
   replace H := Option.bind_eq_some_iff.mp H
   obtain ⟨t519, A120, H⟩ := H
   replace H : ((impl_RestrictSystem.f k t507 t508 t519).bind fun bt520 => ((impl_DiscrepancyOf.f k bt520.1 bt520.2.1).bind fun bt526 => (if t513 = true then (if t516 = true then (if t518 = true then (if bt520.2.2 = true then (if bt526.2.2 = true then (if t514 > t512 then (laws_FnHereditary.j0 k t512 t517 (wrap64 ((ji11) - 1)) true t507 t508) else (if bt526.1 > t512 then (laws_FnHereditary.j0 k t512 t517 (wrap64 ((ji11) - 1)) true t507 t508) else ((laws_r8At.f l1 0 (wrap64 ((wrap64 ((ji11) - 1)) + 1))).bind fun t529 => ((laws_r8Weight.f k t529).bind fun t530 => (if bt520.1 = t530 then (if (bt520.2.1.length : Int) = (t508.length : Int) then ((impl_IsUnimodular.f k t507 t508).bind fun t531 => (laws_FnHereditary.j0 k t512 t517 (wrap64 ((ji11) - 1)) (t531 != (decide (t512 ≤ 1))) t507 t508)) else (laws_FnHereditary.j0 k t512 t517 (wrap64 ((ji11) - 1)) true t507 t508)) else (laws_FnHereditary.j0 k t512 t517 (wrap64 ((ji11) - 1)) true t507 t508)))))) else (laws_FnHereditary.j0 k t512 t517 (wrap64 ((ji11) - 1)) true t507 t508)) else (laws_FnHereditary.j0 k t512 t517 (wrap64 ((ji11) - 1)) true t507 t508)) else (laws_FnHereditary.j0 k t512 t517 (wrap64 ((ji11) - 1)) true t507 t508)) else (laws_FnHereditary.j0 k t512 t517 (wrap64 ((ji11) - 1)) true t507 t508)) else (laws_FnHereditary.j0 k t512 t517 (wrap64 ((ji11) - 1)) true t507 t508)))) = some r := H
   have A12 := Aside0.mk A120
   clear A120
   replace H := Option.bind_eq_some_iff.mp H
   obtain ⟨⟨t520, t521, t524⟩, A130, H⟩ := H
   replace H : ((impl_DiscrepancyOf.f k t520 t521).bind fun bt526 => (if t513 = true then (if t516 = true then (if t518 = true then (if t524 = true then (if bt526.2.2 = true then (if t514 > t512 then (laws_FnHereditary.j0 k t512 t517 (wrap64 ((ji11) - 1)) true t507 t508) else (if bt526.1 > t512 then (laws_FnHereditary.j0 k t512 t517 (wrap64 ((ji11) - 1)) true t507 t508) else ((laws_r8At.f l1 0 (wrap64 ((wrap64 ((ji11) - 1)) + 1))).bind fun t529 => ((laws_r8Weight.f k t529).bind fun t530 => (if t520 = t530 then (if (t521.length : Int) = (t508.length : Int) then ((impl_IsUnimodular.f k t507 t508).bind fun t531 => (laws_FnHereditary.j0 k t512 t517 (wrap64 ((ji11) - 1)) (t531 != (decide (t512 ≤ 1))) t507 t508)) else (laws_FnHereditary.j0 k t512 t517 (wrap64 ((ji11) - 1)) true t507 t508)) else (laws_FnHereditary.j0 k t512 t517 (wrap64 ((ji11) - 1)) true t507 t508)))))) else (laws_FnHereditary.j0 k t512 t517 (wrap64 ((ji11) - 1)) true t507 t508)) else (laws_FnHereditary.j0 k t512 t517 (wrap64 ((ji11) - 1)) true t507 t508)) else (laws_FnHereditary.j0 k t512 t517 (wrap64 ((ji11) - 1)) true t507 t508)) else (laws_FnHereditary.j0 k t512 t517 (wrap64 ((ji11) - 1)) true t507 t508)) else (laws_FnHereditary.j0 k t512 t517 (wrap64 ((ji11) - 1)) true t507 t508))) = some r := H
   have A13 := Aside0.mk A130
   clear A130
   replace H := Option.bind_eq_some_iff.mp H
   obtain ⟨⟨t526, t527, t528⟩, A140, H⟩ := H
   replace H : (if t513 = true then (if t516 = true then (if t518 = true then (if t524 = true then (if t528 = true then (if t514 > t512 then (laws_FnHereditary.j0 k t512 t517 (wrap64 ((ji11) - 1)) true t507 t508) else (if t526 > t512 then (laws_FnHereditary.j0 k t512 t517 (wrap64 ((ji11) - 1)) true t507 t508) else ((laws_r8At.f l1 0 (wrap64 ((wrap64 ((ji11) - 1)) + 1))).bind fun t529 => ((laws_r8Weight.f k t529).bind fun t530 => (if t520 = t530 then (if (t521.length : Int) = (t508.length : Int) then ((impl_IsUnimodular.f k t507 t508).bind fun t531 => (laws_FnHereditary.j0 k t512 t517 (wrap64 ((ji11) - 1)) (t531 != (decide (t512 ≤ 1))) t507 t508)) else (laws_FnHereditary.j0 k t512 t517 (wrap64 ((ji11) - 1)) true t507 t508)) else (laws_FnHereditary.j0 k t512 t517 (wrap64 ((ji11) - 1)) true t507 t508)))))) else (laws_FnHereditary.j0 k t512 t517 (wrap64 ((ji11) - 1)) true t507 t508)) else (laws_FnHereditary.j0 k t512 t517 (wrap64 ((ji11) - 1)) true t507 t508)) else (laws_FnHereditary.j0 k t512 t517 (wrap64 ((ji11) - 1)) true t507 t508)) else (laws_FnHereditary.j0 k t512 t517 (wrap64 ((ji11) - 1)) true t507 t508)) else (laws_FnHereditary.j0 k t512 t517 (wrap64 ((ji11) - 1)) true t507 t508)) = some r := H
   have A14 := Aside0.mk A140
   clear A140
   have HC15 := Aside0.mk H
   clear H
   go_enter Try.func10, Try.ntmps10
   try go_wp2_with (first | ((with_reducible refine gate_callee (f := 34) rfl ?_); refine goesL_ (some 27) rfl rfl Try.func34 (by kernel_rfl) rfl #[.slice A0 l0.length c0, .slice A1 l1.length c1] rfl (by (try simp only [List.map_toArray, List.map_cons, List.map_nil]); first | done | rfl | (simp only [List.length_drop, List.length_take]; rfl) | (simp only [show ∀ (n_ : Nat) (b_ : Int), Int.tdiv (n_ : Int) b_ = (n_ : Int) / b_ from fun n_ b_ => Int.tdiv_eq_ediv_of_nonneg (Int.natCast_nonneg n_)]; rfl)) ?_; (with_reducible refine (laws_r8Long.calls _ _ l0 _ _ l1 false _ ?side1 ?side2 ?side3 ?side4 A3.out).mono ?_); (case side1 => repeat (first | exact HR0.out | (with_reducible refine Kd.C_alloc ?_ _) | (with_reducible refine Kd.C_drewN ?_ _) | (with_reducible refine Kd.C_drew ?_))); (case side2 => exact HC0.out); (case side3 => repeat (first | exact HR1.out | (with_reducible refine Kd.C_alloc ?_ _) | (with_reducible refine Kd.C_drewN ?_ _) | (with_reducible refine Kd.C_drew ?_))); (case side4 => exact HC1.out); rintro e w' ⟨rfl, ⟨nd, rfl⟩⟩; refine ⟨_, rfl, ?_⟩) | ((with_reducible refine gate_callee (f := 35) rfl ?_); refine goesL_ (some 29) rfl rfl Try.func35 (by kernel_rfl) rfl #[.slice A0 l0.length c0] rfl (by (try simp only [List.map_toArray, List.map_cons, List.map_nil]); first | done | rfl | (simp only [List.length_drop, List.length_take]; rfl) | (simp only [show ∀ (n_ : Nat) (b_ : Int), Int.tdiv (n_ : Int) b_ = (n_ : Int) / b_ from fun n_ b_ => Int.tdiv_eq_ediv_of_nonneg (Int.natCast_nonneg n_)]; rfl)) ?_; (with_reducible refine (spec_R8System.calls k _ _ l0 t507 t508 _ ?side1 ?side2 A5.out).mono ?_); (case side1 => repeat (first | exact HR0.out | (with_reducible refine Kd.C_alloc ?_ _) | (with_reducible refine Kd.C_drewN ?_ _) | (with_reducible refine Kd.C_drew ?_))); (case side2 => exact HC0.out); rintro e w16 ⟨v509, rfl, ho0, hb⟩; refine ⟨_, rfl, ?_⟩; have n0_ := Aside0.mk (Kd.R_lower ho0 (below_size (by repeat (first | (with_reducible first | exact HB.out | apply below_alloc | apply pw_below_drewN | apply below_drew1) | exact HB.out)))); have n1_ := Aside0.mk (below_step (by repeat (first | (with_reducible first | exact HB.out | apply below_alloc | apply pw_below_drewN | apply below_drew1) | exact HB.out)) hb); clear HB; have HO510 := n0_; have HB := n1_; clear n0_ n1_; (try clear hb); (try clear hb2); (try clear hk); (try clear hi); (try clear ho0)) | ((with_reducible refine gate_dst (N := 5) rfl ?_); (try (refine gate_guard (by rfl) ?_; dsimp only)); refine box_event ?hg (N := 5) ?hd (cs := #[.int .i64 0, .slice none 0 0]) (t := 27) ?hr ?_; (case hd => rfl); (case hg => rfl); (case hr => first | (go_simp; done) | (go_simp; rfl)); intro gb511 hg w17 hbox hb; have n0_ := Aside0.mk (Kd.R_below (by (with_reducible repeat (first | apply Kd.R_alloc | apply Kd.R_drewN | apply Kd.R_drew)); exact HO510.out) hb); have n1_ := Aside0.mk (below_step (by repeat (first | (with_reducible first | exact HB.out | apply below_alloc | apply pw_below_drewN | apply below_drew1) | exact HB.out)) hb); have n2_ := Aside0.mk (hbox); have n3_ := Aside0.mk ((by rw [hg]; exact (below_size (by repeat (first | (with_reducible first | exact HB.out | apply below_alloc | apply pw_below_drewN | apply below_drew1) | exact HB.out))) : w.heap.size ≤ gb511)); have n4_ := Aside0.mk ((by rw [hg]; exact (below_size (by repeat (first | (with_reducible first | exact HB.out | apply below_alloc | apply pw_below_drewN | apply below_drew1) | exact HB.out))) : w.heap.size ≤ gb511)); clear HO510; clear HB; have HO510 := n0_; have HB := n1_; have BK511 := n2_; have GW511 := n3_; have GE511 := n4_; clear n0_ n1_ n2_ n3_ n4_; clear hb hbox hg; have hcz18_0 : w17.cell? ⟨gb511, 0, none⟩ = some (.int .i64 0) := (blk_cell BK511.out 0).trans rfl; have hcz18_1 : w17.cell? ⟨gb511, 1, none⟩ = some (.slice none 0 0) := (blk_cell BK511.out 1).trans rfl; have hfz18_0 := blk_frozen BK511.out 0; have hfz18_1 := blk_frozen BK511.out 1; obtain ⟨Ao19, co19, eo19⟩ := Kd.R_slice HO510.out; subst eo19) | ((with_reducible refine gate_callee (f := 45) rfl ?_); refine goesL_ (some 32) rfl rfl Try.func45 (by kernel_rfl) rfl #[.agg #[.int .i64 t507, .slice Ao19 t508.length co19]] rfl (by (try simp only [List.map_toArray, List.map_cons, List.map_nil]); first | done | rfl | (simp only [List.length_drop, List.length_take]; rfl) | (simp only [show ∀ (n_ : Nat) (b_ : Int), Int.tdiv (n_ : Int) b_ = (n_ : Int) / b_ from fun n_ b_ => Int.tdiv_eq_ediv_of_nonneg (Int.natCast_nonneg n_)]; rfl)) ?_; (with_reducible refine (impl_HereditaryOf.calls k t507 _ _ t508 t512 t513 _ ?side1 ?side2 A6.out).mono ?_); (case side1 => refine (Kd.R_reads' (e := 2) (base := w.heap.size) (ok := fun k_ => True) (n := t508.length) (c := co19) ?_).2.2; exact (by (with_reducible repeat (first | apply Kd.R_alloc | apply Kd.R_drewN | apply Kd.R_drew)); exact (Kd.R_mono (Kd.R_far (p := ⟨gb511, 1, none⟩) (Kd.R_far (p := ⟨gb511, 0, none⟩) (Kd.R_types HO510.out BK511.out (by decide)) (fun _ hk => hk.2) (.int .i64 t507)) (fun _ hk => hk.2) (.slice Ao19 t508.length co19)) (fun _ h_ => h_.1)))); (case side2 => exact (Kd.R_reads' HO510.out).2.1); rintro e w20 ⟨rfl, hb⟩; refine ⟨_, rfl, ?_⟩; have n0_ := Aside0.mk (Kd.R_below (by (with_reducible repeat (first | apply Kd.R_alloc | apply Kd.R_drewN | apply Kd.R_drew)); exact (Kd.R_mono (Kd.R_far (p := ⟨gb511, 1, none⟩) (Kd.R_far (p := ⟨gb511, 0, none⟩) (Kd.R_types HO510.out BK511.out (by decide)) (fun _ hk => hk.2) (.int .i64 t507)) (fun _ hk => hk.2) (.slice Ao19 t508.length co19)) (fun _ h_ => h_.1))) hb); have n1_ := Aside0.mk (blk_below (g := gb511) (o := .cells #[.int .i64 t507, .slice Ao19 t508.length co19] 27 (0, 0)) (by (with_reducible repeat (first | refine blk_drewN ?_ _ | refine blk_drew ?_ | refine blk_alloc ?_ _)); refine blk_put (cs := #[.int .i64 t507, .slice none 0 0]) ?_ 1 _ rfl; (with_reducible repeat (first | refine blk_drewN ?_ _ | refine blk_drew ?_ | refine blk_alloc ?_ _)); refine blk_put (cs := #[.int .i64 0, .slice none 0 0]) ?_ 0 _ rfl; (with_reducible repeat (first | refine blk_drewN ?_ _ | refine blk_drew ?_ | refine blk_alloc ?_ _)); exact BK511.out) hb); have n2_ := Aside0.mk (below_step (by repeat (first | (with_reducible first | exact HB.out | apply below_alloc | apply pw_below_drewN | apply below_drew1 | refine below_set ?_ GE511.out) | exact HB.out)) hb); clear HO510; clear BK511; clear HB; have HO510 := n0_; have BK511 := n1_; have HB := n2_; clear n0_ n1_ n2_; (try clear hb); (try clear hb2); (try clear hk); (try clear hi); have hcz21_0 : w20.cell? ⟨gb511, 0, none⟩ = some (.int .i64 t507) := (blk_cell BK511.out 0).trans rfl; have hcz21_1 : w20.cell? ⟨gb511, 1, none⟩ = some (.slice Ao19 t508.length co19) := (blk_cell BK511.out 1).trans rfl; have hfz21_0 := blk_frozen BK511.out 0; have hfz21_1 := blk_frozen BK511.out 1) | ((with_reducible refine gate_callee (f := 36) rfl ?_); refine goesL_ (some 37) rfl rfl Try.func36 (by kernel_rfl) rfl #[.agg #[.int .i64 t507, .slice Ao19 t508.length co19]] rfl (by (try simp only [List.map_toArray, List.map_cons, List.map_nil]); first | done | rfl | (simp only [List.length_drop, List.length_take]; rfl) | (simp only [show ∀ (n_ : Nat) (b_ : Int), Int.tdiv (n_ : Int) b_ = (n_ : Int) / b_ from fun n_ b_ => Int.tdiv_eq_ediv_of_nonneg (Int.natCast_nonneg n_)]; rfl)) ?_; (with_reducible refine (impl_DiscrepancyOf.calls k t507 _ _ t508 t514 t515 t516 _ ?side1 ?side2 A7.out).mono ?_); (case side1 => repeat (first | exact (Kd.R_reads' HO510.out).2.2 | (with_reducible refine Kd.C_alloc ?_ _) | (with_reducible refine Kd.C_drewN ?_ _) | (with_reducible refine Kd.C_drew ?_))); (case side2 => exact (Kd.R_reads' HO510.out).2.1); rintro e w22 ⟨rfl, hb⟩; refine ⟨_, rfl, ?_⟩; have n0_ := Aside0.mk (Kd.R_below (by (with_reducible repeat (first | apply Kd.R_alloc | apply Kd.R_drewN | apply Kd.R_drew)); exact HO510.out) hb); have n1_ := Aside0.mk (blk_below (g := gb511) (o := .cells #[.int .i64 t507, .slice Ao19 t508.length co19] 27 (0, 0)) (by (with_reducible repeat (first | refine blk_drewN ?_ _ | refine blk_drew ?_ | refine blk_alloc ?_ _)); exact BK511.out) hb); have n2_ := Aside0.mk (below_step (by repeat (first | (with_reducible first | exact HB.out | apply below_alloc | apply pw_below_drewN | apply below_drew1 | refine below_set ?_ GE511.out) | exact HB.out)) hb); clear HO510; clear BK511; clear HB; have HO510 := n0_; have BK511 := n1_; have HB := n2_; clear n0_ n1_ n2_; (try clear hb); (try clear hb2); (try clear hk); (try clear hi); have hcz23_0 : w22.cell? ⟨gb511, 0, none⟩ = some (.int .i64 t507) := (blk_cell BK511.out 0).trans rfl; have hcz23_1 : w22.cell? ⟨gb511, 1, none⟩ = some (.slice Ao19 t508.length co19) := (blk_cell BK511.out 1).trans rfl; have hfz23_0 := blk_frozen BK511.out 0; have hfz23_1 := blk_frozen BK511.out 1) | ((with_reducible refine gate_callee (f := 21) rfl ?_); refine goesL_ (some 43) rfl rfl Try.func21 (by kernel_rfl) rfl #[.agg #[.int .i64 t507, .slice Ao19 t508.length co19]] rfl (by (try simp only [List.map_toArray, List.map_cons, List.map_nil]); first | done | rfl | (simp only [List.length_drop, List.length_take]; rfl) | (simp only [show ∀ (n_ : Nat) (b_ : Int), Int.tdiv (n_ : Int) b_ = (n_ : Int) / b_ from fun n_ b_ => Int.tdiv_eq_ediv_of_nonneg (Int.natCast_nonneg n_)]; rfl)) ?_; (with_reducible refine (impl_DegreeOf.calls k t507 _ _ t508 t517 t518 _ ?side1 ?side2 A8.out).mono ?_); (case side1 => repeat (first | exact (Kd.R_reads' HO510.out).2.2 | (with_reducible refine Kd.C_alloc ?_ _) | (with_reducible refine Kd.C_drewN ?_ _) | (with_reducible refine Kd.C_drew ?_))); (case side2 => exact (Kd.R_reads' HO510.out).2.1); rintro e w24 ⟨rfl, hb⟩; refine ⟨_, rfl, ?_⟩; have n0_ := Aside0.mk (Kd.R_below (by (with_reducible repeat (first | apply Kd.R_alloc | apply Kd.R_drewN | apply Kd.R_drew)); exact HO510.out) hb); have n1_ := Aside0.mk (blk_below (g := gb511) (o := .cells #[.int .i64 t507, .slice Ao19 t508.length co19] 27 (0, 0)) (by (with_reducible repeat (first | refine blk_drewN ?_ _ | refine blk_drew ?_ | refine blk_alloc ?_ _)); exact BK511.out) hb); have n2_ := Aside0.mk (below_step (by repeat (first | (with_reducible first | exact HB.out | apply below_alloc | apply pw_below_drewN | apply below_drew1 | refine below_set ?_ GE511.out) | exact HB.out)) hb); clear HO510; clear BK511; clear HB; have HO510 := n0_; have BK511 := n1_; have HB := n2_; clear n0_ n1_ n2_; (try clear hb); (try clear hb2); (try clear hk); (try clear hi); have hcz25_0 : w24.cell? ⟨gb511, 0, none⟩ = some (.int .i64 t507) := (blk_cell BK511.out 0).trans rfl; have hcz25_1 : w24.cell? ⟨gb511, 1, none⟩ = some (.slice Ao19 t508.length co19) := (blk_cell BK511.out 1).trans rfl; have hfz25_0 := blk_frozen BK511.out 0; have hfz25_1 := blk_frozen BK511.out 1))
   have n0_ := Aside0.mk (Kd.R_drew HO510.out)
   have n1_ := Aside0.mk (blk_drew BK511.out)
   have n2_ := Aside0.mk (below_drew1 HB.out)
   clear HO510
   clear BK511
   clear HB
   have HO510 := n0_
   have BK511 := n1_
   have HB := n2_
   clear n0_ n1_ n2_
   refine start_ (n := 12) (S := fun w' => w'.cell? ⟨gb511, 0, none⟩ = some (.int .i64 t507) ∧ w'.cell? ⟨gb511, 1, none⟩ = some (.slice Ao19 t508.length co19)) (ds := []) #[false, false, false, false, false, false, false, false, false, false, false, false] (by kernel_rfl) rfl rfl ⟨(blk_cell BK511.out 0).trans rfl, (blk_cell BK511.out 1).trans rfl⟩ (fun hHeld => ?_); refine with_tabW laws_FnHereditary.tab8 laws_FnHereditary.bits8 (fun HT_ HW_ => ?_)
   generalize w24.drew = w26 at HO510 BK511 HB hHeld ⊢
   refine pure_ (i := 1) (N := some 53) (v := ?_) (a' := ?_) #[false, true, false, false, false, false, false, false, false, false, false, false] rfl rfl (any_of HT_.out (by kernel_rfl)) (fun _ _ _ h => h) (Or.inl ⟨by rfl, ?_⟩) ?_ ?_
   rotate_left
   ·intro w'
    go_simp
    with_reducible rfl
   rotate_left
   ·simp only [Act.put, List.setIfInBounds_toArray, List.set_cons_zero, List.set_cons_succ, i64_w, i32_w]
    rfl
   refine pure_ (i := 2) (N := some 54) (v := ?_) (a' := ?_) #[false, true, true, false, false, false, false, false, false, false, false, false] rfl rfl (any_of HT_.out (by kernel_rfl)) (fun _ _ _ h => h) (Or.inl ⟨by rfl, ?_⟩) ?_ ?_
   rotate_left
   ·intro w'
    go_simp
    with_reducible rfl
   rotate_left
   ·simp only [Act.put, List.setIfInBounds_toArray, List.set_cons_zero, List.set_cons_succ, i64_w, i32_w]
    rfl
   refine pure_ (i := 3) (N := some 55) (v := ?_) (a' := ?_) #[false, true, true, true, false, false, false, false, false, false, false, false] rfl rfl (any_of HT_.out (by kernel_rfl)) (fun _ _ _ h => h) (Or.inl ⟨by rfl, ?_⟩) ?_ ?_
   rotate_left
   ·intro w'
    go_simp
    with_reducible rfl
   rotate_left
   ·simp only [Act.put, List.setIfInBounds_toArray, List.set_cons_zero, List.set_cons_succ, i64_w, i32_w]
    rfl
   refine take_ (i := 0) (N := some 52) (v := ?_) (a' := ?_) #[true, true, true, true, false, false, false, false, false, false, false, false] rfl rfl (take_ofW HT_.out HW_.out (by kernel_rfl)) (fun _ _ _ h => h) (Or.inl ⟨by rfl, ?_⟩) hHeld ?_ ?_
   rotate_left
   ·rintro w' ⟨s0, s1⟩
    go_simp
    with_reducible rfl
   rotate_left
   ·simp only [Act.put, List.setIfInBounds_toArray, List.set_cons_zero, List.set_cons_succ, i64_w, i32_w]
    rfl
   refine join_ (σ := Value × Nat) 2 #[true, true, true, true, true, true, true, true, true, true, false, false] (fun s_ => [(56, .int .i64 t519), (57, .tuple #[.agg #[.int .i64 t520, s_.1], .bool t524]), (14, .pointer (some ⟨s_.2, 0, none⟩)), (51, .tuple #[.agg #[.int .i64 t520, s_.1], .bool t524]), (58, .agg #[.int .i64 t520, s_.1]), (59, .bool t524)]) (fun s_ w' => (w'.cell? ⟨gb511, 0, none⟩ = some (.int .i64 t507) ∧ w'.cell? ⟨gb511, 1, none⟩ = some (.slice Ao19 t508.length co19)) ∧ (Kd.R (Kd.int .i64) 2 w' w.heap.size (fun k_ => some k_ ≠ (s_.1 : Value).ownBlock) (.slice Ao19 t508.length co19) t508) ∧ (Kd.R (Kd.int .i64) 2 w' w.heap.size (fun k_ => some k_ ≠ (.slice Ao19 t508.length co19 : Value).ownBlock) s_.1 t521) ∧ (w'.heap[gb511]? = some (.cells #[.int .i64 t507, .slice Ao19 t508.length co19] 27 (0, 0))) ∧ (w'.heap[s_.2]? = some (.cells #[.int .i64 0, .slice none 0 0] 27 (0, 0))) ∧ (w.heap.size ≤ s_.2) ∧ (w.heap.size ≤ s_.2) ∧ (gb511 ≠ s_.2) ∧ (s_.2 ≠ gb511) ∧ (Below w.heap.size w w')) ?_ ?_
   rotate_left
   ·intro hCont
    refine two_ (i := 4) (j := 9) (Ni := some 56) (Nj := some 14) #[true, true, true, true, true, false, false, false, false, false, false, false] #[true, true, true, true, false, false, false, false, false, true, false, false] rfl rfl rfl rfl (two_of HT_.out (by kernel_rfl)) (by decide) (by decide) (fun K hK => ?_) (fun K hK => ?_)
    ·skip
     refine goes_ Try.func38 (by kernel_rfl) rfl #[.slice A1 l1.length c1, .int .i64 0, .int .i64 (wrap64 ((wrap64 ((ji11) - 1)) + 1))] (by rfl) rfl rfl (by (try simp only [List.map_toArray, List.map_cons, List.map_nil]); first | done | (simp only [hji11]; rfl) | rfl | (simp only [List.length_drop, List.length_take]; rfl)) ?_
     with_reducible refine (laws_r8At.calls _ _ l1 0 (wrap64 ((wrap64 ((ji11) - 1)) + 1)) t519 _ ?side1 ?side2 A12.out).mono ?_
     (case side1 => repeat (first | exact (Kd.C_below HR1.out HB.out) | (with_reducible refine Kd.C_alloc ?_ _) | (with_reducible refine Kd.C_drewN ?_ _) | (with_reducible refine Kd.C_drew ?_)))
     (case side2 => exact HC1.out)
     rintro e w' ⟨rfl, ⟨nd, rfl⟩⟩
     refine ⟨_, rfl, ?_⟩
     refine hK.out _ _ ⟨(blk_cell BK511.out 0).trans rfl, (blk_cell BK511.out 1).trans rfl⟩ (fun hHeld => ?_)
     clear hK K
     refine norm_ (a' := ?_) ?_ ?_
     rotate_left
     ·show Act.put _ (some 56) _ = _
      simp only [Act.put, List.setIfInBounds_toArray, List.set_cons_zero, List.set_cons_succ, i64_w, i32_w]
      rfl
     refine two_ (i := 5) (j := 9) (Ni := some 57) (Nj := some 14) #[true, true, true, true, true, true, false, false, false, false, false, false] #[true, true, true, true, true, false, false, false, false, true, false, false] rfl rfl rfl rfl (two_of HT_.out (by kernel_rfl)) (by decide) (by decide) (fun K hK => ?_) (fun K hK => ?_)
     ·skip
      refine goes_ Try.func46 (by kernel_rfl) rfl #[.agg #[.int .i64 t507, .slice Ao19 t508.length co19], .int .i64 t519] (by rfl) rfl rfl (by (try simp only [List.map_toArray, List.map_cons, List.map_nil]); first | done | rfl | (simp only [List.length_drop, List.length_take]; rfl) | (simp only [show ∀ (n_ : Nat) (b_ : Int), Int.tdiv (n_ : Int) b_ = (n_ : Int) / b_ from fun n_ b_ => Int.tdiv_eq_ediv_of_nonneg (Int.natCast_nonneg n_)]; rfl)) ?_
      with_reducible refine (impl_RestrictSystem.calls k t507 _ _ t508 t519 t520 t521 t524 _ ?side1 ?side2 A13.out).mono ?_
      (case side1 => repeat (first | exact (Kd.R_reads' HO510.out).2.2 | (with_reducible refine Kd.C_alloc ?_ _) | (with_reducible refine Kd.C_drewN ?_ _) | (with_reducible refine Kd.C_drew ?_)))
      (case side2 => exact (Kd.R_reads' HO510.out).2.1)
      rintro e w27 ⟨v522, rfl, ho0, hb⟩
      refine ⟨_, rfl, ?_⟩
      have n0_ := Aside0.mk (Kd.R_elder' (by (with_reducible repeat (first | apply Kd.R_alloc | apply Kd.R_drewN | apply Kd.R_drew)); exact HO510.out) (Kd.R_base ho0) hb)
      have n1_ := Aside0.mk (Kd.R_lower (Kd.R_new' ho0 (Kd.R_lt (by (with_reducible repeat (first | apply Kd.R_alloc | apply Kd.R_drewN | apply Kd.R_drew)); exact HO510.out))) (below_size (by repeat (first | (with_reducible first | exact HB.out | apply below_alloc | apply pw_below_drewN | apply below_drew1 | refine below_set ?_ GE511.out) | exact HB.out))))
      have n2_ := Aside0.mk (blk_below (g := gb511) (o := .cells #[.int .i64 t507, .slice Ao19 t508.length co19] 27 (0, 0)) (by (with_reducible repeat (first | refine blk_drewN ?_ _ | refine blk_drew ?_ | refine blk_alloc ?_ _)); exact BK511.out) hb)
      have n3_ := Aside0.mk (below_step (by repeat (first | (with_reducible first | exact HB.out | apply below_alloc | apply pw_below_drewN | apply below_drew1 | refine below_set ?_ GE511.out) | exact HB.out)) hb)
      clear HO510
      clear BK511
      clear HB
      have HO510 := n0_
      have HO523 := n1_
      have BK511 := n2_
      have HB := n3_
      clear n0_ n1_ n2_ n3_
      (try clear hb)
      (try clear hb2)
      (try clear hk)
      (try clear hi)
      (try clear ho0)
      refine hK.out _ _ ⟨(blk_cell BK511.out 0).trans rfl, (blk_cell BK511.out 1).trans rfl⟩ (fun hHeld => ?_)
      clear hK K
      refine norm_ (a' := ?_) ?_ ?_
      rotate_left
      ·show Act.put _ (some 57) _ = _
       simp only [Act.put, List.setIfInBounds_toArray, List.set_cons_zero, List.set_cons_succ, i64_w, i32_w]
       rfl
      refine pure_ (i := 6) (N := some 51) (v := ?_) (a' := ?_) #[true, true, true, true, true, true, true, false, false, false, false, false] rfl rfl (any_of HT_.out (by kernel_rfl)) (fun _ _ _ h => h) (Or.inl ⟨by rfl, ?_⟩) ?_ ?_
      rotate_left
      ·intro w'
       go_simp
       with_reducible rfl
      rotate_left
      ·simp only [Act.put, List.setIfInBounds_toArray, List.set_cons_zero, List.set_cons_succ, i64_w, i32_w]
       rfl
      refine pure_ (i := 7) (N := some 58) (v := ?_) (a' := ?_) #[true, true, true, true, true, true, true, true, false, false, false, false] rfl rfl (any_of HT_.out (by kernel_rfl)) (fun _ _ _ h => h) (Or.inl ⟨by rfl, ?_⟩) ?_ ?_
      rotate_left
      ·intro w'
       go_simp
       with_reducible rfl
      rotate_left
      ·simp only [Act.put, List.setIfInBounds_toArray, List.set_cons_zero, List.set_cons_succ, i64_w, i32_w]
       rfl
      refine pure_ (i := 8) (N := some 59) (v := ?_) (a' := ?_) #[true, true, true, true, true, true, true, true, true, false, false, false] rfl rfl (any_of HT_.out (by kernel_rfl)) (fun _ _ _ h => h) (Or.inl ⟨by rfl, ?_⟩) ?_ ?_
      rotate_left
      ·intro w'
       go_simp
       with_reducible rfl
      rotate_left
      ·simp only [Act.put, List.setIfInBounds_toArray, List.set_cons_zero, List.set_cons_succ, i64_w, i32_w]
       rfl
      refine one_ (i := 9) (N := some 14) #[true, true, true, true, true, true, true, true, true, true, false, false] rfl rfl (one_of HT_.out (by kernel_rfl)) (by decide) (fun K hK => ?_)
      refine box_step ?hg (N := 14) ?hd (cs := #[.int .i64 0, .slice none 0 0]) (t := 27) ?hr ?_; (case hd => rfl); (case hg => rfl); (case hr => first | (go_simp; done) | (go_simp; rfl))
      intro gb525 hg w28 hbox hb
      have n0_ := Aside0.mk (Kd.R_below (by (with_reducible repeat (first | apply Kd.R_alloc | apply Kd.R_drewN | apply Kd.R_drew)); exact HO510.out) hb)
      have n1_ := Aside0.mk (Kd.R_below (by (with_reducible repeat (first | apply Kd.R_alloc | apply Kd.R_drewN | apply Kd.R_drew)); exact HO523.out) hb)
      have n2_ := Aside0.mk (blk_below (g := gb511) (o := .cells #[.int .i64 t507, .slice Ao19 t508.length co19] 27 (0, 0)) (by (with_reducible repeat (first | refine blk_drewN ?_ _ | refine blk_drew ?_ | refine blk_alloc ?_ _)); exact BK511.out) hb)
      have n3_ := Aside0.mk (below_step (by repeat (first | (with_reducible first | exact HB.out | apply below_alloc | apply pw_below_drewN | apply below_drew1 | refine below_set ?_ GE511.out) | exact HB.out)) hb)
      have n4_ := Aside0.mk (hbox)
      have n5_ := Aside0.mk ((by rw [hg]; exact (below_size (by repeat (first | (with_reducible first | exact HB.out | apply below_alloc | apply pw_below_drewN | apply below_drew1 | refine below_set ?_ GE511.out) | exact HB.out))) : w.heap.size ≤ gb525))
      have n6_ := Aside0.mk ((by rw [hg]; exact (below_size (by repeat (first | (with_reducible first | exact HB.out | apply below_alloc | apply pw_below_drewN | apply below_drew1 | refine below_set ?_ GE511.out) | exact HB.out))) : w.heap.size ≤ gb525))
      have n7_ := Aside0.mk ((by rw [hg]; exact Nat.ne_of_lt (blk_lt (g := gb511) (o := .cells #[.int .i64 t507, .slice Ao19 t508.length co19] 27 (0, 0)) (by (with_reducible repeat (first | refine blk_drewN ?_ _ | refine blk_drew ?_ | refine blk_alloc ?_ _)); exact BK511.out)) : gb511 ≠ gb525))
      have n8_ := Aside0.mk ((by rw [hg]; exact Nat.ne_of_gt (blk_lt (g := gb511) (o := .cells #[.int .i64 t507, .slice Ao19 t508.length co19] 27 (0, 0)) (by (with_reducible repeat (first | refine blk_drewN ?_ _ | refine blk_drew ?_ | refine blk_alloc ?_ _)); exact BK511.out)) : gb525 ≠ gb511))
      clear HO510
      clear HO523
      clear BK511
      clear HB
      have HO510 := n0_
      have HO523 := n1_
      have BK511 := n2_
      have HB := n3_
      have BK525 := n4_
      have GW525 := n5_
      have GE525 := n6_
      have NB511_525 := n7_
      have NB525_511 := n8_
      clear n0_ n1_ n2_ n3_ n4_ n5_ n6_ n7_ n8_
      clear hb hbox hg
      refine hK.out _ _ ⟨(blk_cell BK511.out 0).trans rfl, (blk_cell BK511.out 1).trans rfl⟩ (fun hHeld => ?_)
      clear hK K
      refine norm_ (a' := ?_) ?_ ?_
      rotate_left
      ·show Act.put _ (some 14) _ = _
       simp only [Act.put, List.setIfInBounds_toArray, List.set_cons_zero, List.set_cons_succ, i64_w, i32_w]
       rfl
      exact norm_ (by simp only [putAll, Act.put, List.setIfInBounds_toArray, List.set_cons_zero, List.set_cons_succ]) (hCont (v522, gb525) _ ⟨hHeld, (by (with_reducible repeat (first | apply Kd.R_alloc | apply Kd.R_drewN | apply Kd.R_drew)); exact Kd.R_mono HO510.out (fun _ hk => hk.2)), (by (with_reducible repeat (first | apply Kd.R_alloc | apply Kd.R_drewN | apply Kd.R_drew)); exact Kd.R_mono HO523.out (fun _ hk => hk.2)), (by (with_reducible repeat (first | refine blk_drewN ?_ _ | refine blk_drew ?_ | refine blk_alloc ?_ _)); exact BK511.out), (by (with_reducible repeat (first | refine blk_drewN ?_ _ | refine blk_drew ?_ | refine blk_alloc ?_ _)); exact BK525.out), GW525.out, GE525.out, NB511_525.out, NB525_511.out, (by repeat (first | (with_reducible first | exact HB.out | apply below_alloc | apply pw_below_drewN | apply below_drew1 | refine below_set ?_ GE511.out | refine below_set ?_ GE525.out) | exact HB.out))⟩)
     ·skip
      refine box_step ?hg (N := 14) ?hd (cs := #[.int .i64 0, .slice none 0 0]) (t := 27) ?hr ?_; (case hd => rfl); (case hg => rfl); (case hr => first | (go_simp; done) | (go_simp; rfl))
      intro gb525 hg w27 hbox hb
      have n0_ := Aside0.mk (Kd.R_below (by (with_reducible repeat (first | apply Kd.R_alloc | apply Kd.R_drewN | apply Kd.R_drew)); exact HO510.out) hb)
      have n1_ := Aside0.mk (blk_below (g := gb511) (o := .cells #[.int .i64 t507, .slice Ao19 t508.length co19] 27 (0, 0)) (by (with_reducible repeat (first | refine blk_drewN ?_ _ | refine blk_drew ?_ | refine blk_alloc ?_ _)); exact BK511.out) hb)
      have n2_ := Aside0.mk (below_step (by repeat (first | (with_reducible first | exact HB.out | apply below_alloc | apply pw_below_drewN | apply below_drew1 | refine below_set ?_ GE511.out) | exact HB.out)) hb)
      have n3_ := Aside0.mk (hbox)
      have n4_ := Aside0.mk ((by rw [hg]; exact (below_size (by repeat (first | (with_reducible first | exact HB.out | apply below_alloc | apply pw_below_drewN | apply below_drew1 | refine below_set ?_ GE511.out) | exact HB.out))) : w.heap.size ≤ gb525))
      have n5_ := Aside0.mk ((by rw [hg]; exact (below_size (by repeat (first | (with_reducible first | exact HB.out | apply below_alloc | apply pw_below_drewN | apply below_drew1 | refine below_set ?_ GE511.out) | exact HB.out))) : w.heap.size ≤ gb525))
      have n6_ := Aside0.mk ((by rw [hg]; exact Nat.ne_of_lt (blk_lt (g := gb511) (o := .cells #[.int .i64 t507, .slice Ao19 t508.length co19] 27 (0, 0)) (by (with_reducible repeat (first | refine blk_drewN ?_ _ | refine blk_drew ?_ | refine blk_alloc ?_ _)); exact BK511.out)) : gb511 ≠ gb525))
      have n7_ := Aside0.mk ((by rw [hg]; exact Nat.ne_of_gt (blk_lt (g := gb511) (o := .cells #[.int .i64 t507, .slice Ao19 t508.length co19] 27 (0, 0)) (by (with_reducible repeat (first | refine blk_drewN ?_ _ | refine blk_drew ?_ | refine blk_alloc ?_ _)); exact BK511.out)) : gb525 ≠ gb511))
      clear HO510
      clear BK511
      clear HB
      have HO510 := n0_
      have BK511 := n1_
      have HB := n2_
      have BK525 := n3_
      have GW525 := n4_
      have GE525 := n5_
      have NB511_525 := n6_
      have NB525_511 := n7_
      clear n0_ n1_ n2_ n3_ n4_ n5_ n6_ n7_
      clear hb hbox hg
      refine hK.out _ _ ⟨(blk_cell BK511.out 0).trans rfl, (blk_cell BK511.out 1).trans rfl⟩ (fun hHeld => ?_)
      clear hK K
      refine norm_ (a' := ?_) ?_ ?_
      rotate_left
      ·show Act.put _ (some 14) _ = _
       simp only [Act.put, List.setIfInBounds_toArray, List.set_cons_zero, List.set_cons_succ, i64_w, i32_w]
       rfl
      refine one_ (i := 5) (N := some 57) #[true, true, true, true, true, true, false, false, false, true, false, false] rfl rfl (one_of HT_.out (by kernel_rfl)) (by decide) (fun K hK => ?_)
      refine goes_ Try.func46 (by kernel_rfl) rfl #[.agg #[.int .i64 t507, .slice Ao19 t508.length co19], .int .i64 t519] (by rfl) rfl rfl (by (try simp only [List.map_toArray, List.map_cons, List.map_nil]); first | done | rfl | (simp only [List.length_drop, List.length_take]; rfl) | (simp only [show ∀ (n_ : Nat) (b_ : Int), Int.tdiv (n_ : Int) b_ = (n_ : Int) / b_ from fun n_ b_ => Int.tdiv_eq_ediv_of_nonneg (Int.natCast_nonneg n_)]; rfl)) ?_
      with_reducible refine (impl_RestrictSystem.calls k t507 _ _ t508 t519 t520 t521 t524 _ ?side1 ?side2 A13.out).mono ?_
      (case side1 => repeat (first | exact (Kd.R_reads' HO510.out).2.2 | (with_reducible refine Kd.C_alloc ?_ _) | (with_reducible refine Kd.C_drewN ?_ _) | (with_reducible refine Kd.C_drew ?_)))
      (case side2 => exact (Kd.R_reads' HO510.out).2.1)
      rintro e w28 ⟨v522, rfl, ho0, hb⟩
      refine ⟨_, rfl, ?_⟩
      have n0_ := Aside0.mk (Kd.R_elder' (by (with_reducible repeat (first | apply Kd.R_alloc | apply Kd.R_drewN | apply Kd.R_drew)); exact HO510.out) (Kd.R_base ho0) hb)
      have n1_ := Aside0.mk (Kd.R_lower (Kd.R_new' ho0 (Kd.R_lt (by (with_reducible repeat (first | apply Kd.R_alloc | apply Kd.R_drewN | apply Kd.R_drew)); exact HO510.out))) (below_size (by repeat (first | (with_reducible first | exact HB.out | apply below_alloc | apply pw_below_drewN | apply below_drew1 | refine below_set ?_ GE511.out | refine below_set ?_ GE525.out) | exact HB.out))))
      have n2_ := Aside0.mk (blk_below (g := gb511) (o := .cells #[.int .i64 t507, .slice Ao19 t508.length co19] 27 (0, 0)) (by (with_reducible repeat (first | refine blk_drewN ?_ _ | refine blk_drew ?_ | refine blk_alloc ?_ _)); exact BK511.out) hb)
      have n3_ := Aside0.mk (blk_below (g := gb525) (o := .cells #[.int .i64 0, .slice none 0 0] 27 (0, 0)) (by (with_reducible repeat (first | refine blk_drewN ?_ _ | refine blk_drew ?_ | refine blk_alloc ?_ _)); exact BK525.out) hb)
      have n4_ := Aside0.mk (below_step (by repeat (first | (with_reducible first | exact HB.out | apply below_alloc | apply pw_below_drewN | apply below_drew1 | refine below_set ?_ GE511.out | refine below_set ?_ GE525.out) | exact HB.out)) hb)
      clear HO510
      clear BK511
      clear BK525
      clear HB
      have HO510 := n0_
      have HO523 := n1_
      have BK511 := n2_
      have BK525 := n3_
      have HB := n4_
      clear n0_ n1_ n2_ n3_ n4_
      (try clear hb)
      (try clear hb2)
      (try clear hk)
      (try clear hi)
      (try clear ho0)
      refine hK.out _ _ ⟨(blk_cell BK511.out 0).trans rfl, (blk_cell BK511.out 1).trans rfl⟩ (fun hHeld => ?_)
      clear hK K
      refine norm_ (a' := ?_) ?_ ?_
      rotate_left
      ·show Act.put _ (some 57) _ = _
       simp only [Act.put, List.setIfInBounds_toArray, List.set_cons_zero, List.set_cons_succ, i64_w, i32_w]
       rfl
      refine pure_ (i := 6) (N := some 51) (v := ?_) (a' := ?_) #[true, true, true, true, true, true, true, false, false, true, false, false] rfl rfl (any_of HT_.out (by kernel_rfl)) (fun _ _ _ h => h) (Or.inl ⟨by rfl, ?_⟩) ?_ ?_
      rotate_left
      ·intro w'
       go_simp
       with_reducible rfl
      rotate_left
      ·simp only [Act.put, List.setIfInBounds_toArray, List.set_cons_zero, List.set_cons_succ, i64_w, i32_w]
       rfl
      refine pure_ (i := 7) (N := some 58) (v := ?_) (a' := ?_) #[true, true, true, true, true, true, true, true, false, true, false, false] rfl rfl (any_of HT_.out (by kernel_rfl)) (fun _ _ _ h => h) (Or.inl ⟨by rfl, ?_⟩) ?_ ?_
      rotate_left
      ·intro w'
       go_simp
       with_reducible rfl
      rotate_left
      ·simp only [Act.put, List.setIfInBounds_toArray, List.set_cons_zero, List.set_cons_succ, i64_w, i32_w]
       rfl
      refine pure_ (i := 8) (N := some 59) (v := ?_) (a' := ?_) #[true, true, true, true, true, true, true, true, true, true, false, false] rfl rfl (any_of HT_.out (by kernel_rfl)) (fun _ _ _ h => h) (Or.inl ⟨by rfl, ?_⟩) ?_ ?_
      rotate_left
      ·intro w'
       go_simp
       with_reducible rfl
      rotate_left
      ·simp only [Act.put, List.setIfInBounds_toArray, List.set_cons_zero, List.set_cons_succ, i64_w, i32_w]
       rfl
      exact norm_ (by simp only [putAll, Act.put, List.setIfInBounds_toArray, List.set_cons_zero, List.set_cons_succ]) (hCont (v522, gb525) _ ⟨hHeld, (by (with_reducible repeat (first | apply Kd.R_alloc | apply Kd.R_drewN | apply Kd.R_drew)); exact Kd.R_mono HO510.out (fun _ hk => hk.2)), (by (with_reducible repeat (first | apply Kd.R_alloc | apply Kd.R_drewN | apply Kd.R_drew)); exact Kd.R_mono HO523.out (fun _ hk => hk.2)), (by (with_reducible repeat (first | refine blk_drewN ?_ _ | refine blk_drew ?_ | refine blk_alloc ?_ _)); exact BK511.out), (by (with_reducible repeat (first | refine blk_drewN ?_ _ | refine blk_drew ?_ | refine blk_alloc ?_ _)); exact BK525.out), GW525.out, GE525.out, NB511_525.out, NB525_511.out, (by repeat (first | (with_reducible first | exact HB.out | apply below_alloc | apply pw_below_drewN | apply below_drew1 | refine below_set ?_ GE511.out | refine below_set ?_ GE525.out) | exact HB.out))⟩)
    ·skip
     refine box_step ?hg (N := 14) ?hd (cs := #[.int .i64 0, .slice none 0 0]) (t := 27) ?hr ?_; (case hd => rfl); (case hg => rfl); (case hr => first | (go_simp; done) | (go_simp; rfl))
     intro gb525 hg w27 hbox hb
     have n0_ := Aside0.mk (Kd.R_below (by (with_reducible repeat (first | apply Kd.R_alloc | apply Kd.R_drewN | apply Kd.R_drew)); exact HO510.out) hb)
     have n1_ := Aside0.mk (blk_below (g := gb511) (o := .cells #[.int .i64 t507, .slice Ao19 t508.length co19] 27 (0, 0)) (by (with_reducible repeat (first | refine blk_drewN ?_ _ | refine blk_drew ?_ | refine blk_alloc ?_ _)); exact BK511.out) hb)
     have n2_ := Aside0.mk (below_step (by repeat (first | (with_reducible first | exact HB.out | apply below_alloc | apply pw_below_drewN | apply below_drew1 | refine below_set ?_ GE511.out) | exact HB.out)) hb)
     have n3_ := Aside0.mk (hbox)
     have n4_ := Aside0.mk ((by rw [hg]; exact (below_size (by repeat (first | (with_reducible first | exact HB.out | apply below_alloc | apply pw_below_drewN | apply below_drew1 | refine below_set ?_ GE511.out) | exact HB.out))) : w.heap.size ≤ gb525))
     have n5_ := Aside0.mk ((by rw [hg]; exact (below_size (by repeat (first | (with_reducible first | exact HB.out | apply below_alloc | apply pw_below_drewN | apply below_drew1 | refine below_set ?_ GE511.out) | exact HB.out))) : w.heap.size ≤ gb525))
     have n6_ := Aside0.mk ((by rw [hg]; exact Nat.ne_of_lt (blk_lt (g := gb511) (o := .cells #[.int .i64 t507, .slice Ao19 t508.length co19] 27 (0, 0)) (by (with_reducible repeat (first | refine blk_drewN ?_ _ | refine blk_drew ?_ | refine blk_alloc ?_ _)); exact BK511.out)) : gb511 ≠ gb525))
     have n7_ := Aside0.mk ((by rw [hg]; exact Nat.ne_of_gt (blk_lt (g := gb511) (o := .cells #[.int .i64 t507, .slice Ao19 t508.length co19] 27 (0, 0)) (by (with_reducible repeat (first | refine blk_drewN ?_ _ | refine blk_drew ?_ | refine blk_alloc ?_ _)); exact BK511.out)) : gb525 ≠ gb511))
     clear HO510
     clear BK511
     clear HB
     have HO510 := n0_
     have BK511 := n1_
     have HB := n2_
     have BK525 := n3_
     have GW525 := n4_
     have GE525 := n5_
     have NB511_525 := n6_
     have NB525_511 := n7_
     clear n0_ n1_ n2_ n3_ n4_ n5_ n6_ n7_
     clear hb hbox hg
     refine hK.out _ _ ⟨(blk_cell BK511.out 0).trans rfl, (blk_cell BK511.out 1).trans rfl⟩ (fun hHeld => ?_)
     clear hK K
     refine norm_ (a' := ?_) ?_ ?_
     rotate_left
     ·show Act.put _ (some 14) _ = _
      simp only [Act.put, List.setIfInBounds_toArray, List.set_cons_zero, List.set_cons_succ, i64_w, i32_w]
      rfl
     refine one_ (i := 4) (N := some 56) #[true, true, true, true, true, false, false, false, false, true, false, false] rfl rfl (one_of HT_.out (by kernel_rfl)) (by decide) (fun K hK => ?_)
     refine goes_ Try.func38 (by kernel_rfl) rfl #[.slice A1 l1.length c1, .int .i64 0, .int .i64 (wrap64 ((wrap64 ((ji11) - 1)) + 1))] (by rfl) rfl rfl (by (try simp only [List.map_toArray, List.map_cons, List.map_nil]); first | done | (simp only [hji11]; rfl) | rfl | (simp only [List.length_drop, List.length_take]; rfl)) ?_
     with_reducible refine (laws_r8At.calls _ _ l1 0 (wrap64 ((wrap64 ((ji11) - 1)) + 1)) t519 _ ?side1 ?side2 A12.out).mono ?_
     (case side1 => repeat (first | exact (Kd.C_below HR1.out HB.out) | (with_reducible refine Kd.C_alloc ?_ _) | (with_reducible refine Kd.C_drewN ?_ _) | (with_reducible refine Kd.C_drew ?_)))
     (case side2 => exact HC1.out)
     rintro e w' ⟨rfl, ⟨nd, rfl⟩⟩
     refine ⟨_, rfl, ?_⟩
     refine hK.out _ _ ⟨(blk_cell BK511.out 0).trans rfl, (blk_cell BK511.out 1).trans rfl⟩ (fun hHeld => ?_)
     clear hK K
     refine norm_ (a' := ?_) ?_ ?_
     rotate_left
     ·show Act.put _ (some 56) _ = _
      simp only [Act.put, List.setIfInBounds_toArray, List.set_cons_zero, List.set_cons_succ, i64_w, i32_w]
      rfl
     refine one_ (i := 5) (N := some 57) #[true, true, true, true, true, true, false, false, false, true, false, false] rfl rfl (one_of HT_.out (by kernel_rfl)) (by decide) (fun K hK => ?_)
     refine goes_ Try.func46 (by kernel_rfl) rfl #[.agg #[.int .i64 t507, .slice Ao19 t508.length co19], .int .i64 t519] (by rfl) rfl rfl (by (try simp only [List.map_toArray, List.map_cons, List.map_nil]); first | done | rfl | (simp only [List.length_drop, List.length_take]; rfl) | (simp only [show ∀ (n_ : Nat) (b_ : Int), Int.tdiv (n_ : Int) b_ = (n_ : Int) / b_ from fun n_ b_ => Int.tdiv_eq_ediv_of_nonneg (Int.natCast_nonneg n_)]; rfl)) ?_
     with_reducible refine (impl_RestrictSystem.calls k t507 _ _ t508 t519 t520 t521 t524 _ ?side1 ?side2 A13.out).mono ?_
     (case side1 => repeat (first | exact (Kd.R_reads' HO510.out).2.2 | (with_reducible refine Kd.C_alloc ?_ _) | (with_reducible refine Kd.C_drewN ?_ _) | (with_reducible refine Kd.C_drew ?_)))
     (case side2 => exact (Kd.R_reads' HO510.out).2.1)
     rintro e w28 ⟨v522, rfl, ho0, hb⟩
     refine ⟨_, rfl, ?_⟩
     have n0_ := Aside0.mk (Kd.R_elder' (by (with_reducible repeat (first | apply Kd.R_alloc | apply Kd.R_drewN | apply Kd.R_drew)); exact HO510.out) (Kd.R_base ho0) hb)
     have n1_ := Aside0.mk (Kd.R_lower (Kd.R_new' ho0 (Kd.R_lt (by (with_reducible repeat (first | apply Kd.R_alloc | apply Kd.R_drewN | apply Kd.R_drew)); exact HO510.out))) (below_size (by repeat (first | (with_reducible first | exact HB.out | apply below_alloc | apply pw_below_drewN | apply below_drew1 | refine below_set ?_ GE511.out | refine below_set ?_ GE525.out) | exact HB.out))))
     have n2_ := Aside0.mk (blk_below (g := gb511) (o := .cells #[.int .i64 t507, .slice Ao19 t508.length co19] 27 (0, 0)) (by (with_reducible repeat (first | refine blk_drewN ?_ _ | refine blk_drew ?_ | refine blk_alloc ?_ _)); exact BK511.out) hb)
     have n3_ := Aside0.mk (blk_below (g := gb525) (o := .cells #[.int .i64 0, .slice none 0 0] 27 (0, 0)) (by (with_reducible repeat (first | refine blk_drewN ?_ _ | refine blk_drew ?_ | refine blk_alloc ?_ _)); exact BK525.out) hb)
     have n4_ := Aside0.mk (below_step (by repeat (first | (with_reducible first | exact HB.out | apply below_alloc | apply pw_below_drewN | apply below_drew1 | refine below_set ?_ GE511.out | refine below_set ?_ GE525.out) | exact HB.out)) hb)
     clear HO510
     clear BK511
     clear BK525
     clear HB
     have HO510 := n0_
     have HO523 := n1_
     have BK511 := n2_
     have BK525 := n3_
     have HB := n4_
     clear n0_ n1_ n2_ n3_ n4_
     (try clear hb)
     (try clear hb2)
     (try clear hk)
     (try clear hi)
     (try clear ho0)
     refine hK.out _ _ ⟨(blk_cell BK511.out 0).trans rfl, (blk_cell BK511.out 1).trans rfl⟩ (fun hHeld => ?_)
     clear hK K
     refine norm_ (a' := ?_) ?_ ?_
     rotate_left
     ·show Act.put _ (some 57) _ = _
      simp only [Act.put, List.setIfInBounds_toArray, List.set_cons_zero, List.set_cons_succ, i64_w, i32_w]
      rfl
     refine pure_ (i := 6) (N := some 51) (v := ?_) (a' := ?_) #[true, true, true, true, true, true, true, false, false, true, false, false] rfl rfl (any_of HT_.out (by kernel_rfl)) (fun _ _ _ h => h) (Or.inl ⟨by rfl, ?_⟩) ?_ ?_
     rotate_left
     ·intro w'
      go_simp
      with_reducible rfl
     rotate_left
     ·simp only [Act.put, List.setIfInBounds_toArray, List.set_cons_zero, List.set_cons_succ, i64_w, i32_w]
      rfl
     refine pure_ (i := 7) (N := some 58) (v := ?_) (a' := ?_) #[true, true, true, true, true, true, true, true, false, true, false, false] rfl rfl (any_of HT_.out (by kernel_rfl)) (fun _ _ _ h => h) (Or.inl ⟨by rfl, ?_⟩) ?_ ?_
     rotate_left
     ·intro w'
      go_simp
      with_reducible rfl
     rotate_left
     ·simp only [Act.put, List.setIfInBounds_toArray, List.set_cons_zero, List.set_cons_succ, i64_w, i32_w]
      rfl
     refine pure_ (i := 8) (N := some 59) (v := ?_) (a' := ?_) #[true, true, true, true, true, true, true, true, true, true, false, false] rfl rfl (any_of HT_.out (by kernel_rfl)) (fun _ _ _ h => h) (Or.inl ⟨by rfl, ?_⟩) ?_ ?_
     rotate_left
     ·intro w'
      go_simp
      with_reducible rfl
     rotate_left
     ·simp only [Act.put, List.setIfInBounds_toArray, List.set_cons_zero, List.set_cons_succ, i64_w, i32_w]
      rfl
     exact norm_ (by simp only [putAll, Act.put, List.setIfInBounds_toArray, List.set_cons_zero, List.set_cons_succ]) (hCont (v522, gb525) _ ⟨hHeld, (by (with_reducible repeat (first | apply Kd.R_alloc | apply Kd.R_drewN | apply Kd.R_drew)); exact Kd.R_mono HO510.out (fun _ hk => hk.2)), (by (with_reducible repeat (first | apply Kd.R_alloc | apply Kd.R_drewN | apply Kd.R_drew)); exact Kd.R_mono HO523.out (fun _ hk => hk.2)), (by (with_reducible repeat (first | refine blk_drewN ?_ _ | refine blk_drew ?_ | refine blk_alloc ?_ _)); exact BK511.out), (by (with_reducible repeat (first | refine blk_drewN ?_ _ | refine blk_drew ?_ | refine blk_alloc ?_ _)); exact BK525.out), GW525.out, GE525.out, NB511_525.out, NB525_511.out, (by repeat (first | (with_reducible first | exact HB.out | apply below_alloc | apply pw_below_drewN | apply below_drew1 | refine below_set ?_ GE511.out | refine below_set ?_ GE525.out) | exact HB.out))⟩)
   rintro ⟨v522, gb525⟩ w29 ⟨hS_, h0_, h1_, h2_, h3_, h4_, h5_, h6_, h7_, h8_⟩
   have n0_ : Aside0 (Kd.R (Kd.int .i64) 2 w29 w.heap.size (fun k_ => some k_ ≠ (v522 : Value).ownBlock) (.slice Ao19 t508.length co19) t508) := ⟨h0_⟩
   have n1_ : Aside0 (Kd.R (Kd.int .i64) 2 w29 w.heap.size (fun k_ => some k_ ≠ (.slice Ao19 t508.length co19 : Value).ownBlock) v522 t521) := ⟨h1_⟩
   have n2_ : Aside0 (w29.heap[gb511]? = some (.cells #[.int .i64 t507, .slice Ao19 t508.length co19] 27 (0, 0))) := ⟨h2_⟩
   have n3_ : Aside0 (w29.heap[gb525]? = some (.cells #[.int .i64 0, .slice none 0 0] 27 (0, 0))) := ⟨h3_⟩
   have n4_ : Aside0 (w.heap.size ≤ gb525) := ⟨h4_⟩
   have n5_ : Aside0 (w.heap.size ≤ gb525) := ⟨h5_⟩
   have n6_ : Aside0 (gb511 ≠ gb525) := ⟨h6_⟩
   have n7_ : Aside0 (gb525 ≠ gb511) := ⟨h7_⟩
   have n8_ : Aside0 (Below w.heap.size w w29) := ⟨h8_⟩
   clear HO510
   clear BK511
   clear HB
   clear h0_ h1_ h2_ h3_ h4_ h5_ h6_ h7_ h8_
   have HO510 := n0_
   have HO523 := n1_
   have BK511 := n2_
   have BK525 := n3_
   have GW525 := n4_
   have GE525 := n5_
   have NB511_525 := n6_
   have NB525_511 := n7_
   have HB := n8_
   clear n0_ n1_ n2_ n3_ n4_ n5_ n6_ n7_ n8_
   have hHeld : w29.cell? ⟨gb511, 0, none⟩ = some (.int .i64 t507) ∧ w29.cell? ⟨gb511, 1, none⟩ = some (.slice Ao19 t508.length co19) := hS_
   obtain ⟨Ao31, co31, eo31⟩ := Kd.R_slice HO523.out
   (first | subst eo31 | (injection eo31 with f1_ f2_ f3_; have f4_ := f1_.symm; have f5_ := f3_.symm; clear f1_ f2_ f3_; subst f4_; subst f5_))
   refine norm_ (a' := ?_) ?_ ?_
   rotate_left
   ·simp only [putAll, Act.put, List.setIfInBounds_toArray, List.set_cons_zero, List.set_cons_succ]
    rfl
   refine one_ (i := 10) (N := none) #[true, true, true, true, true, true, true, true, true, true, true, false] rfl rfl (one_of HT_.out (by kernel_rfl)) (by decide) (fun K hK => ?_)
   have hs30 : w29.cell? ⟨gb525, 0, none⟩ = some (.int .i64 0) := (blk_cell BK525.out 0).trans rfl
   have hfs30 := blk_frozen BK525.out 0
   have hns30_0 := NB511_525.out
   have hms30_0 := NB525_511.out
   have hs32 : w29.cell? ⟨gb525, 1, none⟩ = some (.slice none 0 0) := (blk_cell BK525.out 1).trans rfl
   have hfs32 := blk_frozen BK525.out 1
   have hns32_0 := NB511_525.out
   have hms32_0 := NB525_511.out
   refine skip_ (w1 := ?_) (by rfl) rfl ?_ ?_
   rotate_left
   ·go_simp
    rfl
   refine hK.out _ _ ⟨((cell_far (p := ⟨gb525, _, none⟩) NB511_525.out _).trans (((cell_far (p := ⟨gb525, _, none⟩) NB511_525.out _).trans (hHeld.1)))), ((cell_far (p := ⟨gb525, _, none⟩) NB511_525.out _).trans (((cell_far (p := ⟨gb525, _, none⟩) NB511_525.out _).trans (hHeld.2))))⟩ (fun hHeld => ?_)
   clear hK K
   refine pure_ (i := 11) (N := some 15) (v := ?_) (a' := ?_) #[true, true, true, true, true, true, true, true, true, true, true, true] rfl rfl (any_of HT_.out (by kernel_rfl)) (fun _ _ _ h => h) (Or.inl ⟨by rfl, ?_⟩) ?_ ?_
   rotate_left
   ·intro w'
    go_simp
    with_reducible rfl
   rotate_left
   ·simp only [Act.put, List.setIfInBounds_toArray, List.set_cons_zero, List.set_cons_succ, i64_w, i32_w]
    rfl
   refine done_ (done_of HT_.out (by kernel_rfl)) ?_
   have hnb33 := NB525_511.out
   have hnc33 := NB511_525.out
   have hcz34_0 : w29.cell? ⟨gb525, 0, none⟩ = some (.int .i64 0) := (blk_cell BK525.out 0).trans rfl
   have hcz34_1 : w29.cell? ⟨gb525, 1, none⟩ = some (.slice none 0 0) := (blk_cell BK525.out 1).trans rfl
   have hfz34_0 := blk_frozen BK525.out 0
   have hfz34_1 := blk_frozen BK525.out 1
   go_upto_region 10 with (first | ((with_reducible refine gate_callee (f := 36) rfl ?_); refine goesL_ (some 62) rfl rfl Try.func36 (by kernel_rfl) rfl #[.agg #[.int .i64 t520, .slice Ao31 t521.length co31]] rfl (by (try simp only [List.map_toArray, List.map_cons, List.map_nil]); first | done | rfl | (simp only [List.length_drop, List.length_take]; rfl) | (simp only [show ∀ (n_ : Nat) (b_ : Int), Int.tdiv (n_ : Int) b_ = (n_ : Int) / b_ from fun n_ b_ => Int.tdiv_eq_ediv_of_nonneg (Int.natCast_nonneg n_)]; rfl)) ?_; (with_reducible refine (impl_DiscrepancyOf.calls k t520 _ _ t521 t526 t527 t528 _ ?side1 ?side2 A14.out).mono ?_); (case side1 => refine (Kd.R_reads' (e := 2) (base := w.heap.size) (ok := fun k_ => some k_ ≠ (.slice Ao19 t508.length co19 : Value).ownBlock) (n := t521.length) (c := co31) ?_).2.2; exact (by (with_reducible repeat (first | apply Kd.R_alloc | apply Kd.R_drewN | apply Kd.R_drew)); exact (Kd.R_mono (Kd.R_far (p := ⟨gb525, 1, none⟩) (Kd.R_far (p := ⟨gb525, 0, none⟩) (Kd.R_types HO523.out BK525.out (by decide)) (fun _ hk => hk.2) (.int .i64 t520)) (fun _ hk => hk.2) (.slice Ao31 t521.length co31)) (fun _ h_ => h_.1)))); (case side2 => exact (Kd.R_reads' HO523.out).2.1); rintro e w35 ⟨rfl, hb⟩; refine ⟨_, rfl, ?_⟩; have n0_ := Aside0.mk (Kd.R_below (by (with_reducible repeat (first | apply Kd.R_alloc | apply Kd.R_drewN | apply Kd.R_drew)); exact (Kd.R_mono (Kd.R_far (p := ⟨gb525, 1, none⟩) (Kd.R_far (p := ⟨gb525, 0, none⟩) (Kd.R_types HO510.out BK525.out (by decide)) (fun _ hk => hk.2) (.int .i64 t520)) (fun _ hk => hk.2) (.slice Ao31 t521.length co31)) (fun _ h_ => h_.1))) hb); have n1_ := Aside0.mk (Kd.R_below (by (with_reducible repeat (first | apply Kd.R_alloc | apply Kd.R_drewN | apply Kd.R_drew)); exact (Kd.R_mono (Kd.R_far (p := ⟨gb525, 1, none⟩) (Kd.R_far (p := ⟨gb525, 0, none⟩) (Kd.R_types HO523.out BK525.out (by decide)) (fun _ hk => hk.2) (.int .i64 t520)) (fun _ hk => hk.2) (.slice Ao31 t521.length co31)) (fun _ h_ => h_.1))) hb); have n2_ := Aside0.mk (blk_below (g := gb511) (o := .cells #[.int .i64 t507, .slice Ao19 t508.length co19] 27 (0, 0)) (by (with_reducible repeat (first | refine blk_drewN ?_ _ | refine blk_drew ?_ | refine blk_alloc ?_ _)); refine blk_far ?_ NB511_525.out _; (with_reducible repeat (first | refine blk_drewN ?_ _ | refine blk_drew ?_ | refine blk_alloc ?_ _)); refine blk_far ?_ NB511_525.out _; (with_reducible repeat (first | refine blk_drewN ?_ _ | refine blk_drew ?_ | refine blk_alloc ?_ _)); exact BK511.out) hb); have n3_ := Aside0.mk (blk_below (g := gb525) (o := .cells #[.int .i64 t520, .slice Ao31 t521.length co31] 27 (0, 0)) (by (with_reducible repeat (first | refine blk_drewN ?_ _ | refine blk_drew ?_ | refine blk_alloc ?_ _)); refine blk_put (cs := #[.int .i64 t520, .slice none 0 0]) ?_ 1 _ rfl; (with_reducible repeat (first | refine blk_drewN ?_ _ | refine blk_drew ?_ | refine blk_alloc ?_ _)); refine blk_put (cs := #[.int .i64 0, .slice none 0 0]) ?_ 0 _ rfl; (with_reducible repeat (first | refine blk_drewN ?_ _ | refine blk_drew ?_ | refine blk_alloc ?_ _)); exact BK525.out) hb); have n4_ := Aside0.mk (below_step (by repeat (first | (with_reducible first | exact HB.out | apply below_alloc | apply pw_below_drewN | apply below_drew1 | refine below_set ?_ GE511.out | refine below_set ?_ GE525.out) | exact HB.out)) hb); clear HO510; clear HO523; clear BK511; clear BK525; clear HB; have HO510 := n0_; have HO523 := n1_; have BK511 := n2_; have BK525 := n3_; have HB := n4_; clear n0_ n1_ n2_ n3_ n4_; (try clear hb); (try clear hb2); (try clear hk); (try clear hi)))
   (try simp only [Act.put, List.setIfInBounds_toArray, List.set_cons_zero, List.set_cons_succ])
   go_cut [119] (fun v119 wc => ∃ (kq : Nat) (x119_14 : Bool), v119 = .bool x119_14 ∧ Aside0 (laws_FnHereditary.j0 kq t512 t517 (wrap64 ((ji11) - 1)) x119_14 t507 t508 = some r) ∧ Aside0 (kq ≤ k) ∧ Aside0 (Kd.R (Kd.int .i64) 2 wc w.heap.size (fun k_ => some k_ ≠ ((.slice Ao31 t521.length co31) : Value).ownBlock) (.slice Ao19 t508.length co19) t508) ∧ Aside0 (Kd.R (Kd.int .i64) 2 wc w.heap.size (fun k_ => some k_ ≠ ((.slice Ao19 t508.length co19) : Value).ownBlock) (.slice Ao31 t521.length co31) t521) ∧ Aside0 (wc.heap[gb511]? = some (.cells #[.int .i64 t507, (.slice Ao19 t508.length co19)] 27 (0, 0))) ∧ Aside0 (wc.heap[gb525]? = some (.cells #[.int .i64 t520, (.slice Ao31 t521.length co31)] 27 (0, 0))) ∧ Aside0 (Below w.heap.size w wc))
   case first =>
    have H := HC15.out
    clear HC15
    by_cases c36 : t513 = true
    ·subst c36
     have H1 : (if t516 = true then (if t518 = true then (if t524 = true then (if t528 = true then (if t514 > t512 then (laws_FnHereditary.j0 k t512 t517 (wrap64 ((ji11) - 1)) true t507 t508) else (if t526 > t512 then (laws_FnHereditary.j0 k t512 t517 (wrap64 ((ji11) - 1)) true t507 t508) else ((laws_r8At.f l1 0 (wrap64 ((wrap64 ((ji11) - 1)) + 1))).bind fun t529 => ((laws_r8Weight.f k t529).bind fun t530 => (if t520 = t530 then (if (t521.length : Int) = (t508.length : Int) then ((impl_IsUnimodular.f k t507 t508).bind fun t531 => (laws_FnHereditary.j0 k t512 t517 (wrap64 ((ji11) - 1)) (t531 != (decide (t512 ≤ 1))) t507 t508)) else (laws_FnHereditary.j0 k t512 t517 (wrap64 ((ji11) - 1)) true t507 t508)) else (laws_FnHereditary.j0 k t512 t517 (wrap64 ((ji11) - 1)) true t507 t508)))))) else (laws_FnHereditary.j0 k t512 t517 (wrap64 ((ji11) - 1)) true t507 t508)) else (laws_FnHereditary.j0 k t512 t517 (wrap64 ((ji11) - 1)) true t507 t508)) else (laws_FnHereditary.j0 k t512 t517 (wrap64 ((ji11) - 1)) true t507 t508)) else (laws_FnHereditary.j0 k t512 t517 (wrap64 ((ji11) - 1)) true t507 t508)) = some r := by rw [if_pos rfl] at H; exact H
     clear H
     have H := H1
     clear H1
     by_cases c37 : t516 = true
     ·subst c37
      have H1 : (if t518 = true then (if t524 = true then (if t528 = true then (if t514 > t512 then (laws_FnHereditary.j0 k t512 t517 (wrap64 ((ji11) - 1)) true t507 t508) else (if t526 > t512 then (laws_FnHereditary.j0 k t512 t517 (wrap64 ((ji11) - 1)) true t507 t508) else ((laws_r8At.f l1 0 (wrap64 ((wrap64 ((ji11) - 1)) + 1))).bind fun t529 => ((laws_r8Weight.f k t529).bind fun t530 => (if t520 = t530 then (if (t521.length : Int) = (t508.length : Int) then ((impl_IsUnimodular.f k t507 t508).bind fun t531 => (laws_FnHereditary.j0 k t512 t517 (wrap64 ((ji11) - 1)) (t531 != (decide (t512 ≤ 1))) t507 t508)) else (laws_FnHereditary.j0 k t512 t517 (wrap64 ((ji11) - 1)) true t507 t508)) else (laws_FnHereditary.j0 k t512 t517 (wrap64 ((ji11) - 1)) true t507 t508)))))) else (laws_FnHereditary.j0 k t512 t517 (wrap64 ((ji11) - 1)) true t507 t508)) else (laws_FnHereditary.j0 k t512 t517 (wrap64 ((ji11) - 1)) true t507 t508)) else (laws_FnHereditary.j0 k t512 t517 (wrap64 ((ji11) - 1)) true t507 t508)) = some r := by rw [if_pos rfl] at H; exact H
      clear H
      have H := H1
      clear H1
      by_cases c38 : t518 = true
      ·subst c38
       have H1 : (if t524 = true then (if t528 = true then (if t514 > t512 then (laws_FnHereditary.j0 k t512 t517 (wrap64 ((ji11) - 1)) true t507 t508) else (if t526 > t512 then (laws_FnHereditary.j0 k t512 t517 (wrap64 ((ji11) - 1)) true t507 t508) else ((laws_r8At.f l1 0 (wrap64 ((wrap64 ((ji11) - 1)) + 1))).bind fun t529 => ((laws_r8Weight.f k t529).bind fun t530 => (if t520 = t530 then (if (t521.length : Int) = (t508.length : Int) then ((impl_IsUnimodular.f k t507 t508).bind fun t531 => (laws_FnHereditary.j0 k t512 t517 (wrap64 ((ji11) - 1)) (t531 != (decide (t512 ≤ 1))) t507 t508)) else (laws_FnHereditary.j0 k t512 t517 (wrap64 ((ji11) - 1)) true t507 t508)) else (laws_FnHereditary.j0 k t512 t517 (wrap64 ((ji11) - 1)) true t507 t508)))))) else (laws_FnHereditary.j0 k t512 t517 (wrap64 ((ji11) - 1)) true t507 t508)) else (laws_FnHereditary.j0 k t512 t517 (wrap64 ((ji11) - 1)) true t507 t508)) = some r := by rw [if_pos rfl] at H; exact H
       clear H
       have H := H1
       clear H1
       by_cases c39 : t524 = true
       ·subst c39
        have H1 : (if t528 = true then (if t514 > t512 then (laws_FnHereditary.j0 k t512 t517 (wrap64 ((ji11) - 1)) true t507 t508) else (if t526 > t512 then (laws_FnHereditary.j0 k t512 t517 (wrap64 ((ji11) - 1)) true t507 t508) else ((laws_r8At.f l1 0 (wrap64 ((wrap64 ((ji11) - 1)) + 1))).bind fun t529 => ((laws_r8Weight.f k t529).bind fun t530 => (if t520 = t530 then (if (t521.length : Int) = (t508.length : Int) then ((impl_IsUnimodular.f k t507 t508).bind fun t531 => (laws_FnHereditary.j0 k t512 t517 (wrap64 ((ji11) - 1)) (t531 != (decide (t512 ≤ 1))) t507 t508)) else (laws_FnHereditary.j0 k t512 t517 (wrap64 ((ji11) - 1)) true t507 t508)) else (laws_FnHereditary.j0 k t512 t517 (wrap64 ((ji11) - 1)) true t507 t508)))))) else (laws_FnHereditary.j0 k t512 t517 (wrap64 ((ji11) - 1)) true t507 t508)) = some r := by rw [if_pos rfl] at H; exact H
        clear H
        have H := H1
        clear H1
        by_cases c40 : t528 = true
        ·subst c40
         have H1 : (if t514 > t512 then (laws_FnHereditary.j0 k t512 t517 (wrap64 ((ji11) - 1)) true t507 t508) else (if t526 > t512 then (laws_FnHereditary.j0 k t512 t517 (wrap64 ((ji11) - 1)) true t507 t508) else ((laws_r8At.f l1 0 (wrap64 ((wrap64 ((ji11) - 1)) + 1))).bind fun t529 => ((laws_r8Weight.f k t529).bind fun t530 => (if t520 = t530 then (if (t521.length : Int) = (t508.length : Int) then ((impl_IsUnimodular.f k t507 t508).bind fun t531 => (laws_FnHereditary.j0 k t512 t517 (wrap64 ((ji11) - 1)) (t531 != (decide (t512 ≤ 1))) t507 t508)) else (laws_FnHereditary.j0 k t512 t517 (wrap64 ((ji11) - 1)) true t507 t508)) else (laws_FnHereditary.j0 k t512 t517 (wrap64 ((ji11) - 1)) true t507 t508)))))) = some r := by rw [if_pos rfl] at H; exact H
         clear H
         have H := H1
         clear H1
         by_cases c41 : t514 > t512
         ·rw [if_pos c41] at H
          exact absurd (H.trans (congrArg some hr_)) (laws_FnHereditary.j0_no _ _ _ _ _ _)
         ·rw [if_neg c41] at H
          have c41b0 : decide (t512 < t514) = false := decide_eq_false c41
          clear c41
          (first | rw [c41b0] | (simp only [i64_w, i32_w]; rw [c41b0]) | skip)
          by_cases c43 : t526 > t512
          ·rw [if_pos c43] at H
           exact absurd (H.trans (congrArg some hr_)) (laws_FnHereditary.j0_no _ _ _ _ _ _)
          ·rw [if_neg c43] at H
           have c43b0 : decide (t512 < t526) = false := decide_eq_false c43
           clear c43
           replace H := Option.bind_eq_some_iff.mp H
           obtain ⟨t529, A450, H⟩ := H
           replace H : ((laws_r8Weight.f k t529).bind fun t530 => (if t520 = t530 then (if (t521.length : Int) = (t508.length : Int) then ((impl_IsUnimodular.f k t507 t508).bind fun t531 => (laws_FnHereditary.j0 k t512 t517 (wrap64 ((ji11) - 1)) (t531 != (decide (t512 ≤ 1))) t507 t508)) else (laws_FnHereditary.j0 k t512 t517 (wrap64 ((ji11) - 1)) true t507 t508)) else (laws_FnHereditary.j0 k t512 t517 (wrap64 ((ji11) - 1)) true t507 t508))) = some r := H
           have A45 := Aside0.mk A450
           clear A450
           replace H := Option.bind_eq_some_iff.mp H
           obtain ⟨t530, A460, H⟩ := H
           replace H : (if t520 = t530 then (if (t521.length : Int) = (t508.length : Int) then ((impl_IsUnimodular.f k t507 t508).bind fun t531 => (laws_FnHereditary.j0 k t512 t517 (wrap64 ((ji11) - 1)) (t531 != (decide (t512 ≤ 1))) t507 t508)) else (laws_FnHereditary.j0 k t512 t517 (wrap64 ((ji11) - 1)) true t507 t508)) else (laws_FnHereditary.j0 k t512 t517 (wrap64 ((ji11) - 1)) true t507 t508)) = some r := H
           have A46 := Aside0.mk A460
           clear A460
           by_cases c47 : t520 = t530
           ·rw [if_pos c47] at H
            have c47b0 : (t520 == t530) = true := beq_iff_eq.mpr c47
            have c47b1 : (t520 != t530) = false := bne_eq_false_iff_eq.mpr c47
            clear c47
            by_cases c48 : (t521.length : Int) = (t508.length : Int)
            ·rw [if_pos c48] at H
             have c48b0 : ((t521.length : Int) == (t508.length : Int)) = true := beq_iff_eq.mpr c48
             have c48b1 : ((t521.length : Int) != (t508.length : Int)) = false := bne_eq_false_iff_eq.mpr c48
             have c48b2 : (t521.length == t508.length) = true := by first | simpa using c48 | (simp at c48 ⊢; omega)
             clear c48
             replace H := Option.bind_eq_some_iff.mp H
             obtain ⟨t531, A490, H⟩ := H
             replace H : (laws_FnHereditary.j0 k t512 t517 (wrap64 ((ji11) - 1)) (t531 != (decide (t512 ≤ 1))) t507 t508) = some r := H
             have A49 := Aside0.mk A490
             clear A490
             have H' := Aside0.mk H
             clear H
             try go_wp2
             have n0_ := Aside0.mk (Kd.R_drew HO510.out)
             have n1_ := Aside0.mk (Kd.R_drew HO523.out)
             have n2_ := Aside0.mk (blk_drew BK511.out)
             have n3_ := Aside0.mk (blk_drew BK525.out)
             have n4_ := Aside0.mk (below_drew1 HB.out)
             clear HO510
             clear HO523
             clear BK511
             clear BK525
             clear HB
             have HO510 := n0_
             have HO523 := n1_
             have BK511 := n2_
             have BK525 := n3_
             have HB := n4_
             clear n0_ n1_ n2_ n3_ n4_
             refine start_ (n := 54) (S := fun w' => w'.cell? ⟨gb525, 0, none⟩ = some (.int .i64 t520) ∧ w'.cell? ⟨gb525, 1, none⟩ = some (.slice Ao31 t521.length co31) ∧ w'.cell? ⟨gb511, 0, none⟩ = some (.int .i64 t507) ∧ w'.cell? ⟨gb511, 1, none⟩ = some (.slice Ao19 t508.length co19)) (ds := []) #[false, false, false, false, false, false, false, false, false, false, false, false, false, false, false, false, false, false, false, false, false, false, false, false, false, false, false, false, false, false, false, false, false, false, false, false, false, false, false, false, false, false, false, false, false, false, false, false, false, false, false, false, false, false] (by kernel_rfl) rfl rfl ⟨(blk_cell BK525.out 0).trans rfl, (blk_cell BK525.out 1).trans rfl, (blk_cell BK511.out 0).trans rfl, (blk_cell BK511.out 1).trans rfl⟩ (fun hHeld => ?_); refine with_tabW laws_FnHereditary.tab10 laws_FnHereditary.bits10 (fun HT_ HW_ => ?_)
             generalize w35.drew = w50 at HO510 HO523 BK511 BK525 HB hHeld ⊢
             refine pure_ (i := 0) (N := some 66) (v := ?_) (a' := ?_) #[true, false, false, false, false, false, false, false, false, false, false, false, false, false, false, false, false, false, false, false, false, false, false, false, false, false, false, false, false, false, false, false, false, false, false, false, false, false, false, false, false, false, false, false, false, false, false, false, false, false, false, false, false, false] rfl rfl (any_of HT_.out (by kernel_rfl)) (fun _ _ _ h => h) (Or.inl ⟨by rfl, ?_⟩) ?_ ?_
             rotate_left
             ·intro w'
              go_simp
              with_reducible rfl
             rotate_left
             ·simp only [Act.put, List.setIfInBounds_toArray, List.set_cons_zero, List.set_cons_succ, i64_w, i32_w]
              rfl
             refine pure_ (i := 1) (N := some 67) (v := ?_) (a' := ?_) #[true, true, false, false, false, false, false, false, false, false, false, false, false, false, false, false, false, false, false, false, false, false, false, false, false, false, false, false, false, false, false, false, false, false, false, false, false, false, false, false, false, false, false, false, false, false, false, false, false, false, false, false, false, false] rfl rfl (any_of HT_.out (by kernel_rfl)) (fun _ _ _ h => h) (Or.inl ⟨by rfl, ?_⟩) ?_ ?_
             rotate_left
             ·intro w'
              go_simp
              with_reducible rfl
             rotate_left
             ·simp only [Act.put, List.setIfInBounds_toArray, List.set_cons_zero, List.set_cons_succ, i64_w, i32_w]
              rfl
             refine pure_ (i := 2) (N := some 68) (v := ?_) (a' := ?_) #[true, true, true, false, false, false, false, false, false, false, false, false, false, false, false, false, false, false, false, false, false, false, false, false, false, false, false, false, false, false, false, false, false, false, false, false, false, false, false, false, false, false, false, false, false, false, false, false, false, false, false, false, false, false] rfl rfl (any_of HT_.out (by kernel_rfl)) (fun _ _ _ h => h) (Or.inl ⟨by rfl, ?_⟩) ?_ ?_
             rotate_left
             ·intro w'
              go_simp
              with_reducible rfl
             rotate_left
             ·simp only [Act.put, List.setIfInBounds_toArray, List.set_cons_zero, List.set_cons_succ, i64_w, i32_w]
              rfl
             refine pure_ (i := 3) (N := some 69) (v := ?_) (a' := ?_) #[true, true, true, true, false, false, false, false, false, false, false, false, false, false, false, false, false, false, false, false, false, false, false, false, false, false, false, false, false, false, false, false, false, false, false, false, false, false, false, false, false, false, false, false, false, false, false, false, false, false, false, false, false, false] rfl rfl (any_of HT_.out (by kernel_rfl)) (fun _ _ _ h => h) (Or.inl ⟨by rfl, ?_⟩) ?_ ?_
             rotate_left
             ·intro w'
              go_simp
              with_reducible rfl
             rotate_left
             ·simp only [Act.put, List.setIfInBounds_toArray, List.set_cons_zero, List.set_cons_succ, i64_w, i32_w]
              rfl
             refine pure_ (i := 4) (N := some 70) (v := ?_) (a' := ?_) #[true, true, true, true, true, false, false, false, false, false, false, false, false, false, false, false, false, false, false, false, false, false, false, false, false, false, false, false, false, false, false, false, false, false, false, false, false, false, false, false, false, false, false, false, false, false, false, false, false, false, false, false, false, false] rfl rfl (any_of HT_.out (by kernel_rfl)) (fun _ _ _ h => h) (Or.inl ⟨by rfl, ?_⟩) ?_ ?_
             rotate_left
             ·intro w'
              go_simp
              with_reducible rfl
             rotate_left
             ·simp only [Act.put, List.setIfInBounds_toArray, List.set_cons_zero, List.set_cons_succ, i64_w, i32_w]
              rfl
             refine pure_ (i := 5) (N := some 71) (v := ?_) (a' := ?_) #[true, true, true, true, true, true, false, false, false, false, false, false, false, false, false, false, false, false, false, false, false, false, false, false, false, false, false, false, false, false, false, false, false, false, false, false, false, false, false, false, false, false, false, false, false, false, false, false, false, false, false, false, false, false] rfl rfl (any_of HT_.out (by kernel_rfl)) (fun _ _ _ h => h) (Or.inl ⟨by rfl, ?_⟩) ?_ ?_
             rotate_left
             ·intro w'
              go_simp
              with_reducible rfl
             rotate_left
             ·simp only [Act.put, List.setIfInBounds_toArray, List.set_cons_zero, List.set_cons_succ, i64_w, i32_w]
              rfl
             refine pure_ (i := 6) (N := some 72) (v := ?_) (a' := ?_) #[true, true, true, true, true, true, true, false, false, false, false, false, false, false, false, false, false, false, false, false, false, false, false, false, false, false, false, false, false, false, false, false, false, false, false, false, false, false, false, false, false, false, false, false, false, false, false, false, false, false, false, false, false, false] rfl rfl (any_of HT_.out (by kernel_rfl)) (fun _ _ _ h => h) (Or.inl ⟨by rfl, ?_⟩) ?_ ?_
             rotate_left
             ·intro w'
              go_simp
              with_reducible rfl
             rotate_left
             ·simp only [Act.put, List.setIfInBounds_toArray, List.set_cons_zero, List.set_cons_succ, i64_w, i32_w]
              rfl
             refine pure_ (i := 7) (N := some 73) (v := ?_) (a' := ?_) #[true, true, true, true, true, true, true, true, false, false, false, false, false, false, false, false, false, false, false, false, false, false, false, false, false, false, false, false, false, false, false, false, false, false, false, false, false, false, false, false, false, false, false, false, false, false, false, false, false, false, false, false, false, false] rfl rfl (any_of HT_.out (by kernel_rfl)) (fun _ _ _ h => h) (Or.inl ⟨by rfl, ?_⟩) ?_ ?_
             rotate_left
             ·intro w'
              go_simp
              with_reducible rfl
             rotate_left
             ·simp only [Act.put, List.setIfInBounds_toArray, List.set_cons_zero, List.set_cons_succ, i64_w, i32_w]
              rfl
             refine pure_ (i := 8) (N := some 74) (v := ?_) (a' := ?_) #[true, true, true, true, true, true, true, true, true, false, false, false, false, false, false, false, false, false, false, false, false, false, false, false, false, false, false, false, false, false, false, false, false, false, false, false, false, false, false, false, false, false, false, false, false, false, false, false, false, false, false, false, false, false] rfl rfl (any_of HT_.out (by kernel_rfl)) (fun _ _ _ h => h) (Or.inl ⟨by rfl, ?_⟩) ?_ ?_
             rotate_left
             ·intro w'
              go_simp
              with_reducible rfl
             rotate_left
             ·simp only [Act.put, List.setIfInBounds_toArray, List.set_cons_zero, List.set_cons_succ, i64_w, i32_w]
              rfl
             refine pure_ (i := 9) (N := some 75) (v := ?_) (a' := ?_) #[true, true, true, true, true, true, true, true, true, true, false, false, false, false, false, false, false, false, false, false, false, false, false, false, false, false, false, false, false, false, false, false, false, false, false, false, false, false, false, false, false, false, false, false, false, false, false, false, false, false, false, false, false, false] rfl rfl (any_of HT_.out (by kernel_rfl)) (fun _ _ _ h => h) (Or.inl ⟨by rfl, ?_⟩) ?_ ?_
             rotate_left
             ·intro w'
              go_simp
              with_reducible rfl
             rotate_left
             ·simp only [Act.put, List.setIfInBounds_toArray, List.set_cons_zero, List.set_cons_succ, i64_w, i32_w]
              rfl
             refine pure_ (i := 10) (N := some 76) (v := ?_) (a' := ?_) #[true, true, true, true, true, true, true, true, true, true, true, false, false, false, false, false, false, false, false, false, false, false, false, false, false, false, false, false, false, false, false, false, false, false, false, false, false, false, false, false, false, false, false, false, false, false, false, false, false, false, false, false, false, false] rfl rfl (any_of HT_.out (by kernel_rfl)) (fun _ _ _ h => h) (Or.inl ⟨by rfl, ?_⟩) ?_ ?_
             rotate_left
             ·intro w'
              go_simp
              with_reducible rfl
             rotate_left
             ·simp only [Act.put, List.setIfInBounds_toArray, List.set_cons_zero, List.set_cons_succ, i64_w, i32_w]
              rfl
             refine pure_ (i := 11) (N := some 77) (v := ?_) (a' := ?_) #[true, true, true, true, true, true, true, true, true, true, true, true, false, false, false, false, false, false, false, false, false, false, false, false, false, false, false, false, false, false, false, false, false, false, false, false, false, false, false, false, false, false, false, false, false, false, false, false, false, false, false, false, false, false] rfl rfl (any_of HT_.out (by kernel_rfl)) (fun _ _ _ h => h) (Or.inl ⟨by rfl, ?_⟩) ?_ ?_
             rotate_left
             ·intro w'
              go_simp
              with_reducible rfl
             rotate_left
             ·simp only [Act.put, List.setIfInBounds_toArray, List.set_cons_zero, List.set_cons_succ, i64_w, i32_w]
              rfl
             refine pure_ (i := 12) (N := some 78) (v := ?_) (a' := ?_) #[true, true, true, true, true, true, true, true, true, true, true, true, true, false, false, false, false, false, false, false, false, false, false, false, false, false, false, false, false, false, false, false, false, false, false, false, false, false, false, false, false, false, false, false, false, false, false, false, false, false, false, false, false, false] rfl rfl (any_of HT_.out (by kernel_rfl)) (fun _ _ _ h => h) (Or.inl ⟨by rfl, ?_⟩) ?_ ?_
             rotate_left
             ·intro w'
              go_simp
              with_reducible rfl
             rotate_left
             ·simp only [Act.put, List.setIfInBounds_toArray, List.set_cons_zero, List.set_cons_succ, i64_w, i32_w]
              rfl
             refine pure_ (i := 13) (N := some 79) (v := ?_) (a' := ?_) #[true, true, true, true, true, true, true, true, true, true, true, true, true, true, false, false, false, false, false, false, false, false, false, false, false, false, false, false, false, false, false, false, false, false, false, false, false, false, false, false, false, false, false, false, false, false, false, false, false, false, false, false, false, false] rfl rfl (any_of HT_.out (by kernel_rfl)) (fun _ _ _ h => h) (Or.inl ⟨by rfl, ?_⟩) ?_ ?_
             rotate_left
             ·intro w'
              go_simp
              with_reducible rfl
             rotate_left
             ·simp only [Act.put, List.setIfInBounds_toArray, List.set_cons_zero, List.set_cons_succ, i64_w, i32_w]
              rfl
             refine pure_ (i := 14) (N := some 80) (v := ?_) (a' := ?_) #[true, true, true, true, true, true, true, true, true, true, true, true, true, true, true, false, false, false, false, false, false, false, false, false, false, false, false, false, false, false, false, false, false, false, false, false, false, false, false, false, false, false, false, false, false, false, false, false, false, false, false, false, false, false] rfl rfl (any_of HT_.out (by kernel_rfl)) (fun _ _ _ h => h) (Or.inl ⟨by rfl, ?_⟩) ?_ ?_
             rotate_left
             ·intro w'
              go_simp
              with_reducible rfl
             rotate_left
             ·simp only [Act.put, List.setIfInBounds_toArray, List.set_cons_zero, List.set_cons_succ, i64_w, i32_w]
              rfl
             refine pure_ (i := 15) (N := some 81) (v := ?_) (a' := ?_) #[true, true, true, true, true, true, true, true, true, true, true, true, true, true, true, true, false, false, false, false, false, false, false, false, false, false, false, false, false, false, false, false, false, false, false, false, false, false, false, false, false, false, false, false, false, false, false, false, false, false, false, false, false, false] rfl rfl (any_of HT_.out (by kernel_rfl)) (fun _ _ _ h => h) (Or.inl ⟨by rfl, ?_⟩) ?_ ?_
             rotate_left
             ·intro w'
              go_simp
              with_reducible rfl
             rotate_left
             ·simp only [Act.put, List.setIfInBounds_toArray, List.set_cons_zero, List.set_cons_succ, i64_w, i32_w]
              rfl
             refine pure_ (i := 16) (N := some 82) (v := ?_) (a' := ?_) #[true, true, true, true, true, true, true, true, true, true, true, true, true, true, true, true, true, false, false, false, false, false, false, false, false, false, false, false, false, false, false, false, false, false, false, false, false, false, false, false, false, false, false, false, false, false, false, false, false, false, false, false, false, false] rfl rfl (any_of HT_.out (by kernel_rfl)) (fun _ _ _ h => h) (Or.inl ⟨by rfl, ?_⟩) ?_ ?_
             rotate_left
             ·intro w'
              go_simp
              with_reducible rfl
             rotate_left
             ·simp only [Act.put, List.setIfInBounds_toArray, List.set_cons_zero, List.set_cons_succ, i64_w, i32_w]
              rfl
             refine pure_ (i := 17) (N := some 83) (v := ?_) (a' := ?_) #[true, true, true, true, true, true, true, true, true, true, true, true, true, true, true, true, true, true, false, false, false, false, false, false, false, false, false, false, false, false, false, false, false, false, false, false, false, false, false, false, false, false, false, false, false, false, false, false, false, false, false, false, false, false] rfl rfl (any_of HT_.out (by kernel_rfl)) (fun _ _ _ h => h) (Or.inl ⟨by rfl, ?_⟩) ?_ ?_
             rotate_left
             ·intro w'
              go_simp
              with_reducible rfl
             rotate_left
             ·simp only [Act.put, List.setIfInBounds_toArray, List.set_cons_zero, List.set_cons_succ, i64_w, i32_w]
              rfl
             refine pure_ (i := 18) (N := some 84) (v := ?_) (a' := ?_) #[true, true, true, true, true, true, true, true, true, true, true, true, true, true, true, true, true, true, true, false, false, false, false, false, false, false, false, false, false, false, false, false, false, false, false, false, false, false, false, false, false, false, false, false, false, false, false, false, false, false, false, false, false, false] rfl rfl (any_of HT_.out (by kernel_rfl)) (fun _ _ _ h => h) (Or.inl ⟨by rfl, ?_⟩) ?_ ?_
             rotate_left
             ·intro w'
              go_simp
              with_reducible rfl
             rotate_left
             ·simp only [Act.put, List.setIfInBounds_toArray, List.set_cons_zero, List.set_cons_succ, i64_w, i32_w]
              rfl
             refine pure_ (i := 19) (N := some 85) (v := ?_) (a' := ?_) #[true, true, true, true, true, true, true, true, true, true, true, true, true, true, true, true, true, true, true, true, false, false, false, false, false, false, false, false, false, false, false, false, false, false, false, false, false, false, false, false, false, false, false, false, false, false, false, false, false, false, false, false, false, false] rfl rfl (any_of HT_.out (by kernel_rfl)) (fun _ _ _ h => h) (Or.inl ⟨by rfl, ?_⟩) ?_ ?_
             rotate_left
             ·intro w'
              go_simp
              with_reducible rfl
             rotate_left
             ·simp only [Act.put, List.setIfInBounds_toArray, List.set_cons_zero, List.set_cons_succ, i64_w, i32_w]
              rfl
             refine pure_ (i := 20) (N := some 86) (v := ?_) (a' := ?_) #[true, true, true, true, true, true, true, true, true, true, true, true, true, true, true, true, true, true, true, true, true, false, false, false, false, false, false, false, false, false, false, false, false, false, false, false, false, false, false, false, false, false, false, false, false, false, false, false, false, false, false, false, false, false] rfl rfl (any_of HT_.out (by kernel_rfl)) (fun _ _ _ h => h) (Or.inl ⟨by rfl, ?_⟩) ?_ ?_
             rotate_left
             ·intro w'
              go_simp
              with_reducible rfl
             rotate_left
             ·simp only [Act.put, List.setIfInBounds_toArray, List.set_cons_zero, List.set_cons_succ, i64_w, i32_w]
              rfl
             refine pure_ (i := 21) (N := some 87) (v := ?_) (a' := ?_) #[true, true, true, true, true, true, true, true, true, true, true, true, true, true, true, true, true, true, true, true, true, true, false, false, false, false, false, false, false, false, false, false, false, false, false, false, false, false, false, false, false, false, false, false, false, false, false, false, false, false, false, false, false, false] rfl rfl (any_of HT_.out (by kernel_rfl)) (fun _ _ _ h => h) (Or.inl ⟨by rfl, ?_⟩) ?_ ?_
             rotate_left
             ·intro w'
              go_simp
              with_reducible rfl
             rotate_left
             ·simp only [Act.put, List.setIfInBounds_toArray, List.set_cons_zero, List.set_cons_succ, i64_w, i32_w]
              rfl
             refine pure_ (i := 22) (N := some 88) (v := ?_) (a' := ?_) #[true, true, true, true, true, true, true, true, true, true, true, true, true, true, true, true, true, true, true, true, true, true, true, false, false, false, false, false, false, false, false, false, false, false, false, false, false, false, false, false, false, false, false, false, false, false, false, false, false, false, false, false, false, false] rfl rfl (any_of HT_.out (by kernel_rfl)) (fun _ _ _ h => h) (Or.inl ⟨by rfl, ?_⟩) ?_ ?_
             rotate_left
             ·intro w'
              go_simp
              with_reducible rfl
             rotate_left
             ·simp only [Act.put, List.setIfInBounds_toArray, List.set_cons_zero, List.set_cons_succ, i64_w, i32_w]
              rfl
             refine pure_ (i := 23) (N := some 89) (v := ?_) (a' := ?_) #[true, true, true, true, true, true, true, true, true, true, true, true, true, true, true, true, true, true, true, true, true, true, true, true, false, false, false, false, false, false, false, false, false, false, false, false, false, false, false, false, false, false, false, false, false, false, false, false, false, false, false, false, false, false] rfl rfl (any_of HT_.out (by kernel_rfl)) (fun _ _ _ h => h) (Or.inl ⟨by rfl, ?_⟩) ?_ ?_
             rotate_left
             ·intro w'
              go_simp
              with_reducible rfl
             rotate_left
             ·simp only [Act.put, List.setIfInBounds_toArray, List.set_cons_zero, List.set_cons_succ, i64_w, i32_w]
              rfl
             refine pure_ (i := 24) (N := some 90) (v := ?_) (a' := ?_) #[true, true, true, true, true, true, true, true, true, true, true, true, true, true, true, true, true, true, true, true, true, true, true, true, true, false, false, false, false, false, false, false, false, false, false, false, false, false, false, false, false, false, false, false, false, false, false, false, false, false, false, false, false, false] rfl rfl (any_of HT_.out (by kernel_rfl)) (fun _ _ _ h => h) (Or.inl ⟨by rfl, ?_⟩) ?_ ?_
             rotate_left
             ·intro w'
              go_simp
              with_reducible rfl
             rotate_left
             ·simp only [Act.put, List.setIfInBounds_toArray, List.set_cons_zero, List.set_cons_succ, i64_w, i32_w]
              rfl
             refine pure_ (i := 25) (N := some 91) (v := ?_) (a' := ?_) #[true, true, true, true, true, true, true, true, true, true, true, true, true, true, true, true, true, true, true, true, true, true, true, true, true, true, false, false, false, false, false, false, false, false, false, false, false, false, false, false, false, false, false, false, false, false, false, false, false, false, false, false, false, false] rfl rfl (any_of HT_.out (by kernel_rfl)) (fun _ _ _ h => h) (Or.inl ⟨by rfl, ?_⟩) ?_ ?_
             rotate_left
             ·intro w'
              go_simp
              with_reducible rfl
             rotate_left
             ·simp only [Act.put, List.setIfInBounds_toArray, List.set_cons_zero, List.set_cons_succ, i64_w, i32_w]
              rfl
             refine pure_ (i := 26) (N := some 92) (v := ?_) (a' := ?_) #[true, true, true, true, true, true, true, true, true, true, true, true, true, true, true, true, true, true, true, true, true, true, true, true, true, true, true, false, false, false, false, false, false, false, false, false, false, false, false, false, false, false, false, false, false, false, false, false, false, false, false, false, false, false] rfl rfl (any_of HT_.out (by kernel_rfl)) (fun _ _ _ h => h) (Or.inl ⟨by rfl, ?_⟩) ?_ ?_
             rotate_left
             ·intro w'
              go_simp
              with_reducible rfl
             rotate_left
             ·simp only [Act.put, List.setIfInBounds_toArray, List.set_cons_zero, List.set_cons_succ, i64_w, i32_w]
              rfl
             refine pure_ (i := 27) (N := some 93) (v := ?_) (a' := ?_) #[true, true, true, true, true, true, true, true, true, true, true, true, true, true, true, true, true, true, true, true, true, true, true, true, true, true, true, true, false, false, false, false, false, false, false, false, false, false, false, false, false, false, false, false, false, false, false, false, false, false, false, false, false, false] rfl rfl (any_of HT_.out (by kernel_rfl)) (fun _ _ _ h => h) (Or.inl ⟨by rfl, ?_⟩) ?_ ?_
             rotate_left
             ·intro w'
              go_simp
              with_reducible rfl
             rotate_left
             ·simp only [Act.put, List.setIfInBounds_toArray, List.set_cons_zero, List.set_cons_succ, i64_w, i32_w]
              rfl
             refine pure_ (i := 28) (N := some 94) (v := ?_) (a' := ?_) #[true, true, true, true, true, true, true, true, true, true, true, true, true, true, true, true, true, true, true, true, true, true, true, true, true, true, true, true, true, false, false, false, false, false, false, false, false, false, false, false, false, false, false, false, false, false, false, false, false, false, false, false, false, false] rfl rfl (any_of HT_.out (by kernel_rfl)) (fun _ _ _ h => h) (Or.inl ⟨by rfl, ?_⟩) ?_ ?_
             rotate_left
             ·intro w'
              go_simp
              with_reducible rfl
             rotate_left
             ·simp only [Act.put, List.setIfInBounds_toArray, List.set_cons_zero, List.set_cons_succ, i64_w, i32_w]
              rfl
             refine pure_ (i := 29) (N := some 95) (v := ?_) (a' := ?_) #[true, true, true, true, true, true, true, true, true, true, true, true, true, true, true, true, true, true, true, true, true, true, true, true, true, true, true, true, true, true, false, false, false, false, false, false, false, false, false, false, false, false, false, false, false, false, false, false, false, false, false, false, false, false] rfl rfl (any_of HT_.out (by kernel_rfl)) (fun _ _ _ h => h) (Or.inl ⟨by rfl, ?_⟩) ?_ ?_
             rotate_left
             ·intro w'
              go_simp
              with_reducible rfl
             rotate_left
             ·simp only [Act.put, List.setIfInBounds_toArray, List.set_cons_zero, List.set_cons_succ, i64_w, i32_w]
              rfl
             refine pure_ (i := 31) (N := some 97) (v := ?_) (a' := ?_) #[true, true, true, true, true, true, true, true, true, true, true, true, true, true, true, true, true, true, true, true, true, true, true, true, true, true, true, true, true, true, false, true, false, false, false, false, false, false, false, false, false, false, false, false, false, false, false, false, false, false, false, false, false, false] rfl rfl (any_of HT_.out (by kernel_rfl)) (fun _ _ _ h => h) (Or.inl ⟨by rfl, ?_⟩) ?_ ?_
             rotate_left
             ·intro w'
              go_simp
              with_reducible rfl
             rotate_left
             ·simp only [Act.put, List.setIfInBounds_toArray, List.set_cons_zero, List.set_cons_succ, i64_w, i32_w]
              rfl
             refine pure_ (i := 32) (N := some 98) (v := ?_) (a' := ?_) #[true, true, true, true, true, true, true, true, true, true, true, true, true, true, true, true, true, true, true, true, true, true, true, true, true, true, true, true, true, true, false, true, true, false, false, false, false, false, false, false, false, false, false, false, false, false, false, false, false, false, false, false, false, false] rfl rfl (any_of HT_.out (by kernel_rfl)) (fun _ _ _ h => h) (Or.inl ⟨by rfl, ?_⟩) ?_ ?_
             rotate_left
             ·intro w'
              go_simp
              with_reducible rfl
             rotate_left
             ·simp only [Act.put, List.setIfInBounds_toArray, List.set_cons_zero, List.set_cons_succ, i64_w, i32_w]
              rfl
             refine pure_ (i := 33) (N := some 99) (v := ?_) (a' := ?_) #[true, true, true, true, true, true, true, true, true, true, true, true, true, true, true, true, true, true, true, true, true, true, true, true, true, true, true, true, true, true, false, true, true, true, false, false, false, false, false, false, false, false, false, false, false, false, false, false, false, false, false, false, false, false] rfl rfl (any_of HT_.out (by kernel_rfl)) (fun _ _ _ h => h) (Or.inl ⟨by rfl, ?_⟩) ?_ ?_
             rotate_left
             ·intro w'
              go_simp
              with_reducible rfl
             rotate_left
             ·simp only [Act.put, List.setIfInBounds_toArray, List.set_cons_zero, List.set_cons_succ, i64_w, i32_w]
              rfl
             refine take_ (i := 30) (N := some 96) (v := ?_) (a' := ?_) #[true, true, true, true, true, true, true, true, true, true, true, true, true, true, true, true, true, true, true, true, true, true, true, true, true, true, true, true, true, true, true, true, true, true, false, false, false, false, false, false, false, false, false, false, false, false, false, false, false, false, false, false, false, false] rfl rfl (take_ofW HT_.out HW_.out (by kernel_rfl)) (fun _ _ _ h => h) (Or.inl ⟨by rfl, ?_⟩) hHeld ?_ ?_
             rotate_left
             ·rintro w' ⟨s0, s1, s2, s3⟩
              go_simp
              with_reducible rfl
             rotate_left
             ·simp only [Act.put, List.setIfInBounds_toArray, List.set_cons_zero, List.set_cons_succ, i64_w, i32_w]
              rfl
             refine one_ (i := 34) (N := some 100) #[true, true, true, true, true, true, true, true, true, true, true, true, true, true, true, true, true, true, true, true, true, true, true, true, true, true, true, true, true, true, true, true, true, true, true, false, false, false, false, false, false, false, false, false, false, false, false, false, false, false, false, false, false, false] rfl rfl (one_of HT_.out (by kernel_rfl)) (by decide) (fun K hK => ?_)
             refine goes_ Try.func38 (by kernel_rfl) rfl #[.slice A1 l1.length c1, .int .i64 0, .int .i64 (wrap64 ((wrap64 ((ji11) - 1)) + 1))] (by rfl) rfl rfl (by (try simp only [List.map_toArray, List.map_cons, List.map_nil]); first | done | (simp only [hji11]; rfl) | rfl | (simp only [List.length_drop, List.length_take]; rfl)) ?_
             with_reducible refine (laws_r8At.calls _ _ l1 0 (wrap64 ((wrap64 ((ji11) - 1)) + 1)) t529 _ ?side1 ?side2 A45.out).mono ?_
             (case side1 => repeat (first | exact (Kd.C_below HR1.out HB.out) | (with_reducible refine Kd.C_alloc ?_ _) | (with_reducible refine Kd.C_drewN ?_ _) | (with_reducible refine Kd.C_drew ?_)))
             (case side2 => exact HC1.out)
             rintro e w' ⟨rfl, ⟨nd, rfl⟩⟩
             refine ⟨_, rfl, ?_⟩
             refine hK.out _ _ ⟨(blk_cell BK525.out 0).trans rfl, (blk_cell BK525.out 1).trans rfl, (blk_cell BK511.out 0).trans rfl, (blk_cell BK511.out 1).trans rfl⟩ (fun hHeld => ?_)
             clear hK K
             refine norm_ (a' := ?_) ?_ ?_
             rotate_left
             ·show Act.put _ (some 100) _ = _
              simp only [Act.put, List.setIfInBounds_toArray, List.set_cons_zero, List.set_cons_succ, i64_w, i32_w]
              rfl
             refine one_ (i := 35) (N := some 101) #[true, true, true, true, true, true, true, true, true, true, true, true, true, true, true, true, true, true, true, true, true, true, true, true, true, true, true, true, true, true, true, true, true, true, true, true, false, false, false, false, false, false, false, false, false, false, false, false, false, false, false, false, false, false] rfl rfl (one_of HT_.out (by kernel_rfl)) (by decide) (fun K hK => ?_)
             refine goes_ Try.func40 (by kernel_rfl) rfl #[.int .i64 t529] (by rfl) rfl rfl (by (try simp only [List.map_toArray, List.map_cons, List.map_nil]); first | done | rfl | (simp only [List.length_drop, List.length_take]; rfl) | (simp only [show ∀ (n_ : Nat) (b_ : Int), Int.tdiv (n_ : Int) b_ = (n_ : Int) / b_ from fun n_ b_ => Int.tdiv_eq_ediv_of_nonneg (Int.natCast_nonneg n_)]; rfl)) ?_
             with_reducible refine (laws_r8Weight.calls k t529 t530 _ A46.out).mono ?_
             rintro e w' ⟨rfl, ⟨nd, rfl⟩⟩
             refine ⟨_, rfl, ?_⟩
             refine hK.out _ _ ⟨(blk_cell BK525.out 0).trans rfl, (blk_cell BK525.out 1).trans rfl, (blk_cell BK511.out 0).trans rfl, (blk_cell BK511.out 1).trans rfl⟩ (fun hHeld => ?_)
             clear hK K
             refine norm_ (a' := ?_) ?_ ?_
             rotate_left
             ·show Act.put _ (some 101) _ = _
              simp only [Act.put, List.setIfInBounds_toArray, List.set_cons_zero, List.set_cons_succ, i64_w, i32_w]
              rfl
             refine pure_ (i := 36) (N := some 102) (v := ?_) (a' := ?_) #[true, true, true, true, true, true, true, true, true, true, true, true, true, true, true, true, true, true, true, true, true, true, true, true, true, true, true, true, true, true, true, true, true, true, true, true, true, false, false, false, false, false, false, false, false, false, false, false, false, false, false, false, false, false] rfl rfl (any_of HT_.out (by kernel_rfl)) (fun _ _ _ h => h) (Or.inl ⟨by rfl, ?_⟩) ?_ ?_
             rotate_left
             ·intro w'
              go_simp
              with_reducible rfl
             rotate_left
             ·simp only [Act.put, List.setIfInBounds_toArray, List.set_cons_zero, List.set_cons_succ, i64_w, i32_w]
              rfl
             refine pure_ (i := 37) (N := some 103) (v := ?_) (a' := ?_) #[true, true, true, true, true, true, true, true, true, true, true, true, true, true, true, true, true, true, true, true, true, true, true, true, true, true, true, true, true, true, true, true, true, true, true, true, true, true, false, false, false, false, false, false, false, false, false, false, false, false, false, false, false, false] rfl rfl (any_of HT_.out (by kernel_rfl)) (fun _ _ _ h => h) (Or.inl ⟨by rfl, ?_⟩) ?_ ?_
             rotate_left
             ·intro w'
              go_simp
              with_reducible rfl
             rotate_left
             ·simp only [Act.put, List.setIfInBounds_toArray, List.set_cons_zero, List.set_cons_succ, i64_w, i32_w]
              rfl
             refine pure_ (i := 38) (N := some 104) (v := ?_) (a' := ?_) #[true, true, true, true, true, true, true, true, true, true, true, true, true, true, true, true, true, true, true, true, true, true, true, true, true, true, true, true, true, true, true, true, true, true, true, true, true, true, true, false, false, false, false, false, false, false, false, false, false, false, false, false, false, false] rfl rfl (any_of HT_.out (by kernel_rfl)) (fun _ _ _ h => h) (Or.inl ⟨by rfl, ?_⟩) ?_ ?_
             rotate_left
             ·intro w'
              go_simp
              with_reducible rfl
             rotate_left
             ·simp only [Act.put, List.setIfInBounds_toArray, List.set_cons_zero, List.set_cons_succ, i64_w, i32_w]
              rfl
             refine pure_ (i := 39) (N := some 105) (v := ?_) (a' := ?_) #[true, true, true, true, true, true, true, true, true, true, true, true, true, true, true, true, true, true, true, true, true, true, true, true, true, true, true, true, true, true, true, true, true, true, true, true, true, true, true, true, false, false, false, false, false, false, false, false, false, false, false, false, false, false] rfl rfl (any_of HT_.out (by kernel_rfl)) (fun _ _ _ h => h) (Or.inl ⟨by rfl, ?_⟩) ?_ ?_
             rotate_left
             ·intro w'
              go_simp
              with_reducible rfl
             rotate_left
             ·simp only [Act.put, List.setIfInBounds_toArray, List.set_cons_zero, List.set_cons_succ, i64_w, i32_w]
              rfl
             refine pure_ (i := 42) (N := some 108) (v := ?_) (a' := ?_) #[true, true, true, true, true, true, true, true, true, true, true, true, true, true, true, true, true, true, true, true, true, true, true, true, true, true, true, true, true, true, true, true, true, true, true, true, true, true, true, true, false, false, true, false, false, false, false, false, false, false, false, false, false, false] rfl rfl (any_of HT_.out (by kernel_rfl)) (fun _ _ _ h => h) (Or.inl ⟨by rfl, ?_⟩) ?_ ?_
             rotate_left
             ·intro w'
              go_simp
              with_reducible rfl
             rotate_left
             ·simp only [Act.put, List.setIfInBounds_toArray, List.set_cons_zero, List.set_cons_succ, i64_w, i32_w]
              rfl
             refine take_ (i := 40) (N := some 106) (v := ?_) (a' := ?_) #[true, true, true, true, true, true, true, true, true, true, true, true, true, true, true, true, true, true, true, true, true, true, true, true, true, true, true, true, true, true, true, true, true, true, true, true, true, true, true, true, true, false, true, false, false, false, false, false, false, false, false, false, false, false] rfl rfl (take_ofW HT_.out HW_.out (by kernel_rfl)) (fun _ _ _ h => h) (Or.inl ⟨by rfl, ?_⟩) hHeld ?_ ?_
             rotate_left
             ·rintro w' ⟨s0, s1, s2, s3⟩
              go_simp
              with_reducible rfl
             rotate_left
             ·simp only [Act.put, List.setIfInBounds_toArray, List.set_cons_zero, List.set_cons_succ, i64_w, i32_w]
              rfl
             refine pure_ (i := 41) (N := some 107) (v := ?_) (a' := ?_) #[true, true, true, true, true, true, true, true, true, true, true, true, true, true, true, true, true, true, true, true, true, true, true, true, true, true, true, true, true, true, true, true, true, true, true, true, true, true, true, true, true, true, true, false, false, false, false, false, false, false, false, false, false, false] rfl rfl (any_of HT_.out (by kernel_rfl)) (fun _ _ _ h => h) (Or.inl ⟨by rfl, ?_⟩) ?_ ?_
             rotate_left
             ·intro w'
              go_simp
              with_reducible rfl
             rotate_left
             ·simp only [Act.put, List.setIfInBounds_toArray, List.set_cons_zero, List.set_cons_succ, i64_w, i32_w]
              rfl
             refine take_ (i := 43) (N := some 109) (v := ?_) (a' := ?_) #[true, true, true, true, true, true, true, true, true, true, true, true, true, true, true, true, true, true, true, true, true, true, true, true, true, true, true, true, true, true, true, true, true, true, true, true, true, true, true, true, true, true, true, true, false, false, false, false, false, false, false, false, false, false] rfl rfl (take_ofW HT_.out HW_.out (by kernel_rfl)) (fun _ _ _ h => h) (Or.inl ⟨by rfl, ?_⟩) hHeld ?_ ?_
             rotate_left
             ·rintro w' ⟨s0, s1, s2, s3⟩
              go_simp
              with_reducible rfl
             rotate_left
             ·simp only [Act.put, List.setIfInBounds_toArray, List.set_cons_zero, List.set_cons_succ, i64_w, i32_w]
              rfl
             refine pure_ (i := 44) (N := some 110) (v := ?_) (a' := ?_) #[true, true, true, true, true, true, true, true, true, true, true, true, true, true, true, true, true, true, true, true, true, true, true, true, true, true, true, true, true, true, true, true, true, true, true, true, true, true, true, true, true, true, true, true, true, false, false, false, false, false, false, false, false, false] rfl rfl (any_of HT_.out (by kernel_rfl)) (fun _ _ _ h => h) (Or.inl ⟨by rfl, ?_⟩) ?_ ?_
             rotate_left
             ·intro w'
              go_simp
              with_reducible rfl
             rotate_left
             ·simp only [Act.put, List.setIfInBounds_toArray, List.set_cons_zero, List.set_cons_succ, i64_w, i32_w]
              rfl
             refine pure_ (i := 45) (N := some 111) (v := ?_) (a' := ?_) #[true, true, true, true, true, true, true, true, true, true, true, true, true, true, true, true, true, true, true, true, true, true, true, true, true, true, true, true, true, true, true, true, true, true, true, true, true, true, true, true, true, true, true, true, true, true, false, false, false, false, false, false, false, false] rfl rfl (any_of HT_.out (by kernel_rfl)) (fun _ _ _ h => h) (Or.inl ⟨by rfl, ?_⟩) ?_ ?_
             rotate_left
             ·intro w'
              go_simp
              with_reducible rfl
             rotate_left
             ·simp only [Act.put, List.setIfInBounds_toArray, List.set_cons_zero, List.set_cons_succ, i64_w, i32_w]
              rfl
             refine pure_ (i := 46) (N := some 112) (v := ?_) (a' := ?_) #[true, true, true, true, true, true, true, true, true, true, true, true, true, true, true, true, true, true, true, true, true, true, true, true, true, true, true, true, true, true, true, true, true, true, true, true, true, true, true, true, true, true, true, true, true, true, true, false, false, false, false, false, false, false] rfl rfl (any_of HT_.out (by kernel_rfl)) (fun _ _ _ h => h) (Or.inl ⟨by rfl, ?_⟩) ?_ ?_
             rotate_left
             ·intro w'
              go_simp
              with_reducible rfl
             rotate_left
             ·simp only [Act.put, List.setIfInBounds_toArray, List.set_cons_zero, List.set_cons_succ, i64_w, i32_w]
              rfl
             refine pure_ (i := 47) (N := some 113) (v := ?_) (a' := ?_) #[true, true, true, true, true, true, true, true, true, true, true, true, true, true, true, true, true, true, true, true, true, true, true, true, true, true, true, true, true, true, true, true, true, true, true, true, true, true, true, true, true, true, true, true, true, true, true, true, false, false, false, false, false, false] rfl rfl (any_of HT_.out (by kernel_rfl)) (fun _ _ _ h => h) (Or.inl ⟨by rfl, ?_⟩) ?_ ?_
             rotate_left
             ·intro w'
              go_simp
              with_reducible rfl
             rotate_left
             ·simp only [Act.put, List.setIfInBounds_toArray, List.set_cons_zero, List.set_cons_succ, i64_w, i32_w]
              rfl
             refine pure_ (i := 50) (N := some 116) (v := ?_) (a' := ?_) #[true, true, true, true, true, true, true, true, true, true, true, true, true, true, true, true, true, true, true, true, true, true, true, true, true, true, true, true, true, true, true, true, true, true, true, true, true, true, true, true, true, true, true, true, true, true, true, true, false, false, true, false, false, false] rfl rfl (any_of HT_.out (by kernel_rfl)) (fun _ _ _ h => h) (Or.inl ⟨by rfl, ?_⟩) ?_ ?_
             rotate_left
             ·intro w'
              go_simp
              with_reducible rfl
             rotate_left
             ·simp only [Act.put, List.setIfInBounds_toArray, List.set_cons_zero, List.set_cons_succ, i64_w, i32_w]
              rfl
             refine pure_ (i := 51) (N := some 117) (v := ?_) (a' := ?_) #[true, true, true, true, true, true, true, true, true, true, true, true, true, true, true, true, true, true, true, true, true, true, true, true, true, true, true, true, true, true, true, true, true, true, true, true, true, true, true, true, true, true, true, true, true, true, true, true, false, false, true, true, false, false] rfl rfl (any_of HT_.out (by kernel_rfl)) (fun _ _ _ h => h) (Or.inl ⟨by rfl, ?_⟩) ?_ ?_
             rotate_left
             ·intro w'
              go_simp
              with_reducible rfl
             rotate_left
             ·simp only [Act.put, List.setIfInBounds_toArray, List.set_cons_zero, List.set_cons_succ, i64_w, i32_w]
              rfl
             refine take_ (i := 48) (N := some 114) (v := ?_) (a' := ?_) #[true, true, true, true, true, true, true, true, true, true, true, true, true, true, true, true, true, true, true, true, true, true, true, true, true, true, true, true, true, true, true, true, true, true, true, true, true, true, true, true, true, true, true, true, true, true, true, true, true, false, true, true, false, false] rfl rfl (take_ofW HT_.out HW_.out (by kernel_rfl)) (fun _ _ _ h => h) (Or.inl ⟨by rfl, ?_⟩) hHeld ?_ ?_
             rotate_left
             ·rintro w' ⟨s0, s1, s2, s3⟩
              go_simp
              with_reducible rfl
             rotate_left
             ·simp only [Act.put, List.setIfInBounds_toArray, List.set_cons_zero, List.set_cons_succ, i64_w, i32_w]
              rfl
             refine one_ (i := 49) (N := some 115) #[true, true, true, true, true, true, true, true, true, true, true, true, true, true, true, true, true, true, true, true, true, true, true, true, true, true, true, true, true, true, true, true, true, true, true, true, true, true, true, true, true, true, true, true, true, true, true, true, true, true, true, true, false, false] rfl rfl (one_of HT_.out (by kernel_rfl)) (by decide) (fun K hK => ?_)
             refine goes_ Try.func47 (by kernel_rfl) rfl #[.agg #[.int .i64 t507, .slice Ao19 t508.length co19]] (by rfl) rfl rfl (by (try simp only [List.map_toArray, List.map_cons, List.map_nil]); first | done | rfl | (simp only [List.length_drop, List.length_take]; rfl) | (simp only [show ∀ (n_ : Nat) (b_ : Int), Int.tdiv (n_ : Int) b_ = (n_ : Int) / b_ from fun n_ b_ => Int.tdiv_eq_ediv_of_nonneg (Int.natCast_nonneg n_)]; rfl)) ?_
             with_reducible refine (impl_IsUnimodular.calls k t507 _ _ t508 t531 _ ?side1 ?side2 A49.out).mono ?_
             (case side1 => repeat (first | exact (Kd.R_reads' HO510.out).2.2 | (with_reducible refine Kd.C_alloc ?_ _) | (with_reducible refine Kd.C_drewN ?_ _) | (with_reducible refine Kd.C_drew ?_)))
             (case side2 => exact (Kd.R_reads' HO510.out).2.1)
             rintro e w51 ⟨rfl, hb⟩
             refine ⟨_, rfl, ?_⟩
             have n0_ := Aside0.mk (Kd.R_below (by (with_reducible repeat (first | apply Kd.R_alloc | apply Kd.R_drewN | apply Kd.R_drew)); exact HO510.out) hb)
             have n1_ := Aside0.mk (Kd.R_below (by (with_reducible repeat (first | apply Kd.R_alloc | apply Kd.R_drewN | apply Kd.R_drew)); exact HO523.out) hb)
             have n2_ := Aside0.mk (blk_below (g := gb511) (o := .cells #[.int .i64 t507, .slice Ao19 t508.length co19] 27 (0, 0)) (by (with_reducible repeat (first | refine blk_drewN ?_ _ | refine blk_drew ?_ | refine blk_alloc ?_ _)); exact BK511.out) hb)
             have n3_ := Aside0.mk (blk_below (g := gb525) (o := .cells #[.int .i64 t520, .slice Ao31 t521.length co31] 27 (0, 0)) (by (with_reducible repeat (first | refine blk_drewN ?_ _ | refine blk_drew ?_ | refine blk_alloc ?_ _)); exact BK525.out) hb)
             have n4_ := Aside0.mk (below_step (by repeat (first | (with_reducible first | exact HB.out | apply below_alloc | apply pw_below_drewN | apply below_drew1 | refine below_set ?_ GE511.out | refine below_set ?_ GE525.out) | exact HB.out)) hb)
             clear HO510
             clear HO523
             clear BK511
             clear BK525
             clear HB
             have HO510 := n0_
             have HO523 := n1_
             have BK511 := n2_
             have BK525 := n3_
             have HB := n4_
             clear n0_ n1_ n2_ n3_ n4_
             (try clear hb)
             (try clear hb2)
             (try clear hk)
             (try clear hi)
             refine hK.out _ _ ⟨(blk_cell BK525.out 0).trans rfl, (blk_cell BK525.out 1).trans rfl, (blk_cell BK511.out 0).trans rfl, (blk_cell BK511.out 1).trans rfl⟩ (fun hHeld => ?_)
             clear hK K
             refine norm_ (a' := ?_) ?_ ?_
             rotate_left
             ·show Act.put _ (some 115) _ = _
              simp only [Act.put, List.setIfInBounds_toArray, List.set_cons_zero, List.set_cons_succ, i64_w, i32_w]
              rfl
             refine pure_ (i := 52) (N := some 118) (v := ?_) (a' := ?_) #[true, true, true, true, true, true, true, true, true, true, true, true, true, true, true, true, true, true, true, true, true, true, true, true, true, true, true, true, true, true, true, true, true, true, true, true, true, true, true, true, true, true, true, true, true, true, true, true, true, true, true, true, true, false] rfl rfl (any_of HT_.out (by kernel_rfl)) (fun _ _ _ h => h) (Or.inl ⟨by rfl, ?_⟩) ?_ ?_
             rotate_left
             ·intro w'
              go_simp
              with_reducible rfl
             rotate_left
             ·simp only [Act.put, List.setIfInBounds_toArray, List.set_cons_zero, List.set_cons_succ, i64_w, i32_w]
              rfl
             refine pure_ (i := 53) (N := some 119) (v := ?_) (a' := ?_) #[true, true, true, true, true, true, true, true, true, true, true, true, true, true, true, true, true, true, true, true, true, true, true, true, true, true, true, true, true, true, true, true, true, true, true, true, true, true, true, true, true, true, true, true, true, true, true, true, true, true, true, true, true, true] rfl rfl (any_of HT_.out (by kernel_rfl)) (fun _ _ _ h => h) (Or.inl ⟨by rfl, ?_⟩) ?_ ?_
             rotate_left
             ·intro w'
              go_simp
              with_reducible rfl
             rotate_left
             ·simp only [Act.put, List.setIfInBounds_toArray, List.set_cons_zero, List.set_cons_succ, i64_w, i32_w]
              rfl
             refine done_ (done_of HT_.out (by kernel_rfl)) ?_
             try go_wp2
             go_meet
             case rel => exact ⟨_, ((t531 != (decide (t512 ≤ 1)))), (by first | rfl | (simp; done) | (simp [*]; done)), H', ⟨by first | omega | exact Nat.le_refl _⟩, ⟨by (with_reducible repeat (first | apply Kd.R_alloc | apply Kd.R_drewN | apply Kd.R_drew)); exact HO510.out⟩, ⟨by (with_reducible repeat (first | apply Kd.R_alloc | apply Kd.R_drewN | apply Kd.R_drew)); exact HO523.out⟩, ⟨by (with_reducible repeat (first | refine blk_drewN ?_ _ | refine blk_drew ?_ | refine blk_alloc ?_ _)); exact BK511.out⟩, ⟨by (with_reducible repeat (first | refine blk_drewN ?_ _ | refine blk_drew ?_ | refine blk_alloc ?_ _)); exact BK525.out⟩, ⟨by repeat (first | (with_reducible first | exact HB.out | apply below_alloc | apply pw_below_drewN | apply below_drew1 | refine below_set ?_ GE511.out | refine below_set ?_ GE525.out) | exact HB.out)⟩⟩
            ·rw [if_neg c48] at H
             exact absurd (H.trans (congrArg some hr_)) (laws_FnHereditary.j0_no _ _ _ _ _ _)
           ·rw [if_neg c47] at H
            exact absurd (H.trans (congrArg some hr_)) (laws_FnHereditary.j0_no _ _ _ _ _ _)
        ·replace c40 := Bool.eq_false_iff.mpr c40
         subst c40
         have H1 : (laws_FnHereditary.j0 k t512 t517 (wrap64 ((ji11) - 1)) true t507 t508) = some r := by rw [if_neg (show ¬ (false = true) by decide)] at H; exact H
         exact absurd (H1.trans (congrArg some hr_)) (laws_FnHereditary.j0_no _ _ _ _ _ _)
       ·replace c39 := Bool.eq_false_iff.mpr c39
        subst c39
        have H1 : (laws_FnHereditary.j0 k t512 t517 (wrap64 ((ji11) - 1)) true t507 t508) = some r := by rw [if_neg (show ¬ (false = true) by decide)] at H; exact H
        exact absurd (H1.trans (congrArg some hr_)) (laws_FnHereditary.j0_no _ _ _ _ _ _)
      ·replace c38 := Bool.eq_false_iff.mpr c38
       subst c38
       have H1 : (laws_FnHereditary.j0 k t512 t517 (wrap64 ((ji11) - 1)) true t507 t508) = some r := by rw [if_neg (show ¬ (false = true) by decide)] at H; exact H
       exact absurd (H1.trans (congrArg some hr_)) (laws_FnHereditary.j0_no _ _ _ _ _ _)
     ·replace c37 := Bool.eq_false_iff.mpr c37
      subst c37
      have H1 : (laws_FnHereditary.j0 k t512 t517 (wrap64 ((ji11) - 1)) true t507 t508) = some r := by rw [if_neg (show ¬ (false = true) by decide)] at H; exact H
      exact absurd (H1.trans (congrArg some hr_)) (laws_FnHereditary.j0_no _ _ _ _ _ _)
    ·replace c36 := Bool.eq_false_iff.mpr c36
     subst c36
     have H1 : (laws_FnHereditary.j0 k t512 t517 (wrap64 ((ji11) - 1)) true t507 t508) = some r := by rw [if_neg (show ¬ (false = true) by decide)] at H; exact H
     exact absurd (H1.trans (congrArg some hr_)) (laws_FnHereditary.j0_no _ _ _ _ _ _)
   case rest =>
    clear HC15
    try clear p2
    try clear c3
    try clear p6
    try clear c36
    obtain ⟨kq, x119_14, rfl, HA, HJ14, HO_512001, HO_526001, BK511, BK525, HB⟩ := hcut
    cases kq with
    | zero => exact absurd HA.out (by simp [laws_FnHereditary.j0])
    | succ kj14 =>
     have H := HA.out
     clear HA
     simp only [laws_FnHereditary.j0] at H
     by_cases c59 : x119_14 = true
     ·subst c59
      have H1 : (some false) = some r := by rw [if_pos rfl] at H; exact H
      clear H
      have H := H1
      clear H1
      obtain rfl := Option.some.inj H
      go_wp2
      go_ret
      exact ⟨by first | rfl | (simp [errW_none, errW_some] <;> rfl) | (simp only [← hji9, ← hji11]; first | rfl | (simp [errW_none, errW_some] <;> rfl)) | (simp [*, errW_none, errW_some] <;> rfl), by repeat (first | (with_reducible first | exact HB.out | apply below_alloc | apply pw_below_drewN | apply below_drew1 | refine below_set ?_ GE511.out | refine below_set ?_ GE525.out) | exact HB.out)⟩
     ·replace c59 := Bool.eq_false_iff.mpr c59
      subst c59
      have H1 : (if t517 > 0 then (if t512 ≥ (wrap64 (2 * t517)) then (laws_FnHereditary.j1 kj14 t512 (wrap64 ((ji11) - 1)) true t507 t508) else (if t517 = 0 then (laws_FnHereditary.j1 kj14 t512 (wrap64 ((ji11) - 1)) (decide (t512 > 0)) t507 t508) else (laws_FnHereditary.j1 kj14 t512 (wrap64 ((ji11) - 1)) false t507 t508))) else (if t517 = 0 then (laws_FnHereditary.j1 kj14 t512 (wrap64 ((ji11) - 1)) (decide (t512 > 0)) t507 t508) else (laws_FnHereditary.j1 kj14 t512 (wrap64 ((ji11) - 1)) false t507 t508))) = some r := by rw [if_neg (show ¬ (false = true) by decide)] at H; exact H
      clear H
      have H := H1
      clear H1
      have HC60 := Aside0.mk H
      clear H
      go_upto_region 12 with (fail)
      go_cut [135] (fun v135 wc => ∃ (kq : Nat) (x135_59 : Bool), v135 = .bool x135_59 ∧ Aside0 (laws_FnHereditary.j1 kq t512 (wrap64 ((ji11) - 1)) x135_59 t507 t508 = some r) ∧ Aside0 (kq ≤ kj14) ∧ Aside0 (Kd.R (Kd.int .i64) 2 wc w.heap.size (fun k_ => some k_ ≠ ((.slice Ao31 t521.length co31) : Value).ownBlock) (.slice Ao19 t508.length co19) t508) ∧ Aside0 (Kd.R (Kd.int .i64) 2 wc w.heap.size (fun k_ => some k_ ≠ ((.slice Ao19 t508.length co19) : Value).ownBlock) (.slice Ao31 t521.length co31) t521) ∧ Aside0 (wc.heap[gb511]? = some (.cells #[.int .i64 t507, (.slice Ao19 t508.length co19)] 27 (0, 0))) ∧ Aside0 (wc.heap[gb525]? = some (.cells #[.int .i64 t520, (.slice Ao31 t521.length co31)] 27 (0, 0))) ∧ Aside0 (Below w.heap.size w wc))
      case first =>
       have H := HC60.out
       clear HC60
       by_cases c61 : t517 > 0
       ·rw [if_pos c61] at H
        have c61b0 : decide (0 < t517) = true := decide_eq_true c61
        clear c61
        (first | rw [c61b0] | (simp only [i64_w, i32_w]; rw [c61b0]) | skip)
        by_cases c62 : t512 ≥ (wrap64 (2 * t517))
        ·rw [if_pos c62] at H
         have c62b0 : decide ((wrap64 (2 * t517)) ≤ t512) = true := decide_eq_true c62
         clear c62
         have H' := Aside0.mk H
         clear H
         go_wp2
         go_meet
         case rel => exact ⟨_, (true), (by first | rfl | (simp; done) | (simp [*]; done)), H', ⟨by have := HJ14.out; first | omega | exact Nat.le_refl _⟩, ⟨by (with_reducible repeat (first | apply Kd.R_alloc | apply Kd.R_drewN | apply Kd.R_drew)); exact HO_512001.out⟩, ⟨by (with_reducible repeat (first | apply Kd.R_alloc | apply Kd.R_drewN | apply Kd.R_drew)); exact HO_526001.out⟩, ⟨by (with_reducible repeat (first | refine blk_drewN ?_ _ | refine blk_drew ?_ | refine blk_alloc ?_ _)); exact BK511.out⟩, ⟨by (with_reducible repeat (first | refine blk_drewN ?_ _ | refine blk_drew ?_ | refine blk_alloc ?_ _)); exact BK525.out⟩, ⟨by repeat (first | (with_reducible first | exact HB.out | apply below_alloc | apply pw_below_drewN | apply below_drew1 | refine below_set ?_ GE511.out | refine below_set ?_ GE525.out) | exact HB.out)⟩⟩
        ·rw [if_neg c62] at H
         have c62b0 : decide ((wrap64 (2 * t517)) ≤ t512) = false := decide_eq_false c62
         clear c62
         by_cases c63 : t517 = 0
         ·rw [if_pos c63] at H
          have c63b0 : (t517 == 0) = true := beq_iff_eq.mpr c63
          have c63b1 : (t517 != 0) = false := bne_eq_false_iff_eq.mpr c63
          clear c63
          have H' := Aside0.mk H
          clear H
          go_wp2
          go_meet
          case rel => exact ⟨_, (decide (t512 > 0)), (by first | rfl | (simp; done) | (simp [*]; done)), H', ⟨by have := HJ14.out; first | omega | exact Nat.le_refl _⟩, ⟨by (with_reducible repeat (first | apply Kd.R_alloc | apply Kd.R_drewN | apply Kd.R_drew)); exact HO_512001.out⟩, ⟨by (with_reducible repeat (first | apply Kd.R_alloc | apply Kd.R_drewN | apply Kd.R_drew)); exact HO_526001.out⟩, ⟨by (with_reducible repeat (first | refine blk_drewN ?_ _ | refine blk_drew ?_ | refine blk_alloc ?_ _)); exact BK511.out⟩, ⟨by (with_reducible repeat (first | refine blk_drewN ?_ _ | refine blk_drew ?_ | refine blk_alloc ?_ _)); exact BK525.out⟩, ⟨by repeat (first | (with_reducible first | exact HB.out | apply below_alloc | apply pw_below_drewN | apply below_drew1 | refine below_set ?_ GE511.out | refine below_set ?_ GE525.out) | exact HB.out)⟩⟩
         ·rw [if_neg c63] at H
          have c63b0 : (t517 == 0) = false := beq_eq_false_iff_ne.mpr c63
          have c63b1 : (t517 != 0) = true := bne_iff_ne.mpr c63
          have H' := Aside0.mk H
          clear H
          go_wp2
          go_meet
          case rel => exact ⟨_, (false), (by first | rfl | (simp; done) | (simp [*]; done)), H', ⟨by have := HJ14.out; first | omega | exact Nat.le_refl _⟩, ⟨by (with_reducible repeat (first | apply Kd.R_alloc | apply Kd.R_drewN | apply Kd.R_drew)); exact HO_512001.out⟩, ⟨by (with_reducible repeat (first | apply Kd.R_alloc | apply Kd.R_drewN | apply Kd.R_drew)); exact HO_526001.out⟩, ⟨by (with_reducible repeat (first | refine blk_drewN ?_ _ | refine blk_drew ?_ | refine blk_alloc ?_ _)); exact BK511.out⟩, ⟨by (with_reducible repeat (first | refine blk_drewN ?_ _ | refine blk_drew ?_ | refine blk_alloc ?_ _)); exact BK525.out⟩, ⟨by repeat (first | (with_reducible first | exact HB.out | apply below_alloc | apply pw_below_drewN | apply below_drew1 | refine below_set ?_ GE511.out | refine below_set ?_ GE525.out) | exact HB.out)⟩⟩
       ·rw [if_neg c61] at H
        have c61b0 : decide (0 < t517) = false := decide_eq_false c61
        clear c61
        (first | rw [c61b0] | (simp only [i64_w, i32_w]; rw [c61b0]) | skip)
        by_cases c64 : t517 = 0
        ·rw [if_pos c64] at H
         have c64b0 : (t517 == 0) = true := beq_iff_eq.mpr c64
         have c64b1 : (t517 != 0) = false := bne_eq_false_iff_eq.mpr c64
         clear c64
         have H' := Aside0.mk H
         clear H
         go_wp2
         go_meet
         case rel => exact ⟨_, (decide (t512 > 0)), (by first | rfl | (simp; done) | (simp [*]; done)), H', ⟨by have := HJ14.out; first | omega | exact Nat.le_refl _⟩, ⟨by (with_reducible repeat (first | apply Kd.R_alloc | apply Kd.R_drewN | apply Kd.R_drew)); exact HO_512001.out⟩, ⟨by (with_reducible repeat (first | apply Kd.R_alloc | apply Kd.R_drewN | apply Kd.R_drew)); exact HO_526001.out⟩, ⟨by (with_reducible repeat (first | refine blk_drewN ?_ _ | refine blk_drew ?_ | refine blk_alloc ?_ _)); exact BK511.out⟩, ⟨by (with_reducible repeat (first | refine blk_drewN ?_ _ | refine blk_drew ?_ | refine blk_alloc ?_ _)); exact BK525.out⟩, ⟨by repeat (first | (with_reducible first | exact HB.out | apply below_alloc | apply pw_below_drewN | apply below_drew1 | refine below_set ?_ GE511.out | refine below_set ?_ GE525.out) | exact HB.out)⟩⟩
        ·rw [if_neg c64] at H
         have c64b0 : (t517 == 0) = false := beq_eq_false_iff_ne.mpr c64
         have c64b1 : (t517 != 0) = true := bne_iff_ne.mpr c64
         have H' := Aside0.mk H
         clear H
         go_wp2
         go_meet
         case rel => exact ⟨_, (false), (by first | rfl | (simp; done) | (simp [*]; done)), H', ⟨by have := HJ14.out; first | omega | exact Nat.le_refl _⟩, ⟨by (with_reducible repeat (first | apply Kd.R_alloc | apply Kd.R_drewN | apply Kd.R_drew)); exact HO_512001.out⟩, ⟨by (with_reducible repeat (first | apply Kd.R_alloc | apply Kd.R_drewN | apply Kd.R_drew)); exact HO_526001.out⟩, ⟨by (with_reducible repeat (first | refine blk_drewN ?_ _ | refine blk_drew ?_ | refine blk_alloc ?_ _)); exact BK511.out⟩, ⟨by (with_reducible repeat (first | refine blk_drewN ?_ _ | refine blk_drew ?_ | refine blk_alloc ?_ _)); exact BK525.out⟩, ⟨by repeat (first | (with_reducible first | exact HB.out | apply below_alloc | apply pw_below_drewN | apply below_drew1 | refine below_set ?_ GE511.out | refine below_set ?_ GE525.out) | exact HB.out)⟩⟩
      case rest =>
       clear HC60
       try clear p2
       try clear c3
       try clear c5
       try clear c6
       try clear p6
       try clear c36
       try clear c59
       try clear c61
       try clear c61b0
       try clear c62
       try clear c62b0
       try clear c63
       try clear c63b0
       try clear c63b1
       try clear c64
       try clear c64b0
       try clear c64b1
       try clear p64
       try clear p2
       try clear p6
       obtain ⟨kq, x135_59, rfl, HA, HJ59, HO_512001, HO_526001, BK511, BK525, HB⟩ := hcut
       cases kq with
       | zero => exact absurd HA.out (by simp [laws_FnHereditary.j1])
       | succ kj59 =>
        have H := HA.out
        clear HA
        simp only [laws_FnHereditary.j1] at H
        by_cases c65 : x135_59 = true
        ·subst c65
         have H1 : (some false) = some r := by rw [if_pos rfl] at H; exact H
         clear H
         have H := H1
         clear H1
         obtain rfl := Option.some.inj H
         go_wp2
         go_ret
         exact ⟨by first | rfl | (simp [errW_none, errW_some] <;> rfl) | (simp only [← hji9, ← hji11]; first | rfl | (simp [errW_none, errW_some] <;> rfl)) | (simp [*, errW_none, errW_some] <;> rfl), by repeat (first | (with_reducible first | exact HB.out | apply below_alloc | apply pw_below_drewN | apply below_drew1 | refine below_set ?_ GE511.out | refine below_set ?_ GE525.out) | exact HB.out)⟩
        ·replace c65 := Bool.eq_false_iff.mpr c65
         subst c65
         have H1 : (laws_FnHereditary.l0 kj59 t512 (wrap64 ((ji11) - 1)) 0 t507 t508) = some r := by rw [if_neg (show ¬ (false = true) by decide)] at H; exact H
         clear H
         have H := H1
         clear H1
         have H' := Aside0.mk H
         clear H
         go_wp2
         go_loopg [19] kj59 (fun kq v19 w' => ∃ (x19_3 : Int), v19 = .int .i64 x19_3 ∧ Aside0 (laws_FnHereditary.l0 kq t512 (wrap64 ((ji11) - 1)) x19_3 t507 t508 = some r) ∧ Aside0 (kq ≤ kj59) ∧ Aside0 (Kd.R (Kd.int .i64) 2 w' w.heap.size (fun k_ => some k_ ≠ ((.slice Ao31 t521.length co31) : Value).ownBlock) (.slice Ao19 t508.length co19) t508) ∧ Aside0 (Kd.R (Kd.int .i64) 2 w' w.heap.size (fun k_ => some k_ ≠ ((.slice Ao19 t508.length co19) : Value).ownBlock) (.slice Ao31 t521.length co31) t521) ∧ Aside0 (w'.heap[gb511]? = some (.cells #[.int .i64 t507, (.slice Ao19 t508.length co19)] 27 (0, 0))) ∧ Aside0 (w'.heap[gb525]? = some (.cells #[.int .i64 t520, (.slice Ao31 t521.length co31)] 27 (0, 0))) ∧ Aside0 (Below w.heap.size w w'))
         case atStart => exact ⟨(0), (by first | rfl | (simp; done) | (simp [*]; done)), H', ⟨Nat.le_refl _⟩, ⟨by (with_reducible repeat (first | apply Kd.R_alloc | apply Kd.R_drewN | apply Kd.R_drew)); exact HO_512001.out⟩, ⟨by (with_reducible repeat (first | apply Kd.R_alloc | apply Kd.R_drewN | apply Kd.R_drew)); exact HO_526001.out⟩, ⟨by (with_reducible repeat (first | refine blk_drewN ?_ _ | refine blk_drew ?_ | refine blk_alloc ?_ _)); exact BK511.out⟩, ⟨by (with_reducible repeat (first | refine blk_drewN ?_ _ | refine blk_drew ?_ | refine blk_alloc ?_ _)); exact BK525.out⟩, ⟨by repeat (first | (with_reducible first | exact HB.out | apply below_alloc | apply pw_below_drewN | apply below_drew1 | refine below_set ?_ GE511.out | refine below_set ?_ GE525.out) | exact HB.out)⟩⟩
         case round =>
          clear H'
          try clear p2
          try clear c3
          try clear c5
          try clear c6
          try clear p6
          try clear c36
          try clear c59
          try clear c61
          try clear c61b0
          try clear c62
          try clear c62b0
          try clear c63
          try clear c63b0
          try clear c63b1
          try clear c64
          try clear c64b0
          try clear c64b1
          try clear p64
          try clear c65
          try clear p2
          try clear p6
          try clear p64
          obtain ⟨x19_3, rfl, HA, HK3, HO_512001, HO_526001, BK511, BK525, HB⟩ := hrel
          cases gk with
          | zero => exact absurd HA.out (by simp [laws_FnHereditary.l0])
          | succ k3 =>
           have H := HA.out
           clear HA
           simp only [laws_FnHereditary.l0] at H
           by_cases c66 : x19_3 ≤ (wrap64 ((ji11) - 1))
           ·rw [if_pos c66] at H
            have c66b0 : decide (x19_3 ≤ (wrap64 ((ji11) - 1))) = true := decide_eq_true c66
            clear c66
            replace H := Option.bind_eq_some_iff.mp H
            obtain ⟨⟨t532, t533, t536⟩, A670, H⟩ := H
            replace H : ((impl_DiscrepancyOf.f k3 t532 t533).bind fun bt538 => (if t536 = true then (if bt538.2.2 = true then (laws_FnHereditary.j3 k3 t512 (wrap64 ((ji11) - 1)) x19_3 bt538.1 (decide (bt538.1 > t512)) t507 t508) else (laws_FnHereditary.j3 k3 t512 (wrap64 ((ji11) - 1)) x19_3 bt538.1 true t507 t508)) else (laws_FnHereditary.j3 k3 t512 (wrap64 ((ji11) - 1)) x19_3 bt538.1 true t507 t508))) = some r := H
            have A67 := Aside0.mk A670
            clear A670
            replace H := Option.bind_eq_some_iff.mp H
            obtain ⟨⟨t538, t539, t540⟩, A680, H⟩ := H
            replace H : (if t536 = true then (if t540 = true then (laws_FnHereditary.j3 k3 t512 (wrap64 ((ji11) - 1)) x19_3 t538 (decide (t538 > t512)) t507 t508) else (laws_FnHereditary.j3 k3 t512 (wrap64 ((ji11) - 1)) x19_3 t538 true t507 t508)) else (laws_FnHereditary.j3 k3 t512 (wrap64 ((ji11) - 1)) x19_3 t538 true t507 t508)) = some r := H
            have A68 := Aside0.mk A680
            clear A680
            have HC69 := Aside0.mk H
            clear H
            have hnb70 := NB511_525.out
            have hnc70 := NB525_511.out
            have hcz71_0 : wr.cell? ⟨gb511, 0, none⟩ = some (.int .i64 t507) := (blk_cell BK511.out 0).trans rfl
            have hcz71_1 : wr.cell? ⟨gb511, 1, none⟩ = some (.slice Ao19 t508.length co19) := (blk_cell BK511.out 1).trans rfl
            have hfz71_0 := blk_frozen BK511.out 0
            have hfz71_1 := blk_frozen BK511.out 1
            go_upto_region 19 with (first | ((with_reducible refine gate_callee (f := 46) rfl ?_); refine goesL_ (some 144) rfl rfl Try.func46 (by kernel_rfl) rfl #[.agg #[.int .i64 t507, .slice Ao19 t508.length co19], .int .i64 x19_3] rfl (by (try simp only [List.map_toArray, List.map_cons, List.map_nil]); first | done | rfl | (simp only [List.length_drop, List.length_take]; rfl) | (simp only [show ∀ (n_ : Nat) (b_ : Int), Int.tdiv (n_ : Int) b_ = (n_ : Int) / b_ from fun n_ b_ => Int.tdiv_eq_ediv_of_nonneg (Int.natCast_nonneg n_)]; rfl)) ?_; (with_reducible refine (impl_RestrictSystem.calls k3 t507 _ _ t508 x19_3 t532 t533 t536 _ ?side1 ?side2 A67.out).mono ?_); (case side1 => repeat (first | exact (Kd.R_reads' HO_512001.out).2.2 | (with_reducible refine Kd.C_alloc ?_ _) | (with_reducible refine Kd.C_drewN ?_ _) | (with_reducible refine Kd.C_drew ?_))); (case side2 => exact (Kd.R_reads' HO_512001.out).2.1); rintro e w72 ⟨v534, rfl, ho0, hb⟩; refine ⟨_, rfl, ?_⟩; have n0_ := Aside0.mk (Kd.R_elder' (by (with_reducible repeat (first | apply Kd.R_alloc | apply Kd.R_drewN | apply Kd.R_drew)); exact HO_512001.out) (Kd.R_base ho0) hb); have n1_ := Aside0.mk (Kd.R_elder' (by (with_reducible repeat (first | apply Kd.R_alloc | apply Kd.R_drewN | apply Kd.R_drew)); exact HO_526001.out) (Kd.R_base ho0) hb); have n2_ := Aside0.mk (Kd.R_lower (Kd.R_new' (Kd.R_new' ho0 (Kd.R_lt (by (with_reducible repeat (first | apply Kd.R_alloc | apply Kd.R_drewN | apply Kd.R_drew)); exact HO_512001.out))) (Kd.R_lt (by (with_reducible repeat (first | apply Kd.R_alloc | apply Kd.R_drewN | apply Kd.R_drew)); exact HO_526001.out))) (below_size (by repeat (first | (with_reducible first | exact HB.out | apply below_alloc | apply pw_below_drewN | apply below_drew1 | refine below_set ?_ GE511.out | refine below_set ?_ GE525.out) | exact HB.out)))); have n3_ := Aside0.mk (blk_below (g := gb511) (o := .cells #[.int .i64 t507, .slice Ao19 t508.length co19] 27 (0, 0)) (by (with_reducible repeat (first | refine blk_drewN ?_ _ | refine blk_drew ?_ | refine blk_alloc ?_ _)); exact BK511.out) hb); have n4_ := Aside0.mk (blk_below (g := gb525) (o := .cells #[.int .i64 t520, .slice Ao31 t521.length co31] 27 (0, 0)) (by (with_reducible repeat (first | refine blk_drewN ?_ _ | refine blk_drew ?_ | refine blk_alloc ?_ _)); exact BK525.out) hb); have n5_ := Aside0.mk (below_step (by repeat (first | (with_reducible first | exact HB.out | apply below_alloc | apply pw_below_drewN | apply below_drew1 | refine below_set ?_ GE511.out | refine below_set ?_ GE525.out) | exact HB.out)) hb); clear HO_512001; clear HO_526001; clear BK511; clear BK525; clear HB; have HO_512001 := n0_; have HO_526001 := n1_; have HO535 := n2_; have BK511 := n3_; have BK525 := n4_; have HB := n5_; clear n0_ n1_ n2_ n3_ n4_ n5_; (try clear hb); (try clear hb2); (try clear hk); (try clear hi); (try clear ho0)) | ((with_reducible refine gate_dst (N := 20) rfl ?_); (try (refine gate_guard (by rfl) ?_; dsimp only)); refine box_event ?hg (N := 20) ?hd (cs := #[.int .i64 0, .slice none 0 0]) (t := 27) ?hr ?_; (case hd => rfl); (case hg => rfl); (case hr => first | (go_simp; done) | (go_simp; rfl)); intro gb537 hg w73 hbox hb; have n0_ := Aside0.mk (Kd.R_below (by (with_reducible repeat (first | apply Kd.R_alloc | apply Kd.R_drewN | apply Kd.R_drew)); exact HO_512001.out) hb); have n1_ := Aside0.mk (Kd.R_below (by (with_reducible repeat (first | apply Kd.R_alloc | apply Kd.R_drewN | apply Kd.R_drew)); exact HO_526001.out) hb); have n2_ := Aside0.mk (Kd.R_below (by (with_reducible repeat (first | apply Kd.R_alloc | apply Kd.R_drewN | apply Kd.R_drew)); exact HO535.out) hb); have n3_ := Aside0.mk (blk_below (g := gb511) (o := .cells #[.int .i64 t507, .slice Ao19 t508.length co19] 27 (0, 0)) (by (with_reducible repeat (first | refine blk_drewN ?_ _ | refine blk_drew ?_ | refine blk_alloc ?_ _)); exact BK511.out) hb); have n4_ := Aside0.mk (blk_below (g := gb525) (o := .cells #[.int .i64 t520, .slice Ao31 t521.length co31] 27 (0, 0)) (by (with_reducible repeat (first | refine blk_drewN ?_ _ | refine blk_drew ?_ | refine blk_alloc ?_ _)); exact BK525.out) hb); have n5_ := Aside0.mk (below_step (by repeat (first | (with_reducible first | exact HB.out | apply below_alloc | apply pw_below_drewN | apply below_drew1 | refine below_set ?_ GE511.out | refine below_set ?_ GE525.out) | exact HB.out)) hb); have n6_ := Aside0.mk (hbox); have n7_ := Aside0.mk ((by rw [hg]; exact (below_size (by repeat (first | (with_reducible first | exact HB.out | apply below_alloc | apply pw_below_drewN | apply below_drew1 | refine below_set ?_ GE511.out | refine below_set ?_ GE525.out) | exact HB.out))) : w.heap.size ≤ gb537)); have n8_ := Aside0.mk ((by rw [hg]; exact (below_size (by repeat (first | (with_reducible first | exact HB.out | apply below_alloc | apply pw_below_drewN | apply below_drew1 | refine below_set ?_ GE511.out | refine below_set ?_ GE525.out) | exact HB.out))) : w.heap.size ≤ gb537)); have n9_ := Aside0.mk ((by rw [hg]; exact Nat.ne_of_lt (blk_lt (g := gb511) (o := .cells #[.int .i64 t507, .slice Ao19 t508.length co19] 27 (0, 0)) (by (with_reducible repeat (first | refine blk_drewN ?_ _ | refine blk_drew ?_ | refine blk_alloc ?_ _)); exact BK511.out)) : gb511 ≠ gb537)); have n10_ := Aside0.mk ((by rw [hg]; exact Nat.ne_of_gt (blk_lt (g := gb511) (o := .cells #[.int .i64 t507, .slice Ao19 t508.length co19] 27 (0, 0)) (by (with_reducible repeat (first | refine blk_drewN ?_ _ | refine blk_drew ?_ | refine blk_alloc ?_ _)); exact BK511.out)) : gb537 ≠ gb511)); have n11_ := Aside0.mk ((by rw [hg]; exact Nat.ne_of_lt (blk_lt (g := gb525) (o := .cells #[.int .i64 t520, .slice Ao31 t521.length co31] 27 (0, 0)) (by (with_reducible repeat (first | refine blk_drewN ?_ _ | refine blk_drew ?_ | refine blk_alloc ?_ _)); exact BK525.out)) : gb525 ≠ gb537)); have n12_ := Aside0.mk ((by rw [hg]; exact Nat.ne_of_gt (blk_lt (g := gb525) (o := .cells #[.int .i64 t520, .slice Ao31 t521.length co31] 27 (0, 0)) (by (with_reducible repeat (first | refine blk_drewN ?_ _ | refine blk_drew ?_ | refine blk_alloc ?_ _)); exact BK525.out)) : gb537 ≠ gb525)); clear HO_512001; clear HO_526001; clear HO535; clear BK511; clear BK525; clear HB; have HO_512001 := n0_; have HO_526001 := n1_; have HO535 := n2_; have BK511 := n3_; have BK525 := n4_; have HB := n5_; have BK537 := n6_; have GW537 := n7_; have GE537 := n8_; have NB511_537 := n9_; have NB537_511 := n10_; have NB525_537 := n11_; have NB537_525 := n12_; clear n0_ n1_ n2_ n3_ n4_ n5_ n6_ n7_ n8_ n9_ n10_ n11_ n12_; clear hb hbox hg; have hnb74 := NB537_511.out; have hnc74 := NB511_537.out; have hnb75 := NB537_525.out; have hnc75 := NB525_537.out; have hcz76_0 : w73.cell? ⟨gb537, 0, none⟩ = some (.int .i64 0) := (blk_cell BK537.out 0).trans rfl; have hcz76_1 : w73.cell? ⟨gb537, 1, none⟩ = some (.slice none 0 0) := (blk_cell BK537.out 1).trans rfl; have hfz76_0 := blk_frozen BK537.out 0; have hfz76_1 := blk_frozen BK537.out 1; obtain ⟨Ao77, co77, eo77⟩ := Kd.R_slice HO535.out; subst eo77) | ((with_reducible refine gate_callee (f := 36) rfl ?_); refine goesL_ (some 149) rfl rfl Try.func36 (by kernel_rfl) rfl #[.agg #[.int .i64 t532, .slice Ao77 t533.length co77]] rfl (by (try simp only [List.map_toArray, List.map_cons, List.map_nil]); first | done | rfl | (simp only [List.length_drop, List.length_take]; rfl) | (simp only [show ∀ (n_ : Nat) (b_ : Int), Int.tdiv (n_ : Int) b_ = (n_ : Int) / b_ from fun n_ b_ => Int.tdiv_eq_ediv_of_nonneg (Int.natCast_nonneg n_)]; rfl)) ?_; (with_reducible refine (impl_DiscrepancyOf.calls k3 t532 _ _ t533 t538 t539 t540 _ ?side1 ?side2 A68.out).mono ?_); (case side1 => refine (Kd.R_reads' (e := 2) (base := w.heap.size) (ok := fun k_ => ((True ∧ some k_ ≠ (.slice Ao19 t508.length co19 : Value).ownBlock) ∧ some k_ ≠ (.slice Ao31 t521.length co31 : Value).ownBlock)) (n := t533.length) (c := co77) ?_).2.2; exact (by (with_reducible repeat (first | apply Kd.R_alloc | apply Kd.R_drewN | apply Kd.R_drew)); exact (Kd.R_mono (Kd.R_far (p := ⟨gb537, 1, none⟩) (Kd.R_far (p := ⟨gb537, 0, none⟩) (Kd.R_types HO535.out BK537.out (by decide)) (fun _ hk => hk.2) (.int .i64 t532)) (fun _ hk => hk.2) (.slice Ao77 t533.length co77)) (fun _ h_ => h_.1)))); (case side2 => exact (Kd.R_reads' HO535.out).2.1); rintro e w78 ⟨rfl, hb⟩; refine ⟨_, rfl, ?_⟩; have n0_ := Aside0.mk (Kd.R_below (by (with_reducible repeat (first | apply Kd.R_alloc | apply Kd.R_drewN | apply Kd.R_drew)); exact (Kd.R_mono (Kd.R_far (p := ⟨gb537, 1, none⟩) (Kd.R_far (p := ⟨gb537, 0, none⟩) (Kd.R_types HO_512001.out BK537.out (by decide)) (fun _ hk => hk.2) (.int .i64 t532)) (fun _ hk => hk.2) (.slice Ao77 t533.length co77)) (fun _ h_ => h_.1))) hb); have n1_ := Aside0.mk (Kd.R_below (by (with_reducible repeat (first | apply Kd.R_alloc | apply Kd.R_drewN | apply Kd.R_drew)); exact (Kd.R_mono (Kd.R_far (p := ⟨gb537, 1, none⟩) (Kd.R_far (p := ⟨gb537, 0, none⟩) (Kd.R_types HO_526001.out BK537.out (by decide)) (fun _ hk => hk.2) (.int .i64 t532)) (fun _ hk => hk.2) (.slice Ao77 t533.length co77)) (fun _ h_ => h_.1))) hb); have n2_ := Aside0.mk (Kd.R_below (by (with_reducible repeat (first | apply Kd.R_alloc | apply Kd.R_drewN | apply Kd.R_drew)); exact (Kd.R_mono (Kd.R_far (p := ⟨gb537, 1, none⟩) (Kd.R_far (p := ⟨gb537, 0, none⟩) (Kd.R_types HO535.out BK537.out (by decide)) (fun _ hk => hk.2) (.int .i64 t532)) (fun _ hk => hk.2) (.slice Ao77 t533.length co77)) (fun _ h_ => h_.1))) hb); have n3_ := Aside0.mk (blk_below (g := gb511) (o := .cells #[.int .i64 t507, .slice Ao19 t508.length co19] 27 (0, 0)) (by (with_reducible repeat (first | refine blk_drewN ?_ _ | refine blk_drew ?_ | refine blk_alloc ?_ _)); refine blk_far ?_ NB511_537.out _; (with_reducible repeat (first | refine blk_drewN ?_ _ | refine blk_drew ?_ | refine blk_alloc ?_ _)); refine blk_far ?_ NB511_537.out _; (with_reducible repeat (first | refine blk_drewN ?_ _ | refine blk_drew ?_ | refine blk_alloc ?_ _)); exact BK511.out) hb); have n4_ := Aside0.mk (blk_below (g := gb525) (o := .cells #[.int .i64 t520, .slice Ao31 t521.length co31] 27 (0, 0)) (by (with_reducible repeat (first | refine blk_drewN ?_ _ | refine blk_drew ?_ | refine blk_alloc ?_ _)); refine blk_far ?_ NB525_537.out _; (with_reducible repeat (first | refine blk_drewN ?_ _ | refine blk_drew ?_ | refine blk_alloc ?_ _)); refine blk_far ?_ NB525_537.out _; (with_reducible repeat (first | refine blk_drewN ?_ _ | refine blk_drew ?_ | refine blk_alloc ?_ _)); exact BK525.out) hb); have n5_ := Aside0.mk (blk_below (g := gb537) (o := .cells #[.int .i64 t532, .slice Ao77 t533.length co77] 27 (0, 0)) (by (with_reducible repeat (first | refine blk_drewN ?_ _ | refine blk_drew ?_ | refine blk_alloc ?_ _)); refine blk_put (cs := #[.int .i64 t532, .slice none 0 0]) ?_ 1 _ rfl; (with_reducible repeat (first | refine blk_drewN ?_ _ | refine blk_drew ?_ | refine blk_alloc ?_ _)); refine blk_put (cs := #[.int .i64 0, .slice none 0 0]) ?_ 0 _ rfl; (with_reducible repeat (first | refine blk_drewN ?_ _ | refine blk_drew ?_ | refine blk_alloc ?_ _)); exact BK537.out) hb); have n6_ := Aside0.mk (below_step (by repeat (first | (with_reducible first | exact HB.out | apply below_alloc | apply pw_below_drewN | apply below_drew1 | refine below_set ?_ GE511.out | refine below_set ?_ GE525.out | refine below_set ?_ GE537.out) | exact HB.out)) hb); clear HO_512001; clear HO_526001; clear HO535; clear BK511; clear BK525; clear BK537; clear HB; have HO_512001 := n0_; have HO_526001 := n1_; have HO535 := n2_; have BK511 := n3_; have BK525 := n4_; have BK537 := n5_; have HB := n6_; clear n0_ n1_ n2_ n3_ n4_ n5_ n6_; (try clear hb); (try clear hb2); (try clear hk); (try clear hi)))
            (try simp only [Act.put, List.setIfInBounds_toArray, List.set_cons_zero, List.set_cons_succ])
            go_cut [163] (fun v163 wc => ∃ (kq : Nat) (x163_68 : Bool), v163 = .bool x163_68 ∧ Aside0 (laws_FnHereditary.j3 kq t512 (wrap64 ((ji11) - 1)) x19_3 t538 x163_68 t507 t508 = some r) ∧ Aside0 (kq ≤ k3) ∧ Aside0 (Kd.R (Kd.int .i64) 2 wc w.heap.size (fun k_ => some k_ ≠ ((.slice Ao31 t521.length co31) : Value).ownBlock ∧ some k_ ≠ ((.slice Ao77 t533.length co77) : Value).ownBlock) (.slice Ao19 t508.length co19) t508) ∧ Aside0 (Kd.R (Kd.int .i64) 2 wc w.heap.size (fun k_ => some k_ ≠ ((.slice Ao19 t508.length co19) : Value).ownBlock ∧ some k_ ≠ ((.slice Ao77 t533.length co77) : Value).ownBlock) (.slice Ao31 t521.length co31) t521) ∧ Aside0 (Kd.R (Kd.int .i64) 2 wc w.heap.size (fun k_ => some k_ ≠ ((.slice Ao19 t508.length co19) : Value).ownBlock ∧ some k_ ≠ ((.slice Ao31 t521.length co31) : Value).ownBlock) (.slice Ao77 t533.length co77) t533) ∧ Aside0 (wc.heap[gb511]? = some (.cells #[.int .i64 t507, (.slice Ao19 t508.length co19)] 27 (0, 0))) ∧ Aside0 (wc.heap[gb525]? = some (.cells #[.int .i64 t520, (.slice Ao31 t521.length co31)] 27 (0, 0))) ∧ Aside0 (wc.heap[gb537]? = some (.cells #[.int .i64 t532, (.slice Ao77 t533.length co77)] 27 (0, 0))) ∧ Aside0 (Below w.heap.size w wc))
            case first =>
             have H := HC69.out
             clear HC69
             by_cases c79 : t536 = true
             ·subst c79
              have H1 : (if t540 = true then (laws_FnHereditary.j3 k3 t512 (wrap64 ((ji11) - 1)) x19_3 t538 (decide (t538 > t512)) t507 t508) else (laws_FnHereditary.j3 k3 t512 (wrap64 ((ji11) - 1)) x19_3 t538 true t507 t508)) = some r := by rw [if_pos rfl] at H; exact H
              clear H
              have H := H1
              clear H1
              by_cases c80 : t540 = true
              ·subst c80
               have H1 : (laws_FnHereditary.j3 k3 t512 (wrap64 ((ji11) - 1)) x19_3 t538 (decide (t538 > t512)) t507 t508) = some r := by rw [if_pos rfl] at H; exact H
               clear H
               have H := H1
               clear H1
               have H' := Aside0.mk H
               clear H
               go_wp2
               go_meet
               case rel => exact ⟨_, (decide (t538 > t512)), (by first | rfl | (simp; done) | (simp [*]; done)), H', ⟨by have := HJ14.out; have := HJ59.out; have := HK3.out; first | omega | exact Nat.le_refl _⟩, ⟨by (with_reducible repeat (first | apply Kd.R_alloc | apply Kd.R_drewN | apply Kd.R_drew)); exact HO_512001.out⟩, ⟨by (with_reducible repeat (first | apply Kd.R_alloc | apply Kd.R_drewN | apply Kd.R_drew)); exact HO_526001.out⟩, ⟨by (with_reducible repeat (first | apply Kd.R_alloc | apply Kd.R_drewN | apply Kd.R_drew)); exact Kd.R_mono HO535.out (fun _ hk => ⟨hk.1.2, hk.2⟩)⟩, ⟨by (with_reducible repeat (first | refine blk_drewN ?_ _ | refine blk_drew ?_ | refine blk_alloc ?_ _)); exact BK511.out⟩, ⟨by (with_reducible repeat (first | refine blk_drewN ?_ _ | refine blk_drew ?_ | refine blk_alloc ?_ _)); exact BK525.out⟩, ⟨by (with_reducible repeat (first | refine blk_drewN ?_ _ | refine blk_drew ?_ | refine blk_alloc ?_ _)); exact BK537.out⟩, ⟨by repeat (first | (with_reducible first | exact HB.out | apply below_alloc | apply pw_below_drewN | apply below_drew1 | refine below_set ?_ GE511.out | refine below_set ?_ GE525.out | refine below_set ?_ GE537.out) | exact HB.out)⟩⟩
              ·replace c80 := Bool.eq_false_iff.mpr c80
               subst c80
               have H1 : (laws_FnHereditary.j3 k3 t512 (wrap64 ((ji11) - 1)) x19_3 t538 true t507 t508) = some r := by rw [if_neg (show ¬ (false = true) by decide)] at H; exact H
               clear H
               have H := H1
               clear H1
               have H' := Aside0.mk H
               clear H
               go_wp2
               go_meet
               case rel => exact ⟨_, (true), (by first | rfl | (simp; done) | (simp [*]; done)), H', ⟨by have := HJ14.out; have := HJ59.out; have := HK3.out; first | omega | exact Nat.le_refl _⟩, ⟨by (with_reducible repeat (first | apply Kd.R_alloc | apply Kd.R_drewN | apply Kd.R_drew)); exact HO_512001.out⟩, ⟨by (with_reducible repeat (first | apply Kd.R_alloc | apply Kd.R_drewN | apply Kd.R_drew)); exact HO_526001.out⟩, ⟨by (with_reducible repeat (first | apply Kd.R_alloc | apply Kd.R_drewN | apply Kd.R_drew)); exact Kd.R_mono HO535.out (fun _ hk => ⟨hk.1.2, hk.2⟩)⟩, ⟨by (with_reducible repeat (first | refine blk_drewN ?_ _ | refine blk_drew ?_ | refine blk_alloc ?_ _)); exact BK511.out⟩, ⟨by (with_reducible repeat (first | refine blk_drewN ?_ _ | refine blk_drew ?_ | refine blk_alloc ?_ _)); exact BK525.out⟩, ⟨by (with_reducible repeat (first | refine blk_drewN ?_ _ | refine blk_drew ?_ | refine blk_alloc ?_ _)); exact BK537.out⟩, ⟨by repeat (first | (with_reducible first | exact HB.out | apply below_alloc | apply pw_below_drewN | apply below_drew1 | refine below_set ?_ GE511.out | refine below_set ?_ GE525.out | refine below_set ?_ GE537.out) | exact HB.out)⟩⟩
             ·replace c79 := Bool.eq_false_iff.mpr c79
              subst c79
              have H1 : (laws_FnHereditary.j3 k3 t512 (wrap64 ((ji11) - 1)) x19_3 t538 true t507 t508) = some r := by rw [if_neg (show ¬ (false = true) by decide)] at H; exact H
              clear H
              have H := H1
              clear H1
              have H' := Aside0.mk H
              clear H
              go_wp2
              go_meet
              case rel => exact ⟨_, (true), (by first | rfl | (simp; done) | (simp [*]; done)), H', ⟨by have := HJ14.out; have := HJ59.out; have := HK3.out; first | omega | exact Nat.le_refl _⟩, ⟨by (with_reducible repeat (first | apply Kd.R_alloc | apply Kd.R_drewN | apply Kd.R_drew)); exact HO_512001.out⟩, ⟨by (with_reducible repeat (first | apply Kd.R_alloc | apply Kd.R_drewN | apply Kd.R_drew)); exact HO_526001.out⟩, ⟨by (with_reducible repeat (first | apply Kd.R_alloc | apply Kd.R_drewN | apply Kd.R_drew)); exact Kd.R_mono HO535.out (fun _ hk => ⟨hk.1.2, hk.2⟩)⟩, ⟨by (with_reducible repeat (first | refine blk_drewN ?_ _ | refine blk_drew ?_ | refine blk_alloc ?_ _)); exact BK511.out⟩, ⟨by (with_reducible repeat (first | refine blk_drewN ?_ _ | refine blk_drew ?_ | refine blk_alloc ?_ _)); exact BK525.out⟩, ⟨by (with_reducible repeat (first | refine blk_drewN ?_ _ | refine blk_drew ?_ | refine blk_alloc ?_ _)); exact BK537.out⟩, ⟨by repeat (first | (with_reducible first | exact HB.out | apply below_alloc | apply pw_below_drewN | apply below_drew1 | refine below_set ?_ GE511.out | refine below_set ?_ GE525.out | refine below_set ?_ GE537.out) | exact HB.out)⟩⟩
            case rest =>
             clear HC69
             try clear p2
             try clear c3
             try clear c4
             try clear c5
             try clear c6
             try clear p6
             try clear c7
             try clear c8
             try clear c36
             try clear c46
             try clear c59
             try clear c61
             try clear c61b0
             try clear c62
             try clear c62b0
             try clear c63
             try clear c63b0
             try clear c63b1
             try clear c64
             try clear c64b0
             try clear c64b1
             try clear p64
             try clear c65
             try clear c66
             try clear c66b0
             try clear c70
             try clear c74
             try clear c75
             try clear c79
             try clear c80
             try clear hcz71_0
             try clear hcz71_1
             try clear hcz76_0
             try clear hcz76_1
             try clear hfz71_0
             try clear hfz71_1
             try clear hfz76_0
             try clear hfz76_1
             try clear p2
             try clear p6
             try clear p64
             obtain ⟨kq, x163_68, rfl, HA, HJ68, HO_512001, HO_526001, HO_538001, BK511, BK525, BK537, HB⟩ := hcut
             cases kq with
             | zero => exact absurd HA.out (by simp [laws_FnHereditary.j3])
             | succ kj68 =>
              have H := HA.out
              clear HA
              simp only [laws_FnHereditary.j3] at H
              by_cases c81 : x163_68 = true
              ·subst c81
               have H1 : (some false) = some r := by rw [if_pos rfl] at H; exact H
               clear H
               have H := H1
               clear H1
               obtain rfl := Option.some.inj H
               go_wp2
               go_ret
               exact ⟨by first | rfl | (simp [errW_none, errW_some] <;> rfl) | (simp only [← hji9, ← hji11]; first | rfl | (simp [errW_none, errW_some] <;> rfl)) | (simp [*, errW_none, errW_some] <;> rfl), by repeat (first | (with_reducible first | exact HB.out | apply below_alloc | apply pw_below_drewN | apply below_drew1 | refine below_set ?_ GE511.out | refine below_set ?_ GE525.out | refine below_set ?_ GE537.out) | exact HB.out)⟩
              ·replace c81 := Bool.eq_false_iff.mpr c81
               subst c81
               have H1 : (if t538 = t512 then (some true) else (laws_FnHereditary.l0 kj68 t512 (wrap64 ((ji11) - 1)) (wrap64 (x19_3 + 1)) t507 t508)) = some r := by rw [if_neg (show ¬ (false = true) by decide)] at H; exact H
               clear H
               have H := H1
               clear H1
               by_cases c82 : t538 = t512
               ·rw [if_pos c82] at H
                have c82b0 : (t538 == t512) = true := beq_iff_eq.mpr c82
                have c82b1 : (t538 != t512) = false := bne_eq_false_iff_eq.mpr c82
                clear c82
                obtain rfl := Option.some.inj H
                go_wp2
                go_ret
                exact ⟨by first | rfl | (simp [errW_none, errW_some] <;> rfl) | (simp only [← hji9, ← hji11]; first | rfl | (simp [errW_none, errW_some] <;> rfl)) | (simp [*, errW_none, errW_some] <;> rfl), by repeat (first | (with_reducible first | exact HB.out | apply below_alloc | apply pw_below_drewN | apply below_drew1 | refine below_set ?_ GE511.out | refine below_set ?_ GE525.out | refine below_set ?_ GE537.out) | exact HB.out)⟩
               ·rw [if_neg c82] at H
                have c82b0 : (t538 == t512) = false := beq_eq_false_iff_ne.mpr c82
                have c82b1 : (t538 != t512) = true := bne_iff_ne.mpr c82
                have H' := Aside0.mk H
                clear H
                go_wp2
                go_roundg kj68
                case measure => have := HJ14.out; have := HJ59.out; have := HK3.out; have := HJ68.out; omega
                case rel => exact ⟨(wrap64 (x19_3 + 1)), (by first | rfl | (simp; done) | (simp [*]; done)), H', ⟨by have := HJ14.out; have := HJ59.out; have := HK3.out; have := HJ68.out; omega⟩, ⟨by (with_reducible repeat (first | apply Kd.R_alloc | apply Kd.R_drewN | apply Kd.R_drew)); exact Kd.R_mono HO_512001.out (fun _ hk => hk.1)⟩, ⟨by (with_reducible repeat (first | apply Kd.R_alloc | apply Kd.R_drewN | apply Kd.R_drew)); exact Kd.R_mono HO_526001.out (fun _ hk => hk.1)⟩, ⟨by (with_reducible repeat (first | refine blk_drewN ?_ _ | refine blk_drew ?_ | refine blk_alloc ?_ _)); exact BK511.out⟩, ⟨by (with_reducible repeat (first | refine blk_drewN ?_ _ | refine blk_drew ?_ | refine blk_alloc ?_ _)); exact BK525.out⟩, ⟨by repeat (first | (with_reducible first | exact HB.out | apply below_alloc | apply pw_below_drewN | apply below_drew1 | refine below_set ?_ GE511.out | refine below_set ?_ GE525.out | refine below_set ?_ GE537.out) | exact HB.out)⟩⟩
           ·rw [if_neg c66] at H
            exact absurd (H.trans (congrArg some hr_)) (by simp)
  ·rw [if_neg c10] at H
   exact absurd H (by simp)
def laws_FnHereditary.Pure : Prop := ∀ (l0 : List Int) (l1 : List Int), l0.length ≤ maxLen → l0.length * 1 ≤ 140737488351232 → (∀ x ∈ l0, (Lit.int .u8 x).wf = true) → l1.length ≤ maxLen → l1.length * 1 ≤ 140737488351232 → (∀ x ∈ l1, (Lit.int .u8 x).wf = true) → ∃ k, laws_FnHereditary.f k l0 l1 = some true
theorem laws_FnHereditary.walk (P : laws_FnHereditary.Pure) (a0 : Option Addr) (len0 cap0 : Nat) (z0 : List Int) (a1 : Option Addr) (len1 cap1 : Nat) (z1 : List Int) (w : World) (w0 : (a0 = none ∧ len0 = 0 ∧ cap0 = 0 ∧ z0 = []) ∨ ∃ x, a0 = some x ∧ len0 ≤ cap0 ∧ cap0 ≤ maxLen ∧ z0.length = cap0 ∧ (∀ i, i < z0.length → w.cell? (x.add i) = some (.int .u8 (z0.getD i 0))) ∧ ∀ n ∈ z0, (Lit.int .u8 n).wf = true) (y0 : len0 * 1 ≤ 140737488351232) (w1 : (a1 = none ∧ len1 = 0 ∧ cap1 = 0 ∧ z1 = []) ∨ ∃ x, a1 = some x ∧ len1 ≤ cap1 ∧ cap1 ≤ maxLen ∧ z1.length = cap1 ∧ (∀ i, i < z1.length → w.cell? (x.add i) = some (.int .u8 (z1.getD i 0))) ∧ ∀ n ∈ z1, (Lit.int .u8 n).wf = true) (y1 : len1 * 1 ≤ 140737488351232) :
  Calls Try.prog 10 #[.slice a0 len0 cap0, .slice a1 len1 cap1] w fun e w' => e = .returned (.bool true) ∧ Below w.heap.size w w' := by
 obtain ⟨l0, rfl, hr0, hm0, hw0, hc0⟩ := ReadsInt.ofRowC w0
 obtain ⟨l1, rfl, hr1, hm1, hw1, hc1⟩ := ReadsInt.ofRowC w1
 obtain ⟨k, h⟩ := P l0 l1 hm0 y0 hw0 hm1 y1 hw1
 refine (laws_FnHereditary.calls k _ _ l0 _ _ l1 true rfl w (Kd.C_of_reads (d := (0 : Int)) (h1 := fun _ => rfl) hr0) hc0 (Kd.C_of_reads (d := (0 : Int)) (h1 := fun _ => rfl) hr1) hc1 h).mono ?_
 rintro e w' ⟨rfl, hd⟩
 exact ⟨rfl, hd⟩
end Go.Proofs.Ytplgfchiaapmfaa.Q
namespace Go.Proofs.Ytplgfchiaapmfaa.Com
open Go.RowKit Go.Proofs.YtplgfchiaapmfaaW.PrintWords
theorem w64 {x : Int} (h1 : -9223372036854775808 ≤ x) (h2 : x ≤ 9223372036854775807) : wrap64 x = x := by
 unfold wrap64
 omega
theorem lt_or_ge (a b : Int) : a < b ∨ b ≤ a := by omega
theorem ev_of {α : Type} {g : Nat → Option α} {r : α} (h : Ev g r) : ∃ k, g k = some r := h.rounds
theorem ev_bind' {α β : Type} {o : Option α} {f : Nat → α → Option β} {a : α} {r : β} (h : o = some a) (k : Ev (fun n => f n a) r) : Ev (fun n => o.bind (f n)) r := by
 subst h
 exact k
theorem tmod_nn {a b : Int} (h : 0 ≤ a) : Int.tmod a b = a % b := Int.tmod_eq_emod_of_nonneg h
end Go.Proofs.Ytplgfchiaapmfaa.Com
namespace Go.Proofs.Ytplgfchiaapmfaa.Com
set_option linter.unusedSimpArgs false
set_option linter.unusedVariables false
open Go.RowKit Go.Proofs.YtplgfchiaapmfaaW.PrintWords
theorem ev_fold {α σ ρ : Type} (xs : List α) (g : Nat → σ → Nat → Option ρ) (F : List α → σ → ρ) (Inv : Nat → σ → Prop)
  (h0 : ∀ s, Inv xs.length s → Ev (g xs.length s) (F [] s))
  (hs : ∀ m (h : m < xs.length) s, Inv m s → (∀ s', Inv (m + 1) s' → Ev (g (m + 1) s') (F (xs.drop (m + 1)) s')) → Ev (g m s) (F (xs[m] :: xs.drop (m + 1)) s)) :
  ∀ m s, m ≤ xs.length → Inv m s → Ev (g m s) (F (xs.drop m) s) := by
 have key : ∀ d m s, m + d = xs.length → Inv m s → Ev (g m s) (F (xs.drop m) s) := by
  intro d
  induction d with
  | zero =>
   intro m s e hi
   obtain rfl : m = xs.length := by omega
   rw [List.drop_length]
   exact h0 s hi
  | succ d ih =>
   intro m s e hi
   have h : m < xs.length := by omega
   rw [List.drop_eq_getElem_cons h]
   exact hs m h s hi (fun s' hi' => ih (m + 1) s' (by omega) hi')
 intro m s hm hi
 exact key (xs.length - m) m s (by omega) hi
theorem ev_count {σ ρ : Type} (n : Nat) (g : Nat → σ → Nat → Option ρ) (r : ρ) (Inv : Nat → σ → Prop) (h0 : ∀ s, Inv n s → Ev (g n s) r)
  (hs : ∀ m s, m < n → Inv m s → ∃ s', Inv (m + 1) s' ∧ (Ev (g (m + 1) s') r → Ev (g m s) r)) : ∀ m s, m ≤ n → Inv m s → Ev (g m s) r := by
 have key : ∀ d m s, m + d = n → Inv m s → Ev (g m s) r := by
  intro d
  induction d with
  | zero =>
   intro m s e hi
   obtain rfl : m = n := by omega
   exact h0 s hi
  | succ d ih =>
   intro m s e hi
   obtain ⟨s', hi', k⟩ := hs m s (by omega) hi
   exact k (ih (m + 1) s' (by omega) hi')
 intro m s hm hi
 exact key (n - m) m s (by omega) hi
theorem rd_nat {xs : List Int} {m : Nat} (h : m < xs.length) : rd xs (m : Int) = xs[m] := by
 unfold rd
 rw [Int.toNat_natCast, List.getD_eq_getElem?_getD, List.getElem?_eq_getElem h]
 rfl
theorem w_succ {m : Nat} (h : m < 9223372036854775807) : wrap64 ((m : Int) + 1) = ((m + 1 : Nat) : Int) := by
 rw [w64 (by omega) (by omega)]
 omega
end Go.Proofs.Ytplgfchiaapmfaa.Com
namespace Go.Proofs.Ytplgfchiaapmfaa.Com
set_option linter.unusedSimpArgs false
set_option linter.unusedVariables false
open Go.RowKit Go.Proofs.YtplgfchiaapmfaaW.PrintWords Go.Proofs.Ytplgfchiaapmfaa.Q
theorem within_tells (x a b : Int) : impl_within.f x a b = some (decide (a ≤ x ∧ x ≤ b)) := by
 unfold impl_within.f
 split <;> simp [*]
end Go.Proofs.Ytplgfchiaapmfaa.Com
namespace Go.Proofs.Ytplgfchiaapmfaa.Com
set_option linter.unusedSimpArgs false
set_option linter.unusedVariables false
open Go.RowKit Go.Proofs.YtplgfchiaapmfaaW.PrintWords Go.Proofs.YtplgfchiaapmfaaW.PrintMore
theorem wraps_i64 (n : Int) (h₀ : 0 ≤ n) (h₁ : n < 2 ^ 63) : IntKind.i64.wrap n = n := by rw [IntKind.wrap_i64]; omega
theorem and_nat (a b : Nat) (ha : a < 4096) (hb : b < 4096) : Go.bits .and .i64 (a : Int) (b : Int) = ((a &&& b : Nat) : Int) :=
 (Go.bits_nat .i64 63 (by decide) wraps_i64 a b (by omega) (by omega)).1
theorem or_nat (a b : Nat) (ha : a < 4096) (hb : b < 4096) : Go.bits .or .i64 (a : Int) (b : Int) = ((a ||| b : Nat) : Int) :=
 (Go.bits_nat .i64 63 (by decide) wraps_i64 a b (by omega) (by omega)).2
theorem uw (n : Int) (h : 0 ≤ n ∧ n ≤ 4096) : IntKind.u64.wrap n = n := by
 simp [IntKind.wrap, IntKind.bits, IntKind.signed]
 omega
theorem shl_one (p : Nat) (h : p ≤ 12) : shl .i64 1 (p : Int) = 2 ^ p := by
 have : ∀ q : Fin 13, shl .i64 1 (q.val : Int) = 2 ^ q.val := by decide +kernel
 exact this ⟨p, by omega⟩
theorem shl_bit (b p : Nat) (hb : b ≤ 1) (h : p ≤ 12) : shl .i64 (b : Int) (p : Int) = ((b * 2 ^ p : Nat) : Int) := by
 have : ∀ (c : Fin 2) (q : Fin 13), shl .i64 (c.val : Int) (q.val : Int) = ((c.val * 2 ^ q.val : Nat) : Int) := by decide +kernel
 exact this ⟨b, by omega⟩ ⟨p, by omega⟩
theorem pow_bd {p : Nat} (h : p ≤ 12) : 1 ≤ 2 ^ p ∧ 2 ^ p ≤ 4096 := by
 have : ∀ q : Fin 13, 1 ≤ 2 ^ q.val ∧ 2 ^ q.val ≤ 4096 := by decide
 exact this ⟨p, by omega⟩
def bitAt (s p : Nat) : Nat := s / 2 ^ p % 2
theorem bitAt_le (s p : Nat) : bitAt s p ≤ 1 := by unfold bitAt; omega
theorem bit_tells (s p : Nat) (hs : s < 4096) (hp : p ≤ 12) : Go.bits .and .i64 (shr .i64 (s : Int) (p : Int)) 1 = ((bitAt s p : Nat) : Int) := by
 have e : shr .i64 (s : Int) (p : Int) = ((s / 2 ^ p : Nat) : Int) := by
  unfold shr
  rw [Int.toNat_natCast, Nat.min_eq_left (by have : IntKind.i64.bits = 64 := rfl; omega)]
  exact_mod_cast rfl
 have hlt : s / 2 ^ p < 4096 := Nat.lt_of_le_of_lt (Nat.div_le_self _ _) hs
 rw [e]
 have := and_nat (s / 2 ^ p) 1 hlt (by omega)
 rw [Nat.and_one_is_mod] at this
 exact this
def popf : Nat → Nat → Nat
 | 0, _ => 0
 | f + 1, n => n % 2 + popf f (n / 2)
def pop (n : Nat) : Nat := popf 12 n
theorem popf_le (f : Nat) : ∀ n, popf f n ≤ f := by
 induction f with
 | zero => intro n; simp [popf]
 | succ f ih => intro n; unfold popf; have := ih (n / 2); omega
theorem pop_le (n : Nat) : pop n ≤ 12 := popf_le 12 n
end Go.Proofs.Ytplgfchiaapmfaa.Com
namespace Go.Proofs.Ytplgfchiaapmfaa.Com
set_option linter.unusedSimpArgs false
set_option linter.unusedVariables false
open Go.RowKit Go.Proofs.YtplgfchiaapmfaaW.PrintWords Go.Proofs.YtplgfchiaapmfaaW.PrintMore Go.Proofs.Ytplgfchiaapmfaa.Q
def full (p : Int) : Int := wrap64 (shl .i64 1 p - 1)
theorem full_nat (p : Nat) (h : p ≤ 12) : full (p : Int) = ((2 ^ p - 1 : Nat) : Int) := by
 have : ∀ q : Fin 13, full (q.val : Int) = ((2 ^ q.val - 1 : Nat) : Int) := by decide +kernel
 exact this ⟨p, by omega⟩
def validSys (p : Int) (l : List Int) : Bool := decide (0 ≤ p ∧ p ≤ 12) && decide ((l.length : Int) ≤ 12) && l.all fun x => decide (0 ≤ x ∧ x ≤ full p)
theorem implValidSys_tells (p : Int) (l : List Int) : impl_ValidSystem.f p l = some (validSys p l) := by
 unfold impl_ValidSystem.f validSys impl_areWithin.f full
 rw [within_tells]
 simp only [Option.bind_some, decide_eq_true_eq]
 by_cases h1 : 0 ≤ p ∧ p ≤ 12
 ·rw [if_pos h1, decide_eq_true h1, if_pos h1.1]
  by_cases h2 : (l.length : Int) ≤ 12
  ·rw [if_pos h2, decide_eq_true h2]
   rfl
  ·rw [if_neg h2, decide_eq_false h2]
   rfl
 ·rw [if_neg h1, decide_eq_false h1]
  rfl
end Go.Proofs.Ytplgfchiaapmfaa.Com
namespace Go.Proofs.Ytplgfchiaapmfaa.Com
set_option linter.unusedSimpArgs false
set_option linter.unusedVariables false
open Go.RowKit Go.Proofs.YtplgfchiaapmfaaW.PrintWords Go.Proofs.YtplgfchiaapmfaaW.PrintMore Go.Proofs.Ytplgfchiaapmfaa.Q
theorem many_tells (n : Nat) (h : n < 4096) : impl_many.f (n : Int) = some ((pop n : Nat) : Int) := by
 have : ∀ a b : Fin 64, impl_many.f ((64 * a.val + b.val : Nat) : Int) = some ((pop (64 * a.val + b.val) : Nat) : Int) := by decide +kernel
 have q := this ⟨n / 64, by omega⟩ ⟨n % 64, by omega⟩
 simp only at q
 rwa [show 64 * (n / 64) + n % 64 = n by omega] at q
end Go.Proofs.Ytplgfchiaapmfaa.Com
namespace Go.Proofs.Ytplgfchiaapmfaa.Com
set_option linter.unusedSimpArgs false
set_option linter.unusedVariables false
set_option linter.unusedSectionVars false
open Go.RowKit Go.Proofs.YtplgfchiaapmfaaW.PrintWords Go.Proofs.YtplgfchiaapmfaaW.PrintMore Go.Proofs.Ytplgfchiaapmfaa.Q
def imb (s r : Nat) : Int := 2 * (pop (s &&& r) : Int) - (pop s : Int)
theorem imb_bd (s r : Nat) : -12 ≤ imb s r ∧ imb s r ≤ 24 := by
 unfold imb
 have := pop_le s
 have := pop_le (s &&& r)
 omega
theorem and_lt {s : Nat} (r : Nat) (h : s < 4096) : s &&& r < 4096 := Nat.lt_of_le_of_lt Nat.and_le_left h
def imbs (l : List Int) (r : Nat) : List Int := l.map fun x => imb x.toNat r
theorem full_lt {p : Nat} (h : p ≤ 12) {x : Int} (hx : 0 ≤ x ∧ x ≤ full p) : x.toNat < 2 ^ p ∧ x.toNat < 4096 := by
 rw [full_nat p h] at hx
 have := pow_bd h
 omega
section
variable {l : List Int} (hl : l.length ≤ 12) (hs : ∀ x ∈ l, 0 ≤ x ∧ x.toNat < 4096)
include hl hs
theorem implImbs_ev (p : Int) (r : Nat) (hr : r < 4096) : Ev (fun k => impl_System_imbalances.f k p l (r : Int)) (imbs l r) := by
 unfold impl_System_imbalances.f
 have gen := ev_fold l (fun m s k => impl_System_imbalances.l0 k (r : Int) s l (l.length : Int) (m : Int)) (fun d s => s ++ imbs d r) (fun m s => s.length = m) ?_ ?_ 0 [] (by omega) rfl
 ·exact gen
 ·intro s hm
  refine Ev.step (fun k => by rw [impl_System_imbalances.l0]) ?_
  simp only [if_neg (show ¬ (l.length : Int) < (l.length : Int) by omega), imbs, List.map_nil, List.append_nil]
  exact Ev.now _
 ·intro m hm s hlen ih
  obtain ⟨x0, x1⟩ := hs l[m] (List.getElem_mem hm)
  refine Ev.step (fun k => by rw [impl_System_imbalances.l0]) ?_
  simp only [if_pos (show (m : Int) < (l.length : Int) by omega), if_pos (show 0 ≤ (m : Int) by omega), rd_nat hm, w_succ (m := m) (by omega), if_pos (show s.length < 17592186044416 by omega)]
  obtain ⟨n, hn⟩ : ∃ n : Nat, l[m] = (n : Int) := ⟨l[m].toNat, by omega⟩
  have hn' : n < 4096 := by rw [hn, Int.toNat_natCast] at x1; exact x1
  have := pop_le n
  have := pop_le (n &&& r)
  rw [hn, and_nat n r hn' hr, many_tells _ (and_lt r hn'), many_tells n hn']
  simp only [Option.bind_some]
  rw [w64 (x := 2 * ((pop (n &&& r) : Nat) : Int)) (by omega) (by omega), w64 (by omega) (by omega)]
  have e : s ++ imbs ((n : Int) :: l.drop (m + 1)) r = (s ++ [2 * ((pop (n &&& r) : Nat) : Int) - ((pop n : Nat) : Int)]) ++ imbs (l.drop (m + 1)) r := by
   simp [imbs, imb]
  rw [e]
  exact ih _ (by simp [hlen])
end
end Go.Proofs.Ytplgfchiaapmfaa.Com
namespace Go.Proofs.Ytplgfchiaapmfaa.Com
set_option linter.unusedSimpArgs false
set_option linter.unusedVariables false
open Go.RowKit Go.Proofs.YtplgfchiaapmfaaW.PrintWords Go.Proofs.YtplgfchiaapmfaaW.PrintMore Go.Proofs.Ytplgfchiaapmfaa.Q
def degAt (l : List Int) (p : Int) (s : Int) : Int := l.foldl (fun s x => wrap64 (s + Go.bits .and .i64 (shr .i64 x p) 1)) s
def degs (l : List Int) (n : Nat) : Int := (List.range n).foldl (fun s (p : Nat) => mx s (degAt l (p : Int) 0)) 0
theorem degs_succ (l : List Int) (n : Nat) : degs l (n + 1) = mx (degs l n) (degAt l (n : Int) 0) := by
 unfold degs
 rw [List.range_succ, List.foldl_append]
 rfl
end Go.Proofs.Ytplgfchiaapmfaa.Com
namespace Go.Proofs.Ytplgfchiaapmfaa.Com
set_option linter.unusedSimpArgs false
set_option linter.unusedVariables false
set_option linter.unusedSectionVars false
open Go.RowKit Go.Proofs.YtplgfchiaapmfaaW.PrintWords Go.Proofs.YtplgfchiaapmfaaW.PrintMore Go.Proofs.Ytplgfchiaapmfaa.Q
def gr (l : List Int) : Int := l.foldl (fun s x => mx (mx s x) (-x)) 0
theorem gr_bd (B : Int) (hB : 0 ≤ B) (l : List Int) (h : ∀ x ∈ l, -B ≤ x ∧ x ≤ B) : 0 ≤ gr l ∧ gr l ≤ B := by
 have key : ∀ (l : List Int) (s : Int), 0 ≤ s ∧ s ≤ B → (∀ x ∈ l, -B ≤ x ∧ x ≤ B) → 0 ≤ l.foldl (fun s x => mx (mx s x) (-x)) s ∧ l.foldl (fun s x => mx (mx s x) (-x)) s ≤ B := by
  intro l
  induction l with
  | nil => intro s hs _; exact hs
  | cons x r ih =>
   intro s hs h
   have := h x List.mem_cons_self
   rw [List.foldl_cons]
   refine ih _ ?_ (fun y hy => h y (List.mem_cons_of_mem _ hy))
   unfold mx
   split <;> split <;> omega
 exact key l 0 (by omega) h
theorem greatest_ev (l : List Int) (hx : l.length ≤ 1048576) (hb : ∀ x ∈ l, -9223372036854775807 ≤ x ∧ x ≤ 9223372036854775807) : Ev (fun k => impl_greatest.f k l) (gr l) := by
 unfold impl_greatest.f
 have gen := ev_fold l (fun m s k => impl_greatest.l0 k s l (l.length : Int) (m : Int)) (fun r s => r.foldl (fun s x => mx (mx s x) (-x)) s) (fun m s => True) ?_ ?_ 0 0 (by omega) trivial
 ·simpa [gr] using gen
 ·intro s hs
  refine Ev.step (fun k => by rw [impl_greatest.l0]) ?_
  simp only [if_neg (show ¬ (l.length : Int) < (l.length : Int) by omega)]
  exact Ev.now _
 ·intro m h s hs ih
  have b := hb l[m] (List.getElem_mem h)
  refine Ev.step (fun k => by rw [impl_greatest.l0]) ?_
  simp only [if_pos (show (m : Int) < (l.length : Int) by omega), if_pos (show 0 ≤ (m : Int) by omega), rd_nat h, w_succ (m := m) (by omega)]
  rw [w64 (x := -l[m]) (by omega) (by omega), List.foldl_cons]
  exact ih _ trivial
end Go.Proofs.Ytplgfchiaapmfaa.Com
namespace Go.Proofs.Ytplgfchiaapmfaa.Com
set_option linter.unusedSimpArgs false
set_option linter.unusedVariables false
set_option linter.unusedSectionVars false
open Go.RowKit Go.Proofs.YtplgfchiaapmfaaW.PrintWords Go.Proofs.YtplgfchiaapmfaaW.PrintMore Go.Proofs.Ytplgfchiaapmfaa.Q
def stepD (f : Nat → Int) (s : Int × Int) (r : Nat) : Int × Int := if s.1 < 0 then (f r, (r : Int)) else if f r < s.1 then (f r, (r : Int)) else s
def minD (f : Nat → Int) (ok : Nat → Bool) (n : Nat) : Int × Int := ((List.range n).filter ok).foldl (stepD f) (-1, 0)
theorem minD_succ (f : Nat → Int) (ok : Nat → Bool) (n : Nat) : minD f ok (n + 1) = if ok n then stepD f (minD f ok n) n else minD f ok n := by
 unfold minD
 rw [List.range_succ, List.filter_append, List.foldl_append]
 cases h : ok n <;> simp [h]
theorem minD_congr {f g : Nat → Int} {ok ok' : Nat → Bool} {n : Nat} (h : ∀ r, r < n → ok r = ok' r ∧ f r = g r) : minD f ok n = minD g ok' n := by
 induction n with
 | zero => rfl
 | succ n ih =>
  rw [minD_succ, minD_succ, ih (fun r hr => h r (by omega))]
  obtain ⟨e1, e2⟩ := h n (by omega)
  rw [e1]
  unfold stepD
  rw [e2]
def most (l : List Int) (pts r : Nat) : Int := gr (l.map fun x => imb (x.toNat &&& pts) r)
section
variable {l : List Int} (hl : l.length ≤ 12) (hs : ∀ x ∈ l, 0 ≤ x ∧ x.toNat < 4096)
include hl hs
theorem most_bd (pts r : Nat) : 0 ≤ most l pts r ∧ most l pts r ≤ 24 :=
 gr_bd 24 (by omega) _ (fun y hy => by
  obtain ⟨x, _, rfl⟩ := List.mem_map.1 hy
  have := imb_bd (x.toNat &&& pts) r
  omega)
theorem implDisc_ev (p : Nat) (hp : p ≤ 12) : Ev (fun k => impl_System_discrepancy.f k (p : Int) l) (minD (fun r => gr (imbs l r)) (fun _ => true) (2 ^ p)) := by
 have hpw := pow_bd hp
 unfold impl_System_discrepancy.f
 simp only [if_pos (show 0 ≤ (p : Int) by omega), shl_one p hp]
 rw [show (2 : Int) ^ p = ((2 ^ p : Nat) : Int) by simp]
 have gen := ev_count (2 ^ p) (fun m (s : Int × Int) k => impl_System_discrepancy.l0 k s.2 s.1 ((2 ^ p : Nat) : Int) (m : Int) (p : Int) l) (minD (fun r => gr (imbs l r)) (fun _ => true) (2 ^ p)) (fun m s => s = minD (fun r => gr (imbs l r)) (fun _ => true) m) ?_ ?_ 0 (-1, 0) (by omega) rfl
 ·exact gen
 ·rintro s rfl
  refine Ev.step (fun k => by rw [impl_System_discrepancy.l0]) ?_
  simp only [if_neg (show ¬ ((2 ^ p : Nat) : Int) < ((2 ^ p : Nat) : Int) by omega)]
  exact Ev.now _
 ·rintro m s hm rfl
  refine ⟨_, rfl, fun ih => ?_⟩
  refine Ev.step (fun k => by rw [impl_System_discrepancy.l0]) ?_
  simp only [if_pos (show (m : Int) < ((2 ^ p : Nat) : Int) by omega), w_succ (m := m) (by omega)]
  rw [minD_succ] at ih
  simp only [if_true, stepD] at ih
  refine Ev.bind (implImbs_ev hl hs _ m (by omega)) (Ev.bind (greatest_ev _ (by simp [imbs]; omega) (fun y hy => by
   obtain ⟨x, _, rfl⟩ := List.mem_map.1 hy
   have := imb_bd x.toNat m
   omega)) ?_)
  generalize minD (fun r => gr (imbs l r)) (fun _ => true) m = s at ih ⊢
  by_cases c1 : s.1 < 0
  ·simp only [if_pos c1] at ih ⊢
   exact ih
  ·simp only [if_neg c1] at ih ⊢
   by_cases c2 : gr (imbs l m) < s.1
   ·simp only [if_pos c2] at ih ⊢
    exact ih
   ·simp only [if_neg c2] at ih ⊢
    exact ih
end
theorem mask_full {p x : Nat} (h : x < 2 ^ p) : x &&& (2 ^ p - 1) = x := by
 rw [Nat.and_two_pow_sub_one_eq_mod, Nat.mod_eq_of_lt h]
end Go.Proofs.Ytplgfchiaapmfaa.Com
namespace Go.Proofs.Ytplgfchiaapmfaa.Com
set_option linter.unusedSimpArgs false
set_option linter.unusedVariables false
set_option linter.unusedSectionVars false
open Go.RowKit Go.Proofs.YtplgfchiaapmfaaW.PrintWords Go.Proofs.YtplgfchiaapmfaaW.PrintMore Go.Proofs.Ytplgfchiaapmfaa.Q
theorem popf_zero (f : Nat) : popf f 0 = 0 := by
 induction f with
 | zero => rfl
 | succ f ih => unfold popf; simp [ih]
theorem popf_more (d : Nat) : ∀ f n, n < 2 ^ f → popf (f + d) n = popf f n := by
 intro f
 induction f with
 | zero =>
  intro n h
  have : n = 0 := by simpa using h
  subst this
  rw [popf_zero, popf_zero]
 | succ f ih =>
  intro n h
  rw [show f + 1 + d = (f + d) + 1 by omega, popf, popf, ih (n / 2) (by rw [Nat.pow_succ] at h; omega)]
theorem pop_small {p n : Nat} (hp : p ≤ 12) (h : n < 2 ^ p) : pop n = popf p n := by
 have := popf_more (12 - p) p n h
 rw [show p + (12 - p) = 12 by omega] at this
 exact this
end Go.Proofs.Ytplgfchiaapmfaa.Com
namespace Go.Proofs.Ytplgfchiaapmfaa.Com
set_option linter.unusedSimpArgs false
set_option linter.unusedVariables false
set_option linter.unusedSectionVars false
open Go.RowKit Go.Proofs.YtplgfchiaapmfaaW.PrintWords Go.Proofs.YtplgfchiaapmfaaW.PrintMore Go.Proofs.Ytplgfchiaapmfaa.Q
def rst (pts s : Nat) : Nat → Int × Nat
 | 0 => (0, 0)
 | i + 1 => if bitAt pts i = 0 then rst pts s i else (Go.bits .or .i64 (rst pts s i).1 (shl .i64 ((bitAt s i : Nat) : Int) (((rst pts s i).2 : Nat) : Int)), (rst pts s i).2 + 1)
theorem rst_le (pts s i : Nat) : (rst pts s i).2 ≤ i := by
 induction i with
 | zero => exact Nat.le_refl _
 | succ i ih =>
  unfold rst
  split
  ·omega
  ·show (rst pts s i).2 + 1 ≤ i + 1
   omega
def rsts (l : List Int) (pts p : Nat) : List Int := l.map fun x => (rst pts x.toNat p).1
section
variable {l : List Int} (hl : l.length ≤ 12) (hs : ∀ x ∈ l, 0 ≤ x ∧ x.toNat < 4096) {pts p : Nat} (hp : p ≤ 12) (hpts : pts < 4096)
include hl hs hp hpts
theorem implRst_ev : Ev (fun k => impl_System_restricted.f k (p : Int) l (pts : Int)) (((pop pts : Nat) : Int), rsts l pts p) := by
 unfold impl_System_restricted.f
 refine ev_bind' (many_tells pts hpts) ?_
 generalize ((pop pts : Nat) : Int) = q
 have gen := ev_fold l (fun m s k => impl_System_restricted.l0 k (pts : Int) l (l.length : Int) (m : Int) (p : Int) l q s) (fun d s => (q, s ++ rsts d pts p)) (fun m s => s.length = m) ?_ ?_ 0 [] (by omega) rfl
 ·exact gen
 ·intro s hm
  refine Ev.step (fun k => by rw [impl_System_restricted.l0]) ?_
  simp only [if_neg (show ¬ (l.length : Int) < (l.length : Int) by omega), rsts, List.map_nil, List.append_nil]
  exact Ev.now _
 ·intro m hm s hlen ih
  obtain ⟨x0, x1⟩ := hs l[m] (List.getElem_mem hm)
  refine Ev.step (fun k => by rw [impl_System_restricted.l0]) ?_
  simp only [if_pos (show (m : Int) < (l.length : Int) by omega), if_pos (show 0 ≤ (m : Int) by omega), rd_nat hm]
  obtain ⟨n, hn⟩ : ∃ n : Nat, l[m] = (n : Int) := ⟨l[m].toNat, by omega⟩
  have hn' : n < 4096 := by rw [hn, Int.toNat_natCast] at x1; exact x1
  rw [hn]
  have gen := ev_count p (fun i (st : Int × Nat) k => impl_System_restricted.l1 k (pts : Int) (n : Int) st.1 (st.2 : Int) l (l.length : Int) (m : Int) (p : Int) (i : Int) (p : Int) l q s) (q, s ++ rsts ((n : Int) :: l.drop (m + 1)) pts p) (fun i st => st = rst pts n i) ?_ ?_ 0 (0, 0) (by omega) rfl
  ·exact gen
  ·rintro st rfl
   refine Ev.step (fun k => by rw [impl_System_restricted.l1]) ?_
   simp only [if_neg (show ¬ (p : Int) < (p : Int) by omega), if_pos (show s.length < 17592186044416 by omega), w_succ (m := m) (by omega)]
   have e : s ++ rsts ((n : Int) :: l.drop (m + 1)) pts p = (s ++ [(rst pts n p).1]) ++ rsts (l.drop (m + 1)) pts p := by
    simp [rsts]
   rw [e]
   exact ih _ (by simp [hlen])
  ·rintro i st hi rfl
   refine ⟨_, rfl, fun ih => ?_⟩
   have hle := rst_le pts n i
   refine Ev.step (fun k => by rw [impl_System_restricted.l1]) ?_
   simp only [if_pos (show (i : Int) < (p : Int) by omega), if_pos (show 0 ≤ (i : Int) by omega), bit_tells pts i hpts (by omega), bit_tells n i hn' (by omega), w_succ (m := i) (by omega), if_pos (show 0 ≤ (((rst pts n i).2 : Nat) : Int) by omega), w_succ (m := (rst pts n i).2) (by omega)]
   have hb := bitAt_le pts i
   rw [rst] at ih
   by_cases c : bitAt pts i = 0
   ·simp only [if_pos c] at ih
    simp only [if_neg (show ¬ ((bitAt pts i : Nat) : Int) = 1 by omega)]
    exact ih
   ·simp only [if_neg c] at ih
    simp only [if_pos (show ((bitAt pts i : Nat) : Int) = 1 by omega)]
    exact ih
end
end Go.Proofs.Ytplgfchiaapmfaa.Com
namespace Go.Proofs.Ytplgfchiaapmfaa.Com
set_option linter.unusedSimpArgs false
set_option linter.unusedVariables false
set_option linter.unusedSectionVars false
open Go.RowKit Go.Proofs.YtplgfchiaapmfaaW.PrintWords Go.Proofs.YtplgfchiaapmfaaW.PrintMore Go.Proofs.Ytplgfchiaapmfaa.Q
def ext : Nat → Nat → Nat → Nat
 | 0, _, _ => 0
 | f + 1, m, s => if m % 2 = 0 then ext f (m / 2) (s / 2) else s % 2 + 2 * ext f (m / 2) (s / 2)
def dep : Nat → Nat → Nat → Nat
 | 0, _, _ => 0
 | f + 1, m, t => if m % 2 = 0 then 2 * dep f (m / 2) t else t % 2 + 2 * dep f (m / 2) (t / 2)
theorem ext_lt (f : Nat) : ∀ m s, ext f m s < 2 ^ popf f m := by
 induction f with
 | zero => intro m s; simp [ext, popf]
 | succ f ih =>
  intro m s
  unfold ext popf
  have := ih (m / 2) (s / 2)
  split
  next h => rw [h, Nat.zero_add]; exact this
  next h =>
   rw [show m % 2 = 1 by omega, Nat.pow_add]
   omega
theorem ext_lt' (f m s : Nat) : ext f m s < 2 ^ f := Nat.lt_of_lt_of_le (ext_lt f m s) (Nat.pow_le_pow_right (by omega) (popf_le f m))
theorem and_mod (a b : Nat) : (a &&& b) % 2 = (a % 2) * (b % 2) := by
 have := Nat.and_mod_two_pow (a := a) (b := b) (n := 1)
 rw [show (2 : Nat) ^ 1 = 2 from rfl] at this
 rw [this]
 rcases (show a % 2 = 0 ∨ a % 2 = 1 by omega) with h | h <;> rcases (show b % 2 = 0 ∨ b % 2 = 1 by omega) with h' | h' <;> rw [h, h'] <;> rfl
theorem pop_ext (f : Nat) : ∀ m s r, popf f (ext f m s &&& ext f m r) = popf f ((s &&& m) &&& r) := by
 induction f with
 | zero => intro m s r; rfl
 | succ f ih =>
  intro m s r
  have e : popf (f + 1) ((s &&& m) &&& r) = (s % 2) * (m % 2) * (r % 2) + popf f (((s / 2) &&& (m / 2)) &&& (r / 2)) := by
   rw [popf, and_mod, and_mod, Nat.and_div_two, Nat.and_div_two]
  rw [e]
  unfold ext
  split
  next h =>
   rw [h, Nat.mul_zero, Nat.zero_mul, Nat.zero_add, ← ih, popf_more 1 f _ (Nat.lt_of_le_of_lt Nat.and_le_left (ext_lt' f _ _))]
  next h =>
   rw [show m % 2 = 1 by omega, Nat.mul_one, popf, and_mod, Nat.and_div_two, ← ih,
    show (s % 2 + 2 * ext f (m / 2) (s / 2)) % 2 = s % 2 by omega, show (r % 2 + 2 * ext f (m / 2) (r / 2)) % 2 = r % 2 by omega,
    show (s % 2 + 2 * ext f (m / 2) (s / 2)) / 2 = ext f (m / 2) (s / 2) by omega, show (r % 2 + 2 * ext f (m / 2) (r / 2)) / 2 = ext f (m / 2) (r / 2) by omega]
theorem pop_ext_one (f m s : Nat) : popf f (ext f m s) = popf f (s &&& m) := by
 have := pop_ext f m s s
 rw [Nat.and_self] at this
 rw [this, Nat.and_comm s m, Nat.and_assoc, Nat.and_self]
theorem ext_dep (f : Nat) : ∀ m t, t < 2 ^ popf f m → ext f m (dep f m t) = t := by
 induction f with
 | zero => intro m t h; simp [popf] at h; subst h; rfl
 | succ f ih =>
  intro m t h
  unfold popf at h
  unfold ext dep
  split
  next c =>
   rw [show 2 * dep f (m / 2) t / 2 = dep f (m / 2) t by omega]
   exact ih _ _ (by rwa [c, Nat.zero_add] at h)
  next c =>
   rw [show m % 2 = 1 by omega, Nat.pow_add] at h
   rw [show (t % 2 + 2 * dep f (m / 2) (t / 2)) / 2 = dep f (m / 2) (t / 2) by omega, ih _ _ (by omega)]
   omega
theorem dep_sub (f : Nat) : ∀ m t, m < 2 ^ f → dep f m t &&& m = dep f m t := by
 induction f with
 | zero => intro m t h; simp [dep]
 | succ f ih =>
  intro m t h
  have hm : m / 2 < 2 ^ f := by rw [Nat.pow_succ] at h; omega
  have two : ∀ x y : Nat, x % 2 = y % 2 → x / 2 = y / 2 → x = y := fun x y _ _ => by omega
  unfold dep
  split
  next c =>
   apply two
   ·rw [and_mod, c, Nat.mul_zero]; omega
   ·rw [Nat.and_div_two, show 2 * dep f (m / 2) t / 2 = dep f (m / 2) t by omega, ih _ _ hm]
  next c =>
   apply two
   ·rw [and_mod, show m % 2 = 1 by omega, Nat.mul_one]
   ·rw [Nat.and_div_two, show (t % 2 + 2 * dep f (m / 2) (t / 2)) / 2 = dep f (m / 2) (t / 2) by omega, ih _ _ hm]
theorem bitAt_half (m i : Nat) : bitAt m (i + 1) = bitAt (m / 2) i := by
 unfold bitAt
 rw [Nat.pow_succ, Nat.mul_comm, ← Nat.div_div_eq_div_mul]
theorem popf_up (i : Nat) : ∀ m, popf (i + 1) m = popf i m + bitAt m i := by
 induction i with
 | zero => intro m; simp [popf, bitAt]
 | succ i ih =>
  intro m
  rw [popf, ih, bitAt_half, popf, Nat.add_assoc]
theorem ext_up (i : Nat) : ∀ m s, ext (i + 1) m s = ext i m s + bitAt m i * bitAt s i * 2 ^ popf i m := by
 induction i with
 | zero =>
  intro m s
  simp only [ext, popf, bitAt, Nat.pow_zero, Nat.div_one, Nat.mul_one, Nat.mul_zero, Nat.add_zero, Nat.zero_add]
  split
  next h => rw [h, Nat.zero_mul]
  next h => rw [show m % 2 = 1 by omega, Nat.one_mul]
 | succ i ih =>
  intro m s
  rw [ext, ih, bitAt_half, bitAt_half]
  rw [show ext (i + 1) m s = if m % 2 = 0 then ext i (m / 2) (s / 2) else s % 2 + 2 * ext i (m / 2) (s / 2) from rfl, popf]
  split
  next h => rw [h, Nat.zero_add]
  next h =>
   rw [show m % 2 = 1 by omega, Nat.pow_add, Nat.pow_one, Nat.mul_add, Nat.mul_left_comm _ 2]
   omega
theorem rst_ext (pts s : Nat) (i : Nat) (hi : i ≤ 12) : rst pts s i = (((ext i pts s : Nat) : Int), popf i pts) := by
 induction i with
 | zero => rfl
 | succ i ih =>
  have ih := ih (by omega)
  unfold rst
  rw [ih, popf_up, ext_up]
  have hb := bitAt_le pts i
  split
  next h => simp [h]
  next h =>
   rw [show bitAt pts i = 1 by omega, Nat.one_mul]
   have hc := popf_le i pts
   have hx := ext_lt i pts s
   have hs := bitAt_le s i
   have hp := pow_bd (p := popf i pts) (by omega)
   have hp' := pow_bd (p := i) (by omega)
   have hp1 : 2 ^ i ≤ 2048 := Nat.le_trans (Nat.pow_le_pow_right (by omega) (show i ≤ 11 by omega)) (by decide)
   have hp2 : 2 ^ popf i pts ≤ 2048 := Nat.le_trans (Nat.pow_le_pow_right (by omega) (show popf i pts ≤ 11 by omega)) (by decide)
   have hm : bitAt s i * 2 ^ popf i pts ≤ 2048 := Nat.le_trans (Nat.mul_le_mul hs hp2) (by omega)
   simp only
   rw [shl_bit (bitAt s i) (popf i pts) hs (by omega), or_nat _ _ (by omega) (by omega), Nat.or_comm, Nat.mul_comm (bitAt s i), ← Nat.two_pow_add_eq_or_of_lt hx]
   rw [Nat.add_comm]
theorem minD_char {f : Nat → Int} (hf : ∀ r, 0 ≤ f r) (ok : Nat → Bool) (n : Nat) :
  ((∀ r, r < n → ok r = false) ∧ (minD f ok n).1 = -1) ∨ ((∃ r, r < n ∧ ok r = true ∧ (minD f ok n).1 = f r) ∧ ∀ r, r < n → ok r = true → (minD f ok n).1 ≤ f r) := by
 induction n with
 | zero => exact .inl ⟨fun r h => absurd h (by omega), rfl⟩
 | succ n ih =>
  rw [minD_succ]
  cases h : ok n with
  | false =>
   simp only [Bool.false_eq_true, if_false]
   rcases ih with ⟨a, b⟩ | ⟨⟨r, r0, r1, r2⟩, b⟩
   ·refine .inl ⟨fun r hr => ?_, b⟩
    by_cases q : r = n
    ·subst q; exact h
    ·exact a r (by omega)
   ·refine .inr ⟨⟨r, by omega, r1, r2⟩, fun r hr ho => ?_⟩
    by_cases q : r = n
    ·subst q; rw [h] at ho; exact absurd ho (by simp)
    ·exact b r (by omega) ho
  | true =>
   simp only [if_true]
   unfold stepD
   have hn := hf n
   rcases ih with ⟨a, b⟩ | ⟨⟨r, r0, r1, r2⟩, b⟩
   ·rw [if_pos (by omega)]
    refine .inr ⟨⟨n, by omega, h, rfl⟩, fun r hr ho => ?_⟩
    by_cases q : r = n
    ·subst q; exact Int.le_refl _
    ·rw [a r (by omega)] at ho; exact absurd ho (by simp)
   ·have := hf r
    rw [if_neg (by omega)]
    split
    next c =>
     refine .inr ⟨⟨n, by omega, h, rfl⟩, fun x hx ho => ?_⟩
     by_cases q : x = n
     ·subst q; exact Int.le_refl _
     ·have := b x (by omega) ho; simp only; omega
    next c =>
     refine .inr ⟨⟨r, by omega, r1, r2⟩, fun x hx ho => ?_⟩
     by_cases q : x = n
     ·subst q; omega
     ·exact b x (by omega) ho
theorem minD_eq {f g : Nat → Int} (hf : ∀ r, 0 ≤ f r) (hg : ∀ r, 0 ≤ g r) {ok ok' : Nat → Bool} {n m : Nat}
  (h1 : ∀ r, r < n → ok r = true → ∃ q, q < m ∧ ok' q = true ∧ g q = f r) (h2 : ∀ q, q < m → ok' q = true → ∃ r, r < n ∧ ok r = true ∧ f r = g q) : (minD f ok n).1 = (minD g ok' m).1 := by
 rcases minD_char hf ok n with ⟨a, b⟩ | ⟨⟨r, r0, r1, r2⟩, b⟩ <;> rcases minD_char hg ok' m with ⟨a', b'⟩ | ⟨⟨q, q0, q1, q2⟩, b'⟩
 ·rw [b, b']
 ·obtain ⟨r, r0, r1, _⟩ := h2 q q0 q1
  rw [a r r0] at r1; exact absurd r1 (by simp)
 ·obtain ⟨q, q0, q1, _⟩ := h1 r r0 r1
  rw [a' q q0] at q1; exact absurd q1 (by simp)
 ·obtain ⟨x, x0, x1, x2⟩ := h1 r r0 r1
  obtain ⟨y, y0, y1, y2⟩ := h2 q q0 q1
  have := b' x x0 x1
  have := b y y0 y1
  omega
end Go.Proofs.Ytplgfchiaapmfaa.Com
namespace Go.Proofs.Ytplgfchiaapmfaa.Com
set_option linter.unusedSimpArgs false
set_option linter.unusedVariables false
set_option linter.unusedSectionVars false
open Go.RowKit Go.Proofs.YtplgfchiaapmfaaW.PrintWords Go.Proofs.YtplgfchiaapmfaaW.PrintMore Go.Proofs.Ytplgfchiaapmfaa.Q
def her (l : List Int) (pts : Nat) : Int := (minD (most l pts) (fun r => decide (r &&& pts = r)) (pts + 1)).1
def herTo (l : List Int) : Nat → Int
 | 0 => 0
 | n + 1 => mx (herTo l n) (her l n)
section
variable {l : List Int} (hl : l.length ≤ 12) (hs : ∀ x ∈ l, 0 ≤ x ∧ x.toNat < 4096)
include hl hs
theorem her_ext {p pts : Nat} (hp : p ≤ 12) (hl' : ∀ x ∈ l, x.toNat < 2 ^ p) (hpts : pts < 2 ^ p) :
  (minD (fun r => gr (imbs (rsts l pts p) r)) (fun _ => true) (2 ^ pop pts)).1 = her l pts := by
 have pp := pop_small hp hpts
 have key : ∀ r, r &&& pts = r → imbs (rsts l pts p) (ext p pts r) = l.map fun x => imb (x.toNat &&& pts) r := by
  intro r hr
  unfold imbs rsts
  rw [List.map_map]
  apply List.map_congr_left
  intro x hx
  have h1 : (x.toNat &&& pts) < 2 ^ p := Nat.lt_of_le_of_lt Nat.and_le_left (hl' x hx)
  have h2 : (x.toNat &&& pts) &&& r < 2 ^ p := Nat.lt_of_le_of_lt Nat.and_le_left h1
  have h3 := ext_lt' p pts x.toNat
  have h4 : ext p pts x.toNat &&& ext p pts r < 2 ^ p := Nat.lt_of_le_of_lt Nat.and_le_left h3
  show imb ((rst pts x.toNat p).1).toNat (ext p pts r) = _
  rw [rst_ext pts x.toNat p hp, Int.toNat_natCast]
  unfold imb
  rw [pop_small hp h1, pop_small hp h2, pop_small hp h3, pop_small hp h4, pop_ext, pop_ext_one]
 have nn : ∀ r, 0 ≤ gr (imbs (rsts l pts p) r) := fun r => (gr_bd 24 (by omega) _ (fun y hy => by
  obtain ⟨x, _, rfl⟩ := List.mem_map.1 hy
  have := imb_bd x.toNat r
  omega)).1
 unfold her
 refine minD_eq nn (fun r => (most_bd hl hs pts r).1) ?_ ?_
 ·intro t ht _
  have hd := dep_sub p pts t hpts
  have he := ext_dep p pts t (by rw [← pp]; exact ht)
  refine ⟨dep p pts t, ?_, decide_eq_true hd, ?_⟩
  ·have : dep p pts t ≤ pts := by rw [← hd]; exact Nat.and_le_right
   omega
  ·unfold most
   rw [← key _ hd, he]
 ·intro r hr ho
  have ho := of_decide_eq_true ho
  refine ⟨ext p pts r, by rw [pp]; exact ext_lt p pts r, rfl, ?_⟩
  unfold most
  rw [← key _ ho]
theorem implHer_ev {p : Nat} (hp : p ≤ 12) (hl' : ∀ x ∈ l, x.toNat < 2 ^ p) : Ev (fun k => impl_HereditaryOf.l0 k 0 ((2 ^ p : Nat) : Int) 0 (p : Int) l) (herTo l (2 ^ p), true) := by
 have pb := pow_bd hp
 have gen := ev_count (2 ^ p) (fun m (s : Int) k => impl_HereditaryOf.l0 k s ((2 ^ p : Nat) : Int) (m : Int) (p : Int) l) (herTo l (2 ^ p), true) (fun m s => s = herTo l m) ?_ ?_ 0 0 (by omega) rfl
 ·exact gen
 ·rintro s rfl
  refine Ev.step (fun k => by rw [impl_HereditaryOf.l0]) ?_
  simp only [if_neg (show ¬ ((2 ^ p : Nat) : Int) < ((2 ^ p : Nat) : Int) by omega)]
  exact Ev.now _
 ·rintro m s hm rfl
  refine ⟨_, rfl, fun ih => ?_⟩
  rw [herTo, ← her_ext hl hs hp hl' hm] at ih
  refine Ev.step (fun k => by rw [impl_HereditaryOf.l0]) ?_
  simp only [if_pos (show (m : Int) < ((2 ^ p : Nat) : Int) by omega)]
  have hr : ∀ x ∈ rsts l m p, 0 ≤ x ∧ x.toNat < 4096 := by
   intro y hy
   obtain ⟨x, _, rfl⟩ := List.mem_map.1 hy
   have := ext_lt' p m x.toNat
   rw [rst_ext m x.toNat p hp, Int.toNat_natCast]
   omega
  refine Ev.bind (implRst_ev hl hs hp (by omega)) (Ev.bind (implDisc_ev (l := rsts l m p) (by simp [rsts]; omega) hr (pop m) (pop_le m)) ?_)
  simp only [w_succ (m := m) (by omega)]
  exact ih
end
theorem uni_ev {p : Int} {l : List Int} {r : Int × Bool} (h : Ev (fun k => impl_HereditaryOf.f k p l) r) : Ev (fun k => impl_IsUnimodular.f k p l) (r.2 && decide (r.1 ≤ 1)) := by
 unfold impl_IsUnimodular.f
 refine Ev.bind h ?_
 cases e : r.2 with
 | true =>
  simp only [if_true, Bool.true_and]
  exact Ev.now _
 | false =>
  simp only [Bool.false_eq_true, if_false, Bool.false_and]
  exact Ev.now _
end Go.Proofs.Ytplgfchiaapmfaa.Com
namespace Go.Proofs.Ytplgfchiaapmfaa.Com
set_option linter.unusedSimpArgs false
set_option linter.unusedVariables false
set_option linter.unusedSectionVars false
open Go.RowKit Go.Proofs.YtplgfchiaapmfaaW.PrintWords Go.Proofs.YtplgfchiaapmfaaW.PrintMore Go.Proofs.Ytplgfchiaapmfaa.Q
def altF : Nat → Nat → Bool → Nat
 | 0, _, _ => 0
 | f + 1, m, b => if m % 2 = 1 then (if b then 1 else 0) + 2 * altF f (m / 2) (!b) else 2 * altF f (m / 2) b
def alt (m : Nat) : Nat := altF 6 m true
theorem alt_facts : ∀ m : Fin 64, alt m.val &&& m.val = alt m.val ∧ -1 ≤ imb m.val (alt m.val) ∧ imb m.val (alt m.val) ≤ 1 := by decide +kernel
theorem alt_three : ∀ m s : Fin 64, -3 ≤ imb (s.val &&& m.val) (alt m.val) ∧ imb (s.val &&& m.val) (alt m.val) ≤ 3 := by decide +kernel
theorem no_common : ∀ a b : Fin 64, (∀ p : Fin 6, bitAt a.val p.val = 0 ∨ bitAt b.val p.val = 0) → a.val &&& b.val = 0 := by decide +kernel
theorem no_bit : ∀ a : Fin 64, (∀ p : Fin 6, bitAt a.val p.val = 0) → a.val = 0 := by decide +kernel
theorem sub_zero {s t m : Nat} (h1 : t &&& m = t) (h2 : s &&& m = 0) : s &&& t = 0 := by
 have : s &&& t = s &&& (t &&& m) := by rw [h1]
 rw [this, Nat.and_comm t m, ← Nat.and_assoc, h2, Nat.zero_and]
def disj : List Int → Prop
 | [] => True
 | a :: t => (∀ x ∈ t, a.toNat &&& x.toNat = 0) ∧ disj t
def colr (pts : Nat) : List Int → Nat
 | [] => 0
 | a :: t => alt (a.toNat &&& pts) ||| colr pts t
theorem alt_sub {m : Nat} (h : m < 64) : alt m &&& m = alt m := (alt_facts ⟨m, h⟩).1
theorem colr_sub (pts : Nat) (hp : pts < 64) (l : List Int) : colr pts l &&& pts = colr pts l := by
 induction l with
 | nil => simp [colr]
 | cons a t ih =>
  have hm : (a.toNat &&& pts) < 64 := Nat.lt_of_le_of_lt Nat.and_le_right hp
  have e := alt_sub hm
  have kk : (a.toNat &&& pts) &&& pts = a.toNat &&& pts := by rw [Nat.and_assoc, Nat.and_self]
  have e2 : alt (a.toNat &&& pts) &&& pts = alt (a.toNat &&& pts) := by
   generalize a.toNat &&& pts = m at e kk
   have e3 : alt m &&& pts = (alt m &&& m) &&& pts := by rw [e]
   rw [e3, Nat.and_assoc, kk, e]
  unfold colr
  rw [Nat.and_or_distrib_right, ih, e2]
theorem colr_zero (pts s : Nat) (hp : pts < 64) (l : List Int) (h : ∀ x ∈ l, s &&& x.toNat = 0) : s &&& colr pts l = 0 := by
 induction l with
 | nil => simp [colr]
 | cons a t ih =>
  have hm : (a.toNat &&& pts) < 64 := Nat.lt_of_le_of_lt Nat.and_le_right hp
  unfold colr
  rw [Nat.and_or_distrib_left, ih (fun x hx => h x (List.mem_cons_of_mem _ hx)), sub_zero (alt_sub hm) (by rw [← Nat.and_assoc, h a List.mem_cons_self, Nat.zero_and])]
  rfl
theorem colr_own (pts : Nat) (hp : pts < 64) (l : List Int) (hd : disj l) : ∀ x ∈ l, (x.toNat &&& pts) &&& colr pts l = alt (x.toNat &&& pts) := by
 induction l with
 | nil => intro x hx; simp at hx
 | cons a t ih =>
  intro x hx
  have hm : (a.toNat &&& pts) < 64 := Nat.lt_of_le_of_lt Nat.and_le_right hp
  unfold colr
  rw [Nat.and_or_distrib_left]
  rcases List.mem_cons.1 hx with rfl | hx
  ·rw [colr_zero pts _ hp t (fun y hy => by rw [Nat.and_assoc, Nat.and_comm pts y.toNat, ← Nat.and_assoc, hd.1 y hy, Nat.zero_and]), Nat.and_comm, alt_sub hm, Nat.or_zero]
  ·rw [ih hd.2 x hx, sub_zero (alt_sub hm) (by
    have := hd.1 x hx
    rw [Nat.and_assoc, Nat.and_comm pts (a.toNat &&& pts), ← Nat.and_assoc, ← Nat.and_assoc, Nat.and_comm x.toNat a.toNat, this, Nat.zero_and, Nat.zero_and]), Nat.zero_or]
section
variable {l : List Int} (hl : l.length ≤ 12) (hs : ∀ x ∈ l, 0 ≤ x ∧ x.toNat < 4096)
include hl hs
theorem her_le (pts r : Nat) (hr : r &&& pts = r) : her l pts ≤ most l pts r := by
 have hlt : r < pts + 1 := by
  have : r &&& pts ≤ pts := Nat.and_le_right
  omega
 unfold her
 rcases minD_char (fun r => (most_bd hl hs pts r).1) (fun r => decide (r &&& pts = r)) (pts + 1) with ⟨h, _⟩ | ⟨_, h⟩
 ·have := h r hlt
  rw [decide_eq_true hr] at this
  cases this
 ·exact h r hlt (decide_eq_true hr)
theorem her_nn (pts : Nat) : 0 ≤ her l pts := by
 unfold her
 rcases minD_char (fun r => (most_bd hl hs pts r).1) (fun r => decide (r &&& pts = r)) (pts + 1) with ⟨h, _⟩ | ⟨⟨r, _, _, e⟩, _⟩
 ·have := h 0 (by omega)
  rw [decide_eq_true (Nat.zero_and pts)] at this
  cases this
 ·rw [e]
  exact (most_bd hl hs pts r).1
theorem most_le (pts r : Nat) (B : Int) (hB : 0 ≤ B) (h : ∀ x ∈ l, -B ≤ imb (x.toNat &&& pts) r ∧ imb (x.toNat &&& pts) r ≤ B) : most l pts r ≤ B :=
 (gr_bd B hB _ (fun y hy => by
  obtain ⟨x, hx, rfl⟩ := List.mem_map.1 hy
  exact h x hx)).2
theorem her_three (pts : Nat) (hp : pts < 64) (h6 : ∀ x ∈ l, x.toNat < 64) : her l pts ≤ 3 :=
 Int.le_trans (her_le hl hs pts (alt pts) (alt_sub hp)) (most_le hl hs pts _ 3 (by omega) (fun x hx => alt_three ⟨pts, hp⟩ ⟨x.toNat, h6 x hx⟩))
theorem her_one (pts : Nat) (hp : pts < 64) (hd : disj l) : her l pts ≤ 1 :=
 Int.le_trans (her_le hl hs pts (colr pts l) (colr_sub pts hp l)) (most_le hl hs pts _ 1 (by omega) (fun x hx => by
  have hm : (x.toNat &&& pts) < 64 := Nat.lt_of_le_of_lt Nat.and_le_right hp
  have f := alt_facts ⟨x.toNat &&& pts, hm⟩
  have e := colr_own pts hp l hd x hx
  have : imb (x.toNat &&& pts) (colr pts l) = imb (x.toNat &&& pts) (alt (x.toNat &&& pts)) := by
   unfold imb
   rw [e, Nat.and_comm (x.toNat &&& pts) (alt _), alt_sub hm]
  rw [this]
  exact f.2))
theorem her_zero (pts : Nat) (h0 : ∀ x ∈ l, x.toNat = 0) : her l pts ≤ 0 :=
 Int.le_trans (her_le hl hs pts 0 (Nat.zero_and pts)) (most_le hl hs pts _ 0 (by omega) (fun x hx => by
  rw [h0 x hx, Nat.zero_and]
  decide))
theorem her_to (n m : Nat) (h : m < n) : her l m ≤ herTo l n := by
 induction n with
 | zero => omega
 | succ n ih =>
  unfold herTo mx
  by_cases e : m = n
  ·subst e; split <;> omega
  ·have := ih (by omega)
   split <;> omega
theorem herTo_bd (B : Int) (hB : 0 ≤ B) (n : Nat) (h : ∀ m, m < n → her l m ≤ B) : herTo l n ≤ B := by
 induction n with
 | zero => exact hB
 | succ n ih =>
  have h1 := ih (fun m hm => h m (by omega))
  have h2 := h n (by omega)
  unfold herTo mx
  split <;> omega
theorem herTo_nn (n : Nat) : 0 ≤ herTo l n := by
 induction n with
 | zero => exact Int.le_refl _
 | succ n ih => unfold herTo mx; split <;> omega
theorem herTo_at (n : Nat) : ∃ m, m < n + 1 ∧ her l m = herTo l (n + 1) := by
 induction n with
 | zero =>
  refine ⟨0, by omega, ?_⟩
  have := her_nn hl hs 0
  unfold herTo herTo mx
  split <;> omega
 | succ n ih =>
  obtain ⟨m, hm, e⟩ := ih
  rw [herTo]
  unfold mx
  by_cases c : herTo l (n + 1) < her l (n + 1)
  ·exact ⟨n + 1, by omega, by rw [if_pos c]⟩
  ·exact ⟨m, by omega, by rw [if_neg c, e]⟩
end
def sumB : List Int → Nat → Int
 | [], _ => 0
 | x :: r, p => (bitAt x.toNat p : Int) + sumB r p
theorem sumB_nn (l : List Int) (p : Nat) : 0 ≤ sumB l p := by
 induction l with
 | nil => exact Int.le_refl _
 | cons x r ih => unfold sumB; omega
theorem sumB_le (l : List Int) (p : Nat) : sumB l p ≤ l.length := by
 induction l with
 | nil => exact Int.le_refl _
 | cons x r ih => have := bitAt_le x.toNat p; unfold sumB; rw [List.length_cons]; omega
theorem sumB_mem (l : List Int) (p : Nat) : ∀ x ∈ l, (bitAt x.toNat p : Int) ≤ sumB l p := by
 induction l with
 | nil => intro x hx; simp at hx
 | cons y r ih =>
  intro x hx
  have := sumB_nn r p
  unfold sumB
  rcases List.mem_cons.1 hx with rfl | hx
  ·omega
  ·have := ih x hx; omega
theorem degAt_sum (p : Nat) (hp : p ≤ 12) (l : List Int) : ∀ s : Int, 0 ≤ s → s + (l.length : Int) ≤ 1000 → (∀ x ∈ l, 0 ≤ x ∧ x.toNat < 4096) → degAt l (p : Int) s = s + sumB l p := by
 induction l with
 | nil => intro s _ _ _; simp [degAt, sumB]
 | cons x r ih =>
  intro s h0 h1 hs
  rw [List.length_cons] at h1
  obtain ⟨x0, x1⟩ := hs x List.mem_cons_self
  obtain ⟨n, hn⟩ := Int.eq_ofNat_of_zero_le x0
  have hb := bitAt_le n p
  have := ih (s + (bitAt x.toNat p : Int)) (by omega) (by rw [hn, Int.toNat_natCast]; omega) (fun y hy => hs y (List.mem_cons_of_mem _ hy))
  unfold degAt at this ⊢
  rw [List.foldl_cons]
  unfold sumB
  rw [hn, Int.toNat_natCast] at this ⊢
  rw [hn, Int.toNat_natCast] at x1
  rw [bit_tells n p x1 hp, w64 (by omega) (by omega), this]
  omega
theorem degs_ge (l : List Int) (q p : Nat) (h : p < q) : degAt l (p : Int) 0 ≤ degs l q := by
 induction q with
 | zero => omega
 | succ q ih =>
  rw [degs_succ]
  unfold mx
  by_cases e : p = q
  ·subst e; split <;> omega
  ·have := ih (by omega)
   split <;> omega
theorem degs_nn (l : List Int) (q : Nat) : 0 ≤ degs l q := by
 induction q with
 | zero => exact Int.le_refl _
 | succ q ih => rw [degs_succ]; unfold mx; split <;> omega
theorem disj_of (q : Nat) (hq : q ≤ 6) (l : List Int) (hx : ∀ x ∈ l, x.toNat < 2 ^ q) (h : ∀ p, p < q → sumB l p ≤ 1) : disj l := by
 have h64 : 2 ^ q ≤ 64 := Nat.pow_le_pow_right (n := 2) (by omega) hq
 induction l with
 | nil => trivial
 | cons a t ih =>
  refine ⟨fun x hxt => ?_, ih (fun x hx' => hx x (List.mem_cons_of_mem _ hx')) (fun p hp => by have := h p hp; unfold sumB at this; omega)⟩
  have ha := hx a List.mem_cons_self
  have hxx := hx x (List.mem_cons_of_mem _ hxt)
  refine no_common ⟨a.toNat, by omega⟩ ⟨x.toNat, by omega⟩ (fun p => ?_)
  by_cases c : p.val < q
  ·have h1 := h p.val c
   have h2 := sumB_mem t p.val x hxt
   unfold sumB at h1
   simp only
   omega
  ·left
   show a.toNat / 2 ^ p.val % 2 = 0
   rw [Nat.div_eq_of_lt (Nat.lt_of_lt_of_le ha (Nat.pow_le_pow_right (by omega) (by omega)))]
theorem none_of (q : Nat) (hq : q ≤ 6) (l : List Int) (hx : ∀ x ∈ l, x.toNat < 2 ^ q) (h : ∀ p, p < q → sumB l p ≤ 0) : ∀ x ∈ l, x.toNat = 0 := by
 have h64 : 2 ^ q ≤ 64 := Nat.pow_le_pow_right (n := 2) (by omega) hq
 intro x hx'
 have hxx := hx x hx'
 refine no_bit ⟨x.toNat, by omega⟩ (fun p => ?_)
 by_cases c : p.val < q
 ·have h1 := h p.val c
  have h2 := sumB_mem l p.val x hx'
  simp only
  omega
 ·show x.toNat / 2 ^ p.val % 2 = 0
  rw [Nat.div_eq_of_lt (Nat.lt_of_lt_of_le hxx (Nat.pow_le_pow_right (by omega) (by omega)))]
theorem her_degree (q : Nat) (hq : q ≤ 6) (l : List Int) (hl : l.length ≤ 12) (hx : ∀ x ∈ l, 0 ≤ x ∧ x.toNat < 2 ^ q) :
  (degs l q = 0 → herTo l (2 ^ q) = 0) ∧ (0 < degs l q → herTo l (2 ^ q) < 2 * degs l q) := by
 have h64 : 2 ^ q ≤ 64 := Nat.pow_le_pow_right (n := 2) (by omega) hq
 have hs : ∀ x ∈ l, 0 ≤ x ∧ x.toNat < 4096 := fun x h => ⟨(hx x h).1, by have := (hx x h).2; omega⟩
 have hsum : ∀ p, p < q → sumB l p ≤ degs l q := fun p hp => by
  have := degs_ge l q p hp
  rw [degAt_sum p (by omega) l 0 (by omega) (by omega) hs] at this
  omega
 have nn := herTo_nn hl hs (2 ^ q)
 refine ⟨fun e => ?_, fun e => ?_⟩
 ·have := herTo_bd hl hs 0 (by omega) (2 ^ q) (fun m hm => her_zero hl hs m (none_of q hq l (fun x h => (hx x h).2) (fun p hp => by have := hsum p hp; omega)))
  omega
 ·by_cases c : degs l q = 1
  ·have := herTo_bd hl hs 1 (by omega) (2 ^ q) (fun m hm => her_one hl hs m (by omega) (disj_of q hq l (fun x h => (hx x h).2) (fun p hp => by have := hsum p hp; omega)))
   omega
  ·have := herTo_bd hl hs 3 (by omega) (2 ^ q) (fun m hm => her_three hl hs m (by omega) (fun x h => by have := (hx x h).2; omega))
   omega
end Go.Proofs.Ytplgfchiaapmfaa.Com
namespace Go.Proofs.Ytplgfchiaapmfaa.Com
set_option linter.unusedSimpArgs false
set_option linter.unusedVariables false
set_option linter.unusedSectionVars false
open Go.RowKit Go.Proofs.YtplgfchiaapmfaaW.PrintWords Go.Proofs.YtplgfchiaapmfaaW.PrintMore Go.Proofs.Ytplgfchiaapmfaa.Q
theorem and_255 (x : Nat) (h : x < 18446744073709551616) : ∃ r : Nat, Go.bits .and .u64 (x : Int) 255 = (r : Int) ∧ r ≤ 255 :=
 ⟨x &&& 255, (Go.bits_nat .u64 64 (by decide) (fun n h0 h1 => by simp [IntKind.wrap, IntKind.bits, IntKind.signed]; omega) x 255 h (by decide)).1, Nat.and_le_right⟩
theorem u64_bd (n : Int) : 0 ≤ IntKind.u64.wrap n ∧ IntKind.u64.wrap n < 18446744073709551616 := by
 simp [IntKind.wrap, IntKind.bits, IntKind.signed]
 omega
theorem u8_bd {x : Int} (h : (Lit.int .u8 x).wf = true) : 0 ≤ x ∧ x ≤ 255 := by
 simp [Lit.wf, IntKind.min, IntKind.max, IntKind.signed, IntKind.bits] at h
 omega
theorem next_tells (l : List Int) (hl : ∀ x ∈ l, (Lit.int .u8 x).wf = true) (a s : Int) (ha : 0 ≤ a ∧ a ≤ 1000) : ∃ v s', spec_l00Src_next.f l a s = some (v, a + 1, s') ∧ 0 ≤ v ∧ v ≤ 255 := by
 unfold spec_l00Src_next.f
 rw [w64 (x := a + 1) (by omega) (by omega)]
 have big : ∀ y : Int, ∃ r : Nat, Go.bits .and .u64 (IntKind.u64.wrap y / 1099511627776) 255 = (r : Int) ∧ r ≤ 255 := by
  intro y
  have b := u64_bd y
  obtain ⟨n, hn⟩ := Int.eq_ofNat_of_zero_le (show 0 ≤ IntKind.u64.wrap y / 1099511627776 by omega)
  rw [hn]
  exact and_255 n (by omega)
 by_cases h : a < (l.length : Int)
 ·rw [if_pos h, if_pos ha.1, if_pos (by omega)]
  have hlt : a.toNat < l.length := by omega
  have hv : rd l a = l[a.toNat] := by
   have := rd_nat hlt
   rwa [Int.toNat_of_nonneg ha.1] at this
  have b := u8_bd (hl _ (List.getElem_mem hlt))
  rw [hv, w64 (x := l[a.toNat]) (by omega) (by omega)]
  exact ⟨_, _, rfl, b.1, b.2⟩
 ·rw [if_neg h]
  split
  ·exact ⟨_, _, rfl, by omega, by omega⟩
  ·obtain ⟨r, hr, hr'⟩ := big (IntKind.u64.wrap (IntKind.u64.wrap (s * 6364136223846793005)) + 1442695040888963407)
   rw [hr, w64 (x := (r : Int)) (by omega) (by omega)]
   exact ⟨_, _, rfl, by omega, by omega⟩
theorem pick_tells (l : List Int) (hl : ∀ x ∈ l, (Lit.int .u8 x).wf = true) (a s n : Int) (ha : 0 ≤ a ∧ a ≤ 1000) (hn : 1 ≤ n ∧ n ≤ 200) : ∃ v a' s', spec_l00Src_pick.f l a s n = some (v, a', s') ∧ 0 ≤ v ∧ v < n ∧ 0 ≤ a' ∧ a' ≤ a + 1 := by
 unfold spec_l00Src_pick.f
 by_cases h : n ≤ 1
 ·rw [if_pos h]
  exact ⟨_, _, _, rfl, by omega, by omega, by omega, by omega⟩
 ·obtain ⟨v, s', e, h0, h1⟩ := next_tells l hl a s ha
  rw [if_neg h, e, Option.bind_some, if_neg (by omega), if_neg (by omega), tmod_nn h0]
  have := Int.emod_nonneg v (show n ≠ 0 by omega)
  have := Int.emod_lt_of_pos v (show 0 < n by omega)
  exact ⟨v % n, a + 1, s', rfl, by omega, by omega, by omega, by omega⟩
theorem r8System_ev (l : List Int) (hl : ∀ x ∈ l, (Lit.int .u8 x).wf = true) : ∃ (q : Nat) (y : List Int), Ev (fun k => spec_R8System.f k l) ((q : Int), y) ∧ q ≤ 6 ∧ y.length ≤ 5 ∧ ∀ x ∈ y, 0 ≤ x ∧ x ≤ full q := by
 unfold spec_R8System.f spec_l00From.f spec_l10DrawOk.f
 obtain ⟨p, a, s, e, p0, p1, a0, a1⟩ := pick_tells l hl 0 0 7 (by omega) (by omega)
 obtain ⟨c, a', s', e', c0, c1, a0', a1'⟩ := pick_tells l hl a s 6 (by omega) (by omega)
 obtain ⟨q, rfl⟩ := Int.eq_ofNat_of_zero_le p0
 obtain ⟨c, rfl⟩ := Int.eq_ofNat_of_zero_le c0
 have hq : q ≤ 6 := by omega
 have hpw : 2 ^ q ≤ 64 := Nat.le_trans (Nat.pow_le_pow_right (by omega) hq) (by decide)
 have hpw0 : 1 ≤ 2 ^ q := Nat.pos_of_ne_zero (by simp)
 have key : ∀ (c : Nat) (a s : Int) (y : List Int), 0 ≤ a ∧ a + c ≤ 10 → (∀ x ∈ y, 0 ≤ x ∧ x ≤ full q) → y.length + c ≤ 5 → ∃ y' a' s', Ev (fun k => spec_l10DrawOk.l0 k (c : Int) l a s (q : Int) y) ((q : Int), y', a', s') ∧ y'.length ≤ 5 ∧ ∀ x ∈ y', 0 ≤ x ∧ x ≤ full q := by
  intro c
  induction c with
  | zero =>
   intro a s y ha hy hlen
   refine ⟨y, a, s, ?_, by omega, hy⟩
   refine Ev.step (fun k => by rw [spec_l10DrawOk.l0]) ?_
   simp only [if_neg (show ¬ ((0 : Nat) : Int) > 0 by omega)]
   exact Ev.now _
  | succ c ih =>
   intro a s y ha hy hlen
   obtain ⟨v, a2, s2, e2, v0, v1, b0, b1⟩ := pick_tells l hl a s (2 ^ q : Nat) (by omega) (by omega)
   obtain ⟨y', a', s', h1, h2, h3⟩ := ih a2 s2 (y ++ [v]) (by omega) (by
    intro x hx
    rcases List.mem_append.1 hx with h | h
    ·exact hy x h
    ·rw [List.mem_singleton] at h
     subst h
     rw [full_nat q (by omega)]
     omega) (by rw [List.length_append, List.length_singleton]; omega)
   refine ⟨y', a', s', ?_, h2, h3⟩
   refine Ev.step (fun k => by rw [spec_l10DrawOk.l0]) ?_
   simp only [if_pos (show ((c + 1 : Nat) : Int) > 0 by omega), uw (q : Int) (by omega), if_pos (show 0 ≤ (q : Int) by omega), shl_one q (by omega), show (2 : Int) ^ q = ((2 ^ q : Nat) : Int) by rw [Int.natCast_pow]; rfl, e2, Option.bind_some, if_pos (show y.length < 17592186044416 by omega)]
   rw [show wrap64 (((c + 1 : Nat) : Int) - 1) = (c : Int) by rw [w64 (by omega) (by omega)]; omega]
   exact h1
 obtain ⟨y', a2, s2, h1, h2, h3⟩ := key c a' s' [] (by omega) (by simp) (by simp; omega)
 refine ⟨q, y', ?_, hq, h2, h3⟩
 refine ev_bind' rfl (Ev.bind (a := ((q : Int), y', a2, s2)) ?_ (Ev.now _))
 rw [w64 (x := 6 + 1) (by omega) (by omega)]
 exact ev_bind' e (ev_bind' e' h1)
theorem weight_ev (n : Nat) (h : n < 4096) : Ev (fun k => laws_r8Weight.f k (n : Int)) ((pop n : Nat) : Int) := by
 have : ∀ a b : Fin 64, laws_r8Weight.f 14 ((64 * a.val + b.val : Nat) : Int) = some ((pop (64 * a.val + b.val) : Nat) : Int) := by decide +kernel
 have q := this ⟨n / 64, by omega⟩ ⟨n % 64, by omega⟩
 simp only at q
 rw [show 64 * (n / 64) + n % 64 = n by omega] at q
 exact Ev.of (fun k => laws_r8Weight.mono _ k) q
end Go.Proofs.Ytplgfchiaapmfaa.Com
namespace Go.Proofs.Ytplgfchiaapmfaa.Pure
set_option linter.unusedSimpArgs false
set_option linter.unusedVariables false
set_option linter.unusedSectionVars false
open Go.RowKit Go.Proofs.Ytplgfchiaapmfaa.Q Go.Proofs.YtplgfchiaapmfaaW.PrintWords Go.Proofs.YtplgfchiaapmfaaW.PrintLast Go.Proofs.Ytplgfchiaapmfaa.Com
theorem least_ (P : Nat → Prop) : ∀ n, (∃ m, m < n ∧ P m) → ∃ m, m < n ∧ P m ∧ ∀ j, j < m → ¬ P j := by
 intro n
 induction n with
 | zero => rintro ⟨m, hm, _⟩; omega
 | succ n ih =>
  rintro ⟨m, hm, hp⟩
  by_cases h : ∃ m, m < n ∧ P m
  ·obtain ⟨x, h1, h2, h3⟩ := ih h
   exact ⟨x, by omega, h2, h3⟩
  ·have : m = n := by
    rcases Nat.lt_or_ge m n with h' | h'
    ·exact absurd ⟨m, h', hp⟩ h
    ·omega
   subst this
   exact ⟨m, by omega, hp, fun j hj hp' => h ⟨j, hj, hp'⟩⟩
theorem degs_bd (l : List Int) (q : Nat) (hq : q ≤ 12) (hl : l.length ≤ 12) (hs : ∀ x ∈ l, 0 ≤ x ∧ x.toNat < 4096) : degs l q ≤ 12 := by
 induction q with
 | zero => show (0 : Int) ≤ 12; omega
 | succ q ih =>
  have h1 := ih (by omega)
  have h2 := sumB_le l q
  rw [degs_succ, degAt_sum q (by omega) l 0 (by omega) (by omega) hs]
  unfold mx
  split <;> omega
theorem r8At_her (l : List Int) (hl : ∀ x ∈ l, (Lit.int .u8 x).wf = true) (n : Int) (hn : 1 ≤ n) : ∃ r : Nat, laws_r8At.f l 0 n = some (r : Int) ∧ (r : Int) < n := by
 unfold laws_r8At.f
 by_cases h1 : n ≤ 1
 ·rw [if_pos h1]
  exact ⟨0, rfl, by omega⟩
 ·rw [if_neg h1]
  by_cases h2 : 0 ≥ (l.length : Int)
  ·rw [if_pos h2]
   exact ⟨0, rfl, by omega⟩
  ·have hlt : 0 < l.length := by omega
   have b := u8_bd (hl _ (List.getElem_mem hlt))
   have e := rd_nat hlt
   rw [Int.natCast_zero] at e
   rw [if_neg h2, if_pos (by omega), if_pos (by omega), if_neg (by omega), e, w64 (by omega) (by omega), tmod_nn b.1]
   have := Int.emod_nonneg l[0] (show n ≠ 0 by omega)
   have := Int.emod_lt_of_pos l[0] (show 0 < n by omega)
   exact ⟨(l[0] % n).toNat, by rw [Int.toNat_of_nonneg (by omega)], by omega⟩
section
variable {q : Nat} {l : List Int} (hq : q ≤ 6) (hl : l.length ≤ 5) (hs : ∀ x ∈ l, 0 ≤ x ∧ x ≤ full q)
include hq hl hs
theorem hv_ : validSys (q : Int) l = true := by
 unfold validSys
 rw [decide_eq_true (show 0 ≤ (q : Int) ∧ (q : Int) ≤ 12 by omega), decide_eq_true (show (l.length : Int) ≤ 12 by omega)]
 simpa using hs
theorem hs4_ : ∀ x ∈ l, 0 ≤ x ∧ x.toNat < 4096 := fun x hx => ⟨(hs x hx).1, (full_lt (by omega) (hs x hx)).2⟩
theorem hs2_ : ∀ x ∈ l, x.toNat < 2 ^ q := fun x hx => (full_lt (by omega) (hs x hx)).1
theorem discRst_ev (m : Nat) (hm : m < 2 ^ q) : ∃ z, Ev (fun k => impl_DiscrepancyOf.f k ((pop m : Nat) : Int) (rsts l m q)) (her l m, z, true) := by
 have hs4 := hs4_ hq hl hs
 have hp12 := pop_le m
 have hr : ∀ x ∈ rsts l m q, 0 ≤ x ∧ x ≤ full ((pop m : Nat) : Int) := by
  intro y hy
  obtain ⟨x, _, rfl⟩ := List.mem_map.1 hy
  have := ext_lt q m x.toNat
  rw [rst_ext m x.toNat q (by omega), full_nat (pop m) hp12, pop_small (by omega) hm]
  simp only
  omega
 have hr4 : ∀ x ∈ rsts l m q, 0 ≤ x ∧ x.toNat < 4096 := fun x hx => ⟨(hr x hx).1, (full_lt hp12 (hr x hx)).2⟩
 have hlr : (rsts l m q).length ≤ 12 := by unfold rsts; rw [List.length_map]; omega
 have hv : validSys ((pop m : Nat) : Int) (rsts l m q) = true := by
  unfold validSys
  rw [decide_eq_true (show 0 ≤ ((pop m : Nat) : Int) ∧ ((pop m : Nat) : Int) ≤ 12 by omega), decide_eq_true (show ((rsts l m q).length : Int) ≤ 12 by omega)]
  simpa using hr
 have e := her_ext (l := l) (by omega) hs4 (p := q) (pts := m) (by omega) (hs2_ hq hl hs) hm
 unfold impl_DiscrepancyOf.f
 refine ⟨(minD (fun r => gr (imbs (rsts l m q) r)) (fun _ => true) (2 ^ pop m)).2, ?_⟩
 refine ev_bind' (implValidSys_tells _ _) ?_
 simp only [hv, if_true]
 rw [← e]
 exact Ev.bind (implDisc_ev hlr hr4 (pop m) hp12) (Ev.now _)
theorem discAll_ev : ∃ z, Ev (fun k => impl_DiscrepancyOf.f k (q : Int) l) (her l (2 ^ q - 1), z, true) := by
 have hs4 := hs4_ hq hl hs
 have hpw := pow_bd (show q ≤ 12 by omega)
 have e : her l (2 ^ q - 1) = (minD (fun r => gr (imbs l r)) (fun _ => true) (2 ^ q)).1 := by
  unfold her
  rw [show 2 ^ q - 1 + 1 = 2 ^ q by omega]
  refine congrArg Prod.fst (minD_congr fun r hr => ⟨decide_eq_true (mask_full hr), ?_⟩)
  have em : (l.map fun x => imb (x.toNat &&& (2 ^ q - 1)) r) = l.map fun x => imb x.toNat r := List.map_congr_left (fun x hx => by rw [mask_full (hs2_ hq hl hs x hx)])
  unfold most imbs
  rw [em]
 unfold impl_DiscrepancyOf.f
 refine ⟨(minD (fun r => gr (imbs l r)) (fun _ => true) (2 ^ q)).2, ?_⟩
 refine ev_bind' (implValidSys_tells _ _) ?_
 simp only [hv_ hq hl hs, if_true]
 rw [e]
 exact Ev.bind (implDisc_ev (by omega) hs4 q (by omega)) (Ev.now _)
theorem rstOf_ev (m : Nat) (hm : m < 2 ^ q) : Ev (fun k => impl_RestrictSystem.f k (q : Int) l (m : Int)) (((pop m : Nat) : Int), rsts l m q, true) := by
 have hs4 := hs4_ hq hl hs
 have hpw := pow_bd (show q ≤ 12 by omega)
 have hr : 0 ≤ (m : Int) ∧ (m : Int) ≤ full (q : Int) := by rw [full_nat q (by omega)]; omega
 unfold impl_RestrictSystem.f
 refine ev_bind' (implValidSys_tells _ l) ?_
 simp only [hv_ hq hl hs, if_true, if_pos (show 0 ≤ (q : Int) by omega)]
 rw [show wrap64 (shl .i64 1 (q : Int) - 1) = full q from rfl]
 simp only [within_tells, Option.bind_some, decide_eq_true hr, if_true]
 exact Ev.bind (implRst_ev (by omega) hs4 (by omega) (by omega)) (Ev.now _)
theorem herOf_ev : Ev (fun k => impl_HereditaryOf.f k (q : Int) l) (herTo l (2 ^ q), true) := by
 have hs4 := hs4_ hq hl hs
 unfold impl_HereditaryOf.f
 refine ev_bind' (implValidSys_tells _ l) ?_
 simp only [hv_ hq hl hs, if_true, decide_eq_false (show ¬ (q : Int) > 8 by omega)]
 refine Ev.step (fun k => by rw [impl_HereditaryOf.j0]) ?_
 simp only [Bool.false_eq_true, if_false, if_pos (show 0 ≤ (q : Int) by omega)]
 rw [shl_one q (by omega), show (2 : Int) ^ q = ((2 ^ q : Nat) : Int) by rw [Int.natCast_pow]; rfl]
 exact implHer_ev (by omega) hs4 (by omega) (hs2_ hq hl hs)
theorem degOf_ev : Ev (fun k => impl_DegreeOf.f k (q : Int) l) (degs l q, true) := by
 unfold impl_DegreeOf.f
 refine ev_bind' (implValidSys_tells _ l) ?_
 simp only [hv_ hq hl hs, if_true]
 refine ev_count q (fun m s k => impl_DegreeOf.l0 k s (q : Int) (m : Int) (q : Int) l) (degs l q, true) (fun m s => s = degs l m) ?_ ?_ 0 0 (by omega) rfl
 ·rintro s rfl
  refine Ev.step (fun k => by rw [impl_DegreeOf.l0]) ?_
  simp only [if_neg (show ¬ (q : Int) < (q : Int) by omega)]
  exact Ev.now _
 ·rintro m s hm rfl
  refine ⟨_, rfl, fun ih => ?_⟩
  refine Ev.step (fun k => by rw [impl_DegreeOf.l0]) ?_
  simp only [if_pos (show (m : Int) < (q : Int) by omega)]
  have gen := ev_fold l (fun j s k => impl_DegreeOf.l1 k (degs l m) (m : Int) s (q : Int) (m : Int) l (l.length : Int) (j : Int) (q : Int) l) (fun r s => (degs l q, true)) (fun j s => degAt (l.drop j) (m : Int) s = degAt l (m : Int) 0) ?_ ?_ 0 0 (by omega) rfl
  ·exact gen
  ·intro s hs'
   rw [List.drop_length] at hs'
   obtain rfl : s = degAt l (m : Int) 0 := hs'
   refine Ev.step (fun k => by rw [impl_DegreeOf.l1]) ?_
   simp only [if_neg (show ¬ (l.length : Int) < (l.length : Int) by omega), w_succ (m := m) (by omega)]
   rw [degs_succ] at ih
   exact ih
  ·intro j hj s hs' k
   refine Ev.step (fun k => by rw [impl_DegreeOf.l1]) ?_
   simp only [if_pos (show (j : Int) < (l.length : Int) by omega), if_pos (show 0 ≤ (j : Int) by omega), if_pos (show 0 ≤ (m : Int) by omega), rd_nat hj, w_succ (m := j) (by omega)]
   refine k _ ?_
   rw [List.drop_eq_getElem_cons hj] at hs'
   exact hs'
theorem herLoop_ev : Ev (fun k => laws_FnHereditary.l0 k (herTo l (2 ^ q)) (full (q : Int)) 0 (q : Int) l) true := by
 have hs4 := hs4_ hq hl hs
 have hpw := pow_bd (show q ≤ 12 by omega)
 have hf := full_nat q (by omega)
 obtain ⟨m0, hm0, e0⟩ := herTo_at (l := l) (by omega) hs4 (2 ^ q - 1)
 rw [show 2 ^ q - 1 + 1 = 2 ^ q by omega] at hm0 e0
 obtain ⟨n, hn, en, hfirst⟩ := least_ (fun j => her l j = herTo l (2 ^ q)) (2 ^ q) ⟨m0, hm0, e0⟩
 have one : ∀ m : Nat, m < 2 ^ q → ∀ r, Ev (fun k => laws_FnHereditary.j3 k (herTo l (2 ^ q)) (full (q : Int)) (m : Int) (her l m) false (q : Int) l) r → Ev (fun k => laws_FnHereditary.l0 k (herTo l (2 ^ q)) (full (q : Int)) (m : Int) (q : Int) l) r := by
  intro m hm r hj
  obtain ⟨z, hz⟩ := discRst_ev hq hl hs m hm
  have hle := her_to (l := l) (by omega) hs4 (2 ^ q) m hm
  refine Ev.step (fun k => by rw [laws_FnHereditary.l0]) ?_
  simp only [if_pos (show (m : Int) ≤ full (q : Int) by rw [hf]; omega)]
  refine Ev.bind (rstOf_ev hq hl hs m hm) (Ev.bind hz ?_)
  simp only [if_true, decide_eq_false (show ¬ her l m > herTo l (2 ^ q) by omega)]
  exact hj
 refine ev_count n (fun m (s : Unit) k => laws_FnHereditary.l0 k (herTo l (2 ^ q)) (full (q : Int)) (m : Int) (q : Int) l) true (fun m s => True) ?_ ?_ 0 () (by omega) trivial
 ·intro s _
  refine one n hn true ?_
  refine Ev.step (fun k => by rw [laws_FnHereditary.j3]) ?_
  simp only [Bool.false_eq_true, if_false, if_pos en]
  exact Ev.now _
 ·intro m s hm _
  refine ⟨(), trivial, fun ih => ?_⟩
  refine one m (by omega) true ?_
  refine Ev.step (fun k => by rw [laws_FnHereditary.j3]) ?_
  simp only [Bool.false_eq_true, if_false, if_neg (hfirst m hm), w_succ (m := m) (by omega)]
  exact ih
end
theorem FnHereditary : laws_FnHereditary.Pure := by
 intro code more _ _ hcode _ _ hmore
 apply ev_of
 unfold laws_FnHereditary.f
 by_cases hlong : (code.length : Int) > 48 ∨ (more.length : Int) > 48
 ·have e : laws_r8Long.f code more = some true := by
   unfold laws_r8Long.f
   by_cases h : (code.length : Int) > 48
   ·rw [if_pos h]
   ·rw [if_neg h, decide_eq_true (by omega)]
  refine ev_bind' e ?_
  simp only [if_true]
  exact Ev.now _
 have e : laws_r8Long.f code more = some false := by
  unfold laws_r8Long.f
  rw [if_neg (by omega), decide_eq_false (by omega)]
 refine ev_bind' e ?_
 simp only [Bool.false_eq_true, if_false]
 obtain ⟨q, l, hsys, hq, hl, hs⟩ := r8System_ev code hcode
 have hs4 := hs4_ hq hl hs
 have hpw := pow_bd (show q ≤ 12 by omega)
 have hf := full_nat q (by omega)
 have deg := her_degree q hq l (by omega) (fun x hx => ⟨(hs x hx).1, hs2_ hq hl hs x hx⟩)
 have loop := herLoop_ev hq hl hs
 have H1 := herOf_ev hq hl hs
 obtain ⟨z1, D1⟩ := discAll_ev hq hl hs
 have G1 := degOf_ev hq hl hs
 have le1 := her_to (l := l) (by omega) hs4 (2 ^ q) (2 ^ q - 1) (by omega)
 have dn := degs_nn l q
 have U := uni_ev H1
 refine Ev.bind hsys (Ev.bind H1 (Ev.bind D1 (Ev.bind G1 ?_)))
 simp only [uw (q : Int) (show 0 ≤ (q : Int) ∧ (q : Int) ≤ 4096 by omega), if_pos (show 0 ≤ (q : Int) by omega)]
 rw [show wrap64 (shl .i64 1 (q : Int) - 1) = full (q : Int) from rfl]
 obtain ⟨m, hm, hm'⟩ := r8At_her more hmore (wrap64 (full (q : Int) + 1)) (by rw [hf, w64 (by omega) (by omega)]; omega)
 have hm2 : m < 2 ^ q := by rw [hf, w64 (by omega) (by omega)] at hm'; omega
 obtain ⟨z2, D2⟩ := discRst_ev hq hl hs m hm2
 have le2 := her_to (l := l) (by omega) hs4 (2 ^ q) m hm2
 refine ev_bind' hm (Ev.bind (rstOf_ev hq hl hs m hm2) (Ev.bind D2 ?_))
 simp only [if_true, if_neg (show ¬ her l (2 ^ q - 1) > herTo l (2 ^ q) by omega), if_neg (show ¬ her l m > herTo l (2 ^ q) by omega)]
 refine ev_bind' hm (Ev.bind (weight_ev m (by omega)) ?_)
 simp only [if_true, if_pos (show ((rsts l m q).length : Int) = (l.length : Int) by unfold rsts; rw [List.length_map])]
 refine Ev.bind U ?_
 simp only [Bool.true_and, bne_self_eq_false]
 refine Ev.step (fun k => by rw [laws_FnHereditary.j0]) ?_
 have j1 : Ev (fun k => laws_FnHereditary.j1 k (herTo l (2 ^ q)) (full (q : Int)) false (q : Int) l) true := Ev.step (fun k => by rw [laws_FnHereditary.j1]) (by simp only [Bool.false_eq_true, if_false]; exact loop)
 have db := degs_bd l q (by omega) (by omega) hs4
 simp only [Bool.false_eq_true, if_false]
 by_cases c : degs l q = 0
 ·simp only [if_neg (show ¬ degs l q > 0 by omega), if_pos c, decide_eq_false (show ¬ herTo l (2 ^ q) > 0 by have := deg.1 c; omega)]
  exact j1
 ·have := deg.2 (by omega)
  simp only [if_pos (show degs l q > 0 by omega), w64 (x := 2 * degs l q) (by omega) (by omega), if_neg (show ¬ herTo l (2 ^ q) ≥ 2 * degs l q by omega), if_neg c]
  exact j1
end Go.Proofs.Ytplgfchiaapmfaa.Pure
