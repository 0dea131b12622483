/- The statement FnPaths, with all that its proof stands on: functions of the program as plain functions, the program's walks, and the plain law. Conditions: none beyond the statement's own. -/
import Derived.ArgAppend
import Derived.Below
import Derived.BigQuiet
import Derived.BigRegion
import Derived.Deep.AppendLies
import Derived.Deep.CutBlock
import Derived.Deep.DeepCutAuto
import Derived.Deep.Draws
import Derived.Deep.LoopGhost
import Derived.Deep.OwnRows
import Derived.Deep.QuietTactic
import Derived.Deep.RegionHeld3
import Derived.Ground.SlgmProg
import Derived.Ground.SlgnProg
import Derived.KernelRfl
import Derived.Laws.BitsLemmas
import Derived.Laws.BytesArg
import Derived.Laws.IdiomCopy
import Derived.Laws.MakeOwn
import Derived.Laws.OwnMore
import Derived.Laws.Rows
import Derived.Laws.Slices
import Derived.Lib.AppendStr
import Derived.Lib.ConvBytes
import Derived.Maps.AppendAt
import Derived.OrdersHeld
import Derived.OwnWalk
import Derived.ProofKit
import Derived.RowKit
import Derived.RowKit3
import Derived.Shelf.SlicesE.Clone
import Derived.Shelf.Small.Bits
import Derived.Shelf.Small.Strs
import Derived.Shelf.SortM.Plain
import Derived.Shelf.Strconv.Itoa0
import Derived.Shelf.Strings.Search1
import Derived.Sort.OwnSortedInts
import Derived.Tactics
import Derived.Test.YtckonklpdepgoaaProg
import Derived.WalkKit
import Derived.WideLaws
import Derived.Test.YtckonklpdepgoaaBFnPaths1
import Derived.Test.YtckonklpdepgoaaBFnPaths2
import Derived.Test.YtckonklpdepgoaaBFnPaths3
import Derived.Test.YtckonklpdepgoaaBFnPaths4
import Derived.Test.YtckonklpdepgoaaBFnPaths5
import Derived.Test.YtckonklpdepgoaaBFnPaths6
import Derived.Test.YtckonklpdepgoaaBFnPaths7
set_option linter.unusedVariables false
set_option linter.unusedSimpArgs false
namespace Go.Proofs.Ytckonklpdepgoaa.Q
open Go.RowKit Go.Proofs.YtckonklpdepgoaaW.PrintWords Go.Proofs.YtckonklpdepgoaaW.PrintLast Go.Proofs.YtckonklpdepgoaaW.PrintMore
attribute [local go_sem] max2_int min2_int max_two min_two max_three min_three max_four min_four   -- for this text's walks alone
set_option linter.unusedVariables false
set_option linter.unusedSimpArgs false
mutual
def laws_FnPaths.l0 : Nat → List Int → List Int → List (List Int) → Bool → Int → Int → List (List Int) → Option (Bool)
 | 0, _, _, _, _, _, _, _ => none
 | k + 1, x0, x1, x6, x7, x8, x10, x347000 => if x10 < x8 then (if 0 ≤ x8 then (if (x8 : Int).toNat ≤ 35184372088832 then (if x347000.length < 5864062014805 then (laws_FnPaths.l0 k x0 x1 x6 x7 x8 (wrap64 (x10 + 1)) (x347000 ++ [(List.replicate (x8 : Int).toNat 0)])) else (none)) else (none)) else (none)) else (if x7 = true then ((impl_IsPath.f k x347000 x6).bind fun t353 => (laws_FnPaths.j1 k x0 x1 x6 (!t353))) else (laws_FnPaths.j1 k x0 x1 x6 true))
def laws_FnPaths.j1 : Nat → List Int → List Int → List (List Int) → Bool → Option (Bool)
 | 0, _, _, _, _ => none
 | k + 1, x0, x1, x6, x54 => if x54 = true then (some false) else (laws_FnPaths.l1 k x0 x1 x6 1)
def laws_FnPaths.l1 : Nat → List Int → List Int → List (List Int) → Int → Option (Bool)
 | 0, _, _, _, _ => none
 | k + 1, x0, x1, x6, x11 => if x11 < (x6.length : Int) then (if 0 ≤ x11 then (if 0 < ((rd_L1 x6 x11).length : Int) then (if 0 ≤ (wrap64 (x11 - 1)) then (if (wrap64 (x11 - 1)) < (x6.length : Int) then (if 0 < ((rd_L1 x6 (wrap64 (x11 - 1))).length : Int) then ((laws_b10Abs.f (wrap64 ((rd (rd_L1 x6 x11) 0) - (rd (rd_L1 x6 (wrap64 (x11 - 1))) 0)))).bind fun t358 => (if 1 < ((rd_L1 x6 x11).length : Int) then (if 1 < ((rd_L1 x6 (wrap64 (x11 - 1))).length : Int) then ((laws_b10Abs.f (wrap64 ((rd (rd_L1 x6 x11) 1) - (rd (rd_L1 x6 (wrap64 (x11 - 1))) 1)))).bind fun t363 => (if (wrap64 (t358 + t363)) = 1 then (laws_FnPaths.l1 k x0 x1 x6 (wrap64 (x11 + 1))) else (some false))) else (none)) else (none))) else (none)) else (none)) else (none)) else (none)) else (none)) else ((spec_B10Picture.f k x1).bind fun t364 => ((spec_B10Path.f k x0 t364).bind fun t368 => ((impl_PathDither.f k t364 t368).bind fun bt371 => (if bt371.2.2 = true then ((impl_IsPath.f k t364 t368).bind fun t376 => (if t376 = true then (if (bt371.1.length : Int) = (t364.length : Int) then ((laws_b10All.f k t364).bind fun t377 => ((laws_b10All.f k bt371.1).bind fun t378 => (laws_FnPaths.j3 k t368 bt371.1 bt371.2.1 (t377 != (wrap64 ((wrap64 (255 * t378)) + bt371.2.1))) t364))) else (laws_FnPaths.j3 k t368 bt371.1 bt371.2.1 true t364)) else (laws_FnPaths.j3 k t368 bt371.1 bt371.2.1 true t364))) else (laws_FnPaths.j3 k t368 bt371.1 bt371.2.1 true t364)))))
def laws_FnPaths.j3 : Nat → List (List Int) → List (List Int) → Int → Bool → List (List Int) → Option (Bool)
 | 0, _, _, _, _, _ => none
 | k + 1, x13, x14, x15, x131, x368000 => if x131 = true then (some false) else (laws_FnPaths.l2 k x13 x14 x15 0 0 x368000)
def laws_FnPaths.l2 : Nat → List (List Int) → List (List Int) → Int → Int → Int → List (List Int) → Option (Bool)
 | 0, _, _, _, _, _, _ => none
 | k + 1, x13, x14, x15, x17, x18, x368000 => if x18 < (x13.length : Int) then (if 0 ≤ x18 then (if 0 < ((rd_L1 x13 x18).length : Int) then (if 1 < ((rd_L1 x13 x18).length : Int) then (if 0 ≤ (rd (rd_L1 x13 x18) 0) then (if (rd (rd_L1 x13 x18) 0) < (x14.length : Int) then (if (rd (rd_L1 x13 x18) 0) < (x368000.length : Int) then (if ((rd_L1 x14 (rd (rd_L1 x13 x18) 0)).length : Int) = ((rd_L1 x368000 (rd (rd_L1 x13 x18) 0)).length : Int) then (if 0 ≤ (rd (rd_L1 x13 x18) 1) then (if (rd (rd_L1 x13 x18) 1) < ((rd_L1 x368000 (rd (rd_L1 x13 x18) 0)).length : Int) then (if (rd (rd_L1 x13 x18) 1) < ((rd_L1 x14 (rd (rd_L1 x13 x18) 0)).length : Int) then ((laws_b10Abs.f (wrap64 (x17 + (wrap64 ((rd (rd_L1 x368000 (rd (rd_L1 x13 x18) 0)) (rd (rd_L1 x13 x18) 1)) - (wrap64 (255 * (rd (rd_L1 x14 (rd (rd_L1 x13 x18) 0)) (rd (rd_L1 x13 x18) 1))))))))).bind fun t389 => (if (wrap64 (2 * t389)) > 256 then (some false) else (laws_FnPaths.l2 k x13 x14 x15 (wrap64 (x17 + (wrap64 ((rd (rd_L1 x368000 (rd (rd_L1 x13 x18) 0)) (rd (rd_L1 x13 x18) 1)) - (wrap64 (255 * (rd (rd_L1 x14 (rd (rd_L1 x13 x18) 0)) (rd (rd_L1 x13 x18) 1)))))))) (wrap64 (x18 + 1)) x368000))) else (none)) else (none)) else (none)) else (some false)) else (none)) else (none)) else (none)) else (none)) else (none)) else (none)) else (some (x17 == x15))
end
def laws_FnPaths.f (k : Nat) (l0 : List Int) (l1 : List Int) : Option (Bool) := (laws_b10Long.f l0 l1).bind fun t340 => (if t340 = true then (some true) else ((laws_b10At.f l0 0 4).bind fun t341 => ((impl_HilbertPath.f t341).bind fun bt342 => (if 0 ≤ (IntKind.u64.wrap (t341)) then (laws_FnPaths.l0 k l0 l1 bt342.1 bt342.2 (shl .i64 1 (IntKind.u64.wrap (t341))) 0 ([] : List (List Int))) else (none)))))
theorem laws_FnPaths.mono_l : ∀ k, (∀ y0 y1 y2 y3 y4 y5 y6, LeO (laws_FnPaths.l0 k y0 y1 y2 y3 y4 y5 y6) (laws_FnPaths.l0 (k + 1) y0 y1 y2 y3 y4 y5 y6)) ∧ (∀ y0 y1 y2 y3, LeO (laws_FnPaths.j1 k y0 y1 y2 y3) (laws_FnPaths.j1 (k + 1) y0 y1 y2 y3)) ∧ (∀ y0 y1 y2 y3, LeO (laws_FnPaths.l1 k y0 y1 y2 y3) (laws_FnPaths.l1 (k + 1) y0 y1 y2 y3)) ∧ (∀ y0 y1 y2 y3 y4, LeO (laws_FnPaths.j3 k y0 y1 y2 y3 y4) (laws_FnPaths.j3 (k + 1) y0 y1 y2 y3 y4)) ∧ (∀ y0 y1 y2 y3 y4 y5, LeO (laws_FnPaths.l2 k y0 y1 y2 y3 y4 y5) (laws_FnPaths.l2 (k + 1) y0 y1 y2 y3 y4 y5))
 | 0 => ⟨fun _ _ _ _ _ _ _ r h => by simp [laws_FnPaths.l0] at h, fun _ _ _ _ r h => by simp [laws_FnPaths.j1] at h, fun _ _ _ _ r h => by simp [laws_FnPaths.l1] at h, fun _ _ _ _ _ r h => by simp [laws_FnPaths.j3] at h, fun _ _ _ _ _ _ r h => by simp [laws_FnPaths.l2] at h⟩
 | k + 1 => by
  obtain ⟨ih0, ih1, ih2, ih3, ih4⟩ := laws_FnPaths.mono_l k
  refine ⟨?_, ?_, ?_, ?_, ?_⟩
  ·intro y0 y1 y2 y3 y4 y5 y6
   unfold laws_FnPaths.l0
   repeat' first
   | (with_reducible exact ih0 _ _ _ _ _ _ _)
   | (with_reducible exact ih1 _ _ _ _)
   | (with_reducible exact ih2 _ _ _ _)
   | (with_reducible exact ih3 _ _ _ _ _)
   | (with_reducible exact ih4 _ _ _ _ _ _)
   | (with_reducible exact impl_IsPath.mono _ _ _)
   | (with_reducible exact impl_PathDither.mono _ _ _)
   | (with_reducible exact laws_b10All.mono _ _)
   | (with_reducible exact spec_B10Path.mono _ _ _)
   | (with_reducible exact spec_B10Picture.mono _ _)
   | (with_reducible exact LeO.refl _)
   | (with_reducible exact LeO.none _)
   | (with_reducible refine LeO.ite ?_ ?_)
   | (with_reducible refine LeO.bind ?_ (fun _ => ?_))
   | exact ih0 _ _ _ _ _ _ _
   | exact ih1 _ _ _ _
   | exact ih2 _ _ _ _
   | exact ih3 _ _ _ _ _
   | exact ih4 _ _ _ _ _ _
   | exact impl_IsPath.mono _ _ _
   | exact impl_PathDither.mono _ _ _
   | exact laws_b10All.mono _ _
   | exact spec_B10Path.mono _ _ _
   | exact spec_B10Picture.mono _ _
   | exact LeO.none _
   | refine LeO.ite ?_ ?_
   | refine LeO.bind ?_ (fun _ => ?_)
  ·intro y0 y1 y2 y3
   unfold laws_FnPaths.j1
   repeat' first
   | (with_reducible exact ih0 _ _ _ _ _ _ _)
   | (with_reducible exact ih1 _ _ _ _)
   | (with_reducible exact ih2 _ _ _ _)
   | (with_reducible exact ih3 _ _ _ _ _)
   | (with_reducible exact ih4 _ _ _ _ _ _)
   | (with_reducible exact impl_IsPath.mono _ _ _)
   | (with_reducible exact impl_PathDither.mono _ _ _)
   | (with_reducible exact laws_b10All.mono _ _)
   | (with_reducible exact spec_B10Path.mono _ _ _)
   | (with_reducible exact spec_B10Picture.mono _ _)
   | (with_reducible exact LeO.refl _)
   | (with_reducible exact LeO.none _)
   | (with_reducible refine LeO.ite ?_ ?_)
   | (with_reducible refine LeO.bind ?_ (fun _ => ?_))
   | exact ih0 _ _ _ _ _ _ _
   | exact ih1 _ _ _ _
   | exact ih2 _ _ _ _
   | exact ih3 _ _ _ _ _
   | exact ih4 _ _ _ _ _ _
   | exact impl_IsPath.mono _ _ _
   | exact impl_PathDither.mono _ _ _
   | exact laws_b10All.mono _ _
   | exact spec_B10Path.mono _ _ _
   | exact spec_B10Picture.mono _ _
   | exact LeO.none _
   | refine LeO.ite ?_ ?_
   | refine LeO.bind ?_ (fun _ => ?_)
  ·intro y0 y1 y2 y3
   unfold laws_FnPaths.l1
   repeat' first
   | (with_reducible exact ih0 _ _ _ _ _ _ _)
   | (with_reducible exact ih1 _ _ _ _)
   | (with_reducible exact ih2 _ _ _ _)
   | (with_reducible exact ih3 _ _ _ _ _)
   | (with_reducible exact ih4 _ _ _ _ _ _)
   | (with_reducible exact impl_IsPath.mono _ _ _)
   | (with_reducible exact impl_PathDither.mono _ _ _)
   | (with_reducible exact laws_b10All.mono _ _)
   | (with_reducible exact spec_B10Path.mono _ _ _)
   | (with_reducible exact spec_B10Picture.mono _ _)
   | (with_reducible exact LeO.refl _)
   | (with_reducible exact LeO.none _)
   | (with_reducible refine LeO.ite ?_ ?_)
   | (with_reducible refine LeO.bind ?_ (fun _ => ?_))
   | exact ih0 _ _ _ _ _ _ _
   | exact ih1 _ _ _ _
   | exact ih2 _ _ _ _
   | exact ih3 _ _ _ _ _
   | exact ih4 _ _ _ _ _ _
   | exact impl_IsPath.mono _ _ _
   | exact impl_PathDither.mono _ _ _
   | exact laws_b10All.mono _ _
   | exact spec_B10Path.mono _ _ _
   | exact spec_B10Picture.mono _ _
   | exact LeO.none _
   | refine LeO.ite ?_ ?_
   | refine LeO.bind ?_ (fun _ => ?_)
  ·intro y0 y1 y2 y3 y4
   unfold laws_FnPaths.j3
   repeat' first
   | (with_reducible exact ih0 _ _ _ _ _ _ _)
   | (with_reducible exact ih1 _ _ _ _)
   | (with_reducible exact ih2 _ _ _ _)
   | (with_reducible exact ih3 _ _ _ _ _)
   | (with_reducible exact ih4 _ _ _ _ _ _)
   | (with_reducible exact impl_IsPath.mono _ _ _)
   | (with_reducible exact impl_PathDither.mono _ _ _)
   | (with_reducible exact laws_b10All.mono _ _)
   | (with_reducible exact spec_B10Path.mono _ _ _)
   | (with_reducible exact spec_B10Picture.mono _ _)
   | (with_reducible exact LeO.refl _)
   | (with_reducible exact LeO.none _)
   | (with_reducible refine LeO.ite ?_ ?_)
   | (with_reducible refine LeO.bind ?_ (fun _ => ?_))
   | exact ih0 _ _ _ _ _ _ _
   | exact ih1 _ _ _ _
   | exact ih2 _ _ _ _
   | exact ih3 _ _ _ _ _
   | exact ih4 _ _ _ _ _ _
   | exact impl_IsPath.mono _ _ _
   | exact impl_PathDither.mono _ _ _
   | exact laws_b10All.mono _ _
   | exact spec_B10Path.mono _ _ _
   | exact spec_B10Picture.mono _ _
   | exact LeO.none _
   | refine LeO.ite ?_ ?_
   | refine LeO.bind ?_ (fun _ => ?_)
  ·intro y0 y1 y2 y3 y4 y5
   unfold laws_FnPaths.l2
   repeat' first
   | (with_reducible exact ih0 _ _ _ _ _ _ _)
   | (with_reducible exact ih1 _ _ _ _)
   | (with_reducible exact ih2 _ _ _ _)
   | (with_reducible exact ih3 _ _ _ _ _)
   | (with_reducible exact ih4 _ _ _ _ _ _)
   | (with_reducible exact impl_IsPath.mono _ _ _)
   | (with_reducible exact impl_PathDither.mono _ _ _)
   | (with_reducible exact laws_b10All.mono _ _)
   | (with_reducible exact spec_B10Path.mono _ _ _)
   | (with_reducible exact spec_B10Picture.mono _ _)
   | (with_reducible exact LeO.refl _)
   | (with_reducible exact LeO.none _)
   | (with_reducible refine LeO.ite ?_ ?_)
   | (with_reducible refine LeO.bind ?_ (fun _ => ?_))
   | exact ih0 _ _ _ _ _ _ _
   | exact ih1 _ _ _ _
   | exact ih2 _ _ _ _
   | exact ih3 _ _ _ _ _
   | exact ih4 _ _ _ _ _ _
   | exact impl_IsPath.mono _ _ _
   | exact impl_PathDither.mono _ _ _
   | exact laws_b10All.mono _ _
   | exact spec_B10Path.mono _ _ _
   | exact spec_B10Picture.mono _ _
   | exact LeO.none _
   | refine LeO.ite ?_ ?_
   | refine LeO.bind ?_ (fun _ => ?_)
theorem laws_FnPaths.mono : ∀ a0 a1 k, LeO (laws_FnPaths.f k a0 a1) (laws_FnPaths.f (k + 1) a0 a1) := by
 intro a0 a1 k
 obtain ⟨ih0, ih1, ih2, ih3, ih4⟩ := laws_FnPaths.mono_l k
 unfold laws_FnPaths.f
 repeat' first
   | (with_reducible exact ih0 _ _ _ _ _ _ _)
   | (with_reducible exact ih1 _ _ _ _)
   | (with_reducible exact ih2 _ _ _ _)
   | (with_reducible exact ih3 _ _ _ _ _)
   | (with_reducible exact ih4 _ _ _ _ _ _)
   | (with_reducible exact impl_IsPath.mono _ _ _)
   | (with_reducible exact impl_PathDither.mono _ _ _)
   | (with_reducible exact laws_b10All.mono _ _)
   | (with_reducible exact spec_B10Path.mono _ _ _)
   | (with_reducible exact spec_B10Picture.mono _ _)
   | (with_reducible exact LeO.refl _)
   | (with_reducible exact LeO.none _)
   | (with_reducible refine LeO.ite ?_ ?_)
   | (with_reducible refine LeO.bind ?_ (fun _ => ?_))
   | exact ih0 _ _ _ _ _ _ _
   | exact ih1 _ _ _ _
   | exact ih2 _ _ _ _
   | exact ih3 _ _ _ _ _
   | exact ih4 _ _ _ _ _ _
   | exact impl_IsPath.mono _ _ _
   | exact impl_PathDither.mono _ _ _
   | exact laws_b10All.mono _ _
   | exact spec_B10Path.mono _ _ _
   | exact spec_B10Picture.mono _ _
   | exact LeO.none _
   | refine LeO.ite ?_ ?_
   | refine LeO.bind ?_ (fun _ => ?_)
def laws_FnPaths.T10 : Bool × List (List Nat × List Nat) := (true, [([], []), ([0], [0]), ([], []), ([2, 2], [2]), ([3], [3]), ([1, 4], [1, 4]), ([0, 1, 2, 3, 4, 5], []), ([6, 5, 5, 0, 1, 2, 3, 4, 5], [5, 6])])
def laws_FnPaths.B10 : List Nat := [0, 1, 0, 4, 12, 31, 63, 127]
theorem laws_FnPaths.tab10 : rtab .any (opsOf Try.f5 10) = laws_FnPaths.T10 := by kernel_rfl
theorem laws_FnPaths.bits10 : waitsOk laws_FnPaths.T10.2 laws_FnPaths.B10 = true := by kernel_rfl
def laws_FnPaths.T16 : Bool × List (List Nat × List Nat) := (true, [([], []), ([], []), ([0, 1], [0, 1]), ([2], [2]), ([3], [3]), ([4], [4]), ([], []), ([], []), ([7], [7]), ([6, 8], [6, 8]), ([9], [9]), ([10], [10]), ([11], [11]), ([5, 12], [5, 12]), ([13], [13]), ([], []), ([], []), ([15, 16], [15, 16]), ([17], [17]), ([18], [18]), ([19], [19]), ([], []), ([], []), ([22], [22]), ([21, 23], [21, 23]), ([24], [24]), ([25], [25]), ([26], [26]), ([20, 27], [20, 27]), ([28, 14], [28]), ([14, 29], [14, 29]), ([30], [30])])
def laws_FnPaths.B16 : List Nat := [0, 0, 3, 7, 15, 31, 0, 0, 128, 448, 960, 1984, 4032, 8191, 16383, 0, 0, 98304, 229376, 491520, 1015808, 0, 0, 4194304, 14680064, 31457280, 65011712, 132120576, 268402688, 536870911, 1073741823, 2147483647]
theorem laws_FnPaths.tab16 : rtab .any (opsOf Try.f5 16) = laws_FnPaths.T16 := by kernel_rfl
theorem laws_FnPaths.bits16 : waitsOk laws_FnPaths.T16.2 laws_FnPaths.B16 = true := by kernel_rfl
def laws_FnPaths.T29 : Bool × List (List Nat × List Nat) := (true, [([], []), ([], []), ([0, 1], [0, 1]), ([2], [2]), ([3], [3]), ([], []), ([5], [5]), ([], []), ([6, 7], [6, 7]), ([8], [8]), ([9], [9]), ([4, 10], [4, 10])])
def laws_FnPaths.B29 : List Nat := [0, 0, 3, 7, 15, 0, 32, 0, 224, 480, 992, 2047]
theorem laws_FnPaths.tab29 : rtab .any (opsOf Try.f5 29) = laws_FnPaths.T29 := by kernel_rfl
theorem laws_FnPaths.bits29 : waitsOk laws_FnPaths.T29.2 laws_FnPaths.B29 = true := by kernel_rfl
def laws_FnPaths.T31 : Bool × List (List Nat × List Nat) := (true, [([], []), ([], []), ([1], [1]), ([], []), ([2, 3], [2, 3]), ([4], [4]), ([], []), ([5, 6], [5, 6]), ([7], [7]), ([], []), ([], []), ([9, 10], [9, 10]), ([11], [11]), ([], []), ([12, 13], [12, 13]), ([14], [14]), ([15], [15]), ([8, 16], [8, 16]), ([0, 17], [0, 17]), ([18, 0, 1, 2, 3, 4, 5, 6, 7, 8, 9, 10, 11, 12, 13, 14, 15, 16, 17, 18], [0, 18])])
def laws_FnPaths.B31 : List Nat := [0, 0, 2, 0, 14, 30, 0, 126, 254, 0, 0, 1536, 3584, 0, 15872, 32256, 65024, 131070, 262143, 524287]
theorem laws_FnPaths.tab31 : rtab .any (opsOf Try.f5 31) = laws_FnPaths.T31 := by kernel_rfl
theorem laws_FnPaths.bits31 : waitsOk laws_FnPaths.T31.2 laws_FnPaths.B31 = true := by kernel_rfl
set_option maxHeartbeats 8000000 in
set_option maxRecDepth 100000 in
theorem laws_FnPaths.calls (k : Nat) (A0 : Option Addr) (c0 : Nat) (l0 : List Int) (A1 : Option Addr) (c1 : Nat) (l1 : List Int) (r : Bool) (w : World) (hr0 : Kd.C (Kd.int .u8) w A0 l0.length l0) (hc0 : l0.length ≤ c0) (hr1 : Kd.C (Kd.int .u8) w A1 l1.length l1) (hc1 : l1.length ≤ c1) (h : laws_FnPaths.f k l0 l1 = some r) :
  Calls Try.prog 5 #[.slice A0 l0.length c0, .slice A1 l1.length c1] w fun e w' => e = .returned (.bool r) ∧ Below w.heap.size w w' := by
 have hu33 := Try.underlying33
 have HR0 := Aside0.mk hr0
 have HC0 := Aside0.mk hc0
 clear hr0 hc0
 have HR1 := Aside0.mk hr1
 have HC1 := Aside0.mk hc1
 clear hr1 hc1
 have HB := Aside0.mk (Below.refl w.heap.size w)
 have H : ((laws_b10Long.f l0 l1).bind fun t340 => (if t340 = true then (some true) else ((laws_b10At.f l0 0 4).bind fun t341 => ((impl_HilbertPath.f t341).bind fun bt342 => (if 0 ≤ (IntKind.u64.wrap (t341)) then (laws_FnPaths.l0 k l0 l1 bt342.1 bt342.2 (shl .i64 1 (IntKind.u64.wrap (t341))) 0 ([] : List (List Int))) else (none)))))) = some r := h
 clear h
 replace H := Option.bind_eq_some_iff.mp H
 obtain ⟨t340, A30, H⟩ := H
 replace H : (if t340 = true then (some true) else ((laws_b10At.f l0 0 4).bind fun t341 => ((impl_HilbertPath.f t341).bind fun bt342 => (if 0 ≤ (IntKind.u64.wrap (t341)) then (laws_FnPaths.l0 k l0 l1 bt342.1 bt342.2 (shl .i64 1 (IntKind.u64.wrap (t341))) 0 ([] : List (List Int))) else (none))))) = some r := H
 have A3 := Aside0.mk A30
 clear A30
 by_cases c4 : t340 = true
 ·subst c4
  have H1 : (some true) = some r := by rw [if_pos rfl] at H; exact H
  clear H
  have H := H1
  clear H1
  obtain rfl := Option.some.inj H
  go_enter Try.func5, Try.ntmps5
  go_wp2_with (first | ((with_reducible refine gate_callee (f := 22) rfl ?_); refine goesL_ (some 23) rfl rfl Try.func22 (by kernel_rfl) rfl #[.slice A0 l0.length c0, .slice A1 l1.length c1] rfl (by (try simp only [List.map_toArray, List.map_cons, List.map_nil]); first | done | rfl) ?_; (with_reducible refine (laws_b10Long.calls _ _ l0 _ _ l1 true _ ?side1 ?side2 ?side3 ?side4 A3.out).mono ?_); (case side1 => repeat (first | exact HR0.out | (with_reducible refine Kd.C_alloc ?_ _) | (with_reducible refine Kd.C_drewN ?_ _) | (with_reducible refine Kd.C_drew ?_))); (case side2 => exact HC0.out); (case side3 => repeat (first | exact HR1.out | (with_reducible refine Kd.C_alloc ?_ _) | (with_reducible refine Kd.C_drewN ?_ _) | (with_reducible refine Kd.C_drew ?_))); (case side4 => exact HC1.out); rintro e w' ⟨rfl, ⟨nd, rfl⟩⟩; refine ⟨_, rfl, ?_⟩))
  go_ret
  exact ⟨by first | rfl | (simp [errW_none, errW_some] <;> rfl) | (simp [*, errW_none, errW_some] <;> rfl), by repeat (first | (with_reducible first | exact HB.out | apply below_alloc | apply pw_below_drewN | apply below_drew1) | exact HB.out)⟩
 ·replace c4 := Bool.eq_false_iff.mpr c4
  subst c4
  have H1 : ((laws_b10At.f l0 0 4).bind fun t341 => ((impl_HilbertPath.f t341).bind fun bt342 => (if 0 ≤ (IntKind.u64.wrap (t341)) then (laws_FnPaths.l0 k l0 l1 bt342.1 bt342.2 (shl .i64 1 (IntKind.u64.wrap (t341))) 0 ([] : List (List Int))) else (none)))) = some r := by rw [if_neg (show ¬ (false = true) by decide)] at H; exact H
  clear H
  have H := H1
  clear H1
  replace H := Option.bind_eq_some_iff.mp H
  obtain ⟨t341, A50, H⟩ := H
  replace H : ((impl_HilbertPath.f t341).bind fun bt342 => (if 0 ≤ (IntKind.u64.wrap (t341)) then (laws_FnPaths.l0 k l0 l1 bt342.1 bt342.2 (shl .i64 1 (IntKind.u64.wrap (t341))) 0 ([] : List (List Int))) else (none))) = some r := H
  have A5 := Aside0.mk A50
  clear A50
  replace H := Option.bind_eq_some_iff.mp H
  obtain ⟨⟨t342, t343⟩, A60, H⟩ := H
  replace H : (if 0 ≤ (IntKind.u64.wrap (t341)) then (laws_FnPaths.l0 k l0 l1 t342 t343 (shl .i64 1 (IntKind.u64.wrap (t341))) 0 ([] : List (List Int))) else (none)) = some r := H
  have A6 := Aside0.mk A60
  clear A60
  obtain ⟨ji7, hji7⟩ : ∃ j_ : Int, (IntKind.u64.wrap (t341)) = j_ := ⟨_, rfl⟩
  replace H : (if 0 ≤ (ji7) then (laws_FnPaths.l0 k l0 l1 t342 t343 (shl .i64 1 (ji7)) 0 ([] : List (List Int))) else (none)) = some r := by first | (rw [hji7] at H; exact H) | (simp only [hji7] at H ⊢; exact H)
  (try rw [hji7] at A3)
  (try rw [hji7] at A5)
  (try rw [hji7] at A6)
  by_cases c8 : 0 ≤ (ji7)
  ·rw [if_pos c8] at H
   have c8b0 := eq_true c8
   have c8b1 : decide (0 ≤ (ji7)) = true := decide_eq_true c8
   clear c8
   obtain ⟨ji9, hji9⟩ : ∃ j_ : Int, (shl .i64 1 (ji7)) = j_ := ⟨_, rfl⟩
   replace H : (laws_FnPaths.l0 k l0 l1 t342 t343 ji9 0 ([] : List (List Int))) = some r := by first | (rw [hji9] at H; exact H) | (simp only [hji9] at H ⊢; exact H)
   (try rw [hji9] at A3)
   (try rw [hji9] at A5)
   (try rw [hji9] at A6)
   have hji9_ : (IntKind.i64.wrap (1 * 2 ^ min (ji7).toNat 64)) = ji9 := hji9
   have hji9z : (ji7) ≤ 64 → (IntKind.i64.wrap (1 * 2 ^ (ji7).toNat)) = ji9 := shl_small hji9
   have hji9u : (IntKind.i64.wrap (2 ^ min (ji7).toNat 64)) = ji9 := by have h_ := hji9_; rw [Int.one_mul] at h_; exact h_
   have hji9v : (ji7) ≤ 64 → (IntKind.i64.wrap (2 ^ (ji7).toNat)) = ji9 := fun hle_ => by have h_ := hji9z hle_; rw [Int.one_mul] at h_; exact h_
   have hji9y : (wrap64 (1 * 2 ^ min (ji7).toNat 64)) = ji9 := (i64_w _).symm.trans hji9_
   have hji9x : (ji7) ≤ 64 → (wrap64 (1 * 2 ^ (ji7).toNat)) = ji9 := fun h_ => (i64_w _).symm.trans (hji9z h_)
   have H' := Aside0.mk H
   clear H
   go_enter Try.func5, Try.ntmps5
   go_wp2_with (first | ((with_reducible refine gate_callee (f := 22) rfl ?_); refine goesL_ (some 23) rfl rfl Try.func22 (by kernel_rfl) rfl #[.slice A0 l0.length c0, .slice A1 l1.length c1] rfl (by (try simp only [List.map_toArray, List.map_cons, List.map_nil]); first | done | rfl) ?_; (with_reducible refine (laws_b10Long.calls _ _ l0 _ _ l1 false _ ?side1 ?side2 ?side3 ?side4 A3.out).mono ?_); (case side1 => repeat (first | exact HR0.out | (with_reducible refine Kd.C_alloc ?_ _) | (with_reducible refine Kd.C_drewN ?_ _) | (with_reducible refine Kd.C_drew ?_))); (case side2 => exact HC0.out); (case side3 => repeat (first | exact HR1.out | (with_reducible refine Kd.C_alloc ?_ _) | (with_reducible refine Kd.C_drewN ?_ _) | (with_reducible refine Kd.C_drew ?_))); (case side4 => exact HC1.out); rintro e w' ⟨rfl, ⟨nd, rfl⟩⟩; refine ⟨_, rfl, ?_⟩) | ((with_reducible refine gate_callee (f := 23) rfl ?_); refine goesL_ (some 25) rfl rfl Try.func23 (by kernel_rfl) rfl #[.slice A0 l0.length c0, .int .i64 0, .int .i64 4] rfl (by (try simp only [List.map_toArray, List.map_cons, List.map_nil]); first | done | rfl) ?_; (with_reducible refine (laws_b10At.calls _ _ l0 0 4 t341 _ ?side1 ?side2 A5.out).mono ?_); (case side1 => repeat (first | exact HR0.out | (with_reducible refine Kd.C_alloc ?_ _) | (with_reducible refine Kd.C_drewN ?_ _) | (with_reducible refine Kd.C_drew ?_))); (case side2 => exact HC0.out); rintro e w' ⟨rfl, ⟨nd, rfl⟩⟩; refine ⟨_, rfl, ?_⟩) | ((with_reducible refine gate_callee (f := 21) rfl ?_); refine goesL_ (some 28) rfl rfl Try.func21 (by kernel_rfl) rfl #[.int .i64 t341] rfl (by (try simp only [List.map_toArray, List.map_cons, List.map_nil]); first | done | rfl) ?_; (with_reducible refine (impl_HilbertPath.calls t341 t342 t343 _ A6.out).mono ?_); rintro e w10 ⟨v344, rfl, ho0, hb⟩; refine ⟨_, rfl, ?_⟩; have n0_ := Aside0.mk (Kd.N_lower (Kd.N_mono (ok' := fun k_ => True) (Kd.S_N (Kd.S_bound ho0)) (fun k_ hk_ => trivial)) (below_size (by repeat (first | (with_reducible first | exact HB.out | apply below_alloc | apply pw_below_drewN | apply below_drew1) | exact HB.out)))); have n1_ := Aside0.mk (below_step (by repeat (first | (with_reducible first | exact HB.out | apply below_alloc | apply pw_below_drewN | apply below_drew1) | exact HB.out)) hb); clear HB; have HO345 := n0_; have HB := n1_; clear n0_ n1_; (try clear hb); (try clear hb2); (try clear hk); (try clear hi); (try clear ho0)) | ((with_reducible refine gate_dst (N := 9) rfl ?_); (try (refine gate_guard (by rfl) ?_; dsimp only)); refine box_event ?hg (N := 9) ?hd (cs := #[.slice none 0 0]) (t := 33) ?hr ?_; (case hd => rfl); (case hg => rfl); (case hr => first | (go_simp; done) | (go_simp; rfl)); intro gb346 hg w11 hbox hb; have n0_ := Aside0.mk (Kd.N_below (Kd.N_elderB (by (with_reducible repeat (first | apply Kd.N_alloc | apply Kd.N_drewN | apply Kd.N_drew)); exact HO345.out) gb346 (Nat.le_of_eq hg.symm)) hb); have n1_ := Aside0.mk (below_step (by repeat (first | (with_reducible first | exact HB.out | apply below_alloc | apply pw_below_drewN | apply below_drew1) | exact HB.out)) hb); have n2_ := Aside0.mk (hbox); have n3_ := Aside0.mk ((by rw [hg]; exact (below_size (by repeat (first | (with_reducible first | exact HB.out | apply below_alloc | apply pw_below_drewN | apply below_drew1) | exact HB.out))) : w.heap.size ≤ gb346)); have n4_ := Aside0.mk ((by rw [hg]; exact (below_size (by repeat (first | (with_reducible first | exact HB.out | apply below_alloc | apply pw_below_drewN | apply below_drew1) | exact HB.out))) : w.heap.size ≤ gb346)); clear HO345; clear HB; have HO345 := n0_; have HB := n1_; have BK346 := n2_; have GW346 := n3_; have GE346 := n4_; clear n0_ n1_ n2_ n3_ n4_; clear hb hbox hg; have hcz12_0 : w11.cell? ⟨gb346, 0, none⟩ = some (.slice none 0 0) := (blk_cell BK346.out 0).trans rfl; have hfz12_0 := blk_frozen BK346.out 0))
   go_loopg [10] k (fun kq v10 w' => ∃ (x10_1 : Int) (x347000_1 : List (List Int)) (u347000 : Value), v10 = .int .i64 x10_1 ∧ Aside0 (laws_FnPaths.l0 kq l0 l1 t342 t343 ji9 x10_1 x347000_1 = some r) ∧ Aside0 (kq ≤ k) ∧ Aside0 (Kd.N (Kd.slice 2 (Kd.int .i64)) 34 w' w.heap.size (fun k_ => some k_ ≠ (u347000 : Value).ownBlock ∧ k_ ≠ gb346) v344 t342) ∧ Aside0 (Kd.N (Kd.slice 2 (Kd.int .i64)) 34 w' w.heap.size (fun k_ => some k_ ≠ (v344 : Value).ownBlock ∧ k_ ≠ gb346) u347000 x347000_1) ∧ Aside0 (w'.heap[gb346]? = some (.cells #[u347000] 33 (0, 0))) ∧ Aside0 (Below w.heap.size w w'))
   case atStart => exact ⟨(0), (([] : List (List Int))), (.slice none 0 0), (by first | rfl | (simp; done) | (simp [*]; done)), H', ⟨Nat.le_refl _⟩, ⟨by (with_reducible repeat (first | apply Kd.N_alloc | apply Kd.N_drewN | apply Kd.N_drew)); exact Kd.N_mono (Kd.N_far (p := ⟨gb346, 0, none⟩) (Kd.N_mono HO345.out (fun k_ hk => (⟨hk, hk.2⟩ : _ ∧ k_ ≠ gb346))) (fun _ hk => hk.2) (.slice none 0 0)) (fun _ hk => ⟨(by simp [Value.ownBlock]), hk.1.2⟩)⟩, ⟨by first | exact Kd.S_nil _ _ _ _ _ | exact Kd.N_nil _ _ _ _ _ | exact Kd.V_nil _ _ _ _ _ | exact Kd.Q_nil _ _ _ _ _ | exact Kd.R_nil _ _ _ _ _⟩, ⟨by (with_reducible repeat (first | refine blk_drewN ?_ _ | refine blk_drew ?_ | refine blk_alloc ?_ _)); refine blk_put (cs := #[.slice none 0 0]) ?_ 0 _ rfl; (with_reducible repeat (first | refine blk_drewN ?_ _ | refine blk_drew ?_ | refine blk_alloc ?_ _)); exact BK346.out⟩, ⟨by repeat (first | (with_reducible first | exact HB.out | apply below_alloc | apply pw_below_drewN | apply below_drew1 | refine below_set ?_ GE346.out) | exact HB.out)⟩⟩
   case round =>
    clear H'
    try clear c1
    try clear c2
    try clear p2
    try clear c4
    try clear c5
    try clear p6
    try clear c8
    try clear c8b0
    try clear c8b1
    try clear hcz12_0
    try clear hfz12_0
    obtain ⟨x10_1, x347000_1, u347000, rfl, HA, HK1, HO_6, HO_347000, BK346, HB⟩ := hrel
    cases gk with
    | zero => exact absurd HA.out (by simp [laws_FnPaths.l0])
    | succ k1 =>
     have H := HA.out
     clear HA
     simp only [laws_FnPaths.l0] at H
     by_cases c13 : x10_1 < ji9
     ·rw [if_pos c13] at H
      have c13b0 : decide (x10_1 < ji9) = true := decide_eq_true c13
      clear c13
      by_cases c14 : 0 ≤ ji9
      ·rw [if_pos c14] at H
       have c14b0 := eq_true c14
       have c14b1 : decide (0 ≤ ji9) = true := decide_eq_true c14
       clear c14
       by_cases c15 : (ji9 : Int).toNat ≤ 35184372088832
       ·rw [if_pos c15] at H
        have c15b0 := eq_true c15
        have c15b1 : decide ((ji9 : Int).toNat ≤ 35184372088832) = true := decide_eq_true c15
        clear c15
        obtain ⟨y347, hy347⟩ : ∃ y_ : List Int, y_ = (List.replicate (ji9 : Int).toNat 0) := ⟨_, rfl⟩
        replace H : (if x347000_1.length < 5864062014805 then (laws_FnPaths.l0 k1 l0 l1 t342 t343 ji9 (wrap64 (x10_1 + 1)) (x347000_1 ++ [y347])) else (none)) = some r := by first | (rw [hy347]; with_reducible exact H) | (have H2_ := (Option.bind_some _ _).symm.trans H; rw [hy347]; with_reducible exact H2_) | (have H2_ := (Option.bind_some _ _).symm.trans H; with_reducible exact H2_) | with_reducible exact H | (rw [hy347]; exact H) | exact H
        have Ny347 := Aside0.mk hy347
        clear hy347
        by_cases c16 : x347000_1.length < 5864062014805
        ·rw [if_pos c16] at H
         have LMc16 := Aside0.mk c16
         clear c16
         obtain ⟨y350, hy350⟩ : ∃ y_ : List (List Int), y_ = (x347000_1 ++ [y347]) := ⟨_, rfl⟩
         replace H : (laws_FnPaths.l0 k1 l0 l1 t342 t343 ji9 (wrap64 (x10_1 + 1)) y350) = some r := by first | (rw [hy350]; with_reducible exact H) | (have H2_ := (Option.bind_some _ _).symm.trans H; rw [hy350]; with_reducible exact H2_) | (have H2_ := (Option.bind_some _ _).symm.trans H; with_reducible exact H2_) | with_reducible exact H | (rw [hy350]; exact H) | exact H
         have Ny350 := Aside0.mk hy350
         clear hy350
         have H' := Aside0.mk H
         clear H
         try go_wp2
         have n0_ := Aside0.mk (Kd.N_drew HO_6.out)
         have n1_ := Aside0.mk (Kd.N_drew HO_347000.out)
         have n2_ := Aside0.mk (blk_drew BK346.out)
         have n3_ := Aside0.mk (below_drew1 HB.out)
         clear HO_6
         clear HO_347000
         clear BK346
         clear HB
         have HO_6 := n0_
         have HO_347000 := n1_
         have BK346 := n2_
         have HB := n3_
         clear n0_ n1_ n2_ n3_
         refine start_ (n := 8) (S := fun w' => w'.cell? ⟨gb346, 0, none⟩ = some (u347000)) (ds := [7]) #[false, false, false, false, false, false, false, false] (by kernel_rfl) rfl rfl ((blk_cell BK346.out 0).trans rfl) (fun hHeld => ?_); refine with_tabW laws_FnPaths.tab10 laws_FnPaths.bits10 (fun HT_ HW_ => ?_)
         generalize wr.drew = w17 at HO_6 HO_347000 BK346 HB hHeld ⊢
         refine pure_ (i := 0) (N := some 40) (v := ?_) (a' := ?_) #[true, false, false, false, false, false, false, false] rfl rfl (any_of HT_.out (by kernel_rfl)) (fun _ _ _ h => h) (Or.inl ⟨by rfl, ?_⟩) ?_ ?_
         rotate_left; (intro w'; go_simp; with_reducible rfl); rotate_left; (simp only [Act.put, List.setIfInBounds_toArray, List.set_cons_zero, List.set_cons_succ, i64_w, i32_w]; rfl)
         refine pure_ (i := 2) (N := some 42) (v := ?_) (a' := ?_) #[true, false, true, false, false, false, false, false] rfl rfl (any_of HT_.out (by kernel_rfl)) (fun _ _ _ h => h) (Or.inl ⟨by rfl, ?_⟩) ?_ ?_
         rotate_left; (intro w'; go_simp; with_reducible rfl); rotate_left; (simp only [Act.put, List.setIfInBounds_toArray, List.set_cons_zero, List.set_cons_succ, i64_w, i32_w]; rfl)
         refine take_ (i := 1) (N := some 41) (v := ?_) (a' := ?_) #[true, true, true, false, false, false, false, false] rfl rfl (take_ofW HT_.out HW_.out (by kernel_rfl)) (fun _ _ _ h => h) (Or.inl ⟨by rfl, ?_⟩) hHeld ?_ ?_
         rotate_left
         ·intro w' s0
          go_simp
          with_reducible rfl
         rotate_left
         ·simp only [Act.put, List.setIfInBounds_toArray, List.set_cons_zero, List.set_cons_succ, i64_w, i32_w]
          rfl
         refine one_ (i := 3) (N := some 43) #[true, true, true, true, false, false, false, false] rfl rfl (one_of HT_.out (by kernel_rfl)) (by decide) (fun K hK => ?_)
         refine Kd.R_make_step (Kd.int .i64) _ 2 (by rfl) (N := 43) rfl 34 _ _ rfl ji9 rfl rfl Try.underlying34 (.int .i64 0) 8 info2 rfl (by decide) (by omega) 0 (ok := fun _ => True) (okp := fun _ => True) rfl (fun _ hk => hk) trivial (of_decide_eq_true (by first | (with_reducible assumption) | assumption)) (Nat.le_trans (Nat.mul_le_mul_right _ (of_decide_eq_true (by first | (with_reducible assumption) | assumption) : ji9.toNat ≤ 35184372088832)) (by omega)) (Below.refl _ _) (Nat.le_refl _) ?_
         intro v348 w18 ho19 hb hg_ hnew_
         clear hg_ hnew_
         (first | rw [← Ny347.out] at ho19 | (simp only [Int.reduceToNat] at ho19; rw [← Ny347.out] at ho19))
         have n0_ := Aside0.mk (Kd.N_elder' (by (with_reducible repeat (first | apply Kd.N_alloc | apply Kd.N_drewN | apply Kd.N_drew)); exact HO_6.out) (Kd.R_base ho19) hb)
         have n1_ := Aside0.mk (Kd.N_elder' (by (with_reducible repeat (first | apply Kd.N_alloc | apply Kd.N_drewN | apply Kd.N_drew)); exact HO_347000.out) (Kd.R_base ho19) hb)
         have n2_ := Aside0.mk (Kd.R_lower ho19 (below_size (by repeat (first | (with_reducible first | exact HB.out | apply below_alloc | apply pw_below_drewN | apply below_drew1 | refine below_set ?_ GE346.out) | exact HB.out))))
         have n3_ := Aside0.mk (blk_below (g := gb346) (o := .cells #[u347000] 33 (0, 0)) (by (with_reducible repeat (first | refine blk_drewN ?_ _ | refine blk_drew ?_ | refine blk_alloc ?_ _)); exact BK346.out) hb)
         have n4_ := Aside0.mk (below_step (by repeat (first | (with_reducible first | exact HB.out | apply below_alloc | apply pw_below_drewN | apply below_drew1 | refine below_set ?_ GE346.out) | exact HB.out)) hb)
         clear HO_6
         clear HO_347000
         clear BK346
         clear HB
         have HO_6 := n0_
         have HO_347000 := n1_
         have HO349 := n2_
         have BK346 := n3_
         have HB := n4_
         clear n0_ n1_ n2_ n3_ n4_
         clear hb ho19
         obtain ⟨Ao21, co21, eo21⟩ := Kd.R_slice HO349.out
         (first | subst eo21 | (injection eo21 with f1_ f2_ f3_; have f4_ := f1_.symm; have f5_ := f3_.symm; clear f1_ f2_ f3_; subst f4_; subst f5_))
         refine hK.out _ _ ((blk_cell BK346.out 0).trans rfl) (fun hHeld => ?_)
         clear hK K
         refine norm_ (a' := ?_) ?_ ?_
         rotate_left
         ·show Act.put _ (some 43) _ = _
          simp only [Act.put, List.setIfInBounds_toArray, List.set_cons_zero, List.set_cons_succ, i64_w, i32_w]
          rfl
         refine one_ (i := 4) (N := some 44) #[true, true, true, true, true, false, false, false] rfl rfl (one_of HT_.out (by kernel_rfl)) (by decide) (fun K hK => ?_)
         refine value_ (w1 := ?_) (v := ?_) (by rfl) rfl ?_ ?_
         rotate_left 2
         ·go_simp
          constructor
          ·rfl
          ·rfl
         refine hK.out _ _ ((blk_cell (blk_alloc BK346.out _) 0).trans rfl) (fun hHeld => ?_)
         clear hK K
         refine norm_ (a' := ?_) ?_ ?_
         rotate_left
         ·show Act.put _ (some 44) _ = _
          simp only [Act.put, List.setIfInBounds_toArray, List.set_cons_zero, List.set_cons_succ, i64_w, i32_w]
          rfl
         refine one_ (i := 5) (N := some 45) #[true, true, true, true, true, true, false, false] rfl rfl (one_of HT_.out (by kernel_rfl)) (by decide) (fun K hK => ?_)
         refine Kd.N_append_step (Kd.slice 2 (Kd.int .i64)) (w0 := w) w.heap.size (by rfl) (.tmp 41) (.tmp 44) 22 34 (.slice none 0 0) 24 rfl Try.underlying22 info34 rfl (by decide) (by omega) u347000 x347000_1 y347 [.slice Ao21 y347.length co21] (fun k_ => some k_ ≠ (v344 : Value).ownBlock ∧ k_ ≠ gb346) (fun k_ => ((fun k_ => some k_ ≠ (v344 : Value).ownBlock ∧ k_ ≠ gb346)) k_ ∧ some k_ ≠ (u347000 : Value).ownBlock) rfl rfl ?aP (fun _ hk => hk) ?aF ?aO ?aB ?aS ?aL ?_
         (case aP => exact (Kd.FK_slice_mk (Kd.R_reads' (Kd.R_mono (ok' := (fun k_ => ((fun k_ => some k_ ≠ (v344 : Value).ownBlock ∧ k_ ≠ gb346)) k_ ∧ some k_ ≠ (u347000 : Value).ownBlock)) (Kd.R_types (Kd.R_apart' (Kd.R_apart' (HO349.out) (Kd.N_typed HO_6.out) (by decide)) (Kd.N_typed HO_347000.out) (by decide)) BK346.out (by decide)) (fun k_ hk => ⟨⟨hk.1.1.2, hk.2⟩, hk.1.2⟩))).2.1 (Kd.R_F (Kd.R_mono (ok' := (fun k_ => ((fun k_ => some k_ ≠ (v344 : Value).ownBlock ∧ k_ ≠ gb346)) k_ ∧ some k_ ≠ (u347000 : Value).ownBlock)) (Kd.R_types (Kd.R_apart' (Kd.R_apart' (HO349.out) (Kd.N_typed HO_6.out) (by decide)) (Kd.N_typed HO_347000.out) (by decide)) BK346.out (by decide)) (fun k_ hk => ⟨⟨hk.1.1.2, hk.2⟩, hk.1.2⟩)))))
         (case aB => exact (by repeat (first | (with_reducible first | exact HB.out | apply below_alloc | apply pw_below_drewN | apply below_drew1 | refine below_set ?_ GE346.out) | exact HB.out)))
         (case aF => exact (fun k_ hk => ⟨Kd.fresh' (Kd.N_lt (by (with_reducible repeat (first | apply Kd.N_alloc | apply Kd.N_drewN | apply Kd.N_drew)); exact HO_6.out)) k_ hk, Kd.freshB (g := gb346) (o := .cells #[u347000] 33 (0, 0)) (by (with_reducible repeat (first | refine blk_drewN ?_ _ | refine blk_drew ?_ | refine blk_alloc ?_ _)); exact BK346.out) k_ hk⟩))
         (case aO => exact (by (with_reducible repeat (first | apply Kd.N_alloc | apply Kd.N_drewN | apply Kd.N_drew)); exact Kd.N_mono HO_347000.out (fun _ hk => ⟨hk.1.1, hk.1.2⟩)))
         (case aS => exact (below_size (by repeat (first | (with_reducible first | exact HB.out | apply below_alloc | apply pw_below_drewN | apply below_drew1 | refine below_set ?_ GE346.out) | exact HB.out))))
         (case aL => have := LMc16.out; omega)
         intro v351 w20 ho hb hg hat
         rw [← Ny350.out] at ho
         have n0_ := Aside0.mk (Kd.N_afterv (ok := (fun k_ => some k_ ≠ (.slice Ao21 y347.length co21 : Value).ownBlock ∧ k_ ≠ gb346)) (by (with_reducible repeat (first | apply Kd.N_alloc | apply Kd.N_drewN | apply Kd.N_drew)); exact Kd.N_mono HO_6.out (fun _ hk => ⟨⟨hk.2, hk.1.2⟩, hk.1.1⟩)) hg hat)
         have n1_ := Aside0.mk (blk_grown (g := gb346) (o := .cells #[u347000] 33 (0, 0)) (by (with_reducible repeat (first | refine blk_drewN ?_ _ | refine blk_drew ?_ | refine blk_alloc ?_ _)); exact BK346.out) hg (Kd.N_ne HO_347000.out BK346.out (by decide)))
         have n2_ := Aside0.mk (hb)
         have n3_ := Aside0.mk (ho)
         clear HO_6
         clear BK346
         clear HB
         clear HO_347000
         clear HO349
         have HO_6 := n0_
         have BK346 := n1_
         have HB := n2_
         have HO352 := n3_
         clear n0_ n1_ n2_ n3_
         clear ho hb hg hat
         obtain ⟨Ao22, co22, eo22⟩ := Kd.N_slice HO352.out
         (first | subst eo22 | (injection eo22 with f1_ f2_ f3_; have f4_ := f1_.symm; have f5_ := f3_.symm; clear f1_ f2_ f3_; subst f4_; subst f5_))
         refine hK.out _ _ ((blk_cell BK346.out 0).trans rfl) (fun hHeld => ?_)
         clear hK K
         refine norm_ (a' := ?_) ?_ ?_
         rotate_left
         ·show Act.put _ (some 45) _ = _
          simp only [Act.put, List.setIfInBounds_toArray, List.set_cons_zero, List.set_cons_succ, i64_w, i32_w]
          rfl
         refine pure_ (i := 6) (N := some 46) (v := ?_) (a' := ?_) #[true, true, true, true, true, true, true, false] rfl rfl (any_of HT_.out (by kernel_rfl)) (fun _ _ _ h => h) (Or.inl ⟨by rfl, ?_⟩) ?_ ?_
         rotate_left; (intro w'; go_simp; with_reducible rfl); rotate_left; (simp only [Act.put, List.setIfInBounds_toArray, List.set_cons_zero, List.set_cons_succ, i64_w, i32_w]; rfl)
         refine last_ (i := 7) (N := none) #[true, true, true, true, true, true, true, true] rfl rfl (one_of HT_.out (by kernel_rfl)) (by decide) (fun K hK => ?_)
         have hs23 : w20.cell? ⟨gb346, 0, none⟩ = some (u347000) := (blk_cell BK346.out 0).trans rfl
         have hfs23 := blk_frozen BK346.out 0
         refine skip_ (w1 := ?_) (by rfl) rfl ?_ ?_
         rotate_left
         ·go_simp
          rfl
         refine hK.out _ _ ?_
         clear hK K
         refine done_ (done_of HT_.out (by kernel_rfl)) ?_
         try go_wp2
         go_roundg k1
         case measure => have := HK1.out; omega
         case rel => exact ⟨(wrap64 (x10_1 + 1)), (y350), (.slice Ao22 y350.length co22), (by first | rfl | (simp; done) | (simp [*]; done)), H', ⟨by have := HK1.out; omega⟩, ⟨by (with_reducible repeat (first | apply Kd.N_alloc | apply Kd.N_drewN | apply Kd.N_drew)); exact Kd.N_mono (Kd.N_far (p := ⟨gb346, 0, none⟩) (Kd.N_mono HO_6.out (fun k_ hk => (⟨hk, hk.1.2⟩ : _ ∧ k_ ≠ gb346))) (fun _ hk => hk.2) (.slice Ao22 y350.length co22)) (fun _ hk => ⟨hk.1.2, hk.1.1.2⟩)⟩, ⟨by (with_reducible repeat (first | apply Kd.N_alloc | apply Kd.N_drewN | apply Kd.N_drew)); exact Kd.N_mono (Kd.N_far (p := ⟨gb346, 0, none⟩) (Kd.N_mono HO352.out (fun k_ hk => (⟨hk, hk.2⟩ : _ ∧ k_ ≠ gb346))) (fun _ hk => hk.2) (.slice Ao22 y350.length co22)) (fun _ hk => ⟨hk.1.1, hk.1.2⟩)⟩, ⟨by (with_reducible repeat (first | refine blk_drewN ?_ _ | refine blk_drew ?_ | refine blk_alloc ?_ _)); refine blk_put (cs := #[u347000]) ?_ 0 _ rfl; (with_reducible repeat (first | refine blk_drewN ?_ _ | refine blk_drew ?_ | refine blk_alloc ?_ _)); exact BK346.out⟩, ⟨by repeat (first | (with_reducible first | exact HB.out | apply below_alloc | apply pw_below_drewN | apply below_drew1 | refine below_set ?_ GE346.out) | exact HB.out)⟩⟩
        ·rw [if_neg c16] at H
         exact absurd H (by simp)
       ·rw [if_neg c15] at H
        exact absurd H (by simp)
      ·rw [if_neg c14] at H
       exact absurd H (by simp)
     ·rw [if_neg c13] at H
      have c13b0 : decide (x10_1 < ji9) = false := decide_eq_false c13
      clear c13
      have HC24 := Aside0.mk H
      clear H
      go_upto_region 11 with (fail)
      go_cut [54] (fun v54 wc => ∃ (kq : Nat) (x54_23 : Bool), v54 = .bool x54_23 ∧ Aside0 (laws_FnPaths.j1 kq l0 l1 t342 x54_23 = some r) ∧ Aside0 (kq ≤ k1) ∧ Aside0 (Kd.N (Kd.slice 2 (Kd.int .i64)) 34 wc w.heap.size (fun k_ => some k_ ≠ (u347000 : Value).ownBlock ∧ k_ ≠ gb346) v344 t342) ∧ Aside0 (Kd.N (Kd.slice 2 (Kd.int .i64)) 34 wc w.heap.size (fun k_ => some k_ ≠ (v344 : Value).ownBlock ∧ k_ ≠ gb346) u347000 x347000_1) ∧ Aside0 (wc.heap[gb346]? = some (.cells #[u347000] 33 (0, 0))) ∧ Aside0 (Below w.heap.size w wc))
      case first =>
       have H := HC24.out
       clear HC24
       by_cases c25 : t343 = true
       ·subst c25
        have H1 : ((impl_IsPath.f k1 x347000_1 t342).bind fun t353 => (laws_FnPaths.j1 k1 l0 l1 t342 (!t353))) = some r := by rw [if_pos rfl] at H; exact H
        clear H
        have H := H1
        clear H1
        replace H := Option.bind_eq_some_iff.mp H
        obtain ⟨t353, A260, H⟩ := H
        replace H : (laws_FnPaths.j1 k1 l0 l1 t342 (!t353)) = some r := H
        have A26 := Aside0.mk A260
        clear A260
        have H' := Aside0.mk H
        clear H
        have hcz27_0 : wr.cell? ⟨gb346, 0, none⟩ = some (u347000) := (blk_cell BK346.out 0).trans rfl
        have hfz27_0 := blk_frozen BK346.out 0
        obtain ⟨Ao28, co28, eo28⟩ := Kd.N_slice HO_347000.out
        subst eo28
        obtain ⟨Ao29, co29, eo29⟩ := Kd.N_slice HO_6.out
        subst eo29
        go_wp2_with (first | (go_at_call 24; (with_reducible refine (impl_IsPath.calls k1 _ _ x347000_1 _ _ t342 t353 _ ?side1 ?side2 ?side3 ?side4 A26.out).mono ?_); (case side1 => repeat (first | exact (Kd.N_reads' HO_347000.out).2.2 | (with_reducible refine Kd.C_alloc ?_ _) | (with_reducible refine Kd.C_drewN ?_ _) | (with_reducible refine Kd.C_drew ?_))); (case side2 => exact (Kd.N_reads' HO_347000.out).2.1); (case side3 => repeat (first | exact (Kd.N_reads' HO_6.out).2.2 | (with_reducible refine Kd.C_alloc ?_ _) | (with_reducible refine Kd.C_drewN ?_ _) | (with_reducible refine Kd.C_drew ?_))); (case side4 => exact (Kd.N_reads' HO_6.out).2.1); rintro e w30 ⟨rfl, hb⟩; have n0_ := Aside0.mk (Kd.N_below (by (with_reducible repeat (first | apply Kd.N_alloc | apply Kd.N_drewN | apply Kd.N_drew)); exact HO_6.out) hb); have n1_ := Aside0.mk (Kd.N_below (by (with_reducible repeat (first | apply Kd.N_alloc | apply Kd.N_drewN | apply Kd.N_drew)); exact HO_347000.out) hb); have n2_ := Aside0.mk (blk_below (g := gb346) (o := .cells #[.slice Ao28 x347000_1.length co28] 33 (0, 0)) (by (with_reducible repeat (first | refine blk_drewN ?_ _ | refine blk_drew ?_ | refine blk_alloc ?_ _)); exact BK346.out) hb); have n3_ := Aside0.mk (below_step (by repeat (first | (with_reducible first | exact HB.out | apply below_alloc | apply pw_below_drewN | apply below_drew1 | refine below_set ?_ GE346.out) | exact HB.out)) hb); clear HO_6; clear HO_347000; clear BK346; clear HB; have HO_6 := n0_; have HO_347000 := n1_; have BK346 := n2_; have HB := n3_; clear n0_ n1_ n2_ n3_; (try clear hb); (try clear hb2); (try clear hk); (try clear hi)))
        go_meet
        case rel => exact ⟨_, (!t353), (by first | rfl | (simp; done) | (simp [*]; done)), H', ⟨by have := HK1.out; first | omega | exact Nat.le_refl _⟩, ⟨by (with_reducible repeat (first | apply Kd.N_alloc | apply Kd.N_drewN | apply Kd.N_drew)); exact HO_6.out⟩, ⟨by (with_reducible repeat (first | apply Kd.N_alloc | apply Kd.N_drewN | apply Kd.N_drew)); exact HO_347000.out⟩, ⟨by (with_reducible repeat (first | refine blk_drewN ?_ _ | refine blk_drew ?_ | refine blk_alloc ?_ _)); exact BK346.out⟩, ⟨by repeat (first | (with_reducible first | exact HB.out | apply below_alloc | apply pw_below_drewN | apply below_drew1 | refine below_set ?_ GE346.out) | exact HB.out)⟩⟩
       ·replace c25 := Bool.eq_false_iff.mpr c25
        subst c25
        have H1 : (laws_FnPaths.j1 k1 l0 l1 t342 true) = some r := by rw [if_neg (show ¬ (false = true) by decide)] at H; exact H
        clear H
        have H := H1
        clear H1
        have H' := Aside0.mk H
        clear H
        go_wp2
        go_meet
        case rel => exact ⟨_, (true), (by first | rfl | (simp; done) | (simp [*]; done)), H', ⟨by have := HK1.out; first | omega | exact Nat.le_refl _⟩, ⟨by (with_reducible repeat (first | apply Kd.N_alloc | apply Kd.N_drewN | apply Kd.N_drew)); exact HO_6.out⟩, ⟨by (with_reducible repeat (first | apply Kd.N_alloc | apply Kd.N_drewN | apply Kd.N_drew)); exact HO_347000.out⟩, ⟨by (with_reducible repeat (first | refine blk_drewN ?_ _ | refine blk_drew ?_ | refine blk_alloc ?_ _)); exact BK346.out⟩, ⟨by repeat (first | (with_reducible first | exact HB.out | apply below_alloc | apply pw_below_drewN | apply below_drew1 | refine below_set ?_ GE346.out) | exact HB.out)⟩⟩
      case rest =>
       clear HC24
       try clear c1
       try clear c2
       try clear p2
       try clear c4
       try clear c5
       try clear p6
       try clear c8
       try clear c8b0
       try clear c8b1
       try clear c13
       try clear c13b0
       try clear c14
       try clear c14b0
       try clear c14b1
       try clear c15
       try clear c15b0
       try clear c15b1
       try clear c16
       try clear c21
       try clear c22
       try clear c23
       try clear c25
       try clear hcz12_0
       try clear hcz27_0
       try clear hfz12_0
       try clear hfz27_0
       try clear p2
       try clear p6
       obtain ⟨kq, x54_23, rfl, HA, HJ23, HO_6, HO_347000, BK346, HB⟩ := hcut
       cases kq with
       | zero => exact absurd HA.out (by simp [laws_FnPaths.j1])
       | succ kj23 =>
        have H := HA.out
        clear HA
        simp only [laws_FnPaths.j1] at H
        by_cases c31 : x54_23 = true
        ·subst c31
         have H1 : (some false) = some r := by rw [if_pos rfl] at H; exact H
         clear H
         have H := H1
         clear H1
         obtain rfl := Option.some.inj H
         go_wp2
         go_ret
         exact ⟨by first | rfl | (simp [errW_none, errW_some] <;> rfl) | (simp only [← hji7, ← hji9]; first | rfl | (simp [errW_none, errW_some] <;> rfl)) | (simp [*, errW_none, errW_some] <;> rfl), by repeat (first | (with_reducible first | exact HB.out | apply below_alloc | apply pw_below_drewN | apply below_drew1 | refine below_set ?_ GE346.out) | exact HB.out)⟩
        ·replace c31 := Bool.eq_false_iff.mpr c31
         subst c31
         have H1 : (laws_FnPaths.l1 kj23 l0 l1 t342 1) = some r := by rw [if_neg (show ¬ (false = true) by decide)] at H; exact H
         clear H
         have H := H1
         clear H1
         have H' := Aside0.mk H
         clear H
         go_wp2
         go_loopg [11] kj23 (fun kq v11 w' => ∃ (x11_3 : Int), v11 = .int .i64 x11_3 ∧ Aside0 (laws_FnPaths.l1 kq l0 l1 t342 x11_3 = some r) ∧ Aside0 (kq ≤ kj23) ∧ Aside0 (Kd.N (Kd.slice 2 (Kd.int .i64)) 34 w' w.heap.size (fun k_ => some k_ ≠ (u347000 : Value).ownBlock ∧ k_ ≠ gb346) v344 t342) ∧ Aside0 (Kd.N (Kd.slice 2 (Kd.int .i64)) 34 w' w.heap.size (fun k_ => some k_ ≠ (v344 : Value).ownBlock ∧ k_ ≠ gb346) u347000 x347000_1) ∧ Aside0 (w'.heap[gb346]? = some (.cells #[u347000] 33 (0, 0))) ∧ Aside0 (Below w.heap.size w w'))
         case atStart => exact ⟨(1), (by first | rfl | (simp; done) | (simp [*]; done)), H', ⟨Nat.le_refl _⟩, ⟨by (with_reducible repeat (first | apply Kd.N_alloc | apply Kd.N_drewN | apply Kd.N_drew)); exact HO_6.out⟩, ⟨by (with_reducible repeat (first | apply Kd.N_alloc | apply Kd.N_drewN | apply Kd.N_drew)); exact HO_347000.out⟩, ⟨by (with_reducible repeat (first | refine blk_drewN ?_ _ | refine blk_drew ?_ | refine blk_alloc ?_ _)); exact BK346.out⟩, ⟨by repeat (first | (with_reducible first | exact HB.out | apply below_alloc | apply pw_below_drewN | apply below_drew1 | refine below_set ?_ GE346.out) | exact HB.out)⟩⟩
         case round =>
          clear H'
          try clear c1
          try clear c2
          try clear p2
          try clear c3
          try clear c4
          try clear c5
          try clear p6
          try clear c8
          try clear c8b0
          try clear c8b1
          try clear c13
          try clear c13b0
          try clear c14
          try clear c14b0
          try clear c14b1
          try clear c15
          try clear c15b0
          try clear c15b1
          try clear c16
          try clear c21
          try clear c22
          try clear c23
          try clear c25
          try clear c31
          try clear hcz12_0
          try clear hcz27_0
          try clear hfz12_0
          try clear hfz27_0
          try clear p2
          try clear p6
          obtain ⟨x11_3, rfl, HA, HK3, HO_6, HO_347000, BK346, HB⟩ := hrel
          cases gk with
          | zero => exact absurd HA.out (by simp [laws_FnPaths.l1])
          | succ k3 =>
           have H := HA.out
           clear HA
           simp only [laws_FnPaths.l1] at H
           by_cases c32 : x11_3 < (t342.length : Int)
           ·rw [if_pos c32] at H
            have c32b0 : decide (x11_3 < (t342.length : Int)) = true := decide_eq_true c32
            clear c32
            by_cases c33 : 0 ≤ x11_3
            ·rw [if_pos c33] at H
             have c33b0 : decide (0 ≤ x11_3) = true := decide_eq_true c33
             clear c33
             by_cases c34 : 0 < ((rd_L1 t342 x11_3).length : Int)
             ·rw [if_pos c34] at H
              have c34b0 : decide (0 < ((rd_L1 t342 x11_3).length : Int)) = true := decide_eq_true c34
              have c34b1 : decide (0 < (rd_L1 t342 x11_3).length) = true := decide_eq_true (by omega)
              clear c34
              obtain ⟨ji35, hji35⟩ : ∃ j_ : Int, (wrap64 (x11_3 - 1)) = j_ := ⟨_, rfl⟩
              replace H : (if 0 ≤ (ji35) then (if (ji35) < (t342.length : Int) then (if 0 < ((rd_L1 t342 (ji35)).length : Int) then ((laws_b10Abs.f (wrap64 ((rd (rd_L1 t342 x11_3) 0) - (rd (rd_L1 t342 (ji35)) 0)))).bind fun t358 => (if 1 < ((rd_L1 t342 x11_3).length : Int) then (if 1 < ((rd_L1 t342 (ji35)).length : Int) then ((laws_b10Abs.f (wrap64 ((rd (rd_L1 t342 x11_3) 1) - (rd (rd_L1 t342 (ji35)) 1)))).bind fun t363 => (if (wrap64 (t358 + t363)) = 1 then (laws_FnPaths.l1 k3 l0 l1 t342 (wrap64 (x11_3 + 1))) else (some false))) else (none)) else (none))) else (none)) else (none)) else (none)) = some r := by first | (rw [hji35] at H; exact H) | (simp only [hji35] at H ⊢; exact H)
              have hji35w : (IntKind.i64.wrap (x11_3 - 1)) = ji35 := (i64_w _).trans hji35
              by_cases c36 : 0 ≤ (ji35)
              ·rw [if_pos c36] at H
               have c36b0 : decide (0 ≤ (ji35)) = true := decide_eq_true c36
               clear c36
               by_cases c37 : (ji35) < (t342.length : Int)
               ·rw [if_pos c37] at H
                have c37b0 : decide ((ji35) < (t342.length : Int)) = true := decide_eq_true c37
                clear c37
                by_cases c38 : 0 < ((rd_L1 t342 (ji35)).length : Int)
                ·rw [if_pos c38] at H
                 have c38b0 : decide (0 < ((rd_L1 t342 (ji35)).length : Int)) = true := decide_eq_true c38
                 have c38b1 : decide (0 < (rd_L1 t342 (ji35)).length) = true := decide_eq_true (by omega)
                 clear c38
                 replace H := Option.bind_eq_some_iff.mp H
                 obtain ⟨t358, A390, H⟩ := H
                 replace H : (if 1 < ((rd_L1 t342 x11_3).length : Int) then (if 1 < ((rd_L1 t342 (ji35)).length : Int) then ((laws_b10Abs.f (wrap64 ((rd (rd_L1 t342 x11_3) 1) - (rd (rd_L1 t342 (ji35)) 1)))).bind fun t363 => (if (wrap64 (t358 + t363)) = 1 then (laws_FnPaths.l1 k3 l0 l1 t342 (wrap64 (x11_3 + 1))) else (some false))) else (none)) else (none)) = some r := H
                 have A39 := Aside0.mk A390
                 clear A390
                 by_cases c40 : 1 < ((rd_L1 t342 x11_3).length : Int)
                 ·rw [if_pos c40] at H
                  have c40b0 : decide (1 < ((rd_L1 t342 x11_3).length : Int)) = true := decide_eq_true c40
                  have c40b1 : decide (1 < (rd_L1 t342 x11_3).length) = true := decide_eq_true (by omega)
                  clear c40
                  by_cases c41 : 1 < ((rd_L1 t342 (ji35)).length : Int)
                  ·rw [if_pos c41] at H
                   have c41b0 : decide (1 < ((rd_L1 t342 (ji35)).length : Int)) = true := decide_eq_true c41
                   have c41b1 : decide (1 < (rd_L1 t342 (ji35)).length) = true := decide_eq_true (by omega)
                   clear c41
                   replace H := Option.bind_eq_some_iff.mp H
                   obtain ⟨t363, A420, H⟩ := H
                   replace H : (if (wrap64 (t358 + t363)) = 1 then (laws_FnPaths.l1 k3 l0 l1 t342 (wrap64 (x11_3 + 1))) else (some false)) = some r := H
                   have A42 := Aside0.mk A420
                   clear A420
                   by_cases c43 : (wrap64 (t358 + t363)) = 1
                   ·rw [if_pos c43] at H
                    have c43b0 : ((wrap64 (t358 + t363)) == 1) = true := beq_iff_eq.mpr c43
                    have c43b1 : ((wrap64 (t358 + t363)) != 1) = false := bne_eq_false_iff_eq.mpr c43
                    clear c43
                    have H' := Aside0.mk H
                    clear H
                    obtain ⟨Ao44, co44, eo44⟩ := Kd.N_slice HO_6.out
                    subst eo44
                    try go_wp2
                    have n0_ := Aside0.mk (Kd.N_drew HO_6.out)
                    have n1_ := Aside0.mk (Kd.N_drew HO_347000.out)
                    have n2_ := Aside0.mk (blk_drew BK346.out)
                    have n3_ := Aside0.mk (below_drew1 HB.out)
                    clear HO_6
                    clear HO_347000
                    clear BK346
                    clear HB
                    have HO_6 := n0_
                    have HO_347000 := n1_
                    have BK346 := n2_
                    have HB := n3_
                    clear n0_ n1_ n2_ n3_
                    have p354 : 0 ≤ (x11_3 : Int) := of_decide_eq_true (by first | (with_reducible assumption) | assumption)
                    have q354 : x11_3 < (t342.length : Int) := of_decide_eq_true (by first | (with_reducible assumption) | assumption)
                    obtain ⟨ad354, A354_0, c354_0, e354, hx354_0, hl354_0, hi354_0⟩ := at_L1 (Kd.N_reads' HO_6.out).2.2 x11_3 p354 q354
                    cases e354
                    obtain ⟨ce354, hce354, hMe354, hcc354⟩ := Kd.N_get HO_6.out [] x11_3 p354 (by first | exact q354 | exact of_decide_eq_true (by first | (with_reducible assumption) | assumption) | (have e_ := (Kd.N_reads' HO_6.out).1; omega))
                    obtain ⟨ua354_0, uc354_0, rfl, ul354_0, ge354_0⟩ := Kd.FK_slice_open hMe354
                    have hv354_0 := hcc354 0 _ rfl
                    rw [Nat.add_zero, show ((Kd.slice 2 (Kd.int .i64))).sz = 1 from rfl, Nat.mul_one] at hv354_0
                    replace hv354_0 := Option.some.inj (hv354_0.symm.trans hx354_0)
                    injection hv354_0 with hva_ hvn_ hvc_
                    rw [hva_] at ge354_0
                    rw [hvc_] at ul354_0
                    have HL354_0 := Aside0.mk (show Kd.V (Kd.int .i64) 2 _ w.heap.size _ _ (rd_L1 t342 x11_3) from Kd.V_mk ul354_0 ge354_0)
                    clear hva_ hvn_ hvc_ ge354_0 ul354_0
                    clear hcc354 hce354
                    have HR354_0 := Aside0.mk hi354_0
                    have HC354_0 := Aside0.mk hl354_0
                    clear hi354_0 hl354_0
                    replace p354 := eq_true p354
                    replace q354 := eq_true q354
                    have p355 : 0 ≤ (0 : Int) := (by omega)
                    have q355 : 0 < ((rd_L1 t342 x11_3).length : Int) := of_decide_eq_true (by first | (with_reducible assumption) | assumption)
                    obtain ⟨ad355, e355, hx355_0⟩ := Kd.at_int (by repeat (first | (with_reducible exact HR354_0.out) | (with_reducible refine Kd.C_alloc ?_ _) | (with_reducible refine Kd.C_drewN ?_ _) | (with_reducible refine Kd.C_drew ?_) | exact HR354_0.out)) 0 p355 q355
                    cases e355
                    have qi355 : (0 < (rd_L1 t342 x11_3).length) = True := eq_true (by omega)
                    (try rw [show ((0 : Int)).toNat = 0 from rfl] at hx355_0)
                    (try rw [Addr.add_zero'] at hx355_0)
                    replace p355 := eq_true p355
                    replace q355 := eq_true q355
                    have p356 : 0 ≤ ((ji35) : Int) := of_decide_eq_true (by first | (with_reducible assumption) | assumption)
                    have q356 : (ji35) < (t342.length : Int) := of_decide_eq_true (by first | (with_reducible assumption) | assumption)
                    obtain ⟨ad356, A356_0, c356_0, e356, hx356_0, hl356_0, hi356_0⟩ := at_L1 (Kd.N_reads' HO_6.out).2.2 (ji35) p356 q356
                    obtain rfl : ad354 = ad356 := (by injection e356)
                    obtain ⟨ce356, hce356, hMe356, hcc356⟩ := Kd.N_get HO_6.out [] (ji35) p356 (by first | exact q356 | exact of_decide_eq_true (by first | (with_reducible assumption) | assumption) | (have e_ := (Kd.N_reads' HO_6.out).1; omega))
                    obtain ⟨ua356_0, uc356_0, rfl, ul356_0, ge356_0⟩ := Kd.FK_slice_open hMe356
                    have hv356_0 := hcc356 0 _ rfl
                    rw [Nat.add_zero, show ((Kd.slice 2 (Kd.int .i64))).sz = 1 from rfl, Nat.mul_one] at hv356_0
                    replace hv356_0 := Option.some.inj (hv356_0.symm.trans hx356_0)
                    injection hv356_0 with hva_ hvn_ hvc_
                    rw [hva_] at ge356_0
                    rw [hvc_] at ul356_0
                    have HL356_0 := Aside0.mk (show Kd.V (Kd.int .i64) 2 _ w.heap.size _ _ (rd_L1 t342 (ji35)) from Kd.V_mk ul356_0 ge356_0)
                    clear hva_ hvn_ hvc_ ge356_0 ul356_0
                    clear hcc356 hce356
                    have HR356_0 := Aside0.mk hi356_0
                    have HC356_0 := Aside0.mk hl356_0
                    clear hi356_0 hl356_0
                    replace p356 := eq_true p356
                    replace q356 := eq_true q356
                    have p357 : 0 ≤ (0 : Int) := (by omega)
                    have q357 : 0 < ((rd_L1 t342 (ji35)).length : Int) := of_decide_eq_true (by first | (with_reducible assumption) | assumption)
                    obtain ⟨ad357, e357, hx357_0⟩ := Kd.at_int (by repeat (first | (with_reducible exact HR356_0.out) | (with_reducible refine Kd.C_alloc ?_ _) | (with_reducible refine Kd.C_drewN ?_ _) | (with_reducible refine Kd.C_drew ?_) | exact HR356_0.out)) 0 p357 q357
                    cases e357
                    have qi357 : (0 < (rd_L1 t342 (ji35)).length) = True := eq_true (by omega)
                    (try rw [show ((0 : Int)).toNat = 0 from rfl] at hx357_0)
                    (try rw [Addr.add_zero'] at hx357_0)
                    replace p357 := eq_true p357
                    replace q357 := eq_true q357
                    have p359 : 0 ≤ (x11_3 : Int) := of_decide_eq_true (by first | (with_reducible assumption) | assumption)
                    have q359 : x11_3 < (t342.length : Int) := of_decide_eq_true (by first | (with_reducible assumption) | assumption)
                    obtain ⟨ad359, A359_0, c359_0, e359, hx359_0, hl359_0, hi359_0⟩ := at_L1 (Kd.N_reads' HO_6.out).2.2 x11_3 p359 q359
                    obtain rfl : ad354 = ad359 := (by injection e359)
                    obtain ⟨ce359, hce359, hMe359, hcc359⟩ := Kd.N_get HO_6.out [] x11_3 p359 (by first | exact q359 | exact of_decide_eq_true (by first | (with_reducible assumption) | assumption) | (have e_ := (Kd.N_reads' HO_6.out).1; omega))
                    obtain ⟨ua359_0, uc359_0, rfl, ul359_0, ge359_0⟩ := Kd.FK_slice_open hMe359
                    have hv359_0 := hcc359 0 _ rfl
                    rw [Nat.add_zero, show ((Kd.slice 2 (Kd.int .i64))).sz = 1 from rfl, Nat.mul_one] at hv359_0
                    replace hv359_0 := Option.some.inj (hv359_0.symm.trans hx359_0)
                    injection hv359_0 with hva_ hvn_ hvc_
                    rw [hva_] at ge359_0
                    rw [hvc_] at ul359_0
                    have HL359_0 := Aside0.mk (show Kd.V (Kd.int .i64) 2 _ w.heap.size _ _ (rd_L1 t342 x11_3) from Kd.V_mk ul359_0 ge359_0)
                    clear hva_ hvn_ hvc_ ge359_0 ul359_0
                    clear hcc359 hce359
                    have HR359_0 := Aside0.mk hi359_0
                    have HC359_0 := Aside0.mk hl359_0
                    clear hi359_0 hl359_0
                    replace p359 := eq_true p359
                    replace q359 := eq_true q359
                    have ea_ := Option.some.inj (hx354_0.symm.trans hx359_0)
                    injection ea_ with ea_ en_ ec_
                    subst ea_
                    subst ec_
                    clear en_
                    have p360 : 0 ≤ (1 : Int) := (by omega)
                    have q360 : 1 < ((rd_L1 t342 x11_3).length : Int) := of_decide_eq_true (by first | (with_reducible assumption) | assumption)
                    obtain ⟨ad360, e360, hx360_0⟩ := Kd.at_int (by repeat (first | (with_reducible exact HR359_0.out) | (with_reducible refine Kd.C_alloc ?_ _) | (with_reducible refine Kd.C_drewN ?_ _) | (with_reducible refine Kd.C_drew ?_) | exact HR359_0.out)) 1 p360 q360
                    cases e360
                    (try simp only [show (1 : Int).toNat = 1 from rfl, Nat.reduceMul, Nat.reduceEqDiff, Go.Addr.add, ↓reduceIte] at hx360_0)
                    have qi360 : (1 < (rd_L1 t342 x11_3).length) = True := eq_true (by omega)
                    (try rw [show ((1 : Int)).toNat = 1 from rfl] at hx360_0)
                    replace p360 := eq_true p360
                    replace q360 := eq_true q360
                    have p361 : 0 ≤ ((ji35) : Int) := of_decide_eq_true (by first | (with_reducible assumption) | assumption)
                    have q361 : (ji35) < (t342.length : Int) := of_decide_eq_true (by first | (with_reducible assumption) | assumption)
                    obtain ⟨ad361, A361_0, c361_0, e361, hx361_0, hl361_0, hi361_0⟩ := at_L1 (Kd.N_reads' HO_6.out).2.2 (ji35) p361 q361
                    obtain rfl : ad354 = ad361 := (by injection e361)
                    obtain ⟨ce361, hce361, hMe361, hcc361⟩ := Kd.N_get HO_6.out [] (ji35) p361 (by first | exact q361 | exact of_decide_eq_true (by first | (with_reducible assumption) | assumption) | (have e_ := (Kd.N_reads' HO_6.out).1; omega))
                    obtain ⟨ua361_0, uc361_0, rfl, ul361_0, ge361_0⟩ := Kd.FK_slice_open hMe361
                    have hv361_0 := hcc361 0 _ rfl
                    rw [Nat.add_zero, show ((Kd.slice 2 (Kd.int .i64))).sz = 1 from rfl, Nat.mul_one] at hv361_0
                    replace hv361_0 := Option.some.inj (hv361_0.symm.trans hx361_0)
                    injection hv361_0 with hva_ hvn_ hvc_
                    rw [hva_] at ge361_0
                    rw [hvc_] at ul361_0
                    have HL361_0 := Aside0.mk (show Kd.V (Kd.int .i64) 2 _ w.heap.size _ _ (rd_L1 t342 (ji35)) from Kd.V_mk ul361_0 ge361_0)
                    clear hva_ hvn_ hvc_ ge361_0 ul361_0
                    clear hcc361 hce361
                    have HR361_0 := Aside0.mk hi361_0
                    have HC361_0 := Aside0.mk hl361_0
                    clear hi361_0 hl361_0
                    replace p361 := eq_true p361
                    replace q361 := eq_true q361
                    have ea_ := Option.some.inj (hx356_0.symm.trans hx361_0)
                    injection ea_ with ea_ en_ ec_
                    subst ea_
                    subst ec_
                    clear en_
                    have p362 : 0 ≤ (1 : Int) := (by omega)
                    have q362 : 1 < ((rd_L1 t342 (ji35)).length : Int) := of_decide_eq_true (by first | (with_reducible assumption) | assumption)
                    obtain ⟨ad362, e362, hx362_0⟩ := Kd.at_int (by repeat (first | (with_reducible exact HR361_0.out) | (with_reducible refine Kd.C_alloc ?_ _) | (with_reducible refine Kd.C_drewN ?_ _) | (with_reducible refine Kd.C_drew ?_) | exact HR361_0.out)) 1 p362 q362
                    cases e362
                    (try simp only [show (1 : Int).toNat = 1 from rfl, Nat.reduceMul, Nat.reduceEqDiff, Go.Addr.add, ↓reduceIte] at hx362_0)
                    have qi362 : (1 < (rd_L1 t342 (ji35)).length) = True := eq_true (by omega)
                    (try rw [show ((1 : Int)).toNat = 1 from rfl] at hx362_0)
                    replace p362 := eq_true p362
                    replace q362 := eq_true q362
                    refine start_ (n := 32) (S := fun w' => w'.cell? (ad354.add (x11_3).toNat) = some (.slice (some ad355) (rd_L1 t342 x11_3).length c354_0) ∧ w'.cell? ad355 = some (.int .i64 (rd (rd_L1 t342 x11_3) 0)) ∧ w'.cell? (ad354.add ((ji35)).toNat) = some (.slice (some ad357) (rd_L1 t342 (ji35)).length c356_0) ∧ w'.cell? ad357 = some (.int .i64 (rd (rd_L1 t342 (ji35)) 0)) ∧ w'.cell? (ad354.add (x11_3).toNat) = some (.slice (some ad355) (rd_L1 t342 x11_3).length c354_0) ∧ w'.cell? ⟨ad355.block, ad355.off + 1, none⟩ = some (.int .i64 (rd (rd_L1 t342 x11_3) 1)) ∧ w'.cell? (ad354.add ((ji35)).toNat) = some (.slice (some ad357) (rd_L1 t342 (ji35)).length c356_0) ∧ w'.cell? ⟨ad357.block, ad357.off + 1, none⟩ = some (.int .i64 (rd (rd_L1 t342 (ji35)) 1))) (ds := []) #[false, false, false, false, false, false, false, false, false, false, false, false, false, false, false, false, false, false, false, false, false, false, false, false, false, false, false, false, false, false, false, false] (by kernel_rfl) rfl rfl ⟨hx354_0, hx355_0, hx356_0, hx357_0, hx359_0, hx360_0, hx361_0, hx362_0⟩ (fun hHeld => ?_); refine with_tabW laws_FnPaths.tab16 laws_FnPaths.bits16 (fun HT_ HW_ => ?_)
                    generalize wr.drew = w45 at HO_6 HO_347000 BK346 HB HL354_0 HL356_0 HL359_0 HL361_0 HR354_0 HR356_0 HR359_0 HR361_0 hx354_0 hx355_0 hx356_0 hx357_0 hx359_0 hx360_0 hx361_0 hx362_0 hHeld ⊢
                    refine pure_ (i := 0) (N := some 61) (v := ?_) (a' := ?_) #[true, false, false, false, false, false, false, false, false, false, false, false, false, false, false, false, false, false, false, false, false, false, false, false, false, false, false, false, false, false, false, false] rfl rfl (any_of HT_.out (by kernel_rfl)) (fun _ _ _ h => h) (Or.inl ⟨by rfl, ?_⟩) ?_ ?_
                    rotate_left; (intro w'; go_simp; with_reducible rfl); rotate_left; (simp only [Act.put, List.setIfInBounds_toArray, List.set_cons_zero, List.set_cons_succ, i64_w, i32_w]; rfl)
                    refine pure_ (i := 1) (N := some 62) (v := ?_) (a' := ?_) #[true, true, false, false, false, false, false, false, false, false, false, false, false, false, false, false, false, false, false, false, false, false, false, false, false, false, false, false, false, false, false, false] rfl rfl (any_of HT_.out (by kernel_rfl)) (fun _ _ _ h => h) (Or.inl ⟨by rfl, ?_⟩) ?_ ?_
                    rotate_left; (intro w'; go_simp; with_reducible rfl); rotate_left; (simp only [Act.put, List.setIfInBounds_toArray, List.set_cons_zero, List.set_cons_succ, i64_w, i32_w]; rfl)
                    refine pure_ (i := 2) (N := some 63) (v := ?_) (a' := ?_) #[true, true, true, false, false, false, false, false, false, false, false, false, false, false, false, false, false, false, false, false, false, false, false, false, false, false, false, false, false, false, false, false] rfl rfl (any_of HT_.out (by kernel_rfl)) (fun _ _ _ h => h) (Or.inl ⟨by rfl, ?_⟩) ?_ ?_
                    rotate_left; (intro w'; go_simp; with_reducible rfl); rotate_left; (simp only [Act.put, List.setIfInBounds_toArray, List.set_cons_zero, List.set_cons_succ, i64_w, i32_w]; rfl)
                    refine pure_ (i := 6) (N := some 67) (v := ?_) (a' := ?_) #[true, true, true, false, false, false, true, false, false, false, false, false, false, false, false, false, false, false, false, false, false, false, false, false, false, false, false, false, false, false, false, false] rfl rfl (any_of HT_.out (by kernel_rfl)) (fun _ _ _ h => h) (Or.inl ⟨by rfl, ?_⟩) ?_ ?_
                    rotate_left; (intro w'; go_simp; with_reducible rfl); rotate_left; (simp only [Act.put, List.setIfInBounds_toArray, List.set_cons_zero, List.set_cons_succ, i64_w, i32_w]; rfl)
                    refine pure_ (i := 7) (N := some 68) (v := ?_) (a' := ?_) #[true, true, true, false, false, false, true, true, false, false, false, false, false, false, false, false, false, false, false, false, false, false, false, false, false, false, false, false, false, false, false, false] rfl rfl (any_of HT_.out (by kernel_rfl)) (fun _ _ _ h => h) (Or.inl ⟨by rfl, ?_⟩) ?_ ?_
                    rotate_left; (intro w'; go_simp; with_reducible rfl); rotate_left; (simp only [Act.put, List.setIfInBounds_toArray, List.set_cons_zero, List.set_cons_succ, i64_w, i32_w]; rfl)
                    refine pure_ (i := 8) (N := some 69) (v := ?_) (a' := ?_) #[true, true, true, false, false, false, true, true, true, false, false, false, false, false, false, false, false, false, false, false, false, false, false, false, false, false, false, false, false, false, false, false] rfl rfl (any_of HT_.out (by kernel_rfl)) (fun _ _ _ h => h) (Or.inl ⟨by rfl, ?_⟩) ?_ ?_
                    rotate_left; (intro w'; go_simp; with_reducible rfl); rotate_left; (simp only [Act.put, List.setIfInBounds_toArray, List.set_cons_zero, List.set_cons_succ, i64_w, i32_w]; rfl)
                    refine pure_ (i := 9) (N := some 70) (v := ?_) (a' := ?_) #[true, true, true, false, false, false, true, true, true, true, false, false, false, false, false, false, false, false, false, false, false, false, false, false, false, false, false, false, false, false, false, false] rfl rfl (any_of HT_.out (by kernel_rfl)) (fun _ _ _ h => h) (Or.inl ⟨by rfl, ?_⟩) ?_ ?_
                    rotate_left; (intro w'; go_simp; with_reducible rfl); rotate_left; (simp only [Act.put, List.setIfInBounds_toArray, List.set_cons_zero, List.set_cons_succ, i64_w, i32_w]; rfl)
                    refine pure_ (i := 15) (N := some 76) (v := ?_) (a' := ?_) #[true, true, true, false, false, false, true, true, true, true, false, false, false, false, false, true, false, false, false, false, false, false, false, false, false, false, false, false, false, false, false, false] rfl rfl (any_of HT_.out (by kernel_rfl)) (fun _ _ _ h => h) (Or.inl ⟨by rfl, ?_⟩) ?_ ?_
                    rotate_left; (intro w'; go_simp; with_reducible rfl); rotate_left; (simp only [Act.put, List.setIfInBounds_toArray, List.set_cons_zero, List.set_cons_succ, i64_w, i32_w]; rfl)
                    refine pure_ (i := 16) (N := some 77) (v := ?_) (a' := ?_) #[true, true, true, false, false, false, true, true, true, true, false, false, false, false, false, true, true, false, false, false, false, false, false, false, false, false, false, false, false, false, false, false] rfl rfl (any_of HT_.out (by kernel_rfl)) (fun _ _ _ h => h) (Or.inl ⟨by rfl, ?_⟩) ?_ ?_
                    rotate_left; (intro w'; go_simp; with_reducible rfl); rotate_left; (simp only [Act.put, List.setIfInBounds_toArray, List.set_cons_zero, List.set_cons_succ, i64_w, i32_w]; rfl)
                    refine pure_ (i := 17) (N := some 78) (v := ?_) (a' := ?_) #[true, true, true, false, false, false, true, true, true, true, false, false, false, false, false, true, true, true, false, false, false, false, false, false, false, false, false, false, false, false, false, false] rfl rfl (any_of HT_.out (by kernel_rfl)) (fun _ _ _ h => h) (Or.inl ⟨by rfl, ?_⟩) ?_ ?_
                    rotate_left; (intro w'; go_simp; with_reducible rfl); rotate_left; (simp only [Act.put, List.setIfInBounds_toArray, List.set_cons_zero, List.set_cons_succ, i64_w, i32_w]; rfl)
                    refine pure_ (i := 21) (N := some 82) (v := ?_) (a' := ?_) #[true, true, true, false, false, false, true, true, true, true, false, false, false, false, false, true, true, true, false, false, false, true, false, false, false, false, false, false, false, false, false, false] rfl rfl (any_of HT_.out (by kernel_rfl)) (fun _ _ _ h => h) (Or.inl ⟨by rfl, ?_⟩) ?_ ?_
                    rotate_left; (intro w'; go_simp; with_reducible rfl); rotate_left; (simp only [Act.put, List.setIfInBounds_toArray, List.set_cons_zero, List.set_cons_succ, i64_w, i32_w]; rfl)
                    refine pure_ (i := 22) (N := some 83) (v := ?_) (a' := ?_) #[true, true, true, false, false, false, true, true, true, true, false, false, false, false, false, true, true, true, false, false, false, true, true, false, false, false, false, false, false, false, false, false] rfl rfl (any_of HT_.out (by kernel_rfl)) (fun _ _ _ h => h) (Or.inl ⟨by rfl, ?_⟩) ?_ ?_
                    rotate_left; (intro w'; go_simp; with_reducible rfl); rotate_left; (simp only [Act.put, List.setIfInBounds_toArray, List.set_cons_zero, List.set_cons_succ, i64_w, i32_w]; rfl)
                    refine pure_ (i := 23) (N := some 84) (v := ?_) (a' := ?_) #[true, true, true, false, false, false, true, true, true, true, false, false, false, false, false, true, true, true, false, false, false, true, true, true, false, false, false, false, false, false, false, false] rfl rfl (any_of HT_.out (by kernel_rfl)) (fun _ _ _ h => h) (Or.inl ⟨by rfl, ?_⟩) ?_ ?_
                    rotate_left; (intro w'; go_simp; with_reducible rfl); rotate_left; (simp only [Act.put, List.setIfInBounds_toArray, List.set_cons_zero, List.set_cons_succ, i64_w, i32_w]; rfl)
                    refine pure_ (i := 24) (N := some 85) (v := ?_) (a' := ?_) #[true, true, true, false, false, false, true, true, true, true, false, false, false, false, false, true, true, true, false, false, false, true, true, true, true, false, false, false, false, false, false, false] rfl rfl (any_of HT_.out (by kernel_rfl)) (fun _ _ _ h => h) (Or.inl ⟨by rfl, ?_⟩) ?_ ?_
                    rotate_left; (intro w'; go_simp; with_reducible rfl); rotate_left; (simp only [Act.put, List.setIfInBounds_toArray, List.set_cons_zero, List.set_cons_succ, i64_w, i32_w]; rfl)
                    refine take_ (i := 3) (N := some 64) (v := ?_) (a' := ?_) #[true, true, true, true, false, false, true, true, true, true, false, false, false, false, false, true, true, true, false, false, false, true, true, true, true, false, false, false, false, false, false, false] rfl rfl (take_ofW HT_.out HW_.out (by kernel_rfl)) (fun _ _ _ h => h) (Or.inl ⟨by rfl, ?_⟩) hHeld ?_ ?_
                    rotate_left; (rintro w' ⟨s0, s1, s2, s3, s4, s5, s6, s7⟩; go_simp; with_reducible rfl); rotate_left; (simp only [Act.put, List.setIfInBounds_toArray, List.set_cons_zero, List.set_cons_succ, i64_w, i32_w]; rfl)
                    refine pure_ (i := 4) (N := some 65) (v := ?_) (a' := ?_) #[true, true, true, true, true, false, true, true, true, true, false, false, false, false, false, true, true, true, false, false, false, true, true, true, true, false, false, false, false, false, false, false] rfl rfl (any_of HT_.out (by kernel_rfl)) (fun _ _ _ h => h) (Or.inl ⟨by rfl, ?_⟩) ?_ ?_
                    rotate_left; (intro w'; go_simp; with_reducible rfl); rotate_left; (simp only [Act.put, List.setIfInBounds_toArray, List.set_cons_zero, List.set_cons_succ, i64_w, i32_w]; rfl)
                    refine take_ (i := 5) (N := some 66) (v := ?_) (a' := ?_) #[true, true, true, true, true, true, true, true, true, true, false, false, false, false, false, true, true, true, false, false, false, true, true, true, true, false, false, false, false, false, false, false] rfl rfl (take_ofW HT_.out HW_.out (by kernel_rfl)) (fun _ _ _ h => h) (Or.inl ⟨by rfl, ?_⟩) hHeld ?_ ?_
                    rotate_left; (rintro w' ⟨s0, s1, s2, s3, s4, s5, s6, s7⟩; go_simp; with_reducible rfl); rotate_left; (simp only [Act.put, List.setIfInBounds_toArray, List.set_cons_zero, List.set_cons_succ, i64_w, i32_w]; rfl)
                    refine take_ (i := 10) (N := some 71) (v := ?_) (a' := ?_) #[true, true, true, true, true, true, true, true, true, true, true, false, false, false, false, true, true, true, false, false, false, true, true, true, true, false, false, false, false, false, false, false] rfl rfl (take_ofW HT_.out HW_.out (by kernel_rfl)) (fun _ _ _ h => h) (Or.inl ⟨by rfl, ?_⟩) hHeld ?_ ?_
                    rotate_left; (rintro w' ⟨s0, s1, s2, s3, s4, s5, s6, s7⟩; go_simp; with_reducible rfl); rotate_left; (simp only [Act.put, List.setIfInBounds_toArray, List.set_cons_zero, List.set_cons_succ, i64_w, i32_w]; rfl)
                    refine pure_ (i := 11) (N := some 72) (v := ?_) (a' := ?_) #[true, true, true, true, true, true, true, true, true, true, true, true, false, false, false, true, true, true, false, false, false, true, true, true, true, false, false, false, false, false, false, false] rfl rfl (any_of HT_.out (by kernel_rfl)) (fun _ _ _ h => h) (Or.inl ⟨by rfl, ?_⟩) ?_ ?_
                    rotate_left; (intro w'; go_simp; with_reducible rfl); rotate_left; (simp only [Act.put, List.setIfInBounds_toArray, List.set_cons_zero, List.set_cons_succ, i64_w, i32_w]; rfl)
                    refine take_ (i := 12) (N := some 73) (v := ?_) (a' := ?_) #[true, true, true, true, true, true, true, true, true, true, true, true, true, false, false, true, true, true, false, false, false, true, true, true, true, false, false, false, false, false, false, false] rfl rfl (take_ofW HT_.out HW_.out (by kernel_rfl)) (fun _ _ _ h => h) (Or.inl ⟨by rfl, ?_⟩) hHeld ?_ ?_
                    rotate_left; (rintro w' ⟨s0, s1, s2, s3, s4, s5, s6, s7⟩; go_simp; with_reducible rfl); rotate_left; (simp only [Act.put, List.setIfInBounds_toArray, List.set_cons_zero, List.set_cons_succ, i64_w, i32_w]; rfl)
                    refine pure_ (i := 13) (N := some 74) (v := ?_) (a' := ?_) #[true, true, true, true, true, true, true, true, true, true, true, true, true, true, false, true, true, true, false, false, false, true, true, true, true, false, false, false, false, false, false, false] rfl rfl (any_of HT_.out (by kernel_rfl)) (fun _ _ _ h => h) (Or.inl ⟨by rfl, ?_⟩) ?_ ?_
                    rotate_left; (intro w'; go_simp; with_reducible rfl); rotate_left; (simp only [Act.put, List.setIfInBounds_toArray, List.set_cons_zero, List.set_cons_succ, i64_w, i32_w]; rfl)
                    refine take_ (i := 18) (N := some 79) (v := ?_) (a' := ?_) #[true, true, true, true, true, true, true, true, true, true, true, true, true, true, false, true, true, true, true, false, false, true, true, true, true, false, false, false, false, false, false, false] rfl rfl (take_ofW HT_.out HW_.out (by kernel_rfl)) (fun _ _ _ h => h) (Or.inl ⟨by rfl, ?_⟩) hHeld ?_ ?_
                    rotate_left; (rintro w' ⟨s0, s1, s2, s3, s4, s5, s6, s7⟩; go_simp; with_reducible rfl); rotate_left; (simp only [Act.put, List.setIfInBounds_toArray, List.set_cons_zero, List.set_cons_succ, i64_w, i32_w]; rfl)
                    refine pure_ (i := 19) (N := some 80) (v := ?_) (a' := ?_) #[true, true, true, true, true, true, true, true, true, true, true, true, true, true, false, true, true, true, true, true, false, true, true, true, true, false, false, false, false, false, false, false] rfl rfl (any_of HT_.out (by kernel_rfl)) (fun _ _ _ h => h) (Or.inl ⟨by rfl, ?_⟩) ?_ ?_
                    rotate_left; (intro w'; go_simp; with_reducible rfl); rotate_left; (simp only [Act.put, List.setIfInBounds_toArray, List.set_cons_zero, List.set_cons_succ, i64_w, i32_w]; rfl)
                    refine take_ (i := 20) (N := some 81) (v := ?_) (a' := ?_) #[true, true, true, true, true, true, true, true, true, true, true, true, true, true, false, true, true, true, true, true, true, true, true, true, true, false, false, false, false, false, false, false] rfl rfl (take_ofW HT_.out HW_.out (by kernel_rfl)) (fun _ _ _ h => h) (Or.inl ⟨by rfl, ?_⟩) hHeld ?_ ?_
                    rotate_left; (rintro w' ⟨s0, s1, s2, s3, s4, s5, s6, s7⟩; go_simp; with_reducible rfl); rotate_left; (simp only [Act.put, List.setIfInBounds_toArray, List.set_cons_zero, List.set_cons_succ, i64_w, i32_w]; rfl)
                    refine take_ (i := 25) (N := some 86) (v := ?_) (a' := ?_) #[true, true, true, true, true, true, true, true, true, true, true, true, true, true, false, true, true, true, true, true, true, true, true, true, true, true, false, false, false, false, false, false] rfl rfl (take_ofW HT_.out HW_.out (by kernel_rfl)) (fun _ _ _ h => h) (Or.inl ⟨by rfl, ?_⟩) hHeld ?_ ?_
                    rotate_left; (rintro w' ⟨s0, s1, s2, s3, s4, s5, s6, s7⟩; go_simp; with_reducible rfl); rotate_left; (simp only [Act.put, List.setIfInBounds_toArray, List.set_cons_zero, List.set_cons_succ, i64_w, i32_w]; rfl)
                    refine pure_ (i := 26) (N := some 87) (v := ?_) (a' := ?_) #[true, true, true, true, true, true, true, true, true, true, true, true, true, true, false, true, true, true, true, true, true, true, true, true, true, true, true, false, false, false, false, false] rfl rfl (any_of HT_.out (by kernel_rfl)) (fun _ _ _ h => h) (Or.inl ⟨by rfl, ?_⟩) ?_ ?_
                    rotate_left; (intro w'; go_simp; with_reducible rfl); rotate_left; (simp only [Act.put, List.setIfInBounds_toArray, List.set_cons_zero, List.set_cons_succ, i64_w, i32_w]; rfl)
                    refine take_ (i := 27) (N := some 88) (v := ?_) (a' := ?_) #[true, true, true, true, true, true, true, true, true, true, true, true, true, true, false, true, true, true, true, true, true, true, true, true, true, true, true, true, false, false, false, false] rfl rfl (take_ofW HT_.out HW_.out (by kernel_rfl)) (fun _ _ _ h => h) (Or.inl ⟨by rfl, ?_⟩) hHeld ?_ ?_
                    rotate_left; (rintro w' ⟨s0, s1, s2, s3, s4, s5, s6, s7⟩; go_simp; with_reducible rfl); rotate_left; (simp only [Act.put, List.setIfInBounds_toArray, List.set_cons_zero, List.set_cons_succ, i64_w, i32_w]; rfl)
                    refine pure_ (i := 28) (N := some 89) (v := ?_) (a' := ?_) #[true, true, true, true, true, true, true, true, true, true, true, true, true, true, false, true, true, true, true, true, true, true, true, true, true, true, true, true, true, false, false, false] rfl rfl (any_of HT_.out (by kernel_rfl)) (fun _ _ _ h => h) (Or.inl ⟨by rfl, ?_⟩) ?_ ?_
                    rotate_left; (intro w'; go_simp; with_reducible rfl); rotate_left; (simp only [Act.put, List.setIfInBounds_toArray, List.set_cons_zero, List.set_cons_succ, i64_w, i32_w]; rfl)
                    refine one_ (i := 14) (N := some 75) #[true, true, true, true, true, true, true, true, true, true, true, true, true, true, true, true, true, true, true, true, true, true, true, true, true, true, true, true, true, false, false, false] rfl rfl (one_of HT_.out (by kernel_rfl)) (by decide) (fun K hK => ?_)
                    refine goes_ Try.func25 (by kernel_rfl) rfl #[.int .i64 (wrap64 ((rd (rd_L1 t342 x11_3) 0) - (rd (rd_L1 t342 (ji35)) 0)))] (by rfl) rfl rfl (by (try simp only [List.map_toArray, List.map_cons, List.map_nil]); first | done | (simp only [hji35]; rfl) | rfl | (simp only [List.length_drop, List.length_take]; rfl)) ?_
                    with_reducible refine (laws_b10Abs.calls (wrap64 ((rd (rd_L1 t342 x11_3) 0) - (rd (rd_L1 t342 (ji35)) 0))) t358 _ A39.out).mono ?_
                    rintro e w' ⟨rfl, ⟨nd, rfl⟩⟩
                    refine ⟨_, rfl, ?_⟩
                    refine hK.out _ _ ⟨hHeld.1, hHeld.2.1, hHeld.2.2.1, hHeld.2.2.2.1, hHeld.2.2.2.2.1, hHeld.2.2.2.2.2.1, hHeld.2.2.2.2.2.2.1, hHeld.2.2.2.2.2.2.2⟩ (fun hHeld => ?_)
                    clear hK K
                    refine norm_ (a' := ?_) ?_ ?_
                    rotate_left
                    ·show Act.put _ (some 75) _ = _
                     simp only [Act.put, List.setIfInBounds_toArray, List.set_cons_zero, List.set_cons_succ, i64_w, i32_w]
                     rfl
                    refine one_ (i := 29) (N := some 90) #[true, true, true, true, true, true, true, true, true, true, true, true, true, true, true, true, true, true, true, true, true, true, true, true, true, true, true, true, true, true, false, false] rfl rfl (one_of HT_.out (by kernel_rfl)) (by decide) (fun K hK => ?_)
                    refine goes_ Try.func25 (by kernel_rfl) rfl #[.int .i64 (wrap64 ((rd (rd_L1 t342 x11_3) 1) - (rd (rd_L1 t342 (ji35)) 1)))] (by rfl) rfl rfl (by (try simp only [List.map_toArray, List.map_cons, List.map_nil]); first | done | (simp only [hji35]; rfl) | rfl | (simp only [List.length_drop, List.length_take]; rfl)) ?_
                    with_reducible refine (laws_b10Abs.calls (wrap64 ((rd (rd_L1 t342 x11_3) 1) - (rd (rd_L1 t342 (ji35)) 1))) t363 _ A42.out).mono ?_
                    rintro e w' ⟨rfl, ⟨nd, rfl⟩⟩
                    refine ⟨_, rfl, ?_⟩
                    refine hK.out _ _ ⟨hHeld.1, hHeld.2.1, hHeld.2.2.1, hHeld.2.2.2.1, hHeld.2.2.2.2.1, hHeld.2.2.2.2.2.1, hHeld.2.2.2.2.2.2.1, hHeld.2.2.2.2.2.2.2⟩ (fun hHeld => ?_)
                    clear hK K
                    refine norm_ (a' := ?_) ?_ ?_
                    rotate_left
                    ·show Act.put _ (some 90) _ = _
                     simp only [Act.put, List.setIfInBounds_toArray, List.set_cons_zero, List.set_cons_succ, i64_w, i32_w]
                     rfl
                    refine pure_ (i := 30) (N := some 91) (v := ?_) (a' := ?_) #[true, true, true, true, true, true, true, true, true, true, true, true, true, true, true, true, true, true, true, true, true, true, true, true, true, true, true, true, true, true, true, false] rfl rfl (any_of HT_.out (by kernel_rfl)) (fun _ _ _ h => h) (Or.inl ⟨by rfl, ?_⟩) ?_ ?_
                    rotate_left; (intro w'; go_simp; with_reducible rfl); rotate_left; (simp only [Act.put, List.setIfInBounds_toArray, List.set_cons_zero, List.set_cons_succ, i64_w, i32_w]; rfl)
                    refine pure_ (i := 31) (N := some 92) (v := ?_) (a' := ?_) #[true, true, true, true, true, true, true, true, true, true, true, true, true, true, true, true, true, true, true, true, true, true, true, true, true, true, true, true, true, true, true, true] rfl rfl (any_of HT_.out (by kernel_rfl)) (fun _ _ _ h => h) (Or.inl ⟨by rfl, ?_⟩) ?_ ?_
                    rotate_left; (intro w'; go_simp; with_reducible rfl); rotate_left; (simp only [Act.put, List.setIfInBounds_toArray, List.set_cons_zero, List.set_cons_succ, i64_w, i32_w]; rfl)
                    refine done_ (done_of HT_.out (by kernel_rfl)) ?_
                    try go_wp2
                    go_roundg k3
                    case measure => have := HK1.out; have := HJ23.out; have := HK3.out; omega
                    case rel => exact ⟨(wrap64 (x11_3 + 1)), (by first | rfl | (simp; done) | (simp [*]; done)), H', ⟨by have := HK1.out; have := HJ23.out; have := HK3.out; omega⟩, ⟨by (with_reducible repeat (first | apply Kd.N_alloc | apply Kd.N_drewN | apply Kd.N_drew)); exact HO_6.out⟩, ⟨by (with_reducible repeat (first | apply Kd.N_alloc | apply Kd.N_drewN | apply Kd.N_drew)); exact HO_347000.out⟩, ⟨by (with_reducible repeat (first | refine blk_drewN ?_ _ | refine blk_drew ?_ | refine blk_alloc ?_ _)); exact BK346.out⟩, ⟨by repeat (first | (with_reducible first | exact HB.out | apply below_alloc | apply pw_below_drewN | apply below_drew1 | refine below_set ?_ GE346.out) | exact HB.out)⟩⟩
                   ·rw [if_neg c43] at H
                    have c43b0 : ((wrap64 (t358 + t363)) == 1) = false := beq_eq_false_iff_ne.mpr c43
                    have c43b1 : ((wrap64 (t358 + t363)) != 1) = true := bne_iff_ne.mpr c43
                    obtain rfl := Option.some.inj H
                    obtain ⟨Ao46, co46, eo46⟩ := Kd.N_slice HO_6.out
                    subst eo46
                    try go_wp2
                    have n0_ := Aside0.mk (Kd.N_drew HO_6.out)
                    have n1_ := Aside0.mk (Kd.N_drew HO_347000.out)
                    have n2_ := Aside0.mk (blk_drew BK346.out)
                    have n3_ := Aside0.mk (below_drew1 HB.out)
                    clear HO_6
                    clear HO_347000
                    clear BK346
                    clear HB
                    have HO_6 := n0_
                    have HO_347000 := n1_
                    have BK346 := n2_
                    have HB := n3_
                    clear n0_ n1_ n2_ n3_
                    have p354 : 0 ≤ (x11_3 : Int) := of_decide_eq_true (by first | (with_reducible assumption) | assumption)
                    have q354 : x11_3 < (t342.length : Int) := of_decide_eq_true (by first | (with_reducible assumption) | assumption)
                    obtain ⟨ad354, A354_0, c354_0, e354, hx354_0, hl354_0, hi354_0⟩ := at_L1 (Kd.N_reads' HO_6.out).2.2 x11_3 p354 q354
                    cases e354
                    obtain ⟨ce354, hce354, hMe354, hcc354⟩ := Kd.N_get HO_6.out [] x11_3 p354 (by first | exact q354 | exact of_decide_eq_true (by first | (with_reducible assumption) | assumption) | (have e_ := (Kd.N_reads' HO_6.out).1; omega))
                    obtain ⟨ua354_0, uc354_0, rfl, ul354_0, ge354_0⟩ := Kd.FK_slice_open hMe354
                    have hv354_0 := hcc354 0 _ rfl
                    rw [Nat.add_zero, show ((Kd.slice 2 (Kd.int .i64))).sz = 1 from rfl, Nat.mul_one] at hv354_0
                    replace hv354_0 := Option.some.inj (hv354_0.symm.trans hx354_0)
                    injection hv354_0 with hva_ hvn_ hvc_
                    rw [hva_] at ge354_0
                    rw [hvc_] at ul354_0
                    have HL354_0 := Aside0.mk (show Kd.V (Kd.int .i64) 2 _ w.heap.size _ _ (rd_L1 t342 x11_3) from Kd.V_mk ul354_0 ge354_0)
                    clear hva_ hvn_ hvc_ ge354_0 ul354_0
                    clear hcc354 hce354
                    have HR354_0 := Aside0.mk hi354_0
                    have HC354_0 := Aside0.mk hl354_0
                    clear hi354_0 hl354_0
                    replace p354 := eq_true p354
                    replace q354 := eq_true q354
                    have p355 : 0 ≤ (0 : Int) := (by omega)
                    have q355 : 0 < ((rd_L1 t342 x11_3).length : Int) := of_decide_eq_true (by first | (with_reducible assumption) | assumption)
                    obtain ⟨ad355, e355, hx355_0⟩ := Kd.at_int (by repeat (first | (with_reducible exact HR354_0.out) | (with_reducible refine Kd.C_alloc ?_ _) | (with_reducible refine Kd.C_drewN ?_ _) | (with_reducible refine Kd.C_drew ?_) | exact HR354_0.out)) 0 p355 q355
                    cases e355
                    have qi355 : (0 < (rd_L1 t342 x11_3).length) = True := eq_true (by omega)
                    (try rw [show ((0 : Int)).toNat = 0 from rfl] at hx355_0)
                    (try rw [Addr.add_zero'] at hx355_0)
                    replace p355 := eq_true p355
                    replace q355 := eq_true q355
                    have p356 : 0 ≤ ((ji35) : Int) := of_decide_eq_true (by first | (with_reducible assumption) | assumption)
                    have q356 : (ji35) < (t342.length : Int) := of_decide_eq_true (by first | (with_reducible assumption) | assumption)
                    obtain ⟨ad356, A356_0, c356_0, e356, hx356_0, hl356_0, hi356_0⟩ := at_L1 (Kd.N_reads' HO_6.out).2.2 (ji35) p356 q356
                    obtain rfl : ad354 = ad356 := (by injection e356)
                    obtain ⟨ce356, hce356, hMe356, hcc356⟩ := Kd.N_get HO_6.out [] (ji35) p356 (by first | exact q356 | exact of_decide_eq_true (by first | (with_reducible assumption) | assumption) | (have e_ := (Kd.N_reads' HO_6.out).1; omega))
                    obtain ⟨ua356_0, uc356_0, rfl, ul356_0, ge356_0⟩ := Kd.FK_slice_open hMe356
                    have hv356_0 := hcc356 0 _ rfl
                    rw [Nat.add_zero, show ((Kd.slice 2 (Kd.int .i64))).sz = 1 from rfl, Nat.mul_one] at hv356_0
                    replace hv356_0 := Option.some.inj (hv356_0.symm.trans hx356_0)
                    injection hv356_0 with hva_ hvn_ hvc_
                    rw [hva_] at ge356_0
                    rw [hvc_] at ul356_0
                    have HL356_0 := Aside0.mk (show Kd.V (Kd.int .i64) 2 _ w.heap.size _ _ (rd_L1 t342 (ji35)) from Kd.V_mk ul356_0 ge356_0)
                    clear hva_ hvn_ hvc_ ge356_0 ul356_0
                    clear hcc356 hce356
                    have HR356_0 := Aside0.mk hi356_0
                    have HC356_0 := Aside0.mk hl356_0
                    clear hi356_0 hl356_0
                    replace p356 := eq_true p356
                    replace q356 := eq_true q356
                    have p357 : 0 ≤ (0 : Int) := (by omega)
                    have q357 : 0 < ((rd_L1 t342 (ji35)).length : Int) := of_decide_eq_true (by first | (with_reducible assumption) | assumption)
                    obtain ⟨ad357, e357, hx357_0⟩ := Kd.at_int (by repeat (first | (with_reducible exact HR356_0.out) | (with_reducible refine Kd.C_alloc ?_ _) | (with_reducible refine Kd.C_drewN ?_ _) | (with_reducible refine Kd.C_drew ?_) | exact HR356_0.out)) 0 p357 q357
                    cases e357
                    have qi357 : (0 < (rd_L1 t342 (ji35)).length) = True := eq_true (by omega)
                    (try rw [show ((0 : Int)).toNat = 0 from rfl] at hx357_0)
                    (try rw [Addr.add_zero'] at hx357_0)
                    replace p357 := eq_true p357
                    replace q357 := eq_true q357
                    have p359 : 0 ≤ (x11_3 : Int) := of_decide_eq_true (by first | (with_reducible assumption) | assumption)
                    have q359 : x11_3 < (t342.length : Int) := of_decide_eq_true (by first | (with_reducible assumption) | assumption)
                    obtain ⟨ad359, A359_0, c359_0, e359, hx359_0, hl359_0, hi359_0⟩ := at_L1 (Kd.N_reads' HO_6.out).2.2 x11_3 p359 q359
                    obtain rfl : ad354 = ad359 := (by injection e359)
                    obtain ⟨ce359, hce359, hMe359, hcc359⟩ := Kd.N_get HO_6.out [] x11_3 p359 (by first | exact q359 | exact of_decide_eq_true (by first | (with_reducible assumption) | assumption) | (have e_ := (Kd.N_reads' HO_6.out).1; omega))
                    obtain ⟨ua359_0, uc359_0, rfl, ul359_0, ge359_0⟩ := Kd.FK_slice_open hMe359
                    have hv359_0 := hcc359 0 _ rfl
                    rw [Nat.add_zero, show ((Kd.slice 2 (Kd.int .i64))).sz = 1 from rfl, Nat.mul_one] at hv359_0
                    replace hv359_0 := Option.some.inj (hv359_0.symm.trans hx359_0)
                    injection hv359_0 with hva_ hvn_ hvc_
                    rw [hva_] at ge359_0
                    rw [hvc_] at ul359_0
                    have HL359_0 := Aside0.mk (show Kd.V (Kd.int .i64) 2 _ w.heap.size _ _ (rd_L1 t342 x11_3) from Kd.V_mk ul359_0 ge359_0)
                    clear hva_ hvn_ hvc_ ge359_0 ul359_0
                    clear hcc359 hce359
                    have HR359_0 := Aside0.mk hi359_0
                    have HC359_0 := Aside0.mk hl359_0
                    clear hi359_0 hl359_0
                    replace p359 := eq_true p359
                    replace q359 := eq_true q359
                    have ea_ := Option.some.inj (hx354_0.symm.trans hx359_0)
                    injection ea_ with ea_ en_ ec_
                    subst ea_
                    subst ec_
                    clear en_
                    have p360 : 0 ≤ (1 : Int) := (by omega)
                    have q360 : 1 < ((rd_L1 t342 x11_3).length : Int) := of_decide_eq_true (by first | (with_reducible assumption) | assumption)
                    obtain ⟨ad360, e360, hx360_0⟩ := Kd.at_int (by repeat (first | (with_reducible exact HR359_0.out) | (with_reducible refine Kd.C_alloc ?_ _) | (with_reducible refine Kd.C_drewN ?_ _) | (with_reducible refine Kd.C_drew ?_) | exact HR359_0.out)) 1 p360 q360
                    cases e360
                    (try simp only [show (1 : Int).toNat = 1 from rfl, Nat.reduceMul, Nat.reduceEqDiff, Go.Addr.add, ↓reduceIte] at hx360_0)
                    have qi360 : (1 < (rd_L1 t342 x11_3).length) = True := eq_true (by omega)
                    (try rw [show ((1 : Int)).toNat = 1 from rfl] at hx360_0)
                    replace p360 := eq_true p360
                    replace q360 := eq_true q360
                    have p361 : 0 ≤ ((ji35) : Int) := of_decide_eq_true (by first | (with_reducible assumption) | assumption)
                    have q361 : (ji35) < (t342.length : Int) := of_decide_eq_true (by first | (with_reducible assumption) | assumption)
                    obtain ⟨ad361, A361_0, c361_0, e361, hx361_0, hl361_0, hi361_0⟩ := at_L1 (Kd.N_reads' HO_6.out).2.2 (ji35) p361 q361
                    obtain rfl : ad354 = ad361 := (by injection e361)
                    obtain ⟨ce361, hce361, hMe361, hcc361⟩ := Kd.N_get HO_6.out [] (ji35) p361 (by first | exact q361 | exact of_decide_eq_true (by first | (with_reducible assumption) | assumption) | (have e_ := (Kd.N_reads' HO_6.out).1; omega))
                    obtain ⟨ua361_0, uc361_0, rfl, ul361_0, ge361_0⟩ := Kd.FK_slice_open hMe361
                    have hv361_0 := hcc361 0 _ rfl
                    rw [Nat.add_zero, show ((Kd.slice 2 (Kd.int .i64))).sz = 1 from rfl, Nat.mul_one] at hv361_0
                    replace hv361_0 := Option.some.inj (hv361_0.symm.trans hx361_0)
                    injection hv361_0 with hva_ hvn_ hvc_
                    rw [hva_] at ge361_0
                    rw [hvc_] at ul361_0
                    have HL361_0 := Aside0.mk (show Kd.V (Kd.int .i64) 2 _ w.heap.size _ _ (rd_L1 t342 (ji35)) from Kd.V_mk ul361_0 ge361_0)
                    clear hva_ hvn_ hvc_ ge361_0 ul361_0
                    clear hcc361 hce361
                    have HR361_0 := Aside0.mk hi361_0
                    have HC361_0 := Aside0.mk hl361_0
                    clear hi361_0 hl361_0
                    replace p361 := eq_true p361
                    replace q361 := eq_true q361
                    have ea_ := Option.some.inj (hx356_0.symm.trans hx361_0)
                    injection ea_ with ea_ en_ ec_
                    subst ea_
                    subst ec_
                    clear en_
                    have p362 : 0 ≤ (1 : Int) := (by omega)
                    have q362 : 1 < ((rd_L1 t342 (ji35)).length : Int) := of_decide_eq_true (by first | (with_reducible assumption) | assumption)
                    obtain ⟨ad362, e362, hx362_0⟩ := Kd.at_int (by repeat (first | (with_reducible exact HR361_0.out) | (with_reducible refine Kd.C_alloc ?_ _) | (with_reducible refine Kd.C_drewN ?_ _) | (with_reducible refine Kd.C_drew ?_) | exact HR361_0.out)) 1 p362 q362
                    cases e362
                    (try simp only [show (1 : Int).toNat = 1 from rfl, Nat.reduceMul, Nat.reduceEqDiff, Go.Addr.add, ↓reduceIte] at hx362_0)
                    have qi362 : (1 < (rd_L1 t342 (ji35)).length) = True := eq_true (by omega)
                    (try rw [show ((1 : Int)).toNat = 1 from rfl] at hx362_0)
                    replace p362 := eq_true p362
                    replace q362 := eq_true q362
                    refine start_ (n := 32) (S := fun w' => w'.cell? (ad354.add (x11_3).toNat) = some (.slice (some ad355) (rd_L1 t342 x11_3).length c354_0) ∧ w'.cell? ad355 = some (.int .i64 (rd (rd_L1 t342 x11_3) 0)) ∧ w'.cell? (ad354.add ((ji35)).toNat) = some (.slice (some ad357) (rd_L1 t342 (ji35)).length c356_0) ∧ w'.cell? ad357 = some (.int .i64 (rd (rd_L1 t342 (ji35)) 0)) ∧ w'.cell? (ad354.add (x11_3).toNat) = some (.slice (some ad355) (rd_L1 t342 x11_3).length c354_0) ∧ w'.cell? ⟨ad355.block, ad355.off + 1, none⟩ = some (.int .i64 (rd (rd_L1 t342 x11_3) 1)) ∧ w'.cell? (ad354.add ((ji35)).toNat) = some (.slice (some ad357) (rd_L1 t342 (ji35)).length c356_0) ∧ w'.cell? ⟨ad357.block, ad357.off + 1, none⟩ = some (.int .i64 (rd (rd_L1 t342 (ji35)) 1))) (ds := []) #[false, false, false, false, false, false, false, false, false, false, false, false, false, false, false, false, false, false, false, false, false, false, false, false, false, false, false, false, false, false, false, false] (by kernel_rfl) rfl rfl ⟨hx354_0, hx355_0, hx356_0, hx357_0, hx359_0, hx360_0, hx361_0, hx362_0⟩ (fun hHeld => ?_); refine with_tabW laws_FnPaths.tab16 laws_FnPaths.bits16 (fun HT_ HW_ => ?_)
                    generalize wr.drew = w47 at HO_6 HO_347000 BK346 HB HL354_0 HL356_0 HL359_0 HL361_0 HR354_0 HR356_0 HR359_0 HR361_0 hx354_0 hx355_0 hx356_0 hx357_0 hx359_0 hx360_0 hx361_0 hx362_0 hHeld ⊢
                    refine pure_ (i := 0) (N := some 61) (v := ?_) (a' := ?_) #[true, false, false, false, false, false, false, false, false, false, false, false, false, false, false, false, false, false, false, false, false, false, false, false, false, false, false, false, false, false, false, false] rfl rfl (any_of HT_.out (by kernel_rfl)) (fun _ _ _ h => h) (Or.inl ⟨by rfl, ?_⟩) ?_ ?_
                    rotate_left; (intro w'; go_simp; with_reducible rfl); rotate_left; (simp only [Act.put, List.setIfInBounds_toArray, List.set_cons_zero, List.set_cons_succ, i64_w, i32_w]; rfl)
                    refine pure_ (i := 1) (N := some 62) (v := ?_) (a' := ?_) #[true, true, false, false, false, false, false, false, false, false, false, false, false, false, false, false, false, false, false, false, false, false, false, false, false, false, false, false, false, false, false, false] rfl rfl (any_of HT_.out (by kernel_rfl)) (fun _ _ _ h => h) (Or.inl ⟨by rfl, ?_⟩) ?_ ?_
                    rotate_left; (intro w'; go_simp; with_reducible rfl); rotate_left; (simp only [Act.put, List.setIfInBounds_toArray, List.set_cons_zero, List.set_cons_succ, i64_w, i32_w]; rfl)
                    refine pure_ (i := 2) (N := some 63) (v := ?_) (a' := ?_) #[true, true, true, false, false, false, false, false, false, false, false, false, false, false, false, false, false, false, false, false, false, false, false, false, false, false, false, false, false, false, false, false] rfl rfl (any_of HT_.out (by kernel_rfl)) (fun _ _ _ h => h) (Or.inl ⟨by rfl, ?_⟩) ?_ ?_
                    rotate_left; (intro w'; go_simp; with_reducible rfl); rotate_left; (simp only [Act.put, List.setIfInBounds_toArray, List.set_cons_zero, List.set_cons_succ, i64_w, i32_w]; rfl)
                    refine pure_ (i := 6) (N := some 67) (v := ?_) (a' := ?_) #[true, true, true, false, false, false, true, false, false, false, false, false, false, false, false, false, false, false, false, false, false, false, false, false, false, false, false, false, false, false, false, false] rfl rfl (any_of HT_.out (by kernel_rfl)) (fun _ _ _ h => h) (Or.inl ⟨by rfl, ?_⟩) ?_ ?_
                    rotate_left; (intro w'; go_simp; with_reducible rfl); rotate_left; (simp only [Act.put, List.setIfInBounds_toArray, List.set_cons_zero, List.set_cons_succ, i64_w, i32_w]; rfl)
                    refine pure_ (i := 7) (N := some 68) (v := ?_) (a' := ?_) #[true, true, true, false, false, false, true, true, false, false, false, false, false, false, false, false, false, false, false, false, false, false, false, false, false, false, false, false, false, false, false, false] rfl rfl (any_of HT_.out (by kernel_rfl)) (fun _ _ _ h => h) (Or.inl ⟨by rfl, ?_⟩) ?_ ?_
                    rotate_left; (intro w'; go_simp; with_reducible rfl); rotate_left; (simp only [Act.put, List.setIfInBounds_toArray, List.set_cons_zero, List.set_cons_succ, i64_w, i32_w]; rfl)
                    refine pure_ (i := 8) (N := some 69) (v := ?_) (a' := ?_) #[true, true, true, false, false, false, true, true, true, false, false, false, false, false, false, false, false, false, false, false, false, false, false, false, false, false, false, false, false, false, false, false] rfl rfl (any_of HT_.out (by kernel_rfl)) (fun _ _ _ h => h) (Or.inl ⟨by rfl, ?_⟩) ?_ ?_
                    rotate_left; (intro w'; go_simp; with_reducible rfl); rotate_left; (simp only [Act.put, List.setIfInBounds_toArray, List.set_cons_zero, List.set_cons_succ, i64_w, i32_w]; rfl)
                    refine pure_ (i := 9) (N := some 70) (v := ?_) (a' := ?_) #[true, true, true, false, false, false, true, true, true, true, false, false, false, false, false, false, false, false, false, false, false, false, false, false, false, false, false, false, false, false, false, false] rfl rfl (any_of HT_.out (by kernel_rfl)) (fun _ _ _ h => h) (Or.inl ⟨by rfl, ?_⟩) ?_ ?_
                    rotate_left; (intro w'; go_simp; with_reducible rfl); rotate_left; (simp only [Act.put, List.setIfInBounds_toArray, List.set_cons_zero, List.set_cons_succ, i64_w, i32_w]; rfl)
                    refine pure_ (i := 15) (N := some 76) (v := ?_) (a' := ?_) #[true, true, true, false, false, false, true, true, true, true, false, false, false, false, false, true, false, false, false, false, false, false, false, false, false, false, false, false, false, false, false, false] rfl rfl (any_of HT_.out (by kernel_rfl)) (fun _ _ _ h => h) (Or.inl ⟨by rfl, ?_⟩) ?_ ?_
                    rotate_left; (intro w'; go_simp; with_reducible rfl); rotate_left; (simp only [Act.put, List.setIfInBounds_toArray, List.set_cons_zero, List.set_cons_succ, i64_w, i32_w]; rfl)
                    refine pure_ (i := 16) (N := some 77) (v := ?_) (a' := ?_) #[true, true, true, false, false, false, true, true, true, true, false, false, false, false, false, true, true, false, false, false, false, false, false, false, false, false, false, false, false, false, false, false] rfl rfl (any_of HT_.out (by kernel_rfl)) (fun _ _ _ h => h) (Or.inl ⟨by rfl, ?_⟩) ?_ ?_
                    rotate_left; (intro w'; go_simp; with_reducible rfl); rotate_left; (simp only [Act.put, List.setIfInBounds_toArray, List.set_cons_zero, List.set_cons_succ, i64_w, i32_w]; rfl)
                    refine pure_ (i := 17) (N := some 78) (v := ?_) (a' := ?_) #[true, true, true, false, false, false, true, true, true, true, false, false, false, false, false, true, true, true, false, false, false, false, false, false, false, false, false, false, false, false, false, false] rfl rfl (any_of HT_.out (by kernel_rfl)) (fun _ _ _ h => h) (Or.inl ⟨by rfl, ?_⟩) ?_ ?_
                    rotate_left; (intro w'; go_simp; with_reducible rfl); rotate_left; (simp only [Act.put, List.setIfInBounds_toArray, List.set_cons_zero, List.set_cons_succ, i64_w, i32_w]; rfl)
                    refine pure_ (i := 21) (N := some 82) (v := ?_) (a' := ?_) #[true, true, true, false, false, false, true, true, true, true, false, false, false, false, false, true, true, true, false, false, false, true, false, false, false, false, false, false, false, false, false, false] rfl rfl (any_of HT_.out (by kernel_rfl)) (fun _ _ _ h => h) (Or.inl ⟨by rfl, ?_⟩) ?_ ?_
                    rotate_left; (intro w'; go_simp; with_reducible rfl); rotate_left; (simp only [Act.put, List.setIfInBounds_toArray, List.set_cons_zero, List.set_cons_succ, i64_w, i32_w]; rfl)
                    refine pure_ (i := 22) (N := some 83) (v := ?_) (a' := ?_) #[true, true, true, false, false, false, true, true, true, true, false, false, false, false, false, true, true, true, false, false, false, true, true, false, false, false, false, false, false, false, false, false] rfl rfl (any_of HT_.out (by kernel_rfl)) (fun _ _ _ h => h) (Or.inl ⟨by rfl, ?_⟩) ?_ ?_
                    rotate_left; (intro w'; go_simp; with_reducible rfl); rotate_left; (simp only [Act.put, List.setIfInBounds_toArray, List.set_cons_zero, List.set_cons_succ, i64_w, i32_w]; rfl)
                    refine pure_ (i := 23) (N := some 84) (v := ?_) (a' := ?_) #[true, true, true, false, false, false, true, true, true, true, false, false, false, false, false, true, true, true, false, false, false, true, true, true, false, false, false, false, false, false, false, false] rfl rfl (any_of HT_.out (by kernel_rfl)) (fun _ _ _ h => h) (Or.inl ⟨by rfl, ?_⟩) ?_ ?_
                    rotate_left; (intro w'; go_simp; with_reducible rfl); rotate_left; (simp only [Act.put, List.setIfInBounds_toArray, List.set_cons_zero, List.set_cons_succ, i64_w, i32_w]; rfl)
                    refine pure_ (i := 24) (N := some 85) (v := ?_) (a' := ?_) #[true, true, true, false, false, false, true, true, true, true, false, false, false, false, false, true, true, true, false, false, false, true, true, true, true, false, false, false, false, false, false, false] rfl rfl (any_of HT_.out (by kernel_rfl)) (fun _ _ _ h => h) (Or.inl ⟨by rfl, ?_⟩) ?_ ?_
                    rotate_left; (intro w'; go_simp; with_reducible rfl); rotate_left; (simp only [Act.put, List.setIfInBounds_toArray, List.set_cons_zero, List.set_cons_succ, i64_w, i32_w]; rfl)
                    refine take_ (i := 3) (N := some 64) (v := ?_) (a' := ?_) #[true, true, true, true, false, false, true, true, true, true, false, false, false, false, false, true, true, true, false, false, false, true, true, true, true, false, false, false, false, false, false, false] rfl rfl (take_ofW HT_.out HW_.out (by kernel_rfl)) (fun _ _ _ h => h) (Or.inl ⟨by rfl, ?_⟩) hHeld ?_ ?_
                    rotate_left; (rintro w' ⟨s0, s1, s2, s3, s4, s5, s6, s7⟩; go_simp; with_reducible rfl); rotate_left; (simp only [Act.put, List.setIfInBounds_toArray, List.set_cons_zero, List.set_cons_succ, i64_w, i32_w]; rfl)
                    refine pure_ (i := 4) (N := some 65) (v := ?_) (a' := ?_) #[true, true, true, true, true, false, true, true, true, true, false, false, false, false, false, true, true, true, false, false, false, true, true, true, true, false, false, false, false, false, false, false] rfl rfl (any_of HT_.out (by kernel_rfl)) (fun _ _ _ h => h) (Or.inl ⟨by rfl, ?_⟩) ?_ ?_
                    rotate_left; (intro w'; go_simp; with_reducible rfl); rotate_left; (simp only [Act.put, List.setIfInBounds_toArray, List.set_cons_zero, List.set_cons_succ, i64_w, i32_w]; rfl)
                    refine take_ (i := 5) (N := some 66) (v := ?_) (a' := ?_) #[true, true, true, true, true, true, true, true, true, true, false, false, false, false, false, true, true, true, false, false, false, true, true, true, true, false, false, false, false, false, false, false] rfl rfl (take_ofW HT_.out HW_.out (by kernel_rfl)) (fun _ _ _ h => h) (Or.inl ⟨by rfl, ?_⟩) hHeld ?_ ?_
                    rotate_left; (rintro w' ⟨s0, s1, s2, s3, s4, s5, s6, s7⟩; go_simp; with_reducible rfl); rotate_left; (simp only [Act.put, List.setIfInBounds_toArray, List.set_cons_zero, List.set_cons_succ, i64_w, i32_w]; rfl)
                    refine take_ (i := 10) (N := some 71) (v := ?_) (a' := ?_) #[true, true, true, true, true, true, true, true, true, true, true, false, false, false, false, true, true, true, false, false, false, true, true, true, true, false, false, false, false, false, false, false] rfl rfl (take_ofW HT_.out HW_.out (by kernel_rfl)) (fun _ _ _ h => h) (Or.inl ⟨by rfl, ?_⟩) hHeld ?_ ?_
                    rotate_left; (rintro w' ⟨s0, s1, s2, s3, s4, s5, s6, s7⟩; go_simp; with_reducible rfl); rotate_left; (simp only [Act.put, List.setIfInBounds_toArray, List.set_cons_zero, List.set_cons_succ, i64_w, i32_w]; rfl)
                    refine pure_ (i := 11) (N := some 72) (v := ?_) (a' := ?_) #[true, true, true, true, true, true, true, true, true, true, true, true, false, false, false, true, true, true, false, false, false, true, true, true, true, false, false, false, false, false, false, false] rfl rfl (any_of HT_.out (by kernel_rfl)) (fun _ _ _ h => h) (Or.inl ⟨by rfl, ?_⟩) ?_ ?_
                    rotate_left; (intro w'; go_simp; with_reducible rfl); rotate_left; (simp only [Act.put, List.setIfInBounds_toArray, List.set_cons_zero, List.set_cons_succ, i64_w, i32_w]; rfl)
                    refine take_ (i := 12) (N := some 73) (v := ?_) (a' := ?_) #[true, true, true, true, true, true, true, true, true, true, true, true, true, false, false, true, true, true, false, false, false, true, true, true, true, false, false, false, false, false, false, false] rfl rfl (take_ofW HT_.out HW_.out (by kernel_rfl)) (fun _ _ _ h => h) (Or.inl ⟨by rfl, ?_⟩) hHeld ?_ ?_
                    rotate_left; (rintro w' ⟨s0, s1, s2, s3, s4, s5, s6, s7⟩; go_simp; with_reducible rfl); rotate_left; (simp only [Act.put, List.setIfInBounds_toArray, List.set_cons_zero, List.set_cons_succ, i64_w, i32_w]; rfl)
                    refine pure_ (i := 13) (N := some 74) (v := ?_) (a' := ?_) #[true, true, true, true, true, true, true, true, true, true, true, true, true, true, false, true, true, true, false, false, false, true, true, true, true, false, false, false, false, false, false, false] rfl rfl (any_of HT_.out (by kernel_rfl)) (fun _ _ _ h => h) (Or.inl ⟨by rfl, ?_⟩) ?_ ?_
                    rotate_left; (intro w'; go_simp; with_reducible rfl); rotate_left; (simp only [Act.put, List.setIfInBounds_toArray, List.set_cons_zero, List.set_cons_succ, i64_w, i32_w]; rfl)
                    refine take_ (i := 18) (N := some 79) (v := ?_) (a' := ?_) #[true, true, true, true, true, true, true, true, true, true, true, true, true, true, false, true, true, true, true, false, false, true, true, true, true, false, false, false, false, false, false, false] rfl rfl (take_ofW HT_.out HW_.out (by kernel_rfl)) (fun _ _ _ h => h) (Or.inl ⟨by rfl, ?_⟩) hHeld ?_ ?_
                    rotate_left; (rintro w' ⟨s0, s1, s2, s3, s4, s5, s6, s7⟩; go_simp; with_reducible rfl); rotate_left; (simp only [Act.put, List.setIfInBounds_toArray, List.set_cons_zero, List.set_cons_succ, i64_w, i32_w]; rfl)
                    refine pure_ (i := 19) (N := some 80) (v := ?_) (a' := ?_) #[true, true, true, true, true, true, true, true, true, true, true, true, true, true, false, true, true, true, true, true, false, true, true, true, true, false, false, false, false, false, false, false] rfl rfl (any_of HT_.out (by kernel_rfl)) (fun _ _ _ h => h) (Or.inl ⟨by rfl, ?_⟩) ?_ ?_
                    rotate_left; (intro w'; go_simp; with_reducible rfl); rotate_left; (simp only [Act.put, List.setIfInBounds_toArray, List.set_cons_zero, List.set_cons_succ, i64_w, i32_w]; rfl)
                    refine take_ (i := 20) (N := some 81) (v := ?_) (a' := ?_) #[true, true, true, true, true, true, true, true, true, true, true, true, true, true, false, true, true, true, true, true, true, true, true, true, true, false, false, false, false, false, false, false] rfl rfl (take_ofW HT_.out HW_.out (by kernel_rfl)) (fun _ _ _ h => h) (Or.inl ⟨by rfl, ?_⟩) hHeld ?_ ?_
                    rotate_left; (rintro w' ⟨s0, s1, s2, s3, s4, s5, s6, s7⟩; go_simp; with_reducible rfl); rotate_left; (simp only [Act.put, List.setIfInBounds_toArray, List.set_cons_zero, List.set_cons_succ, i64_w, i32_w]; rfl)
                    refine take_ (i := 25) (N := some 86) (v := ?_) (a' := ?_) #[true, true, true, true, true, true, true, true, true, true, true, true, true, true, false, true, true, true, true, true, true, true, true, true, true, true, false, false, false, false, false, false] rfl rfl (take_ofW HT_.out HW_.out (by kernel_rfl)) (fun _ _ _ h => h) (Or.inl ⟨by rfl, ?_⟩) hHeld ?_ ?_
                    rotate_left; (rintro w' ⟨s0, s1, s2, s3, s4, s5, s6, s7⟩; go_simp; with_reducible rfl); rotate_left; (simp only [Act.put, List.setIfInBounds_toArray, List.set_cons_zero, List.set_cons_succ, i64_w, i32_w]; rfl)
                    refine pure_ (i := 26) (N := some 87) (v := ?_) (a' := ?_) #[true, true, true, true, true, true, true, true, true, true, true, true, true, true, false, true, true, true, true, true, true, true, true, true, true, true, true, false, false, false, false, false] rfl rfl (any_of HT_.out (by kernel_rfl)) (fun _ _ _ h => h) (Or.inl ⟨by rfl, ?_⟩) ?_ ?_
                    rotate_left; (intro w'; go_simp; with_reducible rfl); rotate_left; (simp only [Act.put, List.setIfInBounds_toArray, List.set_cons_zero, List.set_cons_succ, i64_w, i32_w]; rfl)
                    refine take_ (i := 27) (N := some 88) (v := ?_) (a' := ?_) #[true, true, true, true, true, true, true, true, true, true, true, true, true, true, false, true, true, true, true, true, true, true, true, true, true, true, true, true, false, false, false, false] rfl rfl (take_ofW HT_.out HW_.out (by kernel_rfl)) (fun _ _ _ h => h) (Or.inl ⟨by rfl, ?_⟩) hHeld ?_ ?_
                    rotate_left; (rintro w' ⟨s0, s1, s2, s3, s4, s5, s6, s7⟩; go_simp; with_reducible rfl); rotate_left; (simp only [Act.put, List.setIfInBounds_toArray, List.set_cons_zero, List.set_cons_succ, i64_w, i32_w]; rfl)
                    refine pure_ (i := 28) (N := some 89) (v := ?_) (a' := ?_) #[true, true, true, true, true, true, true, true, true, true, true, true, true, true, false, true, true, true, true, true, true, true, true, true, true, true, true, true, true, false, false, false] rfl rfl (any_of HT_.out (by kernel_rfl)) (fun _ _ _ h => h) (Or.inl ⟨by rfl, ?_⟩) ?_ ?_
                    rotate_left; (intro w'; go_simp; with_reducible rfl); rotate_left; (simp only [Act.put, List.setIfInBounds_toArray, List.set_cons_zero, List.set_cons_succ, i64_w, i32_w]; rfl)
                    refine one_ (i := 14) (N := some 75) #[true, true, true, true, true, true, true, true, true, true, true, true, true, true, true, true, true, true, true, true, true, true, true, true, true, true, true, true, true, false, false, false] rfl rfl (one_of HT_.out (by kernel_rfl)) (by decide) (fun K hK => ?_)
                    refine goes_ Try.func25 (by kernel_rfl) rfl #[.int .i64 (wrap64 ((rd (rd_L1 t342 x11_3) 0) - (rd (rd_L1 t342 (ji35)) 0)))] (by rfl) rfl rfl (by (try simp only [List.map_toArray, List.map_cons, List.map_nil]); first | done | (simp only [hji35]; rfl) | rfl | (simp only [List.length_drop, List.length_take]; rfl)) ?_
                    with_reducible refine (laws_b10Abs.calls (wrap64 ((rd (rd_L1 t342 x11_3) 0) - (rd (rd_L1 t342 (ji35)) 0))) t358 _ A39.out).mono ?_
                    rintro e w' ⟨rfl, ⟨nd, rfl⟩⟩
                    refine ⟨_, rfl, ?_⟩
                    refine hK.out _ _ ⟨hHeld.1, hHeld.2.1, hHeld.2.2.1, hHeld.2.2.2.1, hHeld.2.2.2.2.1, hHeld.2.2.2.2.2.1, hHeld.2.2.2.2.2.2.1, hHeld.2.2.2.2.2.2.2⟩ (fun hHeld => ?_)
                    clear hK K
                    refine norm_ (a' := ?_) ?_ ?_
                    rotate_left
                    ·show Act.put _ (some 75) _ = _
                     simp only [Act.put, List.setIfInBounds_toArray, List.set_cons_zero, List.set_cons_succ, i64_w, i32_w]
                     rfl
                    refine one_ (i := 29) (N := some 90) #[true, true, true, true, true, true, true, true, true, true, true, true, true, true, true, true, true, true, true, true, true, true, true, true, true, true, true, true, true, true, false, false] rfl rfl (one_of HT_.out (by kernel_rfl)) (by decide) (fun K hK => ?_)
                    refine goes_ Try.func25 (by kernel_rfl) rfl #[.int .i64 (wrap64 ((rd (rd_L1 t342 x11_3) 1) - (rd (rd_L1 t342 (ji35)) 1)))] (by rfl) rfl rfl (by (try simp only [List.map_toArray, List.map_cons, List.map_nil]); first | done | (simp only [hji35]; rfl) | rfl | (simp only [List.length_drop, List.length_take]; rfl)) ?_
                    with_reducible refine (laws_b10Abs.calls (wrap64 ((rd (rd_L1 t342 x11_3) 1) - (rd (rd_L1 t342 (ji35)) 1))) t363 _ A42.out).mono ?_
                    rintro e w' ⟨rfl, ⟨nd, rfl⟩⟩
                    refine ⟨_, rfl, ?_⟩
                    refine hK.out _ _ ⟨hHeld.1, hHeld.2.1, hHeld.2.2.1, hHeld.2.2.2.1, hHeld.2.2.2.2.1, hHeld.2.2.2.2.2.1, hHeld.2.2.2.2.2.2.1, hHeld.2.2.2.2.2.2.2⟩ (fun hHeld => ?_)
                    clear hK K
                    refine norm_ (a' := ?_) ?_ ?_
                    rotate_left
                    ·show Act.put _ (some 90) _ = _
                     simp only [Act.put, List.setIfInBounds_toArray, List.set_cons_zero, List.set_cons_succ, i64_w, i32_w]
                     rfl
                    refine pure_ (i := 30) (N := some 91) (v := ?_) (a' := ?_) #[true, true, true, true, true, true, true, true, true, true, true, true, true, true, true, true, true, true, true, true, true, true, true, true, true, true, true, true, true, true, true, false] rfl rfl (any_of HT_.out (by kernel_rfl)) (fun _ _ _ h => h) (Or.inl ⟨by rfl, ?_⟩) ?_ ?_
                    rotate_left; (intro w'; go_simp; with_reducible rfl); rotate_left; (simp only [Act.put, List.setIfInBounds_toArray, List.set_cons_zero, List.set_cons_succ, i64_w, i32_w]; rfl)
                    refine pure_ (i := 31) (N := some 92) (v := ?_) (a' := ?_) #[true, true, true, true, true, true, true, true, true, true, true, true, true, true, true, true, true, true, true, true, true, true, true, true, true, true, true, true, true, true, true, true] rfl rfl (any_of HT_.out (by kernel_rfl)) (fun _ _ _ h => h) (Or.inl ⟨by rfl, ?_⟩) ?_ ?_
                    rotate_left; (intro w'; go_simp; with_reducible rfl); rotate_left; (simp only [Act.put, List.setIfInBounds_toArray, List.set_cons_zero, List.set_cons_succ, i64_w, i32_w]; rfl)
                    refine done_ (done_of HT_.out (by kernel_rfl)) ?_
                    try go_wp2
                    go_ret
                    exact ⟨by first | rfl | (simp [errW_none, errW_some] <;> rfl) | (simp only [← hji7, ← hji9, ← hji35]; first | rfl | (simp [errW_none, errW_some] <;> rfl)) | (simp [*, errW_none, errW_some] <;> rfl), by repeat (first | (with_reducible first | exact HB.out | apply below_alloc | apply pw_below_drewN | apply below_drew1 | refine below_set ?_ GE346.out) | exact HB.out)⟩
                  ·rw [if_neg c41] at H
                   exact absurd H (by simp)
                 ·rw [if_neg c40] at H
                  exact absurd H (by simp)
                ·rw [if_neg c38] at H
                 exact absurd H (by simp)
               ·rw [if_neg c37] at H
                exact absurd H (by simp)
              ·rw [if_neg c36] at H
               exact absurd H (by simp)
             ·rw [if_neg c34] at H
              exact absurd H (by simp)
            ·rw [if_neg c33] at H
             exact absurd H (by simp)
           ·rw [if_neg c32] at H
            have c32b0 : decide (x11_3 < (t342.length : Int)) = false := decide_eq_false c32
            clear c32
            replace H := Option.bind_eq_some_iff.mp H
            obtain ⟨t364, A480, H⟩ := H
            replace H : ((spec_B10Path.f k3 l0 t364).bind fun t368 => ((impl_PathDither.f k3 t364 t368).bind fun bt371 => (if bt371.2.2 = true then ((impl_IsPath.f k3 t364 t368).bind fun t376 => (if t376 = true then (if (bt371.1.length : Int) = (t364.length : Int) then ((laws_b10All.f k3 t364).bind fun t377 => ((laws_b10All.f k3 bt371.1).bind fun t378 => (laws_FnPaths.j3 k3 t368 bt371.1 bt371.2.1 (t377 != (wrap64 ((wrap64 (255 * t378)) + bt371.2.1))) t364))) else (laws_FnPaths.j3 k3 t368 bt371.1 bt371.2.1 true t364)) else (laws_FnPaths.j3 k3 t368 bt371.1 bt371.2.1 true t364))) else (laws_FnPaths.j3 k3 t368 bt371.1 bt371.2.1 true t364)))) = some r := H
            have A48 := Aside0.mk A480
            clear A480
            replace H := Option.bind_eq_some_iff.mp H
            obtain ⟨t368, A490, H⟩ := H
            replace H : ((impl_PathDither.f k3 t364 t368).bind fun bt371 => (if bt371.2.2 = true then ((impl_IsPath.f k3 t364 t368).bind fun t376 => (if t376 = true then (if (bt371.1.length : Int) = (t364.length : Int) then ((laws_b10All.f k3 t364).bind fun t377 => ((laws_b10All.f k3 bt371.1).bind fun t378 => (laws_FnPaths.j3 k3 t368 bt371.1 bt371.2.1 (t377 != (wrap64 ((wrap64 (255 * t378)) + bt371.2.1))) t364))) else (laws_FnPaths.j3 k3 t368 bt371.1 bt371.2.1 true t364)) else (laws_FnPaths.j3 k3 t368 bt371.1 bt371.2.1 true t364))) else (laws_FnPaths.j3 k3 t368 bt371.1 bt371.2.1 true t364))) = some r := H
            have A49 := Aside0.mk A490
            clear A490
            replace H := Option.bind_eq_some_iff.mp H
            obtain ⟨⟨t371, t374, t375⟩, A500, H⟩ := H
            replace H : (if t375 = true then ((impl_IsPath.f k3 t364 t368).bind fun t376 => (if t376 = true then (if (t371.length : Int) = (t364.length : Int) then ((laws_b10All.f k3 t364).bind fun t377 => ((laws_b10All.f k3 t371).bind fun t378 => (laws_FnPaths.j3 k3 t368 t371 t374 (t377 != (wrap64 ((wrap64 (255 * t378)) + t374))) t364))) else (laws_FnPaths.j3 k3 t368 t371 t374 true t364)) else (laws_FnPaths.j3 k3 t368 t371 t374 true t364))) else (laws_FnPaths.j3 k3 t368 t371 t374 true t364)) = some r := H
            have A50 := Aside0.mk A500
            clear A500
            have HC51 := Aside0.mk H
            clear H
            obtain ⟨Ao52, co52, eo52⟩ := Kd.N_slice HO_6.out
            subst eo52
            go_upto_region 21 with (first | ((with_reducible refine gate_callee (f := 26) rfl ?_); refine goesL_ (some 94) rfl rfl Try.func26 (by kernel_rfl) rfl #[.slice A1 l1.length c1] rfl (by (try simp only [List.map_toArray, List.map_cons, List.map_nil]); first | done | rfl) ?_; (with_reducible refine (spec_B10Picture.calls k3 _ _ l1 t364 _ ?side1 ?side2 A48.out).mono ?_); (case side1 => repeat (first | exact (Kd.C_below HR1.out HB.out) | (with_reducible refine Kd.C_alloc ?_ _) | (with_reducible refine Kd.C_drewN ?_ _) | (with_reducible refine Kd.C_drew ?_))); (case side2 => exact HC1.out); rintro e w53 ⟨v365, rfl, ho0, hb⟩; refine ⟨_, rfl, ?_⟩; have n0_ := Aside0.mk (Kd.N_elder' (by (with_reducible repeat (first | apply Kd.N_alloc | apply Kd.N_drewN | apply Kd.N_drew)); exact HO_6.out) (Kd.N_base (Kd.S_N ho0)) hb); have n1_ := Aside0.mk (Kd.N_elder' (by (with_reducible repeat (first | apply Kd.N_alloc | apply Kd.N_drewN | apply Kd.N_drew)); exact HO_347000.out) (Kd.N_base (Kd.S_N ho0)) hb); have n2_ := Aside0.mk (Kd.N_lower (Kd.N_mono (ok' := fun k_ => some k_ ≠ (.slice Ao52 t342.length co52 : Value).ownBlock ∧ some k_ ≠ (u347000 : Value).ownBlock ∧ k_ ≠ gb346) (Kd.S_N (Kd.S_bound ho0)) (fun k_ hk_ => ⟨(Kd.fresh' (Kd.N_lt (by (with_reducible repeat (first | apply Kd.N_alloc | apply Kd.N_drewN | apply Kd.N_drew)); exact HO_6.out)) k_ hk_.2.1), (Kd.fresh' (Kd.N_lt (by (with_reducible repeat (first | apply Kd.N_alloc | apply Kd.N_drewN | apply Kd.N_drew)); exact HO_347000.out)) k_ hk_.2.1), (Kd.freshB (g := gb346) (o := .cells #[u347000] 33 (0, 0)) (by (with_reducible repeat (first | refine blk_drewN ?_ _ | refine blk_drew ?_ | refine blk_alloc ?_ _)); exact BK346.out) k_ hk_.2.1)⟩)) (below_size (by repeat (first | (with_reducible first | exact HB.out | apply below_alloc | apply pw_below_drewN | apply below_drew1 | refine below_set ?_ GE346.out) | exact HB.out)))); have n3_ := Aside0.mk (blk_below (g := gb346) (o := .cells #[u347000] 33 (0, 0)) (by (with_reducible repeat (first | refine blk_drewN ?_ _ | refine blk_drew ?_ | refine blk_alloc ?_ _)); exact BK346.out) hb); have n4_ := Aside0.mk (below_step (by repeat (first | (with_reducible first | exact HB.out | apply below_alloc | apply pw_below_drewN | apply below_drew1 | refine below_set ?_ GE346.out) | exact HB.out)) hb); clear HO_6; clear HO_347000; clear BK346; clear HB; have HO_6 := n0_; have HO_347000 := n1_; have HO366 := n2_; have BK346 := n3_; have HB := n4_; clear n0_ n1_ n2_ n3_ n4_; (try clear hb); (try clear hb2); (try clear hk); (try clear hi); (try clear ho0)) | ((with_reducible refine gate_dst (N := 12) rfl ?_); (try (refine gate_guard (by rfl) ?_; dsimp only)); refine box_event ?hg (N := 12) ?hd (cs := #[.slice none 0 0]) (t := 33) ?hr ?_; (case hd => rfl); (case hg => rfl); (case hr => first | (go_simp; done) | (go_simp; rfl)); intro gb367 hg w54 hbox hb; have n0_ := Aside0.mk (Kd.N_below (Kd.N_elderB (by (with_reducible repeat (first | apply Kd.N_alloc | apply Kd.N_drewN | apply Kd.N_drew)); exact HO_6.out) gb367 (Nat.le_of_eq hg.symm)) hb); have n1_ := Aside0.mk (Kd.N_below (Kd.N_elderB (by (with_reducible repeat (first | apply Kd.N_alloc | apply Kd.N_drewN | apply Kd.N_drew)); exact HO_347000.out) gb367 (Nat.le_of_eq hg.symm)) hb); have n2_ := Aside0.mk (Kd.N_below (Kd.N_elderB (by (with_reducible repeat (first | apply Kd.N_alloc | apply Kd.N_drewN | apply Kd.N_drew)); exact HO366.out) gb367 (Nat.le_of_eq hg.symm)) hb); have n3_ := Aside0.mk (blk_below (g := gb346) (o := .cells #[u347000] 33 (0, 0)) (by (with_reducible repeat (first | refine blk_drewN ?_ _ | refine blk_drew ?_ | refine blk_alloc ?_ _)); exact BK346.out) hb); have n4_ := Aside0.mk (below_step (by repeat (first | (with_reducible first | exact HB.out | apply below_alloc | apply pw_below_drewN | apply below_drew1 | refine below_set ?_ GE346.out) | exact HB.out)) hb); have n5_ := Aside0.mk (hbox); have n6_ := Aside0.mk ((by rw [hg]; exact (below_size (by repeat (first | (with_reducible first | exact HB.out | apply below_alloc | apply pw_below_drewN | apply below_drew1 | refine below_set ?_ GE346.out) | exact HB.out))) : w.heap.size ≤ gb367)); have n7_ := Aside0.mk ((by rw [hg]; exact (below_size (by repeat (first | (with_reducible first | exact HB.out | apply below_alloc | apply pw_below_drewN | apply below_drew1 | refine below_set ?_ GE346.out) | exact HB.out))) : w.heap.size ≤ gb367)); have n8_ := Aside0.mk ((by rw [hg]; exact Nat.ne_of_lt (blk_lt (g := gb346) (o := .cells #[u347000] 33 (0, 0)) (by (with_reducible repeat (first | refine blk_drewN ?_ _ | refine blk_drew ?_ | refine blk_alloc ?_ _)); exact BK346.out)) : gb346 ≠ gb367)); have n9_ := Aside0.mk ((by rw [hg]; exact Nat.ne_of_gt (blk_lt (g := gb346) (o := .cells #[u347000] 33 (0, 0)) (by (with_reducible repeat (first | refine blk_drewN ?_ _ | refine blk_drew ?_ | refine blk_alloc ?_ _)); exact BK346.out)) : gb367 ≠ gb346)); clear HO_6; clear HO_347000; clear HO366; clear BK346; clear HB; have HO_6 := n0_; have HO_347000 := n1_; have HO366 := n2_; have BK346 := n3_; have HB := n4_; have BK367 := n5_; have GW367 := n6_; have GE367 := n7_; have NB346_367 := n8_; have NB367_346 := n9_; clear n0_ n1_ n2_ n3_ n4_ n5_ n6_ n7_ n8_ n9_; clear hb hbox hg; obtain ⟨Ao55, co55, eo55⟩ := Kd.N_slice HO366.out; subst eo55; have hnb56 := NB367_346.out; have hnc56 := NB346_367.out; have hcz57_0 : w54.cell? ⟨gb367, 0, none⟩ = some (.slice none 0 0) := (blk_cell BK367.out 0).trans rfl; have hfz57_0 := blk_frozen BK367.out 0) | ((with_reducible refine gate_callee (f := 27) rfl ?_); refine goesL_ (some 97) rfl rfl Try.func27 (by kernel_rfl) rfl #[.slice A0 l0.length c0, .agg #[.slice Ao55 t364.length co55]] rfl (by (try simp only [List.map_toArray, List.map_cons, List.map_nil]); first | done | rfl) ?_; (with_reducible refine (spec_B10Path.calls k3 _ _ l0 _ _ t364 t368 _ ?side1 ?side2 ?side3 ?side4 A49.out).mono ?_); (case side1 => exact Kd.C_below HR0.out (by repeat (first | (with_reducible first | exact HB.out | apply below_alloc | apply pw_below_drewN | apply below_drew1 | refine below_set ?_ GE346.out | refine below_set ?_ GE367.out) | exact HB.out))); (case side2 => exact HC0.out); (case side3 => refine (Kd.N_reads' (e := 34) (base := w.heap.size) (ok := fun k_ => ((some k_ ≠ (.slice Ao52 t342.length co52 : Value).ownBlock ∧ (some k_ ≠ (u347000 : Value).ownBlock ∧ k_ ≠ gb346)) ∧ k_ ≠ gb367)) (n := t364.length) (c := co55) ?_).2.2; exact (by (with_reducible repeat (first | apply Kd.N_alloc | apply Kd.N_drewN | apply Kd.N_drew)); exact (Kd.N_mono (Kd.N_far (p := ⟨gb367, 0, none⟩) (Kd.N_mono HO366.out (fun k_ hk => (⟨hk, hk.2⟩ : _ ∧ k_ ≠ gb367))) (fun _ hk => hk.2) (.slice Ao55 t364.length co55)) (fun _ h_ => h_.1)))); (case side4 => exact (Kd.N_reads' HO366.out).2.1); rintro e w58 ⟨v369, rfl, ho0, hb⟩; refine ⟨_, rfl, ?_⟩; have n0_ := Aside0.mk (Kd.N_elder' (by (with_reducible repeat (first | apply Kd.N_alloc | apply Kd.N_drewN | apply Kd.N_drew)); exact (Kd.N_mono (Kd.N_far (p := ⟨gb367, 0, none⟩) (Kd.N_mono HO_6.out (fun k_ hk => (⟨hk, hk.2⟩ : _ ∧ k_ ≠ gb367))) (fun _ hk => hk.2) (.slice Ao55 t364.length co55)) (fun _ h_ => h_.1))) (Kd.N_base ho0) hb); have n1_ := Aside0.mk (Kd.N_elder' (by (with_reducible repeat (first | apply Kd.N_alloc | apply Kd.N_drewN | apply Kd.N_drew)); exact (Kd.N_mono (Kd.N_far (p := ⟨gb367, 0, none⟩) (Kd.N_mono HO_347000.out (fun k_ hk => (⟨hk, hk.2⟩ : _ ∧ k_ ≠ gb367))) (fun _ hk => hk.2) (.slice Ao55 t364.length co55)) (fun _ h_ => h_.1))) (Kd.N_base ho0) hb); have n2_ := Aside0.mk (Kd.N_elder' (by (with_reducible repeat (first | apply Kd.N_alloc | apply Kd.N_drewN | apply Kd.N_drew)); exact (Kd.N_mono (Kd.N_far (p := ⟨gb367, 0, none⟩) (Kd.N_mono HO366.out (fun k_ hk => (⟨hk, hk.2⟩ : _ ∧ k_ ≠ gb367))) (fun _ hk => hk.2) (.slice Ao55 t364.length co55)) (fun _ h_ => h_.1))) (Kd.N_base ho0) hb); have n3_ := Aside0.mk (Kd.N_lower (Kd.N_mono (ok' := fun k_ => some k_ ≠ (.slice Ao52 t342.length co52 : Value).ownBlock ∧ some k_ ≠ (u347000 : Value).ownBlock ∧ some k_ ≠ (.slice Ao55 t364.length co55 : Value).ownBlock ∧ k_ ≠ gb346 ∧ k_ ≠ gb367) ho0 (fun k_ hk_ => ⟨(Kd.fresh' (Kd.N_lt (by (with_reducible repeat (first | apply Kd.N_alloc | apply Kd.N_drewN | apply Kd.N_drew)); exact (Kd.N_mono (Kd.N_far (p := ⟨gb367, 0, none⟩) (Kd.N_mono HO_6.out (fun k_ hk => (⟨hk, hk.2⟩ : _ ∧ k_ ≠ gb367))) (fun _ hk => hk.2) (.slice Ao55 t364.length co55)) (fun _ h_ => h_.1)))) k_ hk_), (Kd.fresh' (Kd.N_lt (by (with_reducible repeat (first | apply Kd.N_alloc | apply Kd.N_drewN | apply Kd.N_drew)); exact (Kd.N_mono (Kd.N_far (p := ⟨gb367, 0, none⟩) (Kd.N_mono HO_347000.out (fun k_ hk => (⟨hk, hk.2⟩ : _ ∧ k_ ≠ gb367))) (fun _ hk => hk.2) (.slice Ao55 t364.length co55)) (fun _ h_ => h_.1)))) k_ hk_), (Kd.fresh' (Kd.N_lt (by (with_reducible repeat (first | apply Kd.N_alloc | apply Kd.N_drewN | apply Kd.N_drew)); exact (Kd.N_mono (Kd.N_far (p := ⟨gb367, 0, none⟩) (Kd.N_mono HO366.out (fun k_ hk => (⟨hk, hk.2⟩ : _ ∧ k_ ≠ gb367))) (fun _ hk => hk.2) (.slice Ao55 t364.length co55)) (fun _ h_ => h_.1)))) k_ hk_), (Kd.freshB (g := gb346) (o := .cells #[u347000] 33 (0, 0)) (by (with_reducible repeat (first | refine blk_drewN ?_ _ | refine blk_drew ?_ | refine blk_alloc ?_ _)); refine blk_far ?_ NB346_367.out _; (with_reducible repeat (first | refine blk_drewN ?_ _ | refine blk_drew ?_ | refine blk_alloc ?_ _)); exact BK346.out) k_ hk_), (Kd.freshB (g := gb367) (o := .cells #[.slice Ao55 t364.length co55] 33 (0, 0)) (by (with_reducible repeat (first | refine blk_drewN ?_ _ | refine blk_drew ?_ | refine blk_alloc ?_ _)); refine blk_put (cs := #[.slice none 0 0]) ?_ 0 _ rfl; (with_reducible repeat (first | refine blk_drewN ?_ _ | refine blk_drew ?_ | refine blk_alloc ?_ _)); exact BK367.out) k_ hk_)⟩)) (below_size (by repeat (first | (with_reducible first | exact HB.out | apply below_alloc | apply pw_below_drewN | apply below_drew1 | refine below_set ?_ GE346.out | refine below_set ?_ GE367.out) | exact HB.out)))); have n4_ := Aside0.mk (blk_below (g := gb346) (o := .cells #[u347000] 33 (0, 0)) (by (with_reducible repeat (first | refine blk_drewN ?_ _ | refine blk_drew ?_ | refine blk_alloc ?_ _)); refine blk_far ?_ NB346_367.out _; (with_reducible repeat (first | refine blk_drewN ?_ _ | refine blk_drew ?_ | refine blk_alloc ?_ _)); exact BK346.out) hb); have n5_ := Aside0.mk (blk_below (g := gb367) (o := .cells #[.slice Ao55 t364.length co55] 33 (0, 0)) (by (with_reducible repeat (first | refine blk_drewN ?_ _ | refine blk_drew ?_ | refine blk_alloc ?_ _)); refine blk_put (cs := #[.slice none 0 0]) ?_ 0 _ rfl; (with_reducible repeat (first | refine blk_drewN ?_ _ | refine blk_drew ?_ | refine blk_alloc ?_ _)); exact BK367.out) hb); have n6_ := Aside0.mk (below_step (by repeat (first | (with_reducible first | exact HB.out | apply below_alloc | apply pw_below_drewN | apply below_drew1 | refine below_set ?_ GE346.out | refine below_set ?_ GE367.out) | exact HB.out)) hb); clear HO_6; clear HO_347000; clear HO366; clear BK346; clear BK367; clear HB; have HO_6 := n0_; have HO_347000 := n1_; have HO366 := n2_; have HO370 := n3_; have BK346 := n4_; have BK367 := n5_; have HB := n6_; clear n0_ n1_ n2_ n3_ n4_ n5_ n6_; (try clear hb); (try clear hb2); (try clear hk); (try clear hi); (try clear ho0); have hcz59_0 : w58.cell? ⟨gb367, 0, none⟩ = some (.slice Ao55 t364.length co55) := (blk_cell BK367.out 0).trans rfl; have hfz59_0 := blk_frozen BK367.out 0; obtain ⟨Ao60, co60, eo60⟩ := Kd.N_slice HO370.out; subst eo60) | ((with_reducible refine gate_callee (f := 28) rfl ?_); refine goesL_ (some 101) rfl rfl Try.func28 (by kernel_rfl) rfl #[.agg #[.slice Ao55 t364.length co55], .slice Ao60 t368.length co60] rfl (by (try simp only [List.map_toArray, List.map_cons, List.map_nil]); first | done | rfl) ?_; (with_reducible refine (impl_PathDither.calls k3 _ _ t364 _ _ t368 t371 t374 t375 _ ?side1 ?side2 ?side3 ?side4 A50.out).mono ?_); (case side1 => repeat (first | exact (Kd.N_reads' HO366.out).2.2 | (with_reducible refine Kd.C_alloc ?_ _) | (with_reducible refine Kd.C_drewN ?_ _) | (with_reducible refine Kd.C_drew ?_))); (case side2 => exact (Kd.N_reads' HO366.out).2.1); (case side3 => repeat (first | exact (Kd.N_reads' HO370.out).2.2 | (with_reducible refine Kd.C_alloc ?_ _) | (with_reducible refine Kd.C_drewN ?_ _) | (with_reducible refine Kd.C_drew ?_))); (case side4 => exact (Kd.N_reads' HO370.out).2.1); rintro e w61 ⟨v372, rfl, ho0, hb⟩; refine ⟨_, rfl, ?_⟩; have n0_ := Aside0.mk (Kd.N_elder' (by (with_reducible repeat (first | apply Kd.N_alloc | apply Kd.N_drewN | apply Kd.N_drew)); exact HO_6.out) (Kd.N_base (Kd.S_N ho0)) hb); have n1_ := Aside0.mk (Kd.N_elder' (by (with_reducible repeat (first | apply Kd.N_alloc | apply Kd.N_drewN | apply Kd.N_drew)); exact HO_347000.out) (Kd.N_base (Kd.S_N ho0)) hb); have n2_ := Aside0.mk (Kd.N_elder' (by (with_reducible repeat (first | apply Kd.N_alloc | apply Kd.N_drewN | apply Kd.N_drew)); exact HO366.out) (Kd.N_base (Kd.S_N ho0)) hb); have n3_ := Aside0.mk (Kd.N_elder' (by (with_reducible repeat (first | apply Kd.N_alloc | apply Kd.N_drewN | apply Kd.N_drew)); exact HO370.out) (Kd.N_base (Kd.S_N ho0)) hb); have n4_ := Aside0.mk (Kd.N_lower (Kd.N_mono (ok' := fun k_ => some k_ ≠ (.slice Ao52 t342.length co52 : Value).ownBlock ∧ some k_ ≠ (u347000 : Value).ownBlock ∧ some k_ ≠ (.slice Ao55 t364.length co55 : Value).ownBlock ∧ some k_ ≠ (.slice Ao60 t368.length co60 : Value).ownBlock ∧ k_ ≠ gb346 ∧ k_ ≠ gb367) (Kd.S_N (Kd.S_bound ho0)) (fun k_ hk_ => ⟨(Kd.fresh' (Kd.N_lt (by (with_reducible repeat (first | apply Kd.N_alloc | apply Kd.N_drewN | apply Kd.N_drew)); exact HO_6.out)) k_ hk_.2.1), (Kd.fresh' (Kd.N_lt (by (with_reducible repeat (first | apply Kd.N_alloc | apply Kd.N_drewN | apply Kd.N_drew)); exact HO_347000.out)) k_ hk_.2.1), (Kd.fresh' (Kd.N_lt (by (with_reducible repeat (first | apply Kd.N_alloc | apply Kd.N_drewN | apply Kd.N_drew)); exact HO366.out)) k_ hk_.2.1), (Kd.fresh' (Kd.N_lt (by (with_reducible repeat (first | apply Kd.N_alloc | apply Kd.N_drewN | apply Kd.N_drew)); exact HO370.out)) k_ hk_.2.1), (Kd.freshB (g := gb346) (o := .cells #[u347000] 33 (0, 0)) (by (with_reducible repeat (first | refine blk_drewN ?_ _ | refine blk_drew ?_ | refine blk_alloc ?_ _)); exact BK346.out) k_ hk_.2.1), (Kd.freshB (g := gb367) (o := .cells #[.slice Ao55 t364.length co55] 33 (0, 0)) (by (with_reducible repeat (first | refine blk_drewN ?_ _ | refine blk_drew ?_ | refine blk_alloc ?_ _)); exact BK367.out) k_ hk_.2.1)⟩)) (below_size (by repeat (first | (with_reducible first | exact HB.out | apply below_alloc | apply pw_below_drewN | apply below_drew1 | refine below_set ?_ GE346.out | refine below_set ?_ GE367.out) | exact HB.out)))); have n5_ := Aside0.mk (blk_below (g := gb346) (o := .cells #[u347000] 33 (0, 0)) (by (with_reducible repeat (first | refine blk_drewN ?_ _ | refine blk_drew ?_ | refine blk_alloc ?_ _)); exact BK346.out) hb); have n6_ := Aside0.mk (blk_below (g := gb367) (o := .cells #[.slice Ao55 t364.length co55] 33 (0, 0)) (by (with_reducible repeat (first | refine blk_drewN ?_ _ | refine blk_drew ?_ | refine blk_alloc ?_ _)); exact BK367.out) hb); have n7_ := Aside0.mk (below_step (by repeat (first | (with_reducible first | exact HB.out | apply below_alloc | apply pw_below_drewN | apply below_drew1 | refine below_set ?_ GE346.out | refine below_set ?_ GE367.out) | exact HB.out)) hb); clear HO_6; clear HO_347000; clear HO366; clear HO370; clear BK346; clear BK367; clear HB; have HO_6 := n0_; have HO_347000 := n1_; have HO366 := n2_; have HO370 := n3_; have HO373 := n4_; have BK346 := n5_; have BK367 := n6_; have HB := n7_; clear n0_ n1_ n2_ n3_ n4_ n5_ n6_ n7_; (try clear hb); (try clear hb2); (try clear hk); (try clear hi); (try clear ho0)))
            (try simp only [Act.put, List.setIfInBounds_toArray, List.set_cons_zero, List.set_cons_succ])
            go_cut [131] (fun v131 wc => ∃ (kq : Nat) (x131_50 : Bool), v131 = .bool x131_50 ∧ Aside0 (laws_FnPaths.j3 kq t368 t371 t374 x131_50 t364 = some r) ∧ Aside0 (kq ≤ k3) ∧ Aside0 (Kd.N (Kd.slice 2 (Kd.int .i64)) 34 wc w.heap.size (fun k_ => some k_ ≠ (v372 : Value).ownBlock ∧ some k_ ≠ (u347000 : Value).ownBlock ∧ some k_ ≠ ((.slice Ao55 t364.length co55) : Value).ownBlock ∧ k_ ≠ gb346 ∧ k_ ≠ gb367) (.slice Ao60 t368.length co60) t368) ∧ Aside0 (Kd.N (Kd.slice 2 (Kd.int .i64)) 34 wc w.heap.size (fun k_ => some k_ ≠ ((.slice Ao60 t368.length co60) : Value).ownBlock ∧ some k_ ≠ (u347000 : Value).ownBlock ∧ some k_ ≠ ((.slice Ao55 t364.length co55) : Value).ownBlock ∧ k_ ≠ gb346 ∧ k_ ≠ gb367) v372 t371) ∧ Aside0 (Kd.N (Kd.slice 2 (Kd.int .i64)) 34 wc w.heap.size (fun k_ => some k_ ≠ ((.slice Ao60 t368.length co60) : Value).ownBlock ∧ some k_ ≠ (v372 : Value).ownBlock ∧ some k_ ≠ ((.slice Ao55 t364.length co55) : Value).ownBlock ∧ k_ ≠ gb346 ∧ k_ ≠ gb367) u347000 x347000_1) ∧ Aside0 (Kd.N (Kd.slice 2 (Kd.int .i64)) 34 wc w.heap.size (fun k_ => some k_ ≠ ((.slice Ao60 t368.length co60) : Value).ownBlock ∧ some k_ ≠ (v372 : Value).ownBlock ∧ some k_ ≠ (u347000 : Value).ownBlock ∧ k_ ≠ gb346 ∧ k_ ≠ gb367) (.slice Ao55 t364.length co55) t364) ∧ Aside0 (wc.heap[gb346]? = some (.cells #[u347000] 33 (0, 0))) ∧ Aside0 (wc.heap[gb367]? = some (.cells #[(.slice Ao55 t364.length co55)] 33 (0, 0))) ∧ Aside0 (Below w.heap.size w wc))
            case first =>
             have H := HC51.out
             clear HC51
             by_cases c62 : t375 = true
             ·subst c62
              have H1 : ((impl_IsPath.f k3 t364 t368).bind fun t376 => (if t376 = true then (if (t371.length : Int) = (t364.length : Int) then ((laws_b10All.f k3 t364).bind fun t377 => ((laws_b10All.f k3 t371).bind fun t378 => (laws_FnPaths.j3 k3 t368 t371 t374 (t377 != (wrap64 ((wrap64 (255 * t378)) + t374))) t364))) else (laws_FnPaths.j3 k3 t368 t371 t374 true t364)) else (laws_FnPaths.j3 k3 t368 t371 t374 true t364))) = some r := by rw [if_pos rfl] at H; exact H
              clear H
              have H := H1
              clear H1
              replace H := Option.bind_eq_some_iff.mp H
              obtain ⟨t376, A630, H⟩ := H
              replace H : (if t376 = true then (if (t371.length : Int) = (t364.length : Int) then ((laws_b10All.f k3 t364).bind fun t377 => ((laws_b10All.f k3 t371).bind fun t378 => (laws_FnPaths.j3 k3 t368 t371 t374 (t377 != (wrap64 ((wrap64 (255 * t378)) + t374))) t364))) else (laws_FnPaths.j3 k3 t368 t371 t374 true t364)) else (laws_FnPaths.j3 k3 t368 t371 t374 true t364)) = some r := H
              have A63 := Aside0.mk A630
              clear A630
              by_cases c64 : t376 = true
              ·subst c64
               have H1 : (if (t371.length : Int) = (t364.length : Int) then ((laws_b10All.f k3 t364).bind fun t377 => ((laws_b10All.f k3 t371).bind fun t378 => (laws_FnPaths.j3 k3 t368 t371 t374 (t377 != (wrap64 ((wrap64 (255 * t378)) + t374))) t364))) else (laws_FnPaths.j3 k3 t368 t371 t374 true t364)) = some r := by rw [if_pos rfl] at H; exact H
               clear H
               have H := H1
               clear H1
               by_cases c65 : (t371.length : Int) = (t364.length : Int)
               ·rw [if_pos c65] at H
                have c65b0 : ((t371.length : Int) == (t364.length : Int)) = true := beq_iff_eq.mpr c65
                have c65b1 : ((t371.length : Int) != (t364.length : Int)) = false := bne_eq_false_iff_eq.mpr c65
                have c65b2 : (t371.length == t364.length) = true := by first | simpa using c65 | (simp at c65 ⊢; omega)
                clear c65
                (first | rw [c65b0] | (simp only [i64_w, i32_w]; rw [c65b0]) | skip)
                replace H := Option.bind_eq_some_iff.mp H
                obtain ⟨t377, A660, H⟩ := H
                replace H : ((laws_b10All.f k3 t371).bind fun t378 => (laws_FnPaths.j3 k3 t368 t371 t374 (t377 != (wrap64 ((wrap64 (255 * t378)) + t374))) t364)) = some r := H
                have A66 := Aside0.mk A660
                clear A660
                replace H := Option.bind_eq_some_iff.mp H
                obtain ⟨t378, A670, H⟩ := H
                replace H : (laws_FnPaths.j3 k3 t368 t371 t374 (t377 != (wrap64 ((wrap64 (255 * t378)) + t374))) t364) = some r := H
                have A67 := Aside0.mk A670
                clear A670
                have H' := Aside0.mk H
                clear H
                have hnb68 := NB367_346.out
                have hnc68 := NB346_367.out
                have hcz69_0 : w61.cell? ⟨gb367, 0, none⟩ = some (.slice Ao55 t364.length co55) := (blk_cell BK367.out 0).trans rfl
                have hfz69_0 := blk_frozen BK367.out 0
                go_wp2_with (first | (go_at_call 24; (with_reducible refine (impl_IsPath.calls k3 _ _ t364 _ _ t368 true _ ?side1 ?side2 ?side3 ?side4 A63.out).mono ?_); (case side1 => repeat (first | exact (Kd.N_reads' HO366.out).2.2 | (with_reducible refine Kd.C_alloc ?_ _) | (with_reducible refine Kd.C_drewN ?_ _) | (with_reducible refine Kd.C_drew ?_))); (case side2 => exact (Kd.N_reads' HO366.out).2.1); (case side3 => repeat (first | exact (Kd.N_reads' HO370.out).2.2 | (with_reducible refine Kd.C_alloc ?_ _) | (with_reducible refine Kd.C_drewN ?_ _) | (with_reducible refine Kd.C_drew ?_))); (case side4 => exact (Kd.N_reads' HO370.out).2.1); rintro e w70 ⟨rfl, hb⟩; have n0_ := Aside0.mk (Kd.N_below (by (with_reducible repeat (first | apply Kd.N_alloc | apply Kd.N_drewN | apply Kd.N_drew)); exact HO_6.out) hb); have n1_ := Aside0.mk (Kd.N_below (by (with_reducible repeat (first | apply Kd.N_alloc | apply Kd.N_drewN | apply Kd.N_drew)); exact HO_347000.out) hb); have n2_ := Aside0.mk (Kd.N_below (by (with_reducible repeat (first | apply Kd.N_alloc | apply Kd.N_drewN | apply Kd.N_drew)); exact HO366.out) hb); have n3_ := Aside0.mk (Kd.N_below (by (with_reducible repeat (first | apply Kd.N_alloc | apply Kd.N_drewN | apply Kd.N_drew)); exact HO370.out) hb); have n4_ := Aside0.mk (Kd.N_below (by (with_reducible repeat (first | apply Kd.N_alloc | apply Kd.N_drewN | apply Kd.N_drew)); exact HO373.out) hb); have n5_ := Aside0.mk (blk_below (g := gb346) (o := .cells #[u347000] 33 (0, 0)) (by (with_reducible repeat (first | refine blk_drewN ?_ _ | refine blk_drew ?_ | refine blk_alloc ?_ _)); exact BK346.out) hb); have n6_ := Aside0.mk (blk_below (g := gb367) (o := .cells #[.slice Ao55 t364.length co55] 33 (0, 0)) (by (with_reducible repeat (first | refine blk_drewN ?_ _ | refine blk_drew ?_ | refine blk_alloc ?_ _)); exact BK367.out) hb); have n7_ := Aside0.mk (below_step (by repeat (first | (with_reducible first | exact HB.out | apply below_alloc | apply pw_below_drewN | apply below_drew1 | refine below_set ?_ GE346.out | refine below_set ?_ GE367.out) | exact HB.out)) hb); clear HO_6; clear HO_347000; clear HO366; clear HO370; clear HO373; clear BK346; clear BK367; clear HB; have HO_6 := n0_; have HO_347000 := n1_; have HO366 := n2_; have HO370 := n3_; have HO373 := n4_; have BK346 := n5_; have BK367 := n6_; have HB := n7_; clear n0_ n1_ n2_ n3_ n4_ n5_ n6_ n7_; (try clear hb); (try clear hb2); (try clear hk); (try clear hi); obtain ⟨Ao71, co71, eo71⟩ := Kd.N_slice HO373.out; subst eo71; have hcz72_0 : w70.cell? ⟨gb367, 0, none⟩ = some (.slice Ao55 t364.length co55) := (blk_cell BK367.out 0).trans rfl; have hfz72_0 := blk_frozen BK367.out 0) | (go_at_call 29; (with_reducible refine (laws_b10All.calls k3 _ _ t364 t377 _ ?side1 ?side2 A66.out).mono ?_); (case side1 => repeat (first | exact (Kd.N_reads' HO366.out).2.2 | (with_reducible refine Kd.C_alloc ?_ _) | (with_reducible refine Kd.C_drewN ?_ _) | (with_reducible refine Kd.C_drew ?_))); (case side2 => exact (Kd.N_reads' HO366.out).2.1); rintro e w' ⟨rfl, ⟨nd, rfl⟩⟩) | (go_at_call 29; (with_reducible refine (laws_b10All.calls k3 _ _ t371 t378 _ ?side1 ?side2 A67.out).mono ?_); (case side1 => repeat (first | exact (Kd.N_reads' HO373.out).2.2 | (with_reducible refine Kd.C_alloc ?_ _) | (with_reducible refine Kd.C_drewN ?_ _) | (with_reducible refine Kd.C_drew ?_))); (case side2 => exact (Kd.N_reads' HO373.out).2.1); rintro e w' ⟨rfl, ⟨nd, rfl⟩⟩))
                go_meet
                case rel => exact ⟨_, ((t377 != (wrap64 ((wrap64 (255 * t378)) + t374)))), (by first | rfl | (simp; done) | (simp [*]; done)), H', ⟨by have := HK1.out; have := HJ23.out; have := HK3.out; first | omega | exact Nat.le_refl _⟩, ⟨by (with_reducible repeat (first | apply Kd.N_alloc | apply Kd.N_drewN | apply Kd.N_drew)); exact Kd.N_mono HO370.out (fun _ hk => ⟨hk.2, ⟨hk.1.2.1, ⟨hk.1.2.2.1, ⟨hk.1.2.2.2.1, hk.1.2.2.2.2⟩⟩⟩⟩)⟩, ⟨by (with_reducible repeat (first | apply Kd.N_alloc | apply Kd.N_drewN | apply Kd.N_drew)); exact Kd.N_mono HO373.out (fun _ hk => ⟨hk.2.2.2.1, ⟨hk.2.1, ⟨hk.2.2.1, ⟨hk.2.2.2.2.1, hk.2.2.2.2.2⟩⟩⟩⟩)⟩, ⟨by (with_reducible repeat (first | apply Kd.N_alloc | apply Kd.N_drewN | apply Kd.N_drew)); exact Kd.N_mono HO_347000.out (fun _ hk => ⟨hk.1.2, ⟨hk.2, ⟨hk.1.1.1.2, ⟨hk.1.1.1.1.2, hk.1.1.2⟩⟩⟩⟩)⟩, ⟨by (with_reducible repeat (first | apply Kd.N_alloc | apply Kd.N_drewN | apply Kd.N_drew)); exact Kd.N_mono HO366.out (fun _ hk => ⟨hk.1.2, ⟨hk.2, ⟨hk.1.1.1.2.1, ⟨hk.1.1.1.2.2, hk.1.1.2⟩⟩⟩⟩)⟩, ⟨by (with_reducible repeat (first | refine blk_drewN ?_ _ | refine blk_drew ?_ | refine blk_alloc ?_ _)); exact BK346.out⟩, ⟨by (with_reducible repeat (first | refine blk_drewN ?_ _ | refine blk_drew ?_ | refine blk_alloc ?_ _)); exact BK367.out⟩, ⟨by repeat (first | (with_reducible first | exact HB.out | apply below_alloc | apply pw_below_drewN | apply below_drew1 | refine below_set ?_ GE346.out | refine below_set ?_ GE367.out) | exact HB.out)⟩⟩
               ·rw [if_neg c65] at H
                have c65b0 : ((t371.length : Int) == (t364.length : Int)) = false := beq_eq_false_iff_ne.mpr c65
                have c65b1 : ((t371.length : Int) != (t364.length : Int)) = true := bne_iff_ne.mpr c65
                have c65b2 : (t371.length == t364.length) = false := by first | simpa using c65 | (simp at c65 ⊢; omega)
                (first | rw [c65b0] | (simp only [i64_w, i32_w]; rw [c65b0]) | skip)
                have H' := Aside0.mk H
                clear H
                have hnb73 := NB367_346.out
                have hnc73 := NB346_367.out
                have hcz74_0 : w61.cell? ⟨gb367, 0, none⟩ = some (.slice Ao55 t364.length co55) := (blk_cell BK367.out 0).trans rfl
                have hfz74_0 := blk_frozen BK367.out 0
                go_wp2_with (first | (go_at_call 24; (with_reducible refine (impl_IsPath.calls k3 _ _ t364 _ _ t368 true _ ?side1 ?side2 ?side3 ?side4 A63.out).mono ?_); (case side1 => repeat (first | exact (Kd.N_reads' HO366.out).2.2 | (with_reducible refine Kd.C_alloc ?_ _) | (with_reducible refine Kd.C_drewN ?_ _) | (with_reducible refine Kd.C_drew ?_))); (case side2 => exact (Kd.N_reads' HO366.out).2.1); (case side3 => repeat (first | exact (Kd.N_reads' HO370.out).2.2 | (with_reducible refine Kd.C_alloc ?_ _) | (with_reducible refine Kd.C_drewN ?_ _) | (with_reducible refine Kd.C_drew ?_))); (case side4 => exact (Kd.N_reads' HO370.out).2.1); rintro e w75 ⟨rfl, hb⟩; have n0_ := Aside0.mk (Kd.N_below (by (with_reducible repeat (first | apply Kd.N_alloc | apply Kd.N_drewN | apply Kd.N_drew)); exact HO_6.out) hb); have n1_ := Aside0.mk (Kd.N_below (by (with_reducible repeat (first | apply Kd.N_alloc | apply Kd.N_drewN | apply Kd.N_drew)); exact HO_347000.out) hb); have n2_ := Aside0.mk (Kd.N_below (by (with_reducible repeat (first | apply Kd.N_alloc | apply Kd.N_drewN | apply Kd.N_drew)); exact HO366.out) hb); have n3_ := Aside0.mk (Kd.N_below (by (with_reducible repeat (first | apply Kd.N_alloc | apply Kd.N_drewN | apply Kd.N_drew)); exact HO370.out) hb); have n4_ := Aside0.mk (Kd.N_below (by (with_reducible repeat (first | apply Kd.N_alloc | apply Kd.N_drewN | apply Kd.N_drew)); exact HO373.out) hb); have n5_ := Aside0.mk (blk_below (g := gb346) (o := .cells #[u347000] 33 (0, 0)) (by (with_reducible repeat (first | refine blk_drewN ?_ _ | refine blk_drew ?_ | refine blk_alloc ?_ _)); exact BK346.out) hb); have n6_ := Aside0.mk (blk_below (g := gb367) (o := .cells #[.slice Ao55 t364.length co55] 33 (0, 0)) (by (with_reducible repeat (first | refine blk_drewN ?_ _ | refine blk_drew ?_ | refine blk_alloc ?_ _)); exact BK367.out) hb); have n7_ := Aside0.mk (below_step (by repeat (first | (with_reducible first | exact HB.out | apply below_alloc | apply pw_below_drewN | apply below_drew1 | refine below_set ?_ GE346.out | refine below_set ?_ GE367.out) | exact HB.out)) hb); clear HO_6; clear HO_347000; clear HO366; clear HO370; clear HO373; clear BK346; clear BK367; clear HB; have HO_6 := n0_; have HO_347000 := n1_; have HO366 := n2_; have HO370 := n3_; have HO373 := n4_; have BK346 := n5_; have BK367 := n6_; have HB := n7_; clear n0_ n1_ n2_ n3_ n4_ n5_ n6_ n7_; (try clear hb); (try clear hb2); (try clear hk); (try clear hi); obtain ⟨Ao76, co76, eo76⟩ := Kd.N_slice HO373.out; subst eo76; have hcz77_0 : w75.cell? ⟨gb367, 0, none⟩ = some (.slice Ao55 t364.length co55) := (blk_cell BK367.out 0).trans rfl; have hfz77_0 := blk_frozen BK367.out 0))
                go_meet
                case rel => exact ⟨_, (true), (by first | rfl | (simp; done) | (simp [*]; done)), H', ⟨by have := HK1.out; have := HJ23.out; have := HK3.out; first | omega | exact Nat.le_refl _⟩, ⟨by (with_reducible repeat (first | apply Kd.N_alloc | apply Kd.N_drewN | apply Kd.N_drew)); exact Kd.N_mono HO370.out (fun _ hk => ⟨hk.2, ⟨hk.1.2.1, ⟨hk.1.2.2.1, ⟨hk.1.2.2.2.1, hk.1.2.2.2.2⟩⟩⟩⟩)⟩, ⟨by (with_reducible repeat (first | apply Kd.N_alloc | apply Kd.N_drewN | apply Kd.N_drew)); exact Kd.N_mono HO373.out (fun _ hk => ⟨hk.2.2.2.1, ⟨hk.2.1, ⟨hk.2.2.1, ⟨hk.2.2.2.2.1, hk.2.2.2.2.2⟩⟩⟩⟩)⟩, ⟨by (with_reducible repeat (first | apply Kd.N_alloc | apply Kd.N_drewN | apply Kd.N_drew)); exact Kd.N_mono HO_347000.out (fun _ hk => ⟨hk.1.2, ⟨hk.2, ⟨hk.1.1.1.2, ⟨hk.1.1.1.1.2, hk.1.1.2⟩⟩⟩⟩)⟩, ⟨by (with_reducible repeat (first | apply Kd.N_alloc | apply Kd.N_drewN | apply Kd.N_drew)); exact Kd.N_mono HO366.out (fun _ hk => ⟨hk.1.2, ⟨hk.2, ⟨hk.1.1.1.2.1, ⟨hk.1.1.1.2.2, hk.1.1.2⟩⟩⟩⟩)⟩, ⟨by (with_reducible repeat (first | refine blk_drewN ?_ _ | refine blk_drew ?_ | refine blk_alloc ?_ _)); exact BK346.out⟩, ⟨by (with_reducible repeat (first | refine blk_drewN ?_ _ | refine blk_drew ?_ | refine blk_alloc ?_ _)); exact BK367.out⟩, ⟨by repeat (first | (with_reducible first | exact HB.out | apply below_alloc | apply pw_below_drewN | apply below_drew1 | refine below_set ?_ GE346.out | refine below_set ?_ GE367.out) | exact HB.out)⟩⟩
              ·replace c64 := Bool.eq_false_iff.mpr c64
               subst c64
               have H1 : (laws_FnPaths.j3 k3 t368 t371 t374 true t364) = some r := by rw [if_neg (show ¬ (false = true) by decide)] at H; exact H
               clear H
               have H := H1
               clear H1
               have H' := Aside0.mk H
               clear H
               have hnb78 := NB367_346.out
               have hnc78 := NB346_367.out
               have hcz79_0 : w61.cell? ⟨gb367, 0, none⟩ = some (.slice Ao55 t364.length co55) := (blk_cell BK367.out 0).trans rfl
               have hfz79_0 := blk_frozen BK367.out 0
               go_wp2_with (first | (go_at_call 24; (with_reducible refine (impl_IsPath.calls k3 _ _ t364 _ _ t368 false _ ?side1 ?side2 ?side3 ?side4 A63.out).mono ?_); (case side1 => repeat (first | exact (Kd.N_reads' HO366.out).2.2 | (with_reducible refine Kd.C_alloc ?_ _) | (with_reducible refine Kd.C_drewN ?_ _) | (with_reducible refine Kd.C_drew ?_))); (case side2 => exact (Kd.N_reads' HO366.out).2.1); (case side3 => repeat (first | exact (Kd.N_reads' HO370.out).2.2 | (with_reducible refine Kd.C_alloc ?_ _) | (with_reducible refine Kd.C_drewN ?_ _) | (with_reducible refine Kd.C_drew ?_))); (case side4 => exact (Kd.N_reads' HO370.out).2.1); rintro e w80 ⟨rfl, hb⟩; have n0_ := Aside0.mk (Kd.N_below (by (with_reducible repeat (first | apply Kd.N_alloc | apply Kd.N_drewN | apply Kd.N_drew)); exact HO_6.out) hb); have n1_ := Aside0.mk (Kd.N_below (by (with_reducible repeat (first | apply Kd.N_alloc | apply Kd.N_drewN | apply Kd.N_drew)); exact HO_347000.out) hb); have n2_ := Aside0.mk (Kd.N_below (by (with_reducible repeat (first | apply Kd.N_alloc | apply Kd.N_drewN | apply Kd.N_drew)); exact HO366.out) hb); have n3_ := Aside0.mk (Kd.N_below (by (with_reducible repeat (first | apply Kd.N_alloc | apply Kd.N_drewN | apply Kd.N_drew)); exact HO370.out) hb); have n4_ := Aside0.mk (Kd.N_below (by (with_reducible repeat (first | apply Kd.N_alloc | apply Kd.N_drewN | apply Kd.N_drew)); exact HO373.out) hb); have n5_ := Aside0.mk (blk_below (g := gb346) (o := .cells #[u347000] 33 (0, 0)) (by (with_reducible repeat (first | refine blk_drewN ?_ _ | refine blk_drew ?_ | refine blk_alloc ?_ _)); exact BK346.out) hb); have n6_ := Aside0.mk (blk_below (g := gb367) (o := .cells #[.slice Ao55 t364.length co55] 33 (0, 0)) (by (with_reducible repeat (first | refine blk_drewN ?_ _ | refine blk_drew ?_ | refine blk_alloc ?_ _)); exact BK367.out) hb); have n7_ := Aside0.mk (below_step (by repeat (first | (with_reducible first | exact HB.out | apply below_alloc | apply pw_below_drewN | apply below_drew1 | refine below_set ?_ GE346.out | refine below_set ?_ GE367.out) | exact HB.out)) hb); clear HO_6; clear HO_347000; clear HO366; clear HO370; clear HO373; clear BK346; clear BK367; clear HB; have HO_6 := n0_; have HO_347000 := n1_; have HO366 := n2_; have HO370 := n3_; have HO373 := n4_; have BK346 := n5_; have BK367 := n6_; have HB := n7_; clear n0_ n1_ n2_ n3_ n4_ n5_ n6_ n7_; (try clear hb); (try clear hb2); (try clear hk); (try clear hi)))
               go_meet
               case rel => exact ⟨_, (true), (by first | rfl | (simp; done) | (simp [*]; done)), H', ⟨by have := HK1.out; have := HJ23.out; have := HK3.out; first | omega | exact Nat.le_refl _⟩, ⟨by (with_reducible repeat (first | apply Kd.N_alloc | apply Kd.N_drewN | apply Kd.N_drew)); exact Kd.N_mono HO370.out (fun _ hk => ⟨hk.2, ⟨hk.1.2.1, ⟨hk.1.2.2.1, ⟨hk.1.2.2.2.1, hk.1.2.2.2.2⟩⟩⟩⟩)⟩, ⟨by (with_reducible repeat (first | apply Kd.N_alloc | apply Kd.N_drewN | apply Kd.N_drew)); exact Kd.N_mono HO373.out (fun _ hk => ⟨hk.2.2.2.1, ⟨hk.2.1, ⟨hk.2.2.1, ⟨hk.2.2.2.2.1, hk.2.2.2.2.2⟩⟩⟩⟩)⟩, ⟨by (with_reducible repeat (first | apply Kd.N_alloc | apply Kd.N_drewN | apply Kd.N_drew)); exact Kd.N_mono HO_347000.out (fun _ hk => ⟨hk.1.2, ⟨hk.2, ⟨hk.1.1.1.2, ⟨hk.1.1.1.1.2, hk.1.1.2⟩⟩⟩⟩)⟩, ⟨by (with_reducible repeat (first | apply Kd.N_alloc | apply Kd.N_drewN | apply Kd.N_drew)); exact Kd.N_mono HO366.out (fun _ hk => ⟨hk.1.2, ⟨hk.2, ⟨hk.1.1.1.2.1, ⟨hk.1.1.1.2.2, hk.1.1.2⟩⟩⟩⟩)⟩, ⟨by (with_reducible repeat (first | refine blk_drewN ?_ _ | refine blk_drew ?_ | refine blk_alloc ?_ _)); exact BK346.out⟩, ⟨by (with_reducible repeat (first | refine blk_drewN ?_ _ | refine blk_drew ?_ | refine blk_alloc ?_ _)); exact BK367.out⟩, ⟨by repeat (first | (with_reducible first | exact HB.out | apply below_alloc | apply pw_below_drewN | apply below_drew1 | refine below_set ?_ GE346.out | refine below_set ?_ GE367.out) | exact HB.out)⟩⟩
             ·replace c62 := Bool.eq_false_iff.mpr c62
              subst c62
              have H1 : (laws_FnPaths.j3 k3 t368 t371 t374 true t364) = some r := by rw [if_neg (show ¬ (false = true) by decide)] at H; exact H
              clear H
              have H := H1
              clear H1
              have H' := Aside0.mk H
              clear H
              go_wp2
              go_meet
              case rel => exact ⟨_, (true), (by first | rfl | (simp; done) | (simp [*]; done)), H', ⟨by have := HK1.out; have := HJ23.out; have := HK3.out; first | omega | exact Nat.le_refl _⟩, ⟨by (with_reducible repeat (first | apply Kd.N_alloc | apply Kd.N_drewN | apply Kd.N_drew)); exact Kd.N_mono HO370.out (fun _ hk => ⟨hk.2, ⟨hk.1.2.1, ⟨hk.1.2.2.1, ⟨hk.1.2.2.2.1, hk.1.2.2.2.2⟩⟩⟩⟩)⟩, ⟨by (with_reducible repeat (first | apply Kd.N_alloc | apply Kd.N_drewN | apply Kd.N_drew)); exact Kd.N_mono HO373.out (fun _ hk => ⟨hk.2.2.2.1, ⟨hk.2.1, ⟨hk.2.2.1, ⟨hk.2.2.2.2.1, hk.2.2.2.2.2⟩⟩⟩⟩)⟩, ⟨by (with_reducible repeat (first | apply Kd.N_alloc | apply Kd.N_drewN | apply Kd.N_drew)); exact Kd.N_mono HO_347000.out (fun _ hk => ⟨hk.1.2, ⟨hk.2, ⟨hk.1.1.1.2, ⟨hk.1.1.1.1.2, hk.1.1.2⟩⟩⟩⟩)⟩, ⟨by (with_reducible repeat (first | apply Kd.N_alloc | apply Kd.N_drewN | apply Kd.N_drew)); exact Kd.N_mono HO366.out (fun _ hk => ⟨hk.1.2, ⟨hk.2, ⟨hk.1.1.1.2.1, ⟨hk.1.1.1.2.2, hk.1.1.2⟩⟩⟩⟩)⟩, ⟨by (with_reducible repeat (first | refine blk_drewN ?_ _ | refine blk_drew ?_ | refine blk_alloc ?_ _)); exact BK346.out⟩, ⟨by (with_reducible repeat (first | refine blk_drewN ?_ _ | refine blk_drew ?_ | refine blk_alloc ?_ _)); exact BK367.out⟩, ⟨by repeat (first | (with_reducible first | exact HB.out | apply below_alloc | apply pw_below_drewN | apply below_drew1 | refine below_set ?_ GE346.out | refine below_set ?_ GE367.out) | exact HB.out)⟩⟩
            case rest =>
             clear HC51
             try clear c1
             try clear c2
             try clear p2
             try clear c3
             try clear p3
             try clear q3
             try clear hx3
             try clear qi3
             try clear c4
             try clear c5
             try clear c6
             try clear p6
             try clear c7
             try clear c25
             try clear c26
             try clear c27
             try clear c28
             try clear c32
             try clear c32b0
             try clear c33
             try clear c34
             try clear c35
             try clear p35
             try clear q35
             try clear hx35
             try clear qi35
             try clear c36
             try clear p36
             try clear q36
             try clear hx36
             try clear qi36
             try clear c37
             try clear c38
             try clear c40
             try clear c41
             try clear c43
             try clear c43b0
             try clear c43b1
             try clear c56
             try clear c62
             try clear c64
             try clear p64
             try clear c65
             try clear c65b0
             try clear c65b1
             try clear c65b2
             try clear c68
             try clear c73
             try clear c78
             try clear hcz57_0
             try clear hcz59_0
             try clear hcz69_0
             try clear hcz72_0
             try clear hcz74_0
             try clear hcz77_0
             try clear hcz79_0
             try clear hfz57_0
             try clear hfz59_0
             try clear hfz69_0
             try clear hfz72_0
             try clear hfz74_0
             try clear hfz77_0
             try clear hfz79_0
             try clear hx354_0
             try clear hx355_0
             try clear hx356_0
             try clear hx357_0
             try clear hx359_0
             try clear hx360_0
             try clear hx361_0
             try clear hx362_0
             try clear p354
             try clear p355
             try clear p356
             try clear p357
             try clear p359
             try clear p360
             try clear p361
             try clear p362
             try clear q354
             try clear q355
             try clear q356
             try clear q357
             try clear q359
             try clear q360
             try clear q361
             try clear q362
             obtain ⟨kq, x131_50, rfl, HA, HJ50, HO_13, HO_14, HO_347000, HO_368000, BK346, BK367, HB⟩ := hcut
             cases kq with
             | zero => exact absurd HA.out (by simp [laws_FnPaths.j3])
             | succ kj50 =>
              have H := HA.out
              clear HA
              simp only [laws_FnPaths.j3] at H
              by_cases c81 : x131_50 = true
              ·subst c81
               have H1 : (some false) = some r := by rw [if_pos rfl] at H; exact H
               clear H
               have H := H1
               clear H1
               obtain rfl := Option.some.inj H
               go_wp2
               go_ret
               exact ⟨by first | rfl | (simp [errW_none, errW_some] <;> rfl) | (simp only [← hji7, ← hji9]; first | rfl | (simp [errW_none, errW_some] <;> rfl)) | (simp [*, errW_none, errW_some] <;> rfl), by repeat (first | (with_reducible first | exact HB.out | apply below_alloc | apply pw_below_drewN | apply below_drew1 | refine below_set ?_ GE346.out | refine below_set ?_ GE367.out) | exact HB.out)⟩
              ·replace c81 := Bool.eq_false_iff.mpr c81
               subst c81
               have H1 : (laws_FnPaths.l2 kj50 t368 t371 t374 0 0 t364) = some r := by rw [if_neg (show ¬ (false = true) by decide)] at H; exact H
               clear H
               have H := H1
               clear H1
               have H' := Aside0.mk H
               clear H
               go_wp2
               go_loopg [17, 18] kj50 (fun kq v17 v18 w' => ∃ (x17_5 : Int) (x18_5 : Int), v17 = .int .i64 x17_5 ∧ v18 = .int .i64 x18_5 ∧ Aside0 (laws_FnPaths.l2 kq t368 t371 t374 x17_5 x18_5 t364 = some r) ∧ Aside0 (kq ≤ kj50) ∧ Aside0 (Kd.N (Kd.slice 2 (Kd.int .i64)) 34 w' w.heap.size (fun k_ => some k_ ≠ (v372 : Value).ownBlock ∧ some k_ ≠ (u347000 : Value).ownBlock ∧ some k_ ≠ ((.slice Ao55 t364.length co55) : Value).ownBlock ∧ k_ ≠ gb346 ∧ k_ ≠ gb367) (.slice Ao60 t368.length co60) t368) ∧ Aside0 (Kd.N (Kd.slice 2 (Kd.int .i64)) 34 w' w.heap.size (fun k_ => some k_ ≠ ((.slice Ao60 t368.length co60) : Value).ownBlock ∧ some k_ ≠ (u347000 : Value).ownBlock ∧ some k_ ≠ ((.slice Ao55 t364.length co55) : Value).ownBlock ∧ k_ ≠ gb346 ∧ k_ ≠ gb367) v372 t371) ∧ Aside0 (Kd.N (Kd.slice 2 (Kd.int .i64)) 34 w' w.heap.size (fun k_ => some k_ ≠ ((.slice Ao60 t368.length co60) : Value).ownBlock ∧ some k_ ≠ (v372 : Value).ownBlock ∧ some k_ ≠ ((.slice Ao55 t364.length co55) : Value).ownBlock ∧ k_ ≠ gb346 ∧ k_ ≠ gb367) u347000 x347000_1) ∧ Aside0 (Kd.N (Kd.slice 2 (Kd.int .i64)) 34 w' w.heap.size (fun k_ => some k_ ≠ ((.slice Ao60 t368.length co60) : Value).ownBlock ∧ some k_ ≠ (v372 : Value).ownBlock ∧ some k_ ≠ (u347000 : Value).ownBlock ∧ k_ ≠ gb346 ∧ k_ ≠ gb367) (.slice Ao55 t364.length co55) t364) ∧ Aside0 (w'.heap[gb346]? = some (.cells #[u347000] 33 (0, 0))) ∧ Aside0 (w'.heap[gb367]? = some (.cells #[(.slice Ao55 t364.length co55)] 33 (0, 0))) ∧ Aside0 (Below w.heap.size w w'))
               case atStart => exact ⟨(0), (0), (by first | rfl | (simp; done) | (simp [*]; done)), (by first | rfl | (simp; done) | (simp [*]; done)), H', ⟨Nat.le_refl _⟩, ⟨by (with_reducible repeat (first | apply Kd.N_alloc | apply Kd.N_drewN | apply Kd.N_drew)); exact HO_13.out⟩, ⟨by (with_reducible repeat (first | apply Kd.N_alloc | apply Kd.N_drewN | apply Kd.N_drew)); exact HO_14.out⟩, ⟨by (with_reducible repeat (first | apply Kd.N_alloc | apply Kd.N_drewN | apply Kd.N_drew)); exact HO_347000.out⟩, ⟨by (with_reducible repeat (first | apply Kd.N_alloc | apply Kd.N_drewN | apply Kd.N_drew)); exact HO_368000.out⟩, ⟨by (with_reducible repeat (first | refine blk_drewN ?_ _ | refine blk_drew ?_ | refine blk_alloc ?_ _)); exact BK346.out⟩, ⟨by (with_reducible repeat (first | refine blk_drewN ?_ _ | refine blk_drew ?_ | refine blk_alloc ?_ _)); exact BK367.out⟩, ⟨by repeat (first | (with_reducible first | exact HB.out | apply below_alloc | apply pw_below_drewN | apply below_drew1 | refine below_set ?_ GE346.out | refine below_set ?_ GE367.out) | exact HB.out)⟩⟩
               case round =>
                clear H'
                try clear c1
                try clear c2
                try clear p2
                try clear c3
                try clear p3
                try clear q3
                try clear hx3
                try clear qi3
                try clear c4
                try clear c5
                try clear c6
                try clear p6
                try clear c7
                try clear c8
                try clear c25
                try clear c26
                try clear c27
                try clear c28
                try clear c32
                try clear c32b0
                try clear c33
                try clear c34
                try clear c35
                try clear p35
                try clear q35
                try clear hx35
                try clear qi35
                try clear c36
                try clear p36
                try clear q36
                try clear hx36
                try clear qi36
                try clear c37
                try clear c38
                try clear c40
                try clear c41
                try clear c43
                try clear c43b0
                try clear c43b1
                try clear c56
                try clear c62
                try clear c64
                try clear p64
                try clear c65
                try clear c65b0
                try clear c65b1
                try clear c65b2
                try clear c68
                try clear c73
                try clear c78
                try clear c81
                try clear hcz57_0
                try clear hcz59_0
                try clear hcz69_0
                try clear hcz72_0
                try clear hcz74_0
                try clear hcz77_0
                try clear hcz79_0
                try clear hfz57_0
                try clear hfz59_0
                try clear hfz69_0
                try clear hfz72_0
                try clear hfz74_0
                try clear hfz77_0
                try clear hfz79_0
                try clear hx354_0
                try clear hx355_0
                try clear hx356_0
                try clear hx357_0
                try clear hx359_0
                try clear hx360_0
                try clear hx361_0
                try clear hx362_0
                try clear p2
                try clear p3
                try clear p35
                try clear p354
                try clear p355
                try clear p356
                try clear p357
                try clear p359
                try clear p36
                try clear p360
                try clear p361
                try clear p362
                try clear p6
                try clear p64
                try clear q3
                try clear q35
                try clear q354
                try clear q355
                try clear q356
                try clear q357
                try clear q359
                try clear q36
                try clear q360
                try clear q361
                try clear q362
                obtain ⟨x17_5, x18_5, rfl, rfl, HA, HK5, HO_13, HO_14, HO_347000, HO_368000, BK346, BK367, HB⟩ := hrel
                cases gk with
                | zero => exact absurd HA.out (by simp [laws_FnPaths.l2])
                | succ k5 =>
                 have H := HA.out
                 clear HA
                 simp only [laws_FnPaths.l2] at H
                 by_cases c82 : x18_5 < (t368.length : Int)
                 ·rw [if_pos c82] at H
                  have c82b0 : decide (x18_5 < (t368.length : Int)) = true := decide_eq_true c82
                  clear c82
                  by_cases c83 : 0 ≤ x18_5
                  ·rw [if_pos c83] at H
                   have c83b0 : decide (0 ≤ x18_5) = true := decide_eq_true c83
                   clear c83
                   by_cases c84 : 0 < ((rd_L1 t368 x18_5).length : Int)
                   ·rw [if_pos c84] at H
                    have c84b0 : decide (0 < ((rd_L1 t368 x18_5).length : Int)) = true := decide_eq_true c84
                    have c84b1 : decide (0 < (rd_L1 t368 x18_5).length) = true := decide_eq_true (by omega)
                    clear c84
                    by_cases c85 : 1 < ((rd_L1 t368 x18_5).length : Int)
                    ·rw [if_pos c85] at H
                     have c85b0 : decide (1 < ((rd_L1 t368 x18_5).length : Int)) = true := decide_eq_true c85
                     have c85b1 : decide (1 < (rd_L1 t368 x18_5).length) = true := decide_eq_true (by omega)
                     clear c85
                     by_cases c86 : 0 ≤ (rd (rd_L1 t368 x18_5) 0)
                     ·rw [if_pos c86] at H
                      have c86b0 : decide (0 ≤ (rd (rd_L1 t368 x18_5) 0)) = true := decide_eq_true c86
                      clear c86
                      by_cases c87 : (rd (rd_L1 t368 x18_5) 0) < (t371.length : Int)
                      ·rw [if_pos c87] at H
                       have c87b0 : decide ((rd (rd_L1 t368 x18_5) 0) < (t371.length : Int)) = true := decide_eq_true c87
                       clear c87
                       by_cases c88 : (rd (rd_L1 t368 x18_5) 0) < (t364.length : Int)
                       ·rw [if_pos c88] at H
                        have c88b0 : decide ((rd (rd_L1 t368 x18_5) 0) < (t364.length : Int)) = true := decide_eq_true c88
                        clear c88
                        by_cases c89 : ((rd_L1 t371 (rd (rd_L1 t368 x18_5) 0)).length : Int) = ((rd_L1 t364 (rd (rd_L1 t368 x18_5) 0)).length : Int)
                        ·rw [if_pos c89] at H
                         have c89b0 : (((rd_L1 t371 (rd (rd_L1 t368 x18_5) 0)).length : Int) == ((rd_L1 t364 (rd (rd_L1 t368 x18_5) 0)).length : Int)) = true := beq_iff_eq.mpr c89
                         have c89b1 : (((rd_L1 t371 (rd (rd_L1 t368 x18_5) 0)).length : Int) != ((rd_L1 t364 (rd (rd_L1 t368 x18_5) 0)).length : Int)) = false := bne_eq_false_iff_eq.mpr c89
                         have c89b2 : ((rd_L1 t371 (rd (rd_L1 t368 x18_5) 0)).length == (rd_L1 t364 (rd (rd_L1 t368 x18_5) 0)).length) = true := by first | simpa using c89 | (simp at c89 ⊢; omega)
                         clear c89
                         by_cases c90 : 0 ≤ (rd (rd_L1 t368 x18_5) 1)
                         ·rw [if_pos c90] at H
                          have c90b0 : decide (0 ≤ (rd (rd_L1 t368 x18_5) 1)) = true := decide_eq_true c90
                          clear c90
                          by_cases c91 : (rd (rd_L1 t368 x18_5) 1) < ((rd_L1 t364 (rd (rd_L1 t368 x18_5) 0)).length : Int)
                          ·rw [if_pos c91] at H
                           have c91b0 : decide ((rd (rd_L1 t368 x18_5) 1) < ((rd_L1 t364 (rd (rd_L1 t368 x18_5) 0)).length : Int)) = true := decide_eq_true c91
                           clear c91
                           by_cases c92 : (rd (rd_L1 t368 x18_5) 1) < ((rd_L1 t371 (rd (rd_L1 t368 x18_5) 0)).length : Int)
                           ·rw [if_pos c92] at H
                            have c92b0 : decide ((rd (rd_L1 t368 x18_5) 1) < ((rd_L1 t371 (rd (rd_L1 t368 x18_5) 0)).length : Int)) = true := decide_eq_true c92
                            clear c92
                            replace H := Option.bind_eq_some_iff.mp H
                            obtain ⟨t389, A930, H⟩ := H
                            replace H : (if (wrap64 (2 * t389)) > 256 then (some false) else (laws_FnPaths.l2 k5 t368 t371 t374 (wrap64 (x17_5 + (wrap64 ((rd (rd_L1 t364 (rd (rd_L1 t368 x18_5) 0)) (rd (rd_L1 t368 x18_5) 1)) - (wrap64 (255 * (rd (rd_L1 t371 (rd (rd_L1 t368 x18_5) 0)) (rd (rd_L1 t368 x18_5) 1)))))))) (wrap64 (x18_5 + 1)) t364)) = some r := H
                            have A93 := Aside0.mk A930
                            clear A930
                            by_cases c94 : (wrap64 (2 * t389)) > 256
                            ·rw [if_pos c94] at H
                             have c94b0 : decide (256 < (wrap64 (2 * t389))) = true := decide_eq_true c94
                             clear c94
                             obtain rfl := Option.some.inj H
                             have p379 : 0 ≤ (x18_5 : Int) := of_decide_eq_true (by first | (with_reducible assumption) | assumption)
                             have q379 : x18_5 < (t368.length : Int) := of_decide_eq_true (by first | (with_reducible assumption) | assumption)
                             obtain ⟨ad379, A379_0, c379_0, e379, hx379_0, hl379_0, hi379_0⟩ := at_L1 (Kd.N_reads' HO_13.out).2.2 x18_5 p379 q379
                             cases e379
                             obtain ⟨ce379, hce379, hMe379, hcc379⟩ := Kd.N_get HO_13.out [] x18_5 p379 (by first | exact q379 | exact of_decide_eq_true (by first | (with_reducible assumption) | assumption) | (have e_ := (Kd.N_reads' HO_13.out).1; omega))
                             obtain ⟨ua379_0, uc379_0, rfl, ul379_0, ge379_0⟩ := Kd.FK_slice_open hMe379
                             have hv379_0 := hcc379 0 _ rfl
                             rw [Nat.add_zero, show ((Kd.slice 2 (Kd.int .i64))).sz = 1 from rfl, Nat.mul_one] at hv379_0
                             replace hv379_0 := Option.some.inj (hv379_0.symm.trans hx379_0)
                             injection hv379_0 with hva_ hvn_ hvc_
                             rw [hva_] at ge379_0
                             rw [hvc_] at ul379_0
                             have HL379_0 := Aside0.mk (show Kd.V (Kd.int .i64) 2 _ w.heap.size _ _ (rd_L1 t368 x18_5) from Kd.V_mk ul379_0 ge379_0)
                             clear hva_ hvn_ hvc_ ge379_0 ul379_0
                             clear hcc379 hce379
                             have HR379_0 := Aside0.mk hi379_0
                             have HC379_0 := Aside0.mk hl379_0
                             clear hi379_0 hl379_0
                             replace p379 := eq_true p379
                             replace q379 := eq_true q379
                             have p380 : 0 ≤ (0 : Int) := (by omega)
                             have q380 : 0 < ((rd_L1 t368 x18_5).length : Int) := of_decide_eq_true (by first | (with_reducible assumption) | assumption)
                             obtain ⟨ad380, e380, hx380_0⟩ := Kd.at_int (by repeat (first | (with_reducible exact HR379_0.out) | (with_reducible refine Kd.C_alloc ?_ _) | (with_reducible refine Kd.C_drewN ?_ _) | (with_reducible refine Kd.C_drew ?_) | exact HR379_0.out)) 0 p380 q380
                             cases e380
                             have qi380 : (0 < (rd_L1 t368 x18_5).length) = True := eq_true (by omega)
                             (try rw [show ((0 : Int)).toNat = 0 from rfl] at hx380_0)
                             (try rw [Addr.add_zero'] at hx380_0)
                             replace p380 := eq_true p380
                             replace q380 := eq_true q380
                             have p381 : 0 ≤ (x18_5 : Int) := of_decide_eq_true (by first | (with_reducible assumption) | assumption)
                             have q381 : x18_5 < (t368.length : Int) := of_decide_eq_true (by first | (with_reducible assumption) | assumption)
                             obtain ⟨ad381, A381_0, c381_0, e381, hx381_0, hl381_0, hi381_0⟩ := at_L1 (Kd.N_reads' HO_13.out).2.2 x18_5 p381 q381
                             obtain rfl : ad379 = ad381 := (by injection e381)
                             obtain ⟨ce381, hce381, hMe381, hcc381⟩ := Kd.N_get HO_13.out [] x18_5 p381 (by first | exact q381 | exact of_decide_eq_true (by first | (with_reducible assumption) | assumption) | (have e_ := (Kd.N_reads' HO_13.out).1; omega))
                             obtain ⟨ua381_0, uc381_0, rfl, ul381_0, ge381_0⟩ := Kd.FK_slice_open hMe381
                             have hv381_0 := hcc381 0 _ rfl
                             rw [Nat.add_zero, show ((Kd.slice 2 (Kd.int .i64))).sz = 1 from rfl, Nat.mul_one] at hv381_0
                             replace hv381_0 := Option.some.inj (hv381_0.symm.trans hx381_0)
                             injection hv381_0 with hva_ hvn_ hvc_
                             rw [hva_] at ge381_0
                             rw [hvc_] at ul381_0
                             have HL381_0 := Aside0.mk (show Kd.V (Kd.int .i64) 2 _ w.heap.size _ _ (rd_L1 t368 x18_5) from Kd.V_mk ul381_0 ge381_0)
                             clear hva_ hvn_ hvc_ ge381_0 ul381_0
                             clear hcc381 hce381
                             have HR381_0 := Aside0.mk hi381_0
                             have HC381_0 := Aside0.mk hl381_0
                             clear hi381_0 hl381_0
                             replace p381 := eq_true p381
                             replace q381 := eq_true q381
                             have ea_ := Option.some.inj (hx379_0.symm.trans hx381_0)
                             injection ea_ with ea_ en_ ec_
                             subst ea_
                             subst ec_
                             clear en_
                             have p382 : 0 ≤ (1 : Int) := (by omega)
                             have q382 : 1 < ((rd_L1 t368 x18_5).length : Int) := of_decide_eq_true (by first | (with_reducible assumption) | assumption)
                             obtain ⟨ad382, e382, hx382_0⟩ := Kd.at_int (by repeat (first | (with_reducible exact HR381_0.out) | (with_reducible refine Kd.C_alloc ?_ _) | (with_reducible refine Kd.C_drewN ?_ _) | (with_reducible refine Kd.C_drew ?_) | exact HR381_0.out)) 1 p382 q382
                             cases e382
                             (try simp only [show (1 : Int).toNat = 1 from rfl, Nat.reduceMul, Nat.reduceEqDiff, Go.Addr.add, ↓reduceIte] at hx382_0)
                             have qi382 : (1 < (rd_L1 t368 x18_5).length) = True := eq_true (by omega)
                             (try rw [show ((1 : Int)).toNat = 1 from rfl] at hx382_0)
                             replace p382 := eq_true p382
                             replace q382 := eq_true q382
                             try go_wp2
                             have n0_ := Aside0.mk (Kd.N_drew HO_13.out)
                             have n1_ := Aside0.mk (Kd.N_drew HO_14.out)
                             have n2_ := Aside0.mk (Kd.N_drew HO_347000.out)
                             have n3_ := Aside0.mk (Kd.N_drew HO_368000.out)
                             have n4_ := Aside0.mk (Kd.V_drew HL379_0.out)
                             have n5_ := Aside0.mk (Kd.V_drew HL381_0.out)
                             have n6_ := Aside0.mk (blk_drew BK346.out)
                             have n7_ := Aside0.mk (blk_drew BK367.out)
                             have n8_ := Aside0.mk (Kd.C_drew HR379_0.out)
                             have n9_ := Aside0.mk (Kd.C_drew HR381_0.out)
                             have n10_ := Aside0.mk (below_drew1 HB.out)
                             clear HO_13
                             clear HO_14
                             clear HO_347000
                             clear HO_368000
                             clear HL379_0
                             clear HL381_0
                             clear BK346
                             clear BK367
                             clear HR379_0
                             clear HR381_0
                             clear HB
                             have HO_13 := n0_
                             have HO_14 := n1_
                             have HO_347000 := n2_
                             have HO_368000 := n3_
                             have HL379_0 := n4_
                             have HL381_0 := n5_
                             have BK346 := n6_
                             have BK367 := n7_
                             have HR379_0 := n8_
                             have HR381_0 := n9_
                             have HB := n10_
                             clear n0_ n1_ n2_ n3_ n4_ n5_ n6_ n7_ n8_ n9_ n10_
                             obtain ⟨Ao96, co96, eo96⟩ := Kd.N_slice HO_14.out
                             (first | subst eo96 | (injection eo96 with f1_ f2_ f3_; have f4_ := f1_.symm; have f5_ := f3_.symm; clear f1_ f2_ f3_; subst f4_; subst f5_))
                             have p383 : 0 ≤ ((rd (rd_L1 t368 x18_5) 0) : Int) := of_decide_eq_true (by first | (with_reducible assumption) | assumption)
                             have q383 : (rd (rd_L1 t368 x18_5) 0) < (t371.length : Int) := of_decide_eq_true (by first | (with_reducible assumption) | assumption)
                             obtain ⟨ad383, A383_0, c383_0, e383, hx383_0, hl383_0, hi383_0⟩ := at_L1 (Kd.N_reads' HO_14.out).2.2 (rd (rd_L1 t368 x18_5) 0) p383 q383
                             cases e383
                             obtain ⟨ce383, hce383, hMe383, hcc383⟩ := Kd.N_get HO_14.out [] (rd (rd_L1 t368 x18_5) 0) p383 (by first | exact q383 | exact of_decide_eq_true (by first | (with_reducible assumption) | assumption) | (have e_ := (Kd.N_reads' HO_14.out).1; omega))
                             obtain ⟨ua383_0, uc383_0, rfl, ul383_0, ge383_0⟩ := Kd.FK_slice_open hMe383
                             have hv383_0 := hcc383 0 _ rfl
                             rw [Nat.add_zero, show ((Kd.slice 2 (Kd.int .i64))).sz = 1 from rfl, Nat.mul_one] at hv383_0
                             replace hv383_0 := Option.some.inj (hv383_0.symm.trans hx383_0)
                             injection hv383_0 with hva_ hvn_ hvc_
                             rw [hva_] at ge383_0
                             rw [hvc_] at ul383_0
                             have HL383_0 := Aside0.mk (show Kd.V (Kd.int .i64) 2 _ w.heap.size _ _ (rd_L1 t371 (rd (rd_L1 t368 x18_5) 0)) from Kd.V_mk ul383_0 ge383_0)
                             clear hva_ hvn_ hvc_ ge383_0 ul383_0
                             clear hcc383 hce383
                             have HR383_0 := Aside0.mk hi383_0
                             have HC383_0 := Aside0.mk hl383_0
                             clear hi383_0 hl383_0
                             replace p383 := eq_true p383
                             replace q383 := eq_true q383
                             have p384 : 0 ≤ ((rd (rd_L1 t368 x18_5) 0) : Int) := of_decide_eq_true (by first | (with_reducible assumption) | assumption)
                             have q384 : (rd (rd_L1 t368 x18_5) 0) < (t364.length : Int) := of_decide_eq_true (by first | (with_reducible assumption) | assumption)
                             obtain ⟨ad384, A384_0, c384_0, e384, hx384_0, hl384_0, hi384_0⟩ := at_L1 (Kd.N_reads' HO_368000.out).2.2 (rd (rd_L1 t368 x18_5) 0) p384 q384
                             cases e384
                             obtain ⟨ce384, hce384, hMe384, hcc384⟩ := Kd.N_get HO_368000.out [] (rd (rd_L1 t368 x18_5) 0) p384 (by first | exact q384 | exact of_decide_eq_true (by first | (with_reducible assumption) | assumption) | (have e_ := (Kd.N_reads' HO_368000.out).1; omega))
                             obtain ⟨ua384_0, uc384_0, rfl, ul384_0, ge384_0⟩ := Kd.FK_slice_open hMe384
                             have hv384_0 := hcc384 0 _ rfl
                             rw [Nat.add_zero, show ((Kd.slice 2 (Kd.int .i64))).sz = 1 from rfl, Nat.mul_one] at hv384_0
                             replace hv384_0 := Option.some.inj (hv384_0.symm.trans hx384_0)
                             injection hv384_0 with hva_ hvn_ hvc_
                             rw [hva_] at ge384_0
                             rw [hvc_] at ul384_0
                             have HL384_0 := Aside0.mk (show Kd.V (Kd.int .i64) 2 _ w.heap.size _ _ (rd_L1 t364 (rd (rd_L1 t368 x18_5) 0)) from Kd.V_mk ul384_0 ge384_0)
                             clear hva_ hvn_ hvc_ ge384_0 ul384_0
                             clear hcc384 hce384
                             have HR384_0 := Aside0.mk hi384_0
                             have HC384_0 := Aside0.mk hl384_0
                             clear hi384_0 hl384_0
                             replace p384 := eq_true p384
                             replace q384 := eq_true q384
                             refine start_ (n := 12) (S := fun w' => w'.cell? ⟨gb367, 0, none⟩ = some (.slice (some ad384) t364.length co55) ∧ w'.cell? (ad383.add ((rd (rd_L1 t368 x18_5) 0)).toNat) = some (.slice A383_0 (rd_L1 t371 (rd (rd_L1 t368 x18_5) 0)).length c383_0) ∧ w'.cell? (ad384.add ((rd (rd_L1 t368 x18_5) 0)).toNat) = some (.slice A384_0 (rd_L1 t364 (rd (rd_L1 t368 x18_5) 0)).length c384_0)) (ds := []) #[false, false, false, false, false, false, false, false, false, false, false, false] (by kernel_rfl) rfl rfl ⟨(blk_cell BK367.out 0).trans rfl, hx383_0, hx384_0⟩ (fun hHeld => ?_); refine with_tabW laws_FnPaths.tab29 laws_FnPaths.bits29 (fun HT_ HW_ => ?_)
                             generalize wr.drew = w95 at HO_13 HO_14 HO_347000 HO_368000 HL379_0 HL381_0 BK346 BK367 HR379_0 HR381_0 HB HL383_0 HL384_0 HR383_0 HR384_0 hx383_0 hx384_0 hHeld ⊢
                             refine pure_ (i := 0) (N := some 150) (v := ?_) (a' := ?_) #[true, false, false, false, false, false, false, false, false, false, false, false] rfl rfl (any_of HT_.out (by kernel_rfl)) (fun _ _ _ h => h) (Or.inl ⟨by rfl, ?_⟩) ?_ ?_
                             rotate_left; (intro w'; go_simp; with_reducible rfl); rotate_left; (simp only [Act.put, List.setIfInBounds_toArray, List.set_cons_zero, List.set_cons_succ, i64_w, i32_w]; rfl)
                             refine pure_ (i := 1) (N := some 151) (v := ?_) (a' := ?_) #[true, true, false, false, false, false, false, false, false, false, false, false] rfl rfl (any_of HT_.out (by kernel_rfl)) (fun _ _ _ h => h) (Or.inl ⟨by rfl, ?_⟩) ?_ ?_
                             rotate_left; (intro w'; go_simp; with_reducible rfl); rotate_left; (simp only [Act.put, List.setIfInBounds_toArray, List.set_cons_zero, List.set_cons_succ, i64_w, i32_w]; rfl)
                             refine pure_ (i := 2) (N := some 152) (v := ?_) (a' := ?_) #[true, true, true, false, false, false, false, false, false, false, false, false] rfl rfl (any_of HT_.out (by kernel_rfl)) (fun _ _ _ h => h) (Or.inl ⟨by rfl, ?_⟩) ?_ ?_
                             rotate_left; (intro w'; go_simp; with_reducible rfl); rotate_left; (simp only [Act.put, List.setIfInBounds_toArray, List.set_cons_zero, List.set_cons_succ, i64_w, i32_w]; rfl)
                             refine pure_ (i := 5) (N := some 155) (v := ?_) (a' := ?_) #[true, true, true, false, false, true, false, false, false, false, false, false] rfl rfl (any_of HT_.out (by kernel_rfl)) (fun _ _ _ h => h) (Or.inl ⟨by rfl, ?_⟩) ?_ ?_
                             rotate_left; (intro w'; go_simp; with_reducible rfl); rotate_left; (simp only [Act.put, List.setIfInBounds_toArray, List.set_cons_zero, List.set_cons_succ, i64_w, i32_w]; rfl)
                             refine pure_ (i := 7) (N := some 157) (v := ?_) (a' := ?_) #[true, true, true, false, false, true, false, true, false, false, false, false] rfl rfl (any_of HT_.out (by kernel_rfl)) (fun _ _ _ h => h) (Or.inl ⟨by rfl, ?_⟩) ?_ ?_
                             rotate_left; (intro w'; go_simp; with_reducible rfl); rotate_left; (simp only [Act.put, List.setIfInBounds_toArray, List.set_cons_zero, List.set_cons_succ, i64_w, i32_w]; rfl)
                             refine take_ (i := 3) (N := some 153) (v := ?_) (a' := ?_) #[true, true, true, true, false, true, false, true, false, false, false, false] rfl rfl (take_ofW HT_.out HW_.out (by kernel_rfl)) (fun _ _ _ h => h) (Or.inl ⟨by rfl, ?_⟩) hHeld ?_ ?_
                             rotate_left; (rintro w' ⟨s0, s1, s2⟩; go_simp; with_reducible rfl); rotate_left; (simp only [Act.put, List.setIfInBounds_toArray, List.set_cons_zero, List.set_cons_succ, i64_w, i32_w]; rfl)
                             refine pure_ (i := 4) (N := some 154) (v := ?_) (a' := ?_) #[true, true, true, true, true, true, false, true, false, false, false, false] rfl rfl (any_of HT_.out (by kernel_rfl)) (fun _ _ _ h => h) (Or.inl ⟨by rfl, ?_⟩) ?_ ?_
                             rotate_left; (intro w'; go_simp; with_reducible rfl); rotate_left; (simp only [Act.put, List.setIfInBounds_toArray, List.set_cons_zero, List.set_cons_succ, i64_w, i32_w]; rfl)
                             refine take_ (i := 6) (N := some 156) (v := ?_) (a' := ?_) #[true, true, true, true, true, true, true, true, false, false, false, false] rfl rfl (take_ofW HT_.out HW_.out (by kernel_rfl)) (fun _ _ _ h => h) (Or.inl ⟨by rfl, ?_⟩) hHeld ?_ ?_
                             rotate_left; (rintro w' ⟨s0, s1, s2⟩; go_simp; with_reducible rfl); rotate_left; (simp only [Act.put, List.setIfInBounds_toArray, List.set_cons_zero, List.set_cons_succ, i64_w, i32_w]; rfl)
                             refine pure_ (i := 8) (N := some 158) (v := ?_) (a' := ?_) #[true, true, true, true, true, true, true, true, true, false, false, false] rfl rfl (any_of HT_.out (by kernel_rfl)) (fun _ _ _ h => h) (Or.inl ⟨by rfl, ?_⟩) ?_ ?_
                             rotate_left; (intro w'; go_simp; with_reducible rfl); rotate_left; (simp only [Act.put, List.setIfInBounds_toArray, List.set_cons_zero, List.set_cons_succ, i64_w, i32_w]; rfl)
                             refine take_ (i := 9) (N := some 159) (v := ?_) (a' := ?_) #[true, true, true, true, true, true, true, true, true, true, false, false] rfl rfl (take_ofW HT_.out HW_.out (by kernel_rfl)) (fun _ _ _ h => h) (Or.inl ⟨by rfl, ?_⟩) hHeld ?_ ?_
                             rotate_left; (rintro w' ⟨s0, s1, s2⟩; go_simp; with_reducible rfl); rotate_left; (simp only [Act.put, List.setIfInBounds_toArray, List.set_cons_zero, List.set_cons_succ, i64_w, i32_w]; rfl)
                             refine pure_ (i := 10) (N := some 160) (v := ?_) (a' := ?_) #[true, true, true, true, true, true, true, true, true, true, true, false] rfl rfl (any_of HT_.out (by kernel_rfl)) (fun _ _ _ h => h) (Or.inl ⟨by rfl, ?_⟩) ?_ ?_
                             rotate_left; (intro w'; go_simp; with_reducible rfl); rotate_left; (simp only [Act.put, List.setIfInBounds_toArray, List.set_cons_zero, List.set_cons_succ, i64_w, i32_w]; rfl)
                             refine pure_ (i := 11) (N := some 161) (v := ?_) (a' := ?_) #[true, true, true, true, true, true, true, true, true, true, true, true] rfl rfl (any_of HT_.out (by kernel_rfl)) (fun _ _ _ h => h) (Or.inl ⟨by rfl, ?_⟩) ?_ ?_
                             rotate_left; (intro w'; go_simp; with_reducible rfl); rotate_left; (simp only [Act.put, List.setIfInBounds_toArray, List.set_cons_zero, List.set_cons_succ, i64_w, i32_w]; rfl)
                             refine done_ (done_of HT_.out (by kernel_rfl)) ?_
                             try go_wp2
                             have n0_ := Aside0.mk (Kd.N_drew HO_13.out)
                             have n1_ := Aside0.mk (Kd.N_drew HO_14.out)
                             have n2_ := Aside0.mk (Kd.N_drew HO_347000.out)
                             have n3_ := Aside0.mk (Kd.N_drew HO_368000.out)
                             have n4_ := Aside0.mk (Kd.V_drew HL379_0.out)
                             have n5_ := Aside0.mk (Kd.V_drew HL381_0.out)
                             have n6_ := Aside0.mk (Kd.V_drew HL383_0.out)
                             have n7_ := Aside0.mk (Kd.V_drew HL384_0.out)
                             have n8_ := Aside0.mk (blk_drew BK346.out)
                             have n9_ := Aside0.mk (blk_drew BK367.out)
                             have n10_ := Aside0.mk (Kd.C_drew HR379_0.out)
                             have n11_ := Aside0.mk (Kd.C_drew HR381_0.out)
                             have n12_ := Aside0.mk (Kd.C_drew HR383_0.out)
                             have n13_ := Aside0.mk (Kd.C_drew HR384_0.out)
                             have n14_ := Aside0.mk (below_drew1 HB.out)
                             clear HO_13
                             clear HO_14
                             clear HO_347000
                             clear HO_368000
                             clear HL379_0
                             clear HL381_0
                             clear HL383_0
                             clear HL384_0
                             clear BK346
                             clear BK367
                             clear HR379_0
                             clear HR381_0
                             clear HR383_0
                             clear HR384_0
                             clear HB
                             have HO_13 := n0_
                             have HO_14 := n1_
                             have HO_347000 := n2_
                             have HO_368000 := n3_
                             have HL379_0 := n4_
                             have HL381_0 := n5_
                             have HL383_0 := n6_
                             have HL384_0 := n7_
                             have BK346 := n8_
                             have BK367 := n9_
                             have HR379_0 := n10_
                             have HR381_0 := n11_
                             have HR383_0 := n12_
                             have HR384_0 := n13_
                             have HB := n14_
                             clear n0_ n1_ n2_ n3_ n4_ n5_ n6_ n7_ n8_ n9_ n10_ n11_ n12_ n13_ n14_
                             have p385 : 0 ≤ ((rd (rd_L1 t368 x18_5) 0) : Int) := of_decide_eq_true (by first | (with_reducible assumption) | assumption)
                             have q385 : (rd (rd_L1 t368 x18_5) 0) < (t364.length : Int) := of_decide_eq_true (by first | (with_reducible assumption) | assumption)
                             obtain ⟨ad385, A385_0, c385_0, e385, hx385_0, hl385_0, hi385_0⟩ := at_L1 (Kd.N_reads' HO_368000.out).2.2 (rd (rd_L1 t368 x18_5) 0) p385 q385
                             obtain rfl : ad384 = ad385 := (by injection e385)
                             obtain ⟨ce385, hce385, hMe385, hcc385⟩ := Kd.N_get HO_368000.out [] (rd (rd_L1 t368 x18_5) 0) p385 (by first | exact q385 | exact of_decide_eq_true (by first | (with_reducible assumption) | assumption) | (have e_ := (Kd.N_reads' HO_368000.out).1; omega))
                             obtain ⟨ua385_0, uc385_0, rfl, ul385_0, ge385_0⟩ := Kd.FK_slice_open hMe385
                             have hv385_0 := hcc385 0 _ rfl
                             rw [Nat.add_zero, show ((Kd.slice 2 (Kd.int .i64))).sz = 1 from rfl, Nat.mul_one] at hv385_0
                             replace hv385_0 := Option.some.inj (hv385_0.symm.trans hx385_0)
                             injection hv385_0 with hva_ hvn_ hvc_
                             rw [hva_] at ge385_0
                             rw [hvc_] at ul385_0
                             have HL385_0 := Aside0.mk (show Kd.V (Kd.int .i64) 2 _ w.heap.size _ _ (rd_L1 t364 (rd (rd_L1 t368 x18_5) 0)) from Kd.V_mk ul385_0 ge385_0)
                             clear hva_ hvn_ hvc_ ge385_0 ul385_0
                             clear hcc385 hce385
                             have HR385_0 := Aside0.mk hi385_0
                             have HC385_0 := Aside0.mk hl385_0
                             clear hi385_0 hl385_0
                             replace p385 := eq_true p385
                             replace q385 := eq_true q385
                             have p386 : 0 ≤ ((rd (rd_L1 t368 x18_5) 1) : Int) := of_decide_eq_true (by first | (with_reducible assumption) | assumption)
                             have q386 : (rd (rd_L1 t368 x18_5) 1) < ((rd_L1 t364 (rd (rd_L1 t368 x18_5) 0)).length : Int) := of_decide_eq_true (by first | (with_reducible assumption) | assumption)
                             obtain ⟨ad386, e386, hx386_0⟩ := Kd.at_int (by repeat (first | (with_reducible exact HR385_0.out) | (with_reducible refine Kd.C_alloc ?_ _) | (with_reducible refine Kd.C_drewN ?_ _) | (with_reducible refine Kd.C_drew ?_) | exact HR385_0.out)) (rd (rd_L1 t368 x18_5) 1) p386 q386
                             cases e386
                             replace p386 := eq_true p386
                             replace q386 := eq_true q386
                             have p387 : 0 ≤ ((rd (rd_L1 t368 x18_5) 0) : Int) := of_decide_eq_true (by first | (with_reducible assumption) | assumption)
                             have q387 : (rd (rd_L1 t368 x18_5) 0) < (t371.length : Int) := of_decide_eq_true (by first | (with_reducible assumption) | assumption)
                             obtain ⟨ad387, A387_0, c387_0, e387, hx387_0, hl387_0, hi387_0⟩ := at_L1 (Kd.N_reads' HO_14.out).2.2 (rd (rd_L1 t368 x18_5) 0) p387 q387
                             obtain rfl : ad383 = ad387 := (by injection e387)
                             obtain ⟨ce387, hce387, hMe387, hcc387⟩ := Kd.N_get HO_14.out [] (rd (rd_L1 t368 x18_5) 0) p387 (by first | exact q387 | exact of_decide_eq_true (by first | (with_reducible assumption) | assumption) | (have e_ := (Kd.N_reads' HO_14.out).1; omega))
                             obtain ⟨ua387_0, uc387_0, rfl, ul387_0, ge387_0⟩ := Kd.FK_slice_open hMe387
                             have hv387_0 := hcc387 0 _ rfl
                             rw [Nat.add_zero, show ((Kd.slice 2 (Kd.int .i64))).sz = 1 from rfl, Nat.mul_one] at hv387_0
                             replace hv387_0 := Option.some.inj (hv387_0.symm.trans hx387_0)
                             injection hv387_0 with hva_ hvn_ hvc_
                             rw [hva_] at ge387_0
                             rw [hvc_] at ul387_0
                             have HL387_0 := Aside0.mk (show Kd.V (Kd.int .i64) 2 _ w.heap.size _ _ (rd_L1 t371 (rd (rd_L1 t368 x18_5) 0)) from Kd.V_mk ul387_0 ge387_0)
                             clear hva_ hvn_ hvc_ ge387_0 ul387_0
                             clear hcc387 hce387
                             have HR387_0 := Aside0.mk hi387_0
                             have HC387_0 := Aside0.mk hl387_0
                             clear hi387_0 hl387_0
                             replace p387 := eq_true p387
                             replace q387 := eq_true q387
                             have p388 : 0 ≤ ((rd (rd_L1 t368 x18_5) 1) : Int) := of_decide_eq_true (by first | (with_reducible assumption) | assumption)
                             have q388 : (rd (rd_L1 t368 x18_5) 1) < ((rd_L1 t371 (rd (rd_L1 t368 x18_5) 0)).length : Int) := of_decide_eq_true (by first | (with_reducible assumption) | assumption)
                             obtain ⟨ad388, e388, hx388_0⟩ := Kd.at_int (by repeat (first | (with_reducible exact HR387_0.out) | (with_reducible refine Kd.C_alloc ?_ _) | (with_reducible refine Kd.C_drewN ?_ _) | (with_reducible refine Kd.C_drew ?_) | exact HR387_0.out)) (rd (rd_L1 t368 x18_5) 1) p388 q388
                             cases e388
                             replace p388 := eq_true p388
                             replace q388 := eq_true q388
                             refine start_ (n := 20) (S := fun w' => w'.cell? ⟨gb367, 0, none⟩ = some (.slice (some ad384) t364.length co55) ∧ w'.cell? (ad384.add ((rd (rd_L1 t368 x18_5) 0)).toNat) = some (.slice (some ad386) (rd_L1 t364 (rd (rd_L1 t368 x18_5) 0)).length c385_0) ∧ w'.cell? (ad386.add ((rd (rd_L1 t368 x18_5) 1)).toNat) = some (.int .i64 (rd (rd_L1 t364 (rd (rd_L1 t368 x18_5) 0)) (rd (rd_L1 t368 x18_5) 1))) ∧ w'.cell? (ad383.add ((rd (rd_L1 t368 x18_5) 0)).toNat) = some (.slice (some ad388) (rd_L1 t371 (rd (rd_L1 t368 x18_5) 0)).length c387_0) ∧ w'.cell? (ad388.add ((rd (rd_L1 t368 x18_5) 1)).toNat) = some (.int .i64 (rd (rd_L1 t371 (rd (rd_L1 t368 x18_5) 0)) (rd (rd_L1 t368 x18_5) 1)))) (ds := []) #[false, false, false, false, false, false, false, false, false, false, false, false, false, false, false, false, false, false, false, false] (by kernel_rfl) rfl rfl ⟨(blk_cell BK367.out 0).trans rfl, hx385_0, hx386_0, hx387_0, hx388_0⟩ (fun hHeld => ?_); refine with_tabW laws_FnPaths.tab31 laws_FnPaths.bits31 (fun HT_ HW_ => ?_)
                             generalize w95.drew = w97 at HO_13 HO_14 HO_347000 HO_368000 HL379_0 HL381_0 HL383_0 HL384_0 BK346 BK367 HR379_0 HR381_0 HR383_0 HR384_0 HB HL385_0 HL387_0 HR385_0 HR387_0 hx385_0 hx386_0 hx387_0 hx388_0 hHeld ⊢
                             refine pure_ (i := 0) (N := some 162) (v := ?_) (a' := ?_) #[true, false, false, false, false, false, false, false, false, false, false, false, false, false, false, false, false, false, false, false] rfl rfl (any_of HT_.out (by kernel_rfl)) (fun _ _ _ h => h) (Or.inl ⟨by rfl, ?_⟩) ?_ ?_
                             rotate_left; (intro w'; go_simp; with_reducible rfl); rotate_left; (simp only [Act.put, List.setIfInBounds_toArray, List.set_cons_zero, List.set_cons_succ, i64_w, i32_w]; rfl)
                             refine pure_ (i := 1) (N := some 163) (v := ?_) (a' := ?_) #[true, true, false, false, false, false, false, false, false, false, false, false, false, false, false, false, false, false, false, false] rfl rfl (any_of HT_.out (by kernel_rfl)) (fun _ _ _ h => h) (Or.inl ⟨by rfl, ?_⟩) ?_ ?_
                             rotate_left; (intro w'; go_simp; with_reducible rfl); rotate_left; (simp only [Act.put, List.setIfInBounds_toArray, List.set_cons_zero, List.set_cons_succ, i64_w, i32_w]; rfl)
                             refine pure_ (i := 3) (N := some 165) (v := ?_) (a' := ?_) #[true, true, false, true, false, false, false, false, false, false, false, false, false, false, false, false, false, false, false, false] rfl rfl (any_of HT_.out (by kernel_rfl)) (fun _ _ _ h => h) (Or.inl ⟨by rfl, ?_⟩) ?_ ?_
                             rotate_left; (intro w'; go_simp; with_reducible rfl); rotate_left; (simp only [Act.put, List.setIfInBounds_toArray, List.set_cons_zero, List.set_cons_succ, i64_w, i32_w]; rfl)
                             refine pure_ (i := 6) (N := some 168) (v := ?_) (a' := ?_) #[true, true, false, true, false, false, true, false, false, false, false, false, false, false, false, false, false, false, false, false] rfl rfl (any_of HT_.out (by kernel_rfl)) (fun _ _ _ h => h) (Or.inl ⟨by rfl, ?_⟩) ?_ ?_
                             rotate_left; (intro w'; go_simp; with_reducible rfl); rotate_left; (simp only [Act.put, List.setIfInBounds_toArray, List.set_cons_zero, List.set_cons_succ, i64_w, i32_w]; rfl)
                             refine pure_ (i := 9) (N := some 171) (v := ?_) (a' := ?_) #[true, true, false, true, false, false, true, false, false, true, false, false, false, false, false, false, false, false, false, false] rfl rfl (any_of HT_.out (by kernel_rfl)) (fun _ _ _ h => h) (Or.inl ⟨by rfl, ?_⟩) ?_ ?_
                             rotate_left; (intro w'; go_simp; with_reducible rfl); rotate_left; (simp only [Act.put, List.setIfInBounds_toArray, List.set_cons_zero, List.set_cons_succ, i64_w, i32_w]; rfl)
                             refine pure_ (i := 10) (N := some 172) (v := ?_) (a' := ?_) #[true, true, false, true, false, false, true, false, false, true, true, false, false, false, false, false, false, false, false, false] rfl rfl (any_of HT_.out (by kernel_rfl)) (fun _ _ _ h => h) (Or.inl ⟨by rfl, ?_⟩) ?_ ?_
                             rotate_left; (intro w'; go_simp; with_reducible rfl); rotate_left; (simp only [Act.put, List.setIfInBounds_toArray, List.set_cons_zero, List.set_cons_succ, i64_w, i32_w]; rfl)
                             refine pure_ (i := 11) (N := some 173) (v := ?_) (a' := ?_) #[true, true, false, true, false, false, true, false, false, true, true, true, false, false, false, false, false, false, false, false] rfl rfl (any_of HT_.out (by kernel_rfl)) (fun _ _ _ h => h) (Or.inl ⟨by rfl, ?_⟩) ?_ ?_
                             rotate_left; (intro w'; go_simp; with_reducible rfl); rotate_left; (simp only [Act.put, List.setIfInBounds_toArray, List.set_cons_zero, List.set_cons_succ, i64_w, i32_w]; rfl)
                             refine pure_ (i := 13) (N := some 175) (v := ?_) (a' := ?_) #[true, true, false, true, false, false, true, false, false, true, true, true, false, true, false, false, false, false, false, false] rfl rfl (any_of HT_.out (by kernel_rfl)) (fun _ _ _ h => h) (Or.inl ⟨by rfl, ?_⟩) ?_ ?_
                             rotate_left; (intro w'; go_simp; with_reducible rfl); rotate_left; (simp only [Act.put, List.setIfInBounds_toArray, List.set_cons_zero, List.set_cons_succ, i64_w, i32_w]; rfl)
                             refine take_ (i := 2) (N := some 164) (v := ?_) (a' := ?_) #[true, true, true, true, false, false, true, false, false, true, true, true, false, true, false, false, false, false, false, false] rfl rfl (take_ofW HT_.out HW_.out (by kernel_rfl)) (fun _ _ _ h => h) (Or.inl ⟨by rfl, ?_⟩) hHeld ?_ ?_
                             rotate_left; (rintro w' ⟨s0, s1, s2, s3, s4⟩; go_simp; with_reducible rfl); rotate_left; (simp only [Act.put, List.setIfInBounds_toArray, List.set_cons_zero, List.set_cons_succ, i64_w, i32_w]; rfl)
                             refine pure_ (i := 4) (N := some 166) (v := ?_) (a' := ?_) #[true, true, true, true, true, false, true, false, false, true, true, true, false, true, false, false, false, false, false, false] rfl rfl (any_of HT_.out (by kernel_rfl)) (fun _ _ _ h => h) (Or.inl ⟨by rfl, ?_⟩) ?_ ?_
                             rotate_left; (intro w'; go_simp; with_reducible rfl); rotate_left; (simp only [Act.put, List.setIfInBounds_toArray, List.set_cons_zero, List.set_cons_succ, i64_w, i32_w]; rfl)
                             refine take_ (i := 5) (N := some 167) (v := ?_) (a' := ?_) #[true, true, true, true, true, true, true, false, false, true, true, true, false, true, false, false, false, false, false, false] rfl rfl (take_ofW HT_.out HW_.out (by kernel_rfl)) (fun _ _ _ h => h) (Or.inl ⟨by rfl, ?_⟩) hHeld ?_ ?_
                             rotate_left; (rintro w' ⟨s0, s1, s2, s3, s4⟩; go_simp; with_reducible rfl); rotate_left; (simp only [Act.put, List.setIfInBounds_toArray, List.set_cons_zero, List.set_cons_succ, i64_w, i32_w]; rfl)
                             refine pure_ (i := 7) (N := some 169) (v := ?_) (a' := ?_) #[true, true, true, true, true, true, true, true, false, true, true, true, false, true, false, false, false, false, false, false] rfl rfl (any_of HT_.out (by kernel_rfl)) (fun _ _ _ h => h) (Or.inl ⟨by rfl, ?_⟩) ?_ ?_
                             rotate_left; (intro w'; go_simp; with_reducible rfl); rotate_left; (simp only [Act.put, List.setIfInBounds_toArray, List.set_cons_zero, List.set_cons_succ, i64_w, i32_w]; rfl)
                             refine take_ (i := 8) (N := some 170) (v := ?_) (a' := ?_) #[true, true, true, true, true, true, true, true, true, true, true, true, false, true, false, false, false, false, false, false] rfl rfl (take_ofW HT_.out HW_.out (by kernel_rfl)) (fun _ _ _ h => h) (Or.inl ⟨by rfl, ?_⟩) hHeld ?_ ?_
                             rotate_left; (rintro w' ⟨s0, s1, s2, s3, s4⟩; go_simp; with_reducible rfl); rotate_left; (simp only [Act.put, List.setIfInBounds_toArray, List.set_cons_zero, List.set_cons_succ, i64_w, i32_w]; rfl)
                             refine take_ (i := 12) (N := some 174) (v := ?_) (a' := ?_) #[true, true, true, true, true, true, true, true, true, true, true, true, true, true, false, false, false, false, false, false] rfl rfl (take_ofW HT_.out HW_.out (by kernel_rfl)) (fun _ _ _ h => h) (Or.inl ⟨by rfl, ?_⟩) hHeld ?_ ?_
                             rotate_left; (rintro w' ⟨s0, s1, s2, s3, s4⟩; go_simp; with_reducible rfl); rotate_left; (simp only [Act.put, List.setIfInBounds_toArray, List.set_cons_zero, List.set_cons_succ, i64_w, i32_w]; rfl)
                             refine pure_ (i := 14) (N := some 176) (v := ?_) (a' := ?_) #[true, true, true, true, true, true, true, true, true, true, true, true, true, true, true, false, false, false, false, false] rfl rfl (any_of HT_.out (by kernel_rfl)) (fun _ _ _ h => h) (Or.inl ⟨by rfl, ?_⟩) ?_ ?_
                             rotate_left; (intro w'; go_simp; with_reducible rfl); rotate_left; (simp only [Act.put, List.setIfInBounds_toArray, List.set_cons_zero, List.set_cons_succ, i64_w, i32_w]; rfl)
                             refine take_ (i := 15) (N := some 177) (v := ?_) (a' := ?_) #[true, true, true, true, true, true, true, true, true, true, true, true, true, true, true, true, false, false, false, false] rfl rfl (take_ofW HT_.out HW_.out (by kernel_rfl)) (fun _ _ _ h => h) (Or.inl ⟨by rfl, ?_⟩) hHeld ?_ ?_
                             rotate_left; (rintro w' ⟨s0, s1, s2, s3, s4⟩; go_simp; with_reducible rfl); rotate_left; (simp only [Act.put, List.setIfInBounds_toArray, List.set_cons_zero, List.set_cons_succ, i64_w, i32_w]; rfl)
                             refine pure_ (i := 16) (N := some 178) (v := ?_) (a' := ?_) #[true, true, true, true, true, true, true, true, true, true, true, true, true, true, true, true, true, false, false, false] rfl rfl (any_of HT_.out (by kernel_rfl)) (fun _ _ _ h => h) (Or.inl ⟨by rfl, ?_⟩) ?_ ?_
                             rotate_left; (intro w'; go_simp; with_reducible rfl); rotate_left; (simp only [Act.put, List.setIfInBounds_toArray, List.set_cons_zero, List.set_cons_succ, i64_w, i32_w]; rfl)
                             refine pure_ (i := 17) (N := some 179) (v := ?_) (a' := ?_) #[true, true, true, true, true, true, true, true, true, true, true, true, true, true, true, true, true, true, false, false] rfl rfl (any_of HT_.out (by kernel_rfl)) (fun _ _ _ h => h) (Or.inl ⟨by rfl, ?_⟩) ?_ ?_
                             rotate_left; (intro w'; go_simp; with_reducible rfl); rotate_left; (simp only [Act.put, List.setIfInBounds_toArray, List.set_cons_zero, List.set_cons_succ, i64_w, i32_w]; rfl)
                             refine pure_ (i := 18) (N := some 180) (v := ?_) (a' := ?_) #[true, true, true, true, true, true, true, true, true, true, true, true, true, true, true, true, true, true, true, false] rfl rfl (any_of HT_.out (by kernel_rfl)) (fun _ _ _ h => h) (Or.inl ⟨by rfl, ?_⟩) ?_ ?_
                             rotate_left; (intro w'; go_simp; with_reducible rfl); rotate_left; (simp only [Act.put, List.setIfInBounds_toArray, List.set_cons_zero, List.set_cons_succ, i64_w, i32_w]; rfl)
                             refine pure_ (i := 19) (N := some 17) (v := ?_) (a' := ?_) #[true, true, true, true, true, true, true, true, true, true, true, true, true, true, true, true, true, true, true, true] rfl rfl (any_of HT_.out (by kernel_rfl)) (fun _ _ _ h => h) (Or.inl ⟨by rfl, ?_⟩) ?_ ?_
                             rotate_left; (intro w'; go_simp; with_reducible rfl); rotate_left; (simp only [Act.put, List.setIfInBounds_toArray, List.set_cons_zero, List.set_cons_succ, i64_w, i32_w]; rfl)
                             refine done_ (done_of HT_.out (by kernel_rfl)) ?_
                             try go_wp2_with (first | ((with_reducible refine gate_callee (f := 25) rfl ?_); refine goesL_ (some 182) rfl rfl Try.func25 (by kernel_rfl) rfl #[.int .i64 (wrap64 (x17_5 + (wrap64 ((rd (rd_L1 t364 (rd (rd_L1 t368 x18_5) 0)) (rd (rd_L1 t368 x18_5) 1)) - (wrap64 (255 * (rd (rd_L1 t371 (rd (rd_L1 t368 x18_5) 0)) (rd (rd_L1 t368 x18_5) 1))))))))] rfl (by (try simp only [List.map_toArray, List.map_cons, List.map_nil]); first | done | rfl) ?_; (with_reducible refine (laws_b10Abs.calls (wrap64 (x17_5 + (wrap64 ((rd (rd_L1 t364 (rd (rd_L1 t368 x18_5) 0)) (rd (rd_L1 t368 x18_5) 1)) - (wrap64 (255 * (rd (rd_L1 t371 (rd (rd_L1 t368 x18_5) 0)) (rd (rd_L1 t368 x18_5) 1)))))))) t389 _ A93.out).mono ?_); rintro e w' ⟨rfl, ⟨nd, rfl⟩⟩; refine ⟨_, rfl, ?_⟩))
                             go_ret
                             exact ⟨by first | rfl | (simp [errW_none, errW_some] <;> rfl) | (simp only [← hji7, ← hji9]; first | rfl | (simp [errW_none, errW_some] <;> rfl)) | (simp [*, errW_none, errW_some] <;> rfl), by repeat (first | (with_reducible first | exact HB.out | apply below_alloc | apply pw_below_drewN | apply below_drew1 | refine below_set ?_ GE346.out | refine below_set ?_ GE367.out) | exact HB.out)⟩
                            ·rw [if_neg c94] at H
                             have c94b0 : decide (256 < (wrap64 (2 * t389))) = false := decide_eq_false c94
                             clear c94
                             have H' := Aside0.mk H
                             clear H
                             have p379 : 0 ≤ (x18_5 : Int) := of_decide_eq_true (by first | (with_reducible assumption) | assumption)
                             have q379 : x18_5 < (t368.length : Int) := of_decide_eq_true (by first | (with_reducible assumption) | assumption)
                             obtain ⟨ad379, A379_0, c379_0, e379, hx379_0, hl379_0, hi379_0⟩ := at_L1 (Kd.N_reads' HO_13.out).2.2 x18_5 p379 q379
                             cases e379
                             obtain ⟨ce379, hce379, hMe379, hcc379⟩ := Kd.N_get HO_13.out [] x18_5 p379 (by first | exact q379 | exact of_decide_eq_true (by first | (with_reducible assumption) | assumption) | (have e_ := (Kd.N_reads' HO_13.out).1; omega))
                             obtain ⟨ua379_0, uc379_0, rfl, ul379_0, ge379_0⟩ := Kd.FK_slice_open hMe379
                             have hv379_0 := hcc379 0 _ rfl
                             rw [Nat.add_zero, show ((Kd.slice 2 (Kd.int .i64))).sz = 1 from rfl, Nat.mul_one] at hv379_0
                             replace hv379_0 := Option.some.inj (hv379_0.symm.trans hx379_0)
                             injection hv379_0 with hva_ hvn_ hvc_
                             rw [hva_] at ge379_0
                             rw [hvc_] at ul379_0
                             have HL379_0 := Aside0.mk (show Kd.V (Kd.int .i64) 2 _ w.heap.size _ _ (rd_L1 t368 x18_5) from Kd.V_mk ul379_0 ge379_0)
                             clear hva_ hvn_ hvc_ ge379_0 ul379_0
                             clear hcc379 hce379
                             have HR379_0 := Aside0.mk hi379_0
                             have HC379_0 := Aside0.mk hl379_0
                             clear hi379_0 hl379_0
                             replace p379 := eq_true p379
                             replace q379 := eq_true q379
                             have p380 : 0 ≤ (0 : Int) := (by omega)
                             have q380 : 0 < ((rd_L1 t368 x18_5).length : Int) := of_decide_eq_true (by first | (with_reducible assumption) | assumption)
                             obtain ⟨ad380, e380, hx380_0⟩ := Kd.at_int (by repeat (first | (with_reducible exact HR379_0.out) | (with_reducible refine Kd.C_alloc ?_ _) | (with_reducible refine Kd.C_drewN ?_ _) | (with_reducible refine Kd.C_drew ?_) | exact HR379_0.out)) 0 p380 q380
                             cases e380
                             have qi380 : (0 < (rd_L1 t368 x18_5).length) = True := eq_true (by omega)
                             (try rw [show ((0 : Int)).toNat = 0 from rfl] at hx380_0)
                             (try rw [Addr.add_zero'] at hx380_0)
                             replace p380 := eq_true p380
                             replace q380 := eq_true q380
                             have p381 : 0 ≤ (x18_5 : Int) := of_decide_eq_true (by first | (with_reducible assumption) | assumption)
                             have q381 : x18_5 < (t368.length : Int) := of_decide_eq_true (by first | (with_reducible assumption) | assumption)
                             obtain ⟨ad381, A381_0, c381_0, e381, hx381_0, hl381_0, hi381_0⟩ := at_L1 (Kd.N_reads' HO_13.out).2.2 x18_5 p381 q381
                             obtain rfl : ad379 = ad381 := (by injection e381)
                             obtain ⟨ce381, hce381, hMe381, hcc381⟩ := Kd.N_get HO_13.out [] x18_5 p381 (by first | exact q381 | exact of_decide_eq_true (by first | (with_reducible assumption) | assumption) | (have e_ := (Kd.N_reads' HO_13.out).1; omega))
                             obtain ⟨ua381_0, uc381_0, rfl, ul381_0, ge381_0⟩ := Kd.FK_slice_open hMe381
                             have hv381_0 := hcc381 0 _ rfl
                             rw [Nat.add_zero, show ((Kd.slice 2 (Kd.int .i64))).sz = 1 from rfl, Nat.mul_one] at hv381_0
                             replace hv381_0 := Option.some.inj (hv381_0.symm.trans hx381_0)
                             injection hv381_0 with hva_ hvn_ hvc_
                             rw [hva_] at ge381_0
                             rw [hvc_] at ul381_0
                             have HL381_0 := Aside0.mk (show Kd.V (Kd.int .i64) 2 _ w.heap.size _ _ (rd_L1 t368 x18_5) from Kd.V_mk ul381_0 ge381_0)
                             clear hva_ hvn_ hvc_ ge381_0 ul381_0
                             clear hcc381 hce381
                             have HR381_0 := Aside0.mk hi381_0
                             have HC381_0 := Aside0.mk hl381_0
                             clear hi381_0 hl381_0
                             replace p381 := eq_true p381
                             replace q381 := eq_true q381
                             have ea_ := Option.some.inj (hx379_0.symm.trans hx381_0)
                             injection ea_ with ea_ en_ ec_
                             subst ea_
                             subst ec_
                             clear en_
                             have p382 : 0 ≤ (1 : Int) := (by omega)
                             have q382 : 1 < ((rd_L1 t368 x18_5).length : Int) := of_decide_eq_true (by first | (with_reducible assumption) | assumption)
                             obtain ⟨ad382, e382, hx382_0⟩ := Kd.at_int (by repeat (first | (with_reducible exact HR381_0.out) | (with_reducible refine Kd.C_alloc ?_ _) | (with_reducible refine Kd.C_drewN ?_ _) | (with_reducible refine Kd.C_drew ?_) | exact HR381_0.out)) 1 p382 q382
                             cases e382
                             (try simp only [show (1 : Int).toNat = 1 from rfl, Nat.reduceMul, Nat.reduceEqDiff, Go.Addr.add, ↓reduceIte] at hx382_0)
                             have qi382 : (1 < (rd_L1 t368 x18_5).length) = True := eq_true (by omega)
                             (try rw [show ((1 : Int)).toNat = 1 from rfl] at hx382_0)
                             replace p382 := eq_true p382
                             replace q382 := eq_true q382
                             try go_wp2
                             have n0_ := Aside0.mk (Kd.N_drew HO_13.out)
                             have n1_ := Aside0.mk (Kd.N_drew HO_14.out)
                             have n2_ := Aside0.mk (Kd.N_drew HO_347000.out)
                             have n3_ := Aside0.mk (Kd.N_drew HO_368000.out)
                             have n4_ := Aside0.mk (Kd.V_drew HL379_0.out)
                             have n5_ := Aside0.mk (Kd.V_drew HL381_0.out)
                             have n6_ := Aside0.mk (blk_drew BK346.out)
                             have n7_ := Aside0.mk (blk_drew BK367.out)
                             have n8_ := Aside0.mk (Kd.C_drew HR379_0.out)
                             have n9_ := Aside0.mk (Kd.C_drew HR381_0.out)
                             have n10_ := Aside0.mk (below_drew1 HB.out)
                             clear HO_13
                             clear HO_14
                             clear HO_347000
                             clear HO_368000
                             clear HL379_0
                             clear HL381_0
                             clear BK346
                             clear BK367
                             clear HR379_0
                             clear HR381_0
                             clear HB
                             have HO_13 := n0_
                             have HO_14 := n1_
                             have HO_347000 := n2_
                             have HO_368000 := n3_
                             have HL379_0 := n4_
                             have HL381_0 := n5_
                             have BK346 := n6_
                             have BK367 := n7_
                             have HR379_0 := n8_
                             have HR381_0 := n9_
                             have HB := n10_
                             clear n0_ n1_ n2_ n3_ n4_ n5_ n6_ n7_ n8_ n9_ n10_
                             obtain ⟨Ao99, co99, eo99⟩ := Kd.N_slice HO_14.out
                             (first | subst eo99 | (injection eo99 with f1_ f2_ f3_; have f4_ := f1_.symm; have f5_ := f3_.symm; clear f1_ f2_ f3_; subst f4_; subst f5_))
                             have p383 : 0 ≤ ((rd (rd_L1 t368 x18_5) 0) : Int) := of_decide_eq_true (by first | (with_reducible assumption) | assumption)
                             have q383 : (rd (rd_L1 t368 x18_5) 0) < (t371.length : Int) := of_decide_eq_true (by first | (with_reducible assumption) | assumption)
                             obtain ⟨ad383, A383_0, c383_0, e383, hx383_0, hl383_0, hi383_0⟩ := at_L1 (Kd.N_reads' HO_14.out).2.2 (rd (rd_L1 t368 x18_5) 0) p383 q383
                             cases e383
                             obtain ⟨ce383, hce383, hMe383, hcc383⟩ := Kd.N_get HO_14.out [] (rd (rd_L1 t368 x18_5) 0) p383 (by first | exact q383 | exact of_decide_eq_true (by first | (with_reducible assumption) | assumption) | (have e_ := (Kd.N_reads' HO_14.out).1; omega))
                             obtain ⟨ua383_0, uc383_0, rfl, ul383_0, ge383_0⟩ := Kd.FK_slice_open hMe383
                             have hv383_0 := hcc383 0 _ rfl
                             rw [Nat.add_zero, show ((Kd.slice 2 (Kd.int .i64))).sz = 1 from rfl, Nat.mul_one] at hv383_0
                             replace hv383_0 := Option.some.inj (hv383_0.symm.trans hx383_0)
                             injection hv383_0 with hva_ hvn_ hvc_
                             rw [hva_] at ge383_0
                             rw [hvc_] at ul383_0
                             have HL383_0 := Aside0.mk (show Kd.V (Kd.int .i64) 2 _ w.heap.size _ _ (rd_L1 t371 (rd (rd_L1 t368 x18_5) 0)) from Kd.V_mk ul383_0 ge383_0)
                             clear hva_ hvn_ hvc_ ge383_0 ul383_0
                             clear hcc383 hce383
                             have HR383_0 := Aside0.mk hi383_0
                             have HC383_0 := Aside0.mk hl383_0
                             clear hi383_0 hl383_0
                             replace p383 := eq_true p383
                             replace q383 := eq_true q383
                             have p384 : 0 ≤ ((rd (rd_L1 t368 x18_5) 0) : Int) := of_decide_eq_true (by first | (with_reducible assumption) | assumption)
                             have q384 : (rd (rd_L1 t368 x18_5) 0) < (t364.length : Int) := of_decide_eq_true (by first | (with_reducible assumption) | assumption)
                             obtain ⟨ad384, A384_0, c384_0, e384, hx384_0, hl384_0, hi384_0⟩ := at_L1 (Kd.N_reads' HO_368000.out).2.2 (rd (rd_L1 t368 x18_5) 0) p384 q384
                             cases e384
                             obtain ⟨ce384, hce384, hMe384, hcc384⟩ := Kd.N_get HO_368000.out [] (rd (rd_L1 t368 x18_5) 0) p384 (by first | exact q384 | exact of_decide_eq_true (by first | (with_reducible assumption) | assumption) | (have e_ := (Kd.N_reads' HO_368000.out).1; omega))
                             obtain ⟨ua384_0, uc384_0, rfl, ul384_0, ge384_0⟩ := Kd.FK_slice_open hMe384
                             have hv384_0 := hcc384 0 _ rfl
                             rw [Nat.add_zero, show ((Kd.slice 2 (Kd.int .i64))).sz = 1 from rfl, Nat.mul_one] at hv384_0
                             replace hv384_0 := Option.some.inj (hv384_0.symm.trans hx384_0)
                             injection hv384_0 with hva_ hvn_ hvc_
                             rw [hva_] at ge384_0
                             rw [hvc_] at ul384_0
                             have HL384_0 := Aside0.mk (show Kd.V (Kd.int .i64) 2 _ w.heap.size _ _ (rd_L1 t364 (rd (rd_L1 t368 x18_5) 0)) from Kd.V_mk ul384_0 ge384_0)
                             clear hva_ hvn_ hvc_ ge384_0 ul384_0
                             clear hcc384 hce384
                             have HR384_0 := Aside0.mk hi384_0
                             have HC384_0 := Aside0.mk hl384_0
                             clear hi384_0 hl384_0
                             replace p384 := eq_true p384
                             replace q384 := eq_true q384
                             refine start_ (n := 12) (S := fun w' => w'.cell? ⟨gb367, 0, none⟩ = some (.slice (some ad384) t364.length co55) ∧ w'.cell? (ad383.add ((rd (rd_L1 t368 x18_5) 0)).toNat) = some (.slice A383_0 (rd_L1 t371 (rd (rd_L1 t368 x18_5) 0)).length c383_0) ∧ w'.cell? (ad384.add ((rd (rd_L1 t368 x18_5) 0)).toNat) = some (.slice A384_0 (rd_L1 t364 (rd (rd_L1 t368 x18_5) 0)).length c384_0)) (ds := []) #[false, false, false, false, false, false, false, false, false, false, false, false] (by kernel_rfl) rfl rfl ⟨(blk_cell BK367.out 0).trans rfl, hx383_0, hx384_0⟩ (fun hHeld => ?_); refine with_tabW laws_FnPaths.tab29 laws_FnPaths.bits29 (fun HT_ HW_ => ?_)
                             generalize wr.drew = w98 at HO_13 HO_14 HO_347000 HO_368000 HL379_0 HL381_0 BK346 BK367 HR379_0 HR381_0 HB HL383_0 HL384_0 HR383_0 HR384_0 hx383_0 hx384_0 hHeld ⊢
                             refine pure_ (i := 0) (N := some 150) (v := ?_) (a' := ?_) #[true, false, false, false, false, false, false, false, false, false, false, false] rfl rfl (any_of HT_.out (by kernel_rfl)) (fun _ _ _ h => h) (Or.inl ⟨by rfl, ?_⟩) ?_ ?_
                             rotate_left; (intro w'; go_simp; with_reducible rfl); rotate_left; (simp only [Act.put, List.setIfInBounds_toArray, List.set_cons_zero, List.set_cons_succ, i64_w, i32_w]; rfl)
                             refine pure_ (i := 1) (N := some 151) (v := ?_) (a' := ?_) #[true, true, false, false, false, false, false, false, false, false, false, false] rfl rfl (any_of HT_.out (by kernel_rfl)) (fun _ _ _ h => h) (Or.inl ⟨by rfl, ?_⟩) ?_ ?_
                             rotate_left; (intro w'; go_simp; with_reducible rfl); rotate_left; (simp only [Act.put, List.setIfInBounds_toArray, List.set_cons_zero, List.set_cons_succ, i64_w, i32_w]; rfl)
                             refine pure_ (i := 2) (N := some 152) (v := ?_) (a' := ?_) #[true, true, true, false, false, false, false, false, false, false, false, false] rfl rfl (any_of HT_.out (by kernel_rfl)) (fun _ _ _ h => h) (Or.inl ⟨by rfl, ?_⟩) ?_ ?_
                             rotate_left; (intro w'; go_simp; with_reducible rfl); rotate_left; (simp only [Act.put, List.setIfInBounds_toArray, List.set_cons_zero, List.set_cons_succ, i64_w, i32_w]; rfl)
                             refine pure_ (i := 5) (N := some 155) (v := ?_) (a' := ?_) #[true, true, true, false, false, true, false, false, false, false, false, false] rfl rfl (any_of HT_.out (by kernel_rfl)) (fun _ _ _ h => h) (Or.inl ⟨by rfl, ?_⟩) ?_ ?_
                             rotate_left; (intro w'; go_simp; with_reducible rfl); rotate_left; (simp only [Act.put, List.setIfInBounds_toArray, List.set_cons_zero, List.set_cons_succ, i64_w, i32_w]; rfl)
                             refine pure_ (i := 7) (N := some 157) (v := ?_) (a' := ?_) #[true, true, true, false, false, true, false, true, false, false, false, false] rfl rfl (any_of HT_.out (by kernel_rfl)) (fun _ _ _ h => h) (Or.inl ⟨by rfl, ?_⟩) ?_ ?_
                             rotate_left; (intro w'; go_simp; with_reducible rfl); rotate_left; (simp only [Act.put, List.setIfInBounds_toArray, List.set_cons_zero, List.set_cons_succ, i64_w, i32_w]; rfl)
                             refine take_ (i := 3) (N := some 153) (v := ?_) (a' := ?_) #[true, true, true, true, false, true, false, true, false, false, false, false] rfl rfl (take_ofW HT_.out HW_.out (by kernel_rfl)) (fun _ _ _ h => h) (Or.inl ⟨by rfl, ?_⟩) hHeld ?_ ?_
                             rotate_left; (rintro w' ⟨s0, s1, s2⟩; go_simp; with_reducible rfl); rotate_left; (simp only [Act.put, List.setIfInBounds_toArray, List.set_cons_zero, List.set_cons_succ, i64_w, i32_w]; rfl)
                             refine pure_ (i := 4) (N := some 154) (v := ?_) (a' := ?_) #[true, true, true, true, true, true, false, true, false, false, false, false] rfl rfl (any_of HT_.out (by kernel_rfl)) (fun _ _ _ h => h) (Or.inl ⟨by rfl, ?_⟩) ?_ ?_
                             rotate_left; (intro w'; go_simp; with_reducible rfl); rotate_left; (simp only [Act.put, List.setIfInBounds_toArray, List.set_cons_zero, List.set_cons_succ, i64_w, i32_w]; rfl)
                             refine take_ (i := 6) (N := some 156) (v := ?_) (a' := ?_) #[true, true, true, true, true, true, true, true, false, false, false, false] rfl rfl (take_ofW HT_.out HW_.out (by kernel_rfl)) (fun _ _ _ h => h) (Or.inl ⟨by rfl, ?_⟩) hHeld ?_ ?_
                             rotate_left; (rintro w' ⟨s0, s1, s2⟩; go_simp; with_reducible rfl); rotate_left; (simp only [Act.put, List.setIfInBounds_toArray, List.set_cons_zero, List.set_cons_succ, i64_w, i32_w]; rfl)
                             refine pure_ (i := 8) (N := some 158) (v := ?_) (a' := ?_) #[true, true, true, true, true, true, true, true, true, false, false, false] rfl rfl (any_of HT_.out (by kernel_rfl)) (fun _ _ _ h => h) (Or.inl ⟨by rfl, ?_⟩) ?_ ?_
                             rotate_left; (intro w'; go_simp; with_reducible rfl); rotate_left; (simp only [Act.put, List.setIfInBounds_toArray, List.set_cons_zero, List.set_cons_succ, i64_w, i32_w]; rfl)
                             refine take_ (i := 9) (N := some 159) (v := ?_) (a' := ?_) #[true, true, true, true, true, true, true, true, true, true, false, false] rfl rfl (take_ofW HT_.out HW_.out (by kernel_rfl)) (fun _ _ _ h => h) (Or.inl ⟨by rfl, ?_⟩) hHeld ?_ ?_
                             rotate_left; (rintro w' ⟨s0, s1, s2⟩; go_simp; with_reducible rfl); rotate_left; (simp only [Act.put, List.setIfInBounds_toArray, List.set_cons_zero, List.set_cons_succ, i64_w, i32_w]; rfl)
                             refine pure_ (i := 10) (N := some 160) (v := ?_) (a' := ?_) #[true, true, true, true, true, true, true, true, true, true, true, false] rfl rfl (any_of HT_.out (by kernel_rfl)) (fun _ _ _ h => h) (Or.inl ⟨by rfl, ?_⟩) ?_ ?_
                             rotate_left; (intro w'; go_simp; with_reducible rfl); rotate_left; (simp only [Act.put, List.setIfInBounds_toArray, List.set_cons_zero, List.set_cons_succ, i64_w, i32_w]; rfl)
                             refine pure_ (i := 11) (N := some 161) (v := ?_) (a' := ?_) #[true, true, true, true, true, true, true, true, true, true, true, true] rfl rfl (any_of HT_.out (by kernel_rfl)) (fun _ _ _ h => h) (Or.inl ⟨by rfl, ?_⟩) ?_ ?_
                             rotate_left; (intro w'; go_simp; with_reducible rfl); rotate_left; (simp only [Act.put, List.setIfInBounds_toArray, List.set_cons_zero, List.set_cons_succ, i64_w, i32_w]; rfl)
                             refine done_ (done_of HT_.out (by kernel_rfl)) ?_
                             try go_wp2
                             have n0_ := Aside0.mk (Kd.N_drew HO_13.out)
                             have n1_ := Aside0.mk (Kd.N_drew HO_14.out)
                             have n2_ := Aside0.mk (Kd.N_drew HO_347000.out)
                             have n3_ := Aside0.mk (Kd.N_drew HO_368000.out)
                             have n4_ := Aside0.mk (Kd.V_drew HL379_0.out)
                             have n5_ := Aside0.mk (Kd.V_drew HL381_0.out)
                             have n6_ := Aside0.mk (Kd.V_drew HL383_0.out)
                             have n7_ := Aside0.mk (Kd.V_drew HL384_0.out)
                             have n8_ := Aside0.mk (blk_drew BK346.out)
                             have n9_ := Aside0.mk (blk_drew BK367.out)
                             have n10_ := Aside0.mk (Kd.C_drew HR379_0.out)
                             have n11_ := Aside0.mk (Kd.C_drew HR381_0.out)
                             have n12_ := Aside0.mk (Kd.C_drew HR383_0.out)
                             have n13_ := Aside0.mk (Kd.C_drew HR384_0.out)
                             have n14_ := Aside0.mk (below_drew1 HB.out)
                             clear HO_13
                             clear HO_14
                             clear HO_347000
                             clear HO_368000
                             clear HL379_0
                             clear HL381_0
                             clear HL383_0
                             clear HL384_0
                             clear BK346
                             clear BK367
                             clear HR379_0
                             clear HR381_0
                             clear HR383_0
                             clear HR384_0
                             clear HB
                             have HO_13 := n0_
                             have HO_14 := n1_
                             have HO_347000 := n2_
                             have HO_368000 := n3_
                             have HL379_0 := n4_
                             have HL381_0 := n5_
                             have HL383_0 := n6_
                             have HL384_0 := n7_
                             have BK346 := n8_
                             have BK367 := n9_
                             have HR379_0 := n10_
                             have HR381_0 := n11_
                             have HR383_0 := n12_
                             have HR384_0 := n13_
                             have HB := n14_
                             clear n0_ n1_ n2_ n3_ n4_ n5_ n6_ n7_ n8_ n9_ n10_ n11_ n12_ n13_ n14_
                             have p385 : 0 ≤ ((rd (rd_L1 t368 x18_5) 0) : Int) := of_decide_eq_true (by first | (with_reducible assumption) | assumption)
                             have q385 : (rd (rd_L1 t368 x18_5) 0) < (t364.length : Int) := of_decide_eq_true (by first | (with_reducible assumption) | assumption)
                             obtain ⟨ad385, A385_0, c385_0, e385, hx385_0, hl385_0, hi385_0⟩ := at_L1 (Kd.N_reads' HO_368000.out).2.2 (rd (rd_L1 t368 x18_5) 0) p385 q385
                             obtain rfl : ad384 = ad385 := (by injection e385)
                             obtain ⟨ce385, hce385, hMe385, hcc385⟩ := Kd.N_get HO_368000.out [] (rd (rd_L1 t368 x18_5) 0) p385 (by first | exact q385 | exact of_decide_eq_true (by first | (with_reducible assumption) | assumption) | (have e_ := (Kd.N_reads' HO_368000.out).1; omega))
                             obtain ⟨ua385_0, uc385_0, rfl, ul385_0, ge385_0⟩ := Kd.FK_slice_open hMe385
                             have hv385_0 := hcc385 0 _ rfl
                             rw [Nat.add_zero, show ((Kd.slice 2 (Kd.int .i64))).sz = 1 from rfl, Nat.mul_one] at hv385_0
                             replace hv385_0 := Option.some.inj (hv385_0.symm.trans hx385_0)
                             injection hv385_0 with hva_ hvn_ hvc_
                             rw [hva_] at ge385_0
                             rw [hvc_] at ul385_0
                             have HL385_0 := Aside0.mk (show Kd.V (Kd.int .i64) 2 _ w.heap.size _ _ (rd_L1 t364 (rd (rd_L1 t368 x18_5) 0)) from Kd.V_mk ul385_0 ge385_0)
                             clear hva_ hvn_ hvc_ ge385_0 ul385_0
                             clear hcc385 hce385
                             have HR385_0 := Aside0.mk hi385_0
                             have HC385_0 := Aside0.mk hl385_0
                             clear hi385_0 hl385_0
                             replace p385 := eq_true p385
                             replace q385 := eq_true q385
                             have p386 : 0 ≤ ((rd (rd_L1 t368 x18_5) 1) : Int) := of_decide_eq_true (by first | (with_reducible assumption) | assumption)
                             have q386 : (rd (rd_L1 t368 x18_5) 1) < ((rd_L1 t364 (rd (rd_L1 t368 x18_5) 0)).length : Int) := of_decide_eq_true (by first | (with_reducible assumption) | assumption)
                             obtain ⟨ad386, e386, hx386_0⟩ := Kd.at_int (by repeat (first | (with_reducible exact HR385_0.out) | (with_reducible refine Kd.C_alloc ?_ _) | (with_reducible refine Kd.C_drewN ?_ _) | (with_reducible refine Kd.C_drew ?_) | exact HR385_0.out)) (rd (rd_L1 t368 x18_5) 1) p386 q386
                             cases e386
                             replace p386 := eq_true p386
                             replace q386 := eq_true q386
                             have p387 : 0 ≤ ((rd (rd_L1 t368 x18_5) 0) : Int) := of_decide_eq_true (by first | (with_reducible assumption) | assumption)
                             have q387 : (rd (rd_L1 t368 x18_5) 0) < (t371.length : Int) := of_decide_eq_true (by first | (with_reducible assumption) | assumption)
                             obtain ⟨ad387, A387_0, c387_0, e387, hx387_0, hl387_0, hi387_0⟩ := at_L1 (Kd.N_reads' HO_14.out).2.2 (rd (rd_L1 t368 x18_5) 0) p387 q387
                             obtain rfl : ad383 = ad387 := (by injection e387)
                             obtain ⟨ce387, hce387, hMe387, hcc387⟩ := Kd.N_get HO_14.out [] (rd (rd_L1 t368 x18_5) 0) p387 (by first | exact q387 | exact of_decide_eq_true (by first | (with_reducible assumption) | assumption) | (have e_ := (Kd.N_reads' HO_14.out).1; omega))
                             obtain ⟨ua387_0, uc387_0, rfl, ul387_0, ge387_0⟩ := Kd.FK_slice_open hMe387
                             have hv387_0 := hcc387 0 _ rfl
                             rw [Nat.add_zero, show ((Kd.slice 2 (Kd.int .i64))).sz = 1 from rfl, Nat.mul_one] at hv387_0
                             replace hv387_0 := Option.some.inj (hv387_0.symm.trans hx387_0)
                             injection hv387_0 with hva_ hvn_ hvc_
                             rw [hva_] at ge387_0
                             rw [hvc_] at ul387_0
                             have HL387_0 := Aside0.mk (show Kd.V (Kd.int .i64) 2 _ w.heap.size _ _ (rd_L1 t371 (rd (rd_L1 t368 x18_5) 0)) from Kd.V_mk ul387_0 ge387_0)
                             clear hva_ hvn_ hvc_ ge387_0 ul387_0
                             clear hcc387 hce387
                             have HR387_0 := Aside0.mk hi387_0
                             have HC387_0 := Aside0.mk hl387_0
                             clear hi387_0 hl387_0
                             replace p387 := eq_true p387
                             replace q387 := eq_true q387
                             have p388 : 0 ≤ ((rd (rd_L1 t368 x18_5) 1) : Int) := of_decide_eq_true (by first | (with_reducible assumption) | assumption)
                             have q388 : (rd (rd_L1 t368 x18_5) 1) < ((rd_L1 t371 (rd (rd_L1 t368 x18_5) 0)).length : Int) := of_decide_eq_true (by first | (with_reducible assumption) | assumption)
                             obtain ⟨ad388, e388, hx388_0⟩ := Kd.at_int (by repeat (first | (with_reducible exact HR387_0.out) | (with_reducible refine Kd.C_alloc ?_ _) | (with_reducible refine Kd.C_drewN ?_ _) | (with_reducible refine Kd.C_drew ?_) | exact HR387_0.out)) (rd (rd_L1 t368 x18_5) 1) p388 q388
                             cases e388
                             replace p388 := eq_true p388
                             replace q388 := eq_true q388
                             refine start_ (n := 20) (S := fun w' => w'.cell? ⟨gb367, 0, none⟩ = some (.slice (some ad384) t364.length co55) ∧ w'.cell? (ad384.add ((rd (rd_L1 t368 x18_5) 0)).toNat) = some (.slice (some ad386) (rd_L1 t364 (rd (rd_L1 t368 x18_5) 0)).length c385_0) ∧ w'.cell? (ad386.add ((rd (rd_L1 t368 x18_5) 1)).toNat) = some (.int .i64 (rd (rd_L1 t364 (rd (rd_L1 t368 x18_5) 0)) (rd (rd_L1 t368 x18_5) 1))) ∧ w'.cell? (ad383.add ((rd (rd_L1 t368 x18_5) 0)).toNat) = some (.slice (some ad388) (rd_L1 t371 (rd (rd_L1 t368 x18_5) 0)).length c387_0) ∧ w'.cell? (ad388.add ((rd (rd_L1 t368 x18_5) 1)).toNat) = some (.int .i64 (rd (rd_L1 t371 (rd (rd_L1 t368 x18_5) 0)) (rd (rd_L1 t368 x18_5) 1)))) (ds := []) #[false, false, false, false, false, false, false, false, false, false, false, false, false, false, false, false, false, false, false, false] (by kernel_rfl) rfl rfl ⟨(blk_cell BK367.out 0).trans rfl, hx385_0, hx386_0, hx387_0, hx388_0⟩ (fun hHeld => ?_); refine with_tabW laws_FnPaths.tab31 laws_FnPaths.bits31 (fun HT_ HW_ => ?_)
                             generalize w98.drew = w100 at HO_13 HO_14 HO_347000 HO_368000 HL379_0 HL381_0 HL383_0 HL384_0 BK346 BK367 HR379_0 HR381_0 HR383_0 HR384_0 HB HL385_0 HL387_0 HR385_0 HR387_0 hx385_0 hx386_0 hx387_0 hx388_0 hHeld ⊢
                             refine pure_ (i := 0) (N := some 162) (v := ?_) (a' := ?_) #[true, false, false, false, false, false, false, false, false, false, false, false, false, false, false, false, false, false, false, false] rfl rfl (any_of HT_.out (by kernel_rfl)) (fun _ _ _ h => h) (Or.inl ⟨by rfl, ?_⟩) ?_ ?_
                             rotate_left; (intro w'; go_simp; with_reducible rfl); rotate_left; (simp only [Act.put, List.setIfInBounds_toArray, List.set_cons_zero, List.set_cons_succ, i64_w, i32_w]; rfl)
                             refine pure_ (i := 1) (N := some 163) (v := ?_) (a' := ?_) #[true, true, false, false, false, false, false, false, false, false, false, false, false, false, false, false, false, false, false, false] rfl rfl (any_of HT_.out (by kernel_rfl)) (fun _ _ _ h => h) (Or.inl ⟨by rfl, ?_⟩) ?_ ?_
                             rotate_left; (intro w'; go_simp; with_reducible rfl); rotate_left; (simp only [Act.put, List.setIfInBounds_toArray, List.set_cons_zero, List.set_cons_succ, i64_w, i32_w]; rfl)
                             refine pure_ (i := 3) (N := some 165) (v := ?_) (a' := ?_) #[true, true, false, true, false, false, false, false, false, false, false, false, false, false, false, false, false, false, false, false] rfl rfl (any_of HT_.out (by kernel_rfl)) (fun _ _ _ h => h) (Or.inl ⟨by rfl, ?_⟩) ?_ ?_
                             rotate_left; (intro w'; go_simp; with_reducible rfl); rotate_left; (simp only [Act.put, List.setIfInBounds_toArray, List.set_cons_zero, List.set_cons_succ, i64_w, i32_w]; rfl)
                             refine pure_ (i := 6) (N := some 168) (v := ?_) (a' := ?_) #[true, true, false, true, false, false, true, false, false, false, false, false, false, false, false, false, false, false, false, false] rfl rfl (any_of HT_.out (by kernel_rfl)) (fun _ _ _ h => h) (Or.inl ⟨by rfl, ?_⟩) ?_ ?_
                             rotate_left; (intro w'; go_simp; with_reducible rfl); rotate_left; (simp only [Act.put, List.setIfInBounds_toArray, List.set_cons_zero, List.set_cons_succ, i64_w, i32_w]; rfl)
                             refine pure_ (i := 9) (N := some 171) (v := ?_) (a' := ?_) #[true, true, false, true, false, false, true, false, false, true, false, false, false, false, false, false, false, false, false, false] rfl rfl (any_of HT_.out (by kernel_rfl)) (fun _ _ _ h => h) (Or.inl ⟨by rfl, ?_⟩) ?_ ?_
                             rotate_left; (intro w'; go_simp; with_reducible rfl); rotate_left; (simp only [Act.put, List.setIfInBounds_toArray, List.set_cons_zero, List.set_cons_succ, i64_w, i32_w]; rfl)
                             refine pure_ (i := 10) (N := some 172) (v := ?_) (a' := ?_) #[true, true, false, true, false, false, true, false, false, true, true, false, false, false, false, false, false, false, false, false] rfl rfl (any_of HT_.out (by kernel_rfl)) (fun _ _ _ h => h) (Or.inl ⟨by rfl, ?_⟩) ?_ ?_
                             rotate_left; (intro w'; go_simp; with_reducible rfl); rotate_left; (simp only [Act.put, List.setIfInBounds_toArray, List.set_cons_zero, List.set_cons_succ, i64_w, i32_w]; rfl)
                             refine pure_ (i := 11) (N := some 173) (v := ?_) (a' := ?_) #[true, true, false, true, false, false, true, false, false, true, true, true, false, false, false, false, false, false, false, false] rfl rfl (any_of HT_.out (by kernel_rfl)) (fun _ _ _ h => h) (Or.inl ⟨by rfl, ?_⟩) ?_ ?_
                             rotate_left; (intro w'; go_simp; with_reducible rfl); rotate_left; (simp only [Act.put, List.setIfInBounds_toArray, List.set_cons_zero, List.set_cons_succ, i64_w, i32_w]; rfl)
                             refine pure_ (i := 13) (N := some 175) (v := ?_) (a' := ?_) #[true, true, false, true, false, false, true, false, false, true, true, true, false, true, false, false, false, false, false, false] rfl rfl (any_of HT_.out (by kernel_rfl)) (fun _ _ _ h => h) (Or.inl ⟨by rfl, ?_⟩) ?_ ?_
                             rotate_left; (intro w'; go_simp; with_reducible rfl); rotate_left; (simp only [Act.put, List.setIfInBounds_toArray, List.set_cons_zero, List.set_cons_succ, i64_w, i32_w]; rfl)
                             refine take_ (i := 2) (N := some 164) (v := ?_) (a' := ?_) #[true, true, true, true, false, false, true, false, false, true, true, true, false, true, false, false, false, false, false, false] rfl rfl (take_ofW HT_.out HW_.out (by kernel_rfl)) (fun _ _ _ h => h) (Or.inl ⟨by rfl, ?_⟩) hHeld ?_ ?_
                             rotate_left; (rintro w' ⟨s0, s1, s2, s3, s4⟩; go_simp; with_reducible rfl); rotate_left; (simp only [Act.put, List.setIfInBounds_toArray, List.set_cons_zero, List.set_cons_succ, i64_w, i32_w]; rfl)
                             refine pure_ (i := 4) (N := some 166) (v := ?_) (a' := ?_) #[true, true, true, true, true, false, true, false, false, true, true, true, false, true, false, false, false, false, false, false] rfl rfl (any_of HT_.out (by kernel_rfl)) (fun _ _ _ h => h) (Or.inl ⟨by rfl, ?_⟩) ?_ ?_
                             rotate_left; (intro w'; go_simp; with_reducible rfl); rotate_left; (simp only [Act.put, List.setIfInBounds_toArray, List.set_cons_zero, List.set_cons_succ, i64_w, i32_w]; rfl)
                             refine take_ (i := 5) (N := some 167) (v := ?_) (a' := ?_) #[true, true, true, true, true, true, true, false, false, true, true, true, false, true, false, false, false, false, false, false] rfl rfl (take_ofW HT_.out HW_.out (by kernel_rfl)) (fun _ _ _ h => h) (Or.inl ⟨by rfl, ?_⟩) hHeld ?_ ?_
                             rotate_left; (rintro w' ⟨s0, s1, s2, s3, s4⟩; go_simp; with_reducible rfl); rotate_left; (simp only [Act.put, List.setIfInBounds_toArray, List.set_cons_zero, List.set_cons_succ, i64_w, i32_w]; rfl)
                             refine pure_ (i := 7) (N := some 169) (v := ?_) (a' := ?_) #[true, true, true, true, true, true, true, true, false, true, true, true, false, true, false, false, false, false, false, false] rfl rfl (any_of HT_.out (by kernel_rfl)) (fun _ _ _ h => h) (Or.inl ⟨by rfl, ?_⟩) ?_ ?_
                             rotate_left; (intro w'; go_simp; with_reducible rfl); rotate_left; (simp only [Act.put, List.setIfInBounds_toArray, List.set_cons_zero, List.set_cons_succ, i64_w, i32_w]; rfl)
                             refine take_ (i := 8) (N := some 170) (v := ?_) (a' := ?_) #[true, true, true, true, true, true, true, true, true, true, true, true, false, true, false, false, false, false, false, false] rfl rfl (take_ofW HT_.out HW_.out (by kernel_rfl)) (fun _ _ _ h => h) (Or.inl ⟨by rfl, ?_⟩) hHeld ?_ ?_
                             rotate_left; (rintro w' ⟨s0, s1, s2, s3, s4⟩; go_simp; with_reducible rfl); rotate_left; (simp only [Act.put, List.setIfInBounds_toArray, List.set_cons_zero, List.set_cons_succ, i64_w, i32_w]; rfl)
                             refine take_ (i := 12) (N := some 174) (v := ?_) (a' := ?_) #[true, true, true, true, true, true, true, true, true, true, true, true, true, true, false, false, false, false, false, false] rfl rfl (take_ofW HT_.out HW_.out (by kernel_rfl)) (fun _ _ _ h => h) (Or.inl ⟨by rfl, ?_⟩) hHeld ?_ ?_
                             rotate_left; (rintro w' ⟨s0, s1, s2, s3, s4⟩; go_simp; with_reducible rfl); rotate_left; (simp only [Act.put, List.setIfInBounds_toArray, List.set_cons_zero, List.set_cons_succ, i64_w, i32_w]; rfl)
                             refine pure_ (i := 14) (N := some 176) (v := ?_) (a' := ?_) #[true, true, true, true, true, true, true, true, true, true, true, true, true, true, true, false, false, false, false, false] rfl rfl (any_of HT_.out (by kernel_rfl)) (fun _ _ _ h => h) (Or.inl ⟨by rfl, ?_⟩) ?_ ?_
                             rotate_left; (intro w'; go_simp; with_reducible rfl); rotate_left; (simp only [Act.put, List.setIfInBounds_toArray, List.set_cons_zero, List.set_cons_succ, i64_w, i32_w]; rfl)
                             refine take_ (i := 15) (N := some 177) (v := ?_) (a' := ?_) #[true, true, true, true, true, true, true, true, true, true, true, true, true, true, true, true, false, false, false, false] rfl rfl (take_ofW HT_.out HW_.out (by kernel_rfl)) (fun _ _ _ h => h) (Or.inl ⟨by rfl, ?_⟩) hHeld ?_ ?_
                             rotate_left; (rintro w' ⟨s0, s1, s2, s3, s4⟩; go_simp; with_reducible rfl); rotate_left; (simp only [Act.put, List.setIfInBounds_toArray, List.set_cons_zero, List.set_cons_succ, i64_w, i32_w]; rfl)
                             refine pure_ (i := 16) (N := some 178) (v := ?_) (a' := ?_) #[true, true, true, true, true, true, true, true, true, true, true, true, true, true, true, true, true, false, false, false] rfl rfl (any_of HT_.out (by kernel_rfl)) (fun _ _ _ h => h) (Or.inl ⟨by rfl, ?_⟩) ?_ ?_
                             rotate_left; (intro w'; go_simp; with_reducible rfl); rotate_left; (simp only [Act.put, List.setIfInBounds_toArray, List.set_cons_zero, List.set_cons_succ, i64_w, i32_w]; rfl)
                             refine pure_ (i := 17) (N := some 179) (v := ?_) (a' := ?_) #[true, true, true, true, true, true, true, true, true, true, true, true, true, true, true, true, true, true, false, false] rfl rfl (any_of HT_.out (by kernel_rfl)) (fun _ _ _ h => h) (Or.inl ⟨by rfl, ?_⟩) ?_ ?_
                             rotate_left; (intro w'; go_simp; with_reducible rfl); rotate_left; (simp only [Act.put, List.setIfInBounds_toArray, List.set_cons_zero, List.set_cons_succ, i64_w, i32_w]; rfl)
                             refine pure_ (i := 18) (N := some 180) (v := ?_) (a' := ?_) #[true, true, true, true, true, true, true, true, true, true, true, true, true, true, true, true, true, true, true, false] rfl rfl (any_of HT_.out (by kernel_rfl)) (fun _ _ _ h => h) (Or.inl ⟨by rfl, ?_⟩) ?_ ?_
                             rotate_left; (intro w'; go_simp; with_reducible rfl); rotate_left; (simp only [Act.put, List.setIfInBounds_toArray, List.set_cons_zero, List.set_cons_succ, i64_w, i32_w]; rfl)
                             refine pure_ (i := 19) (N := some 17) (v := ?_) (a' := ?_) #[true, true, true, true, true, true, true, true, true, true, true, true, true, true, true, true, true, true, true, true] rfl rfl (any_of HT_.out (by kernel_rfl)) (fun _ _ _ h => h) (Or.inl ⟨by rfl, ?_⟩) ?_ ?_
                             rotate_left; (intro w'; go_simp; with_reducible rfl); rotate_left; (simp only [Act.put, List.setIfInBounds_toArray, List.set_cons_zero, List.set_cons_succ, i64_w, i32_w]; rfl)
                             refine done_ (done_of HT_.out (by kernel_rfl)) ?_
                             try go_wp2_with (first | ((with_reducible refine gate_callee (f := 25) rfl ?_); refine goesL_ (some 182) rfl rfl Try.func25 (by kernel_rfl) rfl #[.int .i64 (wrap64 (x17_5 + (wrap64 ((rd (rd_L1 t364 (rd (rd_L1 t368 x18_5) 0)) (rd (rd_L1 t368 x18_5) 1)) - (wrap64 (255 * (rd (rd_L1 t371 (rd (rd_L1 t368 x18_5) 0)) (rd (rd_L1 t368 x18_5) 1))))))))] rfl (by (try simp only [List.map_toArray, List.map_cons, List.map_nil]); first | done | rfl) ?_; (with_reducible refine (laws_b10Abs.calls (wrap64 (x17_5 + (wrap64 ((rd (rd_L1 t364 (rd (rd_L1 t368 x18_5) 0)) (rd (rd_L1 t368 x18_5) 1)) - (wrap64 (255 * (rd (rd_L1 t371 (rd (rd_L1 t368 x18_5) 0)) (rd (rd_L1 t368 x18_5) 1)))))))) t389 _ A93.out).mono ?_); rintro e w' ⟨rfl, ⟨nd, rfl⟩⟩; refine ⟨_, rfl, ?_⟩))
                             go_roundg k5
                             case measure => have := HK1.out; have := HJ23.out; have := HK3.out; have := HJ50.out; have := HK5.out; omega
                             case rel => exact ⟨(wrap64 (x17_5 + (wrap64 ((rd (rd_L1 t364 (rd (rd_L1 t368 x18_5) 0)) (rd (rd_L1 t368 x18_5) 1)) - (wrap64 (255 * (rd (rd_L1 t371 (rd (rd_L1 t368 x18_5) 0)) (rd (rd_L1 t368 x18_5) 1)))))))), (wrap64 (x18_5 + 1)), (by first | rfl | (simp; done) | (simp [*]; done)), (by first | rfl | (simp; done) | (simp [*]; done)), H', ⟨by have := HK1.out; have := HJ23.out; have := HK3.out; have := HJ50.out; have := HK5.out; omega⟩, ⟨by (with_reducible repeat (first | apply Kd.N_alloc | apply Kd.N_drewN | apply Kd.N_drew)); exact HO_13.out⟩, ⟨by (with_reducible repeat (first | apply Kd.N_alloc | apply Kd.N_drewN | apply Kd.N_drew)); exact HO_14.out⟩, ⟨by (with_reducible repeat (first | apply Kd.N_alloc | apply Kd.N_drewN | apply Kd.N_drew)); exact HO_347000.out⟩, ⟨by (with_reducible repeat (first | apply Kd.N_alloc | apply Kd.N_drewN | apply Kd.N_drew)); exact HO_368000.out⟩, ⟨by (with_reducible repeat (first | refine blk_drewN ?_ _ | refine blk_drew ?_ | refine blk_alloc ?_ _)); exact BK346.out⟩, ⟨by (with_reducible repeat (first | refine blk_drewN ?_ _ | refine blk_drew ?_ | refine blk_alloc ?_ _)); exact BK367.out⟩, ⟨by repeat (first | (with_reducible first | exact HB.out | apply below_alloc | apply pw_below_drewN | apply below_drew1 | refine below_set ?_ GE346.out | refine below_set ?_ GE367.out) | exact HB.out)⟩⟩
                           ·rw [if_neg c92] at H
                            exact absurd H (by simp)
                          ·rw [if_neg c91] at H
                           exact absurd H (by simp)
                         ·rw [if_neg c90] at H
                          exact absurd H (by simp)
                        ·rw [if_neg c89] at H
                         have c89b0 : (((rd_L1 t371 (rd (rd_L1 t368 x18_5) 0)).length : Int) == ((rd_L1 t364 (rd (rd_L1 t368 x18_5) 0)).length : Int)) = false := beq_eq_false_iff_ne.mpr c89
                         have c89b1 : (((rd_L1 t371 (rd (rd_L1 t368 x18_5) 0)).length : Int) != ((rd_L1 t364 (rd (rd_L1 t368 x18_5) 0)).length : Int)) = true := bne_iff_ne.mpr c89
                         have c89b2 : ((rd_L1 t371 (rd (rd_L1 t368 x18_5) 0)).length == (rd_L1 t364 (rd (rd_L1 t368 x18_5) 0)).length) = false := by first | simpa using c89 | (simp at c89 ⊢; omega)
                         obtain rfl := Option.some.inj H
                         have p379 : 0 ≤ (x18_5 : Int) := of_decide_eq_true (by first | (with_reducible assumption) | assumption)
                         have q379 : x18_5 < (t368.length : Int) := of_decide_eq_true (by first | (with_reducible assumption) | assumption)
                         obtain ⟨ad379, A379_0, c379_0, e379, hx379_0, hl379_0, hi379_0⟩ := at_L1 (Kd.N_reads' HO_13.out).2.2 x18_5 p379 q379
                         cases e379
                         obtain ⟨ce379, hce379, hMe379, hcc379⟩ := Kd.N_get HO_13.out [] x18_5 p379 (by first | exact q379 | exact of_decide_eq_true (by first | (with_reducible assumption) | assumption) | (have e_ := (Kd.N_reads' HO_13.out).1; omega))
                         obtain ⟨ua379_0, uc379_0, rfl, ul379_0, ge379_0⟩ := Kd.FK_slice_open hMe379
                         have hv379_0 := hcc379 0 _ rfl
                         rw [Nat.add_zero, show ((Kd.slice 2 (Kd.int .i64))).sz = 1 from rfl, Nat.mul_one] at hv379_0
                         replace hv379_0 := Option.some.inj (hv379_0.symm.trans hx379_0)
                         injection hv379_0 with hva_ hvn_ hvc_
                         rw [hva_] at ge379_0
                         rw [hvc_] at ul379_0
                         have HL379_0 := Aside0.mk (show Kd.V (Kd.int .i64) 2 _ w.heap.size _ _ (rd_L1 t368 x18_5) from Kd.V_mk ul379_0 ge379_0)
                         clear hva_ hvn_ hvc_ ge379_0 ul379_0
                         clear hcc379 hce379
                         have HR379_0 := Aside0.mk hi379_0
                         have HC379_0 := Aside0.mk hl379_0
                         clear hi379_0 hl379_0
                         replace p379 := eq_true p379
                         replace q379 := eq_true q379
                         have p380 : 0 ≤ (0 : Int) := (by omega)
                         have q380 : 0 < ((rd_L1 t368 x18_5).length : Int) := of_decide_eq_true (by first | (with_reducible assumption) | assumption)
                         obtain ⟨ad380, e380, hx380_0⟩ := Kd.at_int (by repeat (first | (with_reducible exact HR379_0.out) | (with_reducible refine Kd.C_alloc ?_ _) | (with_reducible refine Kd.C_drewN ?_ _) | (with_reducible refine Kd.C_drew ?_) | exact HR379_0.out)) 0 p380 q380
                         cases e380
                         have qi380 : (0 < (rd_L1 t368 x18_5).length) = True := eq_true (by omega)
                         (try rw [show ((0 : Int)).toNat = 0 from rfl] at hx380_0)
                         (try rw [Addr.add_zero'] at hx380_0)
                         replace p380 := eq_true p380
                         replace q380 := eq_true q380
                         have p381 : 0 ≤ (x18_5 : Int) := of_decide_eq_true (by first | (with_reducible assumption) | assumption)
                         have q381 : x18_5 < (t368.length : Int) := of_decide_eq_true (by first | (with_reducible assumption) | assumption)
                         obtain ⟨ad381, A381_0, c381_0, e381, hx381_0, hl381_0, hi381_0⟩ := at_L1 (Kd.N_reads' HO_13.out).2.2 x18_5 p381 q381
                         obtain rfl : ad379 = ad381 := (by injection e381)
                         obtain ⟨ce381, hce381, hMe381, hcc381⟩ := Kd.N_get HO_13.out [] x18_5 p381 (by first | exact q381 | exact of_decide_eq_true (by first | (with_reducible assumption) | assumption) | (have e_ := (Kd.N_reads' HO_13.out).1; omega))
                         obtain ⟨ua381_0, uc381_0, rfl, ul381_0, ge381_0⟩ := Kd.FK_slice_open hMe381
                         have hv381_0 := hcc381 0 _ rfl
                         rw [Nat.add_zero, show ((Kd.slice 2 (Kd.int .i64))).sz = 1 from rfl, Nat.mul_one] at hv381_0
                         replace hv381_0 := Option.some.inj (hv381_0.symm.trans hx381_0)
                         injection hv381_0 with hva_ hvn_ hvc_
                         rw [hva_] at ge381_0
                         rw [hvc_] at ul381_0
                         have HL381_0 := Aside0.mk (show Kd.V (Kd.int .i64) 2 _ w.heap.size _ _ (rd_L1 t368 x18_5) from Kd.V_mk ul381_0 ge381_0)
                         clear hva_ hvn_ hvc_ ge381_0 ul381_0
                         clear hcc381 hce381
                         have HR381_0 := Aside0.mk hi381_0
                         have HC381_0 := Aside0.mk hl381_0
                         clear hi381_0 hl381_0
                         replace p381 := eq_true p381
                         replace q381 := eq_true q381
                         have ea_ := Option.some.inj (hx379_0.symm.trans hx381_0)
                         injection ea_ with ea_ en_ ec_
                         subst ea_
                         subst ec_
                         clear en_
                         have p382 : 0 ≤ (1 : Int) := (by omega)
                         have q382 : 1 < ((rd_L1 t368 x18_5).length : Int) := of_decide_eq_true (by first | (with_reducible assumption) | assumption)
                         obtain ⟨ad382, e382, hx382_0⟩ := Kd.at_int (by repeat (first | (with_reducible exact HR381_0.out) | (with_reducible refine Kd.C_alloc ?_ _) | (with_reducible refine Kd.C_drewN ?_ _) | (with_reducible refine Kd.C_drew ?_) | exact HR381_0.out)) 1 p382 q382
                         cases e382
                         (try simp only [show (1 : Int).toNat = 1 from rfl, Nat.reduceMul, Nat.reduceEqDiff, Go.Addr.add, ↓reduceIte] at hx382_0)
                         have qi382 : (1 < (rd_L1 t368 x18_5).length) = True := eq_true (by omega)
                         (try rw [show ((1 : Int)).toNat = 1 from rfl] at hx382_0)
                         replace p382 := eq_true p382
                         replace q382 := eq_true q382
                         try go_wp2
                         have n0_ := Aside0.mk (Kd.N_drew HO_13.out)
                         have n1_ := Aside0.mk (Kd.N_drew HO_14.out)
                         have n2_ := Aside0.mk (Kd.N_drew HO_347000.out)
                         have n3_ := Aside0.mk (Kd.N_drew HO_368000.out)
                         have n4_ := Aside0.mk (Kd.V_drew HL379_0.out)
                         have n5_ := Aside0.mk (Kd.V_drew HL381_0.out)
                         have n6_ := Aside0.mk (blk_drew BK346.out)
                         have n7_ := Aside0.mk (blk_drew BK367.out)
                         have n8_ := Aside0.mk (Kd.C_drew HR379_0.out)
                         have n9_ := Aside0.mk (Kd.C_drew HR381_0.out)
                         have n10_ := Aside0.mk (below_drew1 HB.out)
                         clear HO_13
                         clear HO_14
                         clear HO_347000
                         clear HO_368000
                         clear HL379_0
                         clear HL381_0
                         clear BK346
                         clear BK367
                         clear HR379_0
                         clear HR381_0
                         clear HB
                         have HO_13 := n0_
                         have HO_14 := n1_
                         have HO_347000 := n2_
                         have HO_368000 := n3_
                         have HL379_0 := n4_
                         have HL381_0 := n5_
                         have BK346 := n6_
                         have BK367 := n7_
                         have HR379_0 := n8_
                         have HR381_0 := n9_
                         have HB := n10_
                         clear n0_ n1_ n2_ n3_ n4_ n5_ n6_ n7_ n8_ n9_ n10_
                         obtain ⟨Ao102, co102, eo102⟩ := Kd.N_slice HO_14.out
                         (first | subst eo102 | (injection eo102 with f1_ f2_ f3_; have f4_ := f1_.symm; have f5_ := f3_.symm; clear f1_ f2_ f3_; subst f4_; subst f5_))
                         have p383 : 0 ≤ ((rd (rd_L1 t368 x18_5) 0) : Int) := of_decide_eq_true (by first | (with_reducible assumption) | assumption)
                         have q383 : (rd (rd_L1 t368 x18_5) 0) < (t371.length : Int) := of_decide_eq_true (by first | (with_reducible assumption) | assumption)
                         obtain ⟨ad383, A383_0, c383_0, e383, hx383_0, hl383_0, hi383_0⟩ := at_L1 (Kd.N_reads' HO_14.out).2.2 (rd (rd_L1 t368 x18_5) 0) p383 q383
                         cases e383
                         obtain ⟨ce383, hce383, hMe383, hcc383⟩ := Kd.N_get HO_14.out [] (rd (rd_L1 t368 x18_5) 0) p383 (by first | exact q383 | exact of_decide_eq_true (by first | (with_reducible assumption) | assumption) | (have e_ := (Kd.N_reads' HO_14.out).1; omega))
                         obtain ⟨ua383_0, uc383_0, rfl, ul383_0, ge383_0⟩ := Kd.FK_slice_open hMe383
                         have hv383_0 := hcc383 0 _ rfl
                         rw [Nat.add_zero, show ((Kd.slice 2 (Kd.int .i64))).sz = 1 from rfl, Nat.mul_one] at hv383_0
                         replace hv383_0 := Option.some.inj (hv383_0.symm.trans hx383_0)
                         injection hv383_0 with hva_ hvn_ hvc_
                         rw [hva_] at ge383_0
                         rw [hvc_] at ul383_0
                         have HL383_0 := Aside0.mk (show Kd.V (Kd.int .i64) 2 _ w.heap.size _ _ (rd_L1 t371 (rd (rd_L1 t368 x18_5) 0)) from Kd.V_mk ul383_0 ge383_0)
                         clear hva_ hvn_ hvc_ ge383_0 ul383_0
                         clear hcc383 hce383
                         have HR383_0 := Aside0.mk hi383_0
                         have HC383_0 := Aside0.mk hl383_0
                         clear hi383_0 hl383_0
                         replace p383 := eq_true p383
                         replace q383 := eq_true q383
                         have p384 : 0 ≤ ((rd (rd_L1 t368 x18_5) 0) : Int) := of_decide_eq_true (by first | (with_reducible assumption) | assumption)
                         have q384 : (rd (rd_L1 t368 x18_5) 0) < (t364.length : Int) := of_decide_eq_true (by first | (with_reducible assumption) | assumption)
                         obtain ⟨ad384, A384_0, c384_0, e384, hx384_0, hl384_0, hi384_0⟩ := at_L1 (Kd.N_reads' HO_368000.out).2.2 (rd (rd_L1 t368 x18_5) 0) p384 q384
                         cases e384
                         obtain ⟨ce384, hce384, hMe384, hcc384⟩ := Kd.N_get HO_368000.out [] (rd (rd_L1 t368 x18_5) 0) p384 (by first | exact q384 | exact of_decide_eq_true (by first | (with_reducible assumption) | assumption) | (have e_ := (Kd.N_reads' HO_368000.out).1; omega))
                         obtain ⟨ua384_0, uc384_0, rfl, ul384_0, ge384_0⟩ := Kd.FK_slice_open hMe384
                         have hv384_0 := hcc384 0 _ rfl
                         rw [Nat.add_zero, show ((Kd.slice 2 (Kd.int .i64))).sz = 1 from rfl, Nat.mul_one] at hv384_0
                         replace hv384_0 := Option.some.inj (hv384_0.symm.trans hx384_0)
                         injection hv384_0 with hva_ hvn_ hvc_
                         rw [hva_] at ge384_0
                         rw [hvc_] at ul384_0
                         have HL384_0 := Aside0.mk (show Kd.V (Kd.int .i64) 2 _ w.heap.size _ _ (rd_L1 t364 (rd (rd_L1 t368 x18_5) 0)) from Kd.V_mk ul384_0 ge384_0)
                         clear hva_ hvn_ hvc_ ge384_0 ul384_0
                         clear hcc384 hce384
                         have HR384_0 := Aside0.mk hi384_0
                         have HC384_0 := Aside0.mk hl384_0
                         clear hi384_0 hl384_0
                         replace p384 := eq_true p384
                         replace q384 := eq_true q384
                         refine start_ (n := 12) (S := fun w' => w'.cell? ⟨gb367, 0, none⟩ = some (.slice (some ad384) t364.length co55) ∧ w'.cell? (ad383.add ((rd (rd_L1 t368 x18_5) 0)).toNat) = some (.slice A383_0 (rd_L1 t371 (rd (rd_L1 t368 x18_5) 0)).length c383_0) ∧ w'.cell? (ad384.add ((rd (rd_L1 t368 x18_5) 0)).toNat) = some (.slice A384_0 (rd_L1 t364 (rd (rd_L1 t368 x18_5) 0)).length c384_0)) (ds := []) #[false, false, false, false, false, false, false, false, false, false, false, false] (by kernel_rfl) rfl rfl ⟨(blk_cell BK367.out 0).trans rfl, hx383_0, hx384_0⟩ (fun hHeld => ?_); refine with_tabW laws_FnPaths.tab29 laws_FnPaths.bits29 (fun HT_ HW_ => ?_)
                         generalize wr.drew = w101 at HO_13 HO_14 HO_347000 HO_368000 HL379_0 HL381_0 BK346 BK367 HR379_0 HR381_0 HB HL383_0 HL384_0 HR383_0 HR384_0 hx383_0 hx384_0 hHeld ⊢
                         refine pure_ (i := 0) (N := some 150) (v := ?_) (a' := ?_) #[true, false, false, false, false, false, false, false, false, false, false, false] rfl rfl (any_of HT_.out (by kernel_rfl)) (fun _ _ _ h => h) (Or.inl ⟨by rfl, ?_⟩) ?_ ?_
                         rotate_left; (intro w'; go_simp; with_reducible rfl); rotate_left; (simp only [Act.put, List.setIfInBounds_toArray, List.set_cons_zero, List.set_cons_succ, i64_w, i32_w]; rfl)
                         refine pure_ (i := 1) (N := some 151) (v := ?_) (a' := ?_) #[true, true, false, false, false, false, false, false, false, false, false, false] rfl rfl (any_of HT_.out (by kernel_rfl)) (fun _ _ _ h => h) (Or.inl ⟨by rfl, ?_⟩) ?_ ?_
                         rotate_left; (intro w'; go_simp; with_reducible rfl); rotate_left; (simp only [Act.put, List.setIfInBounds_toArray, List.set_cons_zero, List.set_cons_succ, i64_w, i32_w]; rfl)
                         refine pure_ (i := 2) (N := some 152) (v := ?_) (a' := ?_) #[true, true, true, false, false, false, false, false, false, false, false, false] rfl rfl (any_of HT_.out (by kernel_rfl)) (fun _ _ _ h => h) (Or.inl ⟨by rfl, ?_⟩) ?_ ?_
                         rotate_left; (intro w'; go_simp; with_reducible rfl); rotate_left; (simp only [Act.put, List.setIfInBounds_toArray, List.set_cons_zero, List.set_cons_succ, i64_w, i32_w]; rfl)
                         refine pure_ (i := 5) (N := some 155) (v := ?_) (a' := ?_) #[true, true, true, false, false, true, false, false, false, false, false, false] rfl rfl (any_of HT_.out (by kernel_rfl)) (fun _ _ _ h => h) (Or.inl ⟨by rfl, ?_⟩) ?_ ?_
                         rotate_left; (intro w'; go_simp; with_reducible rfl); rotate_left; (simp only [Act.put, List.setIfInBounds_toArray, List.set_cons_zero, List.set_cons_succ, i64_w, i32_w]; rfl)
                         refine pure_ (i := 7) (N := some 157) (v := ?_) (a' := ?_) #[true, true, true, false, false, true, false, true, false, false, false, false] rfl rfl (any_of HT_.out (by kernel_rfl)) (fun _ _ _ h => h) (Or.inl ⟨by rfl, ?_⟩) ?_ ?_
                         rotate_left; (intro w'; go_simp; with_reducible rfl); rotate_left; (simp only [Act.put, List.setIfInBounds_toArray, List.set_cons_zero, List.set_cons_succ, i64_w, i32_w]; rfl)
                         refine take_ (i := 3) (N := some 153) (v := ?_) (a' := ?_) #[true, true, true, true, false, true, false, true, false, false, false, false] rfl rfl (take_ofW HT_.out HW_.out (by kernel_rfl)) (fun _ _ _ h => h) (Or.inl ⟨by rfl, ?_⟩) hHeld ?_ ?_
                         rotate_left; (rintro w' ⟨s0, s1, s2⟩; go_simp; with_reducible rfl); rotate_left; (simp only [Act.put, List.setIfInBounds_toArray, List.set_cons_zero, List.set_cons_succ, i64_w, i32_w]; rfl)
                         refine pure_ (i := 4) (N := some 154) (v := ?_) (a' := ?_) #[true, true, true, true, true, true, false, true, false, false, false, false] rfl rfl (any_of HT_.out (by kernel_rfl)) (fun _ _ _ h => h) (Or.inl ⟨by rfl, ?_⟩) ?_ ?_
                         rotate_left; (intro w'; go_simp; with_reducible rfl); rotate_left; (simp only [Act.put, List.setIfInBounds_toArray, List.set_cons_zero, List.set_cons_succ, i64_w, i32_w]; rfl)
                         refine take_ (i := 6) (N := some 156) (v := ?_) (a' := ?_) #[true, true, true, true, true, true, true, true, false, false, false, false] rfl rfl (take_ofW HT_.out HW_.out (by kernel_rfl)) (fun _ _ _ h => h) (Or.inl ⟨by rfl, ?_⟩) hHeld ?_ ?_
                         rotate_left; (rintro w' ⟨s0, s1, s2⟩; go_simp; with_reducible rfl); rotate_left; (simp only [Act.put, List.setIfInBounds_toArray, List.set_cons_zero, List.set_cons_succ, i64_w, i32_w]; rfl)
                         refine pure_ (i := 8) (N := some 158) (v := ?_) (a' := ?_) #[true, true, true, true, true, true, true, true, true, false, false, false] rfl rfl (any_of HT_.out (by kernel_rfl)) (fun _ _ _ h => h) (Or.inl ⟨by rfl, ?_⟩) ?_ ?_
                         rotate_left; (intro w'; go_simp; with_reducible rfl); rotate_left; (simp only [Act.put, List.setIfInBounds_toArray, List.set_cons_zero, List.set_cons_succ, i64_w, i32_w]; rfl)
                         refine take_ (i := 9) (N := some 159) (v := ?_) (a' := ?_) #[true, true, true, true, true, true, true, true, true, true, false, false] rfl rfl (take_ofW HT_.out HW_.out (by kernel_rfl)) (fun _ _ _ h => h) (Or.inl ⟨by rfl, ?_⟩) hHeld ?_ ?_
                         rotate_left; (rintro w' ⟨s0, s1, s2⟩; go_simp; with_reducible rfl); rotate_left; (simp only [Act.put, List.setIfInBounds_toArray, List.set_cons_zero, List.set_cons_succ, i64_w, i32_w]; rfl)
                         refine pure_ (i := 10) (N := some 160) (v := ?_) (a' := ?_) #[true, true, true, true, true, true, true, true, true, true, true, false] rfl rfl (any_of HT_.out (by kernel_rfl)) (fun _ _ _ h => h) (Or.inl ⟨by rfl, ?_⟩) ?_ ?_
                         rotate_left; (intro w'; go_simp; with_reducible rfl); rotate_left; (simp only [Act.put, List.setIfInBounds_toArray, List.set_cons_zero, List.set_cons_succ, i64_w, i32_w]; rfl)
                         refine pure_ (i := 11) (N := some 161) (v := ?_) (a' := ?_) #[true, true, true, true, true, true, true, true, true, true, true, true] rfl rfl (any_of HT_.out (by kernel_rfl)) (fun _ _ _ h => h) (Or.inl ⟨by rfl, ?_⟩) ?_ ?_
                         rotate_left; (intro w'; go_simp; with_reducible rfl); rotate_left; (simp only [Act.put, List.setIfInBounds_toArray, List.set_cons_zero, List.set_cons_succ, i64_w, i32_w]; rfl)
                         refine done_ (done_of HT_.out (by kernel_rfl)) ?_
                         try go_wp2
                         go_ret
                         exact ⟨by first | rfl | (simp [errW_none, errW_some] <;> rfl) | (simp only [← hji7, ← hji9]; first | rfl | (simp [errW_none, errW_some] <;> rfl)) | (simp [*, errW_none, errW_some] <;> rfl), by repeat (first | (with_reducible first | exact HB.out | apply below_alloc | apply pw_below_drewN | apply below_drew1 | refine below_set ?_ GE346.out | refine below_set ?_ GE367.out) | exact HB.out)⟩
                       ·rw [if_neg c88] at H
                        exact absurd H (by simp)
                      ·rw [if_neg c87] at H
                       exact absurd H (by simp)
                     ·rw [if_neg c86] at H
                      exact absurd H (by simp)
                    ·rw [if_neg c85] at H
                     exact absurd H (by simp)
                   ·rw [if_neg c84] at H
                    exact absurd H (by simp)
                  ·rw [if_neg c83] at H
                   exact absurd H (by simp)
                 ·rw [if_neg c82] at H
                  have c82b0 : decide (x18_5 < (t368.length : Int)) = false := decide_eq_false c82
                  clear c82
                  obtain rfl := Option.some.inj H
                  go_wp2
                  go_ret
                  exact ⟨by first | rfl | (simp [errW_none, errW_some] <;> rfl) | (simp only [← hji7, ← hji9]; first | rfl | (simp [errW_none, errW_some] <;> rfl)) | (simp [*, errW_none, errW_some] <;> rfl), by repeat (first | (with_reducible first | exact HB.out | apply below_alloc | apply pw_below_drewN | apply below_drew1 | refine below_set ?_ GE346.out | refine below_set ?_ GE367.out) | exact HB.out)⟩
  ·rw [if_neg c8] at H
   exact absurd H (by simp)
def laws_FnPaths.Pure : Prop := ∀ (l0 : List Int) (l1 : List Int), l0.length ≤ maxLen → l0.length * 1 ≤ 140737488351232 → (∀ x ∈ l0, (Lit.int .u8 x).wf = true) → l1.length ≤ maxLen → l1.length * 1 ≤ 140737488351232 → (∀ x ∈ l1, (Lit.int .u8 x).wf = true) → ∃ k, laws_FnPaths.f k l0 l1 = some true
theorem laws_FnPaths.walk (P : laws_FnPaths.Pure) (a0 : Option Addr) (len0 cap0 : Nat) (z0 : List Int) (a1 : Option Addr) (len1 cap1 : Nat) (z1 : List Int) (w : World) (w0 : (a0 = none ∧ len0 = 0 ∧ cap0 = 0 ∧ z0 = []) ∨ ∃ x, a0 = some x ∧ len0 ≤ cap0 ∧ cap0 ≤ maxLen ∧ z0.length = cap0 ∧ (∀ i, i < z0.length → w.cell? (x.add i) = some (.int .u8 (z0.getD i 0))) ∧ ∀ n ∈ z0, (Lit.int .u8 n).wf = true) (y0 : len0 * 1 ≤ 140737488351232) (w1 : (a1 = none ∧ len1 = 0 ∧ cap1 = 0 ∧ z1 = []) ∨ ∃ x, a1 = some x ∧ len1 ≤ cap1 ∧ cap1 ≤ maxLen ∧ z1.length = cap1 ∧ (∀ i, i < z1.length → w.cell? (x.add i) = some (.int .u8 (z1.getD i 0))) ∧ ∀ n ∈ z1, (Lit.int .u8 n).wf = true) (y1 : len1 * 1 ≤ 140737488351232) :
  Calls Try.prog 5 #[.slice a0 len0 cap0, .slice a1 len1 cap1] w fun e w' => e = .returned (.bool true) ∧ Below w.heap.size w w' := by
 obtain ⟨l0, rfl, hr0, hm0, hw0, hc0⟩ := ReadsInt.ofRowC w0
 obtain ⟨l1, rfl, hr1, hm1, hw1, hc1⟩ := ReadsInt.ofRowC w1
 obtain ⟨k, h⟩ := P l0 l1 hm0 y0 hw0 hm1 y1 hw1
 refine (laws_FnPaths.calls k _ _ l0 _ _ l1 true w (Kd.C_of_reads (d := (0 : Int)) (h1 := fun _ => rfl) hr0) hc0 (Kd.C_of_reads (d := (0 : Int)) (h1 := fun _ => rfl) hr1) hc1 h).mono ?_
 rintro e w' ⟨rfl, hd⟩
 exact ⟨rfl, hd⟩
end Go.Proofs.Ytckonklpdepgoaa.Q
