/- The statement FnBlocks, with all that its proof stands on: functions of the program as plain functions, the program's walks, and the plain law. Conditions: none beyond the statement's own. -/
import Derived.ArgAppend
import Derived.Below
import Derived.BigQuiet
import Derived.BigRegion
import Derived.Deep.AppendLies
import Derived.Deep.CutBlock
import Derived.Deep.DeepCutAuto
import Derived.Deep.Draws
import Derived.Deep.LoopGhost
import Derived.Deep.OwnRows
import Derived.Deep.QuietTactic
import Derived.Deep.RegionHeld3
import Derived.Ground.SlgmProg
import Derived.Ground.SlgnProg
import Derived.KernelRfl
import Derived.Laws.BitsLemmas
import Derived.Laws.BytesArg
import Derived.Laws.IdiomCopy
import Derived.Laws.MakeOwn
import Derived.Laws.OwnMore
import Derived.Laws.Rows
import Derived.Laws.Slices
import Derived.Lib.AppendStr
import Derived.Lib.ConvBytes
import Derived.Maps.AppendAt
import Derived.OrdersHeld
import Derived.OwnWalk
import Derived.ProofKit
import Derived.RowKit
import Derived.RowKit3
import Derived.Shelf.SlicesE.Clone
import Derived.Shelf.Small.Bits
import Derived.Shelf.Small.Strs
import Derived.Shelf.SortM.Plain
import Derived.Shelf.Strconv.Itoa0
import Derived.Shelf.Strings.Search1
import Derived.Sort.OwnSortedInts
import Derived.Tactics
import Derived.Test.YtckonklpdepgoaaProg
import Derived.WalkKit
import Derived.WideLaws
import Derived.Test.YtckonklpdepgoaaBFnBlocks1
import Derived.Test.YtckonklpdepgoaaBFnBlocks2
import Derived.Test.YtckonklpdepgoaaBFnBlocks3
import Derived.Test.YtckonklpdepgoaaBFnBlocks4
import Derived.Test.YtckonklpdepgoaaBFnBlocks5
import Derived.Test.YtckonklpdepgoaaBFnBlocks6
import Derived.Test.YtckonklpdepgoaaBFnBlocks7
import Derived.Test.YtckonklpdepgoaaBFnBlocks8
set_option linter.unusedVariables false
set_option linter.unusedSimpArgs false
namespace Go.Proofs.Ytckonklpdepgoaa.Q
open Go.RowKit Go.Proofs.YtckonklpdepgoaaW.PrintWords Go.Proofs.YtckonklpdepgoaaW.PrintLast Go.Proofs.YtckonklpdepgoaaW.PrintMore
attribute [local go_sem] max2_int min2_int max_two min_two max_three min_three max_four min_four   -- for this text's walks alone
set_option linter.unusedVariables false
set_option linter.unusedSimpArgs false
mutual
def laws_FnBlocks.j0 : Nat → List (List Int) → List (List Int) → List (List Int) → Bool → List (List Int) → Option (Bool)
 | 0, _, _, _, _, _ => none
 | k + 1, x8, x10, x13, x87, x630000 => if x87 = true then (some false) else (laws_FnBlocks.l0 k x8 x10 x13 0 x630000)
def laws_FnBlocks.l0 : Nat → List (List Int) → List (List Int) → List (List Int) → Int → List (List Int) → Option (Bool)
 | 0, _, _, _, _, _ => none
 | k + 1, x8, x10, x13, x15, x630000 => if x15 < (x10.length : Int) then (if 0 ≤ x15 then (if x15 < (x630000.length : Int) then (if ((rd_L1 x10 x15).length : Int) = ((rd_L1 x630000 x15).length : Int) then (if x15 < (x8.length : Int) then (laws_FnBlocks.j2 k x8 x10 x13 x15 (((rd_L1 x8 x15).length : Int) != ((rd_L1 x630000 x15).length : Int)) x630000) else (none)) else (laws_FnBlocks.j2 k x8 x10 x13 x15 true x630000)) else (none)) else (none)) else ((laws_b10All.f k x13).bind fun t649 => ((laws_b10All.f k x10).bind fun t650 => (some (t649 == t650))))
def laws_FnBlocks.j2 : Nat → List (List Int) → List (List Int) → List (List Int) → Int → Bool → List (List Int) → Option (Bool)
 | 0, _, _, _, _, _, _ => none
 | k + 1, x8, x10, x13, x15, x119, x630000 => if x119 = true then (some false) else (laws_FnBlocks.l1 k x8 x10 x13 x15 0 x630000)
def laws_FnBlocks.l1 : Nat → List (List Int) → List (List Int) → List (List Int) → Int → Int → List (List Int) → Option (Bool)
 | 0, _, _, _, _, _, _ => none
 | k + 1, x8, x10, x13, x15, x16, x630000 => if 0 ≤ x15 then (if x15 < (x10.length : Int) then (if x16 < ((rd_L1 x10 x15).length : Int) then (if 0 ≤ x16 then (if x15 < (x630000.length : Int) then (if x16 < ((rd_L1 x630000 x15).length : Int) then (if x15 < (x8.length : Int) then (if x16 < ((rd_L1 x8 x15).length : Int) then (if (rd (rd_L1 x10 x15) x16) = (wrap64 ((rd (rd_L1 x630000 x15) x16) - (wrap64 (255 * (rd (rd_L1 x8 x15) x16))))) then (laws_FnBlocks.l1 k x8 x10 x13 x15 (wrap64 (x16 + 1)) x630000) else (some false)) else (none)) else (none)) else (none)) else (none)) else (none)) else (laws_FnBlocks.l0 k x8 x10 x13 (wrap64 (x15 + 1)) x630000)) else (none)) else (none)
end
def laws_FnBlocks.f (k : Nat) (l0 : List Int) (l1 : List Int) : Option (Bool) := (laws_b10Long.f l0 l1).bind fun t625 => (if t625 = true then (some true) else ((spec_B10Picture.f k l0).bind fun t626 => ((laws_b10At.f l1 0 3).bind fun t630 => ((impl_DoublingMask.f k t630).bind fun bt631 => ((impl_MaskDither.f k t626 bt631.1).bind fun bt635 => ((impl_BlockErrors.f k t626 bt635.1 1).bind fun bt639 => (if 0 < (t626.length : Int) then ((laws_b10Gcd.f k (t626.length : Int) ((rd_L1 t626 0).length : Int)).bind fun t644 => ((impl_BlockErrors.f k t626 bt635.1 t644).bind fun bt645 => (if bt631.2 = true then (if bt635.2 = true then (if bt639.2 = true then (if bt645.2 = true then (if (bt639.1.length : Int) = (t626.length : Int) then (laws_FnBlocks.j0 k bt635.1 bt639.1 bt645.1 ((wrap64 ((bt645.1.length : Int) * t644)) != (t626.length : Int)) t626) else (laws_FnBlocks.j0 k bt635.1 bt639.1 bt645.1 true t626)) else (laws_FnBlocks.j0 k bt635.1 bt639.1 bt645.1 true t626)) else (laws_FnBlocks.j0 k bt635.1 bt639.1 bt645.1 true t626)) else (laws_FnBlocks.j0 k bt635.1 bt639.1 bt645.1 true t626)) else (laws_FnBlocks.j0 k bt635.1 bt639.1 bt645.1 true t626)))) else (none))))))))
theorem laws_FnBlocks.mono_l : ∀ k, (∀ y0 y1 y2 y3 y4, LeO (laws_FnBlocks.j0 k y0 y1 y2 y3 y4) (laws_FnBlocks.j0 (k + 1) y0 y1 y2 y3 y4)) ∧ (∀ y0 y1 y2 y3 y4, LeO (laws_FnBlocks.l0 k y0 y1 y2 y3 y4) (laws_FnBlocks.l0 (k + 1) y0 y1 y2 y3 y4)) ∧ (∀ y0 y1 y2 y3 y4 y5, LeO (laws_FnBlocks.j2 k y0 y1 y2 y3 y4 y5) (laws_FnBlocks.j2 (k + 1) y0 y1 y2 y3 y4 y5)) ∧ (∀ y0 y1 y2 y3 y4 y5, LeO (laws_FnBlocks.l1 k y0 y1 y2 y3 y4 y5) (laws_FnBlocks.l1 (k + 1) y0 y1 y2 y3 y4 y5))
 | 0 => ⟨fun _ _ _ _ _ r h => by simp [laws_FnBlocks.j0] at h, fun _ _ _ _ _ r h => by simp [laws_FnBlocks.l0] at h, fun _ _ _ _ _ _ r h => by simp [laws_FnBlocks.j2] at h, fun _ _ _ _ _ _ r h => by simp [laws_FnBlocks.l1] at h⟩
 | k + 1 => by
  obtain ⟨ih0, ih1, ih2, ih3⟩ := laws_FnBlocks.mono_l k
  refine ⟨?_, ?_, ?_, ?_⟩
  ·intro y0 y1 y2 y3 y4
   unfold laws_FnBlocks.j0
   repeat' first
   | (with_reducible exact ih0 _ _ _ _ _)
   | (with_reducible exact ih1 _ _ _ _ _)
   | (with_reducible exact ih2 _ _ _ _ _ _)
   | (with_reducible exact ih3 _ _ _ _ _ _)
   | (with_reducible exact impl_BlockErrors.mono _ _ _ _)
   | (with_reducible exact impl_DoublingMask.mono _ _)
   | (with_reducible exact impl_MaskDither.mono _ _ _)
   | (with_reducible exact laws_b10All.mono _ _)
   | (with_reducible exact laws_b10Gcd.mono _ _ _)
   | (with_reducible exact spec_B10Picture.mono _ _)
   | (with_reducible exact LeO.refl _)
   | (with_reducible exact LeO.none _)
   | (with_reducible refine LeO.ite ?_ ?_)
   | (with_reducible refine LeO.bind ?_ (fun _ => ?_))
   | exact ih0 _ _ _ _ _
   | exact ih1 _ _ _ _ _
   | exact ih2 _ _ _ _ _ _
   | exact ih3 _ _ _ _ _ _
   | exact impl_BlockErrors.mono _ _ _ _
   | exact impl_DoublingMask.mono _ _
   | exact impl_MaskDither.mono _ _ _
   | exact laws_b10All.mono _ _
   | exact laws_b10Gcd.mono _ _ _
   | exact spec_B10Picture.mono _ _
   | exact LeO.none _
   | refine LeO.ite ?_ ?_
   | refine LeO.bind ?_ (fun _ => ?_)
  ·intro y0 y1 y2 y3 y4
   unfold laws_FnBlocks.l0
   repeat' first
   | (with_reducible exact ih0 _ _ _ _ _)
   | (with_reducible exact ih1 _ _ _ _ _)
   | (with_reducible exact ih2 _ _ _ _ _ _)
   | (with_reducible exact ih3 _ _ _ _ _ _)
   | (with_reducible exact impl_BlockErrors.mono _ _ _ _)
   | (with_reducible exact impl_DoublingMask.mono _ _)
   | (with_reducible exact impl_MaskDither.mono _ _ _)
   | (with_reducible exact laws_b10All.mono _ _)
   | (with_reducible exact laws_b10Gcd.mono _ _ _)
   | (with_reducible exact spec_B10Picture.mono _ _)
   | (with_reducible exact LeO.refl _)
   | (with_reducible exact LeO.none _)
   | (with_reducible refine LeO.ite ?_ ?_)
   | (with_reducible refine LeO.bind ?_ (fun _ => ?_))
   | exact ih0 _ _ _ _ _
   | exact ih1 _ _ _ _ _
   | exact ih2 _ _ _ _ _ _
   | exact ih3 _ _ _ _ _ _
   | exact impl_BlockErrors.mono _ _ _ _
   | exact impl_DoublingMask.mono _ _
   | exact impl_MaskDither.mono _ _ _
   | exact laws_b10All.mono _ _
   | exact laws_b10Gcd.mono _ _ _
   | exact spec_B10Picture.mono _ _
   | exact LeO.none _
   | refine LeO.ite ?_ ?_
   | refine LeO.bind ?_ (fun _ => ?_)
  ·intro y0 y1 y2 y3 y4 y5
   unfold laws_FnBlocks.j2
   repeat' first
   | (with_reducible exact ih0 _ _ _ _ _)
   | (with_reducible exact ih1 _ _ _ _ _)
   | (with_reducible exact ih2 _ _ _ _ _ _)
   | (with_reducible exact ih3 _ _ _ _ _ _)
   | (with_reducible exact impl_BlockErrors.mono _ _ _ _)
   | (with_reducible exact impl_DoublingMask.mono _ _)
   | (with_reducible exact impl_MaskDither.mono _ _ _)
   | (with_reducible exact laws_b10All.mono _ _)
   | (with_reducible exact laws_b10Gcd.mono _ _ _)
   | (with_reducible exact spec_B10Picture.mono _ _)
   | (with_reducible exact LeO.refl _)
   | (with_reducible exact LeO.none _)
   | (with_reducible refine LeO.ite ?_ ?_)
   | (with_reducible refine LeO.bind ?_ (fun _ => ?_))
   | exact ih0 _ _ _ _ _
   | exact ih1 _ _ _ _ _
   | exact ih2 _ _ _ _ _ _
   | exact ih3 _ _ _ _ _ _
   | exact impl_BlockErrors.mono _ _ _ _
   | exact impl_DoublingMask.mono _ _
   | exact impl_MaskDither.mono _ _ _
   | exact laws_b10All.mono _ _
   | exact laws_b10Gcd.mono _ _ _
   | exact spec_B10Picture.mono _ _
   | exact LeO.none _
   | refine LeO.ite ?_ ?_
   | refine LeO.bind ?_ (fun _ => ?_)
  ·intro y0 y1 y2 y3 y4 y5
   unfold laws_FnBlocks.l1
   repeat' first
   | (with_reducible exact ih0 _ _ _ _ _)
   | (with_reducible exact ih1 _ _ _ _ _)
   | (with_reducible exact ih2 _ _ _ _ _ _)
   | (with_reducible exact ih3 _ _ _ _ _ _)
   | (with_reducible exact impl_BlockErrors.mono _ _ _ _)
   | (with_reducible exact impl_DoublingMask.mono _ _)
   | (with_reducible exact impl_MaskDither.mono _ _ _)
   | (with_reducible exact laws_b10All.mono _ _)
   | (with_reducible exact laws_b10Gcd.mono _ _ _)
   | (with_reducible exact spec_B10Picture.mono _ _)
   | (with_reducible exact LeO.refl _)
   | (with_reducible exact LeO.none _)
   | (with_reducible refine LeO.ite ?_ ?_)
   | (with_reducible refine LeO.bind ?_ (fun _ => ?_))
   | exact ih0 _ _ _ _ _
   | exact ih1 _ _ _ _ _
   | exact ih2 _ _ _ _ _ _
   | exact ih3 _ _ _ _ _ _
   | exact impl_BlockErrors.mono _ _ _ _
   | exact impl_DoublingMask.mono _ _
   | exact impl_MaskDither.mono _ _ _
   | exact laws_b10All.mono _ _
   | exact laws_b10Gcd.mono _ _ _
   | exact spec_B10Picture.mono _ _
   | exact LeO.none _
   | refine LeO.ite ?_ ?_
   | refine LeO.bind ?_ (fun _ => ?_)
theorem laws_FnBlocks.mono : ∀ a0 a1 k, LeO (laws_FnBlocks.f k a0 a1) (laws_FnBlocks.f (k + 1) a0 a1) := by
 intro a0 a1 k
 obtain ⟨ih0, ih1, ih2, ih3⟩ := laws_FnBlocks.mono_l k
 unfold laws_FnBlocks.f
 repeat' first
   | (with_reducible exact ih0 _ _ _ _ _)
   | (with_reducible exact ih1 _ _ _ _ _)
   | (with_reducible exact ih2 _ _ _ _ _ _)
   | (with_reducible exact ih3 _ _ _ _ _ _)
   | (with_reducible exact impl_BlockErrors.mono _ _ _ _)
   | (with_reducible exact impl_DoublingMask.mono _ _)
   | (with_reducible exact impl_MaskDither.mono _ _ _)
   | (with_reducible exact laws_b10All.mono _ _)
   | (with_reducible exact laws_b10Gcd.mono _ _ _)
   | (with_reducible exact spec_B10Picture.mono _ _)
   | (with_reducible exact LeO.refl _)
   | (with_reducible exact LeO.none _)
   | (with_reducible refine LeO.ite ?_ ?_)
   | (with_reducible refine LeO.bind ?_ (fun _ => ?_))
   | exact ih0 _ _ _ _ _
   | exact ih1 _ _ _ _ _
   | exact ih2 _ _ _ _ _ _
   | exact ih3 _ _ _ _ _ _
   | exact impl_BlockErrors.mono _ _ _ _
   | exact impl_DoublingMask.mono _ _
   | exact impl_MaskDither.mono _ _ _
   | exact laws_b10All.mono _ _
   | exact laws_b10Gcd.mono _ _ _
   | exact spec_B10Picture.mono _ _
   | exact LeO.none _
   | refine LeO.ite ?_ ?_
   | refine LeO.bind ?_ (fun _ => ?_)
set_option maxHeartbeats 8000000 in
set_option maxRecDepth 100000 in
theorem laws_FnBlocks.calls (k : Nat) (A0 : Option Addr) (c0 : Nat) (l0 : List Int) (A1 : Option Addr) (c1 : Nat) (l1 : List Int) (r : Bool) (w : World) (hr0 : Kd.C (Kd.int .u8) w A0 l0.length l0) (hc0 : l0.length ≤ c0) (hr1 : Kd.C (Kd.int .u8) w A1 l1.length l1) (hc1 : l1.length ≤ c1) (h : laws_FnBlocks.f k l0 l1 = some r) :
  Calls Try.prog 12 #[.slice A0 l0.length c0, .slice A1 l1.length c1] w fun e w' => e = .returned (.bool r) ∧ Below w.heap.size w w' := by
 have hu33 := Try.underlying33
 have HR0 := Aside0.mk hr0
 have HC0 := Aside0.mk hc0
 clear hr0 hc0
 have HR1 := Aside0.mk hr1
 have HC1 := Aside0.mk hc1
 clear hr1 hc1
 have HB := Aside0.mk (Below.refl w.heap.size w)
 have H : ((laws_b10Long.f l0 l1).bind fun t625 => (if t625 = true then (some true) else ((spec_B10Picture.f k l0).bind fun t626 => ((laws_b10At.f l1 0 3).bind fun t630 => ((impl_DoublingMask.f k t630).bind fun bt631 => ((impl_MaskDither.f k t626 bt631.1).bind fun bt635 => ((impl_BlockErrors.f k t626 bt635.1 1).bind fun bt639 => (if 0 < (t626.length : Int) then ((laws_b10Gcd.f k (t626.length : Int) ((rd_L1 t626 0).length : Int)).bind fun t644 => ((impl_BlockErrors.f k t626 bt635.1 t644).bind fun bt645 => (if bt631.2 = true then (if bt635.2 = true then (if bt639.2 = true then (if bt645.2 = true then (if (bt639.1.length : Int) = (t626.length : Int) then (laws_FnBlocks.j0 k bt635.1 bt639.1 bt645.1 ((wrap64 ((bt645.1.length : Int) * t644)) != (t626.length : Int)) t626) else (laws_FnBlocks.j0 k bt635.1 bt639.1 bt645.1 true t626)) else (laws_FnBlocks.j0 k bt635.1 bt639.1 bt645.1 true t626)) else (laws_FnBlocks.j0 k bt635.1 bt639.1 bt645.1 true t626)) else (laws_FnBlocks.j0 k bt635.1 bt639.1 bt645.1 true t626)) else (laws_FnBlocks.j0 k bt635.1 bt639.1 bt645.1 true t626)))) else (none))))))))) = some r := h
 clear h
 replace H := Option.bind_eq_some_iff.mp H
 obtain ⟨t625, A30, H⟩ := H
 replace H : (if t625 = true then (some true) else ((spec_B10Picture.f k l0).bind fun t626 => ((laws_b10At.f l1 0 3).bind fun t630 => ((impl_DoublingMask.f k t630).bind fun bt631 => ((impl_MaskDither.f k t626 bt631.1).bind fun bt635 => ((impl_BlockErrors.f k t626 bt635.1 1).bind fun bt639 => (if 0 < (t626.length : Int) then ((laws_b10Gcd.f k (t626.length : Int) ((rd_L1 t626 0).length : Int)).bind fun t644 => ((impl_BlockErrors.f k t626 bt635.1 t644).bind fun bt645 => (if bt631.2 = true then (if bt635.2 = true then (if bt639.2 = true then (if bt645.2 = true then (if (bt639.1.length : Int) = (t626.length : Int) then (laws_FnBlocks.j0 k bt635.1 bt639.1 bt645.1 ((wrap64 ((bt645.1.length : Int) * t644)) != (t626.length : Int)) t626) else (laws_FnBlocks.j0 k bt635.1 bt639.1 bt645.1 true t626)) else (laws_FnBlocks.j0 k bt635.1 bt639.1 bt645.1 true t626)) else (laws_FnBlocks.j0 k bt635.1 bt639.1 bt645.1 true t626)) else (laws_FnBlocks.j0 k bt635.1 bt639.1 bt645.1 true t626)) else (laws_FnBlocks.j0 k bt635.1 bt639.1 bt645.1 true t626)))) else (none)))))))) = some r := H
 have A3 := Aside0.mk A30
 clear A30
 by_cases c4 : t625 = true
 ·subst c4
  have H1 : (some true) = some r := by rw [if_pos rfl] at H; exact H
  clear H
  have H := H1
  clear H1
  obtain rfl := Option.some.inj H
  go_enter Try.func12, Try.ntmps12
  go_wp2_with (first | (go_at_call 22; (with_reducible refine (laws_b10Long.calls _ _ l0 _ _ l1 true _ ?side1 ?side2 ?side3 ?side4 A3.out).mono ?_); (case side1 => repeat (first | exact HR0.out | (with_reducible refine Kd.C_alloc ?_ _) | (with_reducible refine Kd.C_drewN ?_ _) | (with_reducible refine Kd.C_drew ?_))); (case side2 => exact HC0.out); (case side3 => repeat (first | exact HR1.out | (with_reducible refine Kd.C_alloc ?_ _) | (with_reducible refine Kd.C_drewN ?_ _) | (with_reducible refine Kd.C_drew ?_))); (case side4 => exact HC1.out); rintro e w' ⟨rfl, ⟨nd, rfl⟩⟩; (try first | exact ⟨rfl, _, World.drewN_drewN _ _ _⟩ | exact ⟨rfl, _, Eq.trans (World.drewN_drewN _ _ _) (congrArg (World.drewN _) (Nat.add_assoc _ _ _))⟩)))
  repeat (go_quiet (first | (go_at_call 22; (with_reducible refine (laws_b10Long.calls _ _ l0 _ _ l1 true _ ?side1 ?side2 ?side3 ?side4 A3.out).mono ?_); (case side1 => repeat (first | exact HR0.out | (with_reducible refine Kd.C_alloc ?_ _) | (with_reducible refine Kd.C_drewN ?_ _) | (with_reducible refine Kd.C_drew ?_))); (case side2 => exact HC0.out); (case side3 => repeat (first | exact HR1.out | (with_reducible refine Kd.C_alloc ?_ _) | (with_reducible refine Kd.C_drewN ?_ _) | (with_reducible refine Kd.C_drew ?_))); (case side4 => exact HC1.out); rintro e w' ⟨rfl, ⟨nd, rfl⟩⟩; (try first | exact ⟨rfl, _, World.drewN_drewN _ _ _⟩ | exact ⟨rfl, _, Eq.trans (World.drewN_drewN _ _ _) (congrArg (World.drewN _) (Nat.add_assoc _ _ _))⟩))); try go_wp2_with (first | (go_at_call 22; (with_reducible refine (laws_b10Long.calls _ _ l0 _ _ l1 true _ ?side1 ?side2 ?side3 ?side4 A3.out).mono ?_); (case side1 => repeat (first | exact HR0.out | (with_reducible refine Kd.C_alloc ?_ _) | (with_reducible refine Kd.C_drewN ?_ _) | (with_reducible refine Kd.C_drew ?_))); (case side2 => exact HC0.out); (case side3 => repeat (first | exact HR1.out | (with_reducible refine Kd.C_alloc ?_ _) | (with_reducible refine Kd.C_drewN ?_ _) | (with_reducible refine Kd.C_drew ?_))); (case side4 => exact HC1.out); rintro e w' ⟨rfl, ⟨nd, rfl⟩⟩; (try first | exact ⟨rfl, _, World.drewN_drewN _ _ _⟩ | exact ⟨rfl, _, Eq.trans (World.drewN_drewN _ _ _) (congrArg (World.drewN _) (Nat.add_assoc _ _ _))⟩))))
  go_ret
  exact ⟨by first | rfl | (simp [errW_none, errW_some] <;> rfl) | (simp [*, errW_none, errW_some] <;> rfl), by repeat (first | (with_reducible first | exact HB.out | apply below_alloc | apply pw_below_drewN | apply below_drew1) | exact HB.out)⟩
 ·replace c4 := Bool.eq_false_iff.mpr c4
  subst c4
  have H1 : ((spec_B10Picture.f k l0).bind fun t626 => ((laws_b10At.f l1 0 3).bind fun t630 => ((impl_DoublingMask.f k t630).bind fun bt631 => ((impl_MaskDither.f k t626 bt631.1).bind fun bt635 => ((impl_BlockErrors.f k t626 bt635.1 1).bind fun bt639 => (if 0 < (t626.length : Int) then ((laws_b10Gcd.f k (t626.length : Int) ((rd_L1 t626 0).length : Int)).bind fun t644 => ((impl_BlockErrors.f k t626 bt635.1 t644).bind fun bt645 => (if bt631.2 = true then (if bt635.2 = true then (if bt639.2 = true then (if bt645.2 = true then (if (bt639.1.length : Int) = (t626.length : Int) then (laws_FnBlocks.j0 k bt635.1 bt639.1 bt645.1 ((wrap64 ((bt645.1.length : Int) * t644)) != (t626.length : Int)) t626) else (laws_FnBlocks.j0 k bt635.1 bt639.1 bt645.1 true t626)) else (laws_FnBlocks.j0 k bt635.1 bt639.1 bt645.1 true t626)) else (laws_FnBlocks.j0 k bt635.1 bt639.1 bt645.1 true t626)) else (laws_FnBlocks.j0 k bt635.1 bt639.1 bt645.1 true t626)) else (laws_FnBlocks.j0 k bt635.1 bt639.1 bt645.1 true t626)))) else (none))))))) = some r := by rw [if_neg (show ¬ (false = true) by decide)] at H; exact H
  clear H
  have H := H1
  clear H1
  replace H := Option.bind_eq_some_iff.mp H
  obtain ⟨t626, A50, H⟩ := H
  replace H : ((laws_b10At.f l1 0 3).bind fun t630 => ((impl_DoublingMask.f k t630).bind fun bt631 => ((impl_MaskDither.f k t626 bt631.1).bind fun bt635 => ((impl_BlockErrors.f k t626 bt635.1 1).bind fun bt639 => (if 0 < (t626.length : Int) then ((laws_b10Gcd.f k (t626.length : Int) ((rd_L1 t626 0).length : Int)).bind fun t644 => ((impl_BlockErrors.f k t626 bt635.1 t644).bind fun bt645 => (if bt631.2 = true then (if bt635.2 = true then (if bt639.2 = true then (if bt645.2 = true then (if (bt639.1.length : Int) = (t626.length : Int) then (laws_FnBlocks.j0 k bt635.1 bt639.1 bt645.1 ((wrap64 ((bt645.1.length : Int) * t644)) != (t626.length : Int)) t626) else (laws_FnBlocks.j0 k bt635.1 bt639.1 bt645.1 true t626)) else (laws_FnBlocks.j0 k bt635.1 bt639.1 bt645.1 true t626)) else (laws_FnBlocks.j0 k bt635.1 bt639.1 bt645.1 true t626)) else (laws_FnBlocks.j0 k bt635.1 bt639.1 bt645.1 true t626)) else (laws_FnBlocks.j0 k bt635.1 bt639.1 bt645.1 true t626)))) else (none)))))) = some r := H
  have A5 := Aside0.mk A50
  clear A50
  replace H := Option.bind_eq_some_iff.mp H
  obtain ⟨t630, A60, H⟩ := H
  replace H : ((impl_DoublingMask.f k t630).bind fun bt631 => ((impl_MaskDither.f k t626 bt631.1).bind fun bt635 => ((impl_BlockErrors.f k t626 bt635.1 1).bind fun bt639 => (if 0 < (t626.length : Int) then ((laws_b10Gcd.f k (t626.length : Int) ((rd_L1 t626 0).length : Int)).bind fun t644 => ((impl_BlockErrors.f k t626 bt635.1 t644).bind fun bt645 => (if bt631.2 = true then (if bt635.2 = true then (if bt639.2 = true then (if bt645.2 = true then (if (bt639.1.length : Int) = (t626.length : Int) then (laws_FnBlocks.j0 k bt635.1 bt639.1 bt645.1 ((wrap64 ((bt645.1.length : Int) * t644)) != (t626.length : Int)) t626) else (laws_FnBlocks.j0 k bt635.1 bt639.1 bt645.1 true t626)) else (laws_FnBlocks.j0 k bt635.1 bt639.1 bt645.1 true t626)) else (laws_FnBlocks.j0 k bt635.1 bt639.1 bt645.1 true t626)) else (laws_FnBlocks.j0 k bt635.1 bt639.1 bt645.1 true t626)) else (laws_FnBlocks.j0 k bt635.1 bt639.1 bt645.1 true t626)))) else (none))))) = some r := H
  have A6 := Aside0.mk A60
  clear A60
  replace H := Option.bind_eq_some_iff.mp H
  obtain ⟨⟨t631, t632⟩, A70, H⟩ := H
  replace H : ((impl_MaskDither.f k t626 t631).bind fun bt635 => ((impl_BlockErrors.f k t626 bt635.1 1).bind fun bt639 => (if 0 < (t626.length : Int) then ((laws_b10Gcd.f k (t626.length : Int) ((rd_L1 t626 0).length : Int)).bind fun t644 => ((impl_BlockErrors.f k t626 bt635.1 t644).bind fun bt645 => (if t632 = true then (if bt635.2 = true then (if bt639.2 = true then (if bt645.2 = true then (if (bt639.1.length : Int) = (t626.length : Int) then (laws_FnBlocks.j0 k bt635.1 bt639.1 bt645.1 ((wrap64 ((bt645.1.length : Int) * t644)) != (t626.length : Int)) t626) else (laws_FnBlocks.j0 k bt635.1 bt639.1 bt645.1 true t626)) else (laws_FnBlocks.j0 k bt635.1 bt639.1 bt645.1 true t626)) else (laws_FnBlocks.j0 k bt635.1 bt639.1 bt645.1 true t626)) else (laws_FnBlocks.j0 k bt635.1 bt639.1 bt645.1 true t626)) else (laws_FnBlocks.j0 k bt635.1 bt639.1 bt645.1 true t626)))) else (none)))) = some r := H
  have A7 := Aside0.mk A70
  clear A70
  replace H := Option.bind_eq_some_iff.mp H
  obtain ⟨⟨t635, t638⟩, A80, H⟩ := H
  replace H : ((impl_BlockErrors.f k t626 t635 1).bind fun bt639 => (if 0 < (t626.length : Int) then ((laws_b10Gcd.f k (t626.length : Int) ((rd_L1 t626 0).length : Int)).bind fun t644 => ((impl_BlockErrors.f k t626 t635 t644).bind fun bt645 => (if t632 = true then (if t638 = true then (if bt639.2 = true then (if bt645.2 = true then (if (bt639.1.length : Int) = (t626.length : Int) then (laws_FnBlocks.j0 k t635 bt639.1 bt645.1 ((wrap64 ((bt645.1.length : Int) * t644)) != (t626.length : Int)) t626) else (laws_FnBlocks.j0 k t635 bt639.1 bt645.1 true t626)) else (laws_FnBlocks.j0 k t635 bt639.1 bt645.1 true t626)) else (laws_FnBlocks.j0 k t635 bt639.1 bt645.1 true t626)) else (laws_FnBlocks.j0 k t635 bt639.1 bt645.1 true t626)) else (laws_FnBlocks.j0 k t635 bt639.1 bt645.1 true t626)))) else (none))) = some r := H
  have A8 := Aside0.mk A80
  clear A80
  replace H := Option.bind_eq_some_iff.mp H
  obtain ⟨⟨t639, t642⟩, A90, H⟩ := H
  replace H : (if 0 < (t626.length : Int) then ((laws_b10Gcd.f k (t626.length : Int) ((rd_L1 t626 0).length : Int)).bind fun t644 => ((impl_BlockErrors.f k t626 t635 t644).bind fun bt645 => (if t632 = true then (if t638 = true then (if t642 = true then (if bt645.2 = true then (if (t639.length : Int) = (t626.length : Int) then (laws_FnBlocks.j0 k t635 t639 bt645.1 ((wrap64 ((bt645.1.length : Int) * t644)) != (t626.length : Int)) t626) else (laws_FnBlocks.j0 k t635 t639 bt645.1 true t626)) else (laws_FnBlocks.j0 k t635 t639 bt645.1 true t626)) else (laws_FnBlocks.j0 k t635 t639 bt645.1 true t626)) else (laws_FnBlocks.j0 k t635 t639 bt645.1 true t626)) else (laws_FnBlocks.j0 k t635 t639 bt645.1 true t626)))) else (none)) = some r := H
  have A9 := Aside0.mk A90
  clear A90
  by_cases c10 : 0 < (t626.length : Int)
  ·rw [if_pos c10] at H
   have c10b0 : decide (0 < (t626.length : Int)) = true := decide_eq_true c10
   have c10b1 : decide (0 < t626.length) = true := decide_eq_true (by omega)
   clear c10
   replace H := Option.bind_eq_some_iff.mp H
   obtain ⟨t644, A110, H⟩ := H
   replace H : ((impl_BlockErrors.f k t626 t635 t644).bind fun bt645 => (if t632 = true then (if t638 = true then (if t642 = true then (if bt645.2 = true then (if (t639.length : Int) = (t626.length : Int) then (laws_FnBlocks.j0 k t635 t639 bt645.1 ((wrap64 ((bt645.1.length : Int) * t644)) != (t626.length : Int)) t626) else (laws_FnBlocks.j0 k t635 t639 bt645.1 true t626)) else (laws_FnBlocks.j0 k t635 t639 bt645.1 true t626)) else (laws_FnBlocks.j0 k t635 t639 bt645.1 true t626)) else (laws_FnBlocks.j0 k t635 t639 bt645.1 true t626)) else (laws_FnBlocks.j0 k t635 t639 bt645.1 true t626))) = some r := H
   have A11 := Aside0.mk A110
   clear A110
   replace H := Option.bind_eq_some_iff.mp H
   obtain ⟨⟨t645, t648⟩, A120, H⟩ := H
   replace H : (if t632 = true then (if t638 = true then (if t642 = true then (if t648 = true then (if (t639.length : Int) = (t626.length : Int) then (laws_FnBlocks.j0 k t635 t639 t645 ((wrap64 ((t645.length : Int) * t644)) != (t626.length : Int)) t626) else (laws_FnBlocks.j0 k t635 t639 t645 true t626)) else (laws_FnBlocks.j0 k t635 t639 t645 true t626)) else (laws_FnBlocks.j0 k t635 t639 t645 true t626)) else (laws_FnBlocks.j0 k t635 t639 t645 true t626)) else (laws_FnBlocks.j0 k t635 t639 t645 true t626)) = some r := H
   have A12 := Aside0.mk A120
   clear A120
   have HC13 := Aside0.mk H
   clear H
   go_enter Try.func12, Try.ntmps12
   go_upto_region 9 with (first | (go_at_call 22; (with_reducible refine (laws_b10Long.calls _ _ l0 _ _ l1 false _ ?side1 ?side2 ?side3 ?side4 A3.out).mono ?_); (case side1 => repeat (first | exact HR0.out | (with_reducible refine Kd.C_alloc ?_ _) | (with_reducible refine Kd.C_drewN ?_ _) | (with_reducible refine Kd.C_drew ?_))); (case side2 => exact HC0.out); (case side3 => repeat (first | exact HR1.out | (with_reducible refine Kd.C_alloc ?_ _) | (with_reducible refine Kd.C_drewN ?_ _) | (with_reducible refine Kd.C_drew ?_))); (case side4 => exact HC1.out); rintro e w' ⟨rfl, ⟨nd, rfl⟩⟩; (try first | exact ⟨rfl, _, World.drewN_drewN _ _ _⟩ | exact ⟨rfl, _, Eq.trans (World.drewN_drewN _ _ _) (congrArg (World.drewN _) (Nat.add_assoc _ _ _))⟩)) | (go_at_call 26; (with_reducible refine (spec_B10Picture.calls k _ _ l0 t626 _ ?side1 ?side2 A5.out).mono ?_); (case side1 => repeat (first | exact HR0.out | (with_reducible refine Kd.C_alloc ?_ _) | (with_reducible refine Kd.C_drewN ?_ _) | (with_reducible refine Kd.C_drew ?_))); (case side2 => exact HC0.out); rintro e w14 ⟨v627, rfl, ho0, hb⟩; have n0_ := Aside0.mk (Kd.S_lower ho0 (below_size (by repeat (first | (with_reducible first | exact HB.out | apply below_alloc | apply pw_below_drewN | apply below_drew1) | exact HB.out)))); have n1_ := Aside0.mk (below_step (by repeat (first | (with_reducible first | exact HB.out | apply below_alloc | apply pw_below_drewN | apply below_drew1) | exact HB.out)) hb); clear HB; have HO628 := n0_; have HB := n1_; clear n0_ n1_; (try clear hb); (try clear hb2); (try clear hk); (try clear hi); (try clear ho0)) | ((with_reducible refine gate_dst (N := 5) rfl ?_); (try (refine gate_guard (by rfl) ?_; dsimp only)); refine box_event ?hg (N := 5) ?hd (cs := #[.slice none 0 0]) (t := 33) ?hr ?_; (case hd => rfl); (case hg => rfl); (case hr => first | (go_simp; done) | (go_simp; rfl)); intro gb629 hg w15 hbox hb; have n0_ := Aside0.mk (Kd.S_below (by (with_reducible repeat (first | apply Kd.S_alloc | apply Kd.S_drewN | apply Kd.S_drew)); exact HO628.out) hb); have n1_ := Aside0.mk (below_step (by repeat (first | (with_reducible first | exact HB.out | apply below_alloc | apply pw_below_drewN | apply below_drew1) | exact HB.out)) hb); have n2_ := Aside0.mk (hbox); have n3_ := Aside0.mk ((by rw [hg]; exact (below_size (by repeat (first | (with_reducible first | exact HB.out | apply below_alloc | apply pw_below_drewN | apply below_drew1) | exact HB.out))) : w.heap.size ≤ gb629)); have n4_ := Aside0.mk ((by rw [hg]; exact (below_size (by repeat (first | (with_reducible first | exact HB.out | apply below_alloc | apply pw_below_drewN | apply below_drew1) | exact HB.out))) : w.heap.size ≤ gb629)); clear HO628; clear HB; have HO628 := n0_; have HB := n1_; have BK629 := n2_; have GW629 := n3_; have GE629 := n4_; clear n0_ n1_ n2_ n3_ n4_; clear hb hbox hg; obtain ⟨Ao16, co16, eo16⟩ := Kd.S_slice HO628.out; subst eo16; have hcz17_0 : w15.cell? ⟨gb629, 0, none⟩ = some (.slice none 0 0) := (blk_cell BK629.out 0).trans rfl; have hfz17_0 := blk_frozen BK629.out 0) | (go_at_call 23; (with_reducible refine (laws_b10At.calls _ _ l1 0 3 t630 _ ?side1 ?side2 A6.out).mono ?_); (case side1 => exact Kd.C_below HR1.out (by repeat (first | (with_reducible first | exact HB.out | apply below_alloc | apply pw_below_drewN | apply below_drew1 | refine below_set ?_ GE629.out) | exact HB.out))); (case side2 => exact HC1.out); rintro e w' ⟨rfl, ⟨nd, rfl⟩⟩; (try first | exact ⟨rfl, _, World.drewN_drewN _ _ _⟩ | exact ⟨rfl, _, Eq.trans (World.drewN_drewN _ _ _) (congrArg (World.drewN _) (Nat.add_assoc _ _ _))⟩)) | (go_at_call 16; (with_reducible refine (impl_DoublingMask.calls k t630 t631 t632 _ A7.out).mono ?_); rintro e w18 ⟨v633, rfl, ho0, hb⟩; have n0_ := Aside0.mk (Kd.S_elder' (by (with_reducible repeat (first | apply Kd.S_alloc | apply Kd.S_drewN | apply Kd.S_drew)); exact (Kd.S_mono (Kd.S_far (p := ⟨gb629, 0, none⟩) (Kd.S_types HO628.out BK629.out (by decide)) (fun _ hk => hk.2) (.slice Ao16 t626.length co16)) (fun _ h_ => h_.1))) (Kd.S_base ho0) hb); have n1_ := Aside0.mk (Kd.S_lower (Kd.S_new' ho0 (Kd.S_lt (by (with_reducible repeat (first | apply Kd.S_alloc | apply Kd.S_drewN | apply Kd.S_drew)); exact (Kd.S_mono (Kd.S_far (p := ⟨gb629, 0, none⟩) (Kd.S_types HO628.out BK629.out (by decide)) (fun _ hk => hk.2) (.slice Ao16 t626.length co16)) (fun _ h_ => h_.1))))) (below_size (by repeat (first | (with_reducible first | exact HB.out | apply below_alloc | apply pw_below_drewN | apply below_drew1 | refine below_set ?_ GE629.out) | exact HB.out)))); have n2_ := Aside0.mk (blk_below (g := gb629) (o := .cells #[.slice Ao16 t626.length co16] 33 (0, 0)) (by (with_reducible repeat (first | refine blk_drewN ?_ _ | refine blk_drew ?_ | refine blk_alloc ?_ _)); refine blk_put (cs := #[.slice none 0 0]) ?_ 0 _ rfl; (with_reducible repeat (first | refine blk_drewN ?_ _ | refine blk_drew ?_ | refine blk_alloc ?_ _)); exact BK629.out) hb); have n3_ := Aside0.mk (below_step (by repeat (first | (with_reducible first | exact HB.out | apply below_alloc | apply pw_below_drewN | apply below_drew1 | refine below_set ?_ GE629.out) | exact HB.out)) hb); clear HO628; clear BK629; clear HB; have HO628 := n0_; have HO634 := n1_; have BK629 := n2_; have HB := n3_; clear n0_ n1_ n2_ n3_; (try clear hb); (try clear hb2); (try clear hk); (try clear hi); (try clear ho0); have hcz19_0 : w18.cell? ⟨gb629, 0, none⟩ = some (.slice Ao16 t626.length co16) := (blk_cell BK629.out 0).trans rfl; have hfz19_0 := blk_frozen BK629.out 0; obtain ⟨Ao20, co20, eo20⟩ := Kd.S_slice HO634.out; subst eo20) | (go_at_call 41; (with_reducible refine (impl_MaskDither.calls k _ _ t626 _ _ t631 t635 t638 _ ?side1 ?side2 ?side3 ?side4 A8.out).mono ?_); (case side1 => repeat (first | exact (Kd.S_reads' HO628.out).2.2 | (with_reducible refine Kd.C_alloc ?_ _) | (with_reducible refine Kd.C_drewN ?_ _) | (with_reducible refine Kd.C_drew ?_))); (case side2 => exact (Kd.S_reads' HO628.out).2.1); (case side3 => repeat (first | exact (Kd.S_reads' HO634.out).2.2 | (with_reducible refine Kd.C_alloc ?_ _) | (with_reducible refine Kd.C_drewN ?_ _) | (with_reducible refine Kd.C_drew ?_))); (case side4 => exact (Kd.S_reads' HO634.out).2.1); rintro e w21 ⟨v636, rfl, ho0, hb⟩; have n0_ := Aside0.mk (Kd.S_elder' (by (with_reducible repeat (first | apply Kd.S_alloc | apply Kd.S_drewN | apply Kd.S_drew)); exact HO628.out) (Kd.S_base ho0) hb); have n1_ := Aside0.mk (Kd.S_elder' (by (with_reducible repeat (first | apply Kd.S_alloc | apply Kd.S_drewN | apply Kd.S_drew)); exact HO634.out) (Kd.S_base ho0) hb); have n2_ := Aside0.mk (Kd.S_lower (Kd.S_new' (Kd.S_new' ho0 (Kd.S_lt (by (with_reducible repeat (first | apply Kd.S_alloc | apply Kd.S_drewN | apply Kd.S_drew)); exact HO628.out))) (Kd.S_lt (by (with_reducible repeat (first | apply Kd.S_alloc | apply Kd.S_drewN | apply Kd.S_drew)); exact HO634.out))) (below_size (by repeat (first | (with_reducible first | exact HB.out | apply below_alloc | apply pw_below_drewN | apply below_drew1 | refine below_set ?_ GE629.out) | exact HB.out)))); have n3_ := Aside0.mk (blk_below (g := gb629) (o := .cells #[.slice Ao16 t626.length co16] 33 (0, 0)) (by (with_reducible repeat (first | refine blk_drewN ?_ _ | refine blk_drew ?_ | refine blk_alloc ?_ _)); exact BK629.out) hb); have n4_ := Aside0.mk (below_step (by repeat (first | (with_reducible first | exact HB.out | apply below_alloc | apply pw_below_drewN | apply below_drew1 | refine below_set ?_ GE629.out) | exact HB.out)) hb); clear HO628; clear HO634; clear BK629; clear HB; have HO628 := n0_; have HO634 := n1_; have HO637 := n2_; have BK629 := n3_; have HB := n4_; clear n0_ n1_ n2_ n3_ n4_; (try clear hb); (try clear hb2); (try clear hk); (try clear hi); (try clear ho0); have hcz22_0 : w21.cell? ⟨gb629, 0, none⟩ = some (.slice Ao16 t626.length co16) := (blk_cell BK629.out 0).trans rfl; have hfz22_0 := blk_frozen BK629.out 0; obtain ⟨Ao23, co23, eo23⟩ := Kd.S_slice HO637.out; subst eo23) | (go_at_call 44; (with_reducible refine (impl_BlockErrors.calls k _ _ t626 _ _ t635 1 t639 t642 _ ?side1 ?side2 ?side3 ?side4 A9.out).mono ?_); (case side1 => repeat (first | exact (Kd.S_reads' HO628.out).2.2 | (with_reducible refine Kd.C_alloc ?_ _) | (with_reducible refine Kd.C_drewN ?_ _) | (with_reducible refine Kd.C_drew ?_))); (case side2 => exact (Kd.S_reads' HO628.out).2.1); (case side3 => repeat (first | exact (Kd.S_reads' HO637.out).2.2 | (with_reducible refine Kd.C_alloc ?_ _) | (with_reducible refine Kd.C_drewN ?_ _) | (with_reducible refine Kd.C_drew ?_))); (case side4 => exact (Kd.S_reads' HO637.out).2.1); rintro e w24 ⟨v640, rfl, ho0, hb⟩; have n0_ := Aside0.mk (Kd.S_elder' (by (with_reducible repeat (first | apply Kd.S_alloc | apply Kd.S_drewN | apply Kd.S_drew)); exact HO628.out) (Kd.S_base ho0) hb); have n1_ := Aside0.mk (Kd.S_elder' (by (with_reducible repeat (first | apply Kd.S_alloc | apply Kd.S_drewN | apply Kd.S_drew)); exact HO634.out) (Kd.S_base ho0) hb); have n2_ := Aside0.mk (Kd.S_elder' (by (with_reducible repeat (first | apply Kd.S_alloc | apply Kd.S_drewN | apply Kd.S_drew)); exact HO637.out) (Kd.S_base ho0) hb); have n3_ := Aside0.mk (Kd.S_lower (Kd.S_new' (Kd.S_new' (Kd.S_new' ho0 (Kd.S_lt (by (with_reducible repeat (first | apply Kd.S_alloc | apply Kd.S_drewN | apply Kd.S_drew)); exact HO628.out))) (Kd.S_lt (by (with_reducible repeat (first | apply Kd.S_alloc | apply Kd.S_drewN | apply Kd.S_drew)); exact HO634.out))) (Kd.S_lt (by (with_reducible repeat (first | apply Kd.S_alloc | apply Kd.S_drewN | apply Kd.S_drew)); exact HO637.out))) (below_size (by repeat (first | (with_reducible first | exact HB.out | apply below_alloc | apply pw_below_drewN | apply below_drew1 | refine below_set ?_ GE629.out) | exact HB.out)))); have n4_ := Aside0.mk (blk_below (g := gb629) (o := .cells #[.slice Ao16 t626.length co16] 33 (0, 0)) (by (with_reducible repeat (first | refine blk_drewN ?_ _ | refine blk_drew ?_ | refine blk_alloc ?_ _)); exact BK629.out) hb); have n5_ := Aside0.mk (below_step (by repeat (first | (with_reducible first | exact HB.out | apply below_alloc | apply pw_below_drewN | apply below_drew1 | refine below_set ?_ GE629.out) | exact HB.out)) hb); clear HO628; clear HO634; clear HO637; clear BK629; clear HB; have HO628 := n0_; have HO634 := n1_; have HO637 := n2_; have HO641 := n3_; have BK629 := n4_; have HB := n5_; clear n0_ n1_ n2_ n3_ n4_ n5_; (try clear hb); (try clear hb2); (try clear hk); (try clear hi); (try clear ho0); have hcz25_0 : w24.cell? ⟨gb629, 0, none⟩ = some (.slice Ao16 t626.length co16) := (blk_cell BK629.out 0).trans rfl; have hfz25_0 := blk_frozen BK629.out 0; have p643 : 0 ≤ (0 : Int) := (by omega); have q643 : 0 < (t626.length : Int) := of_decide_eq_true (by first | (with_reducible assumption) | assumption); obtain ⟨ad643, A643_0, c643_0, e643, hx643_0, hl643_0, hi643_0⟩ := at_L1 (Kd.S_reads' HO628.out).2.2 0 p643 q643; cases e643; obtain ⟨ce643, hce643, hMe643, hcc643⟩ := Kd.S_get HO628.out [] 0 p643 (by first | exact q643 | exact of_decide_eq_true (by first | (with_reducible assumption) | assumption) | (have e_ := (Kd.S_reads' HO628.out).1; omega)); obtain ⟨ve643_0, rfl, ge643_0⟩ := hMe643; have hv643_0 := hcc643 0 _ rfl; rw [Nat.add_zero, show ((Kd.slice 2 (Kd.int .i64))).sz = 1 from rfl, Nat.mul_one] at hv643_0; replace hv643_0 := Option.some.inj (hv643_0.symm.trans hx643_0); rw [hv643_0] at ge643_0; have HL643_0 := Aside0.mk (show Kd.R (Kd.int .i64) 2 _ _ _ _ (rd_L1 t626 0) from ge643_0); clear hv643_0 ge643_0; clear hcc643 hce643; have qi643 : (0 < t626.length) = True := eq_true (by omega); (try rw [show ((0 : Int)).toNat = 0 from rfl] at hx643_0); (try rw [Addr.add_zero'] at hx643_0); have HR643_0 := Aside0.mk hi643_0; have HC643_0 := Aside0.mk hl643_0; clear hi643_0 hl643_0; replace p643 := eq_true p643; replace q643 := eq_true q643) | (go_at_call 45; (with_reducible refine (laws_b10Gcd.calls k (t626.length : Int) ((rd_L1 t626 0).length : Int) t644 _ A11.out).mono ?_); rintro e w' ⟨rfl, ⟨nd, rfl⟩⟩; (try first | exact ⟨rfl, _, World.drewN_drewN _ _ _⟩ | exact ⟨rfl, _, Eq.trans (World.drewN_drewN _ _ _) (congrArg (World.drewN _) (Nat.add_assoc _ _ _))⟩)) | (go_at_call 44; (with_reducible refine (impl_BlockErrors.calls k _ _ t626 _ _ t635 t644 t645 t648 _ ?side1 ?side2 ?side3 ?side4 A12.out).mono ?_); (case side1 => repeat (first | exact (Kd.S_reads' HO628.out).2.2 | (with_reducible refine Kd.C_alloc ?_ _) | (with_reducible refine Kd.C_drewN ?_ _) | (with_reducible refine Kd.C_drew ?_))); (case side2 => exact (Kd.S_reads' HO628.out).2.1); (case side3 => repeat (first | exact (Kd.S_reads' HO637.out).2.2 | (with_reducible refine Kd.C_alloc ?_ _) | (with_reducible refine Kd.C_drewN ?_ _) | (with_reducible refine Kd.C_drew ?_))); (case side4 => exact (Kd.S_reads' HO637.out).2.1); rintro e w26 ⟨v646, rfl, ho0, hb⟩; have n0_ := Aside0.mk (Kd.S_elder' (by (with_reducible repeat (first | apply Kd.S_alloc | apply Kd.S_drewN | apply Kd.S_drew)); exact HO628.out) (Kd.S_base ho0) hb); have n1_ := Aside0.mk (Kd.S_elder' (by (with_reducible repeat (first | apply Kd.S_alloc | apply Kd.S_drewN | apply Kd.S_drew)); exact HO634.out) (Kd.S_base ho0) hb); have n2_ := Aside0.mk (Kd.S_elder' (by (with_reducible repeat (first | apply Kd.S_alloc | apply Kd.S_drewN | apply Kd.S_drew)); exact HO637.out) (Kd.S_base ho0) hb); have n3_ := Aside0.mk (Kd.S_elder' (by (with_reducible repeat (first | apply Kd.S_alloc | apply Kd.S_drewN | apply Kd.S_drew)); exact HO641.out) (Kd.S_base ho0) hb); have n4_ := Aside0.mk (Kd.R_below (by (with_reducible repeat (first | apply Kd.R_alloc | apply Kd.R_drewN | apply Kd.R_drew)); exact HL643_0.out) hb); have n5_ := Aside0.mk (Kd.S_lower (Kd.S_new' (Kd.S_new' (Kd.S_new' (Kd.S_new' (Kd.S_new' ho0 (Kd.S_lt (by (with_reducible repeat (first | apply Kd.S_alloc | apply Kd.S_drewN | apply Kd.S_drew)); exact HO628.out))) (Kd.S_lt (by (with_reducible repeat (first | apply Kd.S_alloc | apply Kd.S_drewN | apply Kd.S_drew)); exact HO634.out))) (Kd.S_lt (by (with_reducible repeat (first | apply Kd.S_alloc | apply Kd.S_drewN | apply Kd.S_drew)); exact HO637.out))) (Kd.S_lt (by (with_reducible repeat (first | apply Kd.S_alloc | apply Kd.S_drewN | apply Kd.S_drew)); exact HO641.out))) (Kd.R_lt (by (with_reducible repeat (first | apply Kd.R_alloc | apply Kd.R_drewN | apply Kd.R_drew)); exact HL643_0.out))) (below_size (by repeat (first | (with_reducible first | exact HB.out | apply below_alloc | apply pw_below_drewN | apply below_drew1 | refine below_set ?_ GE629.out) | exact HB.out)))); have n6_ := Aside0.mk (blk_below (g := gb629) (o := .cells #[.slice (some ad643) t626.length co16] 33 (0, 0)) (by (with_reducible repeat (first | refine blk_drewN ?_ _ | refine blk_drew ?_ | refine blk_alloc ?_ _)); exact BK629.out) hb); have n7_ := Aside0.mk (Kd.C_below (by repeat (first | (with_reducible exact HR643_0.out) | (with_reducible refine Kd.C_alloc ?_ _) | (with_reducible refine Kd.C_drewN ?_ _) | (with_reducible refine Kd.C_drew ?_) | exact HR643_0.out)) hb); have n8_ := Aside0.mk (below_step (by repeat (first | (with_reducible first | exact HB.out | apply below_alloc | apply pw_below_drewN | apply below_drew1 | refine below_set ?_ GE629.out) | exact HB.out)) hb); clear HO628; clear HO634; clear HO637; clear HO641; clear HL643_0; clear BK629; clear HR643_0; clear HB; have HO628 := n0_; have HO634 := n1_; have HO637 := n2_; have HO641 := n3_; have HL643_0 := n4_; have HO647 := n5_; have BK629 := n6_; have HR643_0 := n7_; have HB := n8_; clear n0_ n1_ n2_ n3_ n4_ n5_ n6_ n7_ n8_; (try clear hb); (try clear hb2); (try clear hk); (try clear hi); (try clear ho0)))
   repeat (go_quiet (first | (go_at_call 22; (with_reducible refine (laws_b10Long.calls _ _ l0 _ _ l1 false _ ?side1 ?side2 ?side3 ?side4 A3.out).mono ?_); (case side1 => repeat (first | exact HR0.out | (with_reducible refine Kd.C_alloc ?_ _) | (with_reducible refine Kd.C_drewN ?_ _) | (with_reducible refine Kd.C_drew ?_))); (case side2 => exact HC0.out); (case side3 => repeat (first | exact HR1.out | (with_reducible refine Kd.C_alloc ?_ _) | (with_reducible refine Kd.C_drewN ?_ _) | (with_reducible refine Kd.C_drew ?_))); (case side4 => exact HC1.out); rintro e w' ⟨rfl, ⟨nd, rfl⟩⟩; (try first | exact ⟨rfl, _, World.drewN_drewN _ _ _⟩ | exact ⟨rfl, _, Eq.trans (World.drewN_drewN _ _ _) (congrArg (World.drewN _) (Nat.add_assoc _ _ _))⟩)) | (go_at_call 26; (with_reducible refine (spec_B10Picture.calls k _ _ l0 t626 _ ?side1 ?side2 A5.out).mono ?_); (case side1 => repeat (first | exact HR0.out | (with_reducible refine Kd.C_alloc ?_ _) | (with_reducible refine Kd.C_drewN ?_ _) | (with_reducible refine Kd.C_drew ?_))); (case side2 => exact HC0.out); rintro e w14 ⟨v627, rfl, ho0, hb⟩; have n0_ := Aside0.mk (Kd.S_lower ho0 (below_size (by repeat (first | (with_reducible first | exact HB.out | apply below_alloc | apply pw_below_drewN | apply below_drew1) | exact HB.out)))); have n1_ := Aside0.mk (below_step (by repeat (first | (with_reducible first | exact HB.out | apply below_alloc | apply pw_below_drewN | apply below_drew1) | exact HB.out)) hb); clear HB; have HO628 := n0_; have HB := n1_; clear n0_ n1_; (try clear hb); (try clear hb2); (try clear hk); (try clear hi); (try clear ho0)) | ((with_reducible refine gate_dst (N := 5) rfl ?_); (try (refine gate_guard (by rfl) ?_; dsimp only)); refine box_event ?hg (N := 5) ?hd (cs := #[.slice none 0 0]) (t := 33) ?hr ?_; (case hd => rfl); (case hg => rfl); (case hr => first | (go_simp; done) | (go_simp; rfl)); intro gb629 hg w15 hbox hb; have n0_ := Aside0.mk (Kd.S_below (by (with_reducible repeat (first | apply Kd.S_alloc | apply Kd.S_drewN | apply Kd.S_drew)); exact HO628.out) hb); have n1_ := Aside0.mk (below_step (by repeat (first | (with_reducible first | exact HB.out | apply below_alloc | apply pw_below_drewN | apply below_drew1) | exact HB.out)) hb); have n2_ := Aside0.mk (hbox); have n3_ := Aside0.mk ((by rw [hg]; exact (below_size (by repeat (first | (with_reducible first | exact HB.out | apply below_alloc | apply pw_below_drewN | apply below_drew1) | exact HB.out))) : w.heap.size ≤ gb629)); have n4_ := Aside0.mk ((by rw [hg]; exact (below_size (by repeat (first | (with_reducible first | exact HB.out | apply below_alloc | apply pw_below_drewN | apply below_drew1) | exact HB.out))) : w.heap.size ≤ gb629)); clear HO628; clear HB; have HO628 := n0_; have HB := n1_; have BK629 := n2_; have GW629 := n3_; have GE629 := n4_; clear n0_ n1_ n2_ n3_ n4_; clear hb hbox hg; obtain ⟨Ao16, co16, eo16⟩ := Kd.S_slice HO628.out; subst eo16; have hcz17_0 : w15.cell? ⟨gb629, 0, none⟩ = some (.slice none 0 0) := (blk_cell BK629.out 0).trans rfl; have hfz17_0 := blk_frozen BK629.out 0) | (go_at_call 23; (with_reducible refine (laws_b10At.calls _ _ l1 0 3 t630 _ ?side1 ?side2 A6.out).mono ?_); (case side1 => exact Kd.C_below HR1.out (by repeat (first | (with_reducible first | exact HB.out | apply below_alloc | apply pw_below_drewN | apply below_drew1 | refine below_set ?_ GE629.out) | exact HB.out))); (case side2 => exact HC1.out); rintro e w' ⟨rfl, ⟨nd, rfl⟩⟩; (try first | exact ⟨rfl, _, World.drewN_drewN _ _ _⟩ | exact ⟨rfl, _, Eq.trans (World.drewN_drewN _ _ _) (congrArg (World.drewN _) (Nat.add_assoc _ _ _))⟩)) | (go_at_call 16; (with_reducible refine (impl_DoublingMask.calls k t630 t631 t632 _ A7.out).mono ?_); rintro e w18 ⟨v633, rfl, ho0, hb⟩; have n0_ := Aside0.mk (Kd.S_elder' (by (with_reducible repeat (first | apply Kd.S_alloc | apply Kd.S_drewN | apply Kd.S_drew)); exact (Kd.S_mono (Kd.S_far (p := ⟨gb629, 0, none⟩) (Kd.S_types HO628.out BK629.out (by decide)) (fun _ hk => hk.2) (.slice Ao16 t626.length co16)) (fun _ h_ => h_.1))) (Kd.S_base ho0) hb); have n1_ := Aside0.mk (Kd.S_lower (Kd.S_new' ho0 (Kd.S_lt (by (with_reducible repeat (first | apply Kd.S_alloc | apply Kd.S_drewN | apply Kd.S_drew)); exact (Kd.S_mono (Kd.S_far (p := ⟨gb629, 0, none⟩) (Kd.S_types HO628.out BK629.out (by decide)) (fun _ hk => hk.2) (.slice Ao16 t626.length co16)) (fun _ h_ => h_.1))))) (below_size (by repeat (first | (with_reducible first | exact HB.out | apply below_alloc | apply pw_below_drewN | apply below_drew1 | refine below_set ?_ GE629.out) | exact HB.out)))); have n2_ := Aside0.mk (blk_below (g := gb629) (o := .cells #[.slice Ao16 t626.length co16] 33 (0, 0)) (by (with_reducible repeat (first | refine blk_drewN ?_ _ | refine blk_drew ?_ | refine blk_alloc ?_ _)); refine blk_put (cs := #[.slice none 0 0]) ?_ 0 _ rfl; (with_reducible repeat (first | refine blk_drewN ?_ _ | refine blk_drew ?_ | refine blk_alloc ?_ _)); exact BK629.out) hb); have n3_ := Aside0.mk (below_step (by repeat (first | (with_reducible first | exact HB.out | apply below_alloc | apply pw_below_drewN | apply below_drew1 | refine below_set ?_ GE629.out) | exact HB.out)) hb); clear HO628; clear BK629; clear HB; have HO628 := n0_; have HO634 := n1_; have BK629 := n2_; have HB := n3_; clear n0_ n1_ n2_ n3_; (try clear hb); (try clear hb2); (try clear hk); (try clear hi); (try clear ho0); have hcz19_0 : w18.cell? ⟨gb629, 0, none⟩ = some (.slice Ao16 t626.length co16) := (blk_cell BK629.out 0).trans rfl; have hfz19_0 := blk_frozen BK629.out 0; obtain ⟨Ao20, co20, eo20⟩ := Kd.S_slice HO634.out; subst eo20) | (go_at_call 41; (with_reducible refine (impl_MaskDither.calls k _ _ t626 _ _ t631 t635 t638 _ ?side1 ?side2 ?side3 ?side4 A8.out).mono ?_); (case side1 => repeat (first | exact (Kd.S_reads' HO628.out).2.2 | (with_reducible refine Kd.C_alloc ?_ _) | (with_reducible refine Kd.C_drewN ?_ _) | (with_reducible refine Kd.C_drew ?_))); (case side2 => exact (Kd.S_reads' HO628.out).2.1); (case side3 => repeat (first | exact (Kd.S_reads' HO634.out).2.2 | (with_reducible refine Kd.C_alloc ?_ _) | (with_reducible refine Kd.C_drewN ?_ _) | (with_reducible refine Kd.C_drew ?_))); (case side4 => exact (Kd.S_reads' HO634.out).2.1); rintro e w21 ⟨v636, rfl, ho0, hb⟩; have n0_ := Aside0.mk (Kd.S_elder' (by (with_reducible repeat (first | apply Kd.S_alloc | apply Kd.S_drewN | apply Kd.S_drew)); exact HO628.out) (Kd.S_base ho0) hb); have n1_ := Aside0.mk (Kd.S_elder' (by (with_reducible repeat (first | apply Kd.S_alloc | apply Kd.S_drewN | apply Kd.S_drew)); exact HO634.out) (Kd.S_base ho0) hb); have n2_ := Aside0.mk (Kd.S_lower (Kd.S_new' (Kd.S_new' ho0 (Kd.S_lt (by (with_reducible repeat (first | apply Kd.S_alloc | apply Kd.S_drewN | apply Kd.S_drew)); exact HO628.out))) (Kd.S_lt (by (with_reducible repeat (first | apply Kd.S_alloc | apply Kd.S_drewN | apply Kd.S_drew)); exact HO634.out))) (below_size (by repeat (first | (with_reducible first | exact HB.out | apply below_alloc | apply pw_below_drewN | apply below_drew1 | refine below_set ?_ GE629.out) | exact HB.out)))); have n3_ := Aside0.mk (blk_below (g := gb629) (o := .cells #[.slice Ao16 t626.length co16] 33 (0, 0)) (by (with_reducible repeat (first | refine blk_drewN ?_ _ | refine blk_drew ?_ | refine blk_alloc ?_ _)); exact BK629.out) hb); have n4_ := Aside0.mk (below_step (by repeat (first | (with_reducible first | exact HB.out | apply below_alloc | apply pw_below_drewN | apply below_drew1 | refine below_set ?_ GE629.out) | exact HB.out)) hb); clear HO628; clear HO634; clear BK629; clear HB; have HO628 := n0_; have HO634 := n1_; have HO637 := n2_; have BK629 := n3_; have HB := n4_; clear n0_ n1_ n2_ n3_ n4_; (try clear hb); (try clear hb2); (try clear hk); (try clear hi); (try clear ho0); have hcz22_0 : w21.cell? ⟨gb629, 0, none⟩ = some (.slice Ao16 t626.length co16) := (blk_cell BK629.out 0).trans rfl; have hfz22_0 := blk_frozen BK629.out 0; obtain ⟨Ao23, co23, eo23⟩ := Kd.S_slice HO637.out; subst eo23) | (go_at_call 44; (with_reducible refine (impl_BlockErrors.calls k _ _ t626 _ _ t635 1 t639 t642 _ ?side1 ?side2 ?side3 ?side4 A9.out).mono ?_); (case side1 => repeat (first | exact (Kd.S_reads' HO628.out).2.2 | (with_reducible refine Kd.C_alloc ?_ _) | (with_reducible refine Kd.C_drewN ?_ _) | (with_reducible refine Kd.C_drew ?_))); (case side2 => exact (Kd.S_reads' HO628.out).2.1); (case side3 => repeat (first | exact (Kd.S_reads' HO637.out).2.2 | (with_reducible refine Kd.C_alloc ?_ _) | (with_reducible refine Kd.C_drewN ?_ _) | (with_reducible refine Kd.C_drew ?_))); (case side4 => exact (Kd.S_reads' HO637.out).2.1); rintro e w24 ⟨v640, rfl, ho0, hb⟩; have n0_ := Aside0.mk (Kd.S_elder' (by (with_reducible repeat (first | apply Kd.S_alloc | apply Kd.S_drewN | apply Kd.S_drew)); exact HO628.out) (Kd.S_base ho0) hb); have n1_ := Aside0.mk (Kd.S_elder' (by (with_reducible repeat (first | apply Kd.S_alloc | apply Kd.S_drewN | apply Kd.S_drew)); exact HO634.out) (Kd.S_base ho0) hb); have n2_ := Aside0.mk (Kd.S_elder' (by (with_reducible repeat (first | apply Kd.S_alloc | apply Kd.S_drewN | apply Kd.S_drew)); exact HO637.out) (Kd.S_base ho0) hb); have n3_ := Aside0.mk (Kd.S_lower (Kd.S_new' (Kd.S_new' (Kd.S_new' ho0 (Kd.S_lt (by (with_reducible repeat (first | apply Kd.S_alloc | apply Kd.S_drewN | apply Kd.S_drew)); exact HO628.out))) (Kd.S_lt (by (with_reducible repeat (first | apply Kd.S_alloc | apply Kd.S_drewN | apply Kd.S_drew)); exact HO634.out))) (Kd.S_lt (by (with_reducible repeat (first | apply Kd.S_alloc | apply Kd.S_drewN | apply Kd.S_drew)); exact HO637.out))) (below_size (by repeat (first | (with_reducible first | exact HB.out | apply below_alloc | apply pw_below_drewN | apply below_drew1 | refine below_set ?_ GE629.out) | exact HB.out)))); have n4_ := Aside0.mk (blk_below (g := gb629) (o := .cells #[.slice Ao16 t626.length co16] 33 (0, 0)) (by (with_reducible repeat (first | refine blk_drewN ?_ _ | refine blk_drew ?_ | refine blk_alloc ?_ _)); exact BK629.out) hb); have n5_ := Aside0.mk (below_step (by repeat (first | (with_reducible first | exact HB.out | apply below_alloc | apply pw_below_drewN | apply below_drew1 | refine below_set ?_ GE629.out) | exact HB.out)) hb); clear HO628; clear HO634; clear HO637; clear BK629; clear HB; have HO628 := n0_; have HO634 := n1_; have HO637 := n2_; have HO641 := n3_; have BK629 := n4_; have HB := n5_; clear n0_ n1_ n2_ n3_ n4_ n5_; (try clear hb); (try clear hb2); (try clear hk); (try clear hi); (try clear ho0); have hcz25_0 : w24.cell? ⟨gb629, 0, none⟩ = some (.slice Ao16 t626.length co16) := (blk_cell BK629.out 0).trans rfl; have hfz25_0 := blk_frozen BK629.out 0; have p643 : 0 ≤ (0 : Int) := (by omega); have q643 : 0 < (t626.length : Int) := of_decide_eq_true (by first | (with_reducible assumption) | assumption); obtain ⟨ad643, A643_0, c643_0, e643, hx643_0, hl643_0, hi643_0⟩ := at_L1 (Kd.S_reads' HO628.out).2.2 0 p643 q643; cases e643; obtain ⟨ce643, hce643, hMe643, hcc643⟩ := Kd.S_get HO628.out [] 0 p643 (by first | exact q643 | exact of_decide_eq_true (by first | (with_reducible assumption) | assumption) | (have e_ := (Kd.S_reads' HO628.out).1; omega)); obtain ⟨ve643_0, rfl, ge643_0⟩ := hMe643; have hv643_0 := hcc643 0 _ rfl; rw [Nat.add_zero, show ((Kd.slice 2 (Kd.int .i64))).sz = 1 from rfl, Nat.mul_one] at hv643_0; replace hv643_0 := Option.some.inj (hv643_0.symm.trans hx643_0); rw [hv643_0] at ge643_0; have HL643_0 := Aside0.mk (show Kd.R (Kd.int .i64) 2 _ _ _ _ (rd_L1 t626 0) from ge643_0); clear hv643_0 ge643_0; clear hcc643 hce643; have qi643 : (0 < t626.length) = True := eq_true (by omega); (try rw [show ((0 : Int)).toNat = 0 from rfl] at hx643_0); (try rw [Addr.add_zero'] at hx643_0); have HR643_0 := Aside0.mk hi643_0; have HC643_0 := Aside0.mk hl643_0; clear hi643_0 hl643_0; replace p643 := eq_true p643; replace q643 := eq_true q643) | (go_at_call 45; (with_reducible refine (laws_b10Gcd.calls k (t626.length : Int) ((rd_L1 t626 0).length : Int) t644 _ A11.out).mono ?_); rintro e w' ⟨rfl, ⟨nd, rfl⟩⟩; (try first | exact ⟨rfl, _, World.drewN_drewN _ _ _⟩ | exact ⟨rfl, _, Eq.trans (World.drewN_drewN _ _ _) (congrArg (World.drewN _) (Nat.add_assoc _ _ _))⟩)) | (go_at_call 44; (with_reducible refine (impl_BlockErrors.calls k _ _ t626 _ _ t635 t644 t645 t648 _ ?side1 ?side2 ?side3 ?side4 A12.out).mono ?_); (case side1 => repeat (first | exact (Kd.S_reads' HO628.out).2.2 | (with_reducible refine Kd.C_alloc ?_ _) | (with_reducible refine Kd.C_drewN ?_ _) | (with_reducible refine Kd.C_drew ?_))); (case side2 => exact (Kd.S_reads' HO628.out).2.1); (case side3 => repeat (first | exact (Kd.S_reads' HO637.out).2.2 | (with_reducible refine Kd.C_alloc ?_ _) | (with_reducible refine Kd.C_drewN ?_ _) | (with_reducible refine Kd.C_drew ?_))); (case side4 => exact (Kd.S_reads' HO637.out).2.1); rintro e w26 ⟨v646, rfl, ho0, hb⟩; have n0_ := Aside0.mk (Kd.S_elder' (by (with_reducible repeat (first | apply Kd.S_alloc | apply Kd.S_drewN | apply Kd.S_drew)); exact HO628.out) (Kd.S_base ho0) hb); have n1_ := Aside0.mk (Kd.S_elder' (by (with_reducible repeat (first | apply Kd.S_alloc | apply Kd.S_drewN | apply Kd.S_drew)); exact HO634.out) (Kd.S_base ho0) hb); have n2_ := Aside0.mk (Kd.S_elder' (by (with_reducible repeat (first | apply Kd.S_alloc | apply Kd.S_drewN | apply Kd.S_drew)); exact HO637.out) (Kd.S_base ho0) hb); have n3_ := Aside0.mk (Kd.S_elder' (by (with_reducible repeat (first | apply Kd.S_alloc | apply Kd.S_drewN | apply Kd.S_drew)); exact HO641.out) (Kd.S_base ho0) hb); have n4_ := Aside0.mk (Kd.R_below (by (with_reducible repeat (first | apply Kd.R_alloc | apply Kd.R_drewN | apply Kd.R_drew)); exact HL643_0.out) hb); have n5_ := Aside0.mk (Kd.S_lower (Kd.S_new' (Kd.S_new' (Kd.S_new' (Kd.S_new' (Kd.S_new' ho0 (Kd.S_lt (by (with_reducible repeat (first | apply Kd.S_alloc | apply Kd.S_drewN | apply Kd.S_drew)); exact HO628.out))) (Kd.S_lt (by (with_reducible repeat (first | apply Kd.S_alloc | apply Kd.S_drewN | apply Kd.S_drew)); exact HO634.out))) (Kd.S_lt (by (with_reducible repeat (first | apply Kd.S_alloc | apply Kd.S_drewN | apply Kd.S_drew)); exact HO637.out))) (Kd.S_lt (by (with_reducible repeat (first | apply Kd.S_alloc | apply Kd.S_drewN | apply Kd.S_drew)); exact HO641.out))) (Kd.R_lt (by (with_reducible repeat (first | apply Kd.R_alloc | apply Kd.R_drewN | apply Kd.R_drew)); exact HL643_0.out))) (below_size (by repeat (first | (with_reducible first | exact HB.out | apply below_alloc | apply pw_below_drewN | apply below_drew1 | refine below_set ?_ GE629.out) | exact HB.out)))); have n6_ := Aside0.mk (blk_below (g := gb629) (o := .cells #[.slice (some ad643) t626.length co16] 33 (0, 0)) (by (with_reducible repeat (first | refine blk_drewN ?_ _ | refine blk_drew ?_ | refine blk_alloc ?_ _)); exact BK629.out) hb); have n7_ := Aside0.mk (Kd.C_below (by repeat (first | (with_reducible exact HR643_0.out) | (with_reducible refine Kd.C_alloc ?_ _) | (with_reducible refine Kd.C_drewN ?_ _) | (with_reducible refine Kd.C_drew ?_) | exact HR643_0.out)) hb); have n8_ := Aside0.mk (below_step (by repeat (first | (with_reducible first | exact HB.out | apply below_alloc | apply pw_below_drewN | apply below_drew1 | refine below_set ?_ GE629.out) | exact HB.out)) hb); clear HO628; clear HO634; clear HO637; clear HO641; clear HL643_0; clear BK629; clear HR643_0; clear HB; have HO628 := n0_; have HO634 := n1_; have HO637 := n2_; have HO641 := n3_; have HL643_0 := n4_; have HO647 := n5_; have BK629 := n6_; have HR643_0 := n7_; have HB := n8_; clear n0_ n1_ n2_ n3_ n4_ n5_ n6_ n7_ n8_; (try clear hb); (try clear hb2); (try clear hk); (try clear hi); (try clear ho0))); go_upto_region 9 with (first | (go_at_call 22; (with_reducible refine (laws_b10Long.calls _ _ l0 _ _ l1 false _ ?side1 ?side2 ?side3 ?side4 A3.out).mono ?_); (case side1 => repeat (first | exact HR0.out | (with_reducible refine Kd.C_alloc ?_ _) | (with_reducible refine Kd.C_drewN ?_ _) | (with_reducible refine Kd.C_drew ?_))); (case side2 => exact HC0.out); (case side3 => repeat (first | exact HR1.out | (with_reducible refine Kd.C_alloc ?_ _) | (with_reducible refine Kd.C_drewN ?_ _) | (with_reducible refine Kd.C_drew ?_))); (case side4 => exact HC1.out); rintro e w' ⟨rfl, ⟨nd, rfl⟩⟩; (try first | exact ⟨rfl, _, World.drewN_drewN _ _ _⟩ | exact ⟨rfl, _, Eq.trans (World.drewN_drewN _ _ _) (congrArg (World.drewN _) (Nat.add_assoc _ _ _))⟩)) | (go_at_call 26; (with_reducible refine (spec_B10Picture.calls k _ _ l0 t626 _ ?side1 ?side2 A5.out).mono ?_); (case side1 => repeat (first | exact HR0.out | (with_reducible refine Kd.C_alloc ?_ _) | (with_reducible refine Kd.C_drewN ?_ _) | (with_reducible refine Kd.C_drew ?_))); (case side2 => exact HC0.out); rintro e w14 ⟨v627, rfl, ho0, hb⟩; have n0_ := Aside0.mk (Kd.S_lower ho0 (below_size (by repeat (first | (with_reducible first | exact HB.out | apply below_alloc | apply pw_below_drewN | apply below_drew1) | exact HB.out)))); have n1_ := Aside0.mk (below_step (by repeat (first | (with_reducible first | exact HB.out | apply below_alloc | apply pw_below_drewN | apply below_drew1) | exact HB.out)) hb); clear HB; have HO628 := n0_; have HB := n1_; clear n0_ n1_; (try clear hb); (try clear hb2); (try clear hk); (try clear hi); (try clear ho0)) | ((with_reducible refine gate_dst (N := 5) rfl ?_); (try (refine gate_guard (by rfl) ?_; dsimp only)); refine box_event ?hg (N := 5) ?hd (cs := #[.slice none 0 0]) (t := 33) ?hr ?_; (case hd => rfl); (case hg => rfl); (case hr => first | (go_simp; done) | (go_simp; rfl)); intro gb629 hg w15 hbox hb; have n0_ := Aside0.mk (Kd.S_below (by (with_reducible repeat (first | apply Kd.S_alloc | apply Kd.S_drewN | apply Kd.S_drew)); exact HO628.out) hb); have n1_ := Aside0.mk (below_step (by repeat (first | (with_reducible first | exact HB.out | apply below_alloc | apply pw_below_drewN | apply below_drew1) | exact HB.out)) hb); have n2_ := Aside0.mk (hbox); have n3_ := Aside0.mk ((by rw [hg]; exact (below_size (by repeat (first | (with_reducible first | exact HB.out | apply below_alloc | apply pw_below_drewN | apply below_drew1) | exact HB.out))) : w.heap.size ≤ gb629)); have n4_ := Aside0.mk ((by rw [hg]; exact (below_size (by repeat (first | (with_reducible first | exact HB.out | apply below_alloc | apply pw_below_drewN | apply below_drew1) | exact HB.out))) : w.heap.size ≤ gb629)); clear HO628; clear HB; have HO628 := n0_; have HB := n1_; have BK629 := n2_; have GW629 := n3_; have GE629 := n4_; clear n0_ n1_ n2_ n3_ n4_; clear hb hbox hg; obtain ⟨Ao16, co16, eo16⟩ := Kd.S_slice HO628.out; subst eo16; have hcz17_0 : w15.cell? ⟨gb629, 0, none⟩ = some (.slice none 0 0) := (blk_cell BK629.out 0).trans rfl; have hfz17_0 := blk_frozen BK629.out 0) | (go_at_call 23; (with_reducible refine (laws_b10At.calls _ _ l1 0 3 t630 _ ?side1 ?side2 A6.out).mono ?_); (case side1 => exact Kd.C_below HR1.out (by repeat (first | (with_reducible first | exact HB.out | apply below_alloc | apply pw_below_drewN | apply below_drew1 | refine below_set ?_ GE629.out) | exact HB.out))); (case side2 => exact HC1.out); rintro e w' ⟨rfl, ⟨nd, rfl⟩⟩; (try first | exact ⟨rfl, _, World.drewN_drewN _ _ _⟩ | exact ⟨rfl, _, Eq.trans (World.drewN_drewN _ _ _) (congrArg (World.drewN _) (Nat.add_assoc _ _ _))⟩)) | (go_at_call 16; (with_reducible refine (impl_DoublingMask.calls k t630 t631 t632 _ A7.out).mono ?_); rintro e w18 ⟨v633, rfl, ho0, hb⟩; have n0_ := Aside0.mk (Kd.S_elder' (by (with_reducible repeat (first | apply Kd.S_alloc | apply Kd.S_drewN | apply Kd.S_drew)); exact (Kd.S_mono (Kd.S_far (p := ⟨gb629, 0, none⟩) (Kd.S_types HO628.out BK629.out (by decide)) (fun _ hk => hk.2) (.slice Ao16 t626.length co16)) (fun _ h_ => h_.1))) (Kd.S_base ho0) hb); have n1_ := Aside0.mk (Kd.S_lower (Kd.S_new' ho0 (Kd.S_lt (by (with_reducible repeat (first | apply Kd.S_alloc | apply Kd.S_drewN | apply Kd.S_drew)); exact (Kd.S_mono (Kd.S_far (p := ⟨gb629, 0, none⟩) (Kd.S_types HO628.out BK629.out (by decide)) (fun _ hk => hk.2) (.slice Ao16 t626.length co16)) (fun _ h_ => h_.1))))) (below_size (by repeat (first | (with_reducible first | exact HB.out | apply below_alloc | apply pw_below_drewN | apply below_drew1 | refine below_set ?_ GE629.out) | exact HB.out)))); have n2_ := Aside0.mk (blk_below (g := gb629) (o := .cells #[.slice Ao16 t626.length co16] 33 (0, 0)) (by (with_reducible repeat (first | refine blk_drewN ?_ _ | refine blk_drew ?_ | refine blk_alloc ?_ _)); refine blk_put (cs := #[.slice none 0 0]) ?_ 0 _ rfl; (with_reducible repeat (first | refine blk_drewN ?_ _ | refine blk_drew ?_ | refine blk_alloc ?_ _)); exact BK629.out) hb); have n3_ := Aside0.mk (below_step (by repeat (first | (with_reducible first | exact HB.out | apply below_alloc | apply pw_below_drewN | apply below_drew1 | refine below_set ?_ GE629.out) | exact HB.out)) hb); clear HO628; clear BK629; clear HB; have HO628 := n0_; have HO634 := n1_; have BK629 := n2_; have HB := n3_; clear n0_ n1_ n2_ n3_; (try clear hb); (try clear hb2); (try clear hk); (try clear hi); (try clear ho0); have hcz19_0 : w18.cell? ⟨gb629, 0, none⟩ = some (.slice Ao16 t626.length co16) := (blk_cell BK629.out 0).trans rfl; have hfz19_0 := blk_frozen BK629.out 0; obtain ⟨Ao20, co20, eo20⟩ := Kd.S_slice HO634.out; subst eo20) | (go_at_call 41; (with_reducible refine (impl_MaskDither.calls k _ _ t626 _ _ t631 t635 t638 _ ?side1 ?side2 ?side3 ?side4 A8.out).mono ?_); (case side1 => repeat (first | exact (Kd.S_reads' HO628.out).2.2 | (with_reducible refine Kd.C_alloc ?_ _) | (with_reducible refine Kd.C_drewN ?_ _) | (with_reducible refine Kd.C_drew ?_))); (case side2 => exact (Kd.S_reads' HO628.out).2.1); (case side3 => repeat (first | exact (Kd.S_reads' HO634.out).2.2 | (with_reducible refine Kd.C_alloc ?_ _) | (with_reducible refine Kd.C_drewN ?_ _) | (with_reducible refine Kd.C_drew ?_))); (case side4 => exact (Kd.S_reads' HO634.out).2.1); rintro e w21 ⟨v636, rfl, ho0, hb⟩; have n0_ := Aside0.mk (Kd.S_elder' (by (with_reducible repeat (first | apply Kd.S_alloc | apply Kd.S_drewN | apply Kd.S_drew)); exact HO628.out) (Kd.S_base ho0) hb); have n1_ := Aside0.mk (Kd.S_elder' (by (with_reducible repeat (first | apply Kd.S_alloc | apply Kd.S_drewN | apply Kd.S_drew)); exact HO634.out) (Kd.S_base ho0) hb); have n2_ := Aside0.mk (Kd.S_lower (Kd.S_new' (Kd.S_new' ho0 (Kd.S_lt (by (with_reducible repeat (first | apply Kd.S_alloc | apply Kd.S_drewN | apply Kd.S_drew)); exact HO628.out))) (Kd.S_lt (by (with_reducible repeat (first | apply Kd.S_alloc | apply Kd.S_drewN | apply Kd.S_drew)); exact HO634.out))) (below_size (by repeat (first | (with_reducible first | exact HB.out | apply below_alloc | apply pw_below_drewN | apply below_drew1 | refine below_set ?_ GE629.out) | exact HB.out)))); have n3_ := Aside0.mk (blk_below (g := gb629) (o := .cells #[.slice Ao16 t626.length co16] 33 (0, 0)) (by (with_reducible repeat (first | refine blk_drewN ?_ _ | refine blk_drew ?_ | refine blk_alloc ?_ _)); exact BK629.out) hb); have n4_ := Aside0.mk (below_step (by repeat (first | (with_reducible first | exact HB.out | apply below_alloc | apply pw_below_drewN | apply below_drew1 | refine below_set ?_ GE629.out) | exact HB.out)) hb); clear HO628; clear HO634; clear BK629; clear HB; have HO628 := n0_; have HO634 := n1_; have HO637 := n2_; have BK629 := n3_; have HB := n4_; clear n0_ n1_ n2_ n3_ n4_; (try clear hb); (try clear hb2); (try clear hk); (try clear hi); (try clear ho0); have hcz22_0 : w21.cell? ⟨gb629, 0, none⟩ = some (.slice Ao16 t626.length co16) := (blk_cell BK629.out 0).trans rfl; have hfz22_0 := blk_frozen BK629.out 0; obtain ⟨Ao23, co23, eo23⟩ := Kd.S_slice HO637.out; subst eo23) | (go_at_call 44; (with_reducible refine (impl_BlockErrors.calls k _ _ t626 _ _ t635 1 t639 t642 _ ?side1 ?side2 ?side3 ?side4 A9.out).mono ?_); (case side1 => repeat (first | exact (Kd.S_reads' HO628.out).2.2 | (with_reducible refine Kd.C_alloc ?_ _) | (with_reducible refine Kd.C_drewN ?_ _) | (with_reducible refine Kd.C_drew ?_))); (case side2 => exact (Kd.S_reads' HO628.out).2.1); (case side3 => repeat (first | exact (Kd.S_reads' HO637.out).2.2 | (with_reducible refine Kd.C_alloc ?_ _) | (with_reducible refine Kd.C_drewN ?_ _) | (with_reducible refine Kd.C_drew ?_))); (case side4 => exact (Kd.S_reads' HO637.out).2.1); rintro e w24 ⟨v640, rfl, ho0, hb⟩; have n0_ := Aside0.mk (Kd.S_elder' (by (with_reducible repeat (first | apply Kd.S_alloc | apply Kd.S_drewN | apply Kd.S_drew)); exact HO628.out) (Kd.S_base ho0) hb); have n1_ := Aside0.mk (Kd.S_elder' (by (with_reducible repeat (first | apply Kd.S_alloc | apply Kd.S_drewN | apply Kd.S_drew)); exact HO634.out) (Kd.S_base ho0) hb); have n2_ := Aside0.mk (Kd.S_elder' (by (with_reducible repeat (first | apply Kd.S_alloc | apply Kd.S_drewN | apply Kd.S_drew)); exact HO637.out) (Kd.S_base ho0) hb); have n3_ := Aside0.mk (Kd.S_lower (Kd.S_new' (Kd.S_new' (Kd.S_new' ho0 (Kd.S_lt (by (with_reducible repeat (first | apply Kd.S_alloc | apply Kd.S_drewN | apply Kd.S_drew)); exact HO628.out))) (Kd.S_lt (by (with_reducible repeat (first | apply Kd.S_alloc | apply Kd.S_drewN | apply Kd.S_drew)); exact HO634.out))) (Kd.S_lt (by (with_reducible repeat (first | apply Kd.S_alloc | apply Kd.S_drewN | apply Kd.S_drew)); exact HO637.out))) (below_size (by repeat (first | (with_reducible first | exact HB.out | apply below_alloc | apply pw_below_drewN | apply below_drew1 | refine below_set ?_ GE629.out) | exact HB.out)))); have n4_ := Aside0.mk (blk_below (g := gb629) (o := .cells #[.slice Ao16 t626.length co16] 33 (0, 0)) (by (with_reducible repeat (first | refine blk_drewN ?_ _ | refine blk_drew ?_ | refine blk_alloc ?_ _)); exact BK629.out) hb); have n5_ := Aside0.mk (below_step (by repeat (first | (with_reducible first | exact HB.out | apply below_alloc | apply pw_below_drewN | apply below_drew1 | refine below_set ?_ GE629.out) | exact HB.out)) hb); clear HO628; clear HO634; clear HO637; clear BK629; clear HB; have HO628 := n0_; have HO634 := n1_; have HO637 := n2_; have HO641 := n3_; have BK629 := n4_; have HB := n5_; clear n0_ n1_ n2_ n3_ n4_ n5_; (try clear hb); (try clear hb2); (try clear hk); (try clear hi); (try clear ho0); have hcz25_0 : w24.cell? ⟨gb629, 0, none⟩ = some (.slice Ao16 t626.length co16) := (blk_cell BK629.out 0).trans rfl; have hfz25_0 := blk_frozen BK629.out 0; have p643 : 0 ≤ (0 : Int) := (by omega); have q643 : 0 < (t626.length : Int) := of_decide_eq_true (by first | (with_reducible assumption) | assumption); obtain ⟨ad643, A643_0, c643_0, e643, hx643_0, hl643_0, hi643_0⟩ := at_L1 (Kd.S_reads' HO628.out).2.2 0 p643 q643; cases e643; obtain ⟨ce643, hce643, hMe643, hcc643⟩ := Kd.S_get HO628.out [] 0 p643 (by first | exact q643 | exact of_decide_eq_true (by first | (with_reducible assumption) | assumption) | (have e_ := (Kd.S_reads' HO628.out).1; omega)); obtain ⟨ve643_0, rfl, ge643_0⟩ := hMe643; have hv643_0 := hcc643 0 _ rfl; rw [Nat.add_zero, show ((Kd.slice 2 (Kd.int .i64))).sz = 1 from rfl, Nat.mul_one] at hv643_0; replace hv643_0 := Option.some.inj (hv643_0.symm.trans hx643_0); rw [hv643_0] at ge643_0; have HL643_0 := Aside0.mk (show Kd.R (Kd.int .i64) 2 _ _ _ _ (rd_L1 t626 0) from ge643_0); clear hv643_0 ge643_0; clear hcc643 hce643; have qi643 : (0 < t626.length) = True := eq_true (by omega); (try rw [show ((0 : Int)).toNat = 0 from rfl] at hx643_0); (try rw [Addr.add_zero'] at hx643_0); have HR643_0 := Aside0.mk hi643_0; have HC643_0 := Aside0.mk hl643_0; clear hi643_0 hl643_0; replace p643 := eq_true p643; replace q643 := eq_true q643) | (go_at_call 45; (with_reducible refine (laws_b10Gcd.calls k (t626.length : Int) ((rd_L1 t626 0).length : Int) t644 _ A11.out).mono ?_); rintro e w' ⟨rfl, ⟨nd, rfl⟩⟩; (try first | exact ⟨rfl, _, World.drewN_drewN _ _ _⟩ | exact ⟨rfl, _, Eq.trans (World.drewN_drewN _ _ _) (congrArg (World.drewN _) (Nat.add_assoc _ _ _))⟩)) | (go_at_call 44; (with_reducible refine (impl_BlockErrors.calls k _ _ t626 _ _ t635 t644 t645 t648 _ ?side1 ?side2 ?side3 ?side4 A12.out).mono ?_); (case side1 => repeat (first | exact (Kd.S_reads' HO628.out).2.2 | (with_reducible refine Kd.C_alloc ?_ _) | (with_reducible refine Kd.C_drewN ?_ _) | (with_reducible refine Kd.C_drew ?_))); (case side2 => exact (Kd.S_reads' HO628.out).2.1); (case side3 => repeat (first | exact (Kd.S_reads' HO637.out).2.2 | (with_reducible refine Kd.C_alloc ?_ _) | (with_reducible refine Kd.C_drewN ?_ _) | (with_reducible refine Kd.C_drew ?_))); (case side4 => exact (Kd.S_reads' HO637.out).2.1); rintro e w26 ⟨v646, rfl, ho0, hb⟩; have n0_ := Aside0.mk (Kd.S_elder' (by (with_reducible repeat (first | apply Kd.S_alloc | apply Kd.S_drewN | apply Kd.S_drew)); exact HO628.out) (Kd.S_base ho0) hb); have n1_ := Aside0.mk (Kd.S_elder' (by (with_reducible repeat (first | apply Kd.S_alloc | apply Kd.S_drewN | apply Kd.S_drew)); exact HO634.out) (Kd.S_base ho0) hb); have n2_ := Aside0.mk (Kd.S_elder' (by (with_reducible repeat (first | apply Kd.S_alloc | apply Kd.S_drewN | apply Kd.S_drew)); exact HO637.out) (Kd.S_base ho0) hb); have n3_ := Aside0.mk (Kd.S_elder' (by (with_reducible repeat (first | apply Kd.S_alloc | apply Kd.S_drewN | apply Kd.S_drew)); exact HO641.out) (Kd.S_base ho0) hb); have n4_ := Aside0.mk (Kd.R_below (by (with_reducible repeat (first | apply Kd.R_alloc | apply Kd.R_drewN | apply Kd.R_drew)); exact HL643_0.out) hb); have n5_ := Aside0.mk (Kd.S_lower (Kd.S_new' (Kd.S_new' (Kd.S_new' (Kd.S_new' (Kd.S_new' ho0 (Kd.S_lt (by (with_reducible repeat (first | apply Kd.S_alloc | apply Kd.S_drewN | apply Kd.S_drew)); exact HO628.out))) (Kd.S_lt (by (with_reducible repeat (first | apply Kd.S_alloc | apply Kd.S_drewN | apply Kd.S_drew)); exact HO634.out))) (Kd.S_lt (by (with_reducible repeat (first | apply Kd.S_alloc | apply Kd.S_drewN | apply Kd.S_drew)); exact HO637.out))) (Kd.S_lt (by (with_reducible repeat (first | apply Kd.S_alloc | apply Kd.S_drewN | apply Kd.S_drew)); exact HO641.out))) (Kd.R_lt (by (with_reducible repeat (first | apply Kd.R_alloc | apply Kd.R_drewN | apply Kd.R_drew)); exact HL643_0.out))) (below_size (by repeat (first | (with_reducible first | exact HB.out | apply below_alloc | apply pw_below_drewN | apply below_drew1 | refine below_set ?_ GE629.out) | exact HB.out)))); have n6_ := Aside0.mk (blk_below (g := gb629) (o := .cells #[.slice (some ad643) t626.length co16] 33 (0, 0)) (by (with_reducible repeat (first | refine blk_drewN ?_ _ | refine blk_drew ?_ | refine blk_alloc ?_ _)); exact BK629.out) hb); have n7_ := Aside0.mk (Kd.C_below (by repeat (first | (with_reducible exact HR643_0.out) | (with_reducible refine Kd.C_alloc ?_ _) | (with_reducible refine Kd.C_drewN ?_ _) | (with_reducible refine Kd.C_drew ?_) | exact HR643_0.out)) hb); have n8_ := Aside0.mk (below_step (by repeat (first | (with_reducible first | exact HB.out | apply below_alloc | apply pw_below_drewN | apply below_drew1 | refine below_set ?_ GE629.out) | exact HB.out)) hb); clear HO628; clear HO634; clear HO637; clear HO641; clear HL643_0; clear BK629; clear HR643_0; clear HB; have HO628 := n0_; have HO634 := n1_; have HO637 := n2_; have HO641 := n3_; have HL643_0 := n4_; have HO647 := n5_; have BK629 := n6_; have HR643_0 := n7_; have HB := n8_; clear n0_ n1_ n2_ n3_ n4_ n5_ n6_ n7_ n8_; (try clear hb); (try clear hb2); (try clear hk); (try clear hi); (try clear ho0))))
   (try simp only [Act.put, List.setIfInBounds_toArray, List.set_cons_zero, List.set_cons_succ])
   go_cut [87] (fun v87 wc => ∃ (kq : Nat) (x87_12 : Bool), v87 = .bool x87_12 ∧ Aside0 (laws_FnBlocks.j0 kq t635 t639 t645 x87_12 t626 = some r) ∧ Aside0 (kq ≤ k) ∧ Aside0 (Kd.S (Kd.slice 2 (Kd.int .i64)) 34 wc w.heap.size (fun k_ => some k_ ≠ (v640 : Value).ownBlock ∧ some k_ ≠ (v646 : Value).ownBlock ∧ some k_ ≠ ((.slice (some ad643) t626.length co16) : Value).ownBlock) (.slice Ao23 t635.length co23) t635) ∧ Aside0 (Kd.S (Kd.slice 2 (Kd.int .i64)) 34 wc w.heap.size (fun k_ => some k_ ≠ ((.slice Ao23 t635.length co23) : Value).ownBlock ∧ some k_ ≠ (v646 : Value).ownBlock ∧ some k_ ≠ ((.slice (some ad643) t626.length co16) : Value).ownBlock) v640 t639) ∧ Aside0 (Kd.S (Kd.slice 2 (Kd.int .i64)) 34 wc w.heap.size (fun k_ => some k_ ≠ ((.slice Ao23 t635.length co23) : Value).ownBlock ∧ some k_ ≠ (v640 : Value).ownBlock ∧ some k_ ≠ ((.slice (some ad643) t626.length co16) : Value).ownBlock) v646 t645) ∧ Aside0 (Kd.S (Kd.slice 2 (Kd.int .i64)) 34 wc w.heap.size (fun k_ => some k_ ≠ ((.slice Ao23 t635.length co23) : Value).ownBlock ∧ some k_ ≠ (v640 : Value).ownBlock ∧ some k_ ≠ (v646 : Value).ownBlock) (.slice (some ad643) t626.length co16) t626) ∧ Aside0 (wc.heap[gb629]? = some (.cells #[(.slice (some ad643) t626.length co16)] 33 (0, 0))) ∧ Aside0 (Kd.C (Kd.int .i64) wc A643_0 (rd_L1 t626 0).length (rd_L1 t626 0)) ∧ Aside0 (Below w.heap.size w wc))
   case first =>
    have H := HC13.out
    clear HC13
    by_cases c27 : t632 = true
    ·subst c27
     have H1 : (if t638 = true then (if t642 = true then (if t648 = true then (if (t639.length : Int) = (t626.length : Int) then (laws_FnBlocks.j0 k t635 t639 t645 ((wrap64 ((t645.length : Int) * t644)) != (t626.length : Int)) t626) else (laws_FnBlocks.j0 k t635 t639 t645 true t626)) else (laws_FnBlocks.j0 k t635 t639 t645 true t626)) else (laws_FnBlocks.j0 k t635 t639 t645 true t626)) else (laws_FnBlocks.j0 k t635 t639 t645 true t626)) = some r := by rw [if_pos rfl] at H; exact H
     clear H
     have H := H1
     clear H1
     by_cases c28 : t638 = true
     ·subst c28
      have H1 : (if t642 = true then (if t648 = true then (if (t639.length : Int) = (t626.length : Int) then (laws_FnBlocks.j0 k t635 t639 t645 ((wrap64 ((t645.length : Int) * t644)) != (t626.length : Int)) t626) else (laws_FnBlocks.j0 k t635 t639 t645 true t626)) else (laws_FnBlocks.j0 k t635 t639 t645 true t626)) else (laws_FnBlocks.j0 k t635 t639 t645 true t626)) = some r := by rw [if_pos rfl] at H; exact H
      clear H
      have H := H1
      clear H1
      by_cases c29 : t642 = true
      ·subst c29
       have H1 : (if t648 = true then (if (t639.length : Int) = (t626.length : Int) then (laws_FnBlocks.j0 k t635 t639 t645 ((wrap64 ((t645.length : Int) * t644)) != (t626.length : Int)) t626) else (laws_FnBlocks.j0 k t635 t639 t645 true t626)) else (laws_FnBlocks.j0 k t635 t639 t645 true t626)) = some r := by rw [if_pos rfl] at H; exact H
       clear H
       have H := H1
       clear H1
       by_cases c30 : t648 = true
       ·subst c30
        have H1 : (if (t639.length : Int) = (t626.length : Int) then (laws_FnBlocks.j0 k t635 t639 t645 ((wrap64 ((t645.length : Int) * t644)) != (t626.length : Int)) t626) else (laws_FnBlocks.j0 k t635 t639 t645 true t626)) = some r := by rw [if_pos rfl] at H; exact H
        clear H
        have H := H1
        clear H1
        by_cases c31 : (t639.length : Int) = (t626.length : Int)
        ·rw [if_pos c31] at H
         have c31b0 : ((t639.length : Int) == (t626.length : Int)) = true := beq_iff_eq.mpr c31
         have c31b1 : ((t639.length : Int) != (t626.length : Int)) = false := bne_eq_false_iff_eq.mpr c31
         have c31b2 : (t639.length == t626.length) = true := by first | simpa using c31 | (simp at c31 ⊢; omega)
         clear c31
         (first | rw [c31b0] | (simp only [i64_w, i32_w]; rw [c31b0]) | skip)
         have H' := Aside0.mk H
         clear H
         obtain ⟨Ao32, co32, eo32⟩ := Kd.S_slice HO641.out
         subst eo32
         have hcz33_0 : w26.cell? ⟨gb629, 0, none⟩ = some (.slice (some ad643) t626.length co16) := (blk_cell BK629.out 0).trans rfl
         have hfz33_0 := blk_frozen BK629.out 0
         obtain ⟨Ao34, co34, eo34⟩ := Kd.S_slice HO647.out
         subst eo34
         go_wp2
         repeat (go_quiet (fail); try go_wp2)
         go_meet
         case rel => exact ⟨_, (((wrap64 ((t645.length : Int) * t644)) != (t626.length : Int))), (by first | rfl | (simp; done) | (simp [*]; done)), H', ⟨by first | omega | exact Nat.le_refl _⟩, ⟨by (with_reducible repeat (first | apply Kd.S_alloc | apply Kd.S_drewN | apply Kd.S_drew)); exact Kd.S_mono HO637.out (fun _ hk => ⟨hk.1.2, ⟨hk.2, hk.1.1.1.2⟩⟩)⟩, ⟨by (with_reducible repeat (first | apply Kd.S_alloc | apply Kd.S_drewN | apply Kd.S_drew)); exact Kd.S_mono HO641.out (fun _ hk => ⟨hk.1.2, ⟨hk.2, hk.1.1.1.2⟩⟩)⟩, ⟨by (with_reducible repeat (first | apply Kd.S_alloc | apply Kd.S_drewN | apply Kd.S_drew)); exact Kd.S_mono HO647.out (fun _ hk => ⟨hk.1.1.2, ⟨hk.1.2, hk.1.1.1.1.2⟩⟩)⟩, ⟨by (with_reducible repeat (first | apply Kd.S_alloc | apply Kd.S_drewN | apply Kd.S_drew)); exact Kd.S_mono HO628.out (fun _ hk => ⟨hk.1.1.2, ⟨hk.1.2, hk.2⟩⟩)⟩, ⟨by (with_reducible repeat (first | refine blk_drewN ?_ _ | refine blk_drew ?_ | refine blk_alloc ?_ _)); exact BK629.out⟩, ⟨by repeat (first | (with_reducible exact HR643_0.out) | (with_reducible refine Kd.C_alloc ?_ _) | (with_reducible refine Kd.C_drewN ?_ _) | (with_reducible refine Kd.C_drew ?_) | exact HR643_0.out)⟩, ⟨by repeat (first | (with_reducible first | exact HB.out | apply below_alloc | apply pw_below_drewN | apply below_drew1 | refine below_set ?_ GE629.out) | exact HB.out)⟩⟩
        ·rw [if_neg c31] at H
         have c31b0 : ((t639.length : Int) == (t626.length : Int)) = false := beq_eq_false_iff_ne.mpr c31
         have c31b1 : ((t639.length : Int) != (t626.length : Int)) = true := bne_iff_ne.mpr c31
         have c31b2 : (t639.length == t626.length) = false := by first | simpa using c31 | (simp at c31 ⊢; omega)
         (first | rw [c31b0] | (simp only [i64_w, i32_w]; rw [c31b0]) | skip)
         have H' := Aside0.mk H
         clear H
         obtain ⟨Ao35, co35, eo35⟩ := Kd.S_slice HO641.out
         subst eo35
         have hcz36_0 : w26.cell? ⟨gb629, 0, none⟩ = some (.slice (some ad643) t626.length co16) := (blk_cell BK629.out 0).trans rfl
         have hfz36_0 := blk_frozen BK629.out 0
         go_wp2
         repeat (go_quiet (fail); try go_wp2)
         go_meet
         case rel => exact ⟨_, (true), (by first | rfl | (simp; done) | (simp [*]; done)), H', ⟨by first | omega | exact Nat.le_refl _⟩, ⟨by (with_reducible repeat (first | apply Kd.S_alloc | apply Kd.S_drewN | apply Kd.S_drew)); exact Kd.S_mono HO637.out (fun _ hk => ⟨hk.1.2, ⟨hk.2, hk.1.1.1.2⟩⟩)⟩, ⟨by (with_reducible repeat (first | apply Kd.S_alloc | apply Kd.S_drewN | apply Kd.S_drew)); exact Kd.S_mono HO641.out (fun _ hk => ⟨hk.1.2, ⟨hk.2, hk.1.1.1.2⟩⟩)⟩, ⟨by (with_reducible repeat (first | apply Kd.S_alloc | apply Kd.S_drewN | apply Kd.S_drew)); exact Kd.S_mono HO647.out (fun _ hk => ⟨hk.1.1.2, ⟨hk.1.2, hk.1.1.1.1.2⟩⟩)⟩, ⟨by (with_reducible repeat (first | apply Kd.S_alloc | apply Kd.S_drewN | apply Kd.S_drew)); exact Kd.S_mono HO628.out (fun _ hk => ⟨hk.1.1.2, ⟨hk.1.2, hk.2⟩⟩)⟩, ⟨by (with_reducible repeat (first | refine blk_drewN ?_ _ | refine blk_drew ?_ | refine blk_alloc ?_ _)); exact BK629.out⟩, ⟨by repeat (first | (with_reducible exact HR643_0.out) | (with_reducible refine Kd.C_alloc ?_ _) | (with_reducible refine Kd.C_drewN ?_ _) | (with_reducible refine Kd.C_drew ?_) | exact HR643_0.out)⟩, ⟨by repeat (first | (with_reducible first | exact HB.out | apply below_alloc | apply pw_below_drewN | apply below_drew1 | refine below_set ?_ GE629.out) | exact HB.out)⟩⟩
       ·replace c30 := Bool.eq_false_iff.mpr c30
        subst c30
        have H1 : (laws_FnBlocks.j0 k t635 t639 t645 true t626) = some r := by rw [if_neg (show ¬ (false = true) by decide)] at H; exact H
        clear H
        have H := H1
        clear H1
        have H' := Aside0.mk H
        clear H
        go_wp2
        repeat (go_quiet (fail); try go_wp2)
        go_meet
        case rel => exact ⟨_, (true), (by first | rfl | (simp; done) | (simp [*]; done)), H', ⟨by first | omega | exact Nat.le_refl _⟩, ⟨by (with_reducible repeat (first | apply Kd.S_alloc | apply Kd.S_drewN | apply Kd.S_drew)); exact Kd.S_mono HO637.out (fun _ hk => ⟨hk.1.2, ⟨hk.2, hk.1.1.1.2⟩⟩)⟩, ⟨by (with_reducible repeat (first | apply Kd.S_alloc | apply Kd.S_drewN | apply Kd.S_drew)); exact Kd.S_mono HO641.out (fun _ hk => ⟨hk.1.2, ⟨hk.2, hk.1.1.1.2⟩⟩)⟩, ⟨by (with_reducible repeat (first | apply Kd.S_alloc | apply Kd.S_drewN | apply Kd.S_drew)); exact Kd.S_mono HO647.out (fun _ hk => ⟨hk.1.1.2, ⟨hk.1.2, hk.1.1.1.1.2⟩⟩)⟩, ⟨by (with_reducible repeat (first | apply Kd.S_alloc | apply Kd.S_drewN | apply Kd.S_drew)); exact Kd.S_mono HO628.out (fun _ hk => ⟨hk.1.1.2, ⟨hk.1.2, hk.2⟩⟩)⟩, ⟨by (with_reducible repeat (first | refine blk_drewN ?_ _ | refine blk_drew ?_ | refine blk_alloc ?_ _)); exact BK629.out⟩, ⟨by repeat (first | (with_reducible exact HR643_0.out) | (with_reducible refine Kd.C_alloc ?_ _) | (with_reducible refine Kd.C_drewN ?_ _) | (with_reducible refine Kd.C_drew ?_) | exact HR643_0.out)⟩, ⟨by repeat (first | (with_reducible first | exact HB.out | apply below_alloc | apply pw_below_drewN | apply below_drew1 | refine below_set ?_ GE629.out) | exact HB.out)⟩⟩
      ·replace c29 := Bool.eq_false_iff.mpr c29
       subst c29
       have H1 : (laws_FnBlocks.j0 k t635 t639 t645 true t626) = some r := by rw [if_neg (show ¬ (false = true) by decide)] at H; exact H
       clear H
       have H := H1
       clear H1
       have H' := Aside0.mk H
       clear H
       go_wp2
       repeat (go_quiet (fail); try go_wp2)
       go_meet
       case rel => exact ⟨_, (true), (by first | rfl | (simp; done) | (simp [*]; done)), H', ⟨by first | omega | exact Nat.le_refl _⟩, ⟨by (with_reducible repeat (first | apply Kd.S_alloc | apply Kd.S_drewN | apply Kd.S_drew)); exact Kd.S_mono HO637.out (fun _ hk => ⟨hk.1.2, ⟨hk.2, hk.1.1.1.2⟩⟩)⟩, ⟨by (with_reducible repeat (first | apply Kd.S_alloc | apply Kd.S_drewN | apply Kd.S_drew)); exact Kd.S_mono HO641.out (fun _ hk => ⟨hk.1.2, ⟨hk.2, hk.1.1.1.2⟩⟩)⟩, ⟨by (with_reducible repeat (first | apply Kd.S_alloc | apply Kd.S_drewN | apply Kd.S_drew)); exact Kd.S_mono HO647.out (fun _ hk => ⟨hk.1.1.2, ⟨hk.1.2, hk.1.1.1.1.2⟩⟩)⟩, ⟨by (with_reducible repeat (first | apply Kd.S_alloc | apply Kd.S_drewN | apply Kd.S_drew)); exact Kd.S_mono HO628.out (fun _ hk => ⟨hk.1.1.2, ⟨hk.1.2, hk.2⟩⟩)⟩, ⟨by (with_reducible repeat (first | refine blk_drewN ?_ _ | refine blk_drew ?_ | refine blk_alloc ?_ _)); exact BK629.out⟩, ⟨by repeat (first | (with_reducible exact HR643_0.out) | (with_reducible refine Kd.C_alloc ?_ _) | (with_reducible refine Kd.C_drewN ?_ _) | (with_reducible refine Kd.C_drew ?_) | exact HR643_0.out)⟩, ⟨by repeat (first | (with_reducible first | exact HB.out | apply below_alloc | apply pw_below_drewN | apply below_drew1 | refine below_set ?_ GE629.out) | exact HB.out)⟩⟩
     ·replace c28 := Bool.eq_false_iff.mpr c28
      subst c28
      have H1 : (laws_FnBlocks.j0 k t635 t639 t645 true t626) = some r := by rw [if_neg (show ¬ (false = true) by decide)] at H; exact H
      clear H
      have H := H1
      clear H1
      have H' := Aside0.mk H
      clear H
      go_wp2
      repeat (go_quiet (fail); try go_wp2)
      go_meet
      case rel => exact ⟨_, (true), (by first | rfl | (simp; done) | (simp [*]; done)), H', ⟨by first | omega | exact Nat.le_refl _⟩, ⟨by (with_reducible repeat (first | apply Kd.S_alloc | apply Kd.S_drewN | apply Kd.S_drew)); exact Kd.S_mono HO637.out (fun _ hk => ⟨hk.1.2, ⟨hk.2, hk.1.1.1.2⟩⟩)⟩, ⟨by (with_reducible repeat (first | apply Kd.S_alloc | apply Kd.S_drewN | apply Kd.S_drew)); exact Kd.S_mono HO641.out (fun _ hk => ⟨hk.1.2, ⟨hk.2, hk.1.1.1.2⟩⟩)⟩, ⟨by (with_reducible repeat (first | apply Kd.S_alloc | apply Kd.S_drewN | apply Kd.S_drew)); exact Kd.S_mono HO647.out (fun _ hk => ⟨hk.1.1.2, ⟨hk.1.2, hk.1.1.1.1.2⟩⟩)⟩, ⟨by (with_reducible repeat (first | apply Kd.S_alloc | apply Kd.S_drewN | apply Kd.S_drew)); exact Kd.S_mono HO628.out (fun _ hk => ⟨hk.1.1.2, ⟨hk.1.2, hk.2⟩⟩)⟩, ⟨by (with_reducible repeat (first | refine blk_drewN ?_ _ | refine blk_drew ?_ | refine blk_alloc ?_ _)); exact BK629.out⟩, ⟨by repeat (first | (with_reducible exact HR643_0.out) | (with_reducible refine Kd.C_alloc ?_ _) | (with_reducible refine Kd.C_drewN ?_ _) | (with_reducible refine Kd.C_drew ?_) | exact HR643_0.out)⟩, ⟨by repeat (first | (with_reducible first | exact HB.out | apply below_alloc | apply pw_below_drewN | apply below_drew1 | refine below_set ?_ GE629.out) | exact HB.out)⟩⟩
    ·replace c27 := Bool.eq_false_iff.mpr c27
     subst c27
     have H1 : (laws_FnBlocks.j0 k t635 t639 t645 true t626) = some r := by rw [if_neg (show ¬ (false = true) by decide)] at H; exact H
     clear H
     have H := H1
     clear H1
     have H' := Aside0.mk H
     clear H
     go_wp2
     repeat (go_quiet (fail); try go_wp2)
     go_meet
     case rel => exact ⟨_, (true), (by first | rfl | (simp; done) | (simp [*]; done)), H', ⟨by first | omega | exact Nat.le_refl _⟩, ⟨by (with_reducible repeat (first | apply Kd.S_alloc | apply Kd.S_drewN | apply Kd.S_drew)); exact Kd.S_mono HO637.out (fun _ hk => ⟨hk.1.2, ⟨hk.2, hk.1.1.1.2⟩⟩)⟩, ⟨by (with_reducible repeat (first | apply Kd.S_alloc | apply Kd.S_drewN | apply Kd.S_drew)); exact Kd.S_mono HO641.out (fun _ hk => ⟨hk.1.2, ⟨hk.2, hk.1.1.1.2⟩⟩)⟩, ⟨by (with_reducible repeat (first | apply Kd.S_alloc | apply Kd.S_drewN | apply Kd.S_drew)); exact Kd.S_mono HO647.out (fun _ hk => ⟨hk.1.1.2, ⟨hk.1.2, hk.1.1.1.1.2⟩⟩)⟩, ⟨by (with_reducible repeat (first | apply Kd.S_alloc | apply Kd.S_drewN | apply Kd.S_drew)); exact Kd.S_mono HO628.out (fun _ hk => ⟨hk.1.1.2, ⟨hk.1.2, hk.2⟩⟩)⟩, ⟨by (with_reducible repeat (first | refine blk_drewN ?_ _ | refine blk_drew ?_ | refine blk_alloc ?_ _)); exact BK629.out⟩, ⟨by repeat (first | (with_reducible exact HR643_0.out) | (with_reducible refine Kd.C_alloc ?_ _) | (with_reducible refine Kd.C_drewN ?_ _) | (with_reducible refine Kd.C_drew ?_) | exact HR643_0.out)⟩, ⟨by repeat (first | (with_reducible first | exact HB.out | apply below_alloc | apply pw_below_drewN | apply below_drew1 | refine below_set ?_ GE629.out) | exact HB.out)⟩⟩
   case rest =>
    clear HC13
    try clear c1
    try clear c2
    try clear p2
    try clear c3
    try clear c4
    try clear c6
    try clear p6
    try clear q6
    try clear hx6
    try clear qi6
    try clear c10
    try clear c10b0
    try clear c10b1
    try clear c12
    try clear c27
    try clear c28
    try clear c29
    try clear c30
    try clear c31
    try clear c31b0
    try clear c31b1
    try clear c31b2
    try clear hcz17_0
    try clear hcz19_0
    try clear hcz22_0
    try clear hcz25_0
    try clear hcz33_0
    try clear hcz36_0
    try clear hfz17_0
    try clear hfz19_0
    try clear hfz22_0
    try clear hfz25_0
    try clear hfz33_0
    try clear hfz36_0
    try clear hx643_0
    try clear p643
    try clear q643
    obtain ⟨kq, x87_12, rfl, HA, HJ12, HO_8, HO_10, HO_13, HO_630000, BK629, HR643_0, HB⟩ := hcut
    cases kq with
    | zero => exact absurd HA.out (by simp [laws_FnBlocks.j0])
    | succ kj12 =>
     have H := HA.out
     clear HA
     simp only [laws_FnBlocks.j0] at H
     by_cases c37 : x87_12 = true
     ·subst c37
      have H1 : (some false) = some r := by rw [if_pos rfl] at H; exact H
      clear H
      have H := H1
      clear H1
      obtain rfl := Option.some.inj H
      go_wp2
      repeat (go_quiet (fail); try go_wp2)
      go_ret
      exact ⟨by first | rfl | (simp [errW_none, errW_some] <;> rfl) | (simp [*, errW_none, errW_some] <;> rfl), by repeat (first | (with_reducible first | exact HB.out | apply below_alloc | apply pw_below_drewN | apply below_drew1 | refine below_set ?_ GE629.out) | exact HB.out)⟩
     ·replace c37 := Bool.eq_false_iff.mpr c37
      subst c37
      have H1 : (laws_FnBlocks.l0 kj12 t635 t639 t645 0 t626) = some r := by rw [if_neg (show ¬ (false = true) by decide)] at H; exact H
      clear H
      have H := H1
      clear H1
      have H' := Aside0.mk H
      clear H
      go_wp2
      repeat (go_quiet (fail); try go_wp2)
      go_loopg [15] kj12 (fun kq v15 w' => ∃ (x15_2 : Int), v15 = .int .i64 x15_2 ∧ Aside0 (laws_FnBlocks.l0 kq t635 t639 t645 x15_2 t626 = some r) ∧ Aside0 (kq ≤ kj12) ∧ Aside0 (Kd.S (Kd.slice 2 (Kd.int .i64)) 34 w' w.heap.size (fun k_ => some k_ ≠ (v640 : Value).ownBlock ∧ some k_ ≠ (v646 : Value).ownBlock ∧ some k_ ≠ ((.slice (some ad643) t626.length co16) : Value).ownBlock) (.slice Ao23 t635.length co23) t635) ∧ Aside0 (Kd.S (Kd.slice 2 (Kd.int .i64)) 34 w' w.heap.size (fun k_ => some k_ ≠ ((.slice Ao23 t635.length co23) : Value).ownBlock ∧ some k_ ≠ (v646 : Value).ownBlock ∧ some k_ ≠ ((.slice (some ad643) t626.length co16) : Value).ownBlock) v640 t639) ∧ Aside0 (Kd.S (Kd.slice 2 (Kd.int .i64)) 34 w' w.heap.size (fun k_ => some k_ ≠ ((.slice Ao23 t635.length co23) : Value).ownBlock ∧ some k_ ≠ (v640 : Value).ownBlock ∧ some k_ ≠ ((.slice (some ad643) t626.length co16) : Value).ownBlock) v646 t645) ∧ Aside0 (Kd.S (Kd.slice 2 (Kd.int .i64)) 34 w' w.heap.size (fun k_ => some k_ ≠ ((.slice Ao23 t635.length co23) : Value).ownBlock ∧ some k_ ≠ (v640 : Value).ownBlock ∧ some k_ ≠ (v646 : Value).ownBlock) (.slice (some ad643) t626.length co16) t626) ∧ Aside0 (w'.heap[gb629]? = some (.cells #[(.slice (some ad643) t626.length co16)] 33 (0, 0))) ∧ Aside0 (Kd.C (Kd.int .i64) w' A643_0 (rd_L1 t626 0).length (rd_L1 t626 0)) ∧ Aside0 (Below w.heap.size w w'))
      case atStart => exact ⟨(0), (by first | rfl | (simp; done) | (simp [*]; done)), H', ⟨Nat.le_refl _⟩, ⟨by (with_reducible repeat (first | apply Kd.S_alloc | apply Kd.S_drewN | apply Kd.S_drew)); exact HO_8.out⟩, ⟨by (with_reducible repeat (first | apply Kd.S_alloc | apply Kd.S_drewN | apply Kd.S_drew)); exact HO_10.out⟩, ⟨by (with_reducible repeat (first | apply Kd.S_alloc | apply Kd.S_drewN | apply Kd.S_drew)); exact HO_13.out⟩, ⟨by (with_reducible repeat (first | apply Kd.S_alloc | apply Kd.S_drewN | apply Kd.S_drew)); exact HO_630000.out⟩, ⟨by (with_reducible repeat (first | refine blk_drewN ?_ _ | refine blk_drew ?_ | refine blk_alloc ?_ _)); exact BK629.out⟩, ⟨by repeat (first | (with_reducible exact HR643_0.out) | (with_reducible refine Kd.C_alloc ?_ _) | (with_reducible refine Kd.C_drewN ?_ _) | (with_reducible refine Kd.C_drew ?_) | exact HR643_0.out)⟩, ⟨by repeat (first | (with_reducible first | exact HB.out | apply below_alloc | apply pw_below_drewN | apply below_drew1 | refine below_set ?_ GE629.out) | exact HB.out)⟩⟩
      case round =>
       clear H'
       try clear c1
       try clear c2
       try clear p2
       try clear c3
       try clear c4
       try clear c6
       try clear p6
       try clear q6
       try clear hx6
       try clear qi6
       try clear c10
       try clear c10b0
       try clear c10b1
       try clear c12
       try clear c27
       try clear c28
       try clear c29
       try clear c30
       try clear c31
       try clear c31b0
       try clear c31b1
       try clear c31b2
       try clear c37
       try clear hcz17_0
       try clear hcz19_0
       try clear hcz22_0
       try clear hcz25_0
       try clear hcz33_0
       try clear hcz36_0
       try clear hfz17_0
       try clear hfz19_0
       try clear hfz22_0
       try clear hfz25_0
       try clear hfz33_0
       try clear hfz36_0
       try clear hx643_0
       try clear p2
       try clear p6
       try clear p643
       try clear q6
       try clear q643
       obtain ⟨x15_2, rfl, HA, HK2, HO_8, HO_10, HO_13, HO_630000, BK629, HR643_0, HB⟩ := hrel
       cases gk with
       | zero => exact absurd HA.out (by simp [laws_FnBlocks.l0])
       | succ k2 =>
        have H := HA.out
        clear HA
        simp only [laws_FnBlocks.l0] at H
        by_cases c38 : x15_2 < (t639.length : Int)
        ·rw [if_pos c38] at H
         have c38b0 : decide (x15_2 < (t639.length : Int)) = true := decide_eq_true c38
         clear c38
         have HC39 := Aside0.mk H
         clear H
         obtain ⟨Ao40, co40, eo40⟩ := Kd.S_slice HO_10.out
         subst eo40
         go_upto_region 14 with (fail)
         repeat (go_quiet (fail); go_upto_region 14 with (fail))
         go_cut [119] (fun v119 wc => ∃ (kq : Nat) (x119_38 : Bool), v119 = .bool x119_38 ∧ Aside0 (laws_FnBlocks.j2 kq t635 t639 t645 x15_2 x119_38 t626 = some r) ∧ Aside0 (kq ≤ k2) ∧ Aside0 (Kd.S (Kd.slice 2 (Kd.int .i64)) 34 wc w.heap.size (fun k_ => some k_ ≠ ((.slice Ao40 t639.length co40) : Value).ownBlock ∧ some k_ ≠ (v646 : Value).ownBlock ∧ some k_ ≠ ((.slice (some ad643) t626.length co16) : Value).ownBlock) (.slice Ao23 t635.length co23) t635) ∧ Aside0 (Kd.S (Kd.slice 2 (Kd.int .i64)) 34 wc w.heap.size (fun k_ => some k_ ≠ ((.slice Ao23 t635.length co23) : Value).ownBlock ∧ some k_ ≠ (v646 : Value).ownBlock ∧ some k_ ≠ ((.slice (some ad643) t626.length co16) : Value).ownBlock) (.slice Ao40 t639.length co40) t639) ∧ Aside0 (Kd.S (Kd.slice 2 (Kd.int .i64)) 34 wc w.heap.size (fun k_ => some k_ ≠ ((.slice Ao23 t635.length co23) : Value).ownBlock ∧ some k_ ≠ ((.slice Ao40 t639.length co40) : Value).ownBlock ∧ some k_ ≠ ((.slice (some ad643) t626.length co16) : Value).ownBlock) v646 t645) ∧ Aside0 (Kd.S (Kd.slice 2 (Kd.int .i64)) 34 wc w.heap.size (fun k_ => some k_ ≠ ((.slice Ao23 t635.length co23) : Value).ownBlock ∧ some k_ ≠ ((.slice Ao40 t639.length co40) : Value).ownBlock ∧ some k_ ≠ (v646 : Value).ownBlock) (.slice (some ad643) t626.length co16) t626) ∧ Aside0 (wc.heap[gb629]? = some (.cells #[(.slice (some ad643) t626.length co16)] 33 (0, 0))) ∧ Aside0 (Kd.C (Kd.int .i64) wc A643_0 (rd_L1 t626 0).length (rd_L1 t626 0)) ∧ Aside0 (Below w.heap.size w wc))
         case first =>
          have H := HC39.out
          clear HC39
          by_cases c41 : 0 ≤ x15_2
          ·rw [if_pos c41] at H
           have c41b0 : decide (0 ≤ x15_2) = true := decide_eq_true c41
           clear c41
           (first | rw [c41b0] | (simp only [i64_w, i32_w]; rw [c41b0]) | skip)
           by_cases c42 : x15_2 < (t626.length : Int)
           ·rw [if_pos c42] at H
            have c42b0 : decide (x15_2 < (t626.length : Int)) = true := decide_eq_true c42
            clear c42
            by_cases c43 : ((rd_L1 t639 x15_2).length : Int) = ((rd_L1 t626 x15_2).length : Int)
            ·rw [if_pos c43] at H
             have c43b0 : (((rd_L1 t639 x15_2).length : Int) == ((rd_L1 t626 x15_2).length : Int)) = true := beq_iff_eq.mpr c43
             have c43b1 : (((rd_L1 t639 x15_2).length : Int) != ((rd_L1 t626 x15_2).length : Int)) = false := bne_eq_false_iff_eq.mpr c43
             have c43b2 : ((rd_L1 t639 x15_2).length == (rd_L1 t626 x15_2).length) = true := by first | simpa using c43 | (simp at c43 ⊢; omega)
             clear c43
             by_cases c44 : x15_2 < (t635.length : Int)
             ·rw [if_pos c44] at H
              have c44b0 : decide (x15_2 < (t635.length : Int)) = true := decide_eq_true c44
              clear c44
              have H' := Aside0.mk H
              clear H
              have p651 : 0 ≤ (x15_2 : Int) := of_decide_eq_true (by first | (with_reducible assumption) | assumption)
              have q651 : x15_2 < (t639.length : Int) := of_decide_eq_true (by first | (with_reducible assumption) | assumption)
              (first | (obtain ⟨Aoz_, coz_, eoz_⟩ := Kd.S_slice HO_10.out; subst eoz_) | skip)
              obtain ⟨ad651, A651_0, c651_0, e651, hx651_0, hl651_0, hi651_0⟩ := at_L1 (Kd.S_reads' HO_10.out).2.2 x15_2 p651 q651
              cases e651
              obtain ⟨ce651, hce651, hMe651, hcc651⟩ := Kd.S_get HO_10.out [] x15_2 p651 (by first | exact q651 | exact of_decide_eq_true (by first | (with_reducible assumption) | assumption) | (have e_ := (Kd.S_reads' HO_10.out).1; omega))
              obtain ⟨ve651_0, rfl, ge651_0⟩ := hMe651
              have hv651_0 := hcc651 0 _ rfl
              rw [Nat.add_zero, show ((Kd.slice 2 (Kd.int .i64))).sz = 1 from rfl, Nat.mul_one] at hv651_0
              replace hv651_0 := Option.some.inj (hv651_0.symm.trans hx651_0)
              rw [hv651_0] at ge651_0
              have HL651_0 := Aside0.mk (show Kd.R (Kd.int .i64) 2 _ _ _ _ (rd_L1 t639 x15_2) from ge651_0)
              clear hv651_0 ge651_0
              clear hcc651 hce651
              have HR651_0 := Aside0.mk hi651_0
              have HC651_0 := Aside0.mk hl651_0
              clear hi651_0 hl651_0
              replace p651 := eq_true p651
              replace q651 := eq_true q651
              have hcz45_0 : wr.cell? ⟨gb629, 0, none⟩ = some (.slice (some ad643) t626.length co16) := (blk_cell BK629.out 0).trans rfl
              have hfz45_0 := blk_frozen BK629.out 0
              have p652 : 0 ≤ (x15_2 : Int) := of_decide_eq_true (by first | (with_reducible assumption) | assumption)
              have q652 : x15_2 < (t626.length : Int) := of_decide_eq_true (by first | (with_reducible assumption) | assumption)
              (first | (obtain ⟨Aoz_, coz_, eoz_⟩ := Kd.S_slice HO_630000.out; subst eoz_) | skip)
              obtain ⟨ad652, A652_0, c652_0, e652, hx652_0, hl652_0, hi652_0⟩ := at_L1 (Kd.S_reads' HO_630000.out).2.2 x15_2 p652 q652
              obtain rfl : ad643 = ad652 := (by injection e652)
              obtain ⟨ce652, hce652, hMe652, hcc652⟩ := Kd.S_get HO_630000.out [] x15_2 p652 (by first | exact q652 | exact of_decide_eq_true (by first | (with_reducible assumption) | assumption) | (have e_ := (Kd.S_reads' HO_630000.out).1; omega))
              obtain ⟨ve652_0, rfl, ge652_0⟩ := hMe652
              have hv652_0 := hcc652 0 _ rfl
              rw [Nat.add_zero, show ((Kd.slice 2 (Kd.int .i64))).sz = 1 from rfl, Nat.mul_one] at hv652_0
              replace hv652_0 := Option.some.inj (hv652_0.symm.trans hx652_0)
              rw [hv652_0] at ge652_0
              have HL652_0 := Aside0.mk (show Kd.R (Kd.int .i64) 2 _ _ _ _ (rd_L1 t626 x15_2) from ge652_0)
              clear hv652_0 ge652_0
              clear hcc652 hce652
              have HR652_0 := Aside0.mk hi652_0
              have HC652_0 := Aside0.mk hl652_0
              clear hi652_0 hl652_0
              replace p652 := eq_true p652
              replace q652 := eq_true q652
              have p653 : 0 ≤ (x15_2 : Int) := of_decide_eq_true (by first | (with_reducible assumption) | assumption)
              have q653 : x15_2 < (t635.length : Int) := of_decide_eq_true (by first | (with_reducible assumption) | assumption)
              (first | (obtain ⟨Aoz_, coz_, eoz_⟩ := Kd.S_slice HO_8.out; subst eoz_) | skip)
              obtain ⟨ad653, A653_0, c653_0, e653, hx653_0, hl653_0, hi653_0⟩ := at_L1 (Kd.S_reads' HO_8.out).2.2 x15_2 p653 q653
              cases e653
              obtain ⟨ce653, hce653, hMe653, hcc653⟩ := Kd.S_get HO_8.out [] x15_2 p653 (by first | exact q653 | exact of_decide_eq_true (by first | (with_reducible assumption) | assumption) | (have e_ := (Kd.S_reads' HO_8.out).1; omega))
              obtain ⟨ve653_0, rfl, ge653_0⟩ := hMe653
              have hv653_0 := hcc653 0 _ rfl
              rw [Nat.add_zero, show ((Kd.slice 2 (Kd.int .i64))).sz = 1 from rfl, Nat.mul_one] at hv653_0
              replace hv653_0 := Option.some.inj (hv653_0.symm.trans hx653_0)
              rw [hv653_0] at ge653_0
              have HL653_0 := Aside0.mk (show Kd.R (Kd.int .i64) 2 _ _ _ _ (rd_L1 t635 x15_2) from ge653_0)
              clear hv653_0 ge653_0
              clear hcc653 hce653
              have HR653_0 := Aside0.mk hi653_0
              have HC653_0 := Aside0.mk hl653_0
              clear hi653_0 hl653_0
              replace p653 := eq_true p653
              replace q653 := eq_true q653
              have p654 : 0 ≤ (x15_2 : Int) := of_decide_eq_true (by first | (with_reducible assumption) | assumption)
              have q654 : x15_2 < (t626.length : Int) := of_decide_eq_true (by first | (with_reducible assumption) | assumption)
              (first | (obtain ⟨Aoz_, coz_, eoz_⟩ := Kd.S_slice HO_630000.out; subst eoz_) | skip)
              obtain ⟨ad654, A654_0, c654_0, e654, hx654_0, hl654_0, hi654_0⟩ := at_L1 (Kd.S_reads' HO_630000.out).2.2 x15_2 p654 q654
              obtain rfl : ad643 = ad654 := (by injection e654)
              obtain ⟨ce654, hce654, hMe654, hcc654⟩ := Kd.S_get HO_630000.out [] x15_2 p654 (by first | exact q654 | exact of_decide_eq_true (by first | (with_reducible assumption) | assumption) | (have e_ := (Kd.S_reads' HO_630000.out).1; omega))
              obtain ⟨ve654_0, rfl, ge654_0⟩ := hMe654
              have hv654_0 := hcc654 0 _ rfl
              rw [Nat.add_zero, show ((Kd.slice 2 (Kd.int .i64))).sz = 1 from rfl, Nat.mul_one] at hv654_0
              replace hv654_0 := Option.some.inj (hv654_0.symm.trans hx654_0)
              rw [hv654_0] at ge654_0
              have HL654_0 := Aside0.mk (show Kd.R (Kd.int .i64) 2 _ _ _ _ (rd_L1 t626 x15_2) from ge654_0)
              clear hv654_0 ge654_0
              clear hcc654 hce654
              have HR654_0 := Aside0.mk hi654_0
              have HC654_0 := Aside0.mk hl654_0
              clear hi654_0 hl654_0
              replace p654 := eq_true p654
              replace q654 := eq_true q654
              have ea_ := Option.some.inj (hx652_0.symm.trans hx654_0)
              injection ea_ with ea_ en_ ec_
              subst ea_
              subst ec_
              clear en_
              go_wp2
              repeat (go_quiet (fail); try go_wp2)
              go_meet
              case rel => exact ⟨_, ((((rd_L1 t635 x15_2).length : Int) != ((rd_L1 t626 x15_2).length : Int))), (by first | rfl | (simp; done) | (simp [*]; done)), H', ⟨by have := HJ12.out; have := HK2.out; first | omega | exact Nat.le_refl _⟩, ⟨by (with_reducible repeat (first | apply Kd.S_alloc | apply Kd.S_drewN | apply Kd.S_drew)); exact HO_8.out⟩, ⟨by (with_reducible repeat (first | apply Kd.S_alloc | apply Kd.S_drewN | apply Kd.S_drew)); exact HO_10.out⟩, ⟨by (with_reducible repeat (first | apply Kd.S_alloc | apply Kd.S_drewN | apply Kd.S_drew)); exact HO_13.out⟩, ⟨by (with_reducible repeat (first | apply Kd.S_alloc | apply Kd.S_drewN | apply Kd.S_drew)); exact HO_630000.out⟩, ⟨by (with_reducible repeat (first | refine blk_drewN ?_ _ | refine blk_drew ?_ | refine blk_alloc ?_ _)); exact BK629.out⟩, ⟨by repeat (first | (with_reducible exact HR643_0.out) | (with_reducible refine Kd.C_alloc ?_ _) | (with_reducible refine Kd.C_drewN ?_ _) | (with_reducible refine Kd.C_drew ?_) | exact HR643_0.out)⟩, ⟨by repeat (first | (with_reducible first | exact HB.out | apply below_alloc | apply pw_below_drewN | apply below_drew1 | refine below_set ?_ GE629.out) | exact HB.out)⟩⟩
             ·rw [if_neg c44] at H
              exact absurd H (by simp)
            ·rw [if_neg c43] at H
             have c43b0 : (((rd_L1 t639 x15_2).length : Int) == ((rd_L1 t626 x15_2).length : Int)) = false := beq_eq_false_iff_ne.mpr c43
             have c43b1 : (((rd_L1 t639 x15_2).length : Int) != ((rd_L1 t626 x15_2).length : Int)) = true := bne_iff_ne.mpr c43
             have c43b2 : ((rd_L1 t639 x15_2).length == (rd_L1 t626 x15_2).length) = false := by first | simpa using c43 | (simp at c43 ⊢; omega)
             have H' := Aside0.mk H
             clear H
             have p651 : 0 ≤ (x15_2 : Int) := of_decide_eq_true (by first | (with_reducible assumption) | assumption)
             have q651 : x15_2 < (t639.length : Int) := of_decide_eq_true (by first | (with_reducible assumption) | assumption)
             (first | (obtain ⟨Aoz_, coz_, eoz_⟩ := Kd.S_slice HO_10.out; subst eoz_) | skip)
             obtain ⟨ad651, A651_0, c651_0, e651, hx651_0, hl651_0, hi651_0⟩ := at_L1 (Kd.S_reads' HO_10.out).2.2 x15_2 p651 q651
             cases e651
             obtain ⟨ce651, hce651, hMe651, hcc651⟩ := Kd.S_get HO_10.out [] x15_2 p651 (by first | exact q651 | exact of_decide_eq_true (by first | (with_reducible assumption) | assumption) | (have e_ := (Kd.S_reads' HO_10.out).1; omega))
             obtain ⟨ve651_0, rfl, ge651_0⟩ := hMe651
             have hv651_0 := hcc651 0 _ rfl
             rw [Nat.add_zero, show ((Kd.slice 2 (Kd.int .i64))).sz = 1 from rfl, Nat.mul_one] at hv651_0
             replace hv651_0 := Option.some.inj (hv651_0.symm.trans hx651_0)
             rw [hv651_0] at ge651_0
             have HL651_0 := Aside0.mk (show Kd.R (Kd.int .i64) 2 _ _ _ _ (rd_L1 t639 x15_2) from ge651_0)
             clear hv651_0 ge651_0
             clear hcc651 hce651
             have HR651_0 := Aside0.mk hi651_0
             have HC651_0 := Aside0.mk hl651_0
             clear hi651_0 hl651_0
             replace p651 := eq_true p651
             replace q651 := eq_true q651
             have hcz46_0 : wr.cell? ⟨gb629, 0, none⟩ = some (.slice (some ad643) t626.length co16) := (blk_cell BK629.out 0).trans rfl
             have hfz46_0 := blk_frozen BK629.out 0
             have p652 : 0 ≤ (x15_2 : Int) := of_decide_eq_true (by first | (with_reducible assumption) | assumption)
             have q652 : x15_2 < (t626.length : Int) := of_decide_eq_true (by first | (with_reducible assumption) | assumption)
             (first | (obtain ⟨Aoz_, coz_, eoz_⟩ := Kd.S_slice HO_630000.out; subst eoz_) | skip)
             obtain ⟨ad652, A652_0, c652_0, e652, hx652_0, hl652_0, hi652_0⟩ := at_L1 (Kd.S_reads' HO_630000.out).2.2 x15_2 p652 q652
             obtain rfl : ad643 = ad652 := (by injection e652)
             obtain ⟨ce652, hce652, hMe652, hcc652⟩ := Kd.S_get HO_630000.out [] x15_2 p652 (by first | exact q652 | exact of_decide_eq_true (by first | (with_reducible assumption) | assumption) | (have e_ := (Kd.S_reads' HO_630000.out).1; omega))
             obtain ⟨ve652_0, rfl, ge652_0⟩ := hMe652
             have hv652_0 := hcc652 0 _ rfl
             rw [Nat.add_zero, show ((Kd.slice 2 (Kd.int .i64))).sz = 1 from rfl, Nat.mul_one] at hv652_0
             replace hv652_0 := Option.some.inj (hv652_0.symm.trans hx652_0)
             rw [hv652_0] at ge652_0
             have HL652_0 := Aside0.mk (show Kd.R (Kd.int .i64) 2 _ _ _ _ (rd_L1 t626 x15_2) from ge652_0)
             clear hv652_0 ge652_0
             clear hcc652 hce652
             have HR652_0 := Aside0.mk hi652_0
             have HC652_0 := Aside0.mk hl652_0
             clear hi652_0 hl652_0
             replace p652 := eq_true p652
             replace q652 := eq_true q652
             go_wp2
             repeat (go_quiet (fail); try go_wp2)
             go_meet
             case rel => exact ⟨_, (true), (by first | rfl | (simp; done) | (simp [*]; done)), H', ⟨by have := HJ12.out; have := HK2.out; first | omega | exact Nat.le_refl _⟩, ⟨by (with_reducible repeat (first | apply Kd.S_alloc | apply Kd.S_drewN | apply Kd.S_drew)); exact HO_8.out⟩, ⟨by (with_reducible repeat (first | apply Kd.S_alloc | apply Kd.S_drewN | apply Kd.S_drew)); exact HO_10.out⟩, ⟨by (with_reducible repeat (first | apply Kd.S_alloc | apply Kd.S_drewN | apply Kd.S_drew)); exact HO_13.out⟩, ⟨by (with_reducible repeat (first | apply Kd.S_alloc | apply Kd.S_drewN | apply Kd.S_drew)); exact HO_630000.out⟩, ⟨by (with_reducible repeat (first | refine blk_drewN ?_ _ | refine blk_drew ?_ | refine blk_alloc ?_ _)); exact BK629.out⟩, ⟨by repeat (first | (with_reducible exact HR643_0.out) | (with_reducible refine Kd.C_alloc ?_ _) | (with_reducible refine Kd.C_drewN ?_ _) | (with_reducible refine Kd.C_drew ?_) | exact HR643_0.out)⟩, ⟨by repeat (first | (with_reducible first | exact HB.out | apply below_alloc | apply pw_below_drewN | apply below_drew1 | refine below_set ?_ GE629.out) | exact HB.out)⟩⟩
           ·rw [if_neg c42] at H
            exact absurd H (by simp)
          ·rw [if_neg c41] at H
           exact absurd H (by simp)
         case rest =>
          clear HC39
          try clear c1
          try clear c2
          try clear p2
          try clear c3
          try clear c4
          try clear c6
          try clear p6
          try clear q6
          try clear hx6
          try clear qi6
          try clear c10
          try clear c10b0
          try clear c10b1
          try clear c12
          try clear c27
          try clear c28
          try clear c29
          try clear c30
          try clear c31
          try clear c31b0
          try clear c31b1
          try clear c31b2
          try clear c37
          try clear c38
          try clear c38b0
          try clear c41
          try clear c41b0
          try clear c42
          try clear c42b0
          try clear c43
          try clear c43b0
          try clear c43b1
          try clear c43b2
          try clear c44
          try clear c44b0
          try clear hcz17_0
          try clear hcz19_0
          try clear hcz22_0
          try clear hcz25_0
          try clear hcz33_0
          try clear hcz36_0
          try clear hcz45_0
          try clear hcz46_0
          try clear hfz17_0
          try clear hfz19_0
          try clear hfz22_0
          try clear hfz25_0
          try clear hfz33_0
          try clear hfz36_0
          try clear hfz45_0
          try clear hfz46_0
          try clear hx643_0
          try clear hx651_0
          try clear hx652_0
          try clear hx653_0
          try clear hx654_0
          try clear p2
          try clear p6
          try clear p643
          try clear p651
          try clear p652
          try clear p653
          try clear p654
          try clear q6
          try clear q643
          try clear q651
          try clear q652
          try clear q653
          try clear q654
          obtain ⟨kq, x119_38, rfl, HA, HJ38, HO_8, HO_10, HO_13, HO_630000, BK629, HR643_0, HB⟩ := hcut
          cases kq with
          | zero => exact absurd HA.out (by simp [laws_FnBlocks.j2])
          | succ kj38 =>
           have H := HA.out
           clear HA
           simp only [laws_FnBlocks.j2] at H
           by_cases c47 : x119_38 = true
           ·subst c47
            have H1 : (some false) = some r := by rw [if_pos rfl] at H; exact H
            clear H
            have H := H1
            clear H1
            obtain rfl := Option.some.inj H
            go_wp2
            repeat (go_quiet (fail); try go_wp2)
            go_ret
            exact ⟨by first | rfl | (simp [errW_none, errW_some] <;> rfl) | (simp [*, errW_none, errW_some] <;> rfl), by repeat (first | (with_reducible first | exact HB.out | apply below_alloc | apply pw_below_drewN | apply below_drew1 | refine below_set ?_ GE629.out) | exact HB.out)⟩
           ·replace c47 := Bool.eq_false_iff.mpr c47
            subst c47
            have H1 : (laws_FnBlocks.l1 kj38 t635 t639 t645 x15_2 0 t626) = some r := by rw [if_neg (show ¬ (false = true) by decide)] at H; exact H
            clear H
            have H := H1
            clear H1
            have H' := Aside0.mk H
            clear H
            go_wp2
            repeat (go_quiet (fail); try go_wp2)
            go_loopg [16] kj38 (fun kq v16 w' => ∃ (x16_4 : Int), v16 = .int .i64 x16_4 ∧ Aside0 (laws_FnBlocks.l1 kq t635 t639 t645 x15_2 x16_4 t626 = some r) ∧ Aside0 (kq ≤ kj38) ∧ Aside0 (Kd.S (Kd.slice 2 (Kd.int .i64)) 34 w' w.heap.size (fun k_ => some k_ ≠ ((.slice Ao40 t639.length co40) : Value).ownBlock ∧ some k_ ≠ (v646 : Value).ownBlock ∧ some k_ ≠ ((.slice (some ad643) t626.length co16) : Value).ownBlock) (.slice Ao23 t635.length co23) t635) ∧ Aside0 (Kd.S (Kd.slice 2 (Kd.int .i64)) 34 w' w.heap.size (fun k_ => some k_ ≠ ((.slice Ao23 t635.length co23) : Value).ownBlock ∧ some k_ ≠ (v646 : Value).ownBlock ∧ some k_ ≠ ((.slice (some ad643) t626.length co16) : Value).ownBlock) (.slice Ao40 t639.length co40) t639) ∧ Aside0 (Kd.S (Kd.slice 2 (Kd.int .i64)) 34 w' w.heap.size (fun k_ => some k_ ≠ ((.slice Ao23 t635.length co23) : Value).ownBlock ∧ some k_ ≠ ((.slice Ao40 t639.length co40) : Value).ownBlock ∧ some k_ ≠ ((.slice (some ad643) t626.length co16) : Value).ownBlock) v646 t645) ∧ Aside0 (Kd.S (Kd.slice 2 (Kd.int .i64)) 34 w' w.heap.size (fun k_ => some k_ ≠ ((.slice Ao23 t635.length co23) : Value).ownBlock ∧ some k_ ≠ ((.slice Ao40 t639.length co40) : Value).ownBlock ∧ some k_ ≠ (v646 : Value).ownBlock) (.slice (some ad643) t626.length co16) t626) ∧ Aside0 (w'.heap[gb629]? = some (.cells #[(.slice (some ad643) t626.length co16)] 33 (0, 0))) ∧ Aside0 (Kd.C (Kd.int .i64) w' A643_0 (rd_L1 t626 0).length (rd_L1 t626 0)) ∧ Aside0 (Below w.heap.size w w'))
            case atStart => exact ⟨(0), (by first | rfl | (simp; done) | (simp [*]; done)), H', ⟨Nat.le_refl _⟩, ⟨by (with_reducible repeat (first | apply Kd.S_alloc | apply Kd.S_drewN | apply Kd.S_drew)); exact HO_8.out⟩, ⟨by (with_reducible repeat (first | apply Kd.S_alloc | apply Kd.S_drewN | apply Kd.S_drew)); exact HO_10.out⟩, ⟨by (with_reducible repeat (first | apply Kd.S_alloc | apply Kd.S_drewN | apply Kd.S_drew)); exact HO_13.out⟩, ⟨by (with_reducible repeat (first | apply Kd.S_alloc | apply Kd.S_drewN | apply Kd.S_drew)); exact HO_630000.out⟩, ⟨by (with_reducible repeat (first | refine blk_drewN ?_ _ | refine blk_drew ?_ | refine blk_alloc ?_ _)); exact BK629.out⟩, ⟨by repeat (first | (with_reducible exact HR643_0.out) | (with_reducible refine Kd.C_alloc ?_ _) | (with_reducible refine Kd.C_drewN ?_ _) | (with_reducible refine Kd.C_drew ?_) | exact HR643_0.out)⟩, ⟨by repeat (first | (with_reducible first | exact HB.out | apply below_alloc | apply pw_below_drewN | apply below_drew1 | refine below_set ?_ GE629.out) | exact HB.out)⟩⟩
            case round =>
             clear H'
             try clear c1
             try clear c2
             try clear p2
             try clear c3
             try clear c4
             try clear c6
             try clear p6
             try clear q6
             try clear hx6
             try clear qi6
             try clear c10
             try clear c10b0
             try clear c10b1
             try clear c12
             try clear c27
             try clear c28
             try clear c29
             try clear c30
             try clear c31
             try clear c31b0
             try clear c31b1
             try clear c31b2
             try clear c37
             try clear c38
             try clear c38b0
             try clear c41
             try clear c41b0
             try clear c42
             try clear c42b0
             try clear c43
             try clear c43b0
             try clear c43b1
             try clear c43b2
             try clear c44
             try clear c44b0
             try clear c47
             try clear hcz17_0
             try clear hcz19_0
             try clear hcz22_0
             try clear hcz25_0
             try clear hcz33_0
             try clear hcz36_0
             try clear hcz45_0
             try clear hcz46_0
             try clear hfz17_0
             try clear hfz19_0
             try clear hfz22_0
             try clear hfz25_0
             try clear hfz33_0
             try clear hfz36_0
             try clear hfz45_0
             try clear hfz46_0
             try clear hx643_0
             try clear hx651_0
             try clear hx652_0
             try clear hx653_0
             try clear hx654_0
             try clear p2
             try clear p6
             try clear p643
             try clear p651
             try clear p652
             try clear p653
             try clear p654
             try clear q6
             try clear q643
             try clear q651
             try clear q652
             try clear q653
             try clear q654
             obtain ⟨x16_4, rfl, HA, HK4, HO_8, HO_10, HO_13, HO_630000, BK629, HR643_0, HB⟩ := hrel
             cases gk with
             | zero => exact absurd HA.out (by simp [laws_FnBlocks.l1])
             | succ k4 =>
              have H := HA.out
              clear HA
              simp only [laws_FnBlocks.l1] at H
              by_cases c48 : 0 ≤ x15_2
              ·rw [if_pos c48] at H
               have c48b0 : decide (0 ≤ x15_2) = true := decide_eq_true c48
               clear c48
               by_cases c49 : x15_2 < (t639.length : Int)
               ·rw [if_pos c49] at H
                have c49b0 : decide (x15_2 < (t639.length : Int)) = true := decide_eq_true c49
                clear c49
                by_cases c50 : x16_4 < ((rd_L1 t639 x15_2).length : Int)
                ·rw [if_pos c50] at H
                 have c50b0 : decide (x16_4 < ((rd_L1 t639 x15_2).length : Int)) = true := decide_eq_true c50
                 clear c50
                 by_cases c51 : 0 ≤ x16_4
                 ·rw [if_pos c51] at H
                  have c51b0 : decide (0 ≤ x16_4) = true := decide_eq_true c51
                  clear c51
                  by_cases c52 : x15_2 < (t626.length : Int)
                  ·rw [if_pos c52] at H
                   have c52b0 : decide (x15_2 < (t626.length : Int)) = true := decide_eq_true c52
                   clear c52
                   by_cases c53 : x16_4 < ((rd_L1 t626 x15_2).length : Int)
                   ·rw [if_pos c53] at H
                    have c53b0 : decide (x16_4 < ((rd_L1 t626 x15_2).length : Int)) = true := decide_eq_true c53
                    clear c53
                    by_cases c54 : x15_2 < (t635.length : Int)
                    ·rw [if_pos c54] at H
                     have c54b0 : decide (x15_2 < (t635.length : Int)) = true := decide_eq_true c54
                     clear c54
                     by_cases c55 : x16_4 < ((rd_L1 t635 x15_2).length : Int)
                     ·rw [if_pos c55] at H
                      have c55b0 : decide (x16_4 < ((rd_L1 t635 x15_2).length : Int)) = true := decide_eq_true c55
                      clear c55
                      by_cases c56 : (rd (rd_L1 t639 x15_2) x16_4) = (wrap64 ((rd (rd_L1 t626 x15_2) x16_4) - (wrap64 (255 * (rd (rd_L1 t635 x15_2) x16_4)))))
                      ·rw [if_pos c56] at H
                       have c56b0 : ((rd (rd_L1 t639 x15_2) x16_4) == (wrap64 ((rd (rd_L1 t626 x15_2) x16_4) - (wrap64 (255 * (rd (rd_L1 t635 x15_2) x16_4)))))) = true := beq_iff_eq.mpr c56
                       have c56b1 : ((rd (rd_L1 t639 x15_2) x16_4) != (wrap64 ((rd (rd_L1 t626 x15_2) x16_4) - (wrap64 (255 * (rd (rd_L1 t635 x15_2) x16_4)))))) = false := bne_eq_false_iff_eq.mpr c56
                       clear c56
                       have H' := Aside0.mk H
                       clear H
                       have p655 : 0 ≤ (x15_2 : Int) := of_decide_eq_true (by first | (with_reducible assumption) | assumption)
                       have q655 : x15_2 < (t639.length : Int) := of_decide_eq_true (by first | (with_reducible assumption) | assumption)
                       (first | (obtain ⟨Aoz_, coz_, eoz_⟩ := Kd.S_slice HO_10.out; subst eoz_) | skip)
                       obtain ⟨ad655, A655_0, c655_0, e655, hx655_0, hl655_0, hi655_0⟩ := at_L1 (Kd.S_reads' HO_10.out).2.2 x15_2 p655 q655
                       cases e655
                       obtain ⟨ce655, hce655, hMe655, hcc655⟩ := Kd.S_get HO_10.out [] x15_2 p655 (by first | exact q655 | exact of_decide_eq_true (by first | (with_reducible assumption) | assumption) | (have e_ := (Kd.S_reads' HO_10.out).1; omega))
                       obtain ⟨ve655_0, rfl, ge655_0⟩ := hMe655
                       have hv655_0 := hcc655 0 _ rfl
                       rw [Nat.add_zero, show ((Kd.slice 2 (Kd.int .i64))).sz = 1 from rfl, Nat.mul_one] at hv655_0
                       replace hv655_0 := Option.some.inj (hv655_0.symm.trans hx655_0)
                       rw [hv655_0] at ge655_0
                       have HL655_0 := Aside0.mk (show Kd.R (Kd.int .i64) 2 _ _ _ _ (rd_L1 t639 x15_2) from ge655_0)
                       clear hv655_0 ge655_0
                       clear hcc655 hce655
                       have HR655_0 := Aside0.mk hi655_0
                       have HC655_0 := Aside0.mk hl655_0
                       clear hi655_0 hl655_0
                       replace p655 := eq_true p655
                       replace q655 := eq_true q655
                       have p656 : 0 ≤ (x15_2 : Int) := of_decide_eq_true (by first | (with_reducible assumption) | assumption)
                       have q656 : x15_2 < (t639.length : Int) := of_decide_eq_true (by first | (with_reducible assumption) | assumption)
                       (first | (obtain ⟨Aoz_, coz_, eoz_⟩ := Kd.S_slice HO_10.out; subst eoz_) | skip)
                       obtain ⟨ad656, A656_0, c656_0, e656, hx656_0, hl656_0, hi656_0⟩ := at_L1 (Kd.S_reads' HO_10.out).2.2 x15_2 p656 q656
                       obtain rfl : ad655 = ad656 := (by injection e656)
                       obtain ⟨ce656, hce656, hMe656, hcc656⟩ := Kd.S_get HO_10.out [] x15_2 p656 (by first | exact q656 | exact of_decide_eq_true (by first | (with_reducible assumption) | assumption) | (have e_ := (Kd.S_reads' HO_10.out).1; omega))
                       obtain ⟨ve656_0, rfl, ge656_0⟩ := hMe656
                       have hv656_0 := hcc656 0 _ rfl
                       rw [Nat.add_zero, show ((Kd.slice 2 (Kd.int .i64))).sz = 1 from rfl, Nat.mul_one] at hv656_0
                       replace hv656_0 := Option.some.inj (hv656_0.symm.trans hx656_0)
                       rw [hv656_0] at ge656_0
                       have HL656_0 := Aside0.mk (show Kd.R (Kd.int .i64) 2 _ _ _ _ (rd_L1 t639 x15_2) from ge656_0)
                       clear hv656_0 ge656_0
                       clear hcc656 hce656
                       have HR656_0 := Aside0.mk hi656_0
                       have HC656_0 := Aside0.mk hl656_0
                       clear hi656_0 hl656_0
                       replace p656 := eq_true p656
                       replace q656 := eq_true q656
                       have ea_ := Option.some.inj (hx655_0.symm.trans hx656_0)
                       injection ea_ with ea_ en_ ec_
                       subst ea_
                       subst ec_
                       clear en_
                       have p657 : 0 ≤ (x16_4 : Int) := of_decide_eq_true (by first | (with_reducible assumption) | assumption)
                       have q657 : x16_4 < ((rd_L1 t639 x15_2).length : Int) := of_decide_eq_true (by first | (with_reducible assumption) | assumption)
                       obtain ⟨ad657, e657, hx657_0⟩ := Kd.at_int (by repeat (first | (with_reducible exact HR656_0.out) | (with_reducible refine Kd.C_alloc ?_ _) | (with_reducible refine Kd.C_drewN ?_ _) | (with_reducible refine Kd.C_drew ?_) | exact HR656_0.out)) x16_4 p657 q657
                       cases e657
                       replace p657 := eq_true p657
                       replace q657 := eq_true q657
                       have hcz57_0 : wr.cell? ⟨gb629, 0, none⟩ = some (.slice (some ad643) t626.length co16) := (blk_cell BK629.out 0).trans rfl
                       have hfz57_0 := blk_frozen BK629.out 0
                       have p658 : 0 ≤ (x15_2 : Int) := of_decide_eq_true (by first | (with_reducible assumption) | assumption)
                       have q658 : x15_2 < (t626.length : Int) := of_decide_eq_true (by first | (with_reducible assumption) | assumption)
                       (first | (obtain ⟨Aoz_, coz_, eoz_⟩ := Kd.S_slice HO_630000.out; subst eoz_) | skip)
                       obtain ⟨ad658, A658_0, c658_0, e658, hx658_0, hl658_0, hi658_0⟩ := at_L1 (Kd.S_reads' HO_630000.out).2.2 x15_2 p658 q658
                       obtain rfl : ad643 = ad658 := (by injection e658)
                       obtain ⟨ce658, hce658, hMe658, hcc658⟩ := Kd.S_get HO_630000.out [] x15_2 p658 (by first | exact q658 | exact of_decide_eq_true (by first | (with_reducible assumption) | assumption) | (have e_ := (Kd.S_reads' HO_630000.out).1; omega))
                       obtain ⟨ve658_0, rfl, ge658_0⟩ := hMe658
                       have hv658_0 := hcc658 0 _ rfl
                       rw [Nat.add_zero, show ((Kd.slice 2 (Kd.int .i64))).sz = 1 from rfl, Nat.mul_one] at hv658_0
                       replace hv658_0 := Option.some.inj (hv658_0.symm.trans hx658_0)
                       rw [hv658_0] at ge658_0
                       have HL658_0 := Aside0.mk (show Kd.R (Kd.int .i64) 2 _ _ _ _ (rd_L1 t626 x15_2) from ge658_0)
                       clear hv658_0 ge658_0
                       clear hcc658 hce658
                       have HR658_0 := Aside0.mk hi658_0
                       have HC658_0 := Aside0.mk hl658_0
                       clear hi658_0 hl658_0
                       replace p658 := eq_true p658
                       replace q658 := eq_true q658
                       have p659 : 0 ≤ (x16_4 : Int) := of_decide_eq_true (by first | (with_reducible assumption) | assumption)
                       have q659 : x16_4 < ((rd_L1 t626 x15_2).length : Int) := of_decide_eq_true (by first | (with_reducible assumption) | assumption)
                       obtain ⟨ad659, e659, hx659_0⟩ := Kd.at_int (by repeat (first | (with_reducible exact HR658_0.out) | (with_reducible refine Kd.C_alloc ?_ _) | (with_reducible refine Kd.C_drewN ?_ _) | (with_reducible refine Kd.C_drew ?_) | exact HR658_0.out)) x16_4 p659 q659
                       cases e659
                       replace p659 := eq_true p659
                       replace q659 := eq_true q659
                       have p660 : 0 ≤ (x15_2 : Int) := of_decide_eq_true (by first | (with_reducible assumption) | assumption)
                       have q660 : x15_2 < (t635.length : Int) := of_decide_eq_true (by first | (with_reducible assumption) | assumption)
                       (first | (obtain ⟨Aoz_, coz_, eoz_⟩ := Kd.S_slice HO_8.out; subst eoz_) | skip)
                       obtain ⟨ad660, A660_0, c660_0, e660, hx660_0, hl660_0, hi660_0⟩ := at_L1 (Kd.S_reads' HO_8.out).2.2 x15_2 p660 q660
                       cases e660
                       obtain ⟨ce660, hce660, hMe660, hcc660⟩ := Kd.S_get HO_8.out [] x15_2 p660 (by first | exact q660 | exact of_decide_eq_true (by first | (with_reducible assumption) | assumption) | (have e_ := (Kd.S_reads' HO_8.out).1; omega))
                       obtain ⟨ve660_0, rfl, ge660_0⟩ := hMe660
                       have hv660_0 := hcc660 0 _ rfl
                       rw [Nat.add_zero, show ((Kd.slice 2 (Kd.int .i64))).sz = 1 from rfl, Nat.mul_one] at hv660_0
                       replace hv660_0 := Option.some.inj (hv660_0.symm.trans hx660_0)
                       rw [hv660_0] at ge660_0
                       have HL660_0 := Aside0.mk (show Kd.R (Kd.int .i64) 2 _ _ _ _ (rd_L1 t635 x15_2) from ge660_0)
                       clear hv660_0 ge660_0
                       clear hcc660 hce660
                       have HR660_0 := Aside0.mk hi660_0
                       have HC660_0 := Aside0.mk hl660_0
                       clear hi660_0 hl660_0
                       replace p660 := eq_true p660
                       replace q660 := eq_true q660
                       have p661 : 0 ≤ (x16_4 : Int) := of_decide_eq_true (by first | (with_reducible assumption) | assumption)
                       have q661 : x16_4 < ((rd_L1 t635 x15_2).length : Int) := of_decide_eq_true (by first | (with_reducible assumption) | assumption)
                       obtain ⟨ad661, e661, hx661_0⟩ := Kd.at_int (by repeat (first | (with_reducible exact HR660_0.out) | (with_reducible refine Kd.C_alloc ?_ _) | (with_reducible refine Kd.C_drewN ?_ _) | (with_reducible refine Kd.C_drew ?_) | exact HR660_0.out)) x16_4 p661 q661
                       cases e661
                       replace p661 := eq_true p661
                       replace q661 := eq_true q661
                       go_wp2
                       repeat (go_quiet (fail); try go_wp2)
                       go_roundg k4
                       case measure => have := HJ12.out; have := HK2.out; have := HJ38.out; have := HK4.out; omega
                       case rel => exact ⟨(wrap64 (x16_4 + 1)), (by first | rfl | (simp; done) | (simp [*]; done)), H', ⟨by have := HJ12.out; have := HK2.out; have := HJ38.out; have := HK4.out; omega⟩, ⟨by (with_reducible repeat (first | apply Kd.S_alloc | apply Kd.S_drewN | apply Kd.S_drew)); exact HO_8.out⟩, ⟨by (with_reducible repeat (first | apply Kd.S_alloc | apply Kd.S_drewN | apply Kd.S_drew)); exact HO_10.out⟩, ⟨by (with_reducible repeat (first | apply Kd.S_alloc | apply Kd.S_drewN | apply Kd.S_drew)); exact HO_13.out⟩, ⟨by (with_reducible repeat (first | apply Kd.S_alloc | apply Kd.S_drewN | apply Kd.S_drew)); exact HO_630000.out⟩, ⟨by (with_reducible repeat (first | refine blk_drewN ?_ _ | refine blk_drew ?_ | refine blk_alloc ?_ _)); exact BK629.out⟩, ⟨by repeat (first | (with_reducible exact HR643_0.out) | (with_reducible refine Kd.C_alloc ?_ _) | (with_reducible refine Kd.C_drewN ?_ _) | (with_reducible refine Kd.C_drew ?_) | exact HR643_0.out)⟩, ⟨by repeat (first | (with_reducible first | exact HB.out | apply below_alloc | apply pw_below_drewN | apply below_drew1 | refine below_set ?_ GE629.out) | exact HB.out)⟩⟩
                      ·rw [if_neg c56] at H
                       have c56b0 : ((rd (rd_L1 t639 x15_2) x16_4) == (wrap64 ((rd (rd_L1 t626 x15_2) x16_4) - (wrap64 (255 * (rd (rd_L1 t635 x15_2) x16_4)))))) = false := beq_eq_false_iff_ne.mpr c56
                       have c56b1 : ((rd (rd_L1 t639 x15_2) x16_4) != (wrap64 ((rd (rd_L1 t626 x15_2) x16_4) - (wrap64 (255 * (rd (rd_L1 t635 x15_2) x16_4)))))) = true := bne_iff_ne.mpr c56
                       obtain rfl := Option.some.inj H
                       have p655 : 0 ≤ (x15_2 : Int) := of_decide_eq_true (by first | (with_reducible assumption) | assumption)
                       have q655 : x15_2 < (t639.length : Int) := of_decide_eq_true (by first | (with_reducible assumption) | assumption)
                       (first | (obtain ⟨Aoz_, coz_, eoz_⟩ := Kd.S_slice HO_10.out; subst eoz_) | skip)
                       obtain ⟨ad655, A655_0, c655_0, e655, hx655_0, hl655_0, hi655_0⟩ := at_L1 (Kd.S_reads' HO_10.out).2.2 x15_2 p655 q655
                       cases e655
                       obtain ⟨ce655, hce655, hMe655, hcc655⟩ := Kd.S_get HO_10.out [] x15_2 p655 (by first | exact q655 | exact of_decide_eq_true (by first | (with_reducible assumption) | assumption) | (have e_ := (Kd.S_reads' HO_10.out).1; omega))
                       obtain ⟨ve655_0, rfl, ge655_0⟩ := hMe655
                       have hv655_0 := hcc655 0 _ rfl
                       rw [Nat.add_zero, show ((Kd.slice 2 (Kd.int .i64))).sz = 1 from rfl, Nat.mul_one] at hv655_0
                       replace hv655_0 := Option.some.inj (hv655_0.symm.trans hx655_0)
                       rw [hv655_0] at ge655_0
                       have HL655_0 := Aside0.mk (show Kd.R (Kd.int .i64) 2 _ _ _ _ (rd_L1 t639 x15_2) from ge655_0)
                       clear hv655_0 ge655_0
                       clear hcc655 hce655
                       have HR655_0 := Aside0.mk hi655_0
                       have HC655_0 := Aside0.mk hl655_0
                       clear hi655_0 hl655_0
                       replace p655 := eq_true p655
                       replace q655 := eq_true q655
                       have p656 : 0 ≤ (x15_2 : Int) := of_decide_eq_true (by first | (with_reducible assumption) | assumption)
                       have q656 : x15_2 < (t639.length : Int) := of_decide_eq_true (by first | (with_reducible assumption) | assumption)
                       (first | (obtain ⟨Aoz_, coz_, eoz_⟩ := Kd.S_slice HO_10.out; subst eoz_) | skip)
                       obtain ⟨ad656, A656_0, c656_0, e656, hx656_0, hl656_0, hi656_0⟩ := at_L1 (Kd.S_reads' HO_10.out).2.2 x15_2 p656 q656
                       obtain rfl : ad655 = ad656 := (by injection e656)
                       obtain ⟨ce656, hce656, hMe656, hcc656⟩ := Kd.S_get HO_10.out [] x15_2 p656 (by first | exact q656 | exact of_decide_eq_true (by first | (with_reducible assumption) | assumption) | (have e_ := (Kd.S_reads' HO_10.out).1; omega))
                       obtain ⟨ve656_0, rfl, ge656_0⟩ := hMe656
                       have hv656_0 := hcc656 0 _ rfl
                       rw [Nat.add_zero, show ((Kd.slice 2 (Kd.int .i64))).sz = 1 from rfl, Nat.mul_one] at hv656_0
                       replace hv656_0 := Option.some.inj (hv656_0.symm.trans hx656_0)
                       rw [hv656_0] at ge656_0
                       have HL656_0 := Aside0.mk (show Kd.R (Kd.int .i64) 2 _ _ _ _ (rd_L1 t639 x15_2) from ge656_0)
                       clear hv656_0 ge656_0
                       clear hcc656 hce656
                       have HR656_0 := Aside0.mk hi656_0
                       have HC656_0 := Aside0.mk hl656_0
                       clear hi656_0 hl656_0
                       replace p656 := eq_true p656
                       replace q656 := eq_true q656
                       have ea_ := Option.some.inj (hx655_0.symm.trans hx656_0)
                       injection ea_ with ea_ en_ ec_
                       subst ea_
                       subst ec_
                       clear en_
                       have p657 : 0 ≤ (x16_4 : Int) := of_decide_eq_true (by first | (with_reducible assumption) | assumption)
                       have q657 : x16_4 < ((rd_L1 t639 x15_2).length : Int) := of_decide_eq_true (by first | (with_reducible assumption) | assumption)
                       obtain ⟨ad657, e657, hx657_0⟩ := Kd.at_int (by repeat (first | (with_reducible exact HR656_0.out) | (with_reducible refine Kd.C_alloc ?_ _) | (with_reducible refine Kd.C_drewN ?_ _) | (with_reducible refine Kd.C_drew ?_) | exact HR656_0.out)) x16_4 p657 q657
                       cases e657
                       replace p657 := eq_true p657
                       replace q657 := eq_true q657
                       have hcz58_0 : wr.cell? ⟨gb629, 0, none⟩ = some (.slice (some ad643) t626.length co16) := (blk_cell BK629.out 0).trans rfl
                       have hfz58_0 := blk_frozen BK629.out 0
                       have p658 : 0 ≤ (x15_2 : Int) := of_decide_eq_true (by first | (with_reducible assumption) | assumption)
                       have q658 : x15_2 < (t626.length : Int) := of_decide_eq_true (by first | (with_reducible assumption) | assumption)
                       (first | (obtain ⟨Aoz_, coz_, eoz_⟩ := Kd.S_slice HO_630000.out; subst eoz_) | skip)
                       obtain ⟨ad658, A658_0, c658_0, e658, hx658_0, hl658_0, hi658_0⟩ := at_L1 (Kd.S_reads' HO_630000.out).2.2 x15_2 p658 q658
                       obtain rfl : ad643 = ad658 := (by injection e658)
                       obtain ⟨ce658, hce658, hMe658, hcc658⟩ := Kd.S_get HO_630000.out [] x15_2 p658 (by first | exact q658 | exact of_decide_eq_true (by first | (with_reducible assumption) | assumption) | (have e_ := (Kd.S_reads' HO_630000.out).1; omega))
                       obtain ⟨ve658_0, rfl, ge658_0⟩ := hMe658
                       have hv658_0 := hcc658 0 _ rfl
                       rw [Nat.add_zero, show ((Kd.slice 2 (Kd.int .i64))).sz = 1 from rfl, Nat.mul_one] at hv658_0
                       replace hv658_0 := Option.some.inj (hv658_0.symm.trans hx658_0)
                       rw [hv658_0] at ge658_0
                       have HL658_0 := Aside0.mk (show Kd.R (Kd.int .i64) 2 _ _ _ _ (rd_L1 t626 x15_2) from ge658_0)
                       clear hv658_0 ge658_0
                       clear hcc658 hce658
                       have HR658_0 := Aside0.mk hi658_0
                       have HC658_0 := Aside0.mk hl658_0
                       clear hi658_0 hl658_0
                       replace p658 := eq_true p658
                       replace q658 := eq_true q658
                       have p659 : 0 ≤ (x16_4 : Int) := of_decide_eq_true (by first | (with_reducible assumption) | assumption)
                       have q659 : x16_4 < ((rd_L1 t626 x15_2).length : Int) := of_decide_eq_true (by first | (with_reducible assumption) | assumption)
                       obtain ⟨ad659, e659, hx659_0⟩ := Kd.at_int (by repeat (first | (with_reducible exact HR658_0.out) | (with_reducible refine Kd.C_alloc ?_ _) | (with_reducible refine Kd.C_drewN ?_ _) | (with_reducible refine Kd.C_drew ?_) | exact HR658_0.out)) x16_4 p659 q659
                       cases e659
                       replace p659 := eq_true p659
                       replace q659 := eq_true q659
                       have p660 : 0 ≤ (x15_2 : Int) := of_decide_eq_true (by first | (with_reducible assumption) | assumption)
                       have q660 : x15_2 < (t635.length : Int) := of_decide_eq_true (by first | (with_reducible assumption) | assumption)
                       (first | (obtain ⟨Aoz_, coz_, eoz_⟩ := Kd.S_slice HO_8.out; subst eoz_) | skip)
                       obtain ⟨ad660, A660_0, c660_0, e660, hx660_0, hl660_0, hi660_0⟩ := at_L1 (Kd.S_reads' HO_8.out).2.2 x15_2 p660 q660
                       cases e660
                       obtain ⟨ce660, hce660, hMe660, hcc660⟩ := Kd.S_get HO_8.out [] x15_2 p660 (by first | exact q660 | exact of_decide_eq_true (by first | (with_reducible assumption) | assumption) | (have e_ := (Kd.S_reads' HO_8.out).1; omega))
                       obtain ⟨ve660_0, rfl, ge660_0⟩ := hMe660
                       have hv660_0 := hcc660 0 _ rfl
                       rw [Nat.add_zero, show ((Kd.slice 2 (Kd.int .i64))).sz = 1 from rfl, Nat.mul_one] at hv660_0
                       replace hv660_0 := Option.some.inj (hv660_0.symm.trans hx660_0)
                       rw [hv660_0] at ge660_0
                       have HL660_0 := Aside0.mk (show Kd.R (Kd.int .i64) 2 _ _ _ _ (rd_L1 t635 x15_2) from ge660_0)
                       clear hv660_0 ge660_0
                       clear hcc660 hce660
                       have HR660_0 := Aside0.mk hi660_0
                       have HC660_0 := Aside0.mk hl660_0
                       clear hi660_0 hl660_0
                       replace p660 := eq_true p660
                       replace q660 := eq_true q660
                       have p661 : 0 ≤ (x16_4 : Int) := of_decide_eq_true (by first | (with_reducible assumption) | assumption)
                       have q661 : x16_4 < ((rd_L1 t635 x15_2).length : Int) := of_decide_eq_true (by first | (with_reducible assumption) | assumption)
                       obtain ⟨ad661, e661, hx661_0⟩ := Kd.at_int (by repeat (first | (with_reducible exact HR660_0.out) | (with_reducible refine Kd.C_alloc ?_ _) | (with_reducible refine Kd.C_drewN ?_ _) | (with_reducible refine Kd.C_drew ?_) | exact HR660_0.out)) x16_4 p661 q661
                       cases e661
                       replace p661 := eq_true p661
                       replace q661 := eq_true q661
                       go_wp2
                       repeat (go_quiet (fail); try go_wp2)
                       go_ret
                       exact ⟨by first | rfl | (simp [errW_none, errW_some] <;> rfl) | (simp [*, errW_none, errW_some] <;> rfl), by repeat (first | (with_reducible first | exact HB.out | apply below_alloc | apply pw_below_drewN | apply below_drew1 | refine below_set ?_ GE629.out) | exact HB.out)⟩
                     ·rw [if_neg c55] at H
                      exact absurd H (by simp)
                    ·rw [if_neg c54] at H
                     exact absurd H (by simp)
                   ·rw [if_neg c53] at H
                    exact absurd H (by simp)
                  ·rw [if_neg c52] at H
                   exact absurd H (by simp)
                 ·rw [if_neg c51] at H
                  exact absurd H (by simp)
                ·rw [if_neg c50] at H
                 have c50b0 : decide (x16_4 < ((rd_L1 t639 x15_2).length : Int)) = false := decide_eq_false c50
                 clear c50
                 have H' := Aside0.mk H
                 clear H
                 have p655 : 0 ≤ (x15_2 : Int) := of_decide_eq_true (by first | (with_reducible assumption) | assumption)
                 have q655 : x15_2 < (t639.length : Int) := of_decide_eq_true (by first | (with_reducible assumption) | assumption)
                 (first | (obtain ⟨Aoz_, coz_, eoz_⟩ := Kd.S_slice HO_10.out; subst eoz_) | skip)
                 obtain ⟨ad655, A655_0, c655_0, e655, hx655_0, hl655_0, hi655_0⟩ := at_L1 (Kd.S_reads' HO_10.out).2.2 x15_2 p655 q655
                 cases e655
                 obtain ⟨ce655, hce655, hMe655, hcc655⟩ := Kd.S_get HO_10.out [] x15_2 p655 (by first | exact q655 | exact of_decide_eq_true (by first | (with_reducible assumption) | assumption) | (have e_ := (Kd.S_reads' HO_10.out).1; omega))
                 obtain ⟨ve655_0, rfl, ge655_0⟩ := hMe655
                 have hv655_0 := hcc655 0 _ rfl
                 rw [Nat.add_zero, show ((Kd.slice 2 (Kd.int .i64))).sz = 1 from rfl, Nat.mul_one] at hv655_0
                 replace hv655_0 := Option.some.inj (hv655_0.symm.trans hx655_0)
                 rw [hv655_0] at ge655_0
                 have HL655_0 := Aside0.mk (show Kd.R (Kd.int .i64) 2 _ _ _ _ (rd_L1 t639 x15_2) from ge655_0)
                 clear hv655_0 ge655_0
                 clear hcc655 hce655
                 have HR655_0 := Aside0.mk hi655_0
                 have HC655_0 := Aside0.mk hl655_0
                 clear hi655_0 hl655_0
                 replace p655 := eq_true p655
                 replace q655 := eq_true q655
                 go_wp2
                 repeat (go_quiet (fail); try go_wp2)
                 go_roundg k4
                 case measure => have := HJ12.out; have := HK2.out; have := HJ38.out; have := HK4.out; omega
                 case rel => exact ⟨(wrap64 (x15_2 + 1)), (by first | rfl | (simp; done) | (simp [*]; done)), H', ⟨by have := HJ12.out; have := HK2.out; have := HJ38.out; have := HK4.out; omega⟩, ⟨by (with_reducible repeat (first | apply Kd.S_alloc | apply Kd.S_drewN | apply Kd.S_drew)); exact HO_8.out⟩, ⟨by (with_reducible repeat (first | apply Kd.S_alloc | apply Kd.S_drewN | apply Kd.S_drew)); exact HO_10.out⟩, ⟨by (with_reducible repeat (first | apply Kd.S_alloc | apply Kd.S_drewN | apply Kd.S_drew)); exact HO_13.out⟩, ⟨by (with_reducible repeat (first | apply Kd.S_alloc | apply Kd.S_drewN | apply Kd.S_drew)); exact HO_630000.out⟩, ⟨by (with_reducible repeat (first | refine blk_drewN ?_ _ | refine blk_drew ?_ | refine blk_alloc ?_ _)); exact BK629.out⟩, ⟨by repeat (first | (with_reducible exact HR643_0.out) | (with_reducible refine Kd.C_alloc ?_ _) | (with_reducible refine Kd.C_drewN ?_ _) | (with_reducible refine Kd.C_drew ?_) | exact HR643_0.out)⟩, ⟨by repeat (first | (with_reducible first | exact HB.out | apply below_alloc | apply pw_below_drewN | apply below_drew1 | refine below_set ?_ GE629.out) | exact HB.out)⟩⟩
               ·rw [if_neg c49] at H
                exact absurd H (by simp)
              ·rw [if_neg c48] at H
               exact absurd H (by simp)
        ·rw [if_neg c38] at H
         have c38b0 : decide (x15_2 < (t639.length : Int)) = false := decide_eq_false c38
         clear c38
         replace H := Option.bind_eq_some_iff.mp H
         obtain ⟨t649, A590, H⟩ := H
         replace H : ((laws_b10All.f k2 t639).bind fun t650 => (some (t649 == t650))) = some r := H
         have A59 := Aside0.mk A590
         clear A590
         replace H := Option.bind_eq_some_iff.mp H
         obtain ⟨t650, A600, H⟩ := H
         replace H : (some (t649 == t650)) = some r := H
         have A60 := Aside0.mk A600
         clear A600
         obtain rfl := Option.some.inj H
         obtain ⟨Ao61, co61, eo61⟩ := Kd.S_slice HO_10.out
         subst eo61
         obtain ⟨Ao62, co62, eo62⟩ := Kd.S_slice HO_13.out
         subst eo62
         go_wp2_with (first | (go_at_call 29; (with_reducible refine (laws_b10All.calls k2 _ _ t645 t649 _ ?side1 ?side2 A59.out).mono ?_); (case side1 => repeat (first | exact (Kd.S_reads' HO_13.out).2.2 | (with_reducible refine Kd.C_alloc ?_ _) | (with_reducible refine Kd.C_drewN ?_ _) | (with_reducible refine Kd.C_drew ?_))); (case side2 => exact (Kd.S_reads' HO_13.out).2.1); rintro e w' ⟨rfl, ⟨nd, rfl⟩⟩; (try first | exact ⟨rfl, _, World.drewN_drewN _ _ _⟩ | exact ⟨rfl, _, Eq.trans (World.drewN_drewN _ _ _) (congrArg (World.drewN _) (Nat.add_assoc _ _ _))⟩)) | (go_at_call 29; (with_reducible refine (laws_b10All.calls k2 _ _ t639 t650 _ ?side1 ?side2 A60.out).mono ?_); (case side1 => repeat (first | exact (Kd.S_reads' HO_10.out).2.2 | (with_reducible refine Kd.C_alloc ?_ _) | (with_reducible refine Kd.C_drewN ?_ _) | (with_reducible refine Kd.C_drew ?_))); (case side2 => exact (Kd.S_reads' HO_10.out).2.1); rintro e w' ⟨rfl, ⟨nd, rfl⟩⟩; (try first | exact ⟨rfl, _, World.drewN_drewN _ _ _⟩ | exact ⟨rfl, _, Eq.trans (World.drewN_drewN _ _ _) (congrArg (World.drewN _) (Nat.add_assoc _ _ _))⟩)))
         repeat (go_quiet (first | (go_at_call 29; (with_reducible refine (laws_b10All.calls k2 _ _ t645 t649 _ ?side1 ?side2 A59.out).mono ?_); (case side1 => repeat (first | exact (Kd.S_reads' HO_13.out).2.2 | (with_reducible refine Kd.C_alloc ?_ _) | (with_reducible refine Kd.C_drewN ?_ _) | (with_reducible refine Kd.C_drew ?_))); (case side2 => exact (Kd.S_reads' HO_13.out).2.1); rintro e w' ⟨rfl, ⟨nd, rfl⟩⟩; (try first | exact ⟨rfl, _, World.drewN_drewN _ _ _⟩ | exact ⟨rfl, _, Eq.trans (World.drewN_drewN _ _ _) (congrArg (World.drewN _) (Nat.add_assoc _ _ _))⟩)) | (go_at_call 29; (with_reducible refine (laws_b10All.calls k2 _ _ t639 t650 _ ?side1 ?side2 A60.out).mono ?_); (case side1 => repeat (first | exact (Kd.S_reads' HO_10.out).2.2 | (with_reducible refine Kd.C_alloc ?_ _) | (with_reducible refine Kd.C_drewN ?_ _) | (with_reducible refine Kd.C_drew ?_))); (case side2 => exact (Kd.S_reads' HO_10.out).2.1); rintro e w' ⟨rfl, ⟨nd, rfl⟩⟩; (try first | exact ⟨rfl, _, World.drewN_drewN _ _ _⟩ | exact ⟨rfl, _, Eq.trans (World.drewN_drewN _ _ _) (congrArg (World.drewN _) (Nat.add_assoc _ _ _))⟩))); try go_wp2_with (first | (go_at_call 29; (with_reducible refine (laws_b10All.calls k2 _ _ t645 t649 _ ?side1 ?side2 A59.out).mono ?_); (case side1 => repeat (first | exact (Kd.S_reads' HO_13.out).2.2 | (with_reducible refine Kd.C_alloc ?_ _) | (with_reducible refine Kd.C_drewN ?_ _) | (with_reducible refine Kd.C_drew ?_))); (case side2 => exact (Kd.S_reads' HO_13.out).2.1); rintro e w' ⟨rfl, ⟨nd, rfl⟩⟩; (try first | exact ⟨rfl, _, World.drewN_drewN _ _ _⟩ | exact ⟨rfl, _, Eq.trans (World.drewN_drewN _ _ _) (congrArg (World.drewN _) (Nat.add_assoc _ _ _))⟩)) | (go_at_call 29; (with_reducible refine (laws_b10All.calls k2 _ _ t639 t650 _ ?side1 ?side2 A60.out).mono ?_); (case side1 => repeat (first | exact (Kd.S_reads' HO_10.out).2.2 | (with_reducible refine Kd.C_alloc ?_ _) | (with_reducible refine Kd.C_drewN ?_ _) | (with_reducible refine Kd.C_drew ?_))); (case side2 => exact (Kd.S_reads' HO_10.out).2.1); rintro e w' ⟨rfl, ⟨nd, rfl⟩⟩; (try first | exact ⟨rfl, _, World.drewN_drewN _ _ _⟩ | exact ⟨rfl, _, Eq.trans (World.drewN_drewN _ _ _) (congrArg (World.drewN _) (Nat.add_assoc _ _ _))⟩))))
         go_ret
         exact ⟨by first | rfl | (simp [errW_none, errW_some] <;> rfl) | (simp [*, errW_none, errW_some] <;> rfl), by repeat (first | (with_reducible first | exact HB.out | apply below_alloc | apply pw_below_drewN | apply below_drew1 | refine below_set ?_ GE629.out) | exact HB.out)⟩
  ·rw [if_neg c10] at H
   exact absurd H (by simp)
def laws_FnBlocks.Pure : Prop := ∀ (l0 : List Int) (l1 : List Int), l0.length ≤ maxLen → l0.length * 1 ≤ 140737488351232 → (∀ x ∈ l0, (Lit.int .u8 x).wf = true) → l1.length ≤ maxLen → l1.length * 1 ≤ 140737488351232 → (∀ x ∈ l1, (Lit.int .u8 x).wf = true) → ∃ k, laws_FnBlocks.f k l0 l1 = some true
theorem laws_FnBlocks.walk (P : laws_FnBlocks.Pure) (a0 : Option Addr) (len0 cap0 : Nat) (z0 : List Int) (a1 : Option Addr) (len1 cap1 : Nat) (z1 : List Int) (w : World) (w0 : (a0 = none ∧ len0 = 0 ∧ cap0 = 0 ∧ z0 = []) ∨ ∃ x, a0 = some x ∧ len0 ≤ cap0 ∧ cap0 ≤ maxLen ∧ z0.length = cap0 ∧ (∀ i, i < z0.length → w.cell? (x.add i) = some (.int .u8 (z0.getD i 0))) ∧ ∀ n ∈ z0, (Lit.int .u8 n).wf = true) (y0 : len0 * 1 ≤ 140737488351232) (w1 : (a1 = none ∧ len1 = 0 ∧ cap1 = 0 ∧ z1 = []) ∨ ∃ x, a1 = some x ∧ len1 ≤ cap1 ∧ cap1 ≤ maxLen ∧ z1.length = cap1 ∧ (∀ i, i < z1.length → w.cell? (x.add i) = some (.int .u8 (z1.getD i 0))) ∧ ∀ n ∈ z1, (Lit.int .u8 n).wf = true) (y1 : len1 * 1 ≤ 140737488351232) :
  Calls Try.prog 12 #[.slice a0 len0 cap0, .slice a1 len1 cap1] w fun e w' => e = .returned (.bool true) ∧ Below w.heap.size w w' := by
 obtain ⟨l0, rfl, hr0, hm0, hw0, hc0⟩ := ReadsInt.ofRowC w0
 obtain ⟨l1, rfl, hr1, hm1, hw1, hc1⟩ := ReadsInt.ofRowC w1
 obtain ⟨k, h⟩ := P l0 l1 hm0 y0 hw0 hm1 y1 hw1
 refine (laws_FnBlocks.calls k _ _ l0 _ _ l1 true w (Kd.C_of_reads (d := (0 : Int)) (h1 := fun _ => rfl) hr0) hc0 (Kd.C_of_reads (d := (0 : Int)) (h1 := fun _ => rfl) hr1) hc1 h).mono ?_
 rintro e w' ⟨rfl, hd⟩
 exact ⟨rfl, hd⟩
end Go.Proofs.Ytckonklpdepgoaa.Q
namespace Go.Proofs.Ytckonklpdepgoaa.Com
open Go.RowKit Go.Proofs.YtckonklpdepgoaaW.PrintWords
theorem w64 {x : Int} (h1 : -9223372036854775808 ≤ x) (h2 : x ≤ 9223372036854775807) : wrap64 x = x := by
 unfold wrap64
 omega
theorem ev_of {α : Type} {g : Nat → Option α} {r : α} (h : Ev g r) : ∃ k, g k = some r := h.rounds
theorem ev_bind' {α β : Type} {o : Option α} {f : Nat → α → Option β} {a : α} {r : β} (h : o = some a) (k : Ev (fun n => f n a) r) : Ev (fun n => o.bind (f n)) r := by
 subst h
 exact k
theorem tdiv_nn {a b : Int} (h : 0 ≤ a) : Int.tdiv a b = a / b := Int.tdiv_eq_ediv_of_nonneg h
theorem tmod_nn {a b : Int} (h : 0 ≤ a) : Int.tmod a b = a % b := Int.tmod_eq_emod_of_nonneg h
end Go.Proofs.Ytckonklpdepgoaa.Com
namespace Go.Proofs.Ytckonklpdepgoaa.Com
set_option linter.unusedSimpArgs false
set_option linter.unusedVariables false
open Go.RowKit Go.Proofs.YtckonklpdepgoaaW.PrintWords
theorem ev_fold {α σ ρ : Type} (xs : List α) (g : Nat → σ → Nat → Option ρ) (F : List α → σ → ρ) (Inv : Nat → σ → Prop)
  (h0 : ∀ s, Inv xs.length s → Ev (g xs.length s) (F [] s))
  (hs : ∀ m (h : m < xs.length) s, Inv m s → (∀ s', Inv (m + 1) s' → Ev (g (m + 1) s') (F (xs.drop (m + 1)) s')) → Ev (g m s) (F (xs[m] :: xs.drop (m + 1)) s)) :
  ∀ m s, m ≤ xs.length → Inv m s → Ev (g m s) (F (xs.drop m) s) := by
 have key : ∀ d m s, m + d = xs.length → Inv m s → Ev (g m s) (F (xs.drop m) s) := by
  intro d
  induction d with
  | zero =>
   intro m s e hi
   obtain rfl : m = xs.length := by omega
   rw [List.drop_length]
   exact h0 s hi
  | succ d ih =>
   intro m s e hi
   have h : m < xs.length := by omega
   rw [List.drop_eq_getElem_cons h]
   exact hs m h s hi (fun s' hi' => ih (m + 1) s' (by omega) hi')
 intro m s hm hi
 exact key (xs.length - m) m s (by omega) hi
theorem ev_count {σ ρ : Type} (n : Nat) (g : Nat → σ → Nat → Option ρ) (r : ρ) (Inv : Nat → σ → Prop) (h0 : ∀ s, Inv n s → Ev (g n s) r)
  (hs : ∀ m s, m < n → Inv m s → ∃ s', Inv (m + 1) s' ∧ (Ev (g (m + 1) s') r → Ev (g m s) r)) : ∀ m s, m ≤ n → Inv m s → Ev (g m s) r := by
 have key : ∀ d m s, m + d = n → Inv m s → Ev (g m s) r := by
  intro d
  induction d with
  | zero =>
   intro m s e hi
   obtain rfl : m = n := by omega
   exact h0 s hi
  | succ d ih =>
   intro m s e hi
   obtain ⟨s', hi', k⟩ := hs m s (by omega) hi
   exact k (ih (m + 1) s' (by omega) hi')
 intro m s hm hi
 exact key (n - m) m s (by omega) hi
theorem rd_nat {xs : List Int} {m : Nat} (h : m < xs.length) : rd xs (m : Int) = xs[m] := by
 unfold rd
 rw [Int.toNat_natCast, List.getD_eq_getElem?_getD, List.getElem?_eq_getElem h]
 rfl
theorem w_succ {m : Nat} (h : m < 9223372036854775807) : wrap64 ((m : Int) + 1) = ((m + 1 : Nat) : Int) := by
 rw [w64 (by omega) (by omega)]
 omega
theorem w_pred {m : Nat} (h : 0 < m) (h' : m < 9223372036854775807) : wrap64 ((m : Int) - 1) = ((m - 1 : Nat) : Int) := by
 rw [w64 (by omega) (by omega)]
 omega
end Go.Proofs.Ytckonklpdepgoaa.Com
namespace Go.Proofs.Ytckonklpdepgoaa.Com
set_option linter.unusedSimpArgs false
set_option linter.unusedVariables false
open Go.RowKit Go.Proofs.YtckonklpdepgoaaW.PrintWords Go.Proofs.Ytckonklpdepgoaa.Q
theorem within_tells (x a b : Int) : impl_within.f x a b = some (decide (a ≤ x ∧ x ≤ b)) := by
 unfold impl_within.f
 split <;> simp [*]
end Go.Proofs.Ytckonklpdepgoaa.Com
namespace Go.Proofs.Ytckonklpdepgoaa.Com
set_option linter.unusedSimpArgs false
set_option linter.unusedVariables false
set_option linter.unusedSectionVars false
open Go.RowKit Go.Proofs.YtckonklpdepgoaaW.PrintWords Go.Proofs.YtckonklpdepgoaaW.PrintMore Go.Proofs.Ytckonklpdepgoaa.Q
theorem rdr_nat {xs : List (List Int)} {m : Nat} (h : m < xs.length) : rd_L1 xs (m : Int) = xs[m] := by
 unfold rd_L1
 rw [Int.toNat_natCast, List.getD_eq_getElem?_getD, List.getElem?_eq_getElem h]
 rfl
def rowOk (n : Nat) (b : Int) (x : List Int) : Bool := decide (x.length = n) && x.all fun z => decide (0 ≤ z ∧ z ≤ b)
def rowsForm (b : Int) (l : List (List Int)) : Bool := match l with
 | [] => false
 | y :: _ => decide (l.length ≤ 12) && decide (1 ≤ y.length ∧ y.length ≤ 12) && l.all (rowOk y.length b)
theorem areRows_tells (l : List (List Int)) (b : Int) : impl_areRows.f l b = some (rowsForm b l) := by
 cases l with
 | nil => rfl
 | cons y r =>
  unfold impl_areRows.f rowsForm
  simp only
  congr 1
  rw [List.not_any_eq_all_not]
  congr 2
  funext x
  unfold impl_areRows.p rowOk
  by_cases h : x.length = y.length <;> simp [h]
end Go.Proofs.Ytckonklpdepgoaa.Com
namespace Go.Proofs.Ytckonklpdepgoaa.Com
set_option linter.unusedSimpArgs false
set_option linter.unusedVariables false
open Go.RowKit Go.Proofs.YtckonklpdepgoaaW.PrintWords Go.Proofs.Ytckonklpdepgoaa.Q
def risesFrom (lo hi : Int) : Option Int → List Int → Bool
 | _, [] => true
 | p, x :: r => decide (lo ≤ x ∧ x ≤ hi) && (match p with | none => true | some y => decide (y < x)) && risesFrom lo hi (some x) r
def rises (lo hi : Int) (l : List Int) : Bool := risesFrom lo hi none l
theorem isSet_ev (xs : List Int) (b : Int) (hx : xs.length ≤ 1048576) (hb : -9223372036854775807 ≤ b ∧ b ≤ 9223372036854775807) : Ev (fun k => impl_isSet.f k xs b) (rises 0 (b - 1) xs) := by
 unfold impl_isSet.f
 have gen := ev_fold xs (fun m (p : Option Int) k => impl_isSet.l0 k xs b xs (xs.length : Int) (m : Int)) (fun l p => risesFrom 0 (b - 1) p l) (fun m p => p = if h : 0 < m ∧ m - 1 < xs.length then some (xs[m - 1]'h.2) else none) ?_ ?_ 0 none (by omega) (by simp)
 ·simpa [rises] using gen
 ·intro s hs
  refine Ev.step (fun k => by rw [impl_isSet.l0]) ?_
  simp only [if_neg (show ¬ (xs.length : Int) < (xs.length : Int) by omega)]
  exact Ev.now _
 ·intro m hm s hs ih
  have ih' := ih (some xs[m]) (by simp [hm])
  refine Ev.step (fun k => by rw [impl_isSet.l0]) ?_
  simp only [if_pos (show (m : Int) < (xs.length : Int) by omega), if_pos (show 0 ≤ (m : Int) by omega), rd_nat hm, within_tells, Option.bind_some, w_succ (m := m) (by omega), decide_eq_true_eq, w64 (x := b - 1) (by omega) (by omega)]
  by_cases c : 0 ≤ xs[m] ∧ xs[m] ≤ b - 1
  ·simp only [if_pos c]
   unfold risesFrom
   rw [decide_eq_true c, Bool.true_and]
   by_cases hp : (m : Int) > 0
   ·have hp' : 0 < m ∧ m - 1 < xs.length := by omega
    rw [dif_pos hp'] at hs
    subst hs
    simp only [if_pos hp, w_pred (m := m) (by omega) (by omega), if_pos (show (0 : Int) ≤ ((m - 1 : Nat) : Int) by omega), if_pos (show ((m - 1 : Nat) : Int) < (xs.length : Int) by omega), rd_nat hp'.2]
    by_cases q : xs[m] ≤ xs[m - 1]
    ·simp only [if_pos q]
     rw [decide_eq_false (by omega), Bool.false_and]
     exact Ev.now _
    ·simp only [if_neg q]
     rw [decide_eq_true (by omega), Bool.true_and]
     exact ih'
   ·rw [dif_neg (by omega)] at hs
    subst hs
    simp only [if_neg hp, Bool.true_and]
    exact ih'
  ·simp only [if_neg c]
   unfold risesFrom
   rw [decide_eq_false c]
   simp
   exact Ev.now _
end Go.Proofs.Ytckonklpdepgoaa.Com
namespace Go.Proofs.Ytckonklpdepgoaa.Com
set_option linter.unusedSimpArgs false
set_option linter.unusedVariables false
open Go.RowKit Go.Proofs.YtckonklpdepgoaaW.PrintWords Go.Proofs.YtckonklpdepgoaaW.PrintMore Go.Proofs.Ytckonklpdepgoaa.Q
def okAll (N : Nat) : List Int → List Int → Bool
 | _, [] => true
 | pre, z :: r => decide (0 ≤ z ∧ z ≤ (N : Int) - 1) && (!decide (z ∈ pre) && okAll N (pre ++ [z]) r)
def okRows (n N : Nat) : List Int → List (List Int) → Bool
 | _, [] => true
 | pre, x :: r => decide (x.length = n) && (okAll N pre x && okRows n N (pre ++ x) r)
theorem okAll_app (N : Nat) (a b : List Int) : ∀ pre, okAll N pre (a ++ b) = (okAll N pre a && okAll N (pre ++ a) b) := by
 induction a with
 | nil => intro pre; simp [okAll]
 | cons z r ih => intro pre; simp only [List.cons_append, okAll, ih, Bool.and_assoc, List.append_assoc, List.singleton_append, List.nil_append]
theorem okRows_flat (n N : Nat) (l : List (List Int)) : ∀ pre, (∀ x ∈ l, x.length = n) → okRows n N pre l = okAll N pre l.flatten := by
 induction l with
 | nil => intro pre _; rfl
 | cons x r ih =>
  intro pre h
  rw [List.flatten_cons, okAll_app, okRows, ih _ (fun y hy => h y (List.mem_cons_of_mem _ hy)), decide_eq_true (h x (List.mem_cons_self ..)), Bool.true_and]
theorem okRows_len (n N : Nat) (l : List (List Int)) : ∀ pre, okRows n N pre l = true → ∀ x ∈ l, x.length = n := by
 induction l with
 | nil => intro pre _ x hx; simp at hx
 | cons y r ih =>
  intro pre h x hx
  simp only [okRows, Bool.and_eq_true, decide_eq_true_eq] at h
  rcases List.mem_cons.1 hx with rfl | hx
  ·exact h.1
  ·exact ih _ h.2.2 x hx
theorem okAll_iff (N : Nat) (l : List Int) : ∀ pre, okAll N pre l = true ↔ ((∀ z ∈ l, 0 ≤ z ∧ z ≤ (N : Int) - 1) ∧ l.Nodup ∧ ∀ z ∈ l, z ∉ pre) := by
 induction l with
 | nil => intro pre; simp [okAll]
 | cons x r ih =>
  intro pre
  simp only [okAll, Bool.and_eq_true, decide_eq_true_eq, Bool.not_eq_true', decide_eq_false_iff_not, ih, List.nodup_cons, List.mem_cons, List.mem_append, List.mem_singleton, List.not_mem_nil, or_false]
  constructor
  ·rintro ⟨h1, h2, h3, h4, h5⟩
   exact ⟨fun z hz => hz.elim (fun e => by rw [e]; exact h1) (h3 z), ⟨fun hx => h5 x hx (.inr rfl), h4⟩, fun z hz => hz.elim (fun e => by rw [e]; exact h2) (fun hz hp => h5 z hz (.inl hp))⟩
  ·rintro ⟨h1, ⟨h2, h3⟩, h4⟩
   exact ⟨h1 x (.inl rfl), h4 x (.inl rfl), fun z hz => h1 z (.inr hz), h3, fun z hz hp => hp.elim (h4 z (.inr hz)) (fun e => h2 (by rw [← e]; exact hz))⟩
theorem risesFrom_iff (lo hi : Int) (l : List Int) : ∀ p : Option Int, risesFrom lo hi p l = true ↔ ((∀ z ∈ l, lo ≤ z ∧ z ≤ hi) ∧ l.Pairwise (· < ·) ∧ ∀ y, p = some y → ∀ z ∈ l, y < z) := by
 induction l with
 | nil => intro p; simp [risesFrom]
 | cons x r ih =>
  intro p
  simp only [risesFrom, Bool.and_eq_true, decide_eq_true_eq, ih, List.pairwise_cons, List.mem_cons]
  constructor
  ·rintro ⟨⟨h1, h2⟩, h3, h4, h5⟩
   refine ⟨fun z hz => hz.elim (fun e => by rw [e]; exact h1) (h3 z), ⟨fun z hz => h5 x rfl z hz, h4⟩, fun y hy z hz => ?_⟩
   subst hy
   have h2' : y < x := by simpa using h2
   rcases hz with rfl | hz
   ·exact h2'
   ·have := h5 x rfl z hz; omega
  ·rintro ⟨h1, ⟨h2, h3⟩, h4⟩
   refine ⟨⟨h1 x (.inl rfl), ?_⟩, fun z hz => h1 z (.inr hz), h3, fun y hy z hz => by cases hy; exact h2 z hz⟩
   cases p with
   | none => rfl
   | some y => simpa using h4 y rfl x (.inl rfl)
theorem rises_sort (N : Nat) (l : List Int) : rises 0 ((N : Int) - 1) (l.mergeSort fun x y => decide (x ≤ y)) = okAll N [] l := by
 rw [Bool.eq_iff_iff, rises, risesFrom_iff, okAll_iff]
 have hp := List.mergeSort_perm l (fun x y => decide (x ≤ y))
 have hs : (l.mergeSort fun x y => decide (x ≤ y)).Pairwise fun a b => decide (a ≤ b) = true := List.pairwise_mergeSort (fun a b c h1 h2 => by simp only [decide_eq_true_eq] at *; omega) (fun a b => by simp only [Bool.or_eq_true, decide_eq_true_eq]; omega) l
 constructor
 ·rintro ⟨h1, h2, _⟩
  refine ⟨fun z hz => h1 z (hp.mem_iff.2 hz), hp.nodup_iff.1 (h2.imp (fun h e => by omega)), by simp⟩
 ·rintro ⟨h1, h2, _⟩
  refine ⟨fun z hz => h1 z (hp.mem_iff.1 hz), ?_, by simp⟩
  have h3 := hp.nodup_iff.2 h2
  have h4 : (l.mergeSort fun x y => decide (x ≤ y)).Pairwise fun a b => decide (a ≤ b) = true ∧ a ≠ b := List.Pairwise.and hs h3
  exact h4.imp (fun {a b} h => by have := h.1; simp only [decide_eq_true_eq] at this; have := h.2; omega)
def isMaskB (l : List (List Int)) : Bool := decide (1 ≤ l.length ∧ l.length ≤ 8) && okRows l.length (l.length * l.length) [] l
theorem isMaskB_len {l : List (List Int)} (h : isMaskB l = true) : (1 ≤ l.length ∧ l.length ≤ 8) ∧ ∀ x ∈ l, x.length = l.length := by
 simp only [isMaskB, Bool.and_eq_true, decide_eq_true_eq] at h
 exact ⟨h.1, okRows_len _ _ _ _ h.2⟩
theorem sq_le (n : Nat) (h : n ≤ 8) : n * n ≤ 64 := Nat.le_trans (Nat.mul_le_mul h h) (by decide)
theorem implMask_ev (l : List (List Int)) : Ev (fun k => impl_IsMask.f k l) (isMaskB l) := by
 unfold impl_IsMask.f isMaskB
 by_cases h : 1 ≤ l.length ∧ l.length ≤ 8
 ·simp only [if_pos h, decide_eq_true h, Bool.true_and]
  by_cases h2 : l.any (impl_IsMask.p l.length) = true
  ·simp only [if_pos h2]
   have : okRows l.length (l.length * l.length) [] l = false := by
    cases hq : okRows l.length (l.length * l.length) [] l with
    | false => rfl
    | true =>
     have hl := okRows_len _ _ _ _ hq
     rw [List.any_eq_true] at h2
     obtain ⟨x, hx, h3⟩ := h2
     unfold impl_IsMask.p at h3
     exact absurd (hl x hx) (by simpa using h3)
   rw [this]
   exact Ev.now _
  ·simp only [if_neg h2]
   have h2' : l.any (impl_IsMask.p l.length) = false := by simpa using h2
   have hl : ∀ x ∈ l, x.length = l.length := fun x hx => by
    have := List.any_eq_false.1 h2' x hx
    unfold impl_IsMask.p at this
    simpa using this
   have hf := impl_IsMask.flat l.length l h2'
   have hs := sq_le l.length h.2
   rw [okRows_flat _ _ _ _ hl, ← rises_sort]
   have hw : wrap64 ((l.length : Int) * (l.length : Int)) = ((l.length * l.length : Nat) : Int) := by
    rw [← Int.natCast_mul]
    exact w64 (by omega) (by omega)
   rw [hw]
   exact isSet_ev _ _ (by rw [List.length_mergeSort]; omega) (by omega)
 ·simp only [if_neg h, decide_eq_false h, Bool.false_and]
  exact Ev.now _
end Go.Proofs.Ytckonklpdepgoaa.Com
namespace Go.Proofs.Ytckonklpdepgoaa.Com
set_option linter.unusedSimpArgs false
set_option linter.unusedVariables false
set_option linter.unusedSectionVars false
open Go.RowKit Go.Proofs.YtckonklpdepgoaaW.PrintWords Go.Proofs.YtckonklpdepgoaaW.PrintMore Go.Proofs.Ytckonklpdepgoaa.Q
def grid0 (R C : Nat) : List (List Int) := List.replicate R (List.replicate C 0)
theorem noughts_ev (R C : Nat) (hR : R ≤ 1000000) (hC : C ≤ 1000000) : Ev (fun k => impl_noughts.f k (R : Int) (C : Int)) (grid0 R C) := by
 unfold impl_noughts.f
 simp only [if_pos (show 0 ≤ (R : Int) by omega), Int.toNat_natCast, if_pos (show R ≤ 11728124029610 by omega), Option.bind_some, List.length_replicate]
 refine ev_count R (fun m (s : List (List Int)) k => impl_noughts.l0 k (C : Int) s (R : Int) (m : Int)) _ (fun m s => s = List.replicate m (List.replicate C 0) ++ List.replicate (R - m) []) ?_ ?_ 0 _ (by omega) (by simp)
 ·rintro _ rfl
  refine Ev.step (fun k => by rw [impl_noughts.l0]) ?_
  simp only [if_neg (show ¬ (R : Int) < (R : Int) by omega), Nat.sub_self, List.replicate_zero, List.append_nil]
  exact Ev.now _
 ·rintro m _ hm rfl
  refine ⟨_, rfl, fun ih => ?_⟩
  refine Ev.step (fun k => by rw [impl_noughts.l0]) ?_
  have hl : (List.replicate m (List.replicate C (0 : Int)) ++ List.replicate (R - m) []).length = R := by simp; omega
  simp only [hl, if_pos (show (m : Int) < (R : Int) by omega), if_pos (show 0 ≤ (C : Int) by omega), Int.toNat_natCast, if_pos (show C ≤ 35184372088832 by omega), if_pos (show 0 ≤ (m : Int) by omega), w_succ (m := m) (by omega)]
  have es : (List.replicate m (List.replicate C (0 : Int)) ++ List.replicate (R - m) []).set m (List.replicate C 0) = List.replicate (m + 1) (List.replicate C 0) ++ List.replicate (R - (m + 1)) [] := by
   obtain ⟨q, hq⟩ : ∃ q, R - m = q + 1 := ⟨R - m - 1, by omega⟩
   rw [List.set_append_right _ _ (by simp), List.length_replicate, Nat.sub_self, hq, List.replicate_succ, List.set_cons_zero, List.replicate_succ', show R - (m + 1) = q by omega, List.append_assoc]
   rfl
  rw [es]
  exact ih
def Grid (R C : Nat) (g : List (List Int)) : Prop := g.length = R ∧ ∀ x ∈ g, x.length = C
theorem grid0_is (R C : Nat) : Grid R C (grid0 R C) := ⟨by simp [grid0], fun x hx => by unfold grid0 at hx; rw [List.eq_of_mem_replicate hx, List.length_replicate]⟩
theorem Grid.row {R C : Nat} {g : List (List Int)} (h : Grid R C g) {i : Nat} (hi : i < R) : i < g.length ∧ ∀ (h' : i < g.length), g[i].length = C := ⟨by rw [h.1]; exact hi, fun h' => h.2 _ (List.getElem_mem h')⟩
theorem Grid.rd {R C : Nat} {g : List (List Int)} (h : Grid R C g) {i : Nat} (hi : i < R) : (rd_L1 g (i : Int)).length = C := by
 rw [rdr_nat (h.row hi).1]
 exact (h.row hi).2 _
theorem Grid.put {R C : Nat} {g : List (List Int)} (h : Grid R C g) {i : Nat} (j : Nat) (v : Int) (hi : i < R) : Grid R C (g.set i ((rd_L1 g (i : Int)).set j v)) := by
 refine ⟨by rw [List.length_set]; exact h.1, fun x hx => ?_⟩
 rcases List.mem_or_eq_of_mem_set hx with hx | hx
 ·exact h.2 x hx
 ·rw [hx, List.length_set]; exact h.rd hi
def forTo {σ : Type} (step : Nat → σ → σ) : Nat → Nat → σ → σ
 | _, 0, s => s
 | m, d + 1, s => forTo step (m + 1) d (step m s)
theorem ev_for {σ ρ : Type} (n : Nat) (g : Nat → σ → Nat → Option ρ) (step : Nat → σ → σ) (Inv : Nat → σ → Prop) (r : ρ)
  (hi : ∀ m s, m < n → Inv m s → Inv (m + 1) (step m s)) (hs : ∀ m s, m < n → Inv m s → Ev (g (m + 1) (step m s)) r → Ev (g m s) r) :
  ∀ d m s, m + d = n → Inv m s → Inv n (forTo step m d s) ∧ (Ev (g n (forTo step m d s)) r → Ev (g m s) r) := by
 intro d
 induction d with
 | zero =>
  intro m s e h
  obtain rfl : m = n := by omega
  exact ⟨h, id⟩
 | succ d ih =>
  intro m s e h
  have h' := hi m s (by omega) h
  obtain ⟨a, b⟩ := ih (m + 1) (step m s) (by omega) h'
  exact ⟨a, fun k => hs m s (by omega) h (b k)⟩
end Go.Proofs.Ytckonklpdepgoaa.Com
namespace Go.Proofs.Ytckonklpdepgoaa.Com
set_option linter.unusedSimpArgs false
set_option linter.unusedVariables false
open Go.RowKit Go.Proofs.YtckonklpdepgoaaW.PrintWords Go.Proofs.YtckonklpdepgoaaW.PrintMore Go.Proofs.Ytckonklpdepgoaa.Q
def tbl (R C : Nat) (h : Nat → Nat → Int) : List (List Int) := (List.range R).map fun i => (List.range C).map fun j => h i j
theorem tbl_len (R C : Nat) (h : Nat → Nat → Int) : (tbl R C h).length = R := by simp [tbl]
theorem tbl_is (R C : Nat) (h : Nat → Nat → Int) : Grid R C (tbl R C h) := ⟨tbl_len R C h, fun x hx => by
 simp only [tbl, List.mem_map] at hx
 obtain ⟨i, _, rfl⟩ := hx
 simp⟩
theorem tbl_row (R C : Nat) (h : Nat → Nat → Int) (i : Nat) (hi : i < R) : rd_L1 (tbl R C h) (i : Int) = (List.range C).map fun j => h i j := by
 rw [rdr_nat (by rw [tbl_len]; exact hi)]
 simp [tbl]
theorem tbl_rd (R C : Nat) (h : Nat → Nat → Int) (i j : Nat) (hi : i < R) (hj : j < C) : rd (rd_L1 (tbl R C h) (i : Int)) (j : Int) = h i j := by
 rw [tbl_row R C h i hi, rd_nat (by simpa using hj)]
 simp
theorem tbl_ext (R C : Nat) (h h' : Nat → Nat → Int) (e : ∀ i j, i < R → j < C → h i j = h' i j) : tbl R C h = tbl R C h' := by
 unfold tbl
 apply List.map_congr_left
 intro i hi
 apply List.map_congr_left
 intro j hj
 exact e i j (List.mem_range.1 hi) (List.mem_range.1 hj)
theorem tbl_set (R C : Nat) (h : Nat → Nat → Int) (i j : Nat) (v : Int) (hi : i < R) (hj : j < C) : (tbl R C h).set i ((rd_L1 (tbl R C h) (i : Int)).set j v) = tbl R C (fun a b => if a = i ∧ b = j then v else h a b) := by
 rw [tbl_row R C h i hi]
 apply List.ext_getElem
 ·simp [tbl]
 ·intro a h1 h2
  have ha : a < R := by simpa [tbl] using h2
  rw [List.getElem_set]
  by_cases e : i = a
  ·subst e
   rw [if_pos rfl]
   apply List.ext_getElem
   ·simp [tbl]
   ·intro b h3 h4
    rw [List.getElem_set]
    simp only [tbl, List.getElem_map, List.getElem_range, true_and]
    by_cases e2 : j = b
    ·subst e2; simp
    ·rw [if_neg e2, if_neg (fun e3 => e2 e3.symm)]
  ·rw [if_neg e]
   simp only [tbl, List.getElem_map, List.getElem_range]
   apply List.map_congr_left
   intro b _
   rw [if_neg (fun e3 => e e3.1.symm)]
theorem tbl_grid0 (R C : Nat) : grid0 R C = tbl R C (fun _ _ => 0) := by
 unfold grid0 tbl
 apply List.ext_getElem
 ·simp
 ·intro a h1 h2
  simp only [List.getElem_replicate, List.getElem_map, List.getElem_range]
  apply List.ext_getElem
  ·simp
  ·intro b h3 h4; simp
def tblAt (R C : Nat) (f : Nat → Nat → Int) (i j : Nat) : List (List Int) := tbl R C (fun a b => if a < i ∨ (a = i ∧ b < j) then f a b else 0)
theorem tblAt_start (R C : Nat) (f : Nat → Nat → Int) : tblAt R C f 0 0 = grid0 R C := by
 rw [tbl_grid0]
 exact tbl_ext R C _ _ (fun i j _ _ => if_neg (by omega))
theorem tblAt_end (R C : Nat) (f : Nat → Nat → Int) : tblAt R C f R 0 = tbl R C f := tbl_ext R C _ _ (fun i j hi _ => if_pos (.inl hi))
theorem tblAt_row (R C : Nat) (f : Nat → Nat → Int) (i : Nat) : tblAt R C f i C = tblAt R C f (i + 1) 0 := tbl_ext R C _ _ (fun a b _ hb => by
 by_cases c : a < i ∨ (a = i ∧ b < C)
 ·rw [if_pos c, if_pos (by omega)]
 ·rw [if_neg c, if_neg (by omega)])
theorem tblAt_is (R C : Nat) (f : Nat → Nat → Int) (i j : Nat) : Grid R C (tblAt R C f i j) := tbl_is _ _ _
theorem tblAt_set (R C : Nat) (f : Nat → Nat → Int) (i j : Nat) (hi : i < R) (hj : j < C) : (tblAt R C f i j).set i ((rd_L1 (tblAt R C f i j) (i : Int)).set j (f i j)) = tblAt R C f i (j + 1) := by
 unfold tblAt
 rw [tbl_set _ _ _ _ _ _ hi hj]
 exact tbl_ext R C _ _ (fun a b _ _ => by
  by_cases c : a = i ∧ b = j
  ·rw [if_pos c, if_pos (by omega), c.1, c.2]
  ·rw [if_neg c]
   by_cases c2 : a < i ∨ (a = i ∧ b < j)
   ·rw [if_pos c2, if_pos (by omega)]
   ·rw [if_neg c2, if_neg (by omega)])
theorem tbl_loops {ρ : Type} (R C : Nat) (f : Nat → Nat → Int) (G0 : Nat → List (List Int) → Nat → Option ρ) (G1 : Nat → Nat → List (List Int) → Nat → Option ρ) (r : ρ)
  (e0 : Ev (G0 R (tbl R C f)) r) (e1 : ∀ i, i < R → Ev (G1 i 0 (tblAt R C f i 0)) r → Ev (G0 i (tblAt R C f i 0)) r)
  (e2 : ∀ i j, i < R → j < C → Ev (G1 i (j + 1) (tblAt R C f i (j + 1))) r → Ev (G1 i j (tblAt R C f i j)) r)
  (e3 : ∀ i, i < R → Ev (G0 (i + 1) (tblAt R C f (i + 1) 0)) r → Ev (G1 i C (tblAt R C f (i + 1) 0)) r) : Ev (G0 0 (grid0 R C)) r := by
 rw [← tblAt_start R C f]
 have key : ∀ d i, i + d = R → Ev (G0 i (tblAt R C f i 0)) r := by
  intro d
  induction d with
  | zero =>
   intro i e
   obtain rfl : i = R := by omega
   rw [tblAt_end]
   exact e0
  | succ d ih =>
   intro i e
   have hi : i < R := by omega
   refine e1 i hi ?_
   have k2 : ∀ q j, j + q = C → Ev (G1 i j (tblAt R C f i j)) r := by
    intro q
    induction q with
    | zero =>
     intro j e
     obtain rfl : j = C := by omega
     rw [tblAt_row]
     exact e3 i hi (ih (i + 1) (by omega))
    | succ q ihq =>
     intro j e
     exact e2 i j hi (by omega) (ihq (j + 1) (by omega))
   exact k2 C 0 (by omega)
 exact key R 0 (by omega)
end Go.Proofs.Ytckonklpdepgoaa.Com
namespace Go.Proofs.Ytckonklpdepgoaa.Com
set_option linter.unusedSimpArgs false
set_option linter.unusedVariables false
set_option linter.unusedSectionVars false
open Go.RowKit Go.Proofs.YtckonklpdepgoaaW.PrintWords Go.Proofs.YtckonklpdepgoaaW.PrintMore Go.Proofs.Ytckonklpdepgoaa.Q
theorem rowsForm_is {b : Int} {l : List (List Int)} (h : rowsForm b l = true) :
  ∃ R C : Nat, 1 ≤ R ∧ R ≤ 12 ∧ 1 ≤ C ∧ C ≤ 12 ∧ Grid R C l ∧ (rd_L1 l 0).length = C ∧ ∀ x ∈ l, ∀ z ∈ x, 0 ≤ z ∧ z ≤ b := by
 cases l with
 | nil => simp [rowsForm] at h
 | cons y r =>
  have ef : rowsForm b (y :: r) = (decide ((y :: r).length ≤ 12) && decide (1 ≤ y.length ∧ y.length ≤ 12) && (y :: r).all (rowOk y.length b)) := rfl
  rw [ef] at h
  simp only [Bool.and_eq_true, decide_eq_true_eq, List.all_eq_true] at h
  obtain ⟨⟨h1, h2⟩, h3⟩ := h
  have e0 : rd_L1 (y :: r) 0 = y := rdr_nat (xs := y :: r) (m := 0) (by rw [List.length_cons]; omega)
  refine ⟨(y :: r).length, y.length, by rw [List.length_cons]; omega, h1, h2.1, h2.2, ⟨rfl, fun x hx => ?_⟩, by rw [e0], fun x hx z hz => ?_⟩
  ·have := h3 x hx
   unfold rowOk at this
   simp only [Bool.and_eq_true, decide_eq_true_eq] at this
   exact this.1
  ·have := h3 x hx
   unfold rowOk at this
   simp only [Bool.and_eq_true, decide_eq_true_eq, List.all_eq_true] at this
   exact this.2 z hz
theorem tdn (i n : Nat) (h : i ≤ 1000000) : wrap64 (Int.tdiv (i : Int) (n : Int)) = ((i / n : Nat) : Int) := by
 rw [tdiv_nn (by omega), ← Int.natCast_ediv]
 have := Nat.div_le_self i n
 generalize i / n = q at this ⊢
 exact w64 (by omega) (by omega)
def beStep (p d : List (List Int)) (n i j : Nat) (g : List (List Int)) : List (List Int) :=
 g.set (i / n) ((rd_L1 g ((i / n : Nat) : Int)).set (j / n) (wrap64 (rd (rd_L1 g ((i / n : Nat) : Int)) ((j / n : Nat) : Int) + wrap64 (rd (rd_L1 p (i : Int)) (j : Int) - wrap64 (255 * rd (rd_L1 d (i : Int)) (j : Int))))))
def beRow (p d : List (List Int)) (n C i : Nat) (g : List (List Int)) : List (List Int) := forTo (beStep p d n i) 0 C g
def beAll (p d : List (List Int)) (n R C : Nat) : List (List Int) := forTo (beRow p d n C) 0 R (grid0 (R / n) (C / n))
theorem div_lt_div {i R n : Nat} (hn : 0 < n) (hd : n ∣ R) (h : i < R) : i / n < R / n := (Nat.div_lt_iff_lt_mul hn).2 (by rw [Nat.div_mul_cancel hd]; exact h)
section
variable {p d : List (List Int)} {R C n : Nat} (hR : 1 ≤ R ∧ R ≤ 12) (hC : 1 ≤ C ∧ C ≤ 12) (hp : Grid R C p) (hd : Grid R C d) (hn : 0 < n) (dR : n ∣ R) (dC : n ∣ C)
include hR hC hp hd hn dR dC
theorem beStep_is {g : List (List Int)} {i : Nat} (j : Nat) (h : Grid (R / n) (C / n) g) (hi : i < R) : Grid (R / n) (C / n) (beStep p d n i j g) := h.put _ _ (div_lt_div hn dR hi)
theorem beRow_is {g : List (List Int)} {i : Nat} (hi : i < R) (hg : Grid (R / n) (C / n) g) : Grid (R / n) (C / n) (beRow p d n C i g) :=
 (ev_for C (fun j s k => (none : Option Unit)) (beStep p d n i) (fun _ s => Grid (R / n) (C / n) s) () (fun j s hj hs => beStep_is hR hC hp hd hn dR dC j hs hi) (fun j s hj hs ih => ih) C 0 g (by omega) hg).1
theorem beAll_is : Grid (R / n) (C / n) (beAll p d n R C) :=
 (ev_for R (fun i s k => (none : Option Unit)) (beRow p d n C) (fun _ s => Grid (R / n) (C / n) s) () (fun i s hi hs => beRow_is hR hC hp hd hn dR dC hi hs) (fun i s hi hs ih => ih) R 0 (grid0 (R / n) (C / n)) (by omega) (grid0_is _ _)).1
theorem implInner_ev (r : List (List Int) × Bool) (i : Nat) (hi : i < R) (g : List (List Int)) (hg : Grid (R / n) (C / n) g) :
  Ev (fun k => impl_BlockErrors.l0 k d (n : Int) (beRow p d n C i g) p (R : Int) ((i + 1 : Nat) : Int)) r → Ev (fun k => impl_BlockErrors.l1 k d (n : Int) g (i : Int) p (R : Int) (i : Int) (rd_L1 p (i : Int)) (C : Int) ((0 : Nat) : Int)) r := by
 have key := ev_for C (fun j s k => impl_BlockErrors.l1 k d (n : Int) s (i : Int) p (R : Int) (i : Int) (rd_L1 p (i : Int)) (C : Int) (j : Int)) (beStep p d n i) (fun _ s => Grid (R / n) (C / n) s) r
  (fun j s hj hs => beStep_is hR hC hp hd hn dR dC j hs hi) (fun j s hj hs ih => ?_) C 0 g (by omega) hg
 ·refine fun h => key.2 ?_
  refine Ev.step (fun k => by rw [impl_BlockErrors.l1]) ?_
  simp only [if_neg (show ¬ (C : Int) < (C : Int) by omega), w_succ (m := i) (by omega)]
  exact h
 ·have a1 := div_lt_div hn dR hi
  have a2 := div_lt_div hn dC hj
  refine Ev.step (fun k => by rw [impl_BlockErrors.l1]) ?_
  simp only [if_pos (show (j : Int) < (C : Int) by omega), if_neg (show ¬ (n : Int) = 0 by omega), tdn i n (by omega), tdn j n (by omega), if_pos (show 0 ≤ ((i / n : Nat) : Int) from Int.natCast_nonneg _), if_pos (show 0 ≤ ((j / n : Nat) : Int) from Int.natCast_nonneg _), hs.1, hs.rd a1, if_pos (show ((i / n : Nat) : Int) < ((R / n : Nat) : Int) from Int.ofNat_lt.2 a1), if_pos (show ((j / n : Nat) : Int) < ((C / n : Nat) : Int) from Int.ofNat_lt.2 a2), if_pos (show 0 ≤ (i : Int) by omega), if_pos (show 0 ≤ (j : Int) by omega), hp.1, hd.1, hp.rd hi, hd.rd hi, if_pos (show (i : Int) < (R : Int) by omega), w_succ (m := j) (by omega), Int.toNat_natCast, Int.mul_comm _ 255]
  exact ih
theorem implBlock_ev : Ev (fun k => impl_BlockErrors.l0 k d (n : Int) (grid0 (R / n) (C / n)) p (R : Int) 0) (beAll p d n R C, true) := by
 have key := ev_for R (fun i s k => impl_BlockErrors.l0 k d (n : Int) s p (R : Int) (i : Int)) (beRow p d n C) (fun _ s => Grid (R / n) (C / n) s) (beAll p d n R C, true)
  (fun i s hi hs => beRow_is hR hC hp hd hn dR dC hi hs) (fun i s hi hs ih => ?_) R 0 (grid0 (R / n) (C / n)) (by omega) (grid0_is _ _)
 ·refine key.2 (Ev.step (fun k => by rw [impl_BlockErrors.l0]) ?_)
  simp only [if_neg (show ¬ (R : Int) < (R : Int) by omega)]
  exact Ev.now _
 ·refine Ev.step (fun k => by rw [impl_BlockErrors.l0]) ?_
  simp only [if_pos (show (i : Int) < (R : Int) by omega), if_pos (show 0 ≤ (i : Int) by omega), hp.1, hp.rd hi]
  exact implInner_ev hR hC hp hd hn dR dC _ i hi s hs ih
end
def blockOk (p d : List (List Int)) (s : Int) : Prop := rowsForm 255 p = true ∧ rowsForm 1 d = true ∧ d.length = p.length ∧ (rd_L1 d 0).length = (rd_L1 p 0).length ∧ ¬ s < 1 ∧ (d.length : Int) % s = 0 ∧ ((rd_L1 d 0).length : Int) % s = 0
open Classical in
noncomputable def blockOf (p d : List (List Int)) (s : Int) : List (List Int) × Bool := if blockOk p d s then (beAll p d s.toNat p.length (rd_L1 p 0).length, true) else ([], false)
theorem blockOk_is {p d : List (List Int)} {s : Int} (h : blockOk p d s) : ∃ R C n : Nat, (1 ≤ R ∧ R ≤ 12) ∧ (1 ≤ C ∧ C ≤ 12) ∧ Grid R C p ∧ Grid R C d ∧ (rd_L1 p 0).length = C ∧ (rd_L1 d 0).length = C ∧ s = n ∧ 0 < n ∧ n ∣ R ∧ n ∣ C := by
 obtain ⟨v1, v2, q1, q2, q3, q4, q5⟩ := h
 obtain ⟨R, C, R1, R2, C1, C2, gp, cp, _⟩ := rowsForm_is v1
 obtain ⟨R', C', R1', R2', C1', C2', gd, cd, _⟩ := rowsForm_is v2
 obtain ⟨n, rfl⟩ := Int.eq_ofNat_of_zero_le (show 0 ≤ s by omega)
 have a1 := gp.1
 have a2 := gd.1
 obtain rfl : R' = R := by omega
 obtain rfl : C' = C := by omega
 refine ⟨R', C', n, ⟨R1, R2⟩, ⟨C1, C2⟩, gp, gd, cp, cd, rfl, by omega, ?_, ?_⟩
 ·rw [a2, ← Int.natCast_emod] at q4
  exact Nat.dvd_of_mod_eq_zero (by omega)
 ·rw [cd, ← Int.natCast_emod] at q5
  exact Nat.dvd_of_mod_eq_zero (by omega)
theorem implBlockNo (p d : List (List Int)) (s : Int) : Ev (fun k => impl_BlockErrors.j0 k d s true p) ([], false) := Ev.step (fun k => by rw [impl_BlockErrors.j0]) (by simp only [if_true]; exact Ev.now _)
theorem implJ0 (p d : List (List Int)) (s : Int) (v1 : rowsForm 255 p = true) (v2 : rowsForm 1 d = true) (q1 : d.length = p.length) (q2 : (rd_L1 d 0).length = (rd_L1 p 0).length) : Ev (fun k => impl_BlockErrors.j0 k d s false p) (blockOf p d s) := by
 obtain ⟨R, C, R1, R2, C1, C2, gd, cd, _⟩ := rowsForm_is v2
 refine Ev.step (fun k => by rw [impl_BlockErrors.j0]) ?_
 have no4 : Ev (fun k => impl_BlockErrors.j1 k d s true p) ([], false) := Ev.step (fun k => by rw [impl_BlockErrors.j1]) (by simp only [if_true]; exact Ev.now _)
 simp only [Bool.false_eq_true, if_false]
 by_cases q3 : s < 1
 ·rw [show blockOf p d s = ([], false) from if_neg (fun h => h.2.2.2.2.1 q3)]
  simp only [if_pos q3]
  exact no4
 ·simp only [if_neg q3]
  refine ev_bind' (show impl_size_int64_68.f d = some (R : Int) from by unfold impl_size_int64_68.f; rw [gd.1]) ?_
  simp only [if_neg (show ¬ s = 0 by omega), tmod_nn (show 0 ≤ (R : Int) by omega), gd.1, if_pos (show 0 < (R : Int) by omega)]
  by_cases q4 : (R : Int) % s = 0
  ·simp only [if_pos q4]
   refine ev_bind' (show impl_size_int64_69.f (rd_L1 d 0) = some (C : Int) from by unfold impl_size_int64_69.f; rw [cd]) ?_
   simp only [tmod_nn (show 0 ≤ (C : Int) by omega)]
   by_cases q5 : (C : Int) % s = 0
   ·have ok : blockOk p d s := ⟨v1, v2, q1, q2, q3, by rw [gd.1]; exact q4, by rw [cd]; exact q5⟩
    rw [show blockOf p d s = (beAll p d s.toNat p.length (rd_L1 p 0).length, true) from if_pos ok]
    obtain ⟨R', C', n, hR, hC, gp', gd', cp', cd', rfl, hn, dR, dC⟩ := blockOk_is ok
    have a1 := gd.1
    have a2 := gd'.1
    obtain rfl : R' = R := by omega
    obtain rfl : C' = C := by omega
    rw [gp'.1, cp', Int.toNat_natCast, show ((C' : Int) % (n : Int) != 0) = false from by rw [q5]; rfl]
    refine Ev.step (fun k => by rw [impl_BlockErrors.j1]) ?_
    simp only [Bool.false_eq_true, if_false]
    refine ev_bind' (show impl_size_int64_68.f d = some (R' : Int) from by unfold impl_size_int64_68.f; rw [gd.1]) ?_
    simp only [if_neg (show ¬ (n : Int) = 0 by omega), gd.1, if_pos (show 0 < (R' : Int) by omega)]
    refine ev_bind' (show impl_size_int64_69.f (rd_L1 d 0) = some (C' : Int) from by unfold impl_size_int64_69.f; rw [cd]) ?_
    simp only [tdn R' n (by omega), tdn C' n (by omega), gp'.1]
    have b1 := Nat.div_le_self R' n
    have b2 := Nat.div_le_self C' n
    exact Ev.bind (noughts_ev (R' / n) (C' / n) (by omega) (by omega)) (implBlock_ev hR hC gp' gd hn dR dC)
   ·rw [show blockOf p d s = ([], false) from if_neg (fun h => q5 (by have := h.2.2.2.2.2.2; rwa [cd] at this)), show ((C : Int) % s != 0) = true from by simpa using q5]
    exact no4
  ·rw [show blockOf p d s = ([], false) from if_neg (fun h => q4 (by have := h.2.2.2.2.2.1; rwa [gd.1] at this))]
   simp only [if_neg q4]
   exact no4
theorem implBlockF (p d : List (List Int)) (s : Int) : Ev (fun k => impl_BlockErrors.f k p d s) (blockOf p d s) := by
 unfold impl_BlockErrors.f
 have no := implBlockNo p d s
 refine ev_bind' (show impl_ValidPicture.f p = some (rowsForm 255 p) from by unfold impl_ValidPicture.f; rw [areRows_tells]; rfl) ?_
 by_cases v1 : rowsForm 255 p = true
 ·simp only [v1, if_true]
  refine ev_bind' (areRows_tells d 1) ?_
  by_cases v2 : rowsForm 1 d = true
  ·simp only [v2, if_true]
   obtain ⟨R, C, R1, R2, C1, C2, gd, cd, _⟩ := rowsForm_is v2
   obtain ⟨R', C', R1', R2', C1', C2', gp, cp, _⟩ := rowsForm_is v1
   by_cases q1 : d.length = p.length
   ·simp only [if_pos (show (d.length : Int) = (p.length : Int) by omega), if_pos (show 0 < (d.length : Int) by rw [gd.1]; omega), if_pos (show 0 < (p.length : Int) by rw [gp.1]; omega)]
    by_cases q2 : (rd_L1 d 0).length = (rd_L1 p 0).length
    ·rw [show (((rd_L1 d 0).length : Int) != ((rd_L1 p 0).length : Int)) = false from by rw [q2]; exact bne_self_eq_false _]
     exact implJ0 p d s v1 v2 q1 q2
    ·rw [show (((rd_L1 d 0).length : Int) != ((rd_L1 p 0).length : Int)) = true from by simpa using fun h => q2 (by omega), show blockOf p d s = ([], false) from if_neg (fun h => q2 h.2.2.2.1)]
     exact no
   ·rw [show blockOf p d s = ([], false) from if_neg (fun h => q1 h.2.2.1)]
    simp only [if_neg (show ¬ (d.length : Int) = (p.length : Int) by omega)]
    exact no
  ·rw [show blockOf p d s = ([], false) from if_neg (fun h => v2 h.2.1)]
   simp only [if_neg v2]
   exact no
 ·rw [show blockOf p d s = ([], false) from if_neg (fun h => v1 h.1)]
  simp only [if_neg v1]
  exact no
end Go.Proofs.Ytckonklpdepgoaa.Com
namespace Go.Proofs.Ytckonklpdepgoaa.Com
set_option linter.unusedSimpArgs false
set_option linter.unusedVariables false
set_option linter.unusedSectionVars false
open Go.RowKit Go.Proofs.YtckonklpdepgoaaW.PrintWords Go.Proofs.YtckonklpdepgoaaW.PrintMore Go.Proofs.Ytckonklpdepgoaa.Q
theorem grid_at {R C : Nat} {g : List (List Int)} {a b : Int} (h : Grid R C g) (hv : ∀ x ∈ g, ∀ z ∈ x, a ≤ z ∧ z ≤ b) {i j : Nat} (hi : i < R) (hj : j < C) : a ≤ rd (rd_L1 g (i : Int)) (j : Int) ∧ rd (rd_L1 g (i : Int)) (j : Int) ≤ b := by
 have h1 : i < g.length := by rw [h.1]; exact hi
 rw [rdr_nat h1]
 have h2 : j < g[i].length := by rw [h.2 _ (List.getElem_mem h1)]; exact hj
 rw [rd_nat h2]
 exact hv _ (List.getElem_mem h1) _ (List.getElem_mem h2)
theorem isMaskB_is {l : List (List Int)} (h : isMaskB l = true) : (1 ≤ l.length ∧ l.length ≤ 8) ∧ Grid l.length l.length l ∧ ∀ x ∈ l, ∀ z ∈ x, 0 ≤ z ∧ z ≤ 63 := by
 obtain ⟨h1, h2⟩ := isMaskB_len h
 refine ⟨h1, ⟨rfl, h2⟩, fun x hx z hz => ?_⟩
 simp only [isMaskB, Bool.and_eq_true] at h
 have h3 := h.2
 rw [okRows_flat _ _ _ _ h2, okAll_iff] at h3
 have h4 := h3.1 z (List.mem_flatten.2 ⟨x, hx, hz⟩)
 have h5 := sq_le l.length h1.2
 omega
def mdAt (p m : List (List Int)) (i j : Nat) : Int := if 2 * ((m.length : Int) * (m.length : Int)) * rd (rd_L1 p (i : Int)) (j : Int) > 255 * (2 * rd (rd_L1 m ((i % m.length : Nat) : Int)) ((j % m.length : Nat) : Int) + 1) then 1 else 0
section
variable {p m : List (List Int)} {R C : Nat} (hR : 1 ≤ R ∧ R ≤ 12) (hC : 1 ≤ C ∧ C ≤ 12) (gp : Grid R C p) (hv : ∀ x ∈ p, ∀ z ∈ x, 0 ≤ z ∧ z ≤ 255) (hm : isMaskB m = true)
include hR hC gp hv hm
theorem mdBounds (i j : Nat) (hi : i < R) (hj : j < C) : wrap64 (wrap64 (2 * wrap64 ((m.length : Int) * (m.length : Int))) * rd (rd_L1 p (i : Int)) (j : Int)) = 2 * ((m.length : Int) * (m.length : Int)) * rd (rd_L1 p (i : Int)) (j : Int) ∧
  wrap64 (wrap64 (wrap64 (2 * (m.length : Int)) * (m.length : Int)) * rd (rd_L1 p (i : Int)) (j : Int)) = 2 * ((m.length : Int) * (m.length : Int)) * rd (rd_L1 p (i : Int)) (j : Int) ∧
  wrap64 (255 * wrap64 (wrap64 (2 * rd (rd_L1 m ((i % m.length : Nat) : Int)) ((j % m.length : Nat) : Int)) + 1)) = 255 * (2 * rd (rd_L1 m ((i % m.length : Nat) : Int)) ((j % m.length : Nat) : Int) + 1) := by
 obtain ⟨h1, gm, hmv⟩ := isMaskB_is hm
 have q1 := grid_at gp hv hi hj
 have q2 := grid_at gm hmv (Nat.mod_lt i (by omega)) (Nat.mod_lt j (by omega))
 have q3 := sq_le m.length h1.2
 have e1 : (m.length : Int) * (m.length : Int) = ((m.length * m.length : Nat) : Int) := (Int.natCast_mul _ _).symm
 generalize rd (rd_L1 m ((i % m.length : Nat) : Int)) ((j % m.length : Nat) : Int) = z at q2
 generalize rd (rd_L1 p (i : Int)) (j : Int) = t at q1
 have e2 : 2 * (m.length : Int) * (m.length : Int) = 2 * ((m.length : Int) * (m.length : Int)) := by rw [Int.mul_assoc]
 have e3 : wrap64 (2 * (m.length : Int)) = 2 * (m.length : Int) := w64 (by omega) (by omega)
 rw [e3, e2, e1]
 generalize m.length * m.length = s at q3
 have e4 : wrap64 (2 * wrap64 (s : Int)) = 2 * (s : Int) := by rw [w64 (x := (s : Int)) (by omega) (by omega)]; exact w64 (by omega) (by omega)
 have e5 : wrap64 (2 * (s : Int)) = 2 * (s : Int) := w64 (by omega) (by omega)
 have q4 : 0 ≤ 2 * (s : Int) * t ∧ 2 * (s : Int) * t ≤ 128 * 255 := ⟨Int.mul_nonneg (by omega) q1.1, Int.mul_le_mul (by omega) q1.2 q1.1 (by omega)⟩
 refine ⟨by rw [e4]; exact w64 (by omega) (by omega), by rw [e5]; exact w64 (by omega) (by omega), ?_⟩
 rw [w64 (x := 2 * z) (by omega) (by omega), w64 (x := 2 * z + 1) (by omega) (by omega)]
 exact w64 (by omega) (by omega)
theorem tmn (i : Nat) : Int.tmod (i : Int) (m.length : Int) = ((i % m.length : Nat) : Int) := by
 rw [tmod_nn (by omega)]; rfl
theorem implMd_ev : Ev (fun k => impl_MaskDither.l0 k m (m.length : Int) (grid0 R C) p (R : Int) 0) (tbl R C (mdAt p m), true) := by
 obtain ⟨h1, gm, hmv⟩ := isMaskB_is hm
 refine tbl_loops R C (mdAt p m) (fun i s k => impl_MaskDither.l0 k m (m.length : Int) s p (R : Int) (i : Int)) (fun i j s k => impl_MaskDither.l1 k m (m.length : Int) s (i : Int) p (R : Int) (i : Int) (rd_L1 p (i : Int)) (C : Int) (j : Int)) _ ?_ ?_ ?_ ?_
 ·refine Ev.step (fun k => by rw [impl_MaskDither.l0]) ?_
  simp only [if_neg (show ¬ (R : Int) < (R : Int) by omega)]
  exact Ev.now _
 ·intro i hi h
  refine Ev.step (fun k => by rw [impl_MaskDither.l0]) ?_
  simp only [if_pos (show (i : Int) < (R : Int) by omega), if_pos (show 0 ≤ (i : Int) by omega), gp.1, gp.rd hi]
  exact h
 ·intro i j hi hj h
  have b := mdBounds hR hC gp hv hm i j hi hj
  have u1 := Nat.mod_lt i (show m.length > 0 by omega)
  have u2 := Nat.mod_lt j (show m.length > 0 by omega)
  refine Ev.step (fun k => by rw [impl_MaskDither.l1]) ?_
  simp only [if_pos (show (j : Int) < (C : Int) by omega), if_pos (show 0 ≤ (j : Int) by omega), gp.rd hi, if_pos (show 0 ≤ (i : Int) by omega), (tblAt_is R C (mdAt p m) i j).1, if_pos (show (i : Int) < (R : Int) by omega), if_neg (show ¬ (m.length : Int) = 0 by omega), tmn hR hC gp hv hm, if_pos (show 0 ≤ ((i % m.length : Nat) : Int) by omega), if_pos (show 0 ≤ ((j % m.length : Nat) : Int) by omega), if_pos (show ((i % m.length : Nat) : Int) < (m.length : Int) by omega), gm.rd u1, if_pos (show ((j % m.length : Nat) : Int) < (m.length : Int) by omega), b.1, b.2.2, (tblAt_is R C (mdAt p m) i j).rd hi, w_succ (m := j) (by omega), Int.toNat_natCast]
  have eb : impl_bit.f (decide (2 * ((m.length : Int) * (m.length : Int)) * rd (rd_L1 p (i : Int)) (j : Int) > 255 * (2 * rd (rd_L1 m ((i % m.length : Nat) : Int)) ((j % m.length : Nat) : Int) + 1))) = some (mdAt p m i j) := by
   unfold impl_bit.f mdAt
   by_cases c : 2 * ((m.length : Int) * (m.length : Int)) * rd (rd_L1 p (i : Int)) (j : Int) > 255 * (2 * rd (rd_L1 m ((i % m.length : Nat) : Int)) ((j % m.length : Nat) : Int) + 1)
   ·rw [if_pos c, decide_eq_true c]; rfl
   ·rw [if_neg c, decide_eq_false c]; rfl
  simp only [eb, Option.bind_some, tblAt_set R C (mdAt p m) i j hi hj]
  exact h
 ·intro i hi h
  refine Ev.step (fun k => by rw [impl_MaskDither.l1]) ?_
  simp only [if_neg (show ¬ (C : Int) < (C : Int) by omega), w_succ (m := i) (by omega)]
  exact h
end
theorem implVp (p : List (List Int)) : impl_ValidPicture.f p = some (rowsForm 255 p) := by
 unfold impl_ValidPicture.f
 rw [areRows_tells]
 rfl
theorem implMaskDither_ev {p m : List (List Int)} {R C : Nat} (hR : 1 ≤ R ∧ R ≤ 12) (hC : 1 ≤ C ∧ C ≤ 12) (gp : Grid R C p) (hc : (rd_L1 p 0).length = C) (hv : ∀ x ∈ p, ∀ z ∈ x, 0 ≤ z ∧ z ≤ 255) (v : rowsForm 255 p = true) (hm : isMaskB m = true) :
  Ev (fun k => impl_MaskDither.f k p m) (tbl R C (mdAt p m), true) := by
 unfold impl_MaskDither.f
 simp only [implVp, v, Option.bind_some, if_true]
 refine Ev.bind (implMask_ev m) ?_
 rw [hm]
 refine Ev.step (fun k => by rw [impl_MaskDither.j0]) ?_
 simp only [Bool.not_true, Bool.false_eq_true, if_false, gp.1, hc, if_pos (show 0 < (R : Int) by omega)]
 exact Ev.bind (noughts_ev R C (by omega) (by omega)) (implMd_ev hR hC gp hv hm)
end Go.Proofs.Ytckonklpdepgoaa.Com
namespace Go.Proofs.Ytckonklpdepgoaa.Com
set_option linter.unusedSimpArgs false
set_option linter.unusedVariables false
set_option linter.unusedSectionVars false
open Go.RowKit Go.Proofs.YtckonklpdepgoaaW.PrintWords Go.Proofs.YtckonklpdepgoaaW.PrintMore Go.Proofs.Ytckonklpdepgoaa.Q
def sumAll (g : List (List Int)) : Int := (g.map List.sum).sum
theorem sum_bd (l : List Int) (B : Int) (hB : 0 ≤ B) (h : ∀ z ∈ l, -B ≤ z ∧ z ≤ B) : -((l.length : Int) * B) ≤ l.sum ∧ l.sum ≤ (l.length : Int) * B := by
 induction l with
 | nil => simp
 | cons x r ih =>
  have h1 := h x (List.mem_cons_self ..)
  have h2 := ih (fun z hz => h z (List.mem_cons_of_mem _ hz))
  rw [List.sum_cons, List.length_cons, Int.natCast_add, Int.add_mul]
  omega
theorem sum_snoc (l : List Int) (x : Int) : (l ++ [x]).sum = l.sum + x := by simp
theorem b10Sum_ev (l : List Int) (hl : l.length ≤ 100000) (h : ∀ z ∈ l, -1000000000 ≤ z ∧ z ≤ 1000000000) : Ev (fun k => laws_b10Sum.f k l) l.sum := by
 unfold laws_b10Sum.f
 have key := ev_fold l (fun m (s : Int) k => laws_b10Sum.l0 k l s (m : Int)) (fun d s => s + d.sum) (fun m s => s = (l.take m).sum) ?_ ?_ 0 0 (by omega) (by simp)
 ·rw [List.drop_zero, Int.zero_add] at key
  exact key
 ·intro s _
  refine Ev.step (fun k => by rw [laws_b10Sum.l0]) ?_
  simp only [if_neg (show ¬ (l.length : Int) < (l.length : Int) by omega), List.sum_nil, Int.add_zero]
  exact Ev.now _
 ·intro m hm s hs ih
  have e : (l.take (m + 1)).sum = s + l[m] := by rw [List.take_succ_eq_append_getElem hm, sum_snoc, hs]
  have b := sum_bd (l.take m) 1000000000 (by omega) (fun z hz => h z (List.mem_of_mem_take hz))
  have b2 := h _ (List.getElem_mem hm)
  have b3 : (l.take m).length ≤ 100000 := by rw [List.length_take]; omega
  have b4 : ((l.take m).length : Int) * 1000000000 ≤ 100000 * 1000000000 := Int.mul_le_mul_of_nonneg_right (by omega) (by omega)
  rw [← hs] at b
  refine Ev.step (fun k => by rw [laws_b10Sum.l0]) ?_
  simp only [if_pos (show (m : Int) < (l.length : Int) by omega), if_pos (show 0 ≤ (m : Int) by omega), rd_nat hm, w64 (x := s + l[m]) (by omega) (by omega), w_succ (m := m) (by omega)]
  rw [List.sum_cons, ← Int.add_assoc]
  exact ih (s + l[m]) e.symm
theorem b10All_ev (g : List (List Int)) (hl : g.length ≤ 1000) (h1 : ∀ x ∈ g, x.length ≤ 1000) (h : ∀ x ∈ g, ∀ z ∈ x, -1000000000 ≤ z ∧ z ≤ 1000000000) : Ev (fun k => laws_b10All.f k g) (sumAll g) := by
 unfold laws_b10All.f sumAll
 have rows : ∀ x ∈ g, -1000000000000 ≤ x.sum ∧ x.sum ≤ 1000000000000 := fun x hx => by
  have b := sum_bd x 1000000000 (by omega) (h x hx)
  have b3 := h1 x hx
  have b4 : (x.length : Int) * 1000000000 ≤ 1000 * 1000000000 := Int.mul_le_mul_of_nonneg_right (by omega) (by omega)
  omega
 have key := ev_fold g (fun m (s : Int) k => laws_b10All.l0 k g s (m : Int)) (fun d s => s + (d.map List.sum).sum) (fun m s => s = ((g.take m).map List.sum).sum) ?_ ?_ 0 0 (by omega) (by simp)
 ·rw [List.drop_zero, Int.zero_add] at key
  exact key
 ·intro s _
  refine Ev.step (fun k => by rw [laws_b10All.l0]) ?_
  simp only [if_neg (show ¬ (g.length : Int) < (g.length : Int) by omega), List.map_nil, List.sum_nil, Int.add_zero]
  exact Ev.now _
 ·intro m hm s hs ih
  have e : ((g.take (m + 1)).map List.sum).sum = s + g[m].sum := by rw [List.take_succ_eq_append_getElem hm, List.map_append, List.map_singleton, sum_snoc, hs]
  have b := sum_bd ((g.take m).map List.sum) 1000000000000 (by omega) (fun z hz => by
   obtain ⟨x, hx, rfl⟩ := List.mem_map.1 hz
   exact rows x (List.mem_of_mem_take hx))
  have b2 := rows _ (List.getElem_mem hm)
  have b3 : ((g.take m).map List.sum).length ≤ 1000 := by rw [List.length_map, List.length_take]; omega
  have b4 : (((g.take m).map List.sum).length : Int) * 1000000000000 ≤ 1000 * 1000000000000 := Int.mul_le_mul_of_nonneg_right (by omega) (by omega)
  rw [← hs] at b
  have hr : rd_L1 g (m : Int) = g[m] := rdr_nat hm
  refine Ev.step (fun k => by rw [laws_b10All.l0]) ?_
  simp only [if_pos (show (m : Int) < (g.length : Int) by omega), if_pos (show 0 ≤ (m : Int) by omega), hr, w_succ (m := m) (by omega)]
  refine Ev.bind (b10Sum_ev g[m] (by have := h1 _ (List.getElem_mem hm); omega) (h _ (List.getElem_mem hm))) ?_
  simp only [w64 (x := s + g[m].sum) (by omega) (by omega)]
  rw [List.map_cons, List.sum_cons, ← Int.add_assoc]
  exact ih (s + g[m].sum) e.symm
theorem sum_set (l : List Int) (i : Nat) (v : Int) (h : i < l.length) : (l.set i v).sum = l.sum - l[i] + v := by
 induction l generalizing i with
 | nil => simp at h
 | cons x r ih =>
  cases i with
  | zero => simp; omega
  | succ i =>
   simp only [List.set_cons_succ, List.sum_cons, List.getElem_cons_succ]
   rw [ih i (by simpa using h)]
   omega
theorem sumAll_set {R C : Nat} {g : List (List Int)} (hg : Grid R C g) (i j : Nat) (v : Int) (hi : i < R) (hj : j < C) : sumAll (g.set i ((rd_L1 g (i : Int)).set j v)) = sumAll g - rd (rd_L1 g (i : Int)) (j : Int) + v := by
 have h1 : i < g.length := by rw [hg.1]; exact hi
 have h2 : j < g[i].length := by rw [hg.2 _ (List.getElem_mem h1)]; exact hj
 unfold sumAll
 rw [rdr_nat h1, rd_nat h2, List.map_set, sum_set _ _ _ (by simpa using h1), sum_set _ _ _ h2]
 simp only [List.getElem_map]
 omega
theorem sumAll_grid0 (R C : Nat) : sumAll (grid0 R C) = 0 := by
 unfold sumAll grid0
 rw [List.map_replicate]
 have : ∀ n : Nat, ∀ z : Int, z = 0 → (List.replicate n z).sum = 0 := fun n z h => by
  subst h
  induction n with
  | zero => rfl
  | succ n ih => rw [List.replicate_succ, List.sum_cons, ih]; rfl
 exact this _ _ (this _ _ rfl)
theorem forTo_inv {σ : Type} (step : Nat → σ → σ) (n : Nat) (Inv : Nat → σ → Prop) (h : ∀ m s, m < n → Inv m s → Inv (m + 1) (step m s)) : ∀ d m s, m + d = n → Inv m s → Inv n (forTo step m d s) := by
 intro d
 induction d with
 | zero =>
  intro m s e hi
  obtain rfl : m = n := by omega
  exact hi
 | succ d ih =>
  intro m s e hi
  exact ih (m + 1) (step m s) (by omega) (h m s (by omega) hi)
def errAt (p d : List (List Int)) (i j : Nat) : Int := rd (rd_L1 p (i : Int)) (j : Int) - 255 * rd (rd_L1 d (i : Int)) (j : Int)
def errRow (p d : List (List Int)) (i : Nat) : Nat → Int
 | 0 => 0
 | j + 1 => errRow p d i j + errAt p d i j
def errSum (p d : List (List Int)) (C : Nat) : Nat → Int
 | 0 => 0
 | i + 1 => errSum p d C i + errRow p d i C
section
variable {p d : List (List Int)} {R C n : Nat} (hR : 1 ≤ R ∧ R ≤ 12) (hC : 1 ≤ C ∧ C ≤ 12) (hp : Grid R C p) (hd : Grid R C d) (hn : 0 < n) (dR : n ∣ R) (dC : n ∣ C) (pv : ∀ x ∈ p, ∀ z ∈ x, 0 ≤ z ∧ z ≤ 255) (dv : ∀ x ∈ d, ∀ z ∈ x, 0 ≤ z ∧ z ≤ 1)
include hR hC hp hd hn dR dC pv dv
theorem errAt_bd (i j : Nat) (hi : i < R) (hj : j < C) : -255 ≤ errAt p d i j ∧ errAt p d i j ≤ 255 ∧ wrap64 (rd (rd_L1 p (i : Int)) (j : Int) - wrap64 (255 * rd (rd_L1 d (i : Int)) (j : Int))) = errAt p d i j := by
 have q1 := grid_at hp pv hi hj
 have q2 := grid_at hd dv hi hj
 unfold errAt
 refine ⟨by omega, by omega, ?_⟩
 rw [w64 (x := 255 * rd (rd_L1 d (i : Int)) (j : Int)) (by omega) (by omega)]
 exact w64 (by omega) (by omega)
def beInv (p d : List (List Int)) (R C n : Nat) (S : Int) (B : Nat) (g : List (List Int)) : Prop := Grid (R / n) (C / n) g ∧ (∀ x ∈ g, ∀ z ∈ x, -(255 * (B : Int)) ≤ z ∧ z ≤ 255 * (B : Int)) ∧ sumAll g = S
theorem beStep_inv (i j : Nat) (hi : i < R) (hj : j < C) (S : Int) (B : Nat) (hB : B ≤ 1000) (g : List (List Int)) (h : beInv p d R C n S B g) : beInv p d R C n (S + errAt p d i j) (B + 1) (beStep p d n i j g) := by
 obtain ⟨h1, h2, h3⟩ := h
 have a1 := div_lt_div hn dR hi
 have a2 := div_lt_div hn dC hj
 have e := errAt_bd hR hC hp hd hn dR dC pv dv i j hi hj
 have q := grid_at h1 h2 a1 a2
 have hw : wrap64 (rd (rd_L1 g ((i / n : Nat) : Int)) ((j / n : Nat) : Int) + wrap64 (rd (rd_L1 p (i : Int)) (j : Int) - wrap64 (255 * rd (rd_L1 d (i : Int)) (j : Int)))) = rd (rd_L1 g ((i / n : Nat) : Int)) ((j / n : Nat) : Int) + errAt p d i j := by
  rw [e.2.2]
  exact w64 (by omega) (by omega)
 refine ⟨beStep_is hR hC hp hd hn dR dC j h1 hi, fun x hx z hz => ?_, ?_⟩
 ·unfold beStep at hx
  rw [hw] at hx
  rcases List.mem_or_eq_of_mem_set hx with hx | hx
  ·have := h2 x hx z hz; omega
  ·rw [hx] at hz
   rcases List.mem_or_eq_of_mem_set hz with hz | hz
   ·have h4 : i / n < g.length := by rw [h1.1]; exact a1
    rw [rdr_nat h4] at hz
    have := h2 _ (List.getElem_mem h4) z hz; omega
   ·omega
 ·unfold beStep
  rw [hw, sumAll_set h1 _ _ _ a1 a2, h3]
  omega
theorem beRow_inv (i : Nat) (hi : i < R) (S : Int) (B : Nat) (hB : B + C ≤ 1000) (g : List (List Int)) (h : beInv p d R C n S B g) : beInv p d R C n (S + errRow p d i C) (B + C) (beRow p d n C i g) := by
 have key := forTo_inv (beStep p d n i) C (fun j g => beInv p d R C n (S + errRow p d i j) (B + j) g) (fun j g hj hg => by
  have := beStep_inv hR hC hp hd hn dR dC pv dv i j hi hj _ _ (by omega) g hg
  rw [errRow, ← Int.add_assoc]
  exact this) C 0 g (by omega) (by rw [errRow, Int.add_zero]; exact h)
 exact key
theorem beAll_inv : beInv p d R C n (errSum p d C R) (R * C) (beAll p d n R C) := by
 have key := forTo_inv (beRow p d n C) R (fun i g => beInv p d R C n (errSum p d C i) (i * C) g) (fun i g hi hg => by
  have hb : i * C ≤ 12 * 12 := Nat.mul_le_mul (by omega) hC.2
  have := beRow_inv hR hC hp hd hn dR dC pv dv i hi _ _ (by omega) g hg
  rw [errSum, Nat.succ_mul]
  exact this) R 0 (grid0 (R / n) (C / n)) (by omega) ⟨grid0_is _ _, fun x hx z hz => by
   unfold grid0 at hx
   rw [List.eq_of_mem_replicate hx] at hz
   rw [List.eq_of_mem_replicate hz]
   omega, by rw [sumAll_grid0]; rfl⟩
 exact key
end
section
variable {p d : List (List Int)} {R C : Nat} (hR : 1 ≤ R ∧ R ≤ 12) (hC : 1 ≤ C ∧ C ≤ 12) (hp : Grid R C p) (hd : Grid R C d) (pv : ∀ x ∈ p, ∀ z ∈ x, 0 ≤ z ∧ z ≤ 255) (dv : ∀ x ∈ d, ∀ z ∈ x, 0 ≤ z ∧ z ≤ 1)
include hR hC hp hd pv dv
theorem beAll_one : beAll p d 1 R C = tbl R C (errAt p d) := by
 have step : ∀ i j, i < R → j < C → beStep p d 1 i j (tblAt R C (errAt p d) i j) = tblAt R C (errAt p d) i (j + 1) := fun i j hi hj => by
  have e := errAt_bd hR hC hp hd Nat.one_pos (Nat.one_dvd _) (Nat.one_dvd _) pv dv i j hi hj
  unfold beStep
  rw [Nat.div_one, Nat.div_one, e.2.2]
  have z : rd (rd_L1 (tblAt R C (errAt p d) i j) (i : Int)) (j : Int) = 0 := by
   unfold tblAt
   rw [tbl_rd R C _ i j hi hj]
   exact if_neg (by omega)
  rw [z, Int.zero_add, w64 (by omega) (by omega)]
  exact tblAt_set R C _ i j hi hj
 have row : ∀ i, i < R → beRow p d 1 C i (tblAt R C (errAt p d) i 0) = tblAt R C (errAt p d) (i + 1) 0 := fun i hi => by
  rw [← tblAt_row]
  exact forTo_inv (beStep p d 1 i) C (fun j g => g = tblAt R C (errAt p d) i j) (fun j g hj hg => by rw [hg]; exact step i j hi hj) C 0 _ (by omega) rfl
 have all := forTo_inv (beRow p d 1 C) R (fun i g => g = tblAt R C (errAt p d) i 0) (fun i g hi hg => by rw [hg]; exact row i hi) R 0 (grid0 R C) (by omega) (tblAt_start R C _).symm
 unfold beAll
 rw [Nat.div_one, Nat.div_one, all, tblAt_end]
end
end Go.Proofs.Ytckonklpdepgoaa.Com
namespace Go.Proofs.Ytckonklpdepgoaa.Com
set_option linter.unusedSimpArgs false
set_option linter.unusedVariables false
open Go.RowKit Go.Proofs.YtckonklpdepgoaaW.PrintWords Go.Proofs.YtckonklpdepgoaaW.PrintMore Go.Proofs.Ytckonklpdepgoaa.Q
theorem and_255 (x : Nat) (h : x < 18446744073709551616) : ∃ r : Nat, Go.bits .and .u64 (x : Int) 255 = (r : Int) ∧ r ≤ 255 :=
 ⟨x &&& 255, (Go.bits_nat .u64 64 (by decide) (fun n h0 h1 => by simp [IntKind.wrap, IntKind.bits, IntKind.signed]; omega) x 255 h (by decide)).1, Nat.and_le_right⟩
theorem u64_bd (n : Int) : 0 ≤ IntKind.u64.wrap n ∧ IntKind.u64.wrap n < 18446744073709551616 := by
 simp [IntKind.wrap, IntKind.bits, IntKind.signed]
 omega
theorem u8_bd {x : Int} (h : (Lit.int .u8 x).wf = true) : 0 ≤ x ∧ x ≤ 255 := by
 simp [Lit.wf, IntKind.min, IntKind.max, IntKind.signed, IntKind.bits] at h
 omega
theorem next_tells (l : List Int) (hl : ∀ x ∈ l, (Lit.int .u8 x).wf = true) (a s : Int) (ha : 0 ≤ a ∧ a ≤ 1000) : ∃ v s', spec_l00Src_next.f l a s = some (v, a + 1, s') ∧ 0 ≤ v ∧ v ≤ 255 := by
 unfold spec_l00Src_next.f
 rw [w64 (x := a + 1) (by omega) (by omega)]
 have big : ∀ y : Int, ∃ r : Nat, Go.bits .and .u64 (IntKind.u64.wrap y / 1099511627776) 255 = (r : Int) ∧ r ≤ 255 := by
  intro y
  have b := u64_bd y
  obtain ⟨n, hn⟩ := Int.eq_ofNat_of_zero_le (show 0 ≤ IntKind.u64.wrap y / 1099511627776 by omega)
  rw [hn]
  exact and_255 n (by omega)
 by_cases h : a < (l.length : Int)
 ·rw [if_pos h, if_pos ha.1, if_pos (by omega)]
  have hlt : a.toNat < l.length := by omega
  have hv : rd l a = l[a.toNat] := by
   have := rd_nat hlt
   rwa [Int.toNat_of_nonneg ha.1] at this
  have b := u8_bd (hl _ (List.getElem_mem hlt))
  rw [hv, w64 (x := l[a.toNat]) (by omega) (by omega)]
  exact ⟨_, _, rfl, b.1, b.2⟩
 ·rw [if_neg h]
  split
  ·exact ⟨_, _, rfl, by omega, by omega⟩
  ·obtain ⟨r, hr, hr'⟩ := big (IntKind.u64.wrap (IntKind.u64.wrap (s * 6364136223846793005)) + 1442695040888963407)
   rw [hr, w64 (x := (r : Int)) (by omega) (by omega)]
   exact ⟨_, _, rfl, by omega, by omega⟩
theorem pick2_tells (l : List Int) (hl : ∀ x ∈ l, (Lit.int .u8 x).wf = true) (a s n : Int) (ha : 0 ≤ a ∧ a ≤ 999) (hn : 1 ≤ n ∧ n ≤ 1000) : ∃ v a' s', spec_l00Src_pick.f l a s n = some (v, a', s') ∧ 0 ≤ v ∧ v < n ∧ 0 ≤ a' ∧ a' ≤ a + 2 := by
 unfold spec_l00Src_pick.f
 by_cases h : n ≤ 1
 ·rw [if_pos h]
  exact ⟨_, _, _, rfl, by omega, by omega, by omega, by omega⟩
 ·obtain ⟨v, s', e, h0, h1⟩ := next_tells l hl a s (by omega)
  rw [if_neg h, e, Option.bind_some]
  by_cases h2 : n > 200
  ·obtain ⟨v2, s2, e2, g0, g1⟩ := next_tells l hl (a + 1) s' (by omega)
   rw [if_pos h2]
   simp only
   rw [e2, Option.bind_some, if_neg (by omega)]
   simp only
   rw [w64 (x := v * 256) (by omega) (by omega), w64 (x := v * 256 + v2) (by omega) (by omega), tmod_nn (by omega)]
   have := Int.emod_nonneg (v * 256 + v2) (show n ≠ 0 by omega)
   have := Int.emod_lt_of_pos (v * 256 + v2) (show 0 < n by omega)
   exact ⟨(v * 256 + v2) % n, a + 1 + 1, s2, rfl, by omega, by omega, by omega, by omega⟩
  ·rw [if_neg h2, if_neg (by omega), tmod_nn h0]
   have := Int.emod_nonneg v (show n ≠ 0 by omega)
   have := Int.emod_lt_of_pos v (show 0 < n by omega)
   exact ⟨v % n, a + 1, s', rfl, by omega, by omega, by omega, by omega⟩
end Go.Proofs.Ytckonklpdepgoaa.Com
namespace Go.Proofs.Ytckonklpdepgoaa.Com
set_option linter.unusedSimpArgs false
set_option linter.unusedVariables false
set_option linter.unusedSectionVars false
open Go.RowKit Go.Proofs.YtckonklpdepgoaaW.PrintWords Go.Proofs.YtckonklpdepgoaaW.PrintMore Go.Proofs.Ytckonklpdepgoaa.Q
theorem one2_tells (l : List Int) (hl : ∀ x ∈ l, (Lit.int .u8 x).wf = true) (a s n : Int) (ha : 0 ≤ a ∧ a ≤ 999) (hn : 1 ≤ n ∧ n ≤ 1000) : ∃ v a' s', spec_l00Src_one.f l a s n = some (v, a', s') ∧ 0 ≤ a' ∧ a' ≤ a + 2 := by
 obtain ⟨v, a', s', e, _, _, h1, h2⟩ := pick2_tells l hl a s n ha hn
 unfold spec_l00Src_one.f
 rw [e]
 exact ⟨_, _, _, rfl, h1, h2⟩
section
variable {l : List Int} (hl : ∀ x ∈ l, (Lit.int .u8 x).wf = true)
include hl
theorem drawRow_ev (R C : Nat) (hC : C ≤ 12) (v : Int) (hv : 0 ≤ v ∧ v ≤ 255) (b : Bool) (i : Int) (p : List (List Int)) (r : List (List Int) × Int × Int → Prop) :
  ∀ (d m : Nat), m + d = C → ∀ (x : List Int) (a s : Int), x.length = m → (∀ z ∈ x, 0 ≤ z ∧ z ≤ 255) → 0 ≤ a → a + 2 * (d : Int) ≤ 800 →
   ∃ (x' : List Int) (a' s' : Int), x'.length = C ∧ (∀ z ∈ x', 0 ≤ z ∧ z ≤ 255) ∧ 0 ≤ a' ∧ a' ≤ a + 2 * (d : Int) ∧ ∀ q, Ev (fun k => spec_l09DrawSized.l1 k (R : Int) (C : Int) v b i x' (C : Int) l a' s' p) q → Ev (fun k => spec_l09DrawSized.l1 k (R : Int) (C : Int) v b i x (m : Int) l a s p) q := by
 intro d
 induction d with
 | zero =>
  intro m e x a s hx hz ha _
  obtain rfl : m = C := by omega
  exact ⟨x, a, s, hx, hz, ha, by omega, fun q h => h⟩
 | succ d ih =>
  intro m e x a s hx hz ha hb
  cases b with
  | true =>
   obtain ⟨x', a', s', g1, g2, g3, g4, g5⟩ := ih (m + 1) (by omega) (x ++ [v]) a s (by simp; omega) (fun z hz' => by
    rcases List.mem_append.1 hz' with h | h
    ·exact hz z h
    ·rw [List.mem_singleton.1 h]; exact hv) ha (by omega)
   refine ⟨x', a', s', g1, g2, g3, by omega, fun q h => Ev.step (fun k => by rw [spec_l09DrawSized.l1]) ?_⟩
   simp only [if_pos (show (m : Int) < (C : Int) by omega), if_true, if_pos (show x.length < 17592186044416 by omega), w_succ (m := m) (by omega)]
   exact g5 q h
  | false =>
   obtain ⟨u, a1, s1, ev, u0, u1, b0, b1⟩ := pick2_tells l hl a s 256 (by omega) (by omega)
   obtain ⟨x', a', s', g1, g2, g3, g4, g5⟩ := ih (m + 1) (by omega) (x ++ [u]) a1 s1 (by simp; omega) (fun z hz' => by
    rcases List.mem_append.1 hz' with h | h
    ·exact hz z h
    ·rw [List.mem_singleton.1 h]; omega) b0 (by omega)
   refine ⟨x', a', s', g1, g2, g3, by omega, fun q h => Ev.step (fun k => by rw [spec_l09DrawSized.l1]) ?_⟩
   simp only [if_pos (show (m : Int) < (C : Int) by omega), Bool.false_eq_true, if_false, ev, Option.bind_some, if_pos (show x.length < 17592186044416 by omega), w_succ (m := m) (by omega)]
   exact g5 q h
theorem drawRows_ev (R C : Nat) (hR : R ≤ 12) (hC : C ≤ 12) (v : Int) (hv : 0 ≤ v ∧ v ≤ 255) (b : Bool) :
  ∀ (d m : Nat), m + d = R → ∀ (p : List (List Int)) (a s : Int), Grid m C p → (∀ x ∈ p, ∀ z ∈ x, 0 ≤ z ∧ z ≤ 255) → 0 ≤ a → a + 2 * ((d * 12 : Nat) : Int) ≤ 800 →
   ∃ (p' : List (List Int)) (a' s' : Int), Grid R C p' ∧ (∀ x ∈ p', ∀ z ∈ x, 0 ≤ z ∧ z ≤ 255) ∧ Ev (fun k => spec_l09DrawSized.l0 k (R : Int) (C : Int) v b (m : Int) l a s p) (p', a', s') ∧ 0 ≤ a' ∧ a' ≤ a + 2 * ((d * 12 : Nat) : Int) := by
 intro d
 induction d with
 | zero =>
  intro m e p a s hg hz ha _
  obtain rfl : m = R := by omega
  refine ⟨p, a, s, hg, hz, Ev.step (fun k => by rw [spec_l09DrawSized.l0]) ?_, ha, by omega⟩
  simp only [if_neg (show ¬ (m : Int) < (m : Int) by omega)]
  exact Ev.now _
 | succ d ih =>
  intro m e p a s hg hz ha hb
  obtain ⟨x', a1, s1, g1, g2, g3, g4, g5⟩ := drawRow_ev hl R C hC v hv b (m : Int) p (fun _ => True) C 0 (by omega) [] a s rfl (by simp) ha (by omega)
  obtain ⟨p', a', s', k1, k2, k3, k4, k5⟩ := ih (m + 1) (by omega) (p ++ [x']) a1 s1 ⟨by rw [List.length_append, hg.1]; rfl, fun x hx => by
   rcases List.mem_append.1 hx with h | h
   ·exact hg.2 x h
   ·rw [List.mem_singleton.1 h]; exact g1⟩ (fun x hx => by
   rcases List.mem_append.1 hx with h | h
   ·exact hz x h
   ·rw [List.mem_singleton.1 h]; exact g2) g3 (by omega)
  refine ⟨p', a', s', k1, k2, Ev.step (fun k => by rw [spec_l09DrawSized.l0]) ?_, k4, by omega⟩
  simp only [if_pos (show (m : Int) < (R : Int) by omega)]
  refine g5 _ (Ev.step (fun k => by rw [spec_l09DrawSized.l1]) ?_)
  simp only [if_neg (show ¬ (C : Int) < (C : Int) by omega), hg.1, if_pos (show m < 5864062014805 by omega), w_succ (m := m) (by omega)]
  exact k3
theorem drawSized_ev (R C : Nat) (hR : R ≤ 12) (hC : C ≤ 12) (a s : Int) (ha : 0 ≤ a ∧ a ≤ 100) :
  ∃ (p' : List (List Int)) (a' s' : Int), Grid R C p' ∧ (∀ x ∈ p', ∀ z ∈ x, 0 ≤ z ∧ z ≤ 255) ∧ Ev (fun k => spec_l09DrawSized.f k l a s (R : Int) (C : Int)) (p', a', s') ∧ 0 ≤ a' ∧ a' ≤ a + 300 := by
 obtain ⟨v, a1, s1, e1, v0, v1, b0, b1⟩ := pick2_tells l hl a s 256 (by omega) (by omega)
 obtain ⟨b, a2, s2, e2, b2, b3⟩ := one2_tells l hl a1 s1 3 (by omega) (by omega)
 obtain ⟨p', a', s', k1, k2, k3, k4, k5⟩ := drawRows_ev hl R C hR hC v ⟨v0, by omega⟩ b R 0 (by omega) [] a2 s2 ⟨rfl, by simp⟩ (by simp) b2 (by omega)
 refine ⟨p', a', s', k1, k2, ?_, k4, by omega⟩
 unfold spec_l09DrawSized.f
 simp only [e1, e2, Option.bind_some]
 exact k3
theorem drawOk_ev (a s : Int) (ha : 0 ≤ a ∧ a ≤ 50) : ∃ (R C : Nat) (p' : List (List Int)) (a' s' : Int), (1 ≤ R ∧ R ≤ 12) ∧ (1 ≤ C ∧ C ≤ 12) ∧ Grid R C p' ∧ (∀ x ∈ p', ∀ z ∈ x, 0 ≤ z ∧ z ≤ 255) ∧ Ev (fun k => spec_l09DrawOk.f k l a s) (p', a', s') ∧ 0 ≤ a' ∧ a' ≤ a + 310 := by
 obtain ⟨v, a1, s1, e1, v0, v1, b0, b1⟩ := pick2_tells l hl a s 6 (by omega) (by omega)
 obtain ⟨u, a2, s2, e2, u0, u1, b2, b3⟩ := pick2_tells l hl a1 s1 6 (by omega) (by omega)
 obtain ⟨b, a3, s3, e3, b4, b5⟩ := one2_tells l hl a2 s2 20 (by omega) (by omega)
 cases b with
 | true =>
  obtain ⟨p', a', s', k1, k2, k3, k4, k5⟩ := drawSized_ev hl 12 12 (by omega) (by omega) a3 s3 (by omega)
  refine ⟨12, 12, p', a', s', by omega, by omega, k1, k2, ?_, k4, by omega⟩
  unfold spec_l09DrawOk.f
  simp only [e1, e2, e3, Option.bind_some, if_true]
  exact Ev.bind k3 (Ev.now _)
 | false =>
  obtain ⟨p', a', s', k1, k2, k3, k4, k5⟩ := drawSized_ev hl (1 + v).toNat (1 + u).toNat (by omega) (by omega) a3 s3 (by omega)
  refine ⟨(1 + v).toNat, (1 + u).toNat, p', a', s', by omega, by omega, k1, k2, ?_, k4, by omega⟩
  unfold spec_l09DrawOk.f
  simp only [e1, e2, e3, Option.bind_some, Bool.false_eq_true, if_false]
  rw [Int.toNat_of_nonneg (show 0 ≤ 1 + v by omega), Int.toNat_of_nonneg (show 0 ≤ 1 + u by omega)] at k3
  rw [w64 (x := 1 + v) (by omega) (by omega), w64 (x := 1 + u) (by omega) (by omega)]
  exact Ev.bind k3 (Ev.now _)
theorem b10Pic_ev : ∃ (R C : Nat) (p : List (List Int)), (1 ≤ R ∧ R ≤ 12) ∧ (1 ≤ C ∧ C ≤ 12) ∧ Grid R C p ∧ (∀ x ∈ p, ∀ z ∈ x, 0 ≤ z ∧ z ≤ 255) ∧ Ev (fun k => spec_B10Picture.f k l) p := by
 obtain ⟨R, C, p, a, s, h1, h2, h3, h4, h5, _⟩ := drawOk_ev hl 0 0 (by omega)
 refine ⟨R, C, p, h1, h2, h3, h4, ?_⟩
 unfold spec_B10Picture.f
 simp only [show spec_l00From.f l = some (l, 0, 0) from rfl, Option.bind_some]
 exact Ev.bind h5 (Ev.now _)
end
theorem grid_form {R C : Nat} {p : List (List Int)} {b : Int} (hR : 1 ≤ R ∧ R ≤ 12) (hC : 1 ≤ C ∧ C ≤ 12) (g : Grid R C p) (hv : ∀ x ∈ p, ∀ z ∈ x, 0 ≤ z ∧ z ≤ b) : rowsForm b p = true := by
 cases p with
 | nil => have := g.1; simp at this; omega
 | cons y r =>
  have h1 := g.1
  have h2 := g.2 y (List.mem_cons_self ..)
  unfold rowsForm
  simp only [Bool.and_eq_true, decide_eq_true_eq, List.all_eq_true]
  refine ⟨⟨by omega, by omega⟩, fun x hx => ?_⟩
  unfold rowOk
  simp only [Bool.and_eq_true, decide_eq_true_eq, List.all_eq_true]
  exact ⟨by rw [g.2 x hx, h2], hv x hx⟩
end Go.Proofs.Ytckonklpdepgoaa.Com
namespace Go.Proofs.Ytckonklpdepgoaa.Com
set_option linter.unusedSimpArgs false
set_option linter.unusedVariables false
open Go.RowKit Go.Proofs.YtckonklpdepgoaaW.PrintWords Go.Proofs.YtckonklpdepgoaaW.PrintMore Go.Proofs.Ytckonklpdepgoaa.Q
def dmask : Nat → List (List Int)
 | 0 => [[0]]
 | 1 => [[0, 2], [3, 1]]
 | 2 => [[0, 8, 2, 10], [12, 4, 14, 6], [3, 11, 1, 9], [15, 7, 13, 5]]
 | _ => [[0, 32, 8, 40, 2, 34, 10, 42], [48, 16, 56, 24, 50, 18, 58, 26], [12, 44, 4, 36, 14, 46, 6, 38], [60, 28, 52, 20, 62, 30, 54, 22], [3, 35, 11, 43, 1, 33, 9, 41], [51, 19, 59, 27, 49, 17, 57, 25], [15, 47, 7, 39, 13, 45, 5, 37], [63, 31, 55, 23, 61, 29, 53, 21]]
set_option maxRecDepth 100000 in
theorem implDoubling_ev (n : Nat) (h : n ≤ 3) : Ev (fun k => impl_DoublingMask.f k (n : Int)) (dmask n, true) := by
 refine Ev.of (k := 100) (impl_DoublingMask.mono (n : Int)) ?_
 have : ∀ m : Fin 4, impl_DoublingMask.f 100 (m.val : Int) = some (dmask m.val, true) := by decide +kernel
 exact this ⟨n, by omega⟩
end Go.Proofs.Ytckonklpdepgoaa.Com
namespace Go.Proofs.Ytckonklpdepgoaa.Com
set_option linter.unusedSimpArgs false
set_option linter.unusedVariables false
open Go.RowKit Go.Proofs.YtckonklpdepgoaaW.PrintWords Go.Proofs.YtckonklpdepgoaaW.PrintMore Go.Proofs.Ytckonklpdepgoaa.Q
theorem gcd_ev (d : Nat) : ∀ (m n : Nat), n ≤ d → Ev (fun k => laws_b10Gcd.l0 k (m : Int) (n : Int)) ((Nat.gcd m n : Nat) : Int) := by
 induction d with
 | zero =>
  intro m n h
  obtain rfl : n = 0 := by omega
  rw [Nat.gcd_zero_right]
  refine Ev.step (fun k => by rw [laws_b10Gcd.l0]) ?_
  simp only [if_neg (show ¬ ((0 : Nat) : Int) > 0 by omega)]
  exact Ev.now _
 | succ d ih =>
  intro m n h
  by_cases e : n = 0
  ·subst e
   exact ih m 0 (by omega)
  have lt : m % n < n := Nat.mod_lt _ (by omega)
  have := ih n (m % n) (by omega)
  have e2 : Int.tmod (m : Int) (n : Int) = ((m % n : Nat) : Int) := by rw [tmod_nn (by omega)]; rfl
  rw [show Nat.gcd m n = Nat.gcd n (m % n) from by rw [Nat.gcd_comm m n, Nat.gcd_rec n m, Nat.gcd_comm]]
  refine Ev.step (fun k => by rw [laws_b10Gcd.l0]) ?_
  simp only [if_pos (show (n : Int) > 0 by omega), if_neg (show ¬ (n : Int) = 0 by omega), e2]
  exact this
end Go.Proofs.Ytckonklpdepgoaa.Com
namespace Go.Proofs.Ytckonklpdepgoaa.Com
set_option linter.unusedSimpArgs false
set_option linter.unusedVariables false
open Go.RowKit Go.Proofs.Ytckonklpdepgoaa.Q Go.Proofs.YtckonklpdepgoaaW.PrintWords Go.Proofs.YtckonklpdepgoaaW.PrintLast
theorem b10At_tells (l : List Int) (i n : Int) (hl : ∀ x ∈ l, (Lit.int .u8 x).wf = true) (hi : 0 ≤ i ∧ i ≤ 10) (hn : 1 ≤ n) : ∃ r, laws_b10At.f l i n = some r ∧ 0 ≤ r ∧ r < n := by
 unfold laws_b10At.f
 by_cases h1 : n ≤ 1
 ·exact ⟨0, by rw [if_pos h1], by omega, by omega⟩
 ·rw [if_neg h1]
  by_cases h2 : i < (l.length : Int)
  ·rw [if_pos h2, if_pos hi.1, if_neg (show ¬ n = 0 by omega)]
   have hx : 0 ≤ rd l i ∧ rd l i ≤ 255 := by
    have hlt : i.toNat < l.length := by omega
    have : rd l i ∈ l := by
     unfold rd
     rw [List.getD_eq_getElem?_getD, List.getElem?_eq_getElem hlt]
     exact List.getElem_mem hlt
    have := hl _ this
    simp [Lit.wf, IntKind.min, IntKind.max, IntKind.signed, IntKind.bits] at this
    omega
   rw [w64 (by omega) (by omega), tmod_nn hx.1]
   exact ⟨_, rfl, Int.emod_nonneg _ (by omega), Int.emod_lt_of_pos _ (by omega)⟩
  ·rw [if_neg h2, if_neg (show ¬ n = 0 by omega), w64 (x := i * 37) (by omega) (by omega), w64 (by omega) (by omega), tmod_nn (by omega)]
   exact ⟨_, rfl, Int.emod_nonneg _ (by omega), Int.emod_lt_of_pos _ (by omega)⟩
end Go.Proofs.Ytckonklpdepgoaa.Com
namespace Go.Proofs.Ytckonklpdepgoaa.Pure
set_option linter.unusedSimpArgs false
set_option linter.unusedVariables false
set_option linter.unusedSectionVars false
open Go.RowKit Go.Proofs.Ytckonklpdepgoaa.Q Go.Proofs.YtckonklpdepgoaaW.PrintWords Go.Proofs.YtckonklpdepgoaaW.PrintLast Go.Proofs.Ytckonklpdepgoaa.Com
theorem dmask2_mask (n : Nat) (h : n ≤ 3) : isMaskB (dmask n) = true := by
 have : ∀ m : Fin 4, isMaskB (dmask m.val) = true := by decide +kernel
 exact this ⟨n, by omega⟩
section
variable {p d : List (List Int)} {R C n : Nat} (hR : 1 ≤ R ∧ R ≤ 12) (hC : 1 ≤ C ∧ C ≤ 12) (hp : Grid R C p) (hd : Grid R C d) (hn : 0 < n) (dR : n ∣ R) (dC : n ∣ C) (pv : ∀ x ∈ p, ∀ z ∈ x, 0 ≤ z ∧ z ≤ 255) (dv : ∀ x ∈ d, ∀ z ∈ x, 0 ≤ z ∧ z ≤ 1)
include hR hC hp hd hn dR dC pv dv
theorem blockYes : Ev (fun k => impl_BlockErrors.f k p d (n : Int)) (beAll p d n R C, true) := by
 have h := implBlockF p d (n : Int)
 have e0 : (rd_L1 p 0).length = C := hp.rd (i := 0) (by omega)
 have e1 : (rd_L1 d 0).length = C := hd.rd (i := 0) (by omega)
 have ok : blockOk p d (n : Int) := by
  refine ⟨grid_form hR hC hp pv, grid_form hR hC hd dv, by rw [hp.1, hd.1], by rw [e0, e1], by omega, ?_, ?_⟩
  ·rw [hd.1, ← Int.natCast_emod, Nat.mod_eq_zero_of_dvd dR]; rfl
  ·rw [e1, ← Int.natCast_emod, Nat.mod_eq_zero_of_dvd dC]; rfl
 have e : blockOf p d (n : Int) = (beAll p d n R C, true) := by
  unfold blockOf
  rw [if_pos ok, e0, hp.1, Int.toNat_natCast]
 rw [e] at h
 exact h
theorem blockTotal : Ev (fun k => laws_b10All.f k (beAll p d n R C)) (errSum p d C R) := by
 obtain ⟨h1, h2, h3⟩ := beAll_inv hR hC hp hd hn dR dC pv dv
 rw [← h3]
 have hb : R * C ≤ 12 * 12 := Nat.mul_le_mul hR.2 hC.2
 have q1 : R / n ≤ R := Nat.div_le_self _ _
 have q2 : C / n ≤ C := Nat.div_le_self _ _
 exact b10All_ev _ (by rw [h1.1]; omega) (fun x hx => by rw [h1.2 x hx]; omega) (fun x hx z hz => by have := h2 x hx z hz; omega)
end
section
variable {p d : List (List Int)} {R C : Nat} (hR : 1 ≤ R ∧ R ≤ 12) (hC : 1 ≤ C ∧ C ≤ 12) (hp : Grid R C p) (hd : Grid R C d) (pv : ∀ x ∈ p, ∀ z ∈ x, 0 ≤ z ∧ z ≤ 255) (dv : ∀ x ∈ d, ∀ z ∈ x, 0 ≤ z ∧ z ≤ 1)
include hR hC hp hd pv dv
theorem blocksLoop (great : List (List Int)) (hg : Ev (fun k => laws_b10All.f k great) (errSum p d C R)) : Ev (fun k => laws_FnBlocks.l0 k d (tbl R C (errAt p d)) great 0 p) true := by
 have gt := tbl_is R C (errAt p d)
 have hs := blockTotal hR hC hp hd Nat.one_pos (Nat.one_dvd _) (Nat.one_dvd _) pv dv
 rw [beAll_one hR hC hp hd pv dv] at hs
 have key := ev_count R (fun i (_ : Unit) k => laws_FnBlocks.l0 k d (tbl R C (errAt p d)) great (i : Int) p) true (fun _ _ => True) ?_ ?_ 0 () (by omega) trivial
 ·exact key
 ·intro _ _
  refine Ev.step (fun k => by rw [laws_FnBlocks.l0]) ?_
  simp only [gt.1, if_neg (show ¬ (R : Int) < (R : Int) by omega)]
  refine Ev.bind hg (Ev.bind hs ?_)
  simp only [beq_self_eq_true]
  exact Ev.now _
 ·intro i _ hi _
  refine ⟨(), trivial, fun h => ?_⟩
  refine Ev.step (fun k => by rw [laws_FnBlocks.l0]) ?_
  simp only [gt.1, hp.1, hd.1, if_pos (show (i : Int) < (R : Int) by omega), if_pos (show 0 ≤ (i : Int) by omega), gt.rd hi, hp.rd hi, hd.rd hi, if_true, bne_self_eq_false]
  refine Ev.step (fun k => by rw [laws_FnBlocks.j2]) ?_
  simp only [Bool.false_eq_true, if_false]
  have inner := ev_count C (fun j (_ : Unit) k => laws_FnBlocks.l1 k d (tbl R C (errAt p d)) great (i : Int) (j : Int) p) true (fun _ _ => True) ?_ ?_ 0 () (by omega) trivial
  ·exact inner
  ·intro _ _
   refine Ev.step (fun k => by rw [laws_FnBlocks.l1]) ?_
   simp only [gt.1, if_pos (show (i : Int) < (R : Int) by omega), if_pos (show 0 ≤ (i : Int) by omega), gt.rd hi, if_neg (show ¬ (C : Int) < (C : Int) by omega), w_succ (m := i) (by omega)]
   exact h
  ·intro j _ hj _
   refine ⟨(), trivial, fun h2 => ?_⟩
   have e := errAt_bd hR hC hp hd Nat.one_pos (Nat.one_dvd _) (Nat.one_dvd _) pv dv i j hi hj
   refine Ev.step (fun k => by rw [laws_FnBlocks.l1]) ?_
   simp only [gt.1, hp.1, hd.1, if_pos (show (i : Int) < (R : Int) by omega), if_pos (show 0 ≤ (i : Int) by omega), if_pos (show 0 ≤ (j : Int) by omega), gt.rd hi, hp.rd hi, hd.rd hi, if_pos (show (j : Int) < (C : Int) by omega), tbl_rd R C (errAt p d) i j hi hj, e.2.2, if_true, w_succ (m := j) (by omega)]
   exact h2
end
theorem FnBlocks : laws_FnBlocks.Pure := by
 intro l0 l1 _ _ hu0 _ _ hu1
 apply ev_of
 unfold laws_FnBlocks.f
 cases hl : laws_b10Long.f l0 l1 with
 | none => unfold laws_b10Long.f at hl; split at hl <;> simp at hl
 | some t =>
  simp only [Option.bind_some]
  cases t with
  | true => simp only [if_true]; exact Ev.now _
  | false =>
   simp only [Bool.false_eq_true, if_false]
   obtain ⟨R, C, p, hR, hC, gp, pv, ep⟩ := b10Pic_ev hu0
   refine Ev.bind ep ?_
   obtain ⟨o, e0, o1, o2⟩ := b10At_tells l1 0 3 hu1 (by omega) (by omega)
   obtain ⟨n, rfl⟩ : ∃ n : Nat, o = n := ⟨o.toNat, by omega⟩
   simp only [e0, Option.bind_some]
   refine Ev.bind (implDoubling_ev n (by omega)) ?_
   have hk := dmask2_mask n (by omega)
   have hc0 : (rd_L1 p 0).length = C := gp.rd (i := 0) (by omega)
   refine Ev.bind (implMaskDither_ev hR hC gp hc0 pv (grid_form hR hC gp pv) hk) ?_
   have gd := tbl_is R C (mdAt p (dmask n))
   have dv : ∀ x ∈ tbl R C (mdAt p (dmask n)), ∀ z ∈ x, 0 ≤ z ∧ z ≤ 1 := fun x hx z hz => by
    simp only [tbl, List.mem_map] at hx
    obtain ⟨i, _, rfl⟩ := hx
    simp only [List.mem_map] at hz
    obtain ⟨j, _, rfl⟩ := hz
    unfold mdAt
    split <;> omega
   generalize hdots : tbl R C (mdAt p (dmask n)) = d at gd dv
   have E1 := blockYes hR hC gp gd Nat.one_pos (Nat.one_dvd _) (Nat.one_dvd _) pv dv
   rw [beAll_one hR hC gp gd pv dv] at E1
   refine Ev.bind E1 ?_
   simp only [gp.1, if_pos (show 0 < (R : Int) by omega), hc0]
   have hg : 0 < Nat.gcd R C := Nat.gcd_pos_of_pos_left C hR.1
   refine Ev.bind (show Ev (fun k => laws_b10Gcd.f k (R : Int) (C : Int)) ((Nat.gcd R C : Nat) : Int) from by unfold laws_b10Gcd.f; exact gcd_ev C R C (Nat.le_refl _)) ?_
   have dR := Nat.gcd_dvd_left R C
   have dC := Nat.gcd_dvd_right R C
   generalize Nat.gcd R C = g at hg dR dC
   refine Ev.bind (blockYes hR hC gp gd hg dR dC pv dv) ?_
   have gi := beAll_is hR hC gp gd hg dR dC
   have hw : wrap64 (((R / g : Nat) : Int) * (g : Int)) = (R : Int) := by
    rw [← Int.natCast_mul, Nat.div_mul_cancel dR]
    exact w64 (by omega) (by omega)
   simp only [if_true, tbl_len, gi.1, hw, bne_self_eq_false]
   refine Ev.step (fun k => by rw [laws_FnBlocks.j0]) ?_
   simp only [Bool.false_eq_true, if_false]
   exact blocksLoop hR hC gp gd pv dv _ (blockTotal hR hC gp gd hg dR dC pv dv)
end Go.Proofs.Ytckonklpdepgoaa.Pure
