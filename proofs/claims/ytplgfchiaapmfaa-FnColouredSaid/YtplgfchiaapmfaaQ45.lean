/- Functions of the given program as plain functions, and that the program's calls answer as they do; written by a program of this session over the kit's print. -/
import Derived.Test.YtplgfchiaapmfaaQ0
import Derived.Test.YtplgfchiaapmfaaQ30
import Derived.Test.YtplgfchiaapmfaaQ32
import Derived.Test.YtplgfchiaapmfaaQ36
import Derived.Test.YtplgfchiaapmfaaQ40
import Derived.Test.YtplgfchiaapmfaaQ41
import Derived.Test.YtplgfchiaapmfaaQ42
import Derived.Test.YtplgfchiaapmfaaQ43
import Derived.Test.YtplgfchiaapmfaaQ44
namespace Go.Proofs.Ytplgfchiaapmfaa.Q
open Go.RowKit Go.Proofs.YtplgfchiaapmfaaW.PrintWords Go.Proofs.YtplgfchiaapmfaaW.PrintLast Go.Proofs.YtplgfchiaapmfaaW.PrintMore
attribute [local go_sem] max2_int min2_int max_two min_two max_three min_three max_four min_four   -- for this text's walks alone
set_option linter.unusedVariables false
set_option linter.unusedSimpArgs false

/-! ### laws_FnColoured: function 8 -/
mutual
def laws_FnColoured.j0 : Nat → Int → List Int → List Int → Bool → Int → List Int → Option (Bool)
  | 0, _, _, _, _, _, _ => none
  | k + 1, x11, x13, x15, x112, x402000, x402001 => if x112 = true then (some false) else (laws_FnColoured.l0 k x11 x13 x15 0 x402000 x402001)
def laws_FnColoured.l0 : Nat → Int → List Int → List Int → Int → Int → List Int → Option (Bool)
  | 0, _, _, _, _, _, _ => none
  | k + 1, x11, x13, x15, x17, x402000, x402001 => if x17 < (x13.length : Int) then (if 0 ≤ x17 then (if x17 < (x15.length : Int) then (if (rd x13 x17) = (wrap64 (-(rd x15 x17))) then (laws_FnColoured.l0 k x11 x13 x15 (wrap64 (x17 + 1)) x402000 x402001) else (some false)) else (none)) else (none)) else ((impl_AverageImbalance.f k x402000 x402001).bind fun bt422 => (laws_FnColoured.l1 k x11 bt422.1 bt422.2.1 bt422.2.2 0 0 x402000 x402001))
def laws_FnColoured.l1 : Nat → Int → Int → Int → Bool → Int → Int → Int → List Int → Option (Bool)
  | 0, _, _, _, _, _, _, _, _ => none
  | k + 1, x11, x18, x19, x20, x21, x22, x402000, x402001 => if x22 < (x402001.length : Int) then (if 0 ≤ x22 then ((laws_r8Weight.f k (rd x402001 x22)).bind fun t426 => (laws_FnColoured.l1 k x11 x18 x19 x20 (wrap64 (x21 + t426)) (wrap64 (x22 + 1)) x402000 x402001)) else (none)) else (if x20 = true then (if x19 = (wrap64 (x11 + 1)) then (some (x18 == (wrap64 (x21 * x19)))) else (some false)) else (some false))
end
def laws_FnColoured.f (k : Nat) (l0 : List Int) (l1 : List Int) : Option (Bool) := (laws_r8Long.f l0 l1).bind fun t396 => (if t396 = true then (some true) else ((spec_R8System.f k l0).bind fun bt397 => ((impl_DiscrepancyOf.f k bt397.1 bt397.2).bind fun bt402 => ((impl_ImbalancesOf.f k bt397.1 bt397.2 bt402.2.1).bind fun bt405 => (if 0 ≤ (IntKind.u64.wrap (bt397.1)) then ((laws_r8At.f l1 0 (wrap64 ((wrap64 ((shl .i64 1 (IntKind.u64.wrap (bt397.1))) - 1)) + 1))).bind fun t409 => ((impl_ImbalancesOf.f k bt397.1 bt397.2 t409).bind fun bt410 => ((impl_ImbalancesOf.f k bt397.1 bt397.2 (Go.bits .xor .i64 (wrap64 ((shl .i64 1 (IntKind.u64.wrap (bt397.1))) - 1)) t409)).bind fun bt414 => (if bt402.2.2 = true then (if bt405.2 = true then (if bt410.2 = true then (if bt414.2 = true then (if (bt405.1.length : Int) = (bt397.2.length : Int) then (if (bt410.1.length : Int) = (bt397.2.length : Int) then (if (bt414.1.length : Int) = (bt397.2.length : Int) then ((laws_r8Greatest.f k bt405.1).bind fun t418 => (if t418 = bt402.1 then ((laws_r8Greatest.f k bt410.1).bind fun t419 => (laws_FnColoured.j0 k (wrap64 ((shl .i64 1 (IntKind.u64.wrap (bt397.1))) - 1)) bt410.1 bt414.1 (decide (t419 < bt402.1)) bt397.1 bt397.2)) else (laws_FnColoured.j0 k (wrap64 ((shl .i64 1 (IntKind.u64.wrap (bt397.1))) - 1)) bt410.1 bt414.1 true bt397.1 bt397.2))) else (laws_FnColoured.j0 k (wrap64 ((shl .i64 1 (IntKind.u64.wrap (bt397.1))) - 1)) bt410.1 bt414.1 true bt397.1 bt397.2)) else (laws_FnColoured.j0 k (wrap64 ((shl .i64 1 (IntKind.u64.wrap (bt397.1))) - 1)) bt410.1 bt414.1 true bt397.1 bt397.2)) else (laws_FnColoured.j0 k (wrap64 ((shl .i64 1 (IntKind.u64.wrap (bt397.1))) - 1)) bt410.1 bt414.1 true bt397.1 bt397.2)) else (laws_FnColoured.j0 k (wrap64 ((shl .i64 1 (IntKind.u64.wrap (bt397.1))) - 1)) bt410.1 bt414.1 true bt397.1 bt397.2)) else (laws_FnColoured.j0 k (wrap64 ((shl .i64 1 (IntKind.u64.wrap (bt397.1))) - 1)) bt410.1 bt414.1 true bt397.1 bt397.2)) else (laws_FnColoured.j0 k (wrap64 ((shl .i64 1 (IntKind.u64.wrap (bt397.1))) - 1)) bt410.1 bt414.1 true bt397.1 bt397.2)) else (laws_FnColoured.j0 k (wrap64 ((shl .i64 1 (IntKind.u64.wrap (bt397.1))) - 1)) bt410.1 bt414.1 true bt397.1 bt397.2))))) else (none))))))
theorem laws_FnColoured.mono_l : ∀ k, (∀ y0 y1 y2 y3 y4 y5, LeO (laws_FnColoured.j0 k y0 y1 y2 y3 y4 y5) (laws_FnColoured.j0 (k + 1) y0 y1 y2 y3 y4 y5)) ∧ (∀ y0 y1 y2 y3 y4 y5, LeO (laws_FnColoured.l0 k y0 y1 y2 y3 y4 y5) (laws_FnColoured.l0 (k + 1) y0 y1 y2 y3 y4 y5)) ∧ (∀ y0 y1 y2 y3 y4 y5 y6 y7, LeO (laws_FnColoured.l1 k y0 y1 y2 y3 y4 y5 y6 y7) (laws_FnColoured.l1 (k + 1) y0 y1 y2 y3 y4 y5 y6 y7))
  | 0 => ⟨fun _ _ _ _ _ _ r h => by simp [laws_FnColoured.j0] at h, fun _ _ _ _ _ _ r h => by simp [laws_FnColoured.l0] at h, fun _ _ _ _ _ _ _ _ r h => by simp [laws_FnColoured.l1] at h⟩
  | k + 1 => by
    obtain ⟨ih0, ih1, ih2⟩ := laws_FnColoured.mono_l k
    refine ⟨?_, ?_, ?_⟩
    · intro y0 y1 y2 y3 y4 y5
      unfold laws_FnColoured.j0
      repeat' first
      | (with_reducible exact ih0 _ _ _ _ _ _)
      | (with_reducible exact ih1 _ _ _ _ _ _)
      | (with_reducible exact ih2 _ _ _ _ _ _ _ _)
      | (with_reducible exact impl_AverageImbalance.mono _ _ _)
      | (with_reducible exact impl_DiscrepancyOf.mono _ _ _)
      | (with_reducible exact impl_ImbalancesOf.mono _ _ _ _)
      | (with_reducible exact laws_r8Greatest.mono _ _)
      | (with_reducible exact laws_r8Weight.mono _ _)
      | (with_reducible exact spec_R8System.mono _ _)
      | (with_reducible exact LeO.refl _)
      | (with_reducible exact LeO.none _)
      | (with_reducible refine LeO.ite ?_ ?_)
      | (with_reducible refine LeO.bind ?_ (fun _ => ?_))
      | exact ih0 _ _ _ _ _ _
      | exact ih1 _ _ _ _ _ _
      | exact ih2 _ _ _ _ _ _ _ _
      | exact impl_AverageImbalance.mono _ _ _
      | exact impl_DiscrepancyOf.mono _ _ _
      | exact impl_ImbalancesOf.mono _ _ _ _
      | exact laws_r8Greatest.mono _ _
      | exact laws_r8Weight.mono _ _
      | exact spec_R8System.mono _ _
      | exact LeO.none _
      | refine LeO.ite ?_ ?_
      | refine LeO.bind ?_ (fun _ => ?_)
    · intro y0 y1 y2 y3 y4 y5
      unfold laws_FnColoured.l0
      repeat' first
      | (with_reducible exact ih0 _ _ _ _ _ _)
      | (with_reducible exact ih1 _ _ _ _ _ _)
      | (with_reducible exact ih2 _ _ _ _ _ _ _ _)
      | (with_reducible exact impl_AverageImbalance.mono _ _ _)
      | (with_reducible exact impl_DiscrepancyOf.mono _ _ _)
      | (with_reducible exact impl_ImbalancesOf.mono _ _ _ _)
      | (with_reducible exact laws_r8Greatest.mono _ _)
      | (with_reducible exact laws_r8Weight.mono _ _)
      | (with_reducible exact spec_R8System.mono _ _)
      | (with_reducible exact LeO.refl _)
      | (with_reducible exact LeO.none _)
      | (with_reducible refine LeO.ite ?_ ?_)
      | (with_reducible refine LeO.bind ?_ (fun _ => ?_))
      | exact ih0 _ _ _ _ _ _
      | exact ih1 _ _ _ _ _ _
      | exact ih2 _ _ _ _ _ _ _ _
      | exact impl_AverageImbalance.mono _ _ _
      | exact impl_DiscrepancyOf.mono _ _ _
      | exact impl_ImbalancesOf.mono _ _ _ _
      | exact laws_r8Greatest.mono _ _
      | exact laws_r8Weight.mono _ _
      | exact spec_R8System.mono _ _
      | exact LeO.none _
      | refine LeO.ite ?_ ?_
      | refine LeO.bind ?_ (fun _ => ?_)
    · intro y0 y1 y2 y3 y4 y5 y6 y7
      unfold laws_FnColoured.l1
      repeat' first
      | (with_reducible exact ih0 _ _ _ _ _ _)
      | (with_reducible exact ih1 _ _ _ _ _ _)
      | (with_reducible exact ih2 _ _ _ _ _ _ _ _)
      | (with_reducible exact impl_AverageImbalance.mono _ _ _)
      | (with_reducible exact impl_DiscrepancyOf.mono _ _ _)
      | (with_reducible exact impl_ImbalancesOf.mono _ _ _ _)
      | (with_reducible exact laws_r8Greatest.mono _ _)
      | (with_reducible exact laws_r8Weight.mono _ _)
      | (with_reducible exact spec_R8System.mono _ _)
      | (with_reducible exact LeO.refl _)
      | (with_reducible exact LeO.none _)
      | (with_reducible refine LeO.ite ?_ ?_)
      | (with_reducible refine LeO.bind ?_ (fun _ => ?_))
      | exact ih0 _ _ _ _ _ _
      | exact ih1 _ _ _ _ _ _
      | exact ih2 _ _ _ _ _ _ _ _
      | exact impl_AverageImbalance.mono _ _ _
      | exact impl_DiscrepancyOf.mono _ _ _
      | exact impl_ImbalancesOf.mono _ _ _ _
      | exact laws_r8Greatest.mono _ _
      | exact laws_r8Weight.mono _ _
      | exact spec_R8System.mono _ _
      | exact LeO.none _
      | refine LeO.ite ?_ ?_
      | refine LeO.bind ?_ (fun _ => ?_)
theorem laws_FnColoured.mono : ∀ a0 a1 k, LeO (laws_FnColoured.f k a0 a1) (laws_FnColoured.f (k + 1) a0 a1) := by
  intro a0 a1 k
  obtain ⟨ih0, ih1, ih2⟩ := laws_FnColoured.mono_l k
  unfold laws_FnColoured.f
  repeat' first
      | (with_reducible exact ih0 _ _ _ _ _ _)
      | (with_reducible exact ih1 _ _ _ _ _ _)
      | (with_reducible exact ih2 _ _ _ _ _ _ _ _)
      | (with_reducible exact impl_AverageImbalance.mono _ _ _)
      | (with_reducible exact impl_DiscrepancyOf.mono _ _ _)
      | (with_reducible exact impl_ImbalancesOf.mono _ _ _ _)
      | (with_reducible exact laws_r8Greatest.mono _ _)
      | (with_reducible exact laws_r8Weight.mono _ _)
      | (with_reducible exact spec_R8System.mono _ _)
      | (with_reducible exact LeO.refl _)
      | (with_reducible exact LeO.none _)
      | (with_reducible refine LeO.ite ?_ ?_)
      | (with_reducible refine LeO.bind ?_ (fun _ => ?_))
      | exact ih0 _ _ _ _ _ _
      | exact ih1 _ _ _ _ _ _
      | exact ih2 _ _ _ _ _ _ _ _
      | exact impl_AverageImbalance.mono _ _ _
      | exact impl_DiscrepancyOf.mono _ _ _
      | exact impl_ImbalancesOf.mono _ _ _ _
      | exact laws_r8Greatest.mono _ _
      | exact laws_r8Weight.mono _ _
      | exact spec_R8System.mono _ _
      | exact LeO.none _
      | refine LeO.ite ?_ ?_
      | refine LeO.bind ?_ (fun _ => ?_)
set_option maxHeartbeats 8000000 in
set_option maxRecDepth 100000 in
theorem laws_FnColoured.calls (k : Nat) (A0 : Option Addr) (c0 : Nat) (l0 : List Int) (A1 : Option Addr) (c1 : Nat) (l1 : List Int) (r : Bool) (w : World) (hr0 : Kd.C (Kd.int .u8) w A0 l0.length l0) (hc0 : l0.length ≤ c0) (hr1 : Kd.C (Kd.int .u8) w A1 l1.length l1) (hc1 : l1.length ≤ c1) (h : laws_FnColoured.f k l0 l1 = some r) :
    Calls Try.prog 8 #[.slice A0 l0.length c0, .slice A1 l1.length c1] w fun e w' => e = .returned (.bool r) ∧ Below w.heap.size w w' := by
  have hu27 := Try.underlying27
  have HR0 := Aside0.mk hr0
  have HC0 := Aside0.mk hc0
  clear hr0 hc0
  have HR1 := Aside0.mk hr1
  have HC1 := Aside0.mk hc1
  clear hr1 hc1
  have HB := Aside0.mk (Below.refl w.heap.size w)
  have H : ((laws_r8Long.f l0 l1).bind fun t396 => (if t396 = true then (some true) else ((spec_R8System.f k l0).bind fun bt397 => ((impl_DiscrepancyOf.f k bt397.1 bt397.2).bind fun bt402 => ((impl_ImbalancesOf.f k bt397.1 bt397.2 bt402.2.1).bind fun bt405 => (if 0 ≤ (IntKind.u64.wrap (bt397.1)) then ((laws_r8At.f l1 0 (wrap64 ((wrap64 ((shl .i64 1 (IntKind.u64.wrap (bt397.1))) - 1)) + 1))).bind fun t409 => ((impl_ImbalancesOf.f k bt397.1 bt397.2 t409).bind fun bt410 => ((impl_ImbalancesOf.f k bt397.1 bt397.2 (Go.bits .xor .i64 (wrap64 ((shl .i64 1 (IntKind.u64.wrap (bt397.1))) - 1)) t409)).bind fun bt414 => (if bt402.2.2 = true then (if bt405.2 = true then (if bt410.2 = true then (if bt414.2 = true then (if (bt405.1.length : Int) = (bt397.2.length : Int) then (if (bt410.1.length : Int) = (bt397.2.length : Int) then (if (bt414.1.length : Int) = (bt397.2.length : Int) then ((laws_r8Greatest.f k bt405.1).bind fun t418 => (if t418 = bt402.1 then ((laws_r8Greatest.f k bt410.1).bind fun t419 => (laws_FnColoured.j0 k (wrap64 ((shl .i64 1 (IntKind.u64.wrap (bt397.1))) - 1)) bt410.1 bt414.1 (decide (t419 < bt402.1)) bt397.1 bt397.2)) else (laws_FnColoured.j0 k (wrap64 ((shl .i64 1 (IntKind.u64.wrap (bt397.1))) - 1)) bt410.1 bt414.1 true bt397.1 bt397.2))) else (laws_FnColoured.j0 k (wrap64 ((shl .i64 1 (IntKind.u64.wrap (bt397.1))) - 1)) bt410.1 bt414.1 true bt397.1 bt397.2)) else (laws_FnColoured.j0 k (wrap64 ((shl .i64 1 (IntKind.u64.wrap (bt397.1))) - 1)) bt410.1 bt414.1 true bt397.1 bt397.2)) else (laws_FnColoured.j0 k (wrap64 ((shl .i64 1 (IntKind.u64.wrap (bt397.1))) - 1)) bt410.1 bt414.1 true bt397.1 bt397.2)) else (laws_FnColoured.j0 k (wrap64 ((shl .i64 1 (IntKind.u64.wrap (bt397.1))) - 1)) bt410.1 bt414.1 true bt397.1 bt397.2)) else (laws_FnColoured.j0 k (wrap64 ((shl .i64 1 (IntKind.u64.wrap (bt397.1))) - 1)) bt410.1 bt414.1 true bt397.1 bt397.2)) else (laws_FnColoured.j0 k (wrap64 ((shl .i64 1 (IntKind.u64.wrap (bt397.1))) - 1)) bt410.1 bt414.1 true bt397.1 bt397.2)) else (laws_FnColoured.j0 k (wrap64 ((shl .i64 1 (IntKind.u64.wrap (bt397.1))) - 1)) bt410.1 bt414.1 true bt397.1 bt397.2))))) else (none))))))) = some r := h
  clear h
  replace H := Option.bind_eq_some_iff.mp H
  obtain ⟨t396, A30, H⟩ := H
  replace H : (if t396 = true then (some true) else ((spec_R8System.f k l0).bind fun bt397 => ((impl_DiscrepancyOf.f k bt397.1 bt397.2).bind fun bt402 => ((impl_ImbalancesOf.f k bt397.1 bt397.2 bt402.2.1).bind fun bt405 => (if 0 ≤ (IntKind.u64.wrap (bt397.1)) then ((laws_r8At.f l1 0 (wrap64 ((wrap64 ((shl .i64 1 (IntKind.u64.wrap (bt397.1))) - 1)) + 1))).bind fun t409 => ((impl_ImbalancesOf.f k bt397.1 bt397.2 t409).bind fun bt410 => ((impl_ImbalancesOf.f k bt397.1 bt397.2 (Go.bits .xor .i64 (wrap64 ((shl .i64 1 (IntKind.u64.wrap (bt397.1))) - 1)) t409)).bind fun bt414 => (if bt402.2.2 = true then (if bt405.2 = true then (if bt410.2 = true then (if bt414.2 = true then (if (bt405.1.length : Int) = (bt397.2.length : Int) then (if (bt410.1.length : Int) = (bt397.2.length : Int) then (if (bt414.1.length : Int) = (bt397.2.length : Int) then ((laws_r8Greatest.f k bt405.1).bind fun t418 => (if t418 = bt402.1 then ((laws_r8Greatest.f k bt410.1).bind fun t419 => (laws_FnColoured.j0 k (wrap64 ((shl .i64 1 (IntKind.u64.wrap (bt397.1))) - 1)) bt410.1 bt414.1 (decide (t419 < bt402.1)) bt397.1 bt397.2)) else (laws_FnColoured.j0 k (wrap64 ((shl .i64 1 (IntKind.u64.wrap (bt397.1))) - 1)) bt410.1 bt414.1 true bt397.1 bt397.2))) else (laws_FnColoured.j0 k (wrap64 ((shl .i64 1 (IntKind.u64.wrap (bt397.1))) - 1)) bt410.1 bt414.1 true bt397.1 bt397.2)) else (laws_FnColoured.j0 k (wrap64 ((shl .i64 1 (IntKind.u64.wrap (bt397.1))) - 1)) bt410.1 bt414.1 true bt397.1 bt397.2)) else (laws_FnColoured.j0 k (wrap64 ((shl .i64 1 (IntKind.u64.wrap (bt397.1))) - 1)) bt410.1 bt414.1 true bt397.1 bt397.2)) else (laws_FnColoured.j0 k (wrap64 ((shl .i64 1 (IntKind.u64.wrap (bt397.1))) - 1)) bt410.1 bt414.1 true bt397.1 bt397.2)) else (laws_FnColoured.j0 k (wrap64 ((shl .i64 1 (IntKind.u64.wrap (bt397.1))) - 1)) bt410.1 bt414.1 true bt397.1 bt397.2)) else (laws_FnColoured.j0 k (wrap64 ((shl .i64 1 (IntKind.u64.wrap (bt397.1))) - 1)) bt410.1 bt414.1 true bt397.1 bt397.2)) else (laws_FnColoured.j0 k (wrap64 ((shl .i64 1 (IntKind.u64.wrap (bt397.1))) - 1)) bt410.1 bt414.1 true bt397.1 bt397.2))))) else (none)))))) = some r := H
  have A3 := Aside0.mk A30
  clear A30
  by_cases c4 : t396 = true
  · subst c4
    have H1 : (some true) = some r := by rw [if_pos rfl] at H; exact H
    clear H
    have H := H1
    clear H1
    obtain rfl := Option.some.inj H
    go_enter Try.func8, Try.ntmps8
    go_wp2_with (first | (go_at_call 34; (with_reducible refine (laws_r8Long.calls _ _ l0 _ _ l1 true _ ?side1 ?side2 ?side3 ?side4 A3.out).mono ?_); (case side1 => repeat (first | exact HR0.out | (with_reducible refine Kd.C_alloc ?_ _) | (with_reducible refine Kd.C_drewN ?_ _) | (with_reducible refine Kd.C_drew ?_))); (case side2 => exact HC0.out); (case side3 => repeat (first | exact HR1.out | (with_reducible refine Kd.C_alloc ?_ _) | (with_reducible refine Kd.C_drewN ?_ _) | (with_reducible refine Kd.C_drew ?_))); (case side4 => exact HC1.out); rintro e w' ⟨rfl, ⟨nd, rfl⟩⟩; (try first | exact ⟨rfl, _, World.drewN_drewN _ _ _⟩ | exact ⟨rfl, _, Eq.trans (World.drewN_drewN _ _ _) (congrArg (World.drewN _) (Nat.add_assoc _ _ _))⟩)))
    repeat (go_quiet (first | (go_at_call 34; (with_reducible refine (laws_r8Long.calls _ _ l0 _ _ l1 true _ ?side1 ?side2 ?side3 ?side4 A3.out).mono ?_); (case side1 => repeat (first | exact HR0.out | (with_reducible refine Kd.C_alloc ?_ _) | (with_reducible refine Kd.C_drewN ?_ _) | (with_reducible refine Kd.C_drew ?_))); (case side2 => exact HC0.out); (case side3 => repeat (first | exact HR1.out | (with_reducible refine Kd.C_alloc ?_ _) | (with_reducible refine Kd.C_drewN ?_ _) | (with_reducible refine Kd.C_drew ?_))); (case side4 => exact HC1.out); rintro e w' ⟨rfl, ⟨nd, rfl⟩⟩; (try first | exact ⟨rfl, _, World.drewN_drewN _ _ _⟩ | exact ⟨rfl, _, Eq.trans (World.drewN_drewN _ _ _) (congrArg (World.drewN _) (Nat.add_assoc _ _ _))⟩))); try go_wp2_with (first | (go_at_call 34; (with_reducible refine (laws_r8Long.calls _ _ l0 _ _ l1 true _ ?side1 ?side2 ?side3 ?side4 A3.out).mono ?_); (case side1 => repeat (first | exact HR0.out | (with_reducible refine Kd.C_alloc ?_ _) | (with_reducible refine Kd.C_drewN ?_ _) | (with_reducible refine Kd.C_drew ?_))); (case side2 => exact HC0.out); (case side3 => repeat (first | exact HR1.out | (with_reducible refine Kd.C_alloc ?_ _) | (with_reducible refine Kd.C_drewN ?_ _) | (with_reducible refine Kd.C_drew ?_))); (case side4 => exact HC1.out); rintro e w' ⟨rfl, ⟨nd, rfl⟩⟩; (try first | exact ⟨rfl, _, World.drewN_drewN _ _ _⟩ | exact ⟨rfl, _, Eq.trans (World.drewN_drewN _ _ _) (congrArg (World.drewN _) (Nat.add_assoc _ _ _))⟩))))
    go_ret
    exact ⟨by first | rfl | (simp [errW_none, errW_some] <;> rfl) | (simp [*, errW_none, errW_some] <;> rfl), by repeat (first | (with_reducible first | exact HB.out | apply below_alloc | apply pw_below_drewN | apply below_drew1) | exact HB.out)⟩
  · replace c4 := Bool.eq_false_iff.mpr c4
    subst c4
    have H1 : ((spec_R8System.f k l0).bind fun bt397 => ((impl_DiscrepancyOf.f k bt397.1 bt397.2).bind fun bt402 => ((impl_ImbalancesOf.f k bt397.1 bt397.2 bt402.2.1).bind fun bt405 => (if 0 ≤ (IntKind.u64.wrap (bt397.1)) then ((laws_r8At.f l1 0 (wrap64 ((wrap64 ((shl .i64 1 (IntKind.u64.wrap (bt397.1))) - 1)) + 1))).bind fun t409 => ((impl_ImbalancesOf.f k bt397.1 bt397.2 t409).bind fun bt410 => ((impl_ImbalancesOf.f k bt397.1 bt397.2 (Go.bits .xor .i64 (wrap64 ((shl .i64 1 (IntKind.u64.wrap (bt397.1))) - 1)) t409)).bind fun bt414 => (if bt402.2.2 = true then (if bt405.2 = true then (if bt410.2 = true then (if bt414.2 = true then (if (bt405.1.length : Int) = (bt397.2.length : Int) then (if (bt410.1.length : Int) = (bt397.2.length : Int) then (if (bt414.1.length : Int) = (bt397.2.length : Int) then ((laws_r8Greatest.f k bt405.1).bind fun t418 => (if t418 = bt402.1 then ((laws_r8Greatest.f k bt410.1).bind fun t419 => (laws_FnColoured.j0 k (wrap64 ((shl .i64 1 (IntKind.u64.wrap (bt397.1))) - 1)) bt410.1 bt414.1 (decide (t419 < bt402.1)) bt397.1 bt397.2)) else (laws_FnColoured.j0 k (wrap64 ((shl .i64 1 (IntKind.u64.wrap (bt397.1))) - 1)) bt410.1 bt414.1 true bt397.1 bt397.2))) else (laws_FnColoured.j0 k (wrap64 ((shl .i64 1 (IntKind.u64.wrap (bt397.1))) - 1)) bt410.1 bt414.1 true bt397.1 bt397.2)) else (laws_FnColoured.j0 k (wrap64 ((shl .i64 1 (IntKind.u64.wrap (bt397.1))) - 1)) bt410.1 bt414.1 true bt397.1 bt397.2)) else (laws_FnColoured.j0 k (wrap64 ((shl .i64 1 (IntKind.u64.wrap (bt397.1))) - 1)) bt410.1 bt414.1 true bt397.1 bt397.2)) else (laws_FnColoured.j0 k (wrap64 ((shl .i64 1 (IntKind.u64.wrap (bt397.1))) - 1)) bt410.1 bt414.1 true bt397.1 bt397.2)) else (laws_FnColoured.j0 k (wrap64 ((shl .i64 1 (IntKind.u64.wrap (bt397.1))) - 1)) bt410.1 bt414.1 true bt397.1 bt397.2)) else (laws_FnColoured.j0 k (wrap64 ((shl .i64 1 (IntKind.u64.wrap (bt397.1))) - 1)) bt410.1 bt414.1 true bt397.1 bt397.2)) else (laws_FnColoured.j0 k (wrap64 ((shl .i64 1 (IntKind.u64.wrap (bt397.1))) - 1)) bt410.1 bt414.1 true bt397.1 bt397.2))))) else (none))))) = some r := by rw [if_neg (show ¬ (false = true) by decide)] at H; exact H
    clear H
    have H := H1
    clear H1
    replace H := Option.bind_eq_some_iff.mp H
    obtain ⟨⟨t397, t398⟩, A50, H⟩ := H
    replace H : ((impl_DiscrepancyOf.f k t397 t398).bind fun bt402 => ((impl_ImbalancesOf.f k t397 t398 bt402.2.1).bind fun bt405 => (if 0 ≤ (IntKind.u64.wrap (t397)) then ((laws_r8At.f l1 0 (wrap64 ((wrap64 ((shl .i64 1 (IntKind.u64.wrap (t397))) - 1)) + 1))).bind fun t409 => ((impl_ImbalancesOf.f k t397 t398 t409).bind fun bt410 => ((impl_ImbalancesOf.f k t397 t398 (Go.bits .xor .i64 (wrap64 ((shl .i64 1 (IntKind.u64.wrap (t397))) - 1)) t409)).bind fun bt414 => (if bt402.2.2 = true then (if bt405.2 = true then (if bt410.2 = true then (if bt414.2 = true then (if (bt405.1.length : Int) = (t398.length : Int) then (if (bt410.1.length : Int) = (t398.length : Int) then (if (bt414.1.length : Int) = (t398.length : Int) then ((laws_r8Greatest.f k bt405.1).bind fun t418 => (if t418 = bt402.1 then ((laws_r8Greatest.f k bt410.1).bind fun t419 => (laws_FnColoured.j0 k (wrap64 ((shl .i64 1 (IntKind.u64.wrap (t397))) - 1)) bt410.1 bt414.1 (decide (t419 < bt402.1)) t397 t398)) else (laws_FnColoured.j0 k (wrap64 ((shl .i64 1 (IntKind.u64.wrap (t397))) - 1)) bt410.1 bt414.1 true t397 t398))) else (laws_FnColoured.j0 k (wrap64 ((shl .i64 1 (IntKind.u64.wrap (t397))) - 1)) bt410.1 bt414.1 true t397 t398)) else (laws_FnColoured.j0 k (wrap64 ((shl .i64 1 (IntKind.u64.wrap (t397))) - 1)) bt410.1 bt414.1 true t397 t398)) else (laws_FnColoured.j0 k (wrap64 ((shl .i64 1 (IntKind.u64.wrap (t397))) - 1)) bt410.1 bt414.1 true t397 t398)) else (laws_FnColoured.j0 k (wrap64 ((shl .i64 1 (IntKind.u64.wrap (t397))) - 1)) bt410.1 bt414.1 true t397 t398)) else (laws_FnColoured.j0 k (wrap64 ((shl .i64 1 (IntKind.u64.wrap (t397))) - 1)) bt410.1 bt414.1 true t397 t398)) else (laws_FnColoured.j0 k (wrap64 ((shl .i64 1 (IntKind.u64.wrap (t397))) - 1)) bt410.1 bt414.1 true t397 t398)) else (laws_FnColoured.j0 k (wrap64 ((shl .i64 1 (IntKind.u64.wrap (t397))) - 1)) bt410.1 bt414.1 true t397 t398))))) else (none)))) = some r := H
    have A5 := Aside0.mk A50
    clear A50
    replace H := Option.bind_eq_some_iff.mp H
    obtain ⟨⟨t402, t403, t404⟩, A60, H⟩ := H
    replace H : ((impl_ImbalancesOf.f k t397 t398 t403).bind fun bt405 => (if 0 ≤ (IntKind.u64.wrap (t397)) then ((laws_r8At.f l1 0 (wrap64 ((wrap64 ((shl .i64 1 (IntKind.u64.wrap (t397))) - 1)) + 1))).bind fun t409 => ((impl_ImbalancesOf.f k t397 t398 t409).bind fun bt410 => ((impl_ImbalancesOf.f k t397 t398 (Go.bits .xor .i64 (wrap64 ((shl .i64 1 (IntKind.u64.wrap (t397))) - 1)) t409)).bind fun bt414 => (if t404 = true then (if bt405.2 = true then (if bt410.2 = true then (if bt414.2 = true then (if (bt405.1.length : Int) = (t398.length : Int) then (if (bt410.1.length : Int) = (t398.length : Int) then (if (bt414.1.length : Int) = (t398.length : Int) then ((laws_r8Greatest.f k bt405.1).bind fun t418 => (if t418 = t402 then ((laws_r8Greatest.f k bt410.1).bind fun t419 => (laws_FnColoured.j0 k (wrap64 ((shl .i64 1 (IntKind.u64.wrap (t397))) - 1)) bt410.1 bt414.1 (decide (t419 < t402)) t397 t398)) else (laws_FnColoured.j0 k (wrap64 ((shl .i64 1 (IntKind.u64.wrap (t397))) - 1)) bt410.1 bt414.1 true t397 t398))) else (laws_FnColoured.j0 k (wrap64 ((shl .i64 1 (IntKind.u64.wrap (t397))) - 1)) bt410.1 bt414.1 true t397 t398)) else (laws_FnColoured.j0 k (wrap64 ((shl .i64 1 (IntKind.u64.wrap (t397))) - 1)) bt410.1 bt414.1 true t397 t398)) else (laws_FnColoured.j0 k (wrap64 ((shl .i64 1 (IntKind.u64.wrap (t397))) - 1)) bt410.1 bt414.1 true t397 t398)) else (laws_FnColoured.j0 k (wrap64 ((shl .i64 1 (IntKind.u64.wrap (t397))) - 1)) bt410.1 bt414.1 true t397 t398)) else (laws_FnColoured.j0 k (wrap64 ((shl .i64 1 (IntKind.u64.wrap (t397))) - 1)) bt410.1 bt414.1 true t397 t398)) else (laws_FnColoured.j0 k (wrap64 ((shl .i64 1 (IntKind.u64.wrap (t397))) - 1)) bt410.1 bt414.1 true t397 t398)) else (laws_FnColoured.j0 k (wrap64 ((shl .i64 1 (IntKind.u64.wrap (t397))) - 1)) bt410.1 bt414.1 true t397 t398))))) else (none))) = some r := H
    have A6 := Aside0.mk A60
    clear A60
    replace H := Option.bind_eq_some_iff.mp H
    obtain ⟨⟨t405, t408⟩, A70, H⟩ := H
    replace H : (if 0 ≤ (IntKind.u64.wrap (t397)) then ((laws_r8At.f l1 0 (wrap64 ((wrap64 ((shl .i64 1 (IntKind.u64.wrap (t397))) - 1)) + 1))).bind fun t409 => ((impl_ImbalancesOf.f k t397 t398 t409).bind fun bt410 => ((impl_ImbalancesOf.f k t397 t398 (Go.bits .xor .i64 (wrap64 ((shl .i64 1 (IntKind.u64.wrap (t397))) - 1)) t409)).bind fun bt414 => (if t404 = true then (if t408 = true then (if bt410.2 = true then (if bt414.2 = true then (if (t405.length : Int) = (t398.length : Int) then (if (bt410.1.length : Int) = (t398.length : Int) then (if (bt414.1.length : Int) = (t398.length : Int) then ((laws_r8Greatest.f k t405).bind fun t418 => (if t418 = t402 then ((laws_r8Greatest.f k bt410.1).bind fun t419 => (laws_FnColoured.j0 k (wrap64 ((shl .i64 1 (IntKind.u64.wrap (t397))) - 1)) bt410.1 bt414.1 (decide (t419 < t402)) t397 t398)) else (laws_FnColoured.j0 k (wrap64 ((shl .i64 1 (IntKind.u64.wrap (t397))) - 1)) bt410.1 bt414.1 true t397 t398))) else (laws_FnColoured.j0 k (wrap64 ((shl .i64 1 (IntKind.u64.wrap (t397))) - 1)) bt410.1 bt414.1 true t397 t398)) else (laws_FnColoured.j0 k (wrap64 ((shl .i64 1 (IntKind.u64.wrap (t397))) - 1)) bt410.1 bt414.1 true t397 t398)) else (laws_FnColoured.j0 k (wrap64 ((shl .i64 1 (IntKind.u64.wrap (t397))) - 1)) bt410.1 bt414.1 true t397 t398)) else (laws_FnColoured.j0 k (wrap64 ((shl .i64 1 (IntKind.u64.wrap (t397))) - 1)) bt410.1 bt414.1 true t397 t398)) else (laws_FnColoured.j0 k (wrap64 ((shl .i64 1 (IntKind.u64.wrap (t397))) - 1)) bt410.1 bt414.1 true t397 t398)) else (laws_FnColoured.j0 k (wrap64 ((shl .i64 1 (IntKind.u64.wrap (t397))) - 1)) bt410.1 bt414.1 true t397 t398)) else (laws_FnColoured.j0 k (wrap64 ((shl .i64 1 (IntKind.u64.wrap (t397))) - 1)) bt410.1 bt414.1 true t397 t398))))) else (none)) = some r := H
    have A7 := Aside0.mk A70
    clear A70
    obtain ⟨ji8, hji8⟩ : ∃ j_ : Int, (IntKind.u64.wrap (t397)) = j_ := ⟨_, rfl⟩
    replace H : (if 0 ≤ (ji8) then ((laws_r8At.f l1 0 (wrap64 ((wrap64 ((shl .i64 1 (ji8)) - 1)) + 1))).bind fun t409 => ((impl_ImbalancesOf.f k t397 t398 t409).bind fun bt410 => ((impl_ImbalancesOf.f k t397 t398 (Go.bits .xor .i64 (wrap64 ((shl .i64 1 (ji8)) - 1)) t409)).bind fun bt414 => (if t404 = true then (if t408 = true then (if bt410.2 = true then (if bt414.2 = true then (if (t405.length : Int) = (t398.length : Int) then (if (bt410.1.length : Int) = (t398.length : Int) then (if (bt414.1.length : Int) = (t398.length : Int) then ((laws_r8Greatest.f k t405).bind fun t418 => (if t418 = t402 then ((laws_r8Greatest.f k bt410.1).bind fun t419 => (laws_FnColoured.j0 k (wrap64 ((shl .i64 1 (ji8)) - 1)) bt410.1 bt414.1 (decide (t419 < t402)) t397 t398)) else (laws_FnColoured.j0 k (wrap64 ((shl .i64 1 (ji8)) - 1)) bt410.1 bt414.1 true t397 t398))) else (laws_FnColoured.j0 k (wrap64 ((shl .i64 1 (ji8)) - 1)) bt410.1 bt414.1 true t397 t398)) else (laws_FnColoured.j0 k (wrap64 ((shl .i64 1 (ji8)) - 1)) bt410.1 bt414.1 true t397 t398)) else (laws_FnColoured.j0 k (wrap64 ((shl .i64 1 (ji8)) - 1)) bt410.1 bt414.1 true t397 t398)) else (laws_FnColoured.j0 k (wrap64 ((shl .i64 1 (ji8)) - 1)) bt410.1 bt414.1 true t397 t398)) else (laws_FnColoured.j0 k (wrap64 ((shl .i64 1 (ji8)) - 1)) bt410.1 bt414.1 true t397 t398)) else (laws_FnColoured.j0 k (wrap64 ((shl .i64 1 (ji8)) - 1)) bt410.1 bt414.1 true t397 t398)) else (laws_FnColoured.j0 k (wrap64 ((shl .i64 1 (ji8)) - 1)) bt410.1 bt414.1 true t397 t398))))) else (none)) = some r := by first | (rw [hji8] at H; exact H) | (simp only [hji8] at H ⊢; exact H)
    (try rw [hji8] at A3)
    (try rw [hji8] at A5)
    (try rw [hji8] at A6)
    (try rw [hji8] at A7)
    by_cases c9 : 0 ≤ (ji8)
    · rw [if_pos c9] at H
      have c9b0 := eq_true c9
      have c9b1 : decide (0 ≤ (ji8)) = true := decide_eq_true c9
      clear c9
      obtain ⟨ji10, hji10⟩ : ∃ j_ : Int, (shl .i64 1 (ji8)) = j_ := ⟨_, rfl⟩
      replace H : ((laws_r8At.f l1 0 (wrap64 ((wrap64 ((ji10) - 1)) + 1))).bind fun t409 => ((impl_ImbalancesOf.f k t397 t398 t409).bind fun bt410 => ((impl_ImbalancesOf.f k t397 t398 (Go.bits .xor .i64 (wrap64 ((ji10) - 1)) t409)).bind fun bt414 => (if t404 = true then (if t408 = true then (if bt410.2 = true then (if bt414.2 = true then (if (t405.length : Int) = (t398.length : Int) then (if (bt410.1.length : Int) = (t398.length : Int) then (if (bt414.1.length : Int) = (t398.length : Int) then ((laws_r8Greatest.f k t405).bind fun t418 => (if t418 = t402 then ((laws_r8Greatest.f k bt410.1).bind fun t419 => (laws_FnColoured.j0 k (wrap64 ((ji10) - 1)) bt410.1 bt414.1 (decide (t419 < t402)) t397 t398)) else (laws_FnColoured.j0 k (wrap64 ((ji10) - 1)) bt410.1 bt414.1 true t397 t398))) else (laws_FnColoured.j0 k (wrap64 ((ji10) - 1)) bt410.1 bt414.1 true t397 t398)) else (laws_FnColoured.j0 k (wrap64 ((ji10) - 1)) bt410.1 bt414.1 true t397 t398)) else (laws_FnColoured.j0 k (wrap64 ((ji10) - 1)) bt410.1 bt414.1 true t397 t398)) else (laws_FnColoured.j0 k (wrap64 ((ji10) - 1)) bt410.1 bt414.1 true t397 t398)) else (laws_FnColoured.j0 k (wrap64 ((ji10) - 1)) bt410.1 bt414.1 true t397 t398)) else (laws_FnColoured.j0 k (wrap64 ((ji10) - 1)) bt410.1 bt414.1 true t397 t398)) else (laws_FnColoured.j0 k (wrap64 ((ji10) - 1)) bt410.1 bt414.1 true t397 t398))))) = some r := by first | (rw [hji10] at H; exact H) | (simp only [hji10] at H ⊢; exact H)
      (try rw [hji10] at A3)
      (try rw [hji10] at A5)
      (try rw [hji10] at A6)
      (try rw [hji10] at A7)
      have hji10_ : (IntKind.i64.wrap (1 * 2 ^ min (ji8).toNat 64)) = ji10 := hji10
      have hji10z : (ji8) ≤ 64 → (IntKind.i64.wrap (1 * 2 ^ (ji8).toNat)) = ji10 := shl_small hji10
      have hji10u : (IntKind.i64.wrap (2 ^ min (ji8).toNat 64)) = ji10 := by have h_ := hji10_; rw [Int.one_mul] at h_; exact h_
      have hji10v : (ji8) ≤ 64 → (IntKind.i64.wrap (2 ^ (ji8).toNat)) = ji10 := fun hle_ => by have h_ := hji10z hle_; rw [Int.one_mul] at h_; exact h_
      have hji10y : (wrap64 (1 * 2 ^ min (ji8).toNat 64)) = ji10 := (i64_w _).symm.trans hji10_
      have hji10x : (ji8) ≤ 64 → (wrap64 (1 * 2 ^ (ji8).toNat)) = ji10 := fun h_ => (i64_w _).symm.trans (hji10z h_)
      replace H := Option.bind_eq_some_iff.mp H
      obtain ⟨t409, A110, H⟩ := H
      replace H : ((impl_ImbalancesOf.f k t397 t398 t409).bind fun bt410 => ((impl_ImbalancesOf.f k t397 t398 (Go.bits .xor .i64 (wrap64 ((ji10) - 1)) t409)).bind fun bt414 => (if t404 = true then (if t408 = true then (if bt410.2 = true then (if bt414.2 = true then (if (t405.length : Int) = (t398.length : Int) then (if (bt410.1.length : Int) = (t398.length : Int) then (if (bt414.1.length : Int) = (t398.length : Int) then ((laws_r8Greatest.f k t405).bind fun t418 => (if t418 = t402 then ((laws_r8Greatest.f k bt410.1).bind fun t419 => (laws_FnColoured.j0 k (wrap64 ((ji10) - 1)) bt410.1 bt414.1 (decide (t419 < t402)) t397 t398)) else (laws_FnColoured.j0 k (wrap64 ((ji10) - 1)) bt410.1 bt414.1 true t397 t398))) else (laws_FnColoured.j0 k (wrap64 ((ji10) - 1)) bt410.1 bt414.1 true t397 t398)) else (laws_FnColoured.j0 k (wrap64 ((ji10) - 1)) bt410.1 bt414.1 true t397 t398)) else (laws_FnColoured.j0 k (wrap64 ((ji10) - 1)) bt410.1 bt414.1 true t397 t398)) else (laws_FnColoured.j0 k (wrap64 ((ji10) - 1)) bt410.1 bt414.1 true t397 t398)) else (laws_FnColoured.j0 k (wrap64 ((ji10) - 1)) bt410.1 bt414.1 true t397 t398)) else (laws_FnColoured.j0 k (wrap64 ((ji10) - 1)) bt410.1 bt414.1 true t397 t398)) else (laws_FnColoured.j0 k (wrap64 ((ji10) - 1)) bt410.1 bt414.1 true t397 t398)))) = some r := H
      have A11 := Aside0.mk A110
      clear A110
      replace H := Option.bind_eq_some_iff.mp H
      obtain ⟨⟨t410, t413⟩, A120, H⟩ := H
      replace H : ((impl_ImbalancesOf.f k t397 t398 (Go.bits .xor .i64 (wrap64 ((ji10) - 1)) t409)).bind fun bt414 => (if t404 = true then (if t408 = true then (if t413 = true then (if bt414.2 = true then (if (t405.length : Int) = (t398.length : Int) then (if (t410.length : Int) = (t398.length : Int) then (if (bt414.1.length : Int) = (t398.length : Int) then ((laws_r8Greatest.f k t405).bind fun t418 => (if t418 = t402 then ((laws_r8Greatest.f k t410).bind fun t419 => (laws_FnColoured.j0 k (wrap64 ((ji10) - 1)) t410 bt414.1 (decide (t419 < t402)) t397 t398)) else (laws_FnColoured.j0 k (wrap64 ((ji10) - 1)) t410 bt414.1 true t397 t398))) else (laws_FnColoured.j0 k (wrap64 ((ji10) - 1)) t410 bt414.1 true t397 t398)) else (laws_FnColoured.j0 k (wrap64 ((ji10) - 1)) t410 bt414.1 true t397 t398)) else (laws_FnColoured.j0 k (wrap64 ((ji10) - 1)) t410 bt414.1 true t397 t398)) else (laws_FnColoured.j0 k (wrap64 ((ji10) - 1)) t410 bt414.1 true t397 t398)) else (laws_FnColoured.j0 k (wrap64 ((ji10) - 1)) t410 bt414.1 true t397 t398)) else (laws_FnColoured.j0 k (wrap64 ((ji10) - 1)) t410 bt414.1 true t397 t398)) else (laws_FnColoured.j0 k (wrap64 ((ji10) - 1)) t410 bt414.1 true t397 t398))) = some r := H
      have A12 := Aside0.mk A120
      clear A120
      replace H := Option.bind_eq_some_iff.mp H
      obtain ⟨⟨t414, t417⟩, A130, H⟩ := H
      replace H : (if t404 = true then (if t408 = true then (if t413 = true then (if t417 = true then (if (t405.length : Int) = (t398.length : Int) then (if (t410.length : Int) = (t398.length : Int) then (if (t414.length : Int) = (t398.length : Int) then ((laws_r8Greatest.f k t405).bind fun t418 => (if t418 = t402 then ((laws_r8Greatest.f k t410).bind fun t419 => (laws_FnColoured.j0 k (wrap64 ((ji10) - 1)) t410 t414 (decide (t419 < t402)) t397 t398)) else (laws_FnColoured.j0 k (wrap64 ((ji10) - 1)) t410 t414 true t397 t398))) else (laws_FnColoured.j0 k (wrap64 ((ji10) - 1)) t410 t414 true t397 t398)) else (laws_FnColoured.j0 k (wrap64 ((ji10) - 1)) t410 t414 true t397 t398)) else (laws_FnColoured.j0 k (wrap64 ((ji10) - 1)) t410 t414 true t397 t398)) else (laws_FnColoured.j0 k (wrap64 ((ji10) - 1)) t410 t414 true t397 t398)) else (laws_FnColoured.j0 k (wrap64 ((ji10) - 1)) t410 t414 true t397 t398)) else (laws_FnColoured.j0 k (wrap64 ((ji10) - 1)) t410 t414 true t397 t398)) else (laws_FnColoured.j0 k (wrap64 ((ji10) - 1)) t410 t414 true t397 t398)) = some r := H
      have A13 := Aside0.mk A130
      clear A130
      have HC14 := Aside0.mk H
      clear H
      go_enter Try.func8, Try.ntmps8
      go_upto_region 10 with (first | (go_at_call 34; (with_reducible refine (laws_r8Long.calls _ _ l0 _ _ l1 false _ ?side1 ?side2 ?side3 ?side4 A3.out).mono ?_); (case side1 => repeat (first | exact HR0.out | (with_reducible refine Kd.C_alloc ?_ _) | (with_reducible refine Kd.C_drewN ?_ _) | (with_reducible refine Kd.C_drew ?_))); (case side2 => exact HC0.out); (case side3 => repeat (first | exact HR1.out | (with_reducible refine Kd.C_alloc ?_ _) | (with_reducible refine Kd.C_drewN ?_ _) | (with_reducible refine Kd.C_drew ?_))); (case side4 => exact HC1.out); rintro e w' ⟨rfl, ⟨nd, rfl⟩⟩; (try first | exact ⟨rfl, _, World.drewN_drewN _ _ _⟩ | exact ⟨rfl, _, Eq.trans (World.drewN_drewN _ _ _) (congrArg (World.drewN _) (Nat.add_assoc _ _ _))⟩)) | (go_at_call 35; (with_reducible refine (spec_R8System.calls k _ _ l0 t397 t398 _ ?side1 ?side2 A5.out).mono ?_); (case side1 => repeat (first | exact HR0.out | (with_reducible refine Kd.C_alloc ?_ _) | (with_reducible refine Kd.C_drewN ?_ _) | (with_reducible refine Kd.C_drew ?_))); (case side2 => exact HC0.out); rintro e w15 ⟨v399, rfl, ho0, hb⟩; have n0_ := Aside0.mk (Kd.R_lower ho0 (below_size (by repeat (first | (with_reducible first | exact HB.out | apply below_alloc | apply pw_below_drewN | apply below_drew1) | exact HB.out)))); have n1_ := Aside0.mk (below_step (by repeat (first | (with_reducible first | exact HB.out | apply below_alloc | apply pw_below_drewN | apply below_drew1) | exact HB.out)) hb); clear HB; have HO400 := n0_; have HB := n1_; clear n0_ n1_; (try clear hb); (try clear hb2); (try clear hk); (try clear hi); (try clear ho0)) | ((with_reducible refine gate_dst (N := 5) rfl ?_); (try (refine gate_guard (by rfl) ?_; dsimp only)); refine box_event ?hg (N := 5) ?hd (cs := #[.int .i64 0, .slice none 0 0]) (t := 27) ?hr ?_; (case hd => rfl); (case hg => rfl); (case hr => first | (go_simp; done) | (go_simp; rfl)); intro gb401 hg w16 hbox hb; have n0_ := Aside0.mk (Kd.R_below (by (with_reducible repeat (first | apply Kd.R_alloc | apply Kd.R_drewN | apply Kd.R_drew)); exact HO400.out) hb); have n1_ := Aside0.mk (below_step (by repeat (first | (with_reducible first | exact HB.out | apply below_alloc | apply pw_below_drewN | apply below_drew1) | exact HB.out)) hb); have n2_ := Aside0.mk (hbox); have n3_ := Aside0.mk ((by rw [hg]; exact (below_size (by repeat (first | (with_reducible first | exact HB.out | apply below_alloc | apply pw_below_drewN | apply below_drew1) | exact HB.out))) : w.heap.size ≤ gb401)); have n4_ := Aside0.mk ((by rw [hg]; exact (below_size (by repeat (first | (with_reducible first | exact HB.out | apply below_alloc | apply pw_below_drewN | apply below_drew1) | exact HB.out))) : w.heap.size ≤ gb401)); clear HO400; clear HB; have HO400 := n0_; have HB := n1_; have BK401 := n2_; have GW401 := n3_; have GE401 := n4_; clear n0_ n1_ n2_ n3_ n4_; clear hb hbox hg; have hcz17_0 : w16.cell? ⟨gb401, 0, none⟩ = some (.int .i64 0) := (blk_cell BK401.out 0).trans rfl; have hcz17_1 : w16.cell? ⟨gb401, 1, none⟩ = some (.slice none 0 0) := (blk_cell BK401.out 1).trans rfl; have hfz17_0 := blk_frozen BK401.out 0; have hfz17_1 := blk_frozen BK401.out 1; obtain ⟨Ao18, co18, eo18⟩ := Kd.R_slice HO400.out; subst eo18) | (go_at_call 36; (with_reducible refine (impl_DiscrepancyOf.calls k t397 _ _ t398 t402 t403 t404 _ ?side1 ?side2 A6.out).mono ?_); (case side1 => refine (Kd.R_reads' (e := 2) (base := w.heap.size) (ok := fun k_ => True) (n := t398.length) (c := co18) ?_).2.2; exact (by (with_reducible repeat (first | apply Kd.R_alloc | apply Kd.R_drewN | apply Kd.R_drew)); exact (Kd.R_mono (Kd.R_far (p := ⟨gb401, 1, none⟩) (Kd.R_far (p := ⟨gb401, 0, none⟩) (Kd.R_types HO400.out BK401.out (by decide)) (fun _ hk => hk.2) (.int .i64 t397)) (fun _ hk => hk.2) (.slice Ao18 t398.length co18)) (fun _ h_ => h_.1)))); (case side2 => exact (Kd.R_reads' HO400.out).2.1); rintro e w19 ⟨rfl, hb⟩; have n0_ := Aside0.mk (Kd.R_below (by (with_reducible repeat (first | apply Kd.R_alloc | apply Kd.R_drewN | apply Kd.R_drew)); exact (Kd.R_mono (Kd.R_far (p := ⟨gb401, 1, none⟩) (Kd.R_far (p := ⟨gb401, 0, none⟩) (Kd.R_types HO400.out BK401.out (by decide)) (fun _ hk => hk.2) (.int .i64 t397)) (fun _ hk => hk.2) (.slice Ao18 t398.length co18)) (fun _ h_ => h_.1))) hb); have n1_ := Aside0.mk (blk_below (g := gb401) (o := .cells #[.int .i64 t397, .slice Ao18 t398.length co18] 27 (0, 0)) (by (with_reducible repeat (first | refine blk_drewN ?_ _ | refine blk_drew ?_ | refine blk_alloc ?_ _)); refine blk_put (cs := #[.int .i64 t397, .slice none 0 0]) ?_ 1 _ rfl; (with_reducible repeat (first | refine blk_drewN ?_ _ | refine blk_drew ?_ | refine blk_alloc ?_ _)); refine blk_put (cs := #[.int .i64 0, .slice none 0 0]) ?_ 0 _ rfl; (with_reducible repeat (first | refine blk_drewN ?_ _ | refine blk_drew ?_ | refine blk_alloc ?_ _)); exact BK401.out) hb); have n2_ := Aside0.mk (below_step (by repeat (first | (with_reducible first | exact HB.out | apply below_alloc | apply pw_below_drewN | apply below_drew1 | refine below_set ?_ GE401.out) | exact HB.out)) hb); clear HO400; clear BK401; clear HB; have HO400 := n0_; have BK401 := n1_; have HB := n2_; clear n0_ n1_ n2_; (try clear hb); (try clear hb2); (try clear hk); (try clear hi); have hcz20_0 : w19.cell? ⟨gb401, 0, none⟩ = some (.int .i64 t397) := (blk_cell BK401.out 0).trans rfl; have hcz20_1 : w19.cell? ⟨gb401, 1, none⟩ = some (.slice Ao18 t398.length co18) := (blk_cell BK401.out 1).trans rfl; have hfz20_0 := blk_frozen BK401.out 0; have hfz20_1 := blk_frozen BK401.out 1) | (go_at_call 37; (with_reducible refine (impl_ImbalancesOf.calls k t397 _ _ t398 t403 t405 t408 _ ?side1 ?side2 A7.out).mono ?_); (case side1 => repeat (first | exact (Kd.R_reads' HO400.out).2.2 | (with_reducible refine Kd.C_alloc ?_ _) | (with_reducible refine Kd.C_drewN ?_ _) | (with_reducible refine Kd.C_drew ?_))); (case side2 => exact (Kd.R_reads' HO400.out).2.1); rintro e w21 ⟨v406, rfl, ho0, hb⟩; have n0_ := Aside0.mk (Kd.R_elder' (by (with_reducible repeat (first | apply Kd.R_alloc | apply Kd.R_drewN | apply Kd.R_drew)); exact HO400.out) (Kd.R_base ho0) hb); have n1_ := Aside0.mk (Kd.R_lower (Kd.R_new' ho0 (Kd.R_lt (by (with_reducible repeat (first | apply Kd.R_alloc | apply Kd.R_drewN | apply Kd.R_drew)); exact HO400.out))) (below_size (by repeat (first | (with_reducible first | exact HB.out | apply below_alloc | apply pw_below_drewN | apply below_drew1 | refine below_set ?_ GE401.out) | exact HB.out)))); have n2_ := Aside0.mk (blk_below (g := gb401) (o := .cells #[.int .i64 t397, .slice Ao18 t398.length co18] 27 (0, 0)) (by (with_reducible repeat (first | refine blk_drewN ?_ _ | refine blk_drew ?_ | refine blk_alloc ?_ _)); exact BK401.out) hb); have n3_ := Aside0.mk (below_step (by repeat (first | (with_reducible first | exact HB.out | apply below_alloc | apply pw_below_drewN | apply below_drew1 | refine below_set ?_ GE401.out) | exact HB.out)) hb); clear HO400; clear BK401; clear HB; have HO400 := n0_; have HO407 := n1_; have BK401 := n2_; have HB := n3_; clear n0_ n1_ n2_ n3_; (try clear hb); (try clear hb2); (try clear hk); (try clear hi); (try clear ho0); have hcz22_0 : w21.cell? ⟨gb401, 0, none⟩ = some (.int .i64 t397) := (blk_cell BK401.out 0).trans rfl; have hcz22_1 : w21.cell? ⟨gb401, 1, none⟩ = some (.slice Ao18 t398.length co18) := (blk_cell BK401.out 1).trans rfl; have hfz22_0 := blk_frozen BK401.out 0; have hfz22_1 := blk_frozen BK401.out 1) | (go_at_call 38; (with_reducible refine (laws_r8At.calls _ _ l1 0 (wrap64 ((wrap64 ((ji10) - 1)) + 1)) t409 _ ?side1 ?side2 A11.out).mono ?_); (case side1 => repeat (first | exact (Kd.C_below HR1.out HB.out) | (with_reducible refine Kd.C_alloc ?_ _) | (with_reducible refine Kd.C_drewN ?_ _) | (with_reducible refine Kd.C_drew ?_))); (case side2 => exact HC1.out); rintro e w' ⟨rfl, ⟨nd, rfl⟩⟩; (try first | exact ⟨rfl, _, World.drewN_drewN _ _ _⟩ | exact ⟨rfl, _, Eq.trans (World.drewN_drewN _ _ _) (congrArg (World.drewN _) (Nat.add_assoc _ _ _))⟩)) | (go_at_call 37; (with_reducible refine (impl_ImbalancesOf.calls k t397 _ _ t398 t409 t410 t413 _ ?side1 ?side2 A12.out).mono ?_); (case side1 => repeat (first | exact (Kd.R_reads' HO400.out).2.2 | (with_reducible refine Kd.C_alloc ?_ _) | (with_reducible refine Kd.C_drewN ?_ _) | (with_reducible refine Kd.C_drew ?_))); (case side2 => exact (Kd.R_reads' HO400.out).2.1); rintro e w23 ⟨v411, rfl, ho0, hb⟩; have n0_ := Aside0.mk (Kd.R_elder' (by (with_reducible repeat (first | apply Kd.R_alloc | apply Kd.R_drewN | apply Kd.R_drew)); exact HO400.out) (Kd.R_base ho0) hb); have n1_ := Aside0.mk (Kd.R_elder' (by (with_reducible repeat (first | apply Kd.R_alloc | apply Kd.R_drewN | apply Kd.R_drew)); exact HO407.out) (Kd.R_base ho0) hb); have n2_ := Aside0.mk (Kd.R_lower (Kd.R_new' (Kd.R_new' ho0 (Kd.R_lt (by (with_reducible repeat (first | apply Kd.R_alloc | apply Kd.R_drewN | apply Kd.R_drew)); exact HO400.out))) (Kd.R_lt (by (with_reducible repeat (first | apply Kd.R_alloc | apply Kd.R_drewN | apply Kd.R_drew)); exact HO407.out))) (below_size (by repeat (first | (with_reducible first | exact HB.out | apply below_alloc | apply pw_below_drewN | apply below_drew1 | refine below_set ?_ GE401.out) | exact HB.out)))); have n3_ := Aside0.mk (blk_below (g := gb401) (o := .cells #[.int .i64 t397, .slice Ao18 t398.length co18] 27 (0, 0)) (by (with_reducible repeat (first | refine blk_drewN ?_ _ | refine blk_drew ?_ | refine blk_alloc ?_ _)); exact BK401.out) hb); have n4_ := Aside0.mk (below_step (by repeat (first | (with_reducible first | exact HB.out | apply below_alloc | apply pw_below_drewN | apply below_drew1 | refine below_set ?_ GE401.out) | exact HB.out)) hb); clear HO400; clear HO407; clear BK401; clear HB; have HO400 := n0_; have HO407 := n1_; have HO412 := n2_; have BK401 := n3_; have HB := n4_; clear n0_ n1_ n2_ n3_ n4_; (try clear hb); (try clear hb2); (try clear hk); (try clear hi); (try clear ho0); have hcz24_0 : w23.cell? ⟨gb401, 0, none⟩ = some (.int .i64 t397) := (blk_cell BK401.out 0).trans rfl; have hcz24_1 : w23.cell? ⟨gb401, 1, none⟩ = some (.slice Ao18 t398.length co18) := (blk_cell BK401.out 1).trans rfl; have hfz24_0 := blk_frozen BK401.out 0; have hfz24_1 := blk_frozen BK401.out 1) | (go_at_call 37; (with_reducible refine (impl_ImbalancesOf.calls k t397 _ _ t398 (Go.bits .xor .i64 (wrap64 ((ji10) - 1)) t409) t414 t417 _ ?side1 ?side2 A13.out).mono ?_); (case side1 => repeat (first | exact (Kd.R_reads' HO400.out).2.2 | (with_reducible refine Kd.C_alloc ?_ _) | (with_reducible refine Kd.C_drewN ?_ _) | (with_reducible refine Kd.C_drew ?_))); (case side2 => exact (Kd.R_reads' HO400.out).2.1); rintro e w25 ⟨v415, rfl, ho0, hb⟩; have n0_ := Aside0.mk (Kd.R_elder' (by (with_reducible repeat (first | apply Kd.R_alloc | apply Kd.R_drewN | apply Kd.R_drew)); exact HO400.out) (Kd.R_base ho0) hb); have n1_ := Aside0.mk (Kd.R_elder' (by (with_reducible repeat (first | apply Kd.R_alloc | apply Kd.R_drewN | apply Kd.R_drew)); exact HO407.out) (Kd.R_base ho0) hb); have n2_ := Aside0.mk (Kd.R_elder' (by (with_reducible repeat (first | apply Kd.R_alloc | apply Kd.R_drewN | apply Kd.R_drew)); exact HO412.out) (Kd.R_base ho0) hb); have n3_ := Aside0.mk (Kd.R_lower (Kd.R_new' (Kd.R_new' (Kd.R_new' ho0 (Kd.R_lt (by (with_reducible repeat (first | apply Kd.R_alloc | apply Kd.R_drewN | apply Kd.R_drew)); exact HO400.out))) (Kd.R_lt (by (with_reducible repeat (first | apply Kd.R_alloc | apply Kd.R_drewN | apply Kd.R_drew)); exact HO407.out))) (Kd.R_lt (by (with_reducible repeat (first | apply Kd.R_alloc | apply Kd.R_drewN | apply Kd.R_drew)); exact HO412.out))) (below_size (by repeat (first | (with_reducible first | exact HB.out | apply below_alloc | apply pw_below_drewN | apply below_drew1 | refine below_set ?_ GE401.out) | exact HB.out)))); have n4_ := Aside0.mk (blk_below (g := gb401) (o := .cells #[.int .i64 t397, .slice Ao18 t398.length co18] 27 (0, 0)) (by (with_reducible repeat (first | refine blk_drewN ?_ _ | refine blk_drew ?_ | refine blk_alloc ?_ _)); exact BK401.out) hb); have n5_ := Aside0.mk (below_step (by repeat (first | (with_reducible first | exact HB.out | apply below_alloc | apply pw_below_drewN | apply below_drew1 | refine below_set ?_ GE401.out) | exact HB.out)) hb); clear HO400; clear HO407; clear HO412; clear BK401; clear HB; have HO400 := n0_; have HO407 := n1_; have HO412 := n2_; have HO416 := n3_; have BK401 := n4_; have HB := n5_; clear n0_ n1_ n2_ n3_ n4_ n5_; (try clear hb); (try clear hb2); (try clear hk); (try clear hi); (try clear ho0)))
      repeat (go_quiet (first | (go_at_call 34; (with_reducible refine (laws_r8Long.calls _ _ l0 _ _ l1 false _ ?side1 ?side2 ?side3 ?side4 A3.out).mono ?_); (case side1 => repeat (first | exact HR0.out | (with_reducible refine Kd.C_alloc ?_ _) | (with_reducible refine Kd.C_drewN ?_ _) | (with_reducible refine Kd.C_drew ?_))); (case side2 => exact HC0.out); (case side3 => repeat (first | exact HR1.out | (with_reducible refine Kd.C_alloc ?_ _) | (with_reducible refine Kd.C_drewN ?_ _) | (with_reducible refine Kd.C_drew ?_))); (case side4 => exact HC1.out); rintro e w' ⟨rfl, ⟨nd, rfl⟩⟩; (try first | exact ⟨rfl, _, World.drewN_drewN _ _ _⟩ | exact ⟨rfl, _, Eq.trans (World.drewN_drewN _ _ _) (congrArg (World.drewN _) (Nat.add_assoc _ _ _))⟩)) | (go_at_call 35; (with_reducible refine (spec_R8System.calls k _ _ l0 t397 t398 _ ?side1 ?side2 A5.out).mono ?_); (case side1 => repeat (first | exact HR0.out | (with_reducible refine Kd.C_alloc ?_ _) | (with_reducible refine Kd.C_drewN ?_ _) | (with_reducible refine Kd.C_drew ?_))); (case side2 => exact HC0.out); rintro e w15 ⟨v399, rfl, ho0, hb⟩; have n0_ := Aside0.mk (Kd.R_lower ho0 (below_size (by repeat (first | (with_reducible first | exact HB.out | apply below_alloc | apply pw_below_drewN | apply below_drew1) | exact HB.out)))); have n1_ := Aside0.mk (below_step (by repeat (first | (with_reducible first | exact HB.out | apply below_alloc | apply pw_below_drewN | apply below_drew1) | exact HB.out)) hb); clear HB; have HO400 := n0_; have HB := n1_; clear n0_ n1_; (try clear hb); (try clear hb2); (try clear hk); (try clear hi); (try clear ho0)) | ((with_reducible refine gate_dst (N := 5) rfl ?_); (try (refine gate_guard (by rfl) ?_; dsimp only)); refine box_event ?hg (N := 5) ?hd (cs := #[.int .i64 0, .slice none 0 0]) (t := 27) ?hr ?_; (case hd => rfl); (case hg => rfl); (case hr => first | (go_simp; done) | (go_simp; rfl)); intro gb401 hg w16 hbox hb; have n0_ := Aside0.mk (Kd.R_below (by (with_reducible repeat (first | apply Kd.R_alloc | apply Kd.R_drewN | apply Kd.R_drew)); exact HO400.out) hb); have n1_ := Aside0.mk (below_step (by repeat (first | (with_reducible first | exact HB.out | apply below_alloc | apply pw_below_drewN | apply below_drew1) | exact HB.out)) hb); have n2_ := Aside0.mk (hbox); have n3_ := Aside0.mk ((by rw [hg]; exact (below_size (by repeat (first | (with_reducible first | exact HB.out | apply below_alloc | apply pw_below_drewN | apply below_drew1) | exact HB.out))) : w.heap.size ≤ gb401)); have n4_ := Aside0.mk ((by rw [hg]; exact (below_size (by repeat (first | (with_reducible first | exact HB.out | apply below_alloc | apply pw_below_drewN | apply below_drew1) | exact HB.out))) : w.heap.size ≤ gb401)); clear HO400; clear HB; have HO400 := n0_; have HB := n1_; have BK401 := n2_; have GW401 := n3_; have GE401 := n4_; clear n0_ n1_ n2_ n3_ n4_; clear hb hbox hg; have hcz17_0 : w16.cell? ⟨gb401, 0, none⟩ = some (.int .i64 0) := (blk_cell BK401.out 0).trans rfl; have hcz17_1 : w16.cell? ⟨gb401, 1, none⟩ = some (.slice none 0 0) := (blk_cell BK401.out 1).trans rfl; have hfz17_0 := blk_frozen BK401.out 0; have hfz17_1 := blk_frozen BK401.out 1; obtain ⟨Ao18, co18, eo18⟩ := Kd.R_slice HO400.out; subst eo18) | (go_at_call 36; (with_reducible refine (impl_DiscrepancyOf.calls k t397 _ _ t398 t402 t403 t404 _ ?side1 ?side2 A6.out).mono ?_); (case side1 => refine (Kd.R_reads' (e := 2) (base := w.heap.size) (ok := fun k_ => True) (n := t398.length) (c := co18) ?_).2.2; exact (by (with_reducible repeat (first | apply Kd.R_alloc | apply Kd.R_drewN | apply Kd.R_drew)); exact (Kd.R_mono (Kd.R_far (p := ⟨gb401, 1, none⟩) (Kd.R_far (p := ⟨gb401, 0, none⟩) (Kd.R_types HO400.out BK401.out (by decide)) (fun _ hk => hk.2) (.int .i64 t397)) (fun _ hk => hk.2) (.slice Ao18 t398.length co18)) (fun _ h_ => h_.1)))); (case side2 => exact (Kd.R_reads' HO400.out).2.1); rintro e w19 ⟨rfl, hb⟩; have n0_ := Aside0.mk (Kd.R_below (by (with_reducible repeat (first | apply Kd.R_alloc | apply Kd.R_drewN | apply Kd.R_drew)); exact (Kd.R_mono (Kd.R_far (p := ⟨gb401, 1, none⟩) (Kd.R_far (p := ⟨gb401, 0, none⟩) (Kd.R_types HO400.out BK401.out (by decide)) (fun _ hk => hk.2) (.int .i64 t397)) (fun _ hk => hk.2) (.slice Ao18 t398.length co18)) (fun _ h_ => h_.1))) hb); have n1_ := Aside0.mk (blk_below (g := gb401) (o := .cells #[.int .i64 t397, .slice Ao18 t398.length co18] 27 (0, 0)) (by (with_reducible repeat (first | refine blk_drewN ?_ _ | refine blk_drew ?_ | refine blk_alloc ?_ _)); refine blk_put (cs := #[.int .i64 t397, .slice none 0 0]) ?_ 1 _ rfl; (with_reducible repeat (first | refine blk_drewN ?_ _ | refine blk_drew ?_ | refine blk_alloc ?_ _)); refine blk_put (cs := #[.int .i64 0, .slice none 0 0]) ?_ 0 _ rfl; (with_reducible repeat (first | refine blk_drewN ?_ _ | refine blk_drew ?_ | refine blk_alloc ?_ _)); exact BK401.out) hb); have n2_ := Aside0.mk (below_step (by repeat (first | (with_reducible first | exact HB.out | apply below_alloc | apply pw_below_drewN | apply below_drew1 | refine below_set ?_ GE401.out) | exact HB.out)) hb); clear HO400; clear BK401; clear HB; have HO400 := n0_; have BK401 := n1_; have HB := n2_; clear n0_ n1_ n2_; (try clear hb); (try clear hb2); (try clear hk); (try clear hi); have hcz20_0 : w19.cell? ⟨gb401, 0, none⟩ = some (.int .i64 t397) := (blk_cell BK401.out 0).trans rfl; have hcz20_1 : w19.cell? ⟨gb401, 1, none⟩ = some (.slice Ao18 t398.length co18) := (blk_cell BK401.out 1).trans rfl; have hfz20_0 := blk_frozen BK401.out 0; have hfz20_1 := blk_frozen BK401.out 1) | (go_at_call 37; (with_reducible refine (impl_ImbalancesOf.calls k t397 _ _ t398 t403 t405 t408 _ ?side1 ?side2 A7.out).mono ?_); (case side1 => repeat (first | exact (Kd.R_reads' HO400.out).2.2 | (with_reducible refine Kd.C_alloc ?_ _) | (with_reducible refine Kd.C_drewN ?_ _) | (with_reducible refine Kd.C_drew ?_))); (case side2 => exact (Kd.R_reads' HO400.out).2.1); rintro e w21 ⟨v406, rfl, ho0, hb⟩; have n0_ := Aside0.mk (Kd.R_elder' (by (with_reducible repeat (first | apply Kd.R_alloc | apply Kd.R_drewN | apply Kd.R_drew)); exact HO400.out) (Kd.R_base ho0) hb); have n1_ := Aside0.mk (Kd.R_lower (Kd.R_new' ho0 (Kd.R_lt (by (with_reducible repeat (first | apply Kd.R_alloc | apply Kd.R_drewN | apply Kd.R_drew)); exact HO400.out))) (below_size (by repeat (first | (with_reducible first | exact HB.out | apply below_alloc | apply pw_below_drewN | apply below_drew1 | refine below_set ?_ GE401.out) | exact HB.out)))); have n2_ := Aside0.mk (blk_below (g := gb401) (o := .cells #[.int .i64 t397, .slice Ao18 t398.length co18] 27 (0, 0)) (by (with_reducible repeat (first | refine blk_drewN ?_ _ | refine blk_drew ?_ | refine blk_alloc ?_ _)); exact BK401.out) hb); have n3_ := Aside0.mk (below_step (by repeat (first | (with_reducible first | exact HB.out | apply below_alloc | apply pw_below_drewN | apply below_drew1 | refine below_set ?_ GE401.out) | exact HB.out)) hb); clear HO400; clear BK401; clear HB; have HO400 := n0_; have HO407 := n1_; have BK401 := n2_; have HB := n3_; clear n0_ n1_ n2_ n3_; (try clear hb); (try clear hb2); (try clear hk); (try clear hi); (try clear ho0); have hcz22_0 : w21.cell? ⟨gb401, 0, none⟩ = some (.int .i64 t397) := (blk_cell BK401.out 0).trans rfl; have hcz22_1 : w21.cell? ⟨gb401, 1, none⟩ = some (.slice Ao18 t398.length co18) := (blk_cell BK401.out 1).trans rfl; have hfz22_0 := blk_frozen BK401.out 0; have hfz22_1 := blk_frozen BK401.out 1) | (go_at_call 38; (with_reducible refine (laws_r8At.calls _ _ l1 0 (wrap64 ((wrap64 ((ji10) - 1)) + 1)) t409 _ ?side1 ?side2 A11.out).mono ?_); (case side1 => repeat (first | exact (Kd.C_below HR1.out HB.out) | (with_reducible refine Kd.C_alloc ?_ _) | (with_reducible refine Kd.C_drewN ?_ _) | (with_reducible refine Kd.C_drew ?_))); (case side2 => exact HC1.out); rintro e w' ⟨rfl, ⟨nd, rfl⟩⟩; (try first | exact ⟨rfl, _, World.drewN_drewN _ _ _⟩ | exact ⟨rfl, _, Eq.trans (World.drewN_drewN _ _ _) (congrArg (World.drewN _) (Nat.add_assoc _ _ _))⟩)) | (go_at_call 37; (with_reducible refine (impl_ImbalancesOf.calls k t397 _ _ t398 t409 t410 t413 _ ?side1 ?side2 A12.out).mono ?_); (case side1 => repeat (first | exact (Kd.R_reads' HO400.out).2.2 | (with_reducible refine Kd.C_alloc ?_ _) | (with_reducible refine Kd.C_drewN ?_ _) | (with_reducible refine Kd.C_drew ?_))); (case side2 => exact (Kd.R_reads' HO400.out).2.1); rintro e w23 ⟨v411, rfl, ho0, hb⟩; have n0_ := Aside0.mk (Kd.R_elder' (by (with_reducible repeat (first | apply Kd.R_alloc | apply Kd.R_drewN | apply Kd.R_drew)); exact HO400.out) (Kd.R_base ho0) hb); have n1_ := Aside0.mk (Kd.R_elder' (by (with_reducible repeat (first | apply Kd.R_alloc | apply Kd.R_drewN | apply Kd.R_drew)); exact HO407.out) (Kd.R_base ho0) hb); have n2_ := Aside0.mk (Kd.R_lower (Kd.R_new' (Kd.R_new' ho0 (Kd.R_lt (by (with_reducible repeat (first | apply Kd.R_alloc | apply Kd.R_drewN | apply Kd.R_drew)); exact HO400.out))) (Kd.R_lt (by (with_reducible repeat (first | apply Kd.R_alloc | apply Kd.R_drewN | apply Kd.R_drew)); exact HO407.out))) (below_size (by repeat (first | (with_reducible first | exact HB.out | apply below_alloc | apply pw_below_drewN | apply below_drew1 | refine below_set ?_ GE401.out) | exact HB.out)))); have n3_ := Aside0.mk (blk_below (g := gb401) (o := .cells #[.int .i64 t397, .slice Ao18 t398.length co18] 27 (0, 0)) (by (with_reducible repeat (first | refine blk_drewN ?_ _ | refine blk_drew ?_ | refine blk_alloc ?_ _)); exact BK401.out) hb); have n4_ := Aside0.mk (below_step (by repeat (first | (with_reducible first | exact HB.out | apply below_alloc | apply pw_below_drewN | apply below_drew1 | refine below_set ?_ GE401.out) | exact HB.out)) hb); clear HO400; clear HO407; clear BK401; clear HB; have HO400 := n0_; have HO407 := n1_; have HO412 := n2_; have BK401 := n3_; have HB := n4_; clear n0_ n1_ n2_ n3_ n4_; (try clear hb); (try clear hb2); (try clear hk); (try clear hi); (try clear ho0); have hcz24_0 : w23.cell? ⟨gb401, 0, none⟩ = some (.int .i64 t397) := (blk_cell BK401.out 0).trans rfl; have hcz24_1 : w23.cell? ⟨gb401, 1, none⟩ = some (.slice Ao18 t398.length co18) := (blk_cell BK401.out 1).trans rfl; have hfz24_0 := blk_frozen BK401.out 0; have hfz24_1 := blk_frozen BK401.out 1) | (go_at_call 37; (with_reducible refine (impl_ImbalancesOf.calls k t397 _ _ t398 (Go.bits .xor .i64 (wrap64 ((ji10) - 1)) t409) t414 t417 _ ?side1 ?side2 A13.out).mono ?_); (case side1 => repeat (first | exact (Kd.R_reads' HO400.out).2.2 | (with_reducible refine Kd.C_alloc ?_ _) | (with_reducible refine Kd.C_drewN ?_ _) | (with_reducible refine Kd.C_drew ?_))); (case side2 => exact (Kd.R_reads' HO400.out).2.1); rintro e w25 ⟨v415, rfl, ho0, hb⟩; have n0_ := Aside0.mk (Kd.R_elder' (by (with_reducible repeat (first | apply Kd.R_alloc | apply Kd.R_drewN | apply Kd.R_drew)); exact HO400.out) (Kd.R_base ho0) hb); have n1_ := Aside0.mk (Kd.R_elder' (by (with_reducible repeat (first | apply Kd.R_alloc | apply Kd.R_drewN | apply Kd.R_drew)); exact HO407.out) (Kd.R_base ho0) hb); have n2_ := Aside0.mk (Kd.R_elder' (by (with_reducible repeat (first | apply Kd.R_alloc | apply Kd.R_drewN | apply Kd.R_drew)); exact HO412.out) (Kd.R_base ho0) hb); have n3_ := Aside0.mk (Kd.R_lower (Kd.R_new' (Kd.R_new' (Kd.R_new' ho0 (Kd.R_lt (by (with_reducible repeat (first | apply Kd.R_alloc | apply Kd.R_drewN | apply Kd.R_drew)); exact HO400.out))) (Kd.R_lt (by (with_reducible repeat (first | apply Kd.R_alloc | apply Kd.R_drewN | apply Kd.R_drew)); exact HO407.out))) (Kd.R_lt (by (with_reducible repeat (first | apply Kd.R_alloc | apply Kd.R_drewN | apply Kd.R_drew)); exact HO412.out))) (below_size (by repeat (first | (with_reducible first | exact HB.out | apply below_alloc | apply pw_below_drewN | apply below_drew1 | refine below_set ?_ GE401.out) | exact HB.out)))); have n4_ := Aside0.mk (blk_below (g := gb401) (o := .cells #[.int .i64 t397, .slice Ao18 t398.length co18] 27 (0, 0)) (by (with_reducible repeat (first | refine blk_drewN ?_ _ | refine blk_drew ?_ | refine blk_alloc ?_ _)); exact BK401.out) hb); have n5_ := Aside0.mk (below_step (by repeat (first | (with_reducible first | exact HB.out | apply below_alloc | apply pw_below_drewN | apply below_drew1 | refine below_set ?_ GE401.out) | exact HB.out)) hb); clear HO400; clear HO407; clear HO412; clear BK401; clear HB; have HO400 := n0_; have HO407 := n1_; have HO412 := n2_; have HO416 := n3_; have BK401 := n4_; have HB := n5_; clear n0_ n1_ n2_ n3_ n4_ n5_; (try clear hb); (try clear hb2); (try clear hk); (try clear hi); (try clear ho0))); go_upto_region 10 with (first | (go_at_call 34; (with_reducible refine (laws_r8Long.calls _ _ l0 _ _ l1 false _ ?side1 ?side2 ?side3 ?side4 A3.out).mono ?_); (case side1 => repeat (first | exact HR0.out | (with_reducible refine Kd.C_alloc ?_ _) | (with_reducible refine Kd.C_drewN ?_ _) | (with_reducible refine Kd.C_drew ?_))); (case side2 => exact HC0.out); (case side3 => repeat (first | exact HR1.out | (with_reducible refine Kd.C_alloc ?_ _) | (with_reducible refine Kd.C_drewN ?_ _) | (with_reducible refine Kd.C_drew ?_))); (case side4 => exact HC1.out); rintro e w' ⟨rfl, ⟨nd, rfl⟩⟩; (try first | exact ⟨rfl, _, World.drewN_drewN _ _ _⟩ | exact ⟨rfl, _, Eq.trans (World.drewN_drewN _ _ _) (congrArg (World.drewN _) (Nat.add_assoc _ _ _))⟩)) | (go_at_call 35; (with_reducible refine (spec_R8System.calls k _ _ l0 t397 t398 _ ?side1 ?side2 A5.out).mono ?_); (case side1 => repeat (first | exact HR0.out | (with_reducible refine Kd.C_alloc ?_ _) | (with_reducible refine Kd.C_drewN ?_ _) | (with_reducible refine Kd.C_drew ?_))); (case side2 => exact HC0.out); rintro e w15 ⟨v399, rfl, ho0, hb⟩; have n0_ := Aside0.mk (Kd.R_lower ho0 (below_size (by repeat (first | (with_reducible first | exact HB.out | apply below_alloc | apply pw_below_drewN | apply below_drew1) | exact HB.out)))); have n1_ := Aside0.mk (below_step (by repeat (first | (with_reducible first | exact HB.out | apply below_alloc | apply pw_below_drewN | apply below_drew1) | exact HB.out)) hb); clear HB; have HO400 := n0_; have HB := n1_; clear n0_ n1_; (try clear hb); (try clear hb2); (try clear hk); (try clear hi); (try clear ho0)) | ((with_reducible refine gate_dst (N := 5) rfl ?_); (try (refine gate_guard (by rfl) ?_; dsimp only)); refine box_event ?hg (N := 5) ?hd (cs := #[.int .i64 0, .slice none 0 0]) (t := 27) ?hr ?_; (case hd => rfl); (case hg => rfl); (case hr => first | (go_simp; done) | (go_simp; rfl)); intro gb401 hg w16 hbox hb; have n0_ := Aside0.mk (Kd.R_below (by (with_reducible repeat (first | apply Kd.R_alloc | apply Kd.R_drewN | apply Kd.R_drew)); exact HO400.out) hb); have n1_ := Aside0.mk (below_step (by repeat (first | (with_reducible first | exact HB.out | apply below_alloc | apply pw_below_drewN | apply below_drew1) | exact HB.out)) hb); have n2_ := Aside0.mk (hbox); have n3_ := Aside0.mk ((by rw [hg]; exact (below_size (by repeat (first | (with_reducible first | exact HB.out | apply below_alloc | apply pw_below_drewN | apply below_drew1) | exact HB.out))) : w.heap.size ≤ gb401)); have n4_ := Aside0.mk ((by rw [hg]; exact (below_size (by repeat (first | (with_reducible first | exact HB.out | apply below_alloc | apply pw_below_drewN | apply below_drew1) | exact HB.out))) : w.heap.size ≤ gb401)); clear HO400; clear HB; have HO400 := n0_; have HB := n1_; have BK401 := n2_; have GW401 := n3_; have GE401 := n4_; clear n0_ n1_ n2_ n3_ n4_; clear hb hbox hg; have hcz17_0 : w16.cell? ⟨gb401, 0, none⟩ = some (.int .i64 0) := (blk_cell BK401.out 0).trans rfl; have hcz17_1 : w16.cell? ⟨gb401, 1, none⟩ = some (.slice none 0 0) := (blk_cell BK401.out 1).trans rfl; have hfz17_0 := blk_frozen BK401.out 0; have hfz17_1 := blk_frozen BK401.out 1; obtain ⟨Ao18, co18, eo18⟩ := Kd.R_slice HO400.out; subst eo18) | (go_at_call 36; (with_reducible refine (impl_DiscrepancyOf.calls k t397 _ _ t398 t402 t403 t404 _ ?side1 ?side2 A6.out).mono ?_); (case side1 => refine (Kd.R_reads' (e := 2) (base := w.heap.size) (ok := fun k_ => True) (n := t398.length) (c := co18) ?_).2.2; exact (by (with_reducible repeat (first | apply Kd.R_alloc | apply Kd.R_drewN | apply Kd.R_drew)); exact (Kd.R_mono (Kd.R_far (p := ⟨gb401, 1, none⟩) (Kd.R_far (p := ⟨gb401, 0, none⟩) (Kd.R_types HO400.out BK401.out (by decide)) (fun _ hk => hk.2) (.int .i64 t397)) (fun _ hk => hk.2) (.slice Ao18 t398.length co18)) (fun _ h_ => h_.1)))); (case side2 => exact (Kd.R_reads' HO400.out).2.1); rintro e w19 ⟨rfl, hb⟩; have n0_ := Aside0.mk (Kd.R_below (by (with_reducible repeat (first | apply Kd.R_alloc | apply Kd.R_drewN | apply Kd.R_drew)); exact (Kd.R_mono (Kd.R_far (p := ⟨gb401, 1, none⟩) (Kd.R_far (p := ⟨gb401, 0, none⟩) (Kd.R_types HO400.out BK401.out (by decide)) (fun _ hk => hk.2) (.int .i64 t397)) (fun _ hk => hk.2) (.slice Ao18 t398.length co18)) (fun _ h_ => h_.1))) hb); have n1_ := Aside0.mk (blk_below (g := gb401) (o := .cells #[.int .i64 t397, .slice Ao18 t398.length co18] 27 (0, 0)) (by (with_reducible repeat (first | refine blk_drewN ?_ _ | refine blk_drew ?_ | refine blk_alloc ?_ _)); refine blk_put (cs := #[.int .i64 t397, .slice none 0 0]) ?_ 1 _ rfl; (with_reducible repeat (first | refine blk_drewN ?_ _ | refine blk_drew ?_ | refine blk_alloc ?_ _)); refine blk_put (cs := #[.int .i64 0, .slice none 0 0]) ?_ 0 _ rfl; (with_reducible repeat (first | refine blk_drewN ?_ _ | refine blk_drew ?_ | refine blk_alloc ?_ _)); exact BK401.out) hb); have n2_ := Aside0.mk (below_step (by repeat (first | (with_reducible first | exact HB.out | apply below_alloc | apply pw_below_drewN | apply below_drew1 | refine below_set ?_ GE401.out) | exact HB.out)) hb); clear HO400; clear BK401; clear HB; have HO400 := n0_; have BK401 := n1_; have HB := n2_; clear n0_ n1_ n2_; (try clear hb); (try clear hb2); (try clear hk); (try clear hi); have hcz20_0 : w19.cell? ⟨gb401, 0, none⟩ = some (.int .i64 t397) := (blk_cell BK401.out 0).trans rfl; have hcz20_1 : w19.cell? ⟨gb401, 1, none⟩ = some (.slice Ao18 t398.length co18) := (blk_cell BK401.out 1).trans rfl; have hfz20_0 := blk_frozen BK401.out 0; have hfz20_1 := blk_frozen BK401.out 1) | (go_at_call 37; (with_reducible refine (impl_ImbalancesOf.calls k t397 _ _ t398 t403 t405 t408 _ ?side1 ?side2 A7.out).mono ?_); (case side1 => repeat (first | exact (Kd.R_reads' HO400.out).2.2 | (with_reducible refine Kd.C_alloc ?_ _) | (with_reducible refine Kd.C_drewN ?_ _) | (with_reducible refine Kd.C_drew ?_))); (case side2 => exact (Kd.R_reads' HO400.out).2.1); rintro e w21 ⟨v406, rfl, ho0, hb⟩; have n0_ := Aside0.mk (Kd.R_elder' (by (with_reducible repeat (first | apply Kd.R_alloc | apply Kd.R_drewN | apply Kd.R_drew)); exact HO400.out) (Kd.R_base ho0) hb); have n1_ := Aside0.mk (Kd.R_lower (Kd.R_new' ho0 (Kd.R_lt (by (with_reducible repeat (first | apply Kd.R_alloc | apply Kd.R_drewN | apply Kd.R_drew)); exact HO400.out))) (below_size (by repeat (first | (with_reducible first | exact HB.out | apply below_alloc | apply pw_below_drewN | apply below_drew1 | refine below_set ?_ GE401.out) | exact HB.out)))); have n2_ := Aside0.mk (blk_below (g := gb401) (o := .cells #[.int .i64 t397, .slice Ao18 t398.length co18] 27 (0, 0)) (by (with_reducible repeat (first | refine blk_drewN ?_ _ | refine blk_drew ?_ | refine blk_alloc ?_ _)); exact BK401.out) hb); have n3_ := Aside0.mk (below_step (by repeat (first | (with_reducible first | exact HB.out | apply below_alloc | apply pw_below_drewN | apply below_drew1 | refine below_set ?_ GE401.out) | exact HB.out)) hb); clear HO400; clear BK401; clear HB; have HO400 := n0_; have HO407 := n1_; have BK401 := n2_; have HB := n3_; clear n0_ n1_ n2_ n3_; (try clear hb); (try clear hb2); (try clear hk); (try clear hi); (try clear ho0); have hcz22_0 : w21.cell? ⟨gb401, 0, none⟩ = some (.int .i64 t397) := (blk_cell BK401.out 0).trans rfl; have hcz22_1 : w21.cell? ⟨gb401, 1, none⟩ = some (.slice Ao18 t398.length co18) := (blk_cell BK401.out 1).trans rfl; have hfz22_0 := blk_frozen BK401.out 0; have hfz22_1 := blk_frozen BK401.out 1) | (go_at_call 38; (with_reducible refine (laws_r8At.calls _ _ l1 0 (wrap64 ((wrap64 ((ji10) - 1)) + 1)) t409 _ ?side1 ?side2 A11.out).mono ?_); (case side1 => repeat (first | exact (Kd.C_below HR1.out HB.out) | (with_reducible refine Kd.C_alloc ?_ _) | (with_reducible refine Kd.C_drewN ?_ _) | (with_reducible refine Kd.C_drew ?_))); (case side2 => exact HC1.out); rintro e w' ⟨rfl, ⟨nd, rfl⟩⟩; (try first | exact ⟨rfl, _, World.drewN_drewN _ _ _⟩ | exact ⟨rfl, _, Eq.trans (World.drewN_drewN _ _ _) (congrArg (World.drewN _) (Nat.add_assoc _ _ _))⟩)) | (go_at_call 37; (with_reducible refine (impl_ImbalancesOf.calls k t397 _ _ t398 t409 t410 t413 _ ?side1 ?side2 A12.out).mono ?_); (case side1 => repeat (first | exact (Kd.R_reads' HO400.out).2.2 | (with_reducible refine Kd.C_alloc ?_ _) | (with_reducible refine Kd.C_drewN ?_ _) | (with_reducible refine Kd.C_drew ?_))); (case side2 => exact (Kd.R_reads' HO400.out).2.1); rintro e w23 ⟨v411, rfl, ho0, hb⟩; have n0_ := Aside0.mk (Kd.R_elder' (by (with_reducible repeat (first | apply Kd.R_alloc | apply Kd.R_drewN | apply Kd.R_drew)); exact HO400.out) (Kd.R_base ho0) hb); have n1_ := Aside0.mk (Kd.R_elder' (by (with_reducible repeat (first | apply Kd.R_alloc | apply Kd.R_drewN | apply Kd.R_drew)); exact HO407.out) (Kd.R_base ho0) hb); have n2_ := Aside0.mk (Kd.R_lower (Kd.R_new' (Kd.R_new' ho0 (Kd.R_lt (by (with_reducible repeat (first | apply Kd.R_alloc | apply Kd.R_drewN | apply Kd.R_drew)); exact HO400.out))) (Kd.R_lt (by (with_reducible repeat (first | apply Kd.R_alloc | apply Kd.R_drewN | apply Kd.R_drew)); exact HO407.out))) (below_size (by repeat (first | (with_reducible first | exact HB.out | apply below_alloc | apply pw_below_drewN | apply below_drew1 | refine below_set ?_ GE401.out) | exact HB.out)))); have n3_ := Aside0.mk (blk_below (g := gb401) (o := .cells #[.int .i64 t397, .slice Ao18 t398.length co18] 27 (0, 0)) (by (with_reducible repeat (first | refine blk_drewN ?_ _ | refine blk_drew ?_ | refine blk_alloc ?_ _)); exact BK401.out) hb); have n4_ := Aside0.mk (below_step (by repeat (first | (with_reducible first | exact HB.out | apply below_alloc | apply pw_below_drewN | apply below_drew1 | refine below_set ?_ GE401.out) | exact HB.out)) hb); clear HO400; clear HO407; clear BK401; clear HB; have HO400 := n0_; have HO407 := n1_; have HO412 := n2_; have BK401 := n3_; have HB := n4_; clear n0_ n1_ n2_ n3_ n4_; (try clear hb); (try clear hb2); (try clear hk); (try clear hi); (try clear ho0); have hcz24_0 : w23.cell? ⟨gb401, 0, none⟩ = some (.int .i64 t397) := (blk_cell BK401.out 0).trans rfl; have hcz24_1 : w23.cell? ⟨gb401, 1, none⟩ = some (.slice Ao18 t398.length co18) := (blk_cell BK401.out 1).trans rfl; have hfz24_0 := blk_frozen BK401.out 0; have hfz24_1 := blk_frozen BK401.out 1) | (go_at_call 37; (with_reducible refine (impl_ImbalancesOf.calls k t397 _ _ t398 (Go.bits .xor .i64 (wrap64 ((ji10) - 1)) t409) t414 t417 _ ?side1 ?side2 A13.out).mono ?_); (case side1 => repeat (first | exact (Kd.R_reads' HO400.out).2.2 | (with_reducible refine Kd.C_alloc ?_ _) | (with_reducible refine Kd.C_drewN ?_ _) | (with_reducible refine Kd.C_drew ?_))); (case side2 => exact (Kd.R_reads' HO400.out).2.1); rintro e w25 ⟨v415, rfl, ho0, hb⟩; have n0_ := Aside0.mk (Kd.R_elder' (by (with_reducible repeat (first | apply Kd.R_alloc | apply Kd.R_drewN | apply Kd.R_drew)); exact HO400.out) (Kd.R_base ho0) hb); have n1_ := Aside0.mk (Kd.R_elder' (by (with_reducible repeat (first | apply Kd.R_alloc | apply Kd.R_drewN | apply Kd.R_drew)); exact HO407.out) (Kd.R_base ho0) hb); have n2_ := Aside0.mk (Kd.R_elder' (by (with_reducible repeat (first | apply Kd.R_alloc | apply Kd.R_drewN | apply Kd.R_drew)); exact HO412.out) (Kd.R_base ho0) hb); have n3_ := Aside0.mk (Kd.R_lower (Kd.R_new' (Kd.R_new' (Kd.R_new' ho0 (Kd.R_lt (by (with_reducible repeat (first | apply Kd.R_alloc | apply Kd.R_drewN | apply Kd.R_drew)); exact HO400.out))) (Kd.R_lt (by (with_reducible repeat (first | apply Kd.R_alloc | apply Kd.R_drewN | apply Kd.R_drew)); exact HO407.out))) (Kd.R_lt (by (with_reducible repeat (first | apply Kd.R_alloc | apply Kd.R_drewN | apply Kd.R_drew)); exact HO412.out))) (below_size (by repeat (first | (with_reducible first | exact HB.out | apply below_alloc | apply pw_below_drewN | apply below_drew1 | refine below_set ?_ GE401.out) | exact HB.out)))); have n4_ := Aside0.mk (blk_below (g := gb401) (o := .cells #[.int .i64 t397, .slice Ao18 t398.length co18] 27 (0, 0)) (by (with_reducible repeat (first | refine blk_drewN ?_ _ | refine blk_drew ?_ | refine blk_alloc ?_ _)); exact BK401.out) hb); have n5_ := Aside0.mk (below_step (by repeat (first | (with_reducible first | exact HB.out | apply below_alloc | apply pw_below_drewN | apply below_drew1 | refine below_set ?_ GE401.out) | exact HB.out)) hb); clear HO400; clear HO407; clear HO412; clear BK401; clear HB; have HO400 := n0_; have HO407 := n1_; have HO412 := n2_; have HO416 := n3_; have BK401 := n4_; have HB := n5_; clear n0_ n1_ n2_ n3_ n4_ n5_; (try clear hb); (try clear hb2); (try clear hk); (try clear hi); (try clear ho0))))
      (try simp only [Act.put, List.setIfInBounds_toArray, List.set_cons_zero, List.set_cons_succ])
      go_cut [112] (fun v112 wc => ∃ (kq : Nat) (x112_13 : Bool), v112 = .bool x112_13 ∧ Aside0 (laws_FnColoured.j0 kq (wrap64 ((ji10) - 1)) t410 t414 x112_13 t397 t398 = some r) ∧ Aside0 (kq ≤ k) ∧ Aside0 (Kd.R (Kd.int .i64) 2 wc w.heap.size (fun k_ => some k_ ≠ (v415 : Value).ownBlock ∧ some k_ ≠ ((.slice Ao18 t398.length co18) : Value).ownBlock) v411 t410) ∧ Aside0 (Kd.R (Kd.int .i64) 2 wc w.heap.size (fun k_ => some k_ ≠ (v411 : Value).ownBlock ∧ some k_ ≠ ((.slice Ao18 t398.length co18) : Value).ownBlock) v415 t414) ∧ Aside0 (Kd.R (Kd.int .i64) 2 wc w.heap.size (fun k_ => some k_ ≠ (v411 : Value).ownBlock ∧ some k_ ≠ (v415 : Value).ownBlock) (.slice Ao18 t398.length co18) t398) ∧ Aside0 (wc.heap[gb401]? = some (.cells #[.int .i64 t397, (.slice Ao18 t398.length co18)] 27 (0, 0))) ∧ Aside0 (Below w.heap.size w wc))
      case first =>
        have H := HC14.out
        clear HC14
        by_cases c26 : t404 = true
        · subst c26
          have H1 : (if t408 = true then (if t413 = true then (if t417 = true then (if (t405.length : Int) = (t398.length : Int) then (if (t410.length : Int) = (t398.length : Int) then (if (t414.length : Int) = (t398.length : Int) then ((laws_r8Greatest.f k t405).bind fun t418 => (if t418 = t402 then ((laws_r8Greatest.f k t410).bind fun t419 => (laws_FnColoured.j0 k (wrap64 ((ji10) - 1)) t410 t414 (decide (t419 < t402)) t397 t398)) else (laws_FnColoured.j0 k (wrap64 ((ji10) - 1)) t410 t414 true t397 t398))) else (laws_FnColoured.j0 k (wrap64 ((ji10) - 1)) t410 t414 true t397 t398)) else (laws_FnColoured.j0 k (wrap64 ((ji10) - 1)) t410 t414 true t397 t398)) else (laws_FnColoured.j0 k (wrap64 ((ji10) - 1)) t410 t414 true t397 t398)) else (laws_FnColoured.j0 k (wrap64 ((ji10) - 1)) t410 t414 true t397 t398)) else (laws_FnColoured.j0 k (wrap64 ((ji10) - 1)) t410 t414 true t397 t398)) else (laws_FnColoured.j0 k (wrap64 ((ji10) - 1)) t410 t414 true t397 t398)) = some r := by rw [if_pos rfl] at H; exact H
          clear H
          have H := H1
          clear H1
          by_cases c27 : t408 = true
          · subst c27
            have H1 : (if t413 = true then (if t417 = true then (if (t405.length : Int) = (t398.length : Int) then (if (t410.length : Int) = (t398.length : Int) then (if (t414.length : Int) = (t398.length : Int) then ((laws_r8Greatest.f k t405).bind fun t418 => (if t418 = t402 then ((laws_r8Greatest.f k t410).bind fun t419 => (laws_FnColoured.j0 k (wrap64 ((ji10) - 1)) t410 t414 (decide (t419 < t402)) t397 t398)) else (laws_FnColoured.j0 k (wrap64 ((ji10) - 1)) t410 t414 true t397 t398))) else (laws_FnColoured.j0 k (wrap64 ((ji10) - 1)) t410 t414 true t397 t398)) else (laws_FnColoured.j0 k (wrap64 ((ji10) - 1)) t410 t414 true t397 t398)) else (laws_FnColoured.j0 k (wrap64 ((ji10) - 1)) t410 t414 true t397 t398)) else (laws_FnColoured.j0 k (wrap64 ((ji10) - 1)) t410 t414 true t397 t398)) else (laws_FnColoured.j0 k (wrap64 ((ji10) - 1)) t410 t414 true t397 t398)) = some r := by rw [if_pos rfl] at H; exact H
            clear H
            have H := H1
            clear H1
            by_cases c28 : t413 = true
            · subst c28
              have H1 : (if t417 = true then (if (t405.length : Int) = (t398.length : Int) then (if (t410.length : Int) = (t398.length : Int) then (if (t414.length : Int) = (t398.length : Int) then ((laws_r8Greatest.f k t405).bind fun t418 => (if t418 = t402 then ((laws_r8Greatest.f k t410).bind fun t419 => (laws_FnColoured.j0 k (wrap64 ((ji10) - 1)) t410 t414 (decide (t419 < t402)) t397 t398)) else (laws_FnColoured.j0 k (wrap64 ((ji10) - 1)) t410 t414 true t397 t398))) else (laws_FnColoured.j0 k (wrap64 ((ji10) - 1)) t410 t414 true t397 t398)) else (laws_FnColoured.j0 k (wrap64 ((ji10) - 1)) t410 t414 true t397 t398)) else (laws_FnColoured.j0 k (wrap64 ((ji10) - 1)) t410 t414 true t397 t398)) else (laws_FnColoured.j0 k (wrap64 ((ji10) - 1)) t410 t414 true t397 t398)) = some r := by rw [if_pos rfl] at H; exact H
              clear H
              have H := H1
              clear H1
              by_cases c29 : t417 = true
              · subst c29
                have H1 : (if (t405.length : Int) = (t398.length : Int) then (if (t410.length : Int) = (t398.length : Int) then (if (t414.length : Int) = (t398.length : Int) then ((laws_r8Greatest.f k t405).bind fun t418 => (if t418 = t402 then ((laws_r8Greatest.f k t410).bind fun t419 => (laws_FnColoured.j0 k (wrap64 ((ji10) - 1)) t410 t414 (decide (t419 < t402)) t397 t398)) else (laws_FnColoured.j0 k (wrap64 ((ji10) - 1)) t410 t414 true t397 t398))) else (laws_FnColoured.j0 k (wrap64 ((ji10) - 1)) t410 t414 true t397 t398)) else (laws_FnColoured.j0 k (wrap64 ((ji10) - 1)) t410 t414 true t397 t398)) else (laws_FnColoured.j0 k (wrap64 ((ji10) - 1)) t410 t414 true t397 t398)) = some r := by rw [if_pos rfl] at H; exact H
                clear H
                have H := H1
                clear H1
                by_cases c30 : (t405.length : Int) = (t398.length : Int)
                · rw [if_pos c30] at H
                  have c30b0 : ((t405.length : Int) == (t398.length : Int)) = true := beq_iff_eq.mpr c30
                  have c30b1 : ((t405.length : Int) != (t398.length : Int)) = false := bne_eq_false_iff_eq.mpr c30
                  have c30b2 : (t405.length == t398.length) = true := by first | simpa using c30 | (simp at c30 ⊢; omega)
                  clear c30
                  (first | rw [c30b0] | (simp only [i64_w, i32_w]; rw [c30b0]) | skip)
                  by_cases c31 : (t410.length : Int) = (t398.length : Int)
                  · rw [if_pos c31] at H
                    have c31b0 : ((t410.length : Int) == (t398.length : Int)) = true := beq_iff_eq.mpr c31
                    have c31b1 : ((t410.length : Int) != (t398.length : Int)) = false := bne_eq_false_iff_eq.mpr c31
                    have c31b2 : (t410.length == t398.length) = true := by first | simpa using c31 | (simp at c31 ⊢; omega)
                    clear c31
                    by_cases c32 : (t414.length : Int) = (t398.length : Int)
                    · rw [if_pos c32] at H
                      have c32b0 : ((t414.length : Int) == (t398.length : Int)) = true := beq_iff_eq.mpr c32
                      have c32b1 : ((t414.length : Int) != (t398.length : Int)) = false := bne_eq_false_iff_eq.mpr c32
                      have c32b2 : (t414.length == t398.length) = true := by first | simpa using c32 | (simp at c32 ⊢; omega)
                      clear c32
                      replace H := Option.bind_eq_some_iff.mp H
                      obtain ⟨t418, A330, H⟩ := H
                      replace H : (if t418 = t402 then ((laws_r8Greatest.f k t410).bind fun t419 => (laws_FnColoured.j0 k (wrap64 ((ji10) - 1)) t410 t414 (decide (t419 < t402)) t397 t398)) else (laws_FnColoured.j0 k (wrap64 ((ji10) - 1)) t410 t414 true t397 t398)) = some r := H
                      have A33 := Aside0.mk A330
                      clear A330
                      by_cases c34 : t418 = t402
                      · rw [if_pos c34] at H
                        have c34b0 : (t418 == t402) = true := beq_iff_eq.mpr c34
                        have c34b1 : (t418 != t402) = false := bne_eq_false_iff_eq.mpr c34
                        clear c34
                        replace H := Option.bind_eq_some_iff.mp H
                        obtain ⟨t419, A350, H⟩ := H
                        replace H : (laws_FnColoured.j0 k (wrap64 ((ji10) - 1)) t410 t414 (decide (t419 < t402)) t397 t398) = some r := H
                        have A35 := Aside0.mk A350
                        clear A350
                        have H' := Aside0.mk H
                        clear H
                        obtain ⟨Ao36, co36, eo36⟩ := Kd.R_slice HO407.out
                        subst eo36
                        have hcz37_0 : w25.cell? ⟨gb401, 0, none⟩ = some (.int .i64 t397) := (blk_cell BK401.out 0).trans rfl
                        have hcz37_1 : w25.cell? ⟨gb401, 1, none⟩ = some (.slice Ao18 t398.length co18) := (blk_cell BK401.out 1).trans rfl
                        have hfz37_0 := blk_frozen BK401.out 0
                        have hfz37_1 := blk_frozen BK401.out 1
                        obtain ⟨Ao38, co38, eo38⟩ := Kd.R_slice HO412.out
                        subst eo38
                        obtain ⟨Ao39, co39, eo39⟩ := Kd.R_slice HO416.out
                        subst eo39
                        go_wp2_with (first | (go_at_call 39; (with_reducible refine (laws_r8Greatest.calls k _ _ t405 t418 _ ?side1 ?side2 A33.out).mono ?_); (case side1 => repeat (first | exact (Kd.R_reads' HO407.out).2.2 | (with_reducible refine Kd.C_alloc ?_ _) | (with_reducible refine Kd.C_drewN ?_ _) | (with_reducible refine Kd.C_drew ?_))); (case side2 => exact (Kd.R_reads' HO407.out).2.1); rintro e w' ⟨rfl, ⟨nd, rfl⟩⟩; (try first | exact ⟨rfl, _, World.drewN_drewN _ _ _⟩ | exact ⟨rfl, _, Eq.trans (World.drewN_drewN _ _ _) (congrArg (World.drewN _) (Nat.add_assoc _ _ _))⟩)) | (go_at_call 39; (with_reducible refine (laws_r8Greatest.calls k _ _ t410 t419 _ ?side1 ?side2 A35.out).mono ?_); (case side1 => repeat (first | exact (Kd.R_reads' HO412.out).2.2 | (with_reducible refine Kd.C_alloc ?_ _) | (with_reducible refine Kd.C_drewN ?_ _) | (with_reducible refine Kd.C_drew ?_))); (case side2 => exact (Kd.R_reads' HO412.out).2.1); rintro e w' ⟨rfl, ⟨nd, rfl⟩⟩; (try first | exact ⟨rfl, _, World.drewN_drewN _ _ _⟩ | exact ⟨rfl, _, Eq.trans (World.drewN_drewN _ _ _) (congrArg (World.drewN _) (Nat.add_assoc _ _ _))⟩)))
                        repeat (go_quiet (first | (go_at_call 39; (with_reducible refine (laws_r8Greatest.calls k _ _ t405 t418 _ ?side1 ?side2 A33.out).mono ?_); (case side1 => repeat (first | exact (Kd.R_reads' HO407.out).2.2 | (with_reducible refine Kd.C_alloc ?_ _) | (with_reducible refine Kd.C_drewN ?_ _) | (with_reducible refine Kd.C_drew ?_))); (case side2 => exact (Kd.R_reads' HO407.out).2.1); rintro e w' ⟨rfl, ⟨nd, rfl⟩⟩; (try first | exact ⟨rfl, _, World.drewN_drewN _ _ _⟩ | exact ⟨rfl, _, Eq.trans (World.drewN_drewN _ _ _) (congrArg (World.drewN _) (Nat.add_assoc _ _ _))⟩)) | (go_at_call 39; (with_reducible refine (laws_r8Greatest.calls k _ _ t410 t419 _ ?side1 ?side2 A35.out).mono ?_); (case side1 => repeat (first | exact (Kd.R_reads' HO412.out).2.2 | (with_reducible refine Kd.C_alloc ?_ _) | (with_reducible refine Kd.C_drewN ?_ _) | (with_reducible refine Kd.C_drew ?_))); (case side2 => exact (Kd.R_reads' HO412.out).2.1); rintro e w' ⟨rfl, ⟨nd, rfl⟩⟩; (try first | exact ⟨rfl, _, World.drewN_drewN _ _ _⟩ | exact ⟨rfl, _, Eq.trans (World.drewN_drewN _ _ _) (congrArg (World.drewN _) (Nat.add_assoc _ _ _))⟩))); try go_wp2_with (first | (go_at_call 39; (with_reducible refine (laws_r8Greatest.calls k _ _ t405 t418 _ ?side1 ?side2 A33.out).mono ?_); (case side1 => repeat (first | exact (Kd.R_reads' HO407.out).2.2 | (with_reducible refine Kd.C_alloc ?_ _) | (with_reducible refine Kd.C_drewN ?_ _) | (with_reducible refine Kd.C_drew ?_))); (case side2 => exact (Kd.R_reads' HO407.out).2.1); rintro e w' ⟨rfl, ⟨nd, rfl⟩⟩; (try first | exact ⟨rfl, _, World.drewN_drewN _ _ _⟩ | exact ⟨rfl, _, Eq.trans (World.drewN_drewN _ _ _) (congrArg (World.drewN _) (Nat.add_assoc _ _ _))⟩)) | (go_at_call 39; (with_reducible refine (laws_r8Greatest.calls k _ _ t410 t419 _ ?side1 ?side2 A35.out).mono ?_); (case side1 => repeat (first | exact (Kd.R_reads' HO412.out).2.2 | (with_reducible refine Kd.C_alloc ?_ _) | (with_reducible refine Kd.C_drewN ?_ _) | (with_reducible refine Kd.C_drew ?_))); (case side2 => exact (Kd.R_reads' HO412.out).2.1); rintro e w' ⟨rfl, ⟨nd, rfl⟩⟩; (try first | exact ⟨rfl, _, World.drewN_drewN _ _ _⟩ | exact ⟨rfl, _, Eq.trans (World.drewN_drewN _ _ _) (congrArg (World.drewN _) (Nat.add_assoc _ _ _))⟩))))
                        go_meet
                        case rel => exact ⟨_, (decide (t419 < t402)), (by first | rfl | (simp; done) | (simp [*]; done)), H', ⟨by first | omega | exact Nat.le_refl _⟩, ⟨by (with_reducible repeat (first | apply Kd.R_alloc | apply Kd.R_drewN | apply Kd.R_drew)); exact Kd.R_mono HO412.out (fun _ hk => ⟨hk.2, hk.1.1.2⟩)⟩, ⟨by (with_reducible repeat (first | apply Kd.R_alloc | apply Kd.R_drewN | apply Kd.R_drew)); exact Kd.R_mono HO416.out (fun _ hk => ⟨hk.2, hk.1.1.2⟩)⟩, ⟨by (with_reducible repeat (first | apply Kd.R_alloc | apply Kd.R_drewN | apply Kd.R_drew)); exact Kd.R_mono HO400.out (fun _ hk => ⟨hk.1.2, hk.2⟩)⟩, ⟨by (with_reducible repeat (first | refine blk_drewN ?_ _ | refine blk_drew ?_ | refine blk_alloc ?_ _)); exact BK401.out⟩, ⟨by repeat (first | (with_reducible first | exact HB.out | apply below_alloc | apply pw_below_drewN | apply below_drew1 | refine below_set ?_ GE401.out) | exact HB.out)⟩⟩
                      · rw [if_neg c34] at H
                        have c34b0 : (t418 == t402) = false := beq_eq_false_iff_ne.mpr c34
                        have c34b1 : (t418 != t402) = true := bne_iff_ne.mpr c34
                        have H' := Aside0.mk H
                        clear H
                        obtain ⟨Ao40, co40, eo40⟩ := Kd.R_slice HO407.out
                        subst eo40
                        have hcz41_0 : w25.cell? ⟨gb401, 0, none⟩ = some (.int .i64 t397) := (blk_cell BK401.out 0).trans rfl
                        have hcz41_1 : w25.cell? ⟨gb401, 1, none⟩ = some (.slice Ao18 t398.length co18) := (blk_cell BK401.out 1).trans rfl
                        have hfz41_0 := blk_frozen BK401.out 0
                        have hfz41_1 := blk_frozen BK401.out 1
                        obtain ⟨Ao42, co42, eo42⟩ := Kd.R_slice HO412.out
                        subst eo42
                        obtain ⟨Ao43, co43, eo43⟩ := Kd.R_slice HO416.out
                        subst eo43
                        go_wp2_with (first | (go_at_call 39; (with_reducible refine (laws_r8Greatest.calls k _ _ t405 t418 _ ?side1 ?side2 A33.out).mono ?_); (case side1 => repeat (first | exact (Kd.R_reads' HO407.out).2.2 | (with_reducible refine Kd.C_alloc ?_ _) | (with_reducible refine Kd.C_drewN ?_ _) | (with_reducible refine Kd.C_drew ?_))); (case side2 => exact (Kd.R_reads' HO407.out).2.1); rintro e w' ⟨rfl, ⟨nd, rfl⟩⟩; (try first | exact ⟨rfl, _, World.drewN_drewN _ _ _⟩ | exact ⟨rfl, _, Eq.trans (World.drewN_drewN _ _ _) (congrArg (World.drewN _) (Nat.add_assoc _ _ _))⟩)))
                        repeat (go_quiet (first | (go_at_call 39; (with_reducible refine (laws_r8Greatest.calls k _ _ t405 t418 _ ?side1 ?side2 A33.out).mono ?_); (case side1 => repeat (first | exact (Kd.R_reads' HO407.out).2.2 | (with_reducible refine Kd.C_alloc ?_ _) | (with_reducible refine Kd.C_drewN ?_ _) | (with_reducible refine Kd.C_drew ?_))); (case side2 => exact (Kd.R_reads' HO407.out).2.1); rintro e w' ⟨rfl, ⟨nd, rfl⟩⟩; (try first | exact ⟨rfl, _, World.drewN_drewN _ _ _⟩ | exact ⟨rfl, _, Eq.trans (World.drewN_drewN _ _ _) (congrArg (World.drewN _) (Nat.add_assoc _ _ _))⟩))); try go_wp2_with (first | (go_at_call 39; (with_reducible refine (laws_r8Greatest.calls k _ _ t405 t418 _ ?side1 ?side2 A33.out).mono ?_); (case side1 => repeat (first | exact (Kd.R_reads' HO407.out).2.2 | (with_reducible refine Kd.C_alloc ?_ _) | (with_reducible refine Kd.C_drewN ?_ _) | (with_reducible refine Kd.C_drew ?_))); (case side2 => exact (Kd.R_reads' HO407.out).2.1); rintro e w' ⟨rfl, ⟨nd, rfl⟩⟩; (try first | exact ⟨rfl, _, World.drewN_drewN _ _ _⟩ | exact ⟨rfl, _, Eq.trans (World.drewN_drewN _ _ _) (congrArg (World.drewN _) (Nat.add_assoc _ _ _))⟩))))
                        go_meet
                        case rel => exact ⟨_, (true), (by first | rfl | (simp; done) | (simp [*]; done)), H', ⟨by first | omega | exact Nat.le_refl _⟩, ⟨by (with_reducible repeat (first | apply Kd.R_alloc | apply Kd.R_drewN | apply Kd.R_drew)); exact Kd.R_mono HO412.out (fun _ hk => ⟨hk.2, hk.1.1.2⟩)⟩, ⟨by (with_reducible repeat (first | apply Kd.R_alloc | apply Kd.R_drewN | apply Kd.R_drew)); exact Kd.R_mono HO416.out (fun _ hk => ⟨hk.2, hk.1.1.2⟩)⟩, ⟨by (with_reducible repeat (first | apply Kd.R_alloc | apply Kd.R_drewN | apply Kd.R_drew)); exact Kd.R_mono HO400.out (fun _ hk => ⟨hk.1.2, hk.2⟩)⟩, ⟨by (with_reducible repeat (first | refine blk_drewN ?_ _ | refine blk_drew ?_ | refine blk_alloc ?_ _)); exact BK401.out⟩, ⟨by repeat (first | (with_reducible first | exact HB.out | apply below_alloc | apply pw_below_drewN | apply below_drew1 | refine below_set ?_ GE401.out) | exact HB.out)⟩⟩
                    · rw [if_neg c32] at H
                      have c32b0 : ((t414.length : Int) == (t398.length : Int)) = false := beq_eq_false_iff_ne.mpr c32
                      have c32b1 : ((t414.length : Int) != (t398.length : Int)) = true := bne_iff_ne.mpr c32
                      have c32b2 : (t414.length == t398.length) = false := by first | simpa using c32 | (simp at c32 ⊢; omega)
                      have H' := Aside0.mk H
                      clear H
                      obtain ⟨Ao44, co44, eo44⟩ := Kd.R_slice HO407.out
                      subst eo44
                      have hcz45_0 : w25.cell? ⟨gb401, 0, none⟩ = some (.int .i64 t397) := (blk_cell BK401.out 0).trans rfl
                      have hcz45_1 : w25.cell? ⟨gb401, 1, none⟩ = some (.slice Ao18 t398.length co18) := (blk_cell BK401.out 1).trans rfl
                      have hfz45_0 := blk_frozen BK401.out 0
                      have hfz45_1 := blk_frozen BK401.out 1
                      obtain ⟨Ao46, co46, eo46⟩ := Kd.R_slice HO412.out
                      subst eo46
                      obtain ⟨Ao47, co47, eo47⟩ := Kd.R_slice HO416.out
                      subst eo47
                      go_wp2
                      repeat (go_quiet (fail); try go_wp2)
                      go_meet
                      case rel => exact ⟨_, (true), (by first | rfl | (simp; done) | (simp [*]; done)), H', ⟨by first | omega | exact Nat.le_refl _⟩, ⟨by (with_reducible repeat (first | apply Kd.R_alloc | apply Kd.R_drewN | apply Kd.R_drew)); exact Kd.R_mono HO412.out (fun _ hk => ⟨hk.2, hk.1.1.2⟩)⟩, ⟨by (with_reducible repeat (first | apply Kd.R_alloc | apply Kd.R_drewN | apply Kd.R_drew)); exact Kd.R_mono HO416.out (fun _ hk => ⟨hk.2, hk.1.1.2⟩)⟩, ⟨by (with_reducible repeat (first | apply Kd.R_alloc | apply Kd.R_drewN | apply Kd.R_drew)); exact Kd.R_mono HO400.out (fun _ hk => ⟨hk.1.2, hk.2⟩)⟩, ⟨by (with_reducible repeat (first | refine blk_drewN ?_ _ | refine blk_drew ?_ | refine blk_alloc ?_ _)); exact BK401.out⟩, ⟨by repeat (first | (with_reducible first | exact HB.out | apply below_alloc | apply pw_below_drewN | apply below_drew1 | refine below_set ?_ GE401.out) | exact HB.out)⟩⟩
                  · rw [if_neg c31] at H
                    have c31b0 : ((t410.length : Int) == (t398.length : Int)) = false := beq_eq_false_iff_ne.mpr c31
                    have c31b1 : ((t410.length : Int) != (t398.length : Int)) = true := bne_iff_ne.mpr c31
                    have c31b2 : (t410.length == t398.length) = false := by first | simpa using c31 | (simp at c31 ⊢; omega)
                    have H' := Aside0.mk H
                    clear H
                    obtain ⟨Ao48, co48, eo48⟩ := Kd.R_slice HO407.out
                    subst eo48
                    have hcz49_0 : w25.cell? ⟨gb401, 0, none⟩ = some (.int .i64 t397) := (blk_cell BK401.out 0).trans rfl
                    have hcz49_1 : w25.cell? ⟨gb401, 1, none⟩ = some (.slice Ao18 t398.length co18) := (blk_cell BK401.out 1).trans rfl
                    have hfz49_0 := blk_frozen BK401.out 0
                    have hfz49_1 := blk_frozen BK401.out 1
                    obtain ⟨Ao50, co50, eo50⟩ := Kd.R_slice HO412.out
                    subst eo50
                    go_wp2
                    repeat (go_quiet (fail); try go_wp2)
                    go_meet
                    case rel => exact ⟨_, (true), (by first | rfl | (simp; done) | (simp [*]; done)), H', ⟨by first | omega | exact Nat.le_refl _⟩, ⟨by (with_reducible repeat (first | apply Kd.R_alloc | apply Kd.R_drewN | apply Kd.R_drew)); exact Kd.R_mono HO412.out (fun _ hk => ⟨hk.2, hk.1.1.2⟩)⟩, ⟨by (with_reducible repeat (first | apply Kd.R_alloc | apply Kd.R_drewN | apply Kd.R_drew)); exact Kd.R_mono HO416.out (fun _ hk => ⟨hk.2, hk.1.1.2⟩)⟩, ⟨by (with_reducible repeat (first | apply Kd.R_alloc | apply Kd.R_drewN | apply Kd.R_drew)); exact Kd.R_mono HO400.out (fun _ hk => ⟨hk.1.2, hk.2⟩)⟩, ⟨by (with_reducible repeat (first | refine blk_drewN ?_ _ | refine blk_drew ?_ | refine blk_alloc ?_ _)); exact BK401.out⟩, ⟨by repeat (first | (with_reducible first | exact HB.out | apply below_alloc | apply pw_below_drewN | apply below_drew1 | refine below_set ?_ GE401.out) | exact HB.out)⟩⟩
                · rw [if_neg c30] at H
                  have c30b0 : ((t405.length : Int) == (t398.length : Int)) = false := beq_eq_false_iff_ne.mpr c30
                  have c30b1 : ((t405.length : Int) != (t398.length : Int)) = true := bne_iff_ne.mpr c30
                  have c30b2 : (t405.length == t398.length) = false := by first | simpa using c30 | (simp at c30 ⊢; omega)
                  (first | rw [c30b0] | (simp only [i64_w, i32_w]; rw [c30b0]) | skip)
                  have H' := Aside0.mk H
                  clear H
                  obtain ⟨Ao51, co51, eo51⟩ := Kd.R_slice HO407.out
                  subst eo51
                  have hcz52_0 : w25.cell? ⟨gb401, 0, none⟩ = some (.int .i64 t397) := (blk_cell BK401.out 0).trans rfl
                  have hcz52_1 : w25.cell? ⟨gb401, 1, none⟩ = some (.slice Ao18 t398.length co18) := (blk_cell BK401.out 1).trans rfl
                  have hfz52_0 := blk_frozen BK401.out 0
                  have hfz52_1 := blk_frozen BK401.out 1
                  go_wp2
                  repeat (go_quiet (fail); try go_wp2)
                  go_meet
                  case rel => exact ⟨_, (true), (by first | rfl | (simp; done) | (simp [*]; done)), H', ⟨by first | omega | exact Nat.le_refl _⟩, ⟨by (with_reducible repeat (first | apply Kd.R_alloc | apply Kd.R_drewN | apply Kd.R_drew)); exact Kd.R_mono HO412.out (fun _ hk => ⟨hk.2, hk.1.1.2⟩)⟩, ⟨by (with_reducible repeat (first | apply Kd.R_alloc | apply Kd.R_drewN | apply Kd.R_drew)); exact Kd.R_mono HO416.out (fun _ hk => ⟨hk.2, hk.1.1.2⟩)⟩, ⟨by (with_reducible repeat (first | apply Kd.R_alloc | apply Kd.R_drewN | apply Kd.R_drew)); exact Kd.R_mono HO400.out (fun _ hk => ⟨hk.1.2, hk.2⟩)⟩, ⟨by (with_reducible repeat (first | refine blk_drewN ?_ _ | refine blk_drew ?_ | refine blk_alloc ?_ _)); exact BK401.out⟩, ⟨by repeat (first | (with_reducible first | exact HB.out | apply below_alloc | apply pw_below_drewN | apply below_drew1 | refine below_set ?_ GE401.out) | exact HB.out)⟩⟩
              · replace c29 := Bool.eq_false_iff.mpr c29
                subst c29
                have H1 : (laws_FnColoured.j0 k (wrap64 ((ji10) - 1)) t410 t414 true t397 t398) = some r := by rw [if_neg (show ¬ (false = true) by decide)] at H; exact H
                clear H
                have H := H1
                clear H1
                have H' := Aside0.mk H
                clear H
                go_wp2
                repeat (go_quiet (fail); try go_wp2)
                go_meet
                case rel => exact ⟨_, (true), (by first | rfl | (simp; done) | (simp [*]; done)), H', ⟨by first | omega | exact Nat.le_refl _⟩, ⟨by (with_reducible repeat (first | apply Kd.R_alloc | apply Kd.R_drewN | apply Kd.R_drew)); exact Kd.R_mono HO412.out (fun _ hk => ⟨hk.2, hk.1.1.2⟩)⟩, ⟨by (with_reducible repeat (first | apply Kd.R_alloc | apply Kd.R_drewN | apply Kd.R_drew)); exact Kd.R_mono HO416.out (fun _ hk => ⟨hk.2, hk.1.1.2⟩)⟩, ⟨by (with_reducible repeat (first | apply Kd.R_alloc | apply Kd.R_drewN | apply Kd.R_drew)); exact Kd.R_mono HO400.out (fun _ hk => ⟨hk.1.2, hk.2⟩)⟩, ⟨by (with_reducible repeat (first | refine blk_drewN ?_ _ | refine blk_drew ?_ | refine blk_alloc ?_ _)); exact BK401.out⟩, ⟨by repeat (first | (with_reducible first | exact HB.out | apply below_alloc | apply pw_below_drewN | apply below_drew1 | refine below_set ?_ GE401.out) | exact HB.out)⟩⟩
            · replace c28 := Bool.eq_false_iff.mpr c28
              subst c28
              have H1 : (laws_FnColoured.j0 k (wrap64 ((ji10) - 1)) t410 t414 true t397 t398) = some r := by rw [if_neg (show ¬ (false = true) by decide)] at H; exact H
              clear H
              have H := H1
              clear H1
              have H' := Aside0.mk H
              clear H
              go_wp2
              repeat (go_quiet (fail); try go_wp2)
              go_meet
              case rel => exact ⟨_, (true), (by first | rfl | (simp; done) | (simp [*]; done)), H', ⟨by first | omega | exact Nat.le_refl _⟩, ⟨by (with_reducible repeat (first | apply Kd.R_alloc | apply Kd.R_drewN | apply Kd.R_drew)); exact Kd.R_mono HO412.out (fun _ hk => ⟨hk.2, hk.1.1.2⟩)⟩, ⟨by (with_reducible repeat (first | apply Kd.R_alloc | apply Kd.R_drewN | apply Kd.R_drew)); exact Kd.R_mono HO416.out (fun _ hk => ⟨hk.2, hk.1.1.2⟩)⟩, ⟨by (with_reducible repeat (first | apply Kd.R_alloc | apply Kd.R_drewN | apply Kd.R_drew)); exact Kd.R_mono HO400.out (fun _ hk => ⟨hk.1.2, hk.2⟩)⟩, ⟨by (with_reducible repeat (first | refine blk_drewN ?_ _ | refine blk_drew ?_ | refine blk_alloc ?_ _)); exact BK401.out⟩, ⟨by repeat (first | (with_reducible first | exact HB.out | apply below_alloc | apply pw_below_drewN | apply below_drew1 | refine below_set ?_ GE401.out) | exact HB.out)⟩⟩
          · replace c27 := Bool.eq_false_iff.mpr c27
            subst c27
            have H1 : (laws_FnColoured.j0 k (wrap64 ((ji10) - 1)) t410 t414 true t397 t398) = some r := by rw [if_neg (show ¬ (false = true) by decide)] at H; exact H
            clear H
            have H := H1
            clear H1
            have H' := Aside0.mk H
            clear H
            go_wp2
            repeat (go_quiet (fail); try go_wp2)
            go_meet
            case rel => exact ⟨_, (true), (by first | rfl | (simp; done) | (simp [*]; done)), H', ⟨by first | omega | exact Nat.le_refl _⟩, ⟨by (with_reducible repeat (first | apply Kd.R_alloc | apply Kd.R_drewN | apply Kd.R_drew)); exact Kd.R_mono HO412.out (fun _ hk => ⟨hk.2, hk.1.1.2⟩)⟩, ⟨by (with_reducible repeat (first | apply Kd.R_alloc | apply Kd.R_drewN | apply Kd.R_drew)); exact Kd.R_mono HO416.out (fun _ hk => ⟨hk.2, hk.1.1.2⟩)⟩, ⟨by (with_reducible repeat (first | apply Kd.R_alloc | apply Kd.R_drewN | apply Kd.R_drew)); exact Kd.R_mono HO400.out (fun _ hk => ⟨hk.1.2, hk.2⟩)⟩, ⟨by (with_reducible repeat (first | refine blk_drewN ?_ _ | refine blk_drew ?_ | refine blk_alloc ?_ _)); exact BK401.out⟩, ⟨by repeat (first | (with_reducible first | exact HB.out | apply below_alloc | apply pw_below_drewN | apply below_drew1 | refine below_set ?_ GE401.out) | exact HB.out)⟩⟩
        · replace c26 := Bool.eq_false_iff.mpr c26
          subst c26
          have H1 : (laws_FnColoured.j0 k (wrap64 ((ji10) - 1)) t410 t414 true t397 t398) = some r := by rw [if_neg (show ¬ (false = true) by decide)] at H; exact H
          clear H
          have H := H1
          clear H1
          have H' := Aside0.mk H
          clear H
          go_wp2
          repeat (go_quiet (fail); try go_wp2)
          go_meet
          case rel => exact ⟨_, (true), (by first | rfl | (simp; done) | (simp [*]; done)), H', ⟨by first | omega | exact Nat.le_refl _⟩, ⟨by (with_reducible repeat (first | apply Kd.R_alloc | apply Kd.R_drewN | apply Kd.R_drew)); exact Kd.R_mono HO412.out (fun _ hk => ⟨hk.2, hk.1.1.2⟩)⟩, ⟨by (with_reducible repeat (first | apply Kd.R_alloc | apply Kd.R_drewN | apply Kd.R_drew)); exact Kd.R_mono HO416.out (fun _ hk => ⟨hk.2, hk.1.1.2⟩)⟩, ⟨by (with_reducible repeat (first | apply Kd.R_alloc | apply Kd.R_drewN | apply Kd.R_drew)); exact Kd.R_mono HO400.out (fun _ hk => ⟨hk.1.2, hk.2⟩)⟩, ⟨by (with_reducible repeat (first | refine blk_drewN ?_ _ | refine blk_drew ?_ | refine blk_alloc ?_ _)); exact BK401.out⟩, ⟨by repeat (first | (with_reducible first | exact HB.out | apply below_alloc | apply pw_below_drewN | apply below_drew1 | refine below_set ?_ GE401.out) | exact HB.out)⟩⟩
      case rest =>
        clear HC14
        try clear c1
        try clear c2
        try clear p2
        try clear c3
        try clear c4
        try clear p6
        try clear c8
        try clear c9
        try clear c9b0
        try clear c9b1
        try clear c26
        try clear c27
        try clear c28
        try clear c29
        try clear c30
        try clear c30b0
        try clear c30b1
        try clear c30b2
        try clear c31
        try clear c31b0
        try clear c31b1
        try clear c31b2
        try clear c32
        try clear c32b0
        try clear c32b1
        try clear c32b2
        try clear c34
        try clear c34b0
        try clear c34b1
        try clear hcz17_0
        try clear hcz17_1
        try clear hcz20_0
        try clear hcz20_1
        try clear hcz22_0
        try clear hcz22_1
        try clear hcz24_0
        try clear hcz24_1
        try clear hcz37_0
        try clear hcz37_1
        try clear hcz41_0
        try clear hcz41_1
        try clear hcz45_0
        try clear hcz45_1
        try clear hcz49_0
        try clear hcz49_1
        try clear hcz52_0
        try clear hcz52_1
        try clear hfz17_0
        try clear hfz17_1
        try clear hfz20_0
        try clear hfz20_1
        try clear hfz22_0
        try clear hfz22_1
        try clear hfz24_0
        try clear hfz24_1
        try clear hfz37_0
        try clear hfz37_1
        try clear hfz41_0
        try clear hfz41_1
        try clear hfz45_0
        try clear hfz45_1
        try clear hfz49_0
        try clear hfz49_1
        try clear hfz52_0
        try clear hfz52_1
        obtain ⟨kq, x112_13, rfl, HA, HJ13, HO_13, HO_15, HO_402001, BK401, HB⟩ := hcut
        cases kq with
        | zero => exact absurd HA.out (by simp [laws_FnColoured.j0])
        | succ kj13 =>
          have H := HA.out
          clear HA
          simp only [laws_FnColoured.j0] at H
          by_cases c53 : x112_13 = true
          · subst c53
            have H1 : (some false) = some r := by rw [if_pos rfl] at H; exact H
            clear H
            have H := H1
            clear H1
            obtain rfl := Option.some.inj H
            go_wp2
            repeat (go_quiet (fail); try go_wp2)
            go_ret
            exact ⟨by first | rfl | (simp [errW_none, errW_some] <;> rfl) | (simp only [← hji8, ← hji10]; first | rfl | (simp [errW_none, errW_some] <;> rfl)) | (simp [*, errW_none, errW_some] <;> rfl), by repeat (first | (with_reducible first | exact HB.out | apply below_alloc | apply pw_below_drewN | apply below_drew1 | refine below_set ?_ GE401.out) | exact HB.out)⟩
          · replace c53 := Bool.eq_false_iff.mpr c53
            subst c53
            have H1 : (laws_FnColoured.l0 kj13 (wrap64 ((ji10) - 1)) t410 t414 0 t397 t398) = some r := by rw [if_neg (show ¬ (false = true) by decide)] at H; exact H
            clear H
            have H := H1
            clear H1
            have H' := Aside0.mk H
            clear H
            go_wp2
            repeat (go_quiet (fail); try go_wp2)
            go_loopg [17] kj13 (fun kq v17 w' => ∃ (x17_2 : Int), v17 = .int .i64 x17_2 ∧ Aside0 (laws_FnColoured.l0 kq (wrap64 ((ji10) - 1)) t410 t414 x17_2 t397 t398 = some r) ∧ Aside0 (kq ≤ kj13) ∧ Aside0 (Kd.R (Kd.int .i64) 2 w' w.heap.size (fun k_ => some k_ ≠ (v415 : Value).ownBlock ∧ some k_ ≠ ((.slice Ao18 t398.length co18) : Value).ownBlock) v411 t410) ∧ Aside0 (Kd.R (Kd.int .i64) 2 w' w.heap.size (fun k_ => some k_ ≠ (v411 : Value).ownBlock ∧ some k_ ≠ ((.slice Ao18 t398.length co18) : Value).ownBlock) v415 t414) ∧ Aside0 (Kd.R (Kd.int .i64) 2 w' w.heap.size (fun k_ => some k_ ≠ (v411 : Value).ownBlock ∧ some k_ ≠ (v415 : Value).ownBlock) (.slice Ao18 t398.length co18) t398) ∧ Aside0 (w'.heap[gb401]? = some (.cells #[.int .i64 t397, (.slice Ao18 t398.length co18)] 27 (0, 0))) ∧ Aside0 (Below w.heap.size w w'))
            case atStart => exact ⟨(0), (by first | rfl | (simp; done) | (simp [*]; done)), H', ⟨Nat.le_refl _⟩, ⟨by (with_reducible repeat (first | apply Kd.R_alloc | apply Kd.R_drewN | apply Kd.R_drew)); exact HO_13.out⟩, ⟨by (with_reducible repeat (first | apply Kd.R_alloc | apply Kd.R_drewN | apply Kd.R_drew)); exact HO_15.out⟩, ⟨by (with_reducible repeat (first | apply Kd.R_alloc | apply Kd.R_drewN | apply Kd.R_drew)); exact HO_402001.out⟩, ⟨by (with_reducible repeat (first | refine blk_drewN ?_ _ | refine blk_drew ?_ | refine blk_alloc ?_ _)); exact BK401.out⟩, ⟨by repeat (first | (with_reducible first | exact HB.out | apply below_alloc | apply pw_below_drewN | apply below_drew1 | refine below_set ?_ GE401.out) | exact HB.out)⟩⟩
            case round =>
              clear H'
              try clear c1
              try clear c2
              try clear p2
              try clear c3
              try clear c4
              try clear c5
              try clear p6
              try clear c8
              try clear c9
              try clear c9b0
              try clear c9b1
              try clear c26
              try clear c27
              try clear c28
              try clear c29
              try clear c30
              try clear c30b0
              try clear c30b1
              try clear c30b2
              try clear c31
              try clear c31b0
              try clear c31b1
              try clear c31b2
              try clear c32
              try clear c32b0
              try clear c32b1
              try clear c32b2
              try clear c34
              try clear c34b0
              try clear c34b1
              try clear c53
              try clear hcz17_0
              try clear hcz17_1
              try clear hcz20_0
              try clear hcz20_1
              try clear hcz22_0
              try clear hcz22_1
              try clear hcz24_0
              try clear hcz24_1
              try clear hcz37_0
              try clear hcz37_1
              try clear hcz41_0
              try clear hcz41_1
              try clear hcz45_0
              try clear hcz45_1
              try clear hcz49_0
              try clear hcz49_1
              try clear hcz52_0
              try clear hcz52_1
              try clear hfz17_0
              try clear hfz17_1
              try clear hfz20_0
              try clear hfz20_1
              try clear hfz22_0
              try clear hfz22_1
              try clear hfz24_0
              try clear hfz24_1
              try clear hfz37_0
              try clear hfz37_1
              try clear hfz41_0
              try clear hfz41_1
              try clear hfz45_0
              try clear hfz45_1
              try clear hfz49_0
              try clear hfz49_1
              try clear hfz52_0
              try clear hfz52_1
              try clear p2
              try clear p6
              obtain ⟨x17_2, rfl, HA, HK2, HO_13, HO_15, HO_402001, BK401, HB⟩ := hrel
              cases gk with
              | zero => exact absurd HA.out (by simp [laws_FnColoured.l0])
              | succ k2 =>
                have H := HA.out
                clear HA
                simp only [laws_FnColoured.l0] at H
                by_cases c54 : x17_2 < (t410.length : Int)
                · rw [if_pos c54] at H
                  have c54b0 : decide (x17_2 < (t410.length : Int)) = true := decide_eq_true c54
                  clear c54
                  by_cases c55 : 0 ≤ x17_2
                  · rw [if_pos c55] at H
                    have c55b0 : decide (0 ≤ x17_2) = true := decide_eq_true c55
                    clear c55
                    by_cases c56 : x17_2 < (t414.length : Int)
                    · rw [if_pos c56] at H
                      have c56b0 : decide (x17_2 < (t414.length : Int)) = true := decide_eq_true c56
                      clear c56
                      by_cases c57 : (rd t410 x17_2) = (wrap64 (-(rd t414 x17_2)))
                      · rw [if_pos c57] at H
                        have c57b0 : ((rd t410 x17_2) == (wrap64 (-(rd t414 x17_2)))) = true := beq_iff_eq.mpr c57
                        have c57b1 : ((rd t410 x17_2) != (wrap64 (-(rd t414 x17_2)))) = false := bne_eq_false_iff_eq.mpr c57
                        clear c57
                        have H' := Aside0.mk H
                        clear H
                        obtain ⟨Ao58, co58, eo58⟩ := Kd.R_slice HO_13.out
                        subst eo58
                        have p420 : 0 ≤ (x17_2 : Int) := of_decide_eq_true (by first | (with_reducible assumption) | assumption)
                        have q420 : x17_2 < (t410.length : Int) := of_decide_eq_true (by first | (with_reducible assumption) | assumption)
                        obtain ⟨ad420, e420, hx420_0⟩ := Kd.at_int (Kd.R_reads' HO_13.out).2.2 x17_2 p420 q420
                        cases e420
                        replace p420 := eq_true p420
                        replace q420 := eq_true q420
                        obtain ⟨Ao59, co59, eo59⟩ := Kd.R_slice HO_15.out
                        subst eo59
                        have p421 : 0 ≤ (x17_2 : Int) := of_decide_eq_true (by first | (with_reducible assumption) | assumption)
                        have q421 : x17_2 < (t414.length : Int) := of_decide_eq_true (by first | (with_reducible assumption) | assumption)
                        obtain ⟨ad421, e421, hx421_0⟩ := Kd.at_int (Kd.R_reads' HO_15.out).2.2 x17_2 p421 q421
                        cases e421
                        replace p421 := eq_true p421
                        replace q421 := eq_true q421
                        go_wp2
                        repeat (go_quiet (fail); try go_wp2)
                        go_roundg k2
                        case measure => have := HJ13.out; have := HK2.out; omega
                        case rel => exact ⟨(wrap64 (x17_2 + 1)), (by first | rfl | (simp; done) | (simp [*]; done)), H', ⟨by have := HJ13.out; have := HK2.out; omega⟩, ⟨by (with_reducible repeat (first | apply Kd.R_alloc | apply Kd.R_drewN | apply Kd.R_drew)); exact HO_13.out⟩, ⟨by (with_reducible repeat (first | apply Kd.R_alloc | apply Kd.R_drewN | apply Kd.R_drew)); exact HO_15.out⟩, ⟨by (with_reducible repeat (first | apply Kd.R_alloc | apply Kd.R_drewN | apply Kd.R_drew)); exact HO_402001.out⟩, ⟨by (with_reducible repeat (first | refine blk_drewN ?_ _ | refine blk_drew ?_ | refine blk_alloc ?_ _)); exact BK401.out⟩, ⟨by repeat (first | (with_reducible first | exact HB.out | apply below_alloc | apply pw_below_drewN | apply below_drew1 | refine below_set ?_ GE401.out) | exact HB.out)⟩⟩
                      · rw [if_neg c57] at H
                        have c57b0 : ((rd t410 x17_2) == (wrap64 (-(rd t414 x17_2)))) = false := beq_eq_false_iff_ne.mpr c57
                        have c57b1 : ((rd t410 x17_2) != (wrap64 (-(rd t414 x17_2)))) = true := bne_iff_ne.mpr c57
                        obtain rfl := Option.some.inj H
                        obtain ⟨Ao60, co60, eo60⟩ := Kd.R_slice HO_13.out
                        subst eo60
                        have p420 : 0 ≤ (x17_2 : Int) := of_decide_eq_true (by first | (with_reducible assumption) | assumption)
                        have q420 : x17_2 < (t410.length : Int) := of_decide_eq_true (by first | (with_reducible assumption) | assumption)
                        obtain ⟨ad420, e420, hx420_0⟩ := Kd.at_int (Kd.R_reads' HO_13.out).2.2 x17_2 p420 q420
                        cases e420
                        replace p420 := eq_true p420
                        replace q420 := eq_true q420
                        obtain ⟨Ao61, co61, eo61⟩ := Kd.R_slice HO_15.out
                        subst eo61
                        have p421 : 0 ≤ (x17_2 : Int) := of_decide_eq_true (by first | (with_reducible assumption) | assumption)
                        have q421 : x17_2 < (t414.length : Int) := of_decide_eq_true (by first | (with_reducible assumption) | assumption)
                        obtain ⟨ad421, e421, hx421_0⟩ := Kd.at_int (Kd.R_reads' HO_15.out).2.2 x17_2 p421 q421
                        cases e421
                        replace p421 := eq_true p421
                        replace q421 := eq_true q421
                        go_wp2
                        repeat (go_quiet (fail); try go_wp2)
                        go_ret
                        exact ⟨by first | rfl | (simp [errW_none, errW_some] <;> rfl) | (simp only [← hji8, ← hji10]; first | rfl | (simp [errW_none, errW_some] <;> rfl)) | (simp [*, errW_none, errW_some] <;> rfl), by repeat (first | (with_reducible first | exact HB.out | apply below_alloc | apply pw_below_drewN | apply below_drew1 | refine below_set ?_ GE401.out) | exact HB.out)⟩
                    · rw [if_neg c56] at H
                      exact absurd H (by simp)
                  · rw [if_neg c55] at H
                    exact absurd H (by simp)
                · rw [if_neg c54] at H
                  have c54b0 : decide (x17_2 < (t410.length : Int)) = false := decide_eq_false c54
                  clear c54
                  replace H := Option.bind_eq_some_iff.mp H
                  obtain ⟨⟨t422, t423, t424⟩, A620, H⟩ := H
                  replace H : (laws_FnColoured.l1 k2 (wrap64 ((ji10) - 1)) t422 t423 t424 0 0 t397 t398) = some r := H
                  have A62 := Aside0.mk A620
                  clear A620
                  have H' := Aside0.mk H
                  clear H
                  obtain ⟨Ao63, co63, eo63⟩ := Kd.R_slice HO_13.out
                  subst eo63
                  have hcz64_0 : wr.cell? ⟨gb401, 0, none⟩ = some (.int .i64 t397) := (blk_cell BK401.out 0).trans rfl
                  have hcz64_1 : wr.cell? ⟨gb401, 1, none⟩ = some (.slice Ao18 t398.length co18) := (blk_cell BK401.out 1).trans rfl
                  have hfz64_0 := blk_frozen BK401.out 0
                  have hfz64_1 := blk_frozen BK401.out 1
                  go_wp2_with (first | (go_at_call 33; (with_reducible refine (impl_AverageImbalance.calls k2 t397 _ _ t398 t422 t423 t424 _ ?side1 ?side2 A62.out).mono ?_); (case side1 => repeat (first | exact (Kd.R_reads' HO_402001.out).2.2 | (with_reducible refine Kd.C_alloc ?_ _) | (with_reducible refine Kd.C_drewN ?_ _) | (with_reducible refine Kd.C_drew ?_))); (case side2 => exact (Kd.R_reads' HO_402001.out).2.1); rintro e w65 ⟨rfl, hb⟩; have n0_ := Aside0.mk (Kd.R_below (by (with_reducible repeat (first | apply Kd.R_alloc | apply Kd.R_drewN | apply Kd.R_drew)); exact HO_13.out) hb); have n1_ := Aside0.mk (Kd.R_below (by (with_reducible repeat (first | apply Kd.R_alloc | apply Kd.R_drewN | apply Kd.R_drew)); exact HO_15.out) hb); have n2_ := Aside0.mk (Kd.R_below (by (with_reducible repeat (first | apply Kd.R_alloc | apply Kd.R_drewN | apply Kd.R_drew)); exact HO_402001.out) hb); have n3_ := Aside0.mk (blk_below (g := gb401) (o := .cells #[.int .i64 t397, .slice Ao18 t398.length co18] 27 (0, 0)) (by (with_reducible repeat (first | refine blk_drewN ?_ _ | refine blk_drew ?_ | refine blk_alloc ?_ _)); exact BK401.out) hb); have n4_ := Aside0.mk (below_step (by repeat (first | (with_reducible first | exact HB.out | apply below_alloc | apply pw_below_drewN | apply below_drew1 | refine below_set ?_ GE401.out) | exact HB.out)) hb); clear HO_13; clear HO_15; clear HO_402001; clear BK401; clear HB; have HO_13 := n0_; have HO_15 := n1_; have HO_402001 := n2_; have BK401 := n3_; have HB := n4_; clear n0_ n1_ n2_ n3_ n4_; (try clear hb); (try clear hb2); (try clear hk); (try clear hi)))
                  repeat (go_quiet (first | (go_at_call 33; (with_reducible refine (impl_AverageImbalance.calls k2 t397 _ _ t398 t422 t423 t424 _ ?side1 ?side2 A62.out).mono ?_); (case side1 => repeat (first | exact (Kd.R_reads' HO_402001.out).2.2 | (with_reducible refine Kd.C_alloc ?_ _) | (with_reducible refine Kd.C_drewN ?_ _) | (with_reducible refine Kd.C_drew ?_))); (case side2 => exact (Kd.R_reads' HO_402001.out).2.1); rintro e w65 ⟨rfl, hb⟩; have n0_ := Aside0.mk (Kd.R_below (by (with_reducible repeat (first | apply Kd.R_alloc | apply Kd.R_drewN | apply Kd.R_drew)); exact HO_13.out) hb); have n1_ := Aside0.mk (Kd.R_below (by (with_reducible repeat (first | apply Kd.R_alloc | apply Kd.R_drewN | apply Kd.R_drew)); exact HO_15.out) hb); have n2_ := Aside0.mk (Kd.R_below (by (with_reducible repeat (first | apply Kd.R_alloc | apply Kd.R_drewN | apply Kd.R_drew)); exact HO_402001.out) hb); have n3_ := Aside0.mk (blk_below (g := gb401) (o := .cells #[.int .i64 t397, .slice Ao18 t398.length co18] 27 (0, 0)) (by (with_reducible repeat (first | refine blk_drewN ?_ _ | refine blk_drew ?_ | refine blk_alloc ?_ _)); exact BK401.out) hb); have n4_ := Aside0.mk (below_step (by repeat (first | (with_reducible first | exact HB.out | apply below_alloc | apply pw_below_drewN | apply below_drew1 | refine below_set ?_ GE401.out) | exact HB.out)) hb); clear HO_13; clear HO_15; clear HO_402001; clear BK401; clear HB; have HO_13 := n0_; have HO_15 := n1_; have HO_402001 := n2_; have BK401 := n3_; have HB := n4_; clear n0_ n1_ n2_ n3_ n4_; (try clear hb); (try clear hb2); (try clear hk); (try clear hi))); try go_wp2_with (first | (go_at_call 33; (with_reducible refine (impl_AverageImbalance.calls k2 t397 _ _ t398 t422 t423 t424 _ ?side1 ?side2 A62.out).mono ?_); (case side1 => repeat (first | exact (Kd.R_reads' HO_402001.out).2.2 | (with_reducible refine Kd.C_alloc ?_ _) | (with_reducible refine Kd.C_drewN ?_ _) | (with_reducible refine Kd.C_drew ?_))); (case side2 => exact (Kd.R_reads' HO_402001.out).2.1); rintro e w65 ⟨rfl, hb⟩; have n0_ := Aside0.mk (Kd.R_below (by (with_reducible repeat (first | apply Kd.R_alloc | apply Kd.R_drewN | apply Kd.R_drew)); exact HO_13.out) hb); have n1_ := Aside0.mk (Kd.R_below (by (with_reducible repeat (first | apply Kd.R_alloc | apply Kd.R_drewN | apply Kd.R_drew)); exact HO_15.out) hb); have n2_ := Aside0.mk (Kd.R_below (by (with_reducible repeat (first | apply Kd.R_alloc | apply Kd.R_drewN | apply Kd.R_drew)); exact HO_402001.out) hb); have n3_ := Aside0.mk (blk_below (g := gb401) (o := .cells #[.int .i64 t397, .slice Ao18 t398.length co18] 27 (0, 0)) (by (with_reducible repeat (first | refine blk_drewN ?_ _ | refine blk_drew ?_ | refine blk_alloc ?_ _)); exact BK401.out) hb); have n4_ := Aside0.mk (below_step (by repeat (first | (with_reducible first | exact HB.out | apply below_alloc | apply pw_below_drewN | apply below_drew1 | refine below_set ?_ GE401.out) | exact HB.out)) hb); clear HO_13; clear HO_15; clear HO_402001; clear BK401; clear HB; have HO_13 := n0_; have HO_15 := n1_; have HO_402001 := n2_; have BK401 := n3_; have HB := n4_; clear n0_ n1_ n2_ n3_ n4_; (try clear hb); (try clear hb2); (try clear hk); (try clear hi))))
                  go_loopg [21, 22] k2 (fun kq v21 v22 w' => ∃ (x21_3 : Int) (x22_3 : Int), v21 = .int .i64 x21_3 ∧ v22 = .int .i64 x22_3 ∧ Aside0 (laws_FnColoured.l1 kq (wrap64 ((ji10) - 1)) t422 t423 t424 x21_3 x22_3 t397 t398 = some r) ∧ Aside0 (kq ≤ k2) ∧ Aside0 (Kd.R (Kd.int .i64) 2 w' w.heap.size (fun _ => True) (.slice Ao18 t398.length co18) t398) ∧ Aside0 (w'.heap[gb401]? = some (.cells #[.int .i64 t397, (.slice Ao18 t398.length co18)] 27 (0, 0))) ∧ Aside0 (Below w.heap.size w w'))
                  case atStart => exact ⟨(0), (0), (by first | rfl | (simp; done) | (simp [*]; done)), (by first | rfl | (simp; done) | (simp [*]; done)), H', ⟨Nat.le_refl _⟩, ⟨by (with_reducible repeat (first | apply Kd.R_alloc | apply Kd.R_drewN | apply Kd.R_drew)); exact Kd.R_mono HO_402001.out (fun _ hk => trivial)⟩, ⟨by (with_reducible repeat (first | refine blk_drewN ?_ _ | refine blk_drew ?_ | refine blk_alloc ?_ _)); exact BK401.out⟩, ⟨by repeat (first | (with_reducible first | exact HB.out | apply below_alloc | apply pw_below_drewN | apply below_drew1 | refine below_set ?_ GE401.out) | exact HB.out)⟩⟩
                  case round =>
                    clear H'
                    try clear c1
                    try clear c2
                    try clear p2
                    try clear c3
                    try clear c4
                    try clear p4
                    try clear q4
                    try clear hx4
                    try clear c5
                    try clear p6
                    try clear c8
                    try clear c9
                    try clear c9b0
                    try clear c9b1
                    try clear c26
                    try clear c27
                    try clear c28
                    try clear c29
                    try clear c30
                    try clear c30b0
                    try clear c30b1
                    try clear c30b2
                    try clear c31
                    try clear c31b0
                    try clear c31b1
                    try clear c31b2
                    try clear c32
                    try clear c32b0
                    try clear c32b1
                    try clear c32b2
                    try clear c34
                    try clear c34b0
                    try clear c34b1
                    try clear p42
                    try clear q42
                    try clear hx42
                    try clear c53
                    try clear c54
                    try clear c54b0
                    try clear c55
                    try clear c55b0
                    try clear c56
                    try clear c56b0
                    try clear c57
                    try clear c57b0
                    try clear c57b1
                    try clear p64
                    try clear hcz17_0
                    try clear hcz17_1
                    try clear hcz20_0
                    try clear hcz20_1
                    try clear hcz22_0
                    try clear hcz22_1
                    try clear hcz24_0
                    try clear hcz24_1
                    try clear hcz37_0
                    try clear hcz37_1
                    try clear hcz41_0
                    try clear hcz41_1
                    try clear hcz45_0
                    try clear hcz45_1
                    try clear hcz49_0
                    try clear hcz49_1
                    try clear hcz52_0
                    try clear hcz52_1
                    try clear hcz64_0
                    try clear hcz64_1
                    try clear hfz17_0
                    try clear hfz17_1
                    try clear hfz20_0
                    try clear hfz20_1
                    try clear hfz22_0
                    try clear hfz22_1
                    try clear hfz24_0
                    try clear hfz24_1
                    try clear hfz37_0
                    try clear hfz37_1
                    try clear hfz41_0
                    try clear hfz41_1
                    try clear hfz45_0
                    try clear hfz45_1
                    try clear hfz49_0
                    try clear hfz49_1
                    try clear hfz52_0
                    try clear hfz52_1
                    try clear hfz64_0
                    try clear hfz64_1
                    try clear hx420_0
                    try clear hx421_0
                    try clear p2
                    try clear p420
                    try clear p421
                    try clear p6
                    try clear q420
                    try clear q421
                    obtain ⟨x21_3, x22_3, rfl, rfl, HA, HK3, HO_402001, BK401, HB⟩ := hrel
                    cases gk with
                    | zero => exact absurd HA.out (by simp [laws_FnColoured.l1])
                    | succ k3 =>
                      have H := HA.out
                      clear HA
                      simp only [laws_FnColoured.l1] at H
                      by_cases c66 : x22_3 < (t398.length : Int)
                      · rw [if_pos c66] at H
                        have c66b0 : decide (x22_3 < (t398.length : Int)) = true := decide_eq_true c66
                        clear c66
                        by_cases c67 : 0 ≤ x22_3
                        · rw [if_pos c67] at H
                          have c67b0 : decide (0 ≤ x22_3) = true := decide_eq_true c67
                          clear c67
                          replace H := Option.bind_eq_some_iff.mp H
                          obtain ⟨t426, A680, H⟩ := H
                          replace H : (laws_FnColoured.l1 k3 (wrap64 ((ji10) - 1)) t422 t423 t424 (wrap64 (x21_3 + t426)) (wrap64 (x22_3 + 1)) t397 t398) = some r := H
                          have A68 := Aside0.mk A680
                          clear A680
                          have H' := Aside0.mk H
                          clear H
                          have hcz69_0 : wr.cell? ⟨gb401, 0, none⟩ = some (.int .i64 t397) := (blk_cell BK401.out 0).trans rfl
                          have hcz69_1 : wr.cell? ⟨gb401, 1, none⟩ = some (.slice Ao18 t398.length co18) := (blk_cell BK401.out 1).trans rfl
                          have hfz69_0 := blk_frozen BK401.out 0
                          have hfz69_1 := blk_frozen BK401.out 1
                          have p425 : 0 ≤ (x22_3 : Int) := of_decide_eq_true (by first | (with_reducible assumption) | assumption)
                          have q425 : x22_3 < (t398.length : Int) := of_decide_eq_true (by first | (with_reducible assumption) | assumption)
                          obtain ⟨ad425, e425, hx425_0⟩ := Kd.at_int (Kd.R_reads' HO_402001.out).2.2 x22_3 p425 q425
                          cases e425
                          replace p425 := eq_true p425
                          replace q425 := eq_true q425
                          go_wp2_with (first | (go_at_call 40; (with_reducible refine (laws_r8Weight.calls k3 (rd t398 x22_3) t426 _ A68.out).mono ?_); rintro e w' ⟨rfl, ⟨nd, rfl⟩⟩; (try first | exact ⟨rfl, _, World.drewN_drewN _ _ _⟩ | exact ⟨rfl, _, Eq.trans (World.drewN_drewN _ _ _) (congrArg (World.drewN _) (Nat.add_assoc _ _ _))⟩)))
                          repeat (go_quiet (first | (go_at_call 40; (with_reducible refine (laws_r8Weight.calls k3 (rd t398 x22_3) t426 _ A68.out).mono ?_); rintro e w' ⟨rfl, ⟨nd, rfl⟩⟩; (try first | exact ⟨rfl, _, World.drewN_drewN _ _ _⟩ | exact ⟨rfl, _, Eq.trans (World.drewN_drewN _ _ _) (congrArg (World.drewN _) (Nat.add_assoc _ _ _))⟩))); try go_wp2_with (first | (go_at_call 40; (with_reducible refine (laws_r8Weight.calls k3 (rd t398 x22_3) t426 _ A68.out).mono ?_); rintro e w' ⟨rfl, ⟨nd, rfl⟩⟩; (try first | exact ⟨rfl, _, World.drewN_drewN _ _ _⟩ | exact ⟨rfl, _, Eq.trans (World.drewN_drewN _ _ _) (congrArg (World.drewN _) (Nat.add_assoc _ _ _))⟩))))
                          go_roundg k3
                          case measure => have := HJ13.out; have := HK2.out; have := HK3.out; omega
                          case rel => exact ⟨(wrap64 (x21_3 + t426)), (wrap64 (x22_3 + 1)), (by first | rfl | (simp; done) | (simp [*]; done)), (by first | rfl | (simp; done) | (simp [*]; done)), H', ⟨by have := HJ13.out; have := HK2.out; have := HK3.out; omega⟩, ⟨by (with_reducible repeat (first | apply Kd.R_alloc | apply Kd.R_drewN | apply Kd.R_drew)); exact HO_402001.out⟩, ⟨by (with_reducible repeat (first | refine blk_drewN ?_ _ | refine blk_drew ?_ | refine blk_alloc ?_ _)); exact BK401.out⟩, ⟨by repeat (first | (with_reducible first | exact HB.out | apply below_alloc | apply pw_below_drewN | apply below_drew1 | refine below_set ?_ GE401.out) | exact HB.out)⟩⟩
                        · rw [if_neg c67] at H
                          exact absurd H (by simp)
                      · rw [if_neg c66] at H
                        have c66b0 : decide (x22_3 < (t398.length : Int)) = false := decide_eq_false c66
                        clear c66
                        by_cases c70 : t424 = true
                        · subst c70
                          have H1 : (if t423 = (wrap64 ((wrap64 ((ji10) - 1)) + 1)) then (some (t422 == (wrap64 (x21_3 * t423)))) else (some false)) = some r := by rw [if_pos rfl] at H; exact H
                          clear H
                          have H := H1
                          clear H1
                          by_cases c71 : t423 = (wrap64 ((wrap64 ((ji10) - 1)) + 1))
                          · rw [if_pos c71] at H
                            have c71b0 : (t423 == (wrap64 ((wrap64 ((ji10) - 1)) + 1))) = true := beq_iff_eq.mpr c71
                            have c71b1 : (t423 != (wrap64 ((wrap64 ((ji10) - 1)) + 1))) = false := bne_eq_false_iff_eq.mpr c71
                            clear c71
                            obtain rfl := Option.some.inj H
                            have hcz72_0 : wr.cell? ⟨gb401, 0, none⟩ = some (.int .i64 t397) := (blk_cell BK401.out 0).trans rfl
                            have hcz72_1 : wr.cell? ⟨gb401, 1, none⟩ = some (.slice Ao18 t398.length co18) := (blk_cell BK401.out 1).trans rfl
                            have hfz72_0 := blk_frozen BK401.out 0
                            have hfz72_1 := blk_frozen BK401.out 1
                            go_wp2
                            repeat (go_quiet (fail); try go_wp2)
                            go_ret
                            exact ⟨by first | rfl | (simp [errW_none, errW_some] <;> rfl) | (simp only [← hji8, ← hji10]; first | rfl | (simp [errW_none, errW_some] <;> rfl)) | (simp [*, errW_none, errW_some] <;> rfl), by repeat (first | (with_reducible first | exact HB.out | apply below_alloc | apply pw_below_drewN | apply below_drew1 | refine below_set ?_ GE401.out) | exact HB.out)⟩
                          · rw [if_neg c71] at H
                            have c71b0 : (t423 == (wrap64 ((wrap64 ((ji10) - 1)) + 1))) = false := beq_eq_false_iff_ne.mpr c71
                            have c71b1 : (t423 != (wrap64 ((wrap64 ((ji10) - 1)) + 1))) = true := bne_iff_ne.mpr c71
                            obtain rfl := Option.some.inj H
                            have hcz73_0 : wr.cell? ⟨gb401, 0, none⟩ = some (.int .i64 t397) := (blk_cell BK401.out 0).trans rfl
                            have hcz73_1 : wr.cell? ⟨gb401, 1, none⟩ = some (.slice Ao18 t398.length co18) := (blk_cell BK401.out 1).trans rfl
                            have hfz73_0 := blk_frozen BK401.out 0
                            have hfz73_1 := blk_frozen BK401.out 1
                            go_wp2
                            repeat (go_quiet (fail); try go_wp2)
                            go_ret
                            exact ⟨by first | rfl | (simp [errW_none, errW_some] <;> rfl) | (simp only [← hji8, ← hji10]; first | rfl | (simp [errW_none, errW_some] <;> rfl)) | (simp [*, errW_none, errW_some] <;> rfl), by repeat (first | (with_reducible first | exact HB.out | apply below_alloc | apply pw_below_drewN | apply below_drew1 | refine below_set ?_ GE401.out) | exact HB.out)⟩
                        · replace c70 := Bool.eq_false_iff.mpr c70
                          subst c70
                          have H1 : (some false) = some r := by rw [if_neg (show ¬ (false = true) by decide)] at H; exact H
                          clear H
                          have H := H1
                          clear H1
                          obtain rfl := Option.some.inj H
                          have hcz74_0 : wr.cell? ⟨gb401, 0, none⟩ = some (.int .i64 t397) := (blk_cell BK401.out 0).trans rfl
                          have hcz74_1 : wr.cell? ⟨gb401, 1, none⟩ = some (.slice Ao18 t398.length co18) := (blk_cell BK401.out 1).trans rfl
                          have hfz74_0 := blk_frozen BK401.out 0
                          have hfz74_1 := blk_frozen BK401.out 1
                          go_wp2
                          repeat (go_quiet (fail); try go_wp2)
                          go_ret
                          exact ⟨by first | rfl | (simp [errW_none, errW_some] <;> rfl) | (simp only [← hji8, ← hji10]; first | rfl | (simp [errW_none, errW_some] <;> rfl)) | (simp [*, errW_none, errW_some] <;> rfl), by repeat (first | (with_reducible first | exact HB.out | apply below_alloc | apply pw_below_drewN | apply below_drew1 | refine below_set ?_ GE401.out) | exact HB.out)⟩
    · rw [if_neg c9] at H
      exact absurd H (by simp)

/-- THE ONE PURE STATEMENT of laws_FnColoured: yours. -/
def laws_FnColoured.Pure : Prop := ∀ (l0 : List Int) (l1 : List Int), l0.length ≤ maxLen → l0.length * 1 ≤ 140737488351232 → (∀ x ∈ l0, (Lit.int .u8 x).wf = true) → l1.length ≤ maxLen → l1.length * 1 ≤ 140737488351232 → (∀ x ∈ l1, (Lit.int .u8 x).wf = true) → ∃ k, laws_FnColoured.f k l0 l1 = some true
theorem laws_FnColoured.walk (P : laws_FnColoured.Pure) (a0 : Option Addr) (len0 cap0 : Nat) (z0 : List Int) (a1 : Option Addr) (len1 cap1 : Nat) (z1 : List Int) (w : World) (w0 : (a0 = none ∧ len0 = 0 ∧ cap0 = 0 ∧ z0 = []) ∨ ∃ x, a0 = some x ∧ len0 ≤ cap0 ∧ cap0 ≤ maxLen ∧ z0.length = cap0 ∧ (∀ i, i < z0.length → w.cell? (x.add i) = some (.int .u8 (z0.getD i 0))) ∧ ∀ n ∈ z0, (Lit.int .u8 n).wf = true) (y0 : len0 * 1 ≤ 140737488351232) (w1 : (a1 = none ∧ len1 = 0 ∧ cap1 = 0 ∧ z1 = []) ∨ ∃ x, a1 = some x ∧ len1 ≤ cap1 ∧ cap1 ≤ maxLen ∧ z1.length = cap1 ∧ (∀ i, i < z1.length → w.cell? (x.add i) = some (.int .u8 (z1.getD i 0))) ∧ ∀ n ∈ z1, (Lit.int .u8 n).wf = true) (y1 : len1 * 1 ≤ 140737488351232) :
    Calls Try.prog 8 #[.slice a0 len0 cap0, .slice a1 len1 cap1] w fun e w' => e = .returned (.bool true) ∧ Below w.heap.size w w' := by
  obtain ⟨l0, rfl, hr0, hm0, hw0, hc0⟩ := ReadsInt.ofRowC w0
  obtain ⟨l1, rfl, hr1, hm1, hw1, hc1⟩ := ReadsInt.ofRowC w1
  obtain ⟨k, h⟩ := P l0 l1 hm0 y0 hw0 hm1 y1 hw1
  refine (laws_FnColoured.calls k _ _ l0 _ _ l1 true w (Kd.C_of_reads (d := (0 : Int)) (h1 := fun _ => rfl) hr0) hc0 (Kd.C_of_reads (d := (0 : Int)) (h1 := fun _ => rfl) hr1) hc1 h).mono ?_
  rintro e w' ⟨rfl, hd⟩
  exact ⟨rfl, hd⟩

end Go.Proofs.Ytplgfchiaapmfaa.Q
