/- The statement FnExactIsReachable, with all that its proof stands on: functions of the program as plain functions, the program's walks, and the plain law. Conditions: none beyond the statement's own. -/
import Derived.ArgAppend
import Derived.Below
import Derived.BigQuiet
import Derived.BigRegion
import Derived.Deep.AppendLies
import Derived.Deep.CutBlock
import Derived.Deep.DeepCutAuto
import Derived.Deep.Draws
import Derived.Deep.LoopGhost
import Derived.Deep.OwnRows
import Derived.Deep.QuietTactic
import Derived.Deep.RegionHeld3
import Derived.Ground.SlgnProg
import Derived.Ground.SlsfProg
import Derived.KernelRfl
import Derived.Laws.BitsLemmas
import Derived.Laws.BytesArg
import Derived.Laws.IdiomCopy
import Derived.Laws.MakeOwn
import Derived.Laws.OwnMore
import Derived.Laws.Rows
import Derived.Laws.Slices
import Derived.Lib.AppendStr
import Derived.Lib.ConvBytes
import Derived.Maps.AppendAt
import Derived.OrdersHeld
import Derived.OwnWalk
import Derived.ProofKit
import Derived.RowKit
import Derived.RowKit3
import Derived.Shelf.SlSortCmp.WholeK
import Derived.Shelf.SlicesE.Clone
import Derived.Shelf.SlicesE.Compact
import Derived.Shelf.SlicesE.Equal
import Derived.Shelf.Small.Bits
import Derived.Shelf.Strconv.Itoa0
import Derived.Sort.OwnSortedInts
import Derived.Tactics
import Derived.Test.YtdlnhddpgopghaaProg
import Derived.WalkKit
import Derived.WideLaws
import Derived.Test.YtdlnhddpgopghaaBFnExactIsReachable1
import Derived.Test.YtdlnhddpgopghaaBFnExactIsReachable2
import Derived.Test.YtdlnhddpgopghaaBFnExactIsReachable3
import Derived.Test.YtdlnhddpgopghaaBFnExactIsReachable4
import Derived.Test.YtdlnhddpgopghaaBFnExactIsReachable5
import Derived.Test.YtdlnhddpgopghaaBFnExactIsReachable6
import Derived.Test.YtdlnhddpgopghaaBFnExactIsReachable7
set_option linter.unusedVariables false
set_option linter.unusedSimpArgs false
namespace Go.Proofs.Ytdlnhddpgopghaa.Q
open Go.RowKit Go.Proofs.YtdlnhddpgopghaaW.PrintWords Go.Proofs.YtdlnhddpgopghaaW.PrintLast Go.Proofs.YtdlnhddpgopghaaW.PrintMore
attribute [local go_sem] max2_int min2_int max_two min_two max_three min_three max_four min_four   -- for this text's walks alone
set_option linter.unusedVariables false
set_option linter.unusedSimpArgs false
mutual
def spec_IsReachable.l0 : Nat → List Int → List (List Int) → List (List Int) → List Int → Int → Option (Bool)
 | 0, _, _, _, _, _ => none
 | k + 1, x0, x5, x6, x7, x8 => (spec_l01Sum.f k x0).bind fun t525 => (if x8 ≤ t525 then (spec_IsReachable.l1 k x0 x5 x6 x7 x8 (-1) 0) else (some true))
def spec_IsReachable.l1 : Nat → List Int → List (List Int) → List (List Int) → List Int → Int → Int → Int → Option (Bool)
 | 0, _, _, _, _, _, _, _ => none
 | k + 1, x0, x5, x6, x7, x8, x9, x10 => if x10 < (x0.length : Int) then (if 0 ≤ x10 then (if x10 < (x7.length : Int) then (if (rd x7 x10) < (rd x0 x10) then (if x10 < (x5.length : Int) then (if 0 ≤ (rd x7 x10) then (if (rd x7 x10) < ((rd_L2 x5 x10).length : Int) then (if (rd (rd_L2 x5 x10) (rd x7 x10)) ≤ x8 then (if x9 < 0 then (spec_IsReachable.l1 k x0 x5 x6 x7 x8 x10 (wrap64 (x10 + 1))) else (if x10 < (x6.length : Int) then (if (rd x7 x10) < ((rd_L2 x6 x10).length : Int) then (if 0 ≤ x9 then (if x9 < (x6.length : Int) then (if x9 < (x7.length : Int) then (if 0 ≤ (rd x7 x9) then (if (rd x7 x9) < ((rd_L2 x6 x9).length : Int) then (if (rd (rd_L2 x6 x10) (rd x7 x10)) < (rd (rd_L2 x6 x9) (rd x7 x9)) then (spec_IsReachable.l1 k x0 x5 x6 x7 x8 x10 (wrap64 (x10 + 1))) else (spec_IsReachable.l1 k x0 x5 x6 x7 x8 x9 (wrap64 (x10 + 1)))) else (none)) else (none)) else (none)) else (none)) else (none)) else (none)) else (none))) else (spec_IsReachable.l1 k x0 x5 x6 x7 x8 x9 (wrap64 (x10 + 1)))) else (none)) else (none)) else (none)) else (spec_IsReachable.l1 k x0 x5 x6 x7 x8 x9 (wrap64 (x10 + 1)))) else (none)) else (none)) else (if x9 < 0 then (some false) else (if 0 ≤ x9 then (if x9 < (x6.length : Int) then (if x9 < (x7.length : Int) then (if 0 ≤ (rd x7 x9) then (if (rd x7 x9) < ((rd_L2 x6 x9).length : Int) then (if (rd (rd_L2 x6 x9) (rd x7 x9)) < x8 then (some false) else (spec_IsReachable.l0 k x0 x5 x6 (x7.set (x9 : Int).toNat (wrap64 ((rd x7 x9) + 1))) (wrap64 (x8 + 1)))) else (none)) else (none)) else (none)) else (none)) else (none)))
end
def spec_IsReachable.f (k : Nat) (l0 : List Int) (a1 : Int) : Option (Bool) := (spec_l08Bound.f k l0 a1).bind fun t515 => (if t515 = true then ((spec_l08Windows.f k l0 a1).bind fun bt516 => (if 0 ≤ (l0.length : Int) then (if ((l0.length : Int) : Int).toNat ≤ 35184372088832 then (spec_IsReachable.l0 k l0 bt516.1 bt516.2 (List.replicate ((l0.length : Int) : Int).toNat 0) 1) else (none)) else (none))) else (some false))
theorem spec_IsReachable.mono_l : ∀ k, (∀ y0 y1 y2 y3 y4, LeO (spec_IsReachable.l0 k y0 y1 y2 y3 y4) (spec_IsReachable.l0 (k + 1) y0 y1 y2 y3 y4)) ∧ (∀ y0 y1 y2 y3 y4 y5 y6, LeO (spec_IsReachable.l1 k y0 y1 y2 y3 y4 y5 y6) (spec_IsReachable.l1 (k + 1) y0 y1 y2 y3 y4 y5 y6))
 | 0 => ⟨fun _ _ _ _ _ r h => by simp [spec_IsReachable.l0] at h, fun _ _ _ _ _ _ _ r h => by simp [spec_IsReachable.l1] at h⟩
 | k + 1 => by
  obtain ⟨ih0, ih1⟩ := spec_IsReachable.mono_l k
  refine ⟨?_, ?_⟩
  ·intro y0 y1 y2 y3 y4
   unfold spec_IsReachable.l0
   repeat' first
   | (with_reducible exact ih0 _ _ _ _ _)
   | (with_reducible exact ih1 _ _ _ _ _ _ _)
   | (with_reducible exact spec_l01Sum.mono _ _)
   | (with_reducible exact spec_l08Bound.mono _ _ _)
   | (with_reducible exact spec_l08Windows.mono _ _ _)
   | (with_reducible exact LeO.refl _)
   | (with_reducible exact LeO.none _)
   | (with_reducible refine LeO.ite ?_ ?_)
   | (with_reducible refine LeO.bind ?_ (fun _ => ?_))
   | exact ih0 _ _ _ _ _
   | exact ih1 _ _ _ _ _ _ _
   | exact spec_l01Sum.mono _ _
   | exact spec_l08Bound.mono _ _ _
   | exact spec_l08Windows.mono _ _ _
   | exact LeO.none _
   | refine LeO.ite ?_ ?_
   | refine LeO.bind ?_ (fun _ => ?_)
  ·intro y0 y1 y2 y3 y4 y5 y6
   unfold spec_IsReachable.l1
   repeat' first
   | (with_reducible exact ih0 _ _ _ _ _)
   | (with_reducible exact ih1 _ _ _ _ _ _ _)
   | (with_reducible exact spec_l01Sum.mono _ _)
   | (with_reducible exact spec_l08Bound.mono _ _ _)
   | (with_reducible exact spec_l08Windows.mono _ _ _)
   | (with_reducible exact LeO.refl _)
   | (with_reducible exact LeO.none _)
   | (with_reducible refine LeO.ite ?_ ?_)
   | (with_reducible refine LeO.bind ?_ (fun _ => ?_))
   | exact ih0 _ _ _ _ _
   | exact ih1 _ _ _ _ _ _ _
   | exact spec_l01Sum.mono _ _
   | exact spec_l08Bound.mono _ _ _
   | exact spec_l08Windows.mono _ _ _
   | exact LeO.none _
   | refine LeO.ite ?_ ?_
   | refine LeO.bind ?_ (fun _ => ?_)
theorem spec_IsReachable.mono : ∀ a0 a1 k, LeO (spec_IsReachable.f k a0 a1) (spec_IsReachable.f (k + 1) a0 a1) := by
 intro a0 a1 k
 obtain ⟨ih0, ih1⟩ := spec_IsReachable.mono_l k
 unfold spec_IsReachable.f
 repeat' first
   | (with_reducible exact ih0 _ _ _ _ _)
   | (with_reducible exact ih1 _ _ _ _ _ _ _)
   | (with_reducible exact spec_l01Sum.mono _ _)
   | (with_reducible exact spec_l08Bound.mono _ _ _)
   | (with_reducible exact spec_l08Windows.mono _ _ _)
   | (with_reducible exact LeO.refl _)
   | (with_reducible exact LeO.none _)
   | (with_reducible refine LeO.ite ?_ ?_)
   | (with_reducible refine LeO.bind ?_ (fun _ => ?_))
   | exact ih0 _ _ _ _ _
   | exact ih1 _ _ _ _ _ _ _
   | exact spec_l01Sum.mono _ _
   | exact spec_l08Bound.mono _ _ _
   | exact spec_l08Windows.mono _ _ _
   | exact LeO.none _
   | refine LeO.ite ?_ ?_
   | refine LeO.bind ?_ (fun _ => ?_)
set_option maxHeartbeats 8000000 in
set_option maxRecDepth 100000 in
theorem spec_IsReachable.calls (k : Nat) (A0 : Option Addr) (c0 : Nat) (l0 : List Int) (a1 : Int) (r : Bool) (w : World) (hr0 : Kd.C (Kd.int .i64) w A0 l0.length l0) (hc0 : l0.length ≤ c0) (h : spec_IsReachable.f k l0 a1 = some r) :
  Calls Try.prog 40 #[.slice A0 l0.length c0, .int .i64 a1] w fun e w' => e = .returned (.bool r) ∧ Below w.heap.size w w' := by
 have HR0 := Aside0.mk hr0
 have HC0 := Aside0.mk hc0
 clear hr0 hc0
 have HB := Aside0.mk (Below.refl w.heap.size w)
 have H : ((spec_l08Bound.f k l0 a1).bind fun t515 => (if t515 = true then ((spec_l08Windows.f k l0 a1).bind fun bt516 => (if 0 ≤ (l0.length : Int) then (if ((l0.length : Int) : Int).toNat ≤ 35184372088832 then (spec_IsReachable.l0 k l0 bt516.1 bt516.2 (List.replicate ((l0.length : Int) : Int).toNat 0) 1) else (none)) else (none))) else (some false))) = some r := h
 clear h
 replace H := Option.bind_eq_some_iff.mp H
 obtain ⟨t515, A30, H⟩ := H
 replace H : (if t515 = true then ((spec_l08Windows.f k l0 a1).bind fun bt516 => (if 0 ≤ (l0.length : Int) then (if ((l0.length : Int) : Int).toNat ≤ 35184372088832 then (spec_IsReachable.l0 k l0 bt516.1 bt516.2 (List.replicate ((l0.length : Int) : Int).toNat 0) 1) else (none)) else (none))) else (some false)) = some r := H
 have A3 := Aside0.mk A30
 clear A30
 by_cases c4 : t515 = true
 ·subst c4
  have H1 : ((spec_l08Windows.f k l0 a1).bind fun bt516 => (if 0 ≤ (l0.length : Int) then (if ((l0.length : Int) : Int).toNat ≤ 35184372088832 then (spec_IsReachable.l0 k l0 bt516.1 bt516.2 (List.replicate ((l0.length : Int) : Int).toNat 0) 1) else (none)) else (none))) = some r := by rw [if_pos rfl] at H; exact H
  clear H
  have H := H1
  clear H1
  replace H := Option.bind_eq_some_iff.mp H
  obtain ⟨⟨t516, t517⟩, A50, H⟩ := H
  replace H : (if 0 ≤ (l0.length : Int) then (if ((l0.length : Int) : Int).toNat ≤ 35184372088832 then (spec_IsReachable.l0 k l0 t516 t517 (List.replicate ((l0.length : Int) : Int).toNat 0) 1) else (none)) else (none)) = some r := H
  have A5 := Aside0.mk A50
  clear A50
  by_cases c6 : 0 ≤ (l0.length : Int)
  ·rw [if_pos c6] at H
   have c6b0 := eq_true c6
   have c6b1 : decide (0 ≤ (l0.length : Int)) = true := decide_eq_true c6
   clear c6
   by_cases c7 : ((l0.length : Int) : Int).toNat ≤ 35184372088832
   ·rw [if_pos c7] at H
    have c7b0 := eq_true c7
    have c7b1 : decide (((l0.length : Int) : Int).toNat ≤ 35184372088832) = true := decide_eq_true c7
    clear c7
    obtain ⟨y522, hy522⟩ : ∃ y_ : List Int, y_ = (List.replicate ((l0.length : Int) : Int).toNat 0) := ⟨_, rfl⟩
    replace H : (spec_IsReachable.l0 k l0 t516 t517 y522 1) = some r := by first | (rw [hy522]; with_reducible exact H) | (have H2_ := (Option.bind_some _ _).symm.trans H; rw [hy522]; with_reducible exact H2_) | (have H2_ := (Option.bind_some _ _).symm.trans H; with_reducible exact H2_) | with_reducible exact H | (rw [hy522]; exact H) | exact H
    have Ny522 := Aside0.mk hy522
    clear hy522
    have H' := Aside0.mk H
    clear H
    go_enter Try.func40, Try.ntmps40
    go_wp2_with (first | (go_at_call 87; (with_reducible refine (spec_l08Bound.calls k _ _ l0 a1 true _ ?side1 ?side2 A3.out).mono ?_); (case side1 => repeat (first | exact HR0.out | (with_reducible refine Kd.C_alloc ?_ _) | (with_reducible refine Kd.C_drewN ?_ _) | (with_reducible refine Kd.C_drew ?_))); (case side2 => exact HC0.out); rintro e w' ⟨rfl, ⟨nd, rfl⟩⟩; (try first | exact ⟨rfl, _, World.drewN_drewN _ _ _⟩ | exact ⟨rfl, _, Eq.trans (World.drewN_drewN _ _ _) (congrArg (World.drewN _) (Nat.add_assoc _ _ _))⟩)) | (go_at_call 88; (with_reducible refine (spec_l08Windows.calls k _ _ l0 a1 t516 t517 _ ?side1 ?side2 A5.out).mono ?_); (case side1 => repeat (first | exact HR0.out | (with_reducible refine Kd.C_alloc ?_ _) | (with_reducible refine Kd.C_drewN ?_ _) | (with_reducible refine Kd.C_drew ?_))); (case side2 => exact HC0.out); rintro e w8 ⟨v518, v520, rfl, ho0, ho1, hb⟩; have n0_ := Aside0.mk (Kd.S_lower ho0 (below_size (by repeat (first | (with_reducible first | exact HB.out | apply below_alloc | apply pw_below_drewN | apply below_drew1) | exact HB.out)))); have n1_ := Aside0.mk (Kd.S_lower ho1 (below_size (by repeat (first | (with_reducible first | exact HB.out | apply below_alloc | apply pw_below_drewN | apply below_drew1) | exact HB.out)))); have n2_ := Aside0.mk (below_step (by repeat (first | (with_reducible first | exact HB.out | apply below_alloc | apply pw_below_drewN | apply below_drew1) | exact HB.out)) hb); clear HB; have HO519 := n0_; have HO521 := n1_; have HB := n2_; clear n0_ n1_ n2_; (try clear hb); (try clear hb2); (try clear hk); (try clear hi); (try clear ho0); (try clear ho1)) | ((with_reducible refine gate_dst (N := 23) rfl ?_); refine Kd.R_make (Kd.int .i64) _ 2 rfl (N := 23) rfl 22 _ _ rfl (l0.length : Int) rfl rfl Try.underlying22 (.int .i64 0) 8 info2 rfl (by decide) (by omega) 0 (ok := fun _ => True) (okp := fun _ => True) rfl (fun _ hk => hk) trivial (of_decide_eq_true (by first | (with_reducible assumption) | assumption)) (Nat.le_trans (Nat.mul_le_mul_right _ (of_decide_eq_true (by first | (with_reducible assumption) | assumption) : (l0.length : Int).toNat ≤ 35184372088832)) (by omega)) (Below.refl _ _) (Nat.le_refl _) ?_; intro v523 w9 ho10 hb hg_ hnew_; clear hg_ hnew_; (first | rw [← Ny522.out] at ho10 | (simp only [Int.reduceToNat] at ho10; rw [← Ny522.out] at ho10)); have n0_ := Aside0.mk (Kd.S_elder' (by (with_reducible repeat (first | apply Kd.S_alloc | apply Kd.S_drewN | apply Kd.S_drew)); exact HO519.out) (Kd.R_base ho10) hb); have n1_ := Aside0.mk (Kd.S_elder' (by (with_reducible repeat (first | apply Kd.S_alloc | apply Kd.S_drewN | apply Kd.S_drew)); exact HO521.out) (Kd.R_base ho10) hb); have n2_ := Aside0.mk (Kd.R_lower ho10 (below_size (by repeat (first | (with_reducible first | exact HB.out | apply below_alloc | apply pw_below_drewN | apply below_drew1) | exact HB.out)))); have n3_ := Aside0.mk (below_step (by repeat (first | (with_reducible first | exact HB.out | apply below_alloc | apply pw_below_drewN | apply below_drew1) | exact HB.out)) hb); clear HO519; clear HO521; clear HB; have HO519 := n0_; have HO521 := n1_; have HO524 := n2_; have HB := n3_; clear n0_ n1_ n2_ n3_; clear hb ho10))
    repeat (go_quiet (first | (go_at_call 87; (with_reducible refine (spec_l08Bound.calls k _ _ l0 a1 true _ ?side1 ?side2 A3.out).mono ?_); (case side1 => repeat (first | exact HR0.out | (with_reducible refine Kd.C_alloc ?_ _) | (with_reducible refine Kd.C_drewN ?_ _) | (with_reducible refine Kd.C_drew ?_))); (case side2 => exact HC0.out); rintro e w' ⟨rfl, ⟨nd, rfl⟩⟩; (try first | exact ⟨rfl, _, World.drewN_drewN _ _ _⟩ | exact ⟨rfl, _, Eq.trans (World.drewN_drewN _ _ _) (congrArg (World.drewN _) (Nat.add_assoc _ _ _))⟩)) | (go_at_call 88; (with_reducible refine (spec_l08Windows.calls k _ _ l0 a1 t516 t517 _ ?side1 ?side2 A5.out).mono ?_); (case side1 => repeat (first | exact HR0.out | (with_reducible refine Kd.C_alloc ?_ _) | (with_reducible refine Kd.C_drewN ?_ _) | (with_reducible refine Kd.C_drew ?_))); (case side2 => exact HC0.out); rintro e w8 ⟨v518, v520, rfl, ho0, ho1, hb⟩; have n0_ := Aside0.mk (Kd.S_lower ho0 (below_size (by repeat (first | (with_reducible first | exact HB.out | apply below_alloc | apply pw_below_drewN | apply below_drew1) | exact HB.out)))); have n1_ := Aside0.mk (Kd.S_lower ho1 (below_size (by repeat (first | (with_reducible first | exact HB.out | apply below_alloc | apply pw_below_drewN | apply below_drew1) | exact HB.out)))); have n2_ := Aside0.mk (below_step (by repeat (first | (with_reducible first | exact HB.out | apply below_alloc | apply pw_below_drewN | apply below_drew1) | exact HB.out)) hb); clear HB; have HO519 := n0_; have HO521 := n1_; have HB := n2_; clear n0_ n1_ n2_; (try clear hb); (try clear hb2); (try clear hk); (try clear hi); (try clear ho0); (try clear ho1)) | ((with_reducible refine gate_dst (N := 23) rfl ?_); refine Kd.R_make (Kd.int .i64) _ 2 rfl (N := 23) rfl 22 _ _ rfl (l0.length : Int) rfl rfl Try.underlying22 (.int .i64 0) 8 info2 rfl (by decide) (by omega) 0 (ok := fun _ => True) (okp := fun _ => True) rfl (fun _ hk => hk) trivial (of_decide_eq_true (by first | (with_reducible assumption) | assumption)) (Nat.le_trans (Nat.mul_le_mul_right _ (of_decide_eq_true (by first | (with_reducible assumption) | assumption) : (l0.length : Int).toNat ≤ 35184372088832)) (by omega)) (Below.refl _ _) (Nat.le_refl _) ?_; intro v523 w9 ho10 hb hg_ hnew_; clear hg_ hnew_; (first | rw [← Ny522.out] at ho10 | (simp only [Int.reduceToNat] at ho10; rw [← Ny522.out] at ho10)); have n0_ := Aside0.mk (Kd.S_elder' (by (with_reducible repeat (first | apply Kd.S_alloc | apply Kd.S_drewN | apply Kd.S_drew)); exact HO519.out) (Kd.R_base ho10) hb); have n1_ := Aside0.mk (Kd.S_elder' (by (with_reducible repeat (first | apply Kd.S_alloc | apply Kd.S_drewN | apply Kd.S_drew)); exact HO521.out) (Kd.R_base ho10) hb); have n2_ := Aside0.mk (Kd.R_lower ho10 (below_size (by repeat (first | (with_reducible first | exact HB.out | apply below_alloc | apply pw_below_drewN | apply below_drew1) | exact HB.out)))); have n3_ := Aside0.mk (below_step (by repeat (first | (with_reducible first | exact HB.out | apply below_alloc | apply pw_below_drewN | apply below_drew1) | exact HB.out)) hb); clear HO519; clear HO521; clear HB; have HO519 := n0_; have HO521 := n1_; have HO524 := n2_; have HB := n3_; clear n0_ n1_ n2_ n3_; clear hb ho10)); try go_wp2_with (first | (go_at_call 87; (with_reducible refine (spec_l08Bound.calls k _ _ l0 a1 true _ ?side1 ?side2 A3.out).mono ?_); (case side1 => repeat (first | exact HR0.out | (with_reducible refine Kd.C_alloc ?_ _) | (with_reducible refine Kd.C_drewN ?_ _) | (with_reducible refine Kd.C_drew ?_))); (case side2 => exact HC0.out); rintro e w' ⟨rfl, ⟨nd, rfl⟩⟩; (try first | exact ⟨rfl, _, World.drewN_drewN _ _ _⟩ | exact ⟨rfl, _, Eq.trans (World.drewN_drewN _ _ _) (congrArg (World.drewN _) (Nat.add_assoc _ _ _))⟩)) | (go_at_call 88; (with_reducible refine (spec_l08Windows.calls k _ _ l0 a1 t516 t517 _ ?side1 ?side2 A5.out).mono ?_); (case side1 => repeat (first | exact HR0.out | (with_reducible refine Kd.C_alloc ?_ _) | (with_reducible refine Kd.C_drewN ?_ _) | (with_reducible refine Kd.C_drew ?_))); (case side2 => exact HC0.out); rintro e w8 ⟨v518, v520, rfl, ho0, ho1, hb⟩; have n0_ := Aside0.mk (Kd.S_lower ho0 (below_size (by repeat (first | (with_reducible first | exact HB.out | apply below_alloc | apply pw_below_drewN | apply below_drew1) | exact HB.out)))); have n1_ := Aside0.mk (Kd.S_lower ho1 (below_size (by repeat (first | (with_reducible first | exact HB.out | apply below_alloc | apply pw_below_drewN | apply below_drew1) | exact HB.out)))); have n2_ := Aside0.mk (below_step (by repeat (first | (with_reducible first | exact HB.out | apply below_alloc | apply pw_below_drewN | apply below_drew1) | exact HB.out)) hb); clear HB; have HO519 := n0_; have HO521 := n1_; have HB := n2_; clear n0_ n1_ n2_; (try clear hb); (try clear hb2); (try clear hk); (try clear hi); (try clear ho0); (try clear ho1)) | ((with_reducible refine gate_dst (N := 23) rfl ?_); refine Kd.R_make (Kd.int .i64) _ 2 rfl (N := 23) rfl 22 _ _ rfl (l0.length : Int) rfl rfl Try.underlying22 (.int .i64 0) 8 info2 rfl (by decide) (by omega) 0 (ok := fun _ => True) (okp := fun _ => True) rfl (fun _ hk => hk) trivial (of_decide_eq_true (by first | (with_reducible assumption) | assumption)) (Nat.le_trans (Nat.mul_le_mul_right _ (of_decide_eq_true (by first | (with_reducible assumption) | assumption) : (l0.length : Int).toNat ≤ 35184372088832)) (by omega)) (Below.refl _ _) (Nat.le_refl _) ?_; intro v523 w9 ho10 hb hg_ hnew_; clear hg_ hnew_; (first | rw [← Ny522.out] at ho10 | (simp only [Int.reduceToNat] at ho10; rw [← Ny522.out] at ho10)); have n0_ := Aside0.mk (Kd.S_elder' (by (with_reducible repeat (first | apply Kd.S_alloc | apply Kd.S_drewN | apply Kd.S_drew)); exact HO519.out) (Kd.R_base ho10) hb); have n1_ := Aside0.mk (Kd.S_elder' (by (with_reducible repeat (first | apply Kd.S_alloc | apply Kd.S_drewN | apply Kd.S_drew)); exact HO521.out) (Kd.R_base ho10) hb); have n2_ := Aside0.mk (Kd.R_lower ho10 (below_size (by repeat (first | (with_reducible first | exact HB.out | apply below_alloc | apply pw_below_drewN | apply below_drew1) | exact HB.out)))); have n3_ := Aside0.mk (below_step (by repeat (first | (with_reducible first | exact HB.out | apply below_alloc | apply pw_below_drewN | apply below_drew1) | exact HB.out)) hb); clear HO519; clear HO521; clear HB; have HO519 := n0_; have HO521 := n1_; have HO524 := n2_; have HB := n3_; clear n0_ n1_ n2_ n3_; clear hb ho10)))
    go_loopg [8] k (fun kq v8 w' => ∃ (x7_1 : List Int) (x8_1 : Int), v8 = .int .i64 x8_1 ∧ Aside0 (spec_IsReachable.l0 kq l0 t516 t517 x7_1 x8_1 = some r) ∧ Aside0 (kq ≤ k) ∧ Aside0 (Kd.S (Kd.slice 2 (Kd.int .i64)) 22 w' w.heap.size (fun k_ => some k_ ≠ (v520 : Value).ownBlock ∧ some k_ ≠ (v523 : Value).ownBlock) v518 t516) ∧ Aside0 (Kd.S (Kd.slice 2 (Kd.int .i64)) 22 w' w.heap.size (fun k_ => some k_ ≠ (v518 : Value).ownBlock ∧ some k_ ≠ (v523 : Value).ownBlock) v520 t517) ∧ Aside0 (Kd.R (Kd.int .i64) 2 w' w.heap.size (fun _ => True) v523 x7_1) ∧ Aside0 (Below w.heap.size w w'))
    case atStart => exact ⟨(y522), (1), (by first | rfl | (simp; done) | (simp [*]; done)), H', ⟨Nat.le_refl _⟩, ⟨by (with_reducible repeat (first | apply Kd.S_alloc | apply Kd.S_drewN | apply Kd.S_drew)); exact HO519.out⟩, ⟨by (with_reducible repeat (first | apply Kd.S_alloc | apply Kd.S_drewN | apply Kd.S_drew)); exact HO521.out⟩, ⟨by (with_reducible repeat (first | apply Kd.R_alloc | apply Kd.R_drewN | apply Kd.R_drew)); exact HO524.out⟩, ⟨by repeat (first | (with_reducible first | exact HB.out | apply below_alloc | apply pw_below_drewN | apply below_drew1) | exact HB.out)⟩⟩
    case round =>
     clear H'
     try clear p2
     try clear c4
     try clear c6
     try clear c6b0
     try clear c6b1
     try clear c7
     try clear c7b0
     try clear c7b1
     obtain ⟨x7_1, x8_1, rfl, HA, HK1, HO_5, HO_6, HO_7, HB⟩ := hrel
     cases gk with
     | zero => exact absurd HA.out (by simp [spec_IsReachable.l0])
     | succ k1 =>
      have H := HA.out
      clear HA
      simp only [spec_IsReachable.l0] at H
      replace H := Option.bind_eq_some_iff.mp H
      obtain ⟨t525, A110, H⟩ := H
      replace H : (if x8_1 ≤ t525 then (spec_IsReachable.l1 k1 l0 t516 t517 x7_1 x8_1 (-1) 0) else (some true)) = some r := H
      have A11 := Aside0.mk A110
      clear A110
      by_cases c12 : x8_1 ≤ t525
      ·rw [if_pos c12] at H
       have c12b0 : decide (x8_1 ≤ t525) = true := decide_eq_true c12
       clear c12
       have H' := Aside0.mk H
       clear H
       go_wp2_with (first | (go_at_call 65; (with_reducible refine (spec_l01Sum.calls k1 _ _ l0 t525 _ ?side1 ?side2 A11.out).mono ?_); (case side1 => repeat (first | exact (Kd.C_below HR0.out HB.out) | (with_reducible refine Kd.C_alloc ?_ _) | (with_reducible refine Kd.C_drewN ?_ _) | (with_reducible refine Kd.C_drew ?_))); (case side2 => exact HC0.out); rintro e w' ⟨rfl, ⟨nd, rfl⟩⟩; (try first | exact ⟨rfl, _, World.drewN_drewN _ _ _⟩ | exact ⟨rfl, _, Eq.trans (World.drewN_drewN _ _ _) (congrArg (World.drewN _) (Nat.add_assoc _ _ _))⟩)))
       repeat (go_quiet (first | (go_at_call 65; (with_reducible refine (spec_l01Sum.calls k1 _ _ l0 t525 _ ?side1 ?side2 A11.out).mono ?_); (case side1 => repeat (first | exact (Kd.C_below HR0.out HB.out) | (with_reducible refine Kd.C_alloc ?_ _) | (with_reducible refine Kd.C_drewN ?_ _) | (with_reducible refine Kd.C_drew ?_))); (case side2 => exact HC0.out); rintro e w' ⟨rfl, ⟨nd, rfl⟩⟩; (try first | exact ⟨rfl, _, World.drewN_drewN _ _ _⟩ | exact ⟨rfl, _, Eq.trans (World.drewN_drewN _ _ _) (congrArg (World.drewN _) (Nat.add_assoc _ _ _))⟩))); try go_wp2_with (first | (go_at_call 65; (with_reducible refine (spec_l01Sum.calls k1 _ _ l0 t525 _ ?side1 ?side2 A11.out).mono ?_); (case side1 => repeat (first | exact (Kd.C_below HR0.out HB.out) | (with_reducible refine Kd.C_alloc ?_ _) | (with_reducible refine Kd.C_drewN ?_ _) | (with_reducible refine Kd.C_drew ?_))); (case side2 => exact HC0.out); rintro e w' ⟨rfl, ⟨nd, rfl⟩⟩; (try first | exact ⟨rfl, _, World.drewN_drewN _ _ _⟩ | exact ⟨rfl, _, Eq.trans (World.drewN_drewN _ _ _) (congrArg (World.drewN _) (Nat.add_assoc _ _ _))⟩))))
       go_loopg [9, 10] k1 (fun kq v9 v10 w' => ∃ (x9_2 : Int) (x10_2 : Int), v9 = .int .i64 x9_2 ∧ v10 = .int .i64 x10_2 ∧ Aside0 (spec_IsReachable.l1 kq l0 t516 t517 x7_1 x8_1 x9_2 x10_2 = some r) ∧ Aside0 (kq ≤ k1) ∧ Aside0 (Kd.S (Kd.slice 2 (Kd.int .i64)) 22 w' w.heap.size (fun k_ => some k_ ≠ (v520 : Value).ownBlock ∧ some k_ ≠ (v523 : Value).ownBlock) v518 t516) ∧ Aside0 (Kd.S (Kd.slice 2 (Kd.int .i64)) 22 w' w.heap.size (fun k_ => some k_ ≠ (v518 : Value).ownBlock ∧ some k_ ≠ (v523 : Value).ownBlock) v520 t517) ∧ Aside0 (Kd.R (Kd.int .i64) 2 w' w.heap.size (fun _ => True) v523 x7_1) ∧ Aside0 (Below w.heap.size w w'))
       case atStart => exact ⟨((-1)), (0), (by first | rfl | (simp; done) | (simp [*]; done)), (by first | rfl | (simp; done) | (simp [*]; done)), H', ⟨Nat.le_refl _⟩, ⟨by (with_reducible repeat (first | apply Kd.S_alloc | apply Kd.S_drewN | apply Kd.S_drew)); exact HO_5.out⟩, ⟨by (with_reducible repeat (first | apply Kd.S_alloc | apply Kd.S_drewN | apply Kd.S_drew)); exact HO_6.out⟩, ⟨by (with_reducible repeat (first | apply Kd.R_alloc | apply Kd.R_drewN | apply Kd.R_drew)); exact HO_7.out⟩, ⟨by repeat (first | (with_reducible first | exact HB.out | apply below_alloc | apply pw_below_drewN | apply below_drew1) | exact HB.out)⟩⟩
       case round =>
        clear H'
        try clear c1
        try clear p2
        try clear c4
        try clear c6
        try clear c6b0
        try clear c6b1
        try clear c7
        try clear c7b0
        try clear c7b1
        try clear c12
        try clear c12b0
        try clear p2
        obtain ⟨x9_2, x10_2, rfl, rfl, HA, HK2, HO_5, HO_6, HO_7, HB⟩ := hrel
        cases gk with
        | zero => exact absurd HA.out (by simp [spec_IsReachable.l1])
        | succ k2 =>
         have H := HA.out
         clear HA
         simp only [spec_IsReachable.l1] at H
         by_cases c13 : x10_2 < (l0.length : Int)
         ·rw [if_pos c13] at H
          have c13b0 : decide (x10_2 < (l0.length : Int)) = true := decide_eq_true c13
          clear c13
          by_cases c14 : 0 ≤ x10_2
          ·rw [if_pos c14] at H
           have c14b0 : decide (0 ≤ x10_2) = true := decide_eq_true c14
           clear c14
           by_cases c15 : x10_2 < (x7_1.length : Int)
           ·rw [if_pos c15] at H
            have c15b0 : decide (x10_2 < (x7_1.length : Int)) = true := decide_eq_true c15
            clear c15
            by_cases c16 : (rd x7_1 x10_2) < (rd l0 x10_2)
            ·rw [if_pos c16] at H
             have c16b0 : decide ((rd x7_1 x10_2) < (rd l0 x10_2)) = true := decide_eq_true c16
             clear c16
             by_cases c17 : x10_2 < (t516.length : Int)
             ·rw [if_pos c17] at H
              have c17b0 : decide (x10_2 < (t516.length : Int)) = true := decide_eq_true c17
              clear c17
              by_cases c18 : 0 ≤ (rd x7_1 x10_2)
              ·rw [if_pos c18] at H
               have c18b0 : decide (0 ≤ (rd x7_1 x10_2)) = true := decide_eq_true c18
               clear c18
               by_cases c19 : (rd x7_1 x10_2) < ((rd_L2 t516 x10_2).length : Int)
               ·rw [if_pos c19] at H
                have c19b0 : decide ((rd x7_1 x10_2) < ((rd_L2 t516 x10_2).length : Int)) = true := decide_eq_true c19
                clear c19
                by_cases c20 : (rd (rd_L2 t516 x10_2) (rd x7_1 x10_2)) ≤ x8_1
                ·rw [if_pos c20] at H
                 have c20b0 : decide ((rd (rd_L2 t516 x10_2) (rd x7_1 x10_2)) ≤ x8_1) = true := decide_eq_true c20
                 clear c20
                 by_cases c21 : x9_2 < 0
                 ·rw [if_pos c21] at H
                  have c21b0 : decide (x9_2 < 0) = true := decide_eq_true c21
                  clear c21
                  have H' := Aside0.mk H
                  clear H
                  obtain ⟨Ao22, co22, eo22⟩ := Kd.R_slice HO_7.out
                  subst eo22
                  have p526 : 0 ≤ (x10_2 : Int) := of_decide_eq_true (by first | (with_reducible assumption) | assumption)
                  have q526 : x10_2 < (x7_1.length : Int) := of_decide_eq_true (by first | (with_reducible assumption) | assumption)
                  obtain ⟨ad526, e526, hx526_0⟩ := Kd.at_int (Kd.R_reads' HO_7.out).2.2 x10_2 p526 q526
                  cases e526
                  replace p526 := eq_true p526
                  replace q526 := eq_true q526
                  have p527 : 0 ≤ (x10_2 : Int) := of_decide_eq_true (by first | (with_reducible assumption) | assumption)
                  have q527 : x10_2 < (l0.length : Int) := of_decide_eq_true (by first | (with_reducible assumption) | assumption)
                  obtain ⟨ad527, e527, hx527_0⟩ := Kd.at_int HR0.out x10_2 p527 q527
                  cases e527
                  replace hx527_0 := (HB.out.cell (World.block_lt_of_cell? w _ hx527_0)).trans hx527_0
                  replace p527 := eq_true p527
                  replace q527 := eq_true q527
                  obtain ⟨Ao23, co23, eo23⟩ := Kd.S_slice HO_5.out
                  subst eo23
                  have p528 : 0 ≤ (x10_2 : Int) := of_decide_eq_true (by first | (with_reducible assumption) | assumption)
                  have q528 : x10_2 < (t516.length : Int) := of_decide_eq_true (by first | (with_reducible assumption) | assumption)
                  (first | (obtain ⟨Aoz_, coz_, eoz_⟩ := Kd.S_slice HO_5.out; subst eoz_) | skip)
                  obtain ⟨ad528, A528_0, c528_0, e528, hx528_0, hl528_0, hi528_0⟩ := at_L2 (Kd.S_reads' HO_5.out).2.2 x10_2 p528 q528
                  cases e528
                  obtain ⟨ce528, hce528, hMe528, hcc528⟩ := Kd.S_get HO_5.out [] x10_2 p528 (by first | exact q528 | exact of_decide_eq_true (by first | (with_reducible assumption) | assumption) | (have e_ := (Kd.S_reads' HO_5.out).1; omega))
                  obtain ⟨ve528_0, rfl, ge528_0⟩ := hMe528
                  have hv528_0 := hcc528 0 _ rfl
                  rw [Nat.add_zero, show ((Kd.slice 2 (Kd.int .i64))).sz = 1 from rfl, Nat.mul_one] at hv528_0
                  replace hv528_0 := Option.some.inj (hv528_0.symm.trans hx528_0)
                  rw [hv528_0] at ge528_0
                  have HL528_0 := Aside0.mk (show Kd.R (Kd.int .i64) 2 _ _ _ _ (rd_L2 t516 x10_2) from ge528_0)
                  clear hv528_0 ge528_0
                  clear hcc528 hce528
                  have HR528_0 := Aside0.mk hi528_0
                  have HC528_0 := Aside0.mk hl528_0
                  clear hi528_0 hl528_0
                  replace p528 := eq_true p528
                  replace q528 := eq_true q528
                  have p529 : 0 ≤ (x10_2 : Int) := of_decide_eq_true (by first | (with_reducible assumption) | assumption)
                  have q529 : x10_2 < (x7_1.length : Int) := of_decide_eq_true (by first | (with_reducible assumption) | assumption)
                  obtain ⟨ad529, e529, hx529_0⟩ := Kd.at_int (Kd.R_reads' HO_7.out).2.2 x10_2 p529 q529
                  obtain rfl : ad526 = ad529 := (by injection e529)
                  replace p529 := eq_true p529
                  replace q529 := eq_true q529
                  have p530 : 0 ≤ ((rd x7_1 x10_2) : Int) := of_decide_eq_true (by first | (with_reducible assumption) | assumption)
                  have q530 : (rd x7_1 x10_2) < ((rd_L2 t516 x10_2).length : Int) := of_decide_eq_true (by first | (with_reducible assumption) | assumption)
                  obtain ⟨ad530, e530, hx530_0⟩ := Kd.at_int (by repeat (first | (with_reducible exact HR528_0.out) | (with_reducible refine Kd.C_alloc ?_ _) | (with_reducible refine Kd.C_drewN ?_ _) | (with_reducible refine Kd.C_drew ?_) | exact HR528_0.out)) (rd x7_1 x10_2) p530 q530
                  cases e530
                  replace p530 := eq_true p530
                  replace q530 := eq_true q530
                  go_wp2
                  repeat (go_quiet (fail); try go_wp2)
                  go_roundg k2
                  case measure => have := HK1.out; have := HK2.out; omega
                  case rel => exact ⟨(x10_2), (wrap64 (x10_2 + 1)), (by first | rfl | (simp; done) | (simp [*]; done)), (by first | rfl | (simp; done) | (simp [*]; done)), H', ⟨by have := HK1.out; have := HK2.out; omega⟩, ⟨by (with_reducible repeat (first | apply Kd.S_alloc | apply Kd.S_drewN | apply Kd.S_drew)); exact HO_5.out⟩, ⟨by (with_reducible repeat (first | apply Kd.S_alloc | apply Kd.S_drewN | apply Kd.S_drew)); exact HO_6.out⟩, ⟨by (with_reducible repeat (first | apply Kd.R_alloc | apply Kd.R_drewN | apply Kd.R_drew)); exact HO_7.out⟩, ⟨by repeat (first | (with_reducible first | exact HB.out | apply below_alloc | apply pw_below_drewN | apply below_drew1) | exact HB.out)⟩⟩
                 ·rw [if_neg c21] at H
                  have c21b0 : decide (x9_2 < 0) = false := decide_eq_false c21
                  clear c21
                  by_cases c24 : x10_2 < (t517.length : Int)
                  ·rw [if_pos c24] at H
                   have c24b0 : decide (x10_2 < (t517.length : Int)) = true := decide_eq_true c24
                   clear c24
                   by_cases c25 : (rd x7_1 x10_2) < ((rd_L2 t517 x10_2).length : Int)
                   ·rw [if_pos c25] at H
                    have c25b0 : decide ((rd x7_1 x10_2) < ((rd_L2 t517 x10_2).length : Int)) = true := decide_eq_true c25
                    clear c25
                    by_cases c26 : 0 ≤ x9_2
                    ·rw [if_pos c26] at H
                     have c26b0 : decide (0 ≤ x9_2) = true := decide_eq_true c26
                     clear c26
                     by_cases c27 : x9_2 < (t517.length : Int)
                     ·rw [if_pos c27] at H
                      have c27b0 : decide (x9_2 < (t517.length : Int)) = true := decide_eq_true c27
                      clear c27
                      by_cases c28 : x9_2 < (x7_1.length : Int)
                      ·rw [if_pos c28] at H
                       have c28b0 : decide (x9_2 < (x7_1.length : Int)) = true := decide_eq_true c28
                       clear c28
                       by_cases c29 : 0 ≤ (rd x7_1 x9_2)
                       ·rw [if_pos c29] at H
                        have c29b0 : decide (0 ≤ (rd x7_1 x9_2)) = true := decide_eq_true c29
                        clear c29
                        by_cases c30 : (rd x7_1 x9_2) < ((rd_L2 t517 x9_2).length : Int)
                        ·rw [if_pos c30] at H
                         have c30b0 : decide ((rd x7_1 x9_2) < ((rd_L2 t517 x9_2).length : Int)) = true := decide_eq_true c30
                         clear c30
                         by_cases c31 : (rd (rd_L2 t517 x10_2) (rd x7_1 x10_2)) < (rd (rd_L2 t517 x9_2) (rd x7_1 x9_2))
                         ·rw [if_pos c31] at H
                          have c31b0 : decide ((rd (rd_L2 t517 x10_2) (rd x7_1 x10_2)) < (rd (rd_L2 t517 x9_2) (rd x7_1 x9_2))) = true := decide_eq_true c31
                          clear c31
                          have H' := Aside0.mk H
                          clear H
                          obtain ⟨Ao32, co32, eo32⟩ := Kd.R_slice HO_7.out
                          subst eo32
                          have p526 : 0 ≤ (x10_2 : Int) := of_decide_eq_true (by first | (with_reducible assumption) | assumption)
                          have q526 : x10_2 < (x7_1.length : Int) := of_decide_eq_true (by first | (with_reducible assumption) | assumption)
                          obtain ⟨ad526, e526, hx526_0⟩ := Kd.at_int (Kd.R_reads' HO_7.out).2.2 x10_2 p526 q526
                          cases e526
                          replace p526 := eq_true p526
                          replace q526 := eq_true q526
                          have p527 : 0 ≤ (x10_2 : Int) := of_decide_eq_true (by first | (with_reducible assumption) | assumption)
                          have q527 : x10_2 < (l0.length : Int) := of_decide_eq_true (by first | (with_reducible assumption) | assumption)
                          obtain ⟨ad527, e527, hx527_0⟩ := Kd.at_int HR0.out x10_2 p527 q527
                          cases e527
                          replace hx527_0 := (HB.out.cell (World.block_lt_of_cell? w _ hx527_0)).trans hx527_0
                          replace p527 := eq_true p527
                          replace q527 := eq_true q527
                          obtain ⟨Ao33, co33, eo33⟩ := Kd.S_slice HO_5.out
                          subst eo33
                          have p528 : 0 ≤ (x10_2 : Int) := of_decide_eq_true (by first | (with_reducible assumption) | assumption)
                          have q528 : x10_2 < (t516.length : Int) := of_decide_eq_true (by first | (with_reducible assumption) | assumption)
                          (first | (obtain ⟨Aoz_, coz_, eoz_⟩ := Kd.S_slice HO_5.out; subst eoz_) | skip)
                          obtain ⟨ad528, A528_0, c528_0, e528, hx528_0, hl528_0, hi528_0⟩ := at_L2 (Kd.S_reads' HO_5.out).2.2 x10_2 p528 q528
                          cases e528
                          obtain ⟨ce528, hce528, hMe528, hcc528⟩ := Kd.S_get HO_5.out [] x10_2 p528 (by first | exact q528 | exact of_decide_eq_true (by first | (with_reducible assumption) | assumption) | (have e_ := (Kd.S_reads' HO_5.out).1; omega))
                          obtain ⟨ve528_0, rfl, ge528_0⟩ := hMe528
                          have hv528_0 := hcc528 0 _ rfl
                          rw [Nat.add_zero, show ((Kd.slice 2 (Kd.int .i64))).sz = 1 from rfl, Nat.mul_one] at hv528_0
                          replace hv528_0 := Option.some.inj (hv528_0.symm.trans hx528_0)
                          rw [hv528_0] at ge528_0
                          have HL528_0 := Aside0.mk (show Kd.R (Kd.int .i64) 2 _ _ _ _ (rd_L2 t516 x10_2) from ge528_0)
                          clear hv528_0 ge528_0
                          clear hcc528 hce528
                          have HR528_0 := Aside0.mk hi528_0
                          have HC528_0 := Aside0.mk hl528_0
                          clear hi528_0 hl528_0
                          replace p528 := eq_true p528
                          replace q528 := eq_true q528
                          have p529 : 0 ≤ (x10_2 : Int) := of_decide_eq_true (by first | (with_reducible assumption) | assumption)
                          have q529 : x10_2 < (x7_1.length : Int) := of_decide_eq_true (by first | (with_reducible assumption) | assumption)
                          obtain ⟨ad529, e529, hx529_0⟩ := Kd.at_int (Kd.R_reads' HO_7.out).2.2 x10_2 p529 q529
                          obtain rfl : ad526 = ad529 := (by injection e529)
                          replace p529 := eq_true p529
                          replace q529 := eq_true q529
                          have p530 : 0 ≤ ((rd x7_1 x10_2) : Int) := of_decide_eq_true (by first | (with_reducible assumption) | assumption)
                          have q530 : (rd x7_1 x10_2) < ((rd_L2 t516 x10_2).length : Int) := of_decide_eq_true (by first | (with_reducible assumption) | assumption)
                          obtain ⟨ad530, e530, hx530_0⟩ := Kd.at_int (by repeat (first | (with_reducible exact HR528_0.out) | (with_reducible refine Kd.C_alloc ?_ _) | (with_reducible refine Kd.C_drewN ?_ _) | (with_reducible refine Kd.C_drew ?_) | exact HR528_0.out)) (rd x7_1 x10_2) p530 q530
                          cases e530
                          replace p530 := eq_true p530
                          replace q530 := eq_true q530
                          obtain ⟨Ao34, co34, eo34⟩ := Kd.S_slice HO_6.out
                          subst eo34
                          have p531 : 0 ≤ (x10_2 : Int) := of_decide_eq_true (by first | (with_reducible assumption) | assumption)
                          have q531 : x10_2 < (t517.length : Int) := of_decide_eq_true (by first | (with_reducible assumption) | assumption)
                          (first | (obtain ⟨Aoz_, coz_, eoz_⟩ := Kd.S_slice HO_6.out; subst eoz_) | skip)
                          obtain ⟨ad531, A531_0, c531_0, e531, hx531_0, hl531_0, hi531_0⟩ := at_L2 (Kd.S_reads' HO_6.out).2.2 x10_2 p531 q531
                          cases e531
                          obtain ⟨ce531, hce531, hMe531, hcc531⟩ := Kd.S_get HO_6.out [] x10_2 p531 (by first | exact q531 | exact of_decide_eq_true (by first | (with_reducible assumption) | assumption) | (have e_ := (Kd.S_reads' HO_6.out).1; omega))
                          obtain ⟨ve531_0, rfl, ge531_0⟩ := hMe531
                          have hv531_0 := hcc531 0 _ rfl
                          rw [Nat.add_zero, show ((Kd.slice 2 (Kd.int .i64))).sz = 1 from rfl, Nat.mul_one] at hv531_0
                          replace hv531_0 := Option.some.inj (hv531_0.symm.trans hx531_0)
                          rw [hv531_0] at ge531_0
                          have HL531_0 := Aside0.mk (show Kd.R (Kd.int .i64) 2 _ _ _ _ (rd_L2 t517 x10_2) from ge531_0)
                          clear hv531_0 ge531_0
                          clear hcc531 hce531
                          have HR531_0 := Aside0.mk hi531_0
                          have HC531_0 := Aside0.mk hl531_0
                          clear hi531_0 hl531_0
                          replace p531 := eq_true p531
                          replace q531 := eq_true q531
                          have p532 : 0 ≤ (x10_2 : Int) := of_decide_eq_true (by first | (with_reducible assumption) | assumption)
                          have q532 : x10_2 < (x7_1.length : Int) := of_decide_eq_true (by first | (with_reducible assumption) | assumption)
                          obtain ⟨ad532, e532, hx532_0⟩ := Kd.at_int (Kd.R_reads' HO_7.out).2.2 x10_2 p532 q532
                          obtain rfl : ad526 = ad532 := (by injection e532)
                          replace p532 := eq_true p532
                          replace q532 := eq_true q532
                          have p533 : 0 ≤ ((rd x7_1 x10_2) : Int) := of_decide_eq_true (by first | (with_reducible assumption) | assumption)
                          have q533 : (rd x7_1 x10_2) < ((rd_L2 t517 x10_2).length : Int) := of_decide_eq_true (by first | (with_reducible assumption) | assumption)
                          obtain ⟨ad533, e533, hx533_0⟩ := Kd.at_int (by repeat (first | (with_reducible exact HR531_0.out) | (with_reducible refine Kd.C_alloc ?_ _) | (with_reducible refine Kd.C_drewN ?_ _) | (with_reducible refine Kd.C_drew ?_) | exact HR531_0.out)) (rd x7_1 x10_2) p533 q533
                          cases e533
                          replace p533 := eq_true p533
                          replace q533 := eq_true q533
                          have p534 : 0 ≤ (x9_2 : Int) := of_decide_eq_true (by first | (with_reducible assumption) | assumption)
                          have q534 : x9_2 < (t517.length : Int) := of_decide_eq_true (by first | (with_reducible assumption) | assumption)
                          (first | (obtain ⟨Aoz_, coz_, eoz_⟩ := Kd.S_slice HO_6.out; subst eoz_) | skip)
                          obtain ⟨ad534, A534_0, c534_0, e534, hx534_0, hl534_0, hi534_0⟩ := at_L2 (Kd.S_reads' HO_6.out).2.2 x9_2 p534 q534
                          obtain rfl : ad531 = ad534 := (by injection e534)
                          obtain ⟨ce534, hce534, hMe534, hcc534⟩ := Kd.S_get HO_6.out [] x9_2 p534 (by first | exact q534 | exact of_decide_eq_true (by first | (with_reducible assumption) | assumption) | (have e_ := (Kd.S_reads' HO_6.out).1; omega))
                          obtain ⟨ve534_0, rfl, ge534_0⟩ := hMe534
                          have hv534_0 := hcc534 0 _ rfl
                          rw [Nat.add_zero, show ((Kd.slice 2 (Kd.int .i64))).sz = 1 from rfl, Nat.mul_one] at hv534_0
                          replace hv534_0 := Option.some.inj (hv534_0.symm.trans hx534_0)
                          rw [hv534_0] at ge534_0
                          have HL534_0 := Aside0.mk (show Kd.R (Kd.int .i64) 2 _ _ _ _ (rd_L2 t517 x9_2) from ge534_0)
                          clear hv534_0 ge534_0
                          clear hcc534 hce534
                          have HR534_0 := Aside0.mk hi534_0
                          have HC534_0 := Aside0.mk hl534_0
                          clear hi534_0 hl534_0
                          replace p534 := eq_true p534
                          replace q534 := eq_true q534
                          have p535 : 0 ≤ (x9_2 : Int) := of_decide_eq_true (by first | (with_reducible assumption) | assumption)
                          have q535 : x9_2 < (x7_1.length : Int) := of_decide_eq_true (by first | (with_reducible assumption) | assumption)
                          obtain ⟨ad535, e535, hx535_0⟩ := Kd.at_int (Kd.R_reads' HO_7.out).2.2 x9_2 p535 q535
                          obtain rfl : ad526 = ad535 := (by injection e535)
                          replace p535 := eq_true p535
                          replace q535 := eq_true q535
                          have p536 : 0 ≤ ((rd x7_1 x9_2) : Int) := of_decide_eq_true (by first | (with_reducible assumption) | assumption)
                          have q536 : (rd x7_1 x9_2) < ((rd_L2 t517 x9_2).length : Int) := of_decide_eq_true (by first | (with_reducible assumption) | assumption)
                          obtain ⟨ad536, e536, hx536_0⟩ := Kd.at_int (by repeat (first | (with_reducible exact HR534_0.out) | (with_reducible refine Kd.C_alloc ?_ _) | (with_reducible refine Kd.C_drewN ?_ _) | (with_reducible refine Kd.C_drew ?_) | exact HR534_0.out)) (rd x7_1 x9_2) p536 q536
                          cases e536
                          replace p536 := eq_true p536
                          replace q536 := eq_true q536
                          go_wp2
                          repeat (go_quiet (fail); try go_wp2)
                          go_roundg k2
                          case measure => have := HK1.out; have := HK2.out; omega
                          case rel => exact ⟨(x10_2), (wrap64 (x10_2 + 1)), (by first | rfl | (simp; done) | (simp [*]; done)), (by first | rfl | (simp; done) | (simp [*]; done)), H', ⟨by have := HK1.out; have := HK2.out; omega⟩, ⟨by (with_reducible repeat (first | apply Kd.S_alloc | apply Kd.S_drewN | apply Kd.S_drew)); exact HO_5.out⟩, ⟨by (with_reducible repeat (first | apply Kd.S_alloc | apply Kd.S_drewN | apply Kd.S_drew)); exact HO_6.out⟩, ⟨by (with_reducible repeat (first | apply Kd.R_alloc | apply Kd.R_drewN | apply Kd.R_drew)); exact HO_7.out⟩, ⟨by repeat (first | (with_reducible first | exact HB.out | apply below_alloc | apply pw_below_drewN | apply below_drew1) | exact HB.out)⟩⟩
                         ·rw [if_neg c31] at H
                          have c31b0 : decide ((rd (rd_L2 t517 x10_2) (rd x7_1 x10_2)) < (rd (rd_L2 t517 x9_2) (rd x7_1 x9_2))) = false := decide_eq_false c31
                          clear c31
                          have H' := Aside0.mk H
                          clear H
                          obtain ⟨Ao35, co35, eo35⟩ := Kd.R_slice HO_7.out
                          subst eo35
                          have p526 : 0 ≤ (x10_2 : Int) := of_decide_eq_true (by first | (with_reducible assumption) | assumption)
                          have q526 : x10_2 < (x7_1.length : Int) := of_decide_eq_true (by first | (with_reducible assumption) | assumption)
                          obtain ⟨ad526, e526, hx526_0⟩ := Kd.at_int (Kd.R_reads' HO_7.out).2.2 x10_2 p526 q526
                          cases e526
                          replace p526 := eq_true p526
                          replace q526 := eq_true q526
                          have p527 : 0 ≤ (x10_2 : Int) := of_decide_eq_true (by first | (with_reducible assumption) | assumption)
                          have q527 : x10_2 < (l0.length : Int) := of_decide_eq_true (by first | (with_reducible assumption) | assumption)
                          obtain ⟨ad527, e527, hx527_0⟩ := Kd.at_int HR0.out x10_2 p527 q527
                          cases e527
                          replace hx527_0 := (HB.out.cell (World.block_lt_of_cell? w _ hx527_0)).trans hx527_0
                          replace p527 := eq_true p527
                          replace q527 := eq_true q527
                          obtain ⟨Ao36, co36, eo36⟩ := Kd.S_slice HO_5.out
                          subst eo36
                          have p528 : 0 ≤ (x10_2 : Int) := of_decide_eq_true (by first | (with_reducible assumption) | assumption)
                          have q528 : x10_2 < (t516.length : Int) := of_decide_eq_true (by first | (with_reducible assumption) | assumption)
                          (first | (obtain ⟨Aoz_, coz_, eoz_⟩ := Kd.S_slice HO_5.out; subst eoz_) | skip)
                          obtain ⟨ad528, A528_0, c528_0, e528, hx528_0, hl528_0, hi528_0⟩ := at_L2 (Kd.S_reads' HO_5.out).2.2 x10_2 p528 q528
                          cases e528
                          obtain ⟨ce528, hce528, hMe528, hcc528⟩ := Kd.S_get HO_5.out [] x10_2 p528 (by first | exact q528 | exact of_decide_eq_true (by first | (with_reducible assumption) | assumption) | (have e_ := (Kd.S_reads' HO_5.out).1; omega))
                          obtain ⟨ve528_0, rfl, ge528_0⟩ := hMe528
                          have hv528_0 := hcc528 0 _ rfl
                          rw [Nat.add_zero, show ((Kd.slice 2 (Kd.int .i64))).sz = 1 from rfl, Nat.mul_one] at hv528_0
                          replace hv528_0 := Option.some.inj (hv528_0.symm.trans hx528_0)
                          rw [hv528_0] at ge528_0
                          have HL528_0 := Aside0.mk (show Kd.R (Kd.int .i64) 2 _ _ _ _ (rd_L2 t516 x10_2) from ge528_0)
                          clear hv528_0 ge528_0
                          clear hcc528 hce528
                          have HR528_0 := Aside0.mk hi528_0
                          have HC528_0 := Aside0.mk hl528_0
                          clear hi528_0 hl528_0
                          replace p528 := eq_true p528
                          replace q528 := eq_true q528
                          have p529 : 0 ≤ (x10_2 : Int) := of_decide_eq_true (by first | (with_reducible assumption) | assumption)
                          have q529 : x10_2 < (x7_1.length : Int) := of_decide_eq_true (by first | (with_reducible assumption) | assumption)
                          obtain ⟨ad529, e529, hx529_0⟩ := Kd.at_int (Kd.R_reads' HO_7.out).2.2 x10_2 p529 q529
                          obtain rfl : ad526 = ad529 := (by injection e529)
                          replace p529 := eq_true p529
                          replace q529 := eq_true q529
                          have p530 : 0 ≤ ((rd x7_1 x10_2) : Int) := of_decide_eq_true (by first | (with_reducible assumption) | assumption)
                          have q530 : (rd x7_1 x10_2) < ((rd_L2 t516 x10_2).length : Int) := of_decide_eq_true (by first | (with_reducible assumption) | assumption)
                          obtain ⟨ad530, e530, hx530_0⟩ := Kd.at_int (by repeat (first | (with_reducible exact HR528_0.out) | (with_reducible refine Kd.C_alloc ?_ _) | (with_reducible refine Kd.C_drewN ?_ _) | (with_reducible refine Kd.C_drew ?_) | exact HR528_0.out)) (rd x7_1 x10_2) p530 q530
                          cases e530
                          replace p530 := eq_true p530
                          replace q530 := eq_true q530
                          obtain ⟨Ao37, co37, eo37⟩ := Kd.S_slice HO_6.out
                          subst eo37
                          have p531 : 0 ≤ (x10_2 : Int) := of_decide_eq_true (by first | (with_reducible assumption) | assumption)
                          have q531 : x10_2 < (t517.length : Int) := of_decide_eq_true (by first | (with_reducible assumption) | assumption)
                          (first | (obtain ⟨Aoz_, coz_, eoz_⟩ := Kd.S_slice HO_6.out; subst eoz_) | skip)
                          obtain ⟨ad531, A531_0, c531_0, e531, hx531_0, hl531_0, hi531_0⟩ := at_L2 (Kd.S_reads' HO_6.out).2.2 x10_2 p531 q531
                          cases e531
                          obtain ⟨ce531, hce531, hMe531, hcc531⟩ := Kd.S_get HO_6.out [] x10_2 p531 (by first | exact q531 | exact of_decide_eq_true (by first | (with_reducible assumption) | assumption) | (have e_ := (Kd.S_reads' HO_6.out).1; omega))
                          obtain ⟨ve531_0, rfl, ge531_0⟩ := hMe531
                          have hv531_0 := hcc531 0 _ rfl
                          rw [Nat.add_zero, show ((Kd.slice 2 (Kd.int .i64))).sz = 1 from rfl, Nat.mul_one] at hv531_0
                          replace hv531_0 := Option.some.inj (hv531_0.symm.trans hx531_0)
                          rw [hv531_0] at ge531_0
                          have HL531_0 := Aside0.mk (show Kd.R (Kd.int .i64) 2 _ _ _ _ (rd_L2 t517 x10_2) from ge531_0)
                          clear hv531_0 ge531_0
                          clear hcc531 hce531
                          have HR531_0 := Aside0.mk hi531_0
                          have HC531_0 := Aside0.mk hl531_0
                          clear hi531_0 hl531_0
                          replace p531 := eq_true p531
                          replace q531 := eq_true q531
                          have p532 : 0 ≤ (x10_2 : Int) := of_decide_eq_true (by first | (with_reducible assumption) | assumption)
                          have q532 : x10_2 < (x7_1.length : Int) := of_decide_eq_true (by first | (with_reducible assumption) | assumption)
                          obtain ⟨ad532, e532, hx532_0⟩ := Kd.at_int (Kd.R_reads' HO_7.out).2.2 x10_2 p532 q532
                          obtain rfl : ad526 = ad532 := (by injection e532)
                          replace p532 := eq_true p532
                          replace q532 := eq_true q532
                          have p533 : 0 ≤ ((rd x7_1 x10_2) : Int) := of_decide_eq_true (by first | (with_reducible assumption) | assumption)
                          have q533 : (rd x7_1 x10_2) < ((rd_L2 t517 x10_2).length : Int) := of_decide_eq_true (by first | (with_reducible assumption) | assumption)
                          obtain ⟨ad533, e533, hx533_0⟩ := Kd.at_int (by repeat (first | (with_reducible exact HR531_0.out) | (with_reducible refine Kd.C_alloc ?_ _) | (with_reducible refine Kd.C_drewN ?_ _) | (with_reducible refine Kd.C_drew ?_) | exact HR531_0.out)) (rd x7_1 x10_2) p533 q533
                          cases e533
                          replace p533 := eq_true p533
                          replace q533 := eq_true q533
                          have p534 : 0 ≤ (x9_2 : Int) := of_decide_eq_true (by first | (with_reducible assumption) | assumption)
                          have q534 : x9_2 < (t517.length : Int) := of_decide_eq_true (by first | (with_reducible assumption) | assumption)
                          (first | (obtain ⟨Aoz_, coz_, eoz_⟩ := Kd.S_slice HO_6.out; subst eoz_) | skip)
                          obtain ⟨ad534, A534_0, c534_0, e534, hx534_0, hl534_0, hi534_0⟩ := at_L2 (Kd.S_reads' HO_6.out).2.2 x9_2 p534 q534
                          obtain rfl : ad531 = ad534 := (by injection e534)
                          obtain ⟨ce534, hce534, hMe534, hcc534⟩ := Kd.S_get HO_6.out [] x9_2 p534 (by first | exact q534 | exact of_decide_eq_true (by first | (with_reducible assumption) | assumption) | (have e_ := (Kd.S_reads' HO_6.out).1; omega))
                          obtain ⟨ve534_0, rfl, ge534_0⟩ := hMe534
                          have hv534_0 := hcc534 0 _ rfl
                          rw [Nat.add_zero, show ((Kd.slice 2 (Kd.int .i64))).sz = 1 from rfl, Nat.mul_one] at hv534_0
                          replace hv534_0 := Option.some.inj (hv534_0.symm.trans hx534_0)
                          rw [hv534_0] at ge534_0
                          have HL534_0 := Aside0.mk (show Kd.R (Kd.int .i64) 2 _ _ _ _ (rd_L2 t517 x9_2) from ge534_0)
                          clear hv534_0 ge534_0
                          clear hcc534 hce534
                          have HR534_0 := Aside0.mk hi534_0
                          have HC534_0 := Aside0.mk hl534_0
                          clear hi534_0 hl534_0
                          replace p534 := eq_true p534
                          replace q534 := eq_true q534
                          have p535 : 0 ≤ (x9_2 : Int) := of_decide_eq_true (by first | (with_reducible assumption) | assumption)
                          have q535 : x9_2 < (x7_1.length : Int) := of_decide_eq_true (by first | (with_reducible assumption) | assumption)
                          obtain ⟨ad535, e535, hx535_0⟩ := Kd.at_int (Kd.R_reads' HO_7.out).2.2 x9_2 p535 q535
                          obtain rfl : ad526 = ad535 := (by injection e535)
                          replace p535 := eq_true p535
                          replace q535 := eq_true q535
                          have p536 : 0 ≤ ((rd x7_1 x9_2) : Int) := of_decide_eq_true (by first | (with_reducible assumption) | assumption)
                          have q536 : (rd x7_1 x9_2) < ((rd_L2 t517 x9_2).length : Int) := of_decide_eq_true (by first | (with_reducible assumption) | assumption)
                          obtain ⟨ad536, e536, hx536_0⟩ := Kd.at_int (by repeat (first | (with_reducible exact HR534_0.out) | (with_reducible refine Kd.C_alloc ?_ _) | (with_reducible refine Kd.C_drewN ?_ _) | (with_reducible refine Kd.C_drew ?_) | exact HR534_0.out)) (rd x7_1 x9_2) p536 q536
                          cases e536
                          replace p536 := eq_true p536
                          replace q536 := eq_true q536
                          go_wp2
                          repeat (go_quiet (fail); try go_wp2)
                          go_roundg k2
                          case measure => have := HK1.out; have := HK2.out; omega
                          case rel => exact ⟨(x9_2), (wrap64 (x10_2 + 1)), (by first | rfl | (simp; done) | (simp [*]; done)), (by first | rfl | (simp; done) | (simp [*]; done)), H', ⟨by have := HK1.out; have := HK2.out; omega⟩, ⟨by (with_reducible repeat (first | apply Kd.S_alloc | apply Kd.S_drewN | apply Kd.S_drew)); exact HO_5.out⟩, ⟨by (with_reducible repeat (first | apply Kd.S_alloc | apply Kd.S_drewN | apply Kd.S_drew)); exact HO_6.out⟩, ⟨by (with_reducible repeat (first | apply Kd.R_alloc | apply Kd.R_drewN | apply Kd.R_drew)); exact HO_7.out⟩, ⟨by repeat (first | (with_reducible first | exact HB.out | apply below_alloc | apply pw_below_drewN | apply below_drew1) | exact HB.out)⟩⟩
                        ·rw [if_neg c30] at H
                         exact absurd H (by simp)
                       ·rw [if_neg c29] at H
                        exact absurd H (by simp)
                      ·rw [if_neg c28] at H
                       exact absurd H (by simp)
                     ·rw [if_neg c27] at H
                      exact absurd H (by simp)
                    ·rw [if_neg c26] at H
                     exact absurd H (by simp)
                   ·rw [if_neg c25] at H
                    exact absurd H (by simp)
                  ·rw [if_neg c24] at H
                   exact absurd H (by simp)
                ·rw [if_neg c20] at H
                 have c20b0 : decide ((rd (rd_L2 t516 x10_2) (rd x7_1 x10_2)) ≤ x8_1) = false := decide_eq_false c20
                 clear c20
                 have H' := Aside0.mk H
                 clear H
                 obtain ⟨Ao38, co38, eo38⟩ := Kd.R_slice HO_7.out
                 subst eo38
                 have p526 : 0 ≤ (x10_2 : Int) := of_decide_eq_true (by first | (with_reducible assumption) | assumption)
                 have q526 : x10_2 < (x7_1.length : Int) := of_decide_eq_true (by first | (with_reducible assumption) | assumption)
                 obtain ⟨ad526, e526, hx526_0⟩ := Kd.at_int (Kd.R_reads' HO_7.out).2.2 x10_2 p526 q526
                 cases e526
                 replace p526 := eq_true p526
                 replace q526 := eq_true q526
                 have p527 : 0 ≤ (x10_2 : Int) := of_decide_eq_true (by first | (with_reducible assumption) | assumption)
                 have q527 : x10_2 < (l0.length : Int) := of_decide_eq_true (by first | (with_reducible assumption) | assumption)
                 obtain ⟨ad527, e527, hx527_0⟩ := Kd.at_int HR0.out x10_2 p527 q527
                 cases e527
                 replace hx527_0 := (HB.out.cell (World.block_lt_of_cell? w _ hx527_0)).trans hx527_0
                 replace p527 := eq_true p527
                 replace q527 := eq_true q527
                 obtain ⟨Ao39, co39, eo39⟩ := Kd.S_slice HO_5.out
                 subst eo39
                 have p528 : 0 ≤ (x10_2 : Int) := of_decide_eq_true (by first | (with_reducible assumption) | assumption)
                 have q528 : x10_2 < (t516.length : Int) := of_decide_eq_true (by first | (with_reducible assumption) | assumption)
                 (first | (obtain ⟨Aoz_, coz_, eoz_⟩ := Kd.S_slice HO_5.out; subst eoz_) | skip)
                 obtain ⟨ad528, A528_0, c528_0, e528, hx528_0, hl528_0, hi528_0⟩ := at_L2 (Kd.S_reads' HO_5.out).2.2 x10_2 p528 q528
                 cases e528
                 obtain ⟨ce528, hce528, hMe528, hcc528⟩ := Kd.S_get HO_5.out [] x10_2 p528 (by first | exact q528 | exact of_decide_eq_true (by first | (with_reducible assumption) | assumption) | (have e_ := (Kd.S_reads' HO_5.out).1; omega))
                 obtain ⟨ve528_0, rfl, ge528_0⟩ := hMe528
                 have hv528_0 := hcc528 0 _ rfl
                 rw [Nat.add_zero, show ((Kd.slice 2 (Kd.int .i64))).sz = 1 from rfl, Nat.mul_one] at hv528_0
                 replace hv528_0 := Option.some.inj (hv528_0.symm.trans hx528_0)
                 rw [hv528_0] at ge528_0
                 have HL528_0 := Aside0.mk (show Kd.R (Kd.int .i64) 2 _ _ _ _ (rd_L2 t516 x10_2) from ge528_0)
                 clear hv528_0 ge528_0
                 clear hcc528 hce528
                 have HR528_0 := Aside0.mk hi528_0
                 have HC528_0 := Aside0.mk hl528_0
                 clear hi528_0 hl528_0
                 replace p528 := eq_true p528
                 replace q528 := eq_true q528
                 have p529 : 0 ≤ (x10_2 : Int) := of_decide_eq_true (by first | (with_reducible assumption) | assumption)
                 have q529 : x10_2 < (x7_1.length : Int) := of_decide_eq_true (by first | (with_reducible assumption) | assumption)
                 obtain ⟨ad529, e529, hx529_0⟩ := Kd.at_int (Kd.R_reads' HO_7.out).2.2 x10_2 p529 q529
                 obtain rfl : ad526 = ad529 := (by injection e529)
                 replace p529 := eq_true p529
                 replace q529 := eq_true q529
                 have p530 : 0 ≤ ((rd x7_1 x10_2) : Int) := of_decide_eq_true (by first | (with_reducible assumption) | assumption)
                 have q530 : (rd x7_1 x10_2) < ((rd_L2 t516 x10_2).length : Int) := of_decide_eq_true (by first | (with_reducible assumption) | assumption)
                 obtain ⟨ad530, e530, hx530_0⟩ := Kd.at_int (by repeat (first | (with_reducible exact HR528_0.out) | (with_reducible refine Kd.C_alloc ?_ _) | (with_reducible refine Kd.C_drewN ?_ _) | (with_reducible refine Kd.C_drew ?_) | exact HR528_0.out)) (rd x7_1 x10_2) p530 q530
                 cases e530
                 replace p530 := eq_true p530
                 replace q530 := eq_true q530
                 go_wp2
                 repeat (go_quiet (fail); try go_wp2)
                 go_roundg k2
                 case measure => have := HK1.out; have := HK2.out; omega
                 case rel => exact ⟨(x9_2), (wrap64 (x10_2 + 1)), (by first | rfl | (simp; done) | (simp [*]; done)), (by first | rfl | (simp; done) | (simp [*]; done)), H', ⟨by have := HK1.out; have := HK2.out; omega⟩, ⟨by (with_reducible repeat (first | apply Kd.S_alloc | apply Kd.S_drewN | apply Kd.S_drew)); exact HO_5.out⟩, ⟨by (with_reducible repeat (first | apply Kd.S_alloc | apply Kd.S_drewN | apply Kd.S_drew)); exact HO_6.out⟩, ⟨by (with_reducible repeat (first | apply Kd.R_alloc | apply Kd.R_drewN | apply Kd.R_drew)); exact HO_7.out⟩, ⟨by repeat (first | (with_reducible first | exact HB.out | apply below_alloc | apply pw_below_drewN | apply below_drew1) | exact HB.out)⟩⟩
               ·rw [if_neg c19] at H
                exact absurd H (by simp)
              ·rw [if_neg c18] at H
               exact absurd H (by simp)
             ·rw [if_neg c17] at H
              exact absurd H (by simp)
            ·rw [if_neg c16] at H
             have c16b0 : decide ((rd x7_1 x10_2) < (rd l0 x10_2)) = false := decide_eq_false c16
             clear c16
             have H' := Aside0.mk H
             clear H
             obtain ⟨Ao40, co40, eo40⟩ := Kd.R_slice HO_7.out
             subst eo40
             have p526 : 0 ≤ (x10_2 : Int) := of_decide_eq_true (by first | (with_reducible assumption) | assumption)
             have q526 : x10_2 < (x7_1.length : Int) := of_decide_eq_true (by first | (with_reducible assumption) | assumption)
             obtain ⟨ad526, e526, hx526_0⟩ := Kd.at_int (Kd.R_reads' HO_7.out).2.2 x10_2 p526 q526
             cases e526
             replace p526 := eq_true p526
             replace q526 := eq_true q526
             have p527 : 0 ≤ (x10_2 : Int) := of_decide_eq_true (by first | (with_reducible assumption) | assumption)
             have q527 : x10_2 < (l0.length : Int) := of_decide_eq_true (by first | (with_reducible assumption) | assumption)
             obtain ⟨ad527, e527, hx527_0⟩ := Kd.at_int HR0.out x10_2 p527 q527
             cases e527
             replace hx527_0 := (HB.out.cell (World.block_lt_of_cell? w _ hx527_0)).trans hx527_0
             replace p527 := eq_true p527
             replace q527 := eq_true q527
             go_wp2
             repeat (go_quiet (fail); try go_wp2)
             go_roundg k2
             case measure => have := HK1.out; have := HK2.out; omega
             case rel => exact ⟨(x9_2), (wrap64 (x10_2 + 1)), (by first | rfl | (simp; done) | (simp [*]; done)), (by first | rfl | (simp; done) | (simp [*]; done)), H', ⟨by have := HK1.out; have := HK2.out; omega⟩, ⟨by (with_reducible repeat (first | apply Kd.S_alloc | apply Kd.S_drewN | apply Kd.S_drew)); exact HO_5.out⟩, ⟨by (with_reducible repeat (first | apply Kd.S_alloc | apply Kd.S_drewN | apply Kd.S_drew)); exact HO_6.out⟩, ⟨by (with_reducible repeat (first | apply Kd.R_alloc | apply Kd.R_drewN | apply Kd.R_drew)); exact HO_7.out⟩, ⟨by repeat (first | (with_reducible first | exact HB.out | apply below_alloc | apply pw_below_drewN | apply below_drew1) | exact HB.out)⟩⟩
           ·rw [if_neg c15] at H
            exact absurd H (by simp)
          ·rw [if_neg c14] at H
           exact absurd H (by simp)
         ·rw [if_neg c13] at H
          have c13b0 : decide (x10_2 < (l0.length : Int)) = false := decide_eq_false c13
          clear c13
          by_cases c41 : x9_2 < 0
          ·rw [if_pos c41] at H
           have c41b0 : decide (x9_2 < 0) = true := decide_eq_true c41
           clear c41
           obtain rfl := Option.some.inj H
           go_wp2
           repeat (go_quiet (fail); try go_wp2)
           go_ret
           exact ⟨by first | rfl | (simp [errW_none, errW_some] <;> rfl) | (simp [*, errW_none, errW_some] <;> rfl), by repeat (first | (with_reducible first | exact HB.out | apply below_alloc | apply pw_below_drewN | apply below_drew1) | exact HB.out)⟩
          ·rw [if_neg c41] at H
           have c41b0 : decide (x9_2 < 0) = false := decide_eq_false c41
           clear c41
           by_cases c42 : 0 ≤ x9_2
           ·rw [if_pos c42] at H
            have c42b0 : decide (0 ≤ x9_2) = true := decide_eq_true c42
            clear c42
            by_cases c43 : x9_2 < (t517.length : Int)
            ·rw [if_pos c43] at H
             have c43b0 : decide (x9_2 < (t517.length : Int)) = true := decide_eq_true c43
             clear c43
             by_cases c44 : x9_2 < (x7_1.length : Int)
             ·rw [if_pos c44] at H
              have c44b0 : decide (x9_2 < (x7_1.length : Int)) = true := decide_eq_true c44
              clear c44
              by_cases c45 : 0 ≤ (rd x7_1 x9_2)
              ·rw [if_pos c45] at H
               have c45b0 : decide (0 ≤ (rd x7_1 x9_2)) = true := decide_eq_true c45
               clear c45
               by_cases c46 : (rd x7_1 x9_2) < ((rd_L2 t517 x9_2).length : Int)
               ·rw [if_pos c46] at H
                have c46b0 : decide ((rd x7_1 x9_2) < ((rd_L2 t517 x9_2).length : Int)) = true := decide_eq_true c46
                clear c46
                by_cases c47 : (rd (rd_L2 t517 x9_2) (rd x7_1 x9_2)) < x8_1
                ·rw [if_pos c47] at H
                 have c47b0 : decide ((rd (rd_L2 t517 x9_2) (rd x7_1 x9_2)) < x8_1) = true := decide_eq_true c47
                 clear c47
                 obtain rfl := Option.some.inj H
                 obtain ⟨Ao48, co48, eo48⟩ := Kd.S_slice HO_6.out
                 subst eo48
                 have p537 : 0 ≤ (x9_2 : Int) := of_decide_eq_true (by first | (with_reducible assumption) | assumption)
                 have q537 : x9_2 < (t517.length : Int) := of_decide_eq_true (by first | (with_reducible assumption) | assumption)
                 (first | (obtain ⟨Aoz_, coz_, eoz_⟩ := Kd.S_slice HO_6.out; subst eoz_) | skip)
                 obtain ⟨ad537, A537_0, c537_0, e537, hx537_0, hl537_0, hi537_0⟩ := at_L2 (Kd.S_reads' HO_6.out).2.2 x9_2 p537 q537
                 cases e537
                 obtain ⟨ce537, hce537, hMe537, hcc537⟩ := Kd.S_get HO_6.out [] x9_2 p537 (by first | exact q537 | exact of_decide_eq_true (by first | (with_reducible assumption) | assumption) | (have e_ := (Kd.S_reads' HO_6.out).1; omega))
                 obtain ⟨ve537_0, rfl, ge537_0⟩ := hMe537
                 have hv537_0 := hcc537 0 _ rfl
                 rw [Nat.add_zero, show ((Kd.slice 2 (Kd.int .i64))).sz = 1 from rfl, Nat.mul_one] at hv537_0
                 replace hv537_0 := Option.some.inj (hv537_0.symm.trans hx537_0)
                 rw [hv537_0] at ge537_0
                 have HL537_0 := Aside0.mk (show Kd.R (Kd.int .i64) 2 _ _ _ _ (rd_L2 t517 x9_2) from ge537_0)
                 clear hv537_0 ge537_0
                 clear hcc537 hce537
                 have HR537_0 := Aside0.mk hi537_0
                 have HC537_0 := Aside0.mk hl537_0
                 clear hi537_0 hl537_0
                 replace p537 := eq_true p537
                 replace q537 := eq_true q537
                 obtain ⟨Ao49, co49, eo49⟩ := Kd.R_slice HO_7.out
                 subst eo49
                 have p538 : 0 ≤ (x9_2 : Int) := of_decide_eq_true (by first | (with_reducible assumption) | assumption)
                 have q538 : x9_2 < (x7_1.length : Int) := of_decide_eq_true (by first | (with_reducible assumption) | assumption)
                 obtain ⟨ad538, e538, hx538_0⟩ := Kd.at_int (Kd.R_reads' HO_7.out).2.2 x9_2 p538 q538
                 cases e538
                 replace p538 := eq_true p538
                 replace q538 := eq_true q538
                 have p539 : 0 ≤ ((rd x7_1 x9_2) : Int) := of_decide_eq_true (by first | (with_reducible assumption) | assumption)
                 have q539 : (rd x7_1 x9_2) < ((rd_L2 t517 x9_2).length : Int) := of_decide_eq_true (by first | (with_reducible assumption) | assumption)
                 obtain ⟨ad539, e539, hx539_0⟩ := Kd.at_int (by repeat (first | (with_reducible exact HR537_0.out) | (with_reducible refine Kd.C_alloc ?_ _) | (with_reducible refine Kd.C_drewN ?_ _) | (with_reducible refine Kd.C_drew ?_) | exact HR537_0.out)) (rd x7_1 x9_2) p539 q539
                 cases e539
                 replace p539 := eq_true p539
                 replace q539 := eq_true q539
                 go_wp2
                 repeat (go_quiet (fail); try go_wp2)
                 go_ret
                 exact ⟨by first | rfl | (simp [errW_none, errW_some] <;> rfl) | (simp [*, errW_none, errW_some] <;> rfl), by repeat (first | (with_reducible first | exact HB.out | apply below_alloc | apply pw_below_drewN | apply below_drew1) | exact HB.out)⟩
                ·rw [if_neg c47] at H
                 have c47b0 : decide ((rd (rd_L2 t517 x9_2) (rd x7_1 x9_2)) < x8_1) = false := decide_eq_false c47
                 clear c47
                 obtain ⟨y541, hy541⟩ : ∃ y_ : List Int, y_ = (x7_1.set (x9_2 : Int).toNat (wrap64 ((rd x7_1 x9_2) + 1))) := ⟨_, rfl⟩
                 replace H : (spec_IsReachable.l0 k2 l0 t516 t517 y541 (wrap64 (x8_1 + 1))) = some r := by first | (rw [hy541]; with_reducible exact H) | (have H2_ := (Option.bind_some _ _).symm.trans H; rw [hy541]; with_reducible exact H2_) | (have H2_ := (Option.bind_some _ _).symm.trans H; with_reducible exact H2_) | with_reducible exact H | (rw [hy541]; exact H) | exact H
                 have Ny541 := Aside0.mk hy541
                 clear hy541
                 have H' := Aside0.mk H
                 clear H
                 obtain ⟨Ao51, co51, eo51⟩ := Kd.S_slice HO_6.out
                 subst eo51
                 have p537 : 0 ≤ (x9_2 : Int) := of_decide_eq_true (by first | (with_reducible assumption) | assumption)
                 have q537 : x9_2 < (t517.length : Int) := of_decide_eq_true (by first | (with_reducible assumption) | assumption)
                 (first | (obtain ⟨Aoz_, coz_, eoz_⟩ := Kd.S_slice HO_6.out; subst eoz_) | skip)
                 obtain ⟨ad537, A537_0, c537_0, e537, hx537_0, hl537_0, hi537_0⟩ := at_L2 (Kd.S_reads' HO_6.out).2.2 x9_2 p537 q537
                 cases e537
                 obtain ⟨ce537, hce537, hMe537, hcc537⟩ := Kd.S_get HO_6.out [] x9_2 p537 (by first | exact q537 | exact of_decide_eq_true (by first | (with_reducible assumption) | assumption) | (have e_ := (Kd.S_reads' HO_6.out).1; omega))
                 obtain ⟨ve537_0, rfl, ge537_0⟩ := hMe537
                 have hv537_0 := hcc537 0 _ rfl
                 rw [Nat.add_zero, show ((Kd.slice 2 (Kd.int .i64))).sz = 1 from rfl, Nat.mul_one] at hv537_0
                 replace hv537_0 := Option.some.inj (hv537_0.symm.trans hx537_0)
                 rw [hv537_0] at ge537_0
                 have HL537_0 := Aside0.mk (show Kd.R (Kd.int .i64) 2 _ _ _ _ (rd_L2 t517 x9_2) from ge537_0)
                 clear hv537_0 ge537_0
                 clear hcc537 hce537
                 have HR537_0 := Aside0.mk hi537_0
                 have HC537_0 := Aside0.mk hl537_0
                 clear hi537_0 hl537_0
                 replace p537 := eq_true p537
                 replace q537 := eq_true q537
                 obtain ⟨Ao52, co52, eo52⟩ := Kd.R_slice HO_7.out
                 subst eo52
                 have p538 : 0 ≤ (x9_2 : Int) := of_decide_eq_true (by first | (with_reducible assumption) | assumption)
                 have q538 : x9_2 < (x7_1.length : Int) := of_decide_eq_true (by first | (with_reducible assumption) | assumption)
                 obtain ⟨ad538, e538, hx538_0⟩ := Kd.at_int (Kd.R_reads' HO_7.out).2.2 x9_2 p538 q538
                 cases e538
                 replace p538 := eq_true p538
                 replace q538 := eq_true q538
                 have p539 : 0 ≤ ((rd x7_1 x9_2) : Int) := of_decide_eq_true (by first | (with_reducible assumption) | assumption)
                 have q539 : (rd x7_1 x9_2) < ((rd_L2 t517 x9_2).length : Int) := of_decide_eq_true (by first | (with_reducible assumption) | assumption)
                 obtain ⟨ad539, e539, hx539_0⟩ := Kd.at_int (by repeat (first | (with_reducible exact HR537_0.out) | (with_reducible refine Kd.C_alloc ?_ _) | (with_reducible refine Kd.C_drewN ?_ _) | (with_reducible refine Kd.C_drew ?_) | exact HR537_0.out)) (rd x7_1 x9_2) p539 q539
                 cases e539
                 replace p539 := eq_true p539
                 replace q539 := eq_true q539
                 have p540 : 0 ≤ (x9_2 : Int) := of_decide_eq_true (by first | (with_reducible assumption) | assumption)
                 have q540 : x9_2 < (x7_1.length : Int) := of_decide_eq_true (by first | (with_reducible assumption) | assumption)
                 obtain ⟨ad540, e540, hx540_0⟩ := Kd.at_int (Kd.R_reads' HO_7.out).2.2 x9_2 p540 q540
                 obtain rfl : ad538 = ad540 := (by injection e540)
                 replace p540 := eq_true p540
                 replace q540 := eq_true q540
                 have p50 : 0 ≤ (x9_2 : Int) := of_decide_eq_true (by first | (with_reducible assumption) | assumption)
                 have q50 : (x9_2 : Int) < ((x7_1.length : Int) : Int) := of_decide_eq_true (by first | (with_reducible assumption) | assumption)
                 obtain ⟨go50, co50, eo50, gb50, gl50, cl50, HG50⟩ := Kd.R_form HO_7.out (by omega)
                 (first | cases eo50 | (injection eo50 with ea_ en_ ec_; (first | subst ea_ | (injection ea_ with ea_; subst ea_)); subst ec_; clear en_))
                 have GB50 := Aside0.mk gb50
                 have GG50 := Aside0.mk HG50
                 clear gb50 gl50 HG50
                 (first | simp only [add_plain] at hx538_0 | skip)
                 (first | simp only [add_plain] at hx540_0 | skip)
                 obtain ⟨hx50_0, hf50_0⟩ := Kd.R_celln 0 HO_7.out (x9_2 : Int) p50 q50
                 replace p50 := eq_true p50
                 replace q50 := eq_true q50
                 have HP53 := Kd.R_putg HO_7.out (x9_2 : Int) (wrap64 ((rd x7_1 x9_2) + 1))
                 go_wp2_with (first | ((with_reducible refine gate_store (t := 2) (p := 108) rfl ?_); (try (rw [drewN_self wr]; generalize hq_ : World.drewN wr _ = wr; have n0_ := Aside0.mk (Kd.S_at hq_ HO_5.out); have n1_ := Aside0.mk (Kd.S_at hq_ HO_6.out); have n2_ := Aside0.mk (Kd.R_at hq_ HO_7.out); have n3_ := Aside0.mk (Kd.R_at hq_ HL537_0.out); have n4_ := Aside0.mk (below_at hq_ HB.out); clear hq_ HO_5 HO_6 HO_7 HL537_0 HB; have HO_5 := n0_; have HO_6 := n1_; have HO_7 := n2_; have HL537_0 := n3_; have HB := n4_; clear n0_ n1_ n2_ n3_ n4_; (try (have HP53 := Kd.R_putg HO_7.out (x9_2 : Int) (wrap64 ((rd x7_1 x9_2) + 1)))))); refine store_event (t := 2) (p := 108) (v := ?vo_w54) (w1 := (wr.setCell ⟨go50, (x9_2 : Int).toNat, none⟩ (.int .i64 (wrap64 ((rd x7_1 x9_2) + 1))))) ?hg ?ho ?hn ?hr ?_; (case ho => rfl); (case hg => rfl); (case hn => rfl); (case hr => first | (go_simp; done) | (go_simp; rfl)); intro w54 hw; have hg : wr.grownBy w54 (some go50) := (by rw [hw]; exact HP53.2); have hp_ : Kd.R (Kd.int .i64) 2 w54 w.heap.size (fun _ => True) (.slice (some ⟨go50, 0, none⟩) x7_1.length co52) y541 := (by rw [hw, Ny541.out]; exact HP53.1); clear HP53; have n0_ := Aside0.mk (Kd.S_after (v := (.slice (some ⟨go50, 0, none⟩) x7_1.length co52)) (v1 := (.slice (some ⟨go50, 0, none⟩) x7_1.length co52)) (ok := (fun k_ => some k_ ≠ (.slice (some ad537) t517.length co51 : Value).ownBlock)) (by (with_reducible repeat (first | apply Kd.S_alloc | apply Kd.S_drewN | apply Kd.S_drew)); exact HO_5.out) hg (.inl rfl)); have n1_ := Aside0.mk (Kd.S_after (v := (.slice (some ⟨go50, 0, none⟩) x7_1.length co52)) (v1 := (.slice (some ⟨go50, 0, none⟩) x7_1.length co52)) (ok := (fun k_ => some k_ ≠ (v518 : Value).ownBlock)) (by (with_reducible repeat (first | apply Kd.S_alloc | apply Kd.S_drewN | apply Kd.S_drew)); exact HO_6.out) hg (.inl rfl)); have n2_ := Aside0.mk (hp_); have n3_ := Aside0.mk (Kd.R_after (v := (.slice (some ⟨go50, 0, none⟩) x7_1.length co52)) (v1 := (.slice (some ⟨go50, 0, none⟩) x7_1.length co52)) (ok := (fun k_ => some k_ ≠ (v518 : Value).ownBlock ∧ some k_ ≠ (.slice (some ad537) t517.length co51 : Value).ownBlock)) (by (with_reducible repeat (first | apply Kd.R_alloc | apply Kd.R_drewN | apply Kd.R_drew)); exact Kd.R_mono HL537_0.out (fun _ hk => ⟨⟨hk.1.1, hk.2⟩, hk.1.2⟩)) hg (.inl rfl)); have n4_ := Aside0.mk ((by rw [hw]; exact below_set (HB.out) GB50.out : Below w.heap.size w w54)); clear HO_5; clear HO_6; clear HO_7; clear HL537_0; clear HB; have HO_5 := n0_; have HO_6 := n1_; have HO_7 := n2_; have HL537_0 := n3_; have HB := n4_; clear n0_ n1_ n2_ n3_ n4_; clear hg hw hp_))
                 repeat (go_quiet (first | ((with_reducible refine gate_store (t := 2) (p := 108) rfl ?_); (try (rw [drewN_self wr]; generalize hq_ : World.drewN wr _ = wr; have n0_ := Aside0.mk (Kd.S_at hq_ HO_5.out); have n1_ := Aside0.mk (Kd.S_at hq_ HO_6.out); have n2_ := Aside0.mk (Kd.R_at hq_ HO_7.out); have n3_ := Aside0.mk (Kd.R_at hq_ HL537_0.out); have n4_ := Aside0.mk (below_at hq_ HB.out); clear hq_ HO_5 HO_6 HO_7 HL537_0 HB; have HO_5 := n0_; have HO_6 := n1_; have HO_7 := n2_; have HL537_0 := n3_; have HB := n4_; clear n0_ n1_ n2_ n3_ n4_; (try (have HP53 := Kd.R_putg HO_7.out (x9_2 : Int) (wrap64 ((rd x7_1 x9_2) + 1)))))); refine store_event (t := 2) (p := 108) (v := ?vo_w54) (w1 := (wr.setCell ⟨go50, (x9_2 : Int).toNat, none⟩ (.int .i64 (wrap64 ((rd x7_1 x9_2) + 1))))) ?hg ?ho ?hn ?hr ?_; (case ho => rfl); (case hg => rfl); (case hn => rfl); (case hr => first | (go_simp; done) | (go_simp; rfl)); intro w54 hw; have hg : wr.grownBy w54 (some go50) := (by rw [hw]; exact HP53.2); have hp_ : Kd.R (Kd.int .i64) 2 w54 w.heap.size (fun _ => True) (.slice (some ⟨go50, 0, none⟩) x7_1.length co52) y541 := (by rw [hw, Ny541.out]; exact HP53.1); clear HP53; have n0_ := Aside0.mk (Kd.S_after (v := (.slice (some ⟨go50, 0, none⟩) x7_1.length co52)) (v1 := (.slice (some ⟨go50, 0, none⟩) x7_1.length co52)) (ok := (fun k_ => some k_ ≠ (.slice (some ad537) t517.length co51 : Value).ownBlock)) (by (with_reducible repeat (first | apply Kd.S_alloc | apply Kd.S_drewN | apply Kd.S_drew)); exact HO_5.out) hg (.inl rfl)); have n1_ := Aside0.mk (Kd.S_after (v := (.slice (some ⟨go50, 0, none⟩) x7_1.length co52)) (v1 := (.slice (some ⟨go50, 0, none⟩) x7_1.length co52)) (ok := (fun k_ => some k_ ≠ (v518 : Value).ownBlock)) (by (with_reducible repeat (first | apply Kd.S_alloc | apply Kd.S_drewN | apply Kd.S_drew)); exact HO_6.out) hg (.inl rfl)); have n2_ := Aside0.mk (hp_); have n3_ := Aside0.mk (Kd.R_after (v := (.slice (some ⟨go50, 0, none⟩) x7_1.length co52)) (v1 := (.slice (some ⟨go50, 0, none⟩) x7_1.length co52)) (ok := (fun k_ => some k_ ≠ (v518 : Value).ownBlock ∧ some k_ ≠ (.slice (some ad537) t517.length co51 : Value).ownBlock)) (by (with_reducible repeat (first | apply Kd.R_alloc | apply Kd.R_drewN | apply Kd.R_drew)); exact Kd.R_mono HL537_0.out (fun _ hk => ⟨⟨hk.1.1, hk.2⟩, hk.1.2⟩)) hg (.inl rfl)); have n4_ := Aside0.mk ((by rw [hw]; exact below_set (HB.out) GB50.out : Below w.heap.size w w54)); clear HO_5; clear HO_6; clear HO_7; clear HL537_0; clear HB; have HO_5 := n0_; have HO_6 := n1_; have HO_7 := n2_; have HL537_0 := n3_; have HB := n4_; clear n0_ n1_ n2_ n3_ n4_; clear hg hw hp_)); try go_wp2_with (first | ((with_reducible refine gate_store (t := 2) (p := 108) rfl ?_); (try (rw [drewN_self wr]; generalize hq_ : World.drewN wr _ = wr; have n0_ := Aside0.mk (Kd.S_at hq_ HO_5.out); have n1_ := Aside0.mk (Kd.S_at hq_ HO_6.out); have n2_ := Aside0.mk (Kd.R_at hq_ HO_7.out); have n3_ := Aside0.mk (Kd.R_at hq_ HL537_0.out); have n4_ := Aside0.mk (below_at hq_ HB.out); clear hq_ HO_5 HO_6 HO_7 HL537_0 HB; have HO_5 := n0_; have HO_6 := n1_; have HO_7 := n2_; have HL537_0 := n3_; have HB := n4_; clear n0_ n1_ n2_ n3_ n4_; (try (have HP53 := Kd.R_putg HO_7.out (x9_2 : Int) (wrap64 ((rd x7_1 x9_2) + 1)))))); refine store_event (t := 2) (p := 108) (v := ?vo_w54) (w1 := (wr.setCell ⟨go50, (x9_2 : Int).toNat, none⟩ (.int .i64 (wrap64 ((rd x7_1 x9_2) + 1))))) ?hg ?ho ?hn ?hr ?_; (case ho => rfl); (case hg => rfl); (case hn => rfl); (case hr => first | (go_simp; done) | (go_simp; rfl)); intro w54 hw; have hg : wr.grownBy w54 (some go50) := (by rw [hw]; exact HP53.2); have hp_ : Kd.R (Kd.int .i64) 2 w54 w.heap.size (fun _ => True) (.slice (some ⟨go50, 0, none⟩) x7_1.length co52) y541 := (by rw [hw, Ny541.out]; exact HP53.1); clear HP53; have n0_ := Aside0.mk (Kd.S_after (v := (.slice (some ⟨go50, 0, none⟩) x7_1.length co52)) (v1 := (.slice (some ⟨go50, 0, none⟩) x7_1.length co52)) (ok := (fun k_ => some k_ ≠ (.slice (some ad537) t517.length co51 : Value).ownBlock)) (by (with_reducible repeat (first | apply Kd.S_alloc | apply Kd.S_drewN | apply Kd.S_drew)); exact HO_5.out) hg (.inl rfl)); have n1_ := Aside0.mk (Kd.S_after (v := (.slice (some ⟨go50, 0, none⟩) x7_1.length co52)) (v1 := (.slice (some ⟨go50, 0, none⟩) x7_1.length co52)) (ok := (fun k_ => some k_ ≠ (v518 : Value).ownBlock)) (by (with_reducible repeat (first | apply Kd.S_alloc | apply Kd.S_drewN | apply Kd.S_drew)); exact HO_6.out) hg (.inl rfl)); have n2_ := Aside0.mk (hp_); have n3_ := Aside0.mk (Kd.R_after (v := (.slice (some ⟨go50, 0, none⟩) x7_1.length co52)) (v1 := (.slice (some ⟨go50, 0, none⟩) x7_1.length co52)) (ok := (fun k_ => some k_ ≠ (v518 : Value).ownBlock ∧ some k_ ≠ (.slice (some ad537) t517.length co51 : Value).ownBlock)) (by (with_reducible repeat (first | apply Kd.R_alloc | apply Kd.R_drewN | apply Kd.R_drew)); exact Kd.R_mono HL537_0.out (fun _ hk => ⟨⟨hk.1.1, hk.2⟩, hk.1.2⟩)) hg (.inl rfl)); have n4_ := Aside0.mk ((by rw [hw]; exact below_set (HB.out) GB50.out : Below w.heap.size w w54)); clear HO_5; clear HO_6; clear HO_7; clear HL537_0; clear HB; have HO_5 := n0_; have HO_6 := n1_; have HO_7 := n2_; have HL537_0 := n3_; have HB := n4_; clear n0_ n1_ n2_ n3_ n4_; clear hg hw hp_)))
                 go_roundg k2
                 case measure => have := HK1.out; have := HK2.out; omega
                 case rel => exact ⟨(y541), (wrap64 (x8_1 + 1)), (by first | rfl | (simp; done) | (simp [*]; done)), H', ⟨by have := HK1.out; have := HK2.out; omega⟩, ⟨by first | ((with_reducible repeat (first | apply Kd.S_alloc | apply Kd.S_drewN | apply Kd.S_drew)); exact HO_5.out) | (refine Kd.S_far ?_ (fun k_ hk e_ => by first | exact hk.2 (congrArg some e_) | exact hk.1 (congrArg some e_) | exact hk.2.2 (congrArg some e_) | exact hk.2.1 (congrArg some e_)) _; (with_reducible repeat (first | apply Kd.S_alloc | apply Kd.S_drewN | apply Kd.S_drew)); exact HO_5.out)⟩, ⟨by first | ((with_reducible repeat (first | apply Kd.S_alloc | apply Kd.S_drewN | apply Kd.S_drew)); exact HO_6.out) | (refine Kd.S_far ?_ (fun k_ hk e_ => by first | exact hk.2 (congrArg some e_) | exact hk.1 (congrArg some e_) | exact hk.2.2 (congrArg some e_) | exact hk.2.1 (congrArg some e_)) _; (with_reducible repeat (first | apply Kd.S_alloc | apply Kd.S_drewN | apply Kd.S_drew)); exact HO_6.out)⟩, ⟨by first | ((with_reducible repeat (first | apply Kd.R_alloc | apply Kd.R_drewN | apply Kd.R_drew)); exact HO_7.out) | (rw [Ny541.out]; exact Kd.R_putn (Kd.R_drewN HO_7.out _) x9_2 _) | (rw [Ny541.out]; exact Kd.R_putn HO_7.out x9_2 _)⟩, ⟨by first | (refine below_set ?_ (by rcases Kd.R_base2 HO_7.out with q_ | ⟨k_, q1_, q2_⟩ <;> first | (cases q_; done) | (cases q1_; exact q2_)); repeat (first | (with_reducible first | exact HB.out | apply below_alloc | apply pw_below_drewN | apply below_drew1) | exact HB.out)) | (repeat (first | (with_reducible first | exact HB.out | apply below_alloc | apply pw_below_drewN | apply below_drew1) | exact HB.out))⟩⟩
               ·rw [if_neg c46] at H
                exact absurd H (by simp)
              ·rw [if_neg c45] at H
               exact absurd H (by simp)
             ·rw [if_neg c44] at H
              exact absurd H (by simp)
            ·rw [if_neg c43] at H
             exact absurd H (by simp)
           ·rw [if_neg c42] at H
            exact absurd H (by simp)
      ·rw [if_neg c12] at H
       have c12b0 : decide (x8_1 ≤ t525) = false := decide_eq_false c12
       clear c12
       obtain rfl := Option.some.inj H
       go_wp2_with (first | (go_at_call 65; (with_reducible refine (spec_l01Sum.calls k1 _ _ l0 t525 _ ?side1 ?side2 A11.out).mono ?_); (case side1 => repeat (first | exact (Kd.C_below HR0.out HB.out) | (with_reducible refine Kd.C_alloc ?_ _) | (with_reducible refine Kd.C_drewN ?_ _) | (with_reducible refine Kd.C_drew ?_))); (case side2 => exact HC0.out); rintro e w' ⟨rfl, ⟨nd, rfl⟩⟩; (try first | exact ⟨rfl, _, World.drewN_drewN _ _ _⟩ | exact ⟨rfl, _, Eq.trans (World.drewN_drewN _ _ _) (congrArg (World.drewN _) (Nat.add_assoc _ _ _))⟩)))
       repeat (go_quiet (first | (go_at_call 65; (with_reducible refine (spec_l01Sum.calls k1 _ _ l0 t525 _ ?side1 ?side2 A11.out).mono ?_); (case side1 => repeat (first | exact (Kd.C_below HR0.out HB.out) | (with_reducible refine Kd.C_alloc ?_ _) | (with_reducible refine Kd.C_drewN ?_ _) | (with_reducible refine Kd.C_drew ?_))); (case side2 => exact HC0.out); rintro e w' ⟨rfl, ⟨nd, rfl⟩⟩; (try first | exact ⟨rfl, _, World.drewN_drewN _ _ _⟩ | exact ⟨rfl, _, Eq.trans (World.drewN_drewN _ _ _) (congrArg (World.drewN _) (Nat.add_assoc _ _ _))⟩))); try go_wp2_with (first | (go_at_call 65; (with_reducible refine (spec_l01Sum.calls k1 _ _ l0 t525 _ ?side1 ?side2 A11.out).mono ?_); (case side1 => repeat (first | exact (Kd.C_below HR0.out HB.out) | (with_reducible refine Kd.C_alloc ?_ _) | (with_reducible refine Kd.C_drewN ?_ _) | (with_reducible refine Kd.C_drew ?_))); (case side2 => exact HC0.out); rintro e w' ⟨rfl, ⟨nd, rfl⟩⟩; (try first | exact ⟨rfl, _, World.drewN_drewN _ _ _⟩ | exact ⟨rfl, _, Eq.trans (World.drewN_drewN _ _ _) (congrArg (World.drewN _) (Nat.add_assoc _ _ _))⟩))))
       go_ret
       exact ⟨by first | rfl | (simp [errW_none, errW_some] <;> rfl) | (simp [*, errW_none, errW_some] <;> rfl), by repeat (first | (with_reducible first | exact HB.out | apply below_alloc | apply pw_below_drewN | apply below_drew1) | exact HB.out)⟩
   ·rw [if_neg c7] at H
    exact absurd H (by simp)
  ·rw [if_neg c6] at H
   exact absurd H (by simp)
 ·replace c4 := Bool.eq_false_iff.mpr c4
  subst c4
  have H1 : (some false) = some r := by rw [if_neg (show ¬ (false = true) by decide)] at H; exact H
  clear H
  have H := H1
  clear H1
  obtain rfl := Option.some.inj H
  go_enter Try.func40, Try.ntmps40
  go_wp2_with (first | (go_at_call 87; (with_reducible refine (spec_l08Bound.calls k _ _ l0 a1 false _ ?side1 ?side2 A3.out).mono ?_); (case side1 => repeat (first | exact HR0.out | (with_reducible refine Kd.C_alloc ?_ _) | (with_reducible refine Kd.C_drewN ?_ _) | (with_reducible refine Kd.C_drew ?_))); (case side2 => exact HC0.out); rintro e w' ⟨rfl, ⟨nd, rfl⟩⟩; (try first | exact ⟨rfl, _, World.drewN_drewN _ _ _⟩ | exact ⟨rfl, _, Eq.trans (World.drewN_drewN _ _ _) (congrArg (World.drewN _) (Nat.add_assoc _ _ _))⟩)))
  repeat (go_quiet (first | (go_at_call 87; (with_reducible refine (spec_l08Bound.calls k _ _ l0 a1 false _ ?side1 ?side2 A3.out).mono ?_); (case side1 => repeat (first | exact HR0.out | (with_reducible refine Kd.C_alloc ?_ _) | (with_reducible refine Kd.C_drewN ?_ _) | (with_reducible refine Kd.C_drew ?_))); (case side2 => exact HC0.out); rintro e w' ⟨rfl, ⟨nd, rfl⟩⟩; (try first | exact ⟨rfl, _, World.drewN_drewN _ _ _⟩ | exact ⟨rfl, _, Eq.trans (World.drewN_drewN _ _ _) (congrArg (World.drewN _) (Nat.add_assoc _ _ _))⟩))); try go_wp2_with (first | (go_at_call 87; (with_reducible refine (spec_l08Bound.calls k _ _ l0 a1 false _ ?side1 ?side2 A3.out).mono ?_); (case side1 => repeat (first | exact HR0.out | (with_reducible refine Kd.C_alloc ?_ _) | (with_reducible refine Kd.C_drewN ?_ _) | (with_reducible refine Kd.C_drew ?_))); (case side2 => exact HC0.out); rintro e w' ⟨rfl, ⟨nd, rfl⟩⟩; (try first | exact ⟨rfl, _, World.drewN_drewN _ _ _⟩ | exact ⟨rfl, _, Eq.trans (World.drewN_drewN _ _ _) (congrArg (World.drewN _) (Nat.add_assoc _ _ _))⟩))))
  go_ret
  exact ⟨by first | rfl | (simp [errW_none, errW_some] <;> rfl) | (simp [*, errW_none, errW_some] <;> rfl), by repeat (first | (with_reducible first | exact HB.out | apply below_alloc | apply pw_below_drewN | apply below_drew1) | exact HB.out)⟩
end Go.Proofs.Ytdlnhddpgopghaa.Q
