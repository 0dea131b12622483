/- The statement FnExactValidKernel, with all that its proof stands on: functions of the program as plain functions, the program's walks, and the plain law. Conditions: none beyond the statement's own. -/
import Derived.ArgAppend
import Derived.Below
import Derived.BigQuiet
import Derived.Deep.AppendLies
import Derived.Deep.CutBlock
import Derived.Deep.DeepCutAuto
import Derived.Deep.Draws
import Derived.Deep.LoopGhost
import Derived.Deep.OwnRows
import Derived.Deep.QuietTactic
import Derived.Deep.RegionHeld3
import Derived.KernelRfl
import Derived.Laws.BitsLemmas
import Derived.Laws.BytesArg
import Derived.Laws.IdiomCopy
import Derived.Laws.MakeOwn
import Derived.Laws.OwnMore
import Derived.Laws.Rows
import Derived.Laws.Slices
import Derived.Lib.AppendStr
import Derived.Lib.ConvBytes
import Derived.Maps.AppendAt
import Derived.OrdersHeld
import Derived.OwnWalk
import Derived.RowKit
import Derived.RowKit3
import Derived.Tactics
import Derived.Test.YtgndemjphjhahaaProg
import Derived.WalkKit
import Derived.WideLaws
import Derived.Test.YtgndemjphjhahaaBFnExactValidKernel0
import Derived.Test.YtgndemjphjhahaaBFnExactValidKernel1
import Derived.Test.YtgndemjphjhahaaBFnExactValidKernel2
import Derived.Test.YtgndemjphjhahaaBFnExactValidKernel3
import Derived.Test.YtgndemjphjhahaaBFnExactValidKernel4
set_option linter.unusedVariables false
set_option linter.unusedSimpArgs false
namespace Go.Proofs.Ytgndemjphjhahaa.Q
open Go.RowKit Go.Proofs.YtgndemjphjhahaaW.PrintWords Go.Proofs.YtgndemjphjhahaaW.PrintLast Go.Proofs.YtgndemjphjhahaaW.PrintMore
attribute [local go_sem] max2_int min2_int max_two min_two max_three min_three max_four min_four   -- for this text's walks alone
set_option linter.unusedVariables false
set_option linter.unusedSimpArgs false
mutual
def impl_ValidKernel.j0 : Nat → Bool → Int → List (S77) → Option (Bool)
 | 0, _, _, _ => none
 | k + 1, x16, x201000, x201001 => if x16 = true then (some false) else (impl_ValidKernel.l0 k 0 x201001 (x201001.length : Int) 0 x201000 x201001)
def impl_ValidKernel.l0 : Nat → Int → List (S77) → Int → Int → Int → List (S77) → Option (Bool)
 | 0, _, _, _, _, _, _ => none
 | k + 1, x3, x18, x19, x20, x201000, x201001 => if x20 < x19 then (if 0 ≤ x20 then (if x20 < (x18.length : Int) then (if x20 ≤ (x201001.length : Int) then ((impl_Tap_66.f (x201001.take (x20 : Int).toNat) ((rd_T77 x18 x20).f0) ((rd_T77 x18 x20).f1) ((rd_T77 x18 x20).f2)).bind fun t208 => (if t208 = true then (some false) else ((impl_within.f ((rd_T77 x18 x20).f0) 0 2).bind fun t209 => (if t209 = true then ((impl_within.f ((rd_T77 x18 x20).f1) (-2) 2).bind fun t210 => (if t210 = true then (if ((rd_T77 x18 x20).f0) < 1 then (if ((rd_T77 x18 x20).f1) < 1 then (some false) else ((impl_within.f ((rd_T77 x18 x20).f2) 1 64).bind fun t211 => (if t211 = true then (impl_ValidKernel.l0 k (wrap64 (x3 + ((rd_T77 x18 x20).f2))) x18 x19 (wrap64 (x20 + 1)) x201000 x201001) else (some false)))) else ((impl_within.f ((rd_T77 x18 x20).f2) 1 64).bind fun t212 => (if t212 = true then (impl_ValidKernel.l0 k (wrap64 (x3 + ((rd_T77 x18 x20).f2))) x18 x19 (wrap64 (x20 + 1)) x201000 x201001) else (some false)))) else (some false))) else (some false))))) else (none)) else (none)) else (none)) else (some (decide (x3 ≤ x201000)))
end
def impl_ValidKernel.f (k : Nat) (a0_0 : Int) (l0_1 : List (S77)) : Option (Bool) := (impl_within.f a0_0 1 64).bind fun t201 => (if t201 = true then (impl_ValidKernel.j0 k (decide ((l0_1.length : Int) > 12)) a0_0 l0_1) else (impl_ValidKernel.j0 k true a0_0 l0_1))
theorem impl_ValidKernel.mono_l : ∀ k, (∀ y0 y1 y2, LeO (impl_ValidKernel.j0 k y0 y1 y2) (impl_ValidKernel.j0 (k + 1) y0 y1 y2)) ∧ (∀ y0 y1 y2 y3 y4 y5, LeO (impl_ValidKernel.l0 k y0 y1 y2 y3 y4 y5) (impl_ValidKernel.l0 (k + 1) y0 y1 y2 y3 y4 y5))
 | 0 => ⟨fun _ _ _ r h => by simp [impl_ValidKernel.j0] at h, fun _ _ _ _ _ _ r h => by simp [impl_ValidKernel.l0] at h⟩
 | k + 1 => by
  obtain ⟨ih0, ih1⟩ := impl_ValidKernel.mono_l k
  refine ⟨?_, ?_⟩
  ·intro y0 y1 y2
   unfold impl_ValidKernel.j0
   repeat' first
   | (with_reducible exact ih0 _ _ _)
   | (with_reducible exact ih1 _ _ _ _ _ _)
   | (with_reducible exact LeO.refl _)
   | (with_reducible exact LeO.none _)
   | (with_reducible refine LeO.ite ?_ ?_)
   | (with_reducible refine LeO.bind ?_ (fun _ => ?_))
   | exact ih0 _ _ _
   | exact ih1 _ _ _ _ _ _
   | exact LeO.none _
   | refine LeO.ite ?_ ?_
   | refine LeO.bind ?_ (fun _ => ?_)
  ·intro y0 y1 y2 y3 y4 y5
   unfold impl_ValidKernel.l0
   repeat' first
   | (with_reducible exact ih0 _ _ _)
   | (with_reducible exact ih1 _ _ _ _ _ _)
   | (with_reducible exact LeO.refl _)
   | (with_reducible exact LeO.none _)
   | (with_reducible refine LeO.ite ?_ ?_)
   | (with_reducible refine LeO.bind ?_ (fun _ => ?_))
   | exact ih0 _ _ _
   | exact ih1 _ _ _ _ _ _
   | exact LeO.none _
   | refine LeO.ite ?_ ?_
   | refine LeO.bind ?_ (fun _ => ?_)
theorem impl_ValidKernel.mono : ∀ a0 a1 k, LeO (impl_ValidKernel.f k a0 a1) (impl_ValidKernel.f (k + 1) a0 a1) := by
 intro a0 a1 k
 obtain ⟨ih0, ih1⟩ := impl_ValidKernel.mono_l k
 unfold impl_ValidKernel.f
 repeat' first
   | (with_reducible exact ih0 _ _ _)
   | (with_reducible exact ih1 _ _ _ _ _ _)
   | (with_reducible exact LeO.refl _)
   | (with_reducible exact LeO.none _)
   | (with_reducible refine LeO.ite ?_ ?_)
   | (with_reducible refine LeO.bind ?_ (fun _ => ?_))
   | exact ih0 _ _ _
   | exact ih1 _ _ _ _ _ _
   | exact LeO.none _
   | refine LeO.ite ?_ ?_
   | refine LeO.bind ?_ (fun _ => ?_)
set_option maxHeartbeats 8000000 in
set_option maxRecDepth 100000 in
theorem impl_ValidKernel.calls (k : Nat) (a0_0 : Int) (A0_1 : Option Addr) (c0_1 : Nat) (l0_1 : List (S77)) (r : Bool) (w : World) (hr0_1 : Kd.C k77 w A0_1 l0_1.length l0_1) (hc0_1 : l0_1.length ≤ c0_1) (h : impl_ValidKernel.f k a0_0 l0_1 = some r) :
  Calls Try.prog 23 #[.agg #[.int .i64 a0_0, .slice A0_1 l0_1.length c0_1]] w fun e w' => e = .returned (.bool r) ∧ Below w.heap.size w w' := by
 have hu24 := Try.underlying24
 have hu77 := Try.underlying77
 have HR0_1 := Aside0.mk hr0_1
 have HC0_1 := Aside0.mk hc0_1
 clear hr0_1 hc0_1
 have HB := Aside0.mk (Below.refl w.heap.size w)
 have H : ((impl_within.f a0_0 1 64).bind fun t201 => (if t201 = true then (impl_ValidKernel.j0 k (decide ((l0_1.length : Int) > 12)) a0_0 l0_1) else (impl_ValidKernel.j0 k true a0_0 l0_1))) = some r := h
 clear h
 have HC2 := Aside0.mk H
 clear H
 go_enter Try.func23, Try.ntmps23
 go_upto_region 1 with (first | ((with_reducible refine gate_dst (N := 1) rfl ?_); (try (refine gate_guard (by rfl) ?_; dsimp only)); refine box_event ?hg (N := 1) ?hd (cs := #[.int .i64 a0_0, .slice A0_1 l0_1.length c0_1]) (t := 24) ?hr ?_; (case hd => rfl); (case hg => rfl); (case hr => first | (go_simp; done) | (go_simp; rfl)); intro gb200 hg w3 hbox hb; have n0_ := Aside0.mk (below_step (by repeat (first | (with_reducible first | exact HB.out | apply below_alloc | apply pw_below_drewN | apply below_drew1) | exact HB.out)) hb); have n1_ := Aside0.mk (hbox); have n2_ := Aside0.mk ((by rw [hg]; exact (below_size (by repeat (first | (with_reducible first | exact HB.out | apply below_alloc | apply pw_below_drewN | apply below_drew1) | exact HB.out))) : w.heap.size ≤ gb200)); have n3_ := Aside0.mk ((by rw [hg]; exact (below_size (by repeat (first | (with_reducible first | exact HB.out | apply below_alloc | apply pw_below_drewN | apply below_drew1) | exact HB.out))) : w.heap.size ≤ gb200)); clear HB; have HB := n0_; have BK200 := n1_; have GW200 := n2_; have GE200 := n3_; clear n0_ n1_ n2_ n3_; clear hb hbox hg))
 (try simp only [Act.put, List.setIfInBounds_toArray, List.set_cons_zero, List.set_cons_succ])
 go_cut [16] (fun v16 wc => ∃ (kq : Nat) (x16_1 : Bool), v16 = .bool x16_1 ∧ Aside0 (impl_ValidKernel.j0 kq x16_1 a0_0 l0_1 = some r) ∧ Aside0 (kq ≤ k) ∧ Aside0 (wc.heap[gb200]? = some (.cells #[.int .i64 a0_0, (.slice A0_1 l0_1.length c0_1)] 24 (0, 0))) ∧ Aside0 (Below w.heap.size w wc))
 case first =>
  have H := HC2.out
  clear HC2
  replace H := Option.bind_eq_some_iff.mp H
  obtain ⟨t201, A40, H⟩ := H
  replace H : (if t201 = true then (impl_ValidKernel.j0 k (decide ((l0_1.length : Int) > 12)) a0_0 l0_1) else (impl_ValidKernel.j0 k true a0_0 l0_1)) = some r := H
  have A4 := Aside0.mk A40
  clear A40
  by_cases c5 : t201 = true
  ·subst c5
   have H1 : (impl_ValidKernel.j0 k (decide ((l0_1.length : Int) > 12)) a0_0 l0_1) = some r := by rw [if_pos rfl] at H; exact H
   clear H
   have H := H1
   clear H1
   have H' := Aside0.mk H
   clear H
   have hcz6_0 : w3.cell? ⟨gb200, 0, none⟩ = some (.int .i64 a0_0) := (blk_cell BK200.out 0).trans rfl
   have hcz6_1 : w3.cell? ⟨gb200, 1, none⟩ = some (.slice A0_1 l0_1.length c0_1) := (blk_cell BK200.out 1).trans rfl
   have hfz6_0 := blk_frozen BK200.out 0
   have hfz6_1 := blk_frozen BK200.out 1
   go_wp2_with (first | ((with_reducible refine gate_callee (f := 65) rfl ?_); refine goesL_ (some 9) rfl rfl Try.func65 (by kernel_rfl) rfl #[.int .i64 a0_0, .int .i64 1, .int .i64 64] rfl (by (try simp only [List.map_toArray, List.map_cons, List.map_nil]); first | done | rfl | (simp only [List.length_drop, List.length_take]; rfl) | (simp only [show ∀ (n_ : Nat) (b_ : Int), Int.tdiv (n_ : Int) b_ = (n_ : Int) / b_ from fun n_ b_ => Int.tdiv_eq_ediv_of_nonneg (Int.natCast_nonneg n_)]; rfl)) ?_; (with_reducible refine (impl_within.calls a0_0 1 64 true _ A4.out).mono ?_); rintro e w' ⟨rfl, ⟨nd, rfl⟩⟩; refine ⟨_, rfl, ?_⟩))
   go_meet
   case rel => exact ⟨_, (decide ((l0_1.length : Int) > 12)), (by first | rfl | (simp; done) | (simp [*]; done)), H', ⟨by first | omega | exact Nat.le_refl _⟩, ⟨by (with_reducible repeat (first | refine blk_drewN ?_ _ | refine blk_drew ?_ | refine blk_alloc ?_ _)); exact BK200.out⟩, ⟨by repeat (first | (with_reducible first | exact HB.out | apply below_alloc | apply pw_below_drewN | apply below_drew1 | refine below_set ?_ GE200.out) | exact HB.out)⟩⟩
  ·replace c5 := Bool.eq_false_iff.mpr c5
   subst c5
   have H1 : (impl_ValidKernel.j0 k true a0_0 l0_1) = some r := by rw [if_neg (show ¬ (false = true) by decide)] at H; exact H
   clear H
   have H := H1
   clear H1
   have H' := Aside0.mk H
   clear H
   have hcz7_0 : w3.cell? ⟨gb200, 0, none⟩ = some (.int .i64 a0_0) := (blk_cell BK200.out 0).trans rfl
   have hcz7_1 : w3.cell? ⟨gb200, 1, none⟩ = some (.slice A0_1 l0_1.length c0_1) := (blk_cell BK200.out 1).trans rfl
   have hfz7_0 := blk_frozen BK200.out 0
   have hfz7_1 := blk_frozen BK200.out 1
   go_wp2_with (first | ((with_reducible refine gate_callee (f := 65) rfl ?_); refine goesL_ (some 9) rfl rfl Try.func65 (by kernel_rfl) rfl #[.int .i64 a0_0, .int .i64 1, .int .i64 64] rfl (by (try simp only [List.map_toArray, List.map_cons, List.map_nil]); first | done | rfl | (simp only [List.length_drop, List.length_take]; rfl) | (simp only [show ∀ (n_ : Nat) (b_ : Int), Int.tdiv (n_ : Int) b_ = (n_ : Int) / b_ from fun n_ b_ => Int.tdiv_eq_ediv_of_nonneg (Int.natCast_nonneg n_)]; rfl)) ?_; (with_reducible refine (impl_within.calls a0_0 1 64 false _ A4.out).mono ?_); rintro e w' ⟨rfl, ⟨nd, rfl⟩⟩; refine ⟨_, rfl, ?_⟩))
   go_meet
   case rel => exact ⟨_, (true), (by first | rfl | (simp; done) | (simp [*]; done)), H', ⟨by first | omega | exact Nat.le_refl _⟩, ⟨by (with_reducible repeat (first | refine blk_drewN ?_ _ | refine blk_drew ?_ | refine blk_alloc ?_ _)); exact BK200.out⟩, ⟨by repeat (first | (with_reducible first | exact HB.out | apply below_alloc | apply pw_below_drewN | apply below_drew1 | refine below_set ?_ GE200.out) | exact HB.out)⟩⟩
 case rest =>
  clear HC2
  try clear c2
  try clear p2
  try clear c5
  try clear c6
  try clear hcz6_0
  try clear hcz6_1
  try clear hcz7_0
  try clear hcz7_1
  try clear hfz6_0
  try clear hfz6_1
  try clear hfz7_0
  try clear hfz7_1
  obtain ⟨kq, x16_1, rfl, HA, HJ1, BK200, HB⟩ := hcut
  cases kq with
  | zero => exact absurd HA.out (by simp [impl_ValidKernel.j0])
  | succ kj1 =>
   have H := HA.out
   clear HA
   simp only [impl_ValidKernel.j0] at H
   by_cases c8 : x16_1 = true
   ·subst c8
    have H1 : (some false) = some r := by rw [if_pos rfl] at H; exact H
    clear H
    have H := H1
    clear H1
    obtain rfl := Option.some.inj H
    go_wp2
    go_ret
    exact ⟨by first | rfl | (simp [errW_none, errW_some] <;> rfl) | (simp [*, errW_none, errW_some] <;> rfl), by repeat (first | (with_reducible first | exact HB.out | apply below_alloc | apply pw_below_drewN | apply below_drew1 | refine below_set ?_ GE200.out) | exact HB.out)⟩
   ·replace c8 := Bool.eq_false_iff.mpr c8
    subst c8
    have H1 : (impl_ValidKernel.l0 kj1 0 l0_1 (l0_1.length : Int) 0 a0_0 l0_1) = some r := by rw [if_neg (show ¬ (false = true) by decide)] at H; exact H
    clear H
    have H := H1
    clear H1
    have H' := Aside0.mk H
    clear H
    have hcz9_0 : wc.cell? ⟨gb200, 0, none⟩ = some (.int .i64 a0_0) := (blk_cell BK200.out 0).trans rfl
    have hcz9_1 : wc.cell? ⟨gb200, 1, none⟩ = some (.slice A0_1 l0_1.length c0_1) := (blk_cell BK200.out 1).trans rfl
    have hfz9_0 := blk_frozen BK200.out 0
    have hfz9_1 := blk_frozen BK200.out 1
    go_wp2
    go_loopg [3, 20] kj1 (fun kq v3 v20 w' => ∃ (x3_2 : Int) (x20_2 : Int), v3 = .int .i64 x3_2 ∧ v20 = .int .i64 x20_2 ∧ Aside0 (impl_ValidKernel.l0 kq x3_2 l0_1 (l0_1.length : Int) x20_2 a0_0 l0_1 = some r) ∧ Aside0 (kq ≤ kj1) ∧ Aside0 (w'.heap[gb200]? = some (.cells #[.int .i64 a0_0, (.slice A0_1 l0_1.length c0_1)] 24 (0, 0))) ∧ Aside0 (Below w.heap.size w w'))
    case atStart => exact ⟨(0), (0), (by first | rfl | (simp; done) | (simp [*]; done)), (by first | rfl | (simp; done) | (simp [*]; done)), H', ⟨Nat.le_refl _⟩, ⟨by (with_reducible repeat (first | refine blk_drewN ?_ _ | refine blk_drew ?_ | refine blk_alloc ?_ _)); exact BK200.out⟩, ⟨by repeat (first | (with_reducible first | exact HB.out | apply below_alloc | apply pw_below_drewN | apply below_drew1 | refine below_set ?_ GE200.out) | exact HB.out)⟩⟩
    case round =>
     clear H'
     try clear c2
     try clear p2
     try clear c5
     try clear c6
     try clear c8
     try clear hcz6_0
     try clear hcz6_1
     try clear hcz7_0
     try clear hcz7_1
     try clear hcz9_0
     try clear hcz9_1
     try clear hfz6_0
     try clear hfz6_1
     try clear hfz7_0
     try clear hfz7_1
     try clear hfz9_0
     try clear hfz9_1
     try clear p2
     obtain ⟨x3_2, x20_2, rfl, rfl, HA, HK2, BK200, HB⟩ := hrel
     cases gk with
     | zero => exact absurd HA.out (by simp [impl_ValidKernel.l0])
     | succ k2 =>
      have H := HA.out
      clear HA
      simp only [impl_ValidKernel.l0] at H
      by_cases c10 : x20_2 < (l0_1.length : Int)
      ·rw [if_pos c10] at H
       have c10b0 : decide (x20_2 < (l0_1.length : Int)) = true := decide_eq_true c10
       clear c10
       by_cases c11 : 0 ≤ x20_2
       ·rw [if_pos c11] at H
        have c11b0 : decide (0 ≤ x20_2) = true := decide_eq_true c11
        clear c11
        by_cases c12 : x20_2 < (l0_1.length : Int)
        ·rw [if_pos c12] at H
         have c12b0 : decide (x20_2 < (l0_1.length : Int)) = true := decide_eq_true c12
         clear c12
         have c13b0 := eq_true (of_decide_eq_true (by first | (with_reducible assumption) | assumption) : 0 ≤ x20_2)
         by_cases c14 : x20_2 ≤ (l0_1.length : Int)
         ·rw [if_pos c14] at H
          have c14b0 := eq_true c14
          have c14b1 : decide (x20_2 ≤ (l0_1.length : Int)) = true := decide_eq_true c14
          clear c14
          obtain ⟨y204, hy204⟩ : ∃ y_ : List (S77), y_ = (l0_1.take (x20_2 : Int).toNat) := ⟨_, rfl⟩
          replace H : ((impl_Tap_66.f y204 ((rd_T77 l0_1 x20_2).f0) ((rd_T77 l0_1 x20_2).f1) ((rd_T77 l0_1 x20_2).f2)).bind fun t208 => (if t208 = true then (some false) else ((impl_within.f ((rd_T77 l0_1 x20_2).f0) 0 2).bind fun t209 => (if t209 = true then ((impl_within.f ((rd_T77 l0_1 x20_2).f1) (-2) 2).bind fun t210 => (if t210 = true then (if ((rd_T77 l0_1 x20_2).f0) < 1 then (if ((rd_T77 l0_1 x20_2).f1) < 1 then (some false) else ((impl_within.f ((rd_T77 l0_1 x20_2).f2) 1 64).bind fun t211 => (if t211 = true then (impl_ValidKernel.l0 k2 (wrap64 (x3_2 + ((rd_T77 l0_1 x20_2).f2))) l0_1 (l0_1.length : Int) (wrap64 (x20_2 + 1)) a0_0 l0_1) else (some false)))) else ((impl_within.f ((rd_T77 l0_1 x20_2).f2) 1 64).bind fun t212 => (if t212 = true then (impl_ValidKernel.l0 k2 (wrap64 (x3_2 + ((rd_T77 l0_1 x20_2).f2))) l0_1 (l0_1.length : Int) (wrap64 (x20_2 + 1)) a0_0 l0_1) else (some false)))) else (some false))) else (some false))))) = some r := by first | (rw [hy204]; with_reducible exact H) | (have H2_ := (Option.bind_some _ _).symm.trans H; rw [hy204]; with_reducible exact H2_) | (have H2_ := (Option.bind_some _ _).symm.trans H; with_reducible exact H2_) | with_reducible exact H | (rw [hy204]; exact H) | exact H
          have Ny204 := Aside0.mk hy204
          clear hy204
          replace H := Option.bind_eq_some_iff.mp H
          obtain ⟨t208, A150, H⟩ := H
          replace H : (if t208 = true then (some false) else ((impl_within.f ((rd_T77 l0_1 x20_2).f0) 0 2).bind fun t209 => (if t209 = true then ((impl_within.f ((rd_T77 l0_1 x20_2).f1) (-2) 2).bind fun t210 => (if t210 = true then (if ((rd_T77 l0_1 x20_2).f0) < 1 then (if ((rd_T77 l0_1 x20_2).f1) < 1 then (some false) else ((impl_within.f ((rd_T77 l0_1 x20_2).f2) 1 64).bind fun t211 => (if t211 = true then (impl_ValidKernel.l0 k2 (wrap64 (x3_2 + ((rd_T77 l0_1 x20_2).f2))) l0_1 (l0_1.length : Int) (wrap64 (x20_2 + 1)) a0_0 l0_1) else (some false)))) else ((impl_within.f ((rd_T77 l0_1 x20_2).f2) 1 64).bind fun t212 => (if t212 = true then (impl_ValidKernel.l0 k2 (wrap64 (x3_2 + ((rd_T77 l0_1 x20_2).f2))) l0_1 (l0_1.length : Int) (wrap64 (x20_2 + 1)) a0_0 l0_1) else (some false)))) else (some false))) else (some false)))) = some r := H
          have A15 := Aside0.mk A150
          clear A150
          by_cases c16 : t208 = true
          ·subst c16
           have H1 : (some false) = some r := by rw [if_pos rfl] at H; exact H
           clear H
           have H := H1
           clear H1
           obtain rfl := Option.some.inj H
           have p202 : 0 ≤ (x20_2 : Int) := of_decide_eq_true (by first | (with_reducible assumption) | assumption)
           have q202 : x20_2 < (l0_1.length : Int) := of_decide_eq_true (by first | (with_reducible assumption) | assumption)
           obtain ⟨ad202, e202, hx202_0, hx202_1, hx202_2⟩ := at_T77 HR0_1.out x20_2 p202 q202
           cases e202
           replace hx202_0 := (HB.out.cell (World.block_lt_of_cell? w _ hx202_0)).trans hx202_0
           replace hx202_1 := (HB.out.cell (World.block_lt_of_cell? w _ hx202_1)).trans hx202_1
           replace hx202_2 := (HB.out.cell (World.block_lt_of_cell? w _ hx202_2)).trans hx202_2
           replace p202 := eq_true p202
           replace q202 := eq_true q202
           go_wp2_with (first | ((with_reducible refine gate_dst (N := 5) rfl ?_); (try (refine gate_guard (by rfl) ?_; dsimp only)); refine box_event ?hg (N := 5) ?hd (cs := #[.int .i64 0, .int .i64 0, .int .i64 0]) (t := 77) ?hr ?_; (case hd => rfl); (case hg => rfl); (case hr => first | (go_simp; done) | (go_simp; rfl)); intro gb203 hg w17 hbox hb; have n0_ := Aside0.mk (blk_below (g := gb200) (o := .cells #[.int .i64 a0_0, .slice (some ad202) l0_1.length c0_1] 24 (0, 0)) (by (with_reducible repeat (first | refine blk_drewN ?_ _ | refine blk_drew ?_ | refine blk_alloc ?_ _)); exact BK200.out) hb); have n1_ := Aside0.mk (below_step (by repeat (first | (with_reducible first | exact HB.out | apply below_alloc | apply pw_below_drewN | apply below_drew1 | refine below_set ?_ GE200.out) | exact HB.out)) hb); have n2_ := Aside0.mk (hbox); have n3_ := Aside0.mk ((by rw [hg]; exact (below_size (by repeat (first | (with_reducible first | exact HB.out | apply below_alloc | apply pw_below_drewN | apply below_drew1 | refine below_set ?_ GE200.out) | exact HB.out))) : w.heap.size ≤ gb203)); have n4_ := Aside0.mk ((by rw [hg]; exact (below_size (by repeat (first | (with_reducible first | exact HB.out | apply below_alloc | apply pw_below_drewN | apply below_drew1 | refine below_set ?_ GE200.out) | exact HB.out))) : w.heap.size ≤ gb203)); have n5_ := Aside0.mk ((by rw [hg]; exact Nat.ne_of_lt (blk_lt (g := gb200) (o := .cells #[.int .i64 a0_0, .slice (some ad202) l0_1.length c0_1] 24 (0, 0)) (by (with_reducible repeat (first | refine blk_drewN ?_ _ | refine blk_drew ?_ | refine blk_alloc ?_ _)); exact BK200.out)) : gb200 ≠ gb203)); have n6_ := Aside0.mk ((by rw [hg]; exact Nat.ne_of_gt (blk_lt (g := gb200) (o := .cells #[.int .i64 a0_0, .slice (some ad202) l0_1.length c0_1] 24 (0, 0)) (by (with_reducible repeat (first | refine blk_drewN ?_ _ | refine blk_drew ?_ | refine blk_alloc ?_ _)); exact BK200.out)) : gb203 ≠ gb200)); clear BK200; clear HB; have BK200 := n0_; have HB := n1_; have BK203 := n2_; have GW203 := n3_; have GE203 := n4_; have NB200_203 := n5_; have NB203_200 := n6_; clear n0_ n1_ n2_ n3_ n4_ n5_ n6_; clear hb hbox hg; have hnb18 := NB203_200.out; have hnc18 := NB200_203.out; have hcz19_0 : w17.cell? ⟨gb203, 0, none⟩ = some (.int .i64 0) := (blk_cell BK203.out 0).trans rfl; have hcz19_1 : w17.cell? ⟨gb203, 1, none⟩ = some (.int .i64 0) := (blk_cell BK203.out 1).trans rfl; have hcz19_2 : w17.cell? ⟨gb203, 2, none⟩ = some (.int .i64 0) := (blk_cell BK203.out 2).trans rfl; have hfz19_0 := blk_frozen BK203.out 0; have hfz19_1 := blk_frozen BK203.out 1; have hfz19_2 := blk_frozen BK203.out 2) | ((with_reducible refine gate_store (t := 77) (p := 5) rfl ?_); refine store_event (t := 77) (p := 5) (v := ?vo_w20) (w1 := (((w17.setCell ⟨gb203, 0, none⟩ (.int .i64 ((rd_T77 l0_1 x20_2).f0))).setCell ⟨gb203, 1, none⟩ (.int .i64 ((rd_T77 l0_1 x20_2).f1))).setCell ⟨gb203, 2, none⟩ (.int .i64 ((rd_T77 l0_1 x20_2).f2)))) ?hg ?ho ?hn ?hr ?_; (case ho => rfl); (case hg => rfl); (case hn => rfl); (case hr => first | (go_simp; done) | (go_simp; rfl)); intro w20 hw; have n0_ : Aside0 (w20.heap[gb200]? = some (.cells #[.int .i64 a0_0, .slice (some ad202) l0_1.length c0_1] 24 (0, 0))) := ⟨(by rw [hw]; exact (by (with_reducible repeat (first | refine blk_drewN ?_ _ | refine blk_drew ?_ | refine blk_alloc ?_ _)); refine blk_far ?_ NB200_203.out _; (with_reducible repeat (first | refine blk_drewN ?_ _ | refine blk_drew ?_ | refine blk_alloc ?_ _)); refine blk_far ?_ NB200_203.out _; (with_reducible repeat (first | refine blk_drewN ?_ _ | refine blk_drew ?_ | refine blk_alloc ?_ _)); refine blk_far ?_ NB200_203.out _; (with_reducible repeat (first | refine blk_drewN ?_ _ | refine blk_drew ?_ | refine blk_alloc ?_ _)); exact BK200.out))⟩; have n1_ : Aside0 (w20.heap[gb203]? = some (.cells #[.int .i64 ((rd_T77 l0_1 x20_2).f0), .int .i64 ((rd_T77 l0_1 x20_2).f1), .int .i64 ((rd_T77 l0_1 x20_2).f2)] 77 (0, 0))) := ⟨(by rw [hw]; exact (by (with_reducible repeat (first | refine blk_drewN ?_ _ | refine blk_drew ?_ | refine blk_alloc ?_ _)); refine blk_put (cs := #[.int .i64 ((rd_T77 l0_1 x20_2).f0), .int .i64 ((rd_T77 l0_1 x20_2).f1), .int .i64 0]) ?_ 2 _ rfl; (with_reducible repeat (first | refine blk_drewN ?_ _ | refine blk_drew ?_ | refine blk_alloc ?_ _)); refine blk_put (cs := #[.int .i64 ((rd_T77 l0_1 x20_2).f0), .int .i64 0, .int .i64 0]) ?_ 1 _ rfl; (with_reducible repeat (first | refine blk_drewN ?_ _ | refine blk_drew ?_ | refine blk_alloc ?_ _)); refine blk_put (cs := #[.int .i64 0, .int .i64 0, .int .i64 0]) ?_ 0 _ rfl; (with_reducible repeat (first | refine blk_drewN ?_ _ | refine blk_drew ?_ | refine blk_alloc ?_ _)); exact BK203.out))⟩; have n2_ : Aside0 (Below w.heap.size w w20) := ⟨(by rw [hw]; exact (by repeat (first | (with_reducible first | exact HB.out | apply below_alloc | apply pw_below_drewN | apply below_drew1 | refine below_set ?_ GE200.out | refine below_set ?_ GE203.out) | exact HB.out)))⟩; clear hw; clear BK200; clear BK203; clear HB; have BK200 := n0_; have BK203 := n1_; have HB := n2_; clear n0_ n1_ n2_; have hcz21_0 : w20.cell? ⟨gb200, 0, none⟩ = some (.int .i64 a0_0) := (blk_cell BK200.out 0).trans rfl; have hcz21_1 : w20.cell? ⟨gb200, 1, none⟩ = some (.slice (some ad202) l0_1.length c0_1) := (blk_cell BK200.out 1).trans rfl; have hfz21_0 := blk_frozen BK200.out 0; have hfz21_1 := blk_frozen BK200.out 1; have q22 : (x20_2 : Int) ≤ ((l0_1.length : Int) : Int) := of_decide_eq_true (by first | (with_reducible assumption) | assumption); obtain ⟨i022, hi022, _, hsz22, _⟩ := info_parts info77; have hroom22 : l0_1.length ≤ c0_1 := HC0_1.out; have hC22 : Kd.C k77 _ (some ad202) l0_1.length l0_1 := HR0_1.out; have hcut22 := cut_to (P := Try.prog) 22 77 .i64 Try.underlying22 hi022 (some ad202) l0_1.length c0_1 x20_2 (of_decide_eq_true (by first | (with_reducible assumption) | assumption)) q22 hroom22; have hr22 := Kd.C_take (m := (x20_2 : Int).toNat) hC22 (by omega); have hy22 : y204.length = (x20_2 : Int).toNat := (by rw [Ny204.out, List.length_take]; omega); rw [← Ny204.out] at hr22; rw [← hy22] at hcut22; have HR207 := Aside0.mk hr22; have HC207 := Aside0.mk (show y204.length ≤ c0_1 from by omega); clear hr22 hC22 hroom22 hi022 hsz22; have KY22 := Aside0.mk hy22; clear hy22; replace q22 := eq_true q22; have hcz23_0 : w20.cell? ⟨gb203, 0, none⟩ = some (.int .i64 ((rd_T77 l0_1 x20_2).f0)) := (blk_cell BK203.out 0).trans rfl; have hcz23_1 : w20.cell? ⟨gb203, 1, none⟩ = some (.int .i64 ((rd_T77 l0_1 x20_2).f1)) := (blk_cell BK203.out 1).trans rfl; have hcz23_2 : w20.cell? ⟨gb203, 2, none⟩ = some (.int .i64 ((rd_T77 l0_1 x20_2).f2)) := (blk_cell BK203.out 2).trans rfl; have hfz23_0 := blk_frozen BK203.out 0; have hfz23_1 := blk_frozen BK203.out 1; have hfz23_2 := blk_frozen BK203.out 2) | ((with_reducible refine gate_callee (f := 66) rfl ?_); refine goesL_ (some 30) rfl rfl Try.func66 (by kernel_rfl) rfl #[.slice (some ad202) y204.length c0_1, .func (.func 67) #[] #[.pointer (some ⟨gb203, 0, none⟩)]] rfl (by (try simp only [List.map_toArray, List.map_cons, List.map_nil]); first | done | rfl | (simp only [List.length_drop, List.length_take]; rfl) | (simp only [show ∀ (n_ : Nat) (b_ : Int), Int.tdiv (n_ : Int) b_ = (n_ : Int) / b_ from fun n_ b_ => Int.tdiv_eq_ediv_of_nonneg (Int.natCast_nonneg n_)]; rfl)) ?_; (with_reducible refine (impl_Tap_66.calls gb203 _ _ y204 ((rd_T77 l0_1 x20_2).f0) ((rd_T77 l0_1 x20_2).f1) ((rd_T77 l0_1 x20_2).f2) true _ ?side1 ?side2 A15.out ?side3 ?side4).mono ?_); (case side1 => repeat (first | exact (Kd.C_below HR207.out HB.out) | (with_reducible refine Kd.C_alloc ?_ _) | (with_reducible refine Kd.C_drewN ?_ _) | (with_reducible refine Kd.C_drew ?_))); (case side2 => exact HC207.out); (case side3 => exact (blk_cell BK203.out 0).trans rfl); (case side4 => exact (blk_cell BK203.out 1).trans rfl); rintro e w66_ ⟨rfl, hb66_⟩; refine ⟨_, rfl, ?_⟩; have n0_ := Aside0.mk (blk_below BK200.out hb66_); have n1_ := Aside0.mk (blk_below BK203.out hb66_); have n2_ := Aside0.mk (below_step HB.out hb66_); clear BK200 BK203 HB; have BK200 := n0_; have BK203 := n1_; have HB := n2_; clear n0_ n1_ n2_ hb66_; have hczT_0 : w66_.cell? ⟨gb203, 0, none⟩ = some (.int .i64 ((rd_T77 l0_1 x20_2).f0)) := (blk_cell BK203.out 0).trans rfl; have hczT_1 : w66_.cell? ⟨gb203, 1, none⟩ = some (.int .i64 ((rd_T77 l0_1 x20_2).f1)) := (blk_cell BK203.out 1).trans rfl; have hczT_2 : w66_.cell? ⟨gb203, 2, none⟩ = some (.int .i64 ((rd_T77 l0_1 x20_2).f2)) := (blk_cell BK203.out 2).trans rfl; have hfzT_0 := blk_frozen BK203.out 0; have hfzT_1 := blk_frozen BK203.out 1; have hfzT_2 := blk_frozen BK203.out 2))
           go_ret
           exact ⟨by first | rfl | (simp [errW_none, errW_some] <;> rfl) | (simp [*, errW_none, errW_some] <;> rfl), by repeat (first | (with_reducible first | exact HB.out | apply below_alloc | apply pw_below_drewN | apply below_drew1 | refine below_set ?_ GE200.out | refine below_set ?_ GE203.out) | exact HB.out)⟩
          ·replace c16 := Bool.eq_false_iff.mpr c16
           subst c16
           have H1 : ((impl_within.f ((rd_T77 l0_1 x20_2).f0) 0 2).bind fun t209 => (if t209 = true then ((impl_within.f ((rd_T77 l0_1 x20_2).f1) (-2) 2).bind fun t210 => (if t210 = true then (if ((rd_T77 l0_1 x20_2).f0) < 1 then (if ((rd_T77 l0_1 x20_2).f1) < 1 then (some false) else ((impl_within.f ((rd_T77 l0_1 x20_2).f2) 1 64).bind fun t211 => (if t211 = true then (impl_ValidKernel.l0 k2 (wrap64 (x3_2 + ((rd_T77 l0_1 x20_2).f2))) l0_1 (l0_1.length : Int) (wrap64 (x20_2 + 1)) a0_0 l0_1) else (some false)))) else ((impl_within.f ((rd_T77 l0_1 x20_2).f2) 1 64).bind fun t212 => (if t212 = true then (impl_ValidKernel.l0 k2 (wrap64 (x3_2 + ((rd_T77 l0_1 x20_2).f2))) l0_1 (l0_1.length : Int) (wrap64 (x20_2 + 1)) a0_0 l0_1) else (some false)))) else (some false))) else (some false))) = some r := by rw [if_neg (show ¬ (false = true) by decide)] at H; exact H
           clear H
           have H := H1
           clear H1
           replace H := Option.bind_eq_some_iff.mp H
           obtain ⟨t209, A240, H⟩ := H
           replace H : (if t209 = true then ((impl_within.f ((rd_T77 l0_1 x20_2).f1) (-2) 2).bind fun t210 => (if t210 = true then (if ((rd_T77 l0_1 x20_2).f0) < 1 then (if ((rd_T77 l0_1 x20_2).f1) < 1 then (some false) else ((impl_within.f ((rd_T77 l0_1 x20_2).f2) 1 64).bind fun t211 => (if t211 = true then (impl_ValidKernel.l0 k2 (wrap64 (x3_2 + ((rd_T77 l0_1 x20_2).f2))) l0_1 (l0_1.length : Int) (wrap64 (x20_2 + 1)) a0_0 l0_1) else (some false)))) else ((impl_within.f ((rd_T77 l0_1 x20_2).f2) 1 64).bind fun t212 => (if t212 = true then (impl_ValidKernel.l0 k2 (wrap64 (x3_2 + ((rd_T77 l0_1 x20_2).f2))) l0_1 (l0_1.length : Int) (wrap64 (x20_2 + 1)) a0_0 l0_1) else (some false)))) else (some false))) else (some false)) = some r := H
           have A24 := Aside0.mk A240
           clear A240
           by_cases c25 : t209 = true
           ·subst c25
            have H1 : ((impl_within.f ((rd_T77 l0_1 x20_2).f1) (-2) 2).bind fun t210 => (if t210 = true then (if ((rd_T77 l0_1 x20_2).f0) < 1 then (if ((rd_T77 l0_1 x20_2).f1) < 1 then (some false) else ((impl_within.f ((rd_T77 l0_1 x20_2).f2) 1 64).bind fun t211 => (if t211 = true then (impl_ValidKernel.l0 k2 (wrap64 (x3_2 + ((rd_T77 l0_1 x20_2).f2))) l0_1 (l0_1.length : Int) (wrap64 (x20_2 + 1)) a0_0 l0_1) else (some false)))) else ((impl_within.f ((rd_T77 l0_1 x20_2).f2) 1 64).bind fun t212 => (if t212 = true then (impl_ValidKernel.l0 k2 (wrap64 (x3_2 + ((rd_T77 l0_1 x20_2).f2))) l0_1 (l0_1.length : Int) (wrap64 (x20_2 + 1)) a0_0 l0_1) else (some false)))) else (some false))) = some r := by rw [if_pos rfl] at H; exact H
            clear H
            have H := H1
            clear H1
            replace H := Option.bind_eq_some_iff.mp H
            obtain ⟨t210, A260, H⟩ := H
            replace H : (if t210 = true then (if ((rd_T77 l0_1 x20_2).f0) < 1 then (if ((rd_T77 l0_1 x20_2).f1) < 1 then (some false) else ((impl_within.f ((rd_T77 l0_1 x20_2).f2) 1 64).bind fun t211 => (if t211 = true then (impl_ValidKernel.l0 k2 (wrap64 (x3_2 + ((rd_T77 l0_1 x20_2).f2))) l0_1 (l0_1.length : Int) (wrap64 (x20_2 + 1)) a0_0 l0_1) else (some false)))) else ((impl_within.f ((rd_T77 l0_1 x20_2).f2) 1 64).bind fun t212 => (if t212 = true then (impl_ValidKernel.l0 k2 (wrap64 (x3_2 + ((rd_T77 l0_1 x20_2).f2))) l0_1 (l0_1.length : Int) (wrap64 (x20_2 + 1)) a0_0 l0_1) else (some false)))) else (some false)) = some r := H
            have A26 := Aside0.mk A260
            clear A260
            by_cases c27 : t210 = true
            ·subst c27
             have H1 : (if ((rd_T77 l0_1 x20_2).f0) < 1 then (if ((rd_T77 l0_1 x20_2).f1) < 1 then (some false) else ((impl_within.f ((rd_T77 l0_1 x20_2).f2) 1 64).bind fun t211 => (if t211 = true then (impl_ValidKernel.l0 k2 (wrap64 (x3_2 + ((rd_T77 l0_1 x20_2).f2))) l0_1 (l0_1.length : Int) (wrap64 (x20_2 + 1)) a0_0 l0_1) else (some false)))) else ((impl_within.f ((rd_T77 l0_1 x20_2).f2) 1 64).bind fun t212 => (if t212 = true then (impl_ValidKernel.l0 k2 (wrap64 (x3_2 + ((rd_T77 l0_1 x20_2).f2))) l0_1 (l0_1.length : Int) (wrap64 (x20_2 + 1)) a0_0 l0_1) else (some false)))) = some r := by rw [if_pos rfl] at H; exact H
             clear H
             have H := H1
             clear H1
             by_cases c28 : ((rd_T77 l0_1 x20_2).f0) < 1
             ·rw [if_pos c28] at H
              have c28b0 : decide (((rd_T77 l0_1 x20_2).f0) < 1) = true := decide_eq_true c28
              clear c28
              by_cases c29 : ((rd_T77 l0_1 x20_2).f1) < 1
              ·rw [if_pos c29] at H
               have c29b0 : decide (((rd_T77 l0_1 x20_2).f1) < 1) = true := decide_eq_true c29
               clear c29
               obtain rfl := Option.some.inj H
               have p202 : 0 ≤ (x20_2 : Int) := of_decide_eq_true (by first | (with_reducible assumption) | assumption)
               have q202 : x20_2 < (l0_1.length : Int) := of_decide_eq_true (by first | (with_reducible assumption) | assumption)
               obtain ⟨ad202, e202, hx202_0, hx202_1, hx202_2⟩ := at_T77 HR0_1.out x20_2 p202 q202
               cases e202
               replace hx202_0 := (HB.out.cell (World.block_lt_of_cell? w _ hx202_0)).trans hx202_0
               replace hx202_1 := (HB.out.cell (World.block_lt_of_cell? w _ hx202_1)).trans hx202_1
               replace hx202_2 := (HB.out.cell (World.block_lt_of_cell? w _ hx202_2)).trans hx202_2
               replace p202 := eq_true p202
               replace q202 := eq_true q202
               go_wp2_with (first | ((with_reducible refine gate_dst (N := 5) rfl ?_); (try (refine gate_guard (by rfl) ?_; dsimp only)); refine box_event ?hg (N := 5) ?hd (cs := #[.int .i64 0, .int .i64 0, .int .i64 0]) (t := 77) ?hr ?_; (case hd => rfl); (case hg => rfl); (case hr => first | (go_simp; done) | (go_simp; rfl)); intro gb203 hg w30 hbox hb; have n0_ := Aside0.mk (blk_below (g := gb200) (o := .cells #[.int .i64 a0_0, .slice (some ad202) l0_1.length c0_1] 24 (0, 0)) (by (with_reducible repeat (first | refine blk_drewN ?_ _ | refine blk_drew ?_ | refine blk_alloc ?_ _)); exact BK200.out) hb); have n1_ := Aside0.mk (below_step (by repeat (first | (with_reducible first | exact HB.out | apply below_alloc | apply pw_below_drewN | apply below_drew1 | refine below_set ?_ GE200.out) | exact HB.out)) hb); have n2_ := Aside0.mk (hbox); have n3_ := Aside0.mk ((by rw [hg]; exact (below_size (by repeat (first | (with_reducible first | exact HB.out | apply below_alloc | apply pw_below_drewN | apply below_drew1 | refine below_set ?_ GE200.out) | exact HB.out))) : w.heap.size ≤ gb203)); have n4_ := Aside0.mk ((by rw [hg]; exact (below_size (by repeat (first | (with_reducible first | exact HB.out | apply below_alloc | apply pw_below_drewN | apply below_drew1 | refine below_set ?_ GE200.out) | exact HB.out))) : w.heap.size ≤ gb203)); have n5_ := Aside0.mk ((by rw [hg]; exact Nat.ne_of_lt (blk_lt (g := gb200) (o := .cells #[.int .i64 a0_0, .slice (some ad202) l0_1.length c0_1] 24 (0, 0)) (by (with_reducible repeat (first | refine blk_drewN ?_ _ | refine blk_drew ?_ | refine blk_alloc ?_ _)); exact BK200.out)) : gb200 ≠ gb203)); have n6_ := Aside0.mk ((by rw [hg]; exact Nat.ne_of_gt (blk_lt (g := gb200) (o := .cells #[.int .i64 a0_0, .slice (some ad202) l0_1.length c0_1] 24 (0, 0)) (by (with_reducible repeat (first | refine blk_drewN ?_ _ | refine blk_drew ?_ | refine blk_alloc ?_ _)); exact BK200.out)) : gb203 ≠ gb200)); clear BK200; clear HB; have BK200 := n0_; have HB := n1_; have BK203 := n2_; have GW203 := n3_; have GE203 := n4_; have NB200_203 := n5_; have NB203_200 := n6_; clear n0_ n1_ n2_ n3_ n4_ n5_ n6_; clear hb hbox hg; have hnb31 := NB203_200.out; have hnc31 := NB200_203.out; have hcz32_0 : w30.cell? ⟨gb203, 0, none⟩ = some (.int .i64 0) := (blk_cell BK203.out 0).trans rfl; have hcz32_1 : w30.cell? ⟨gb203, 1, none⟩ = some (.int .i64 0) := (blk_cell BK203.out 1).trans rfl; have hcz32_2 : w30.cell? ⟨gb203, 2, none⟩ = some (.int .i64 0) := (blk_cell BK203.out 2).trans rfl; have hfz32_0 := blk_frozen BK203.out 0; have hfz32_1 := blk_frozen BK203.out 1; have hfz32_2 := blk_frozen BK203.out 2) | ((with_reducible refine gate_store (t := 77) (p := 5) rfl ?_); refine store_event (t := 77) (p := 5) (v := ?vo_w33) (w1 := (((w30.setCell ⟨gb203, 0, none⟩ (.int .i64 ((rd_T77 l0_1 x20_2).f0))).setCell ⟨gb203, 1, none⟩ (.int .i64 ((rd_T77 l0_1 x20_2).f1))).setCell ⟨gb203, 2, none⟩ (.int .i64 ((rd_T77 l0_1 x20_2).f2)))) ?hg ?ho ?hn ?hr ?_; (case ho => rfl); (case hg => rfl); (case hn => rfl); (case hr => first | (go_simp; done) | (go_simp; rfl)); intro w33 hw; have n0_ : Aside0 (w33.heap[gb200]? = some (.cells #[.int .i64 a0_0, .slice (some ad202) l0_1.length c0_1] 24 (0, 0))) := ⟨(by rw [hw]; exact (by (with_reducible repeat (first | refine blk_drewN ?_ _ | refine blk_drew ?_ | refine blk_alloc ?_ _)); refine blk_far ?_ NB200_203.out _; (with_reducible repeat (first | refine blk_drewN ?_ _ | refine blk_drew ?_ | refine blk_alloc ?_ _)); refine blk_far ?_ NB200_203.out _; (with_reducible repeat (first | refine blk_drewN ?_ _ | refine blk_drew ?_ | refine blk_alloc ?_ _)); refine blk_far ?_ NB200_203.out _; (with_reducible repeat (first | refine blk_drewN ?_ _ | refine blk_drew ?_ | refine blk_alloc ?_ _)); exact BK200.out))⟩; have n1_ : Aside0 (w33.heap[gb203]? = some (.cells #[.int .i64 ((rd_T77 l0_1 x20_2).f0), .int .i64 ((rd_T77 l0_1 x20_2).f1), .int .i64 ((rd_T77 l0_1 x20_2).f2)] 77 (0, 0))) := ⟨(by rw [hw]; exact (by (with_reducible repeat (first | refine blk_drewN ?_ _ | refine blk_drew ?_ | refine blk_alloc ?_ _)); refine blk_put (cs := #[.int .i64 ((rd_T77 l0_1 x20_2).f0), .int .i64 ((rd_T77 l0_1 x20_2).f1), .int .i64 0]) ?_ 2 _ rfl; (with_reducible repeat (first | refine blk_drewN ?_ _ | refine blk_drew ?_ | refine blk_alloc ?_ _)); refine blk_put (cs := #[.int .i64 ((rd_T77 l0_1 x20_2).f0), .int .i64 0, .int .i64 0]) ?_ 1 _ rfl; (with_reducible repeat (first | refine blk_drewN ?_ _ | refine blk_drew ?_ | refine blk_alloc ?_ _)); refine blk_put (cs := #[.int .i64 0, .int .i64 0, .int .i64 0]) ?_ 0 _ rfl; (with_reducible repeat (first | refine blk_drewN ?_ _ | refine blk_drew ?_ | refine blk_alloc ?_ _)); exact BK203.out))⟩; have n2_ : Aside0 (Below w.heap.size w w33) := ⟨(by rw [hw]; exact (by repeat (first | (with_reducible first | exact HB.out | apply below_alloc | apply pw_below_drewN | apply below_drew1 | refine below_set ?_ GE200.out | refine below_set ?_ GE203.out) | exact HB.out)))⟩; clear hw; clear BK200; clear BK203; clear HB; have BK200 := n0_; have BK203 := n1_; have HB := n2_; clear n0_ n1_ n2_; have hcz34_0 : w33.cell? ⟨gb200, 0, none⟩ = some (.int .i64 a0_0) := (blk_cell BK200.out 0).trans rfl; have hcz34_1 : w33.cell? ⟨gb200, 1, none⟩ = some (.slice (some ad202) l0_1.length c0_1) := (blk_cell BK200.out 1).trans rfl; have hfz34_0 := blk_frozen BK200.out 0; have hfz34_1 := blk_frozen BK200.out 1; have q35 : (x20_2 : Int) ≤ ((l0_1.length : Int) : Int) := of_decide_eq_true (by first | (with_reducible assumption) | assumption); obtain ⟨i035, hi035, _, hsz35, _⟩ := info_parts info77; have hroom35 : l0_1.length ≤ c0_1 := HC0_1.out; have hC35 : Kd.C k77 _ (some ad202) l0_1.length l0_1 := HR0_1.out; have hcut35 := cut_to (P := Try.prog) 22 77 .i64 Try.underlying22 hi035 (some ad202) l0_1.length c0_1 x20_2 (of_decide_eq_true (by first | (with_reducible assumption) | assumption)) q35 hroom35; have hr35 := Kd.C_take (m := (x20_2 : Int).toNat) hC35 (by omega); have hy35 : y204.length = (x20_2 : Int).toNat := (by rw [Ny204.out, List.length_take]; omega); rw [← Ny204.out] at hr35; rw [← hy35] at hcut35; have HR207 := Aside0.mk hr35; have HC207 := Aside0.mk (show y204.length ≤ c0_1 from by omega); clear hr35 hC35 hroom35 hi035 hsz35; have KY35 := Aside0.mk hy35; clear hy35; replace q35 := eq_true q35; have hcz36_0 : w33.cell? ⟨gb203, 0, none⟩ = some (.int .i64 ((rd_T77 l0_1 x20_2).f0)) := (blk_cell BK203.out 0).trans rfl; have hcz36_1 : w33.cell? ⟨gb203, 1, none⟩ = some (.int .i64 ((rd_T77 l0_1 x20_2).f1)) := (blk_cell BK203.out 1).trans rfl; have hcz36_2 : w33.cell? ⟨gb203, 2, none⟩ = some (.int .i64 ((rd_T77 l0_1 x20_2).f2)) := (blk_cell BK203.out 2).trans rfl; have hfz36_0 := blk_frozen BK203.out 0; have hfz36_1 := blk_frozen BK203.out 1; have hfz36_2 := blk_frozen BK203.out 2) | ((with_reducible refine gate_callee (f := 66) rfl ?_); refine goesL_ (some 30) rfl rfl Try.func66 (by kernel_rfl) rfl #[.slice (some ad202) y204.length c0_1, .func (.func 67) #[] #[.pointer (some ⟨gb203, 0, none⟩)]] rfl (by (try simp only [List.map_toArray, List.map_cons, List.map_nil]); first | done | rfl | (simp only [List.length_drop, List.length_take]; rfl) | (simp only [show ∀ (n_ : Nat) (b_ : Int), Int.tdiv (n_ : Int) b_ = (n_ : Int) / b_ from fun n_ b_ => Int.tdiv_eq_ediv_of_nonneg (Int.natCast_nonneg n_)]; rfl)) ?_; (with_reducible refine (impl_Tap_66.calls gb203 _ _ y204 ((rd_T77 l0_1 x20_2).f0) ((rd_T77 l0_1 x20_2).f1) ((rd_T77 l0_1 x20_2).f2) false _ ?side1 ?side2 A15.out ?side3 ?side4).mono ?_); (case side1 => repeat (first | exact (Kd.C_below HR207.out HB.out) | (with_reducible refine Kd.C_alloc ?_ _) | (with_reducible refine Kd.C_drewN ?_ _) | (with_reducible refine Kd.C_drew ?_))); (case side2 => exact HC207.out); (case side3 => exact (blk_cell BK203.out 0).trans rfl); (case side4 => exact (blk_cell BK203.out 1).trans rfl); rintro e w66_ ⟨rfl, hb66_⟩; refine ⟨_, rfl, ?_⟩; have n0_ := Aside0.mk (blk_below BK200.out hb66_); have n1_ := Aside0.mk (blk_below BK203.out hb66_); have n2_ := Aside0.mk (below_step HB.out hb66_); clear BK200 BK203 HB; have BK200 := n0_; have BK203 := n1_; have HB := n2_; clear n0_ n1_ n2_ hb66_; have hczT_0 : w66_.cell? ⟨gb203, 0, none⟩ = some (.int .i64 ((rd_T77 l0_1 x20_2).f0)) := (blk_cell BK203.out 0).trans rfl; have hczT_1 : w66_.cell? ⟨gb203, 1, none⟩ = some (.int .i64 ((rd_T77 l0_1 x20_2).f1)) := (blk_cell BK203.out 1).trans rfl; have hczT_2 : w66_.cell? ⟨gb203, 2, none⟩ = some (.int .i64 ((rd_T77 l0_1 x20_2).f2)) := (blk_cell BK203.out 2).trans rfl; have hfzT_0 := blk_frozen BK203.out 0; have hfzT_1 := blk_frozen BK203.out 1; have hfzT_2 := blk_frozen BK203.out 2) | (go_at_call 65; (with_reducible refine (impl_within.calls ((rd_T77 l0_1 x20_2).f0) 0 2 true _ A24.out).mono ?_); rintro e w' ⟨rfl, ⟨nd, rfl⟩⟩) | (go_at_call 65; (with_reducible refine (impl_within.calls ((rd_T77 l0_1 x20_2).f1) (-2) 2 true _ A26.out).mono ?_); rintro e w' ⟨rfl, ⟨nd, rfl⟩⟩))
               go_ret
               exact ⟨by first | rfl | (simp [errW_none, errW_some] <;> rfl) | (simp [*, errW_none, errW_some] <;> rfl), by repeat (first | (with_reducible first | exact HB.out | apply below_alloc | apply pw_below_drewN | apply below_drew1 | refine below_set ?_ GE200.out | refine below_set ?_ GE203.out) | exact HB.out)⟩
              ·rw [if_neg c29] at H
               have c29b0 : decide (((rd_T77 l0_1 x20_2).f1) < 1) = false := decide_eq_false c29
               clear c29
               replace H := Option.bind_eq_some_iff.mp H
               obtain ⟨t211, A370, H⟩ := H
               replace H : (if t211 = true then (impl_ValidKernel.l0 k2 (wrap64 (x3_2 + ((rd_T77 l0_1 x20_2).f2))) l0_1 (l0_1.length : Int) (wrap64 (x20_2 + 1)) a0_0 l0_1) else (some false)) = some r := H
               have A37 := Aside0.mk A370
               clear A370
               by_cases c38 : t211 = true
               ·subst c38
                have H1 : (impl_ValidKernel.l0 k2 (wrap64 (x3_2 + ((rd_T77 l0_1 x20_2).f2))) l0_1 (l0_1.length : Int) (wrap64 (x20_2 + 1)) a0_0 l0_1) = some r := by rw [if_pos rfl] at H; exact H
                clear H
                have H := H1
                clear H1
                have H' := Aside0.mk H
                clear H
                have p202 : 0 ≤ (x20_2 : Int) := of_decide_eq_true (by first | (with_reducible assumption) | assumption)
                have q202 : x20_2 < (l0_1.length : Int) := of_decide_eq_true (by first | (with_reducible assumption) | assumption)
                obtain ⟨ad202, e202, hx202_0, hx202_1, hx202_2⟩ := at_T77 HR0_1.out x20_2 p202 q202
                cases e202
                replace hx202_0 := (HB.out.cell (World.block_lt_of_cell? w _ hx202_0)).trans hx202_0
                replace hx202_1 := (HB.out.cell (World.block_lt_of_cell? w _ hx202_1)).trans hx202_1
                replace hx202_2 := (HB.out.cell (World.block_lt_of_cell? w _ hx202_2)).trans hx202_2
                replace p202 := eq_true p202
                replace q202 := eq_true q202
                go_wp2_with (first | ((with_reducible refine gate_dst (N := 5) rfl ?_); (try (refine gate_guard (by rfl) ?_; dsimp only)); refine box_event ?hg (N := 5) ?hd (cs := #[.int .i64 0, .int .i64 0, .int .i64 0]) (t := 77) ?hr ?_; (case hd => rfl); (case hg => rfl); (case hr => first | (go_simp; done) | (go_simp; rfl)); intro gb203 hg w39 hbox hb; have n0_ := Aside0.mk (blk_below (g := gb200) (o := .cells #[.int .i64 a0_0, .slice (some ad202) l0_1.length c0_1] 24 (0, 0)) (by (with_reducible repeat (first | refine blk_drewN ?_ _ | refine blk_drew ?_ | refine blk_alloc ?_ _)); exact BK200.out) hb); have n1_ := Aside0.mk (below_step (by repeat (first | (with_reducible first | exact HB.out | apply below_alloc | apply pw_below_drewN | apply below_drew1 | refine below_set ?_ GE200.out) | exact HB.out)) hb); have n2_ := Aside0.mk (hbox); have n3_ := Aside0.mk ((by rw [hg]; exact (below_size (by repeat (first | (with_reducible first | exact HB.out | apply below_alloc | apply pw_below_drewN | apply below_drew1 | refine below_set ?_ GE200.out) | exact HB.out))) : w.heap.size ≤ gb203)); have n4_ := Aside0.mk ((by rw [hg]; exact (below_size (by repeat (first | (with_reducible first | exact HB.out | apply below_alloc | apply pw_below_drewN | apply below_drew1 | refine below_set ?_ GE200.out) | exact HB.out))) : w.heap.size ≤ gb203)); have n5_ := Aside0.mk ((by rw [hg]; exact Nat.ne_of_lt (blk_lt (g := gb200) (o := .cells #[.int .i64 a0_0, .slice (some ad202) l0_1.length c0_1] 24 (0, 0)) (by (with_reducible repeat (first | refine blk_drewN ?_ _ | refine blk_drew ?_ | refine blk_alloc ?_ _)); exact BK200.out)) : gb200 ≠ gb203)); have n6_ := Aside0.mk ((by rw [hg]; exact Nat.ne_of_gt (blk_lt (g := gb200) (o := .cells #[.int .i64 a0_0, .slice (some ad202) l0_1.length c0_1] 24 (0, 0)) (by (with_reducible repeat (first | refine blk_drewN ?_ _ | refine blk_drew ?_ | refine blk_alloc ?_ _)); exact BK200.out)) : gb203 ≠ gb200)); clear BK200; clear HB; have BK200 := n0_; have HB := n1_; have BK203 := n2_; have GW203 := n3_; have GE203 := n4_; have NB200_203 := n5_; have NB203_200 := n6_; clear n0_ n1_ n2_ n3_ n4_ n5_ n6_; clear hb hbox hg; have hnb40 := NB203_200.out; have hnc40 := NB200_203.out; have hcz41_0 : w39.cell? ⟨gb203, 0, none⟩ = some (.int .i64 0) := (blk_cell BK203.out 0).trans rfl; have hcz41_1 : w39.cell? ⟨gb203, 1, none⟩ = some (.int .i64 0) := (blk_cell BK203.out 1).trans rfl; have hcz41_2 : w39.cell? ⟨gb203, 2, none⟩ = some (.int .i64 0) := (blk_cell BK203.out 2).trans rfl; have hfz41_0 := blk_frozen BK203.out 0; have hfz41_1 := blk_frozen BK203.out 1; have hfz41_2 := blk_frozen BK203.out 2) | ((with_reducible refine gate_store (t := 77) (p := 5) rfl ?_); refine store_event (t := 77) (p := 5) (v := ?vo_w42) (w1 := (((w39.setCell ⟨gb203, 0, none⟩ (.int .i64 ((rd_T77 l0_1 x20_2).f0))).setCell ⟨gb203, 1, none⟩ (.int .i64 ((rd_T77 l0_1 x20_2).f1))).setCell ⟨gb203, 2, none⟩ (.int .i64 ((rd_T77 l0_1 x20_2).f2)))) ?hg ?ho ?hn ?hr ?_; (case ho => rfl); (case hg => rfl); (case hn => rfl); (case hr => first | (go_simp; done) | (go_simp; rfl)); intro w42 hw; have n0_ : Aside0 (w42.heap[gb200]? = some (.cells #[.int .i64 a0_0, .slice (some ad202) l0_1.length c0_1] 24 (0, 0))) := ⟨(by rw [hw]; exact (by (with_reducible repeat (first | refine blk_drewN ?_ _ | refine blk_drew ?_ | refine blk_alloc ?_ _)); refine blk_far ?_ NB200_203.out _; (with_reducible repeat (first | refine blk_drewN ?_ _ | refine blk_drew ?_ | refine blk_alloc ?_ _)); refine blk_far ?_ NB200_203.out _; (with_reducible repeat (first | refine blk_drewN ?_ _ | refine blk_drew ?_ | refine blk_alloc ?_ _)); refine blk_far ?_ NB200_203.out _; (with_reducible repeat (first | refine blk_drewN ?_ _ | refine blk_drew ?_ | refine blk_alloc ?_ _)); exact BK200.out))⟩; have n1_ : Aside0 (w42.heap[gb203]? = some (.cells #[.int .i64 ((rd_T77 l0_1 x20_2).f0), .int .i64 ((rd_T77 l0_1 x20_2).f1), .int .i64 ((rd_T77 l0_1 x20_2).f2)] 77 (0, 0))) := ⟨(by rw [hw]; exact (by (with_reducible repeat (first | refine blk_drewN ?_ _ | refine blk_drew ?_ | refine blk_alloc ?_ _)); refine blk_put (cs := #[.int .i64 ((rd_T77 l0_1 x20_2).f0), .int .i64 ((rd_T77 l0_1 x20_2).f1), .int .i64 0]) ?_ 2 _ rfl; (with_reducible repeat (first | refine blk_drewN ?_ _ | refine blk_drew ?_ | refine blk_alloc ?_ _)); refine blk_put (cs := #[.int .i64 ((rd_T77 l0_1 x20_2).f0), .int .i64 0, .int .i64 0]) ?_ 1 _ rfl; (with_reducible repeat (first | refine blk_drewN ?_ _ | refine blk_drew ?_ | refine blk_alloc ?_ _)); refine blk_put (cs := #[.int .i64 0, .int .i64 0, .int .i64 0]) ?_ 0 _ rfl; (with_reducible repeat (first | refine blk_drewN ?_ _ | refine blk_drew ?_ | refine blk_alloc ?_ _)); exact BK203.out))⟩; have n2_ : Aside0 (Below w.heap.size w w42) := ⟨(by rw [hw]; exact (by repeat (first | (with_reducible first | exact HB.out | apply below_alloc | apply pw_below_drewN | apply below_drew1 | refine below_set ?_ GE200.out | refine below_set ?_ GE203.out) | exact HB.out)))⟩; clear hw; clear BK200; clear BK203; clear HB; have BK200 := n0_; have BK203 := n1_; have HB := n2_; clear n0_ n1_ n2_; have hcz43_0 : w42.cell? ⟨gb200, 0, none⟩ = some (.int .i64 a0_0) := (blk_cell BK200.out 0).trans rfl; have hcz43_1 : w42.cell? ⟨gb200, 1, none⟩ = some (.slice (some ad202) l0_1.length c0_1) := (blk_cell BK200.out 1).trans rfl; have hfz43_0 := blk_frozen BK200.out 0; have hfz43_1 := blk_frozen BK200.out 1; have q44 : (x20_2 : Int) ≤ ((l0_1.length : Int) : Int) := of_decide_eq_true (by first | (with_reducible assumption) | assumption); obtain ⟨i044, hi044, _, hsz44, _⟩ := info_parts info77; have hroom44 : l0_1.length ≤ c0_1 := HC0_1.out; have hC44 : Kd.C k77 _ (some ad202) l0_1.length l0_1 := HR0_1.out; have hcut44 := cut_to (P := Try.prog) 22 77 .i64 Try.underlying22 hi044 (some ad202) l0_1.length c0_1 x20_2 (of_decide_eq_true (by first | (with_reducible assumption) | assumption)) q44 hroom44; have hr44 := Kd.C_take (m := (x20_2 : Int).toNat) hC44 (by omega); have hy44 : y204.length = (x20_2 : Int).toNat := (by rw [Ny204.out, List.length_take]; omega); rw [← Ny204.out] at hr44; rw [← hy44] at hcut44; have HR207 := Aside0.mk hr44; have HC207 := Aside0.mk (show y204.length ≤ c0_1 from by omega); clear hr44 hC44 hroom44 hi044 hsz44; have KY44 := Aside0.mk hy44; clear hy44; replace q44 := eq_true q44; have hcz45_0 : w42.cell? ⟨gb203, 0, none⟩ = some (.int .i64 ((rd_T77 l0_1 x20_2).f0)) := (blk_cell BK203.out 0).trans rfl; have hcz45_1 : w42.cell? ⟨gb203, 1, none⟩ = some (.int .i64 ((rd_T77 l0_1 x20_2).f1)) := (blk_cell BK203.out 1).trans rfl; have hcz45_2 : w42.cell? ⟨gb203, 2, none⟩ = some (.int .i64 ((rd_T77 l0_1 x20_2).f2)) := (blk_cell BK203.out 2).trans rfl; have hfz45_0 := blk_frozen BK203.out 0; have hfz45_1 := blk_frozen BK203.out 1; have hfz45_2 := blk_frozen BK203.out 2) | ((with_reducible refine gate_callee (f := 66) rfl ?_); refine goesL_ (some 30) rfl rfl Try.func66 (by kernel_rfl) rfl #[.slice (some ad202) y204.length c0_1, .func (.func 67) #[] #[.pointer (some ⟨gb203, 0, none⟩)]] rfl (by (try simp only [List.map_toArray, List.map_cons, List.map_nil]); first | done | rfl | (simp only [List.length_drop, List.length_take]; rfl) | (simp only [show ∀ (n_ : Nat) (b_ : Int), Int.tdiv (n_ : Int) b_ = (n_ : Int) / b_ from fun n_ b_ => Int.tdiv_eq_ediv_of_nonneg (Int.natCast_nonneg n_)]; rfl)) ?_; (with_reducible refine (impl_Tap_66.calls gb203 _ _ y204 ((rd_T77 l0_1 x20_2).f0) ((rd_T77 l0_1 x20_2).f1) ((rd_T77 l0_1 x20_2).f2) false _ ?side1 ?side2 A15.out ?side3 ?side4).mono ?_); (case side1 => repeat (first | exact (Kd.C_below HR207.out HB.out) | (with_reducible refine Kd.C_alloc ?_ _) | (with_reducible refine Kd.C_drewN ?_ _) | (with_reducible refine Kd.C_drew ?_))); (case side2 => exact HC207.out); (case side3 => exact (blk_cell BK203.out 0).trans rfl); (case side4 => exact (blk_cell BK203.out 1).trans rfl); rintro e w66_ ⟨rfl, hb66_⟩; refine ⟨_, rfl, ?_⟩; have n0_ := Aside0.mk (blk_below BK200.out hb66_); have n1_ := Aside0.mk (blk_below BK203.out hb66_); have n2_ := Aside0.mk (below_step HB.out hb66_); clear BK200 BK203 HB; have BK200 := n0_; have BK203 := n1_; have HB := n2_; clear n0_ n1_ n2_ hb66_; have hczT_0 : w66_.cell? ⟨gb203, 0, none⟩ = some (.int .i64 ((rd_T77 l0_1 x20_2).f0)) := (blk_cell BK203.out 0).trans rfl; have hczT_1 : w66_.cell? ⟨gb203, 1, none⟩ = some (.int .i64 ((rd_T77 l0_1 x20_2).f1)) := (blk_cell BK203.out 1).trans rfl; have hczT_2 : w66_.cell? ⟨gb203, 2, none⟩ = some (.int .i64 ((rd_T77 l0_1 x20_2).f2)) := (blk_cell BK203.out 2).trans rfl; have hfzT_0 := blk_frozen BK203.out 0; have hfzT_1 := blk_frozen BK203.out 1; have hfzT_2 := blk_frozen BK203.out 2) | (go_at_call 65; (with_reducible refine (impl_within.calls ((rd_T77 l0_1 x20_2).f0) 0 2 true _ A24.out).mono ?_); rintro e w' ⟨rfl, ⟨nd, rfl⟩⟩) | (go_at_call 65; (with_reducible refine (impl_within.calls ((rd_T77 l0_1 x20_2).f1) (-2) 2 true _ A26.out).mono ?_); rintro e w' ⟨rfl, ⟨nd, rfl⟩⟩) | (go_at_call 65; (with_reducible refine (impl_within.calls ((rd_T77 l0_1 x20_2).f2) 1 64 true _ A37.out).mono ?_); rintro e w' ⟨rfl, ⟨nd, rfl⟩⟩))
                go_roundg k2
                case measure => have := HJ1.out; have := HK2.out; omega
                case rel => exact ⟨(wrap64 (x3_2 + ((rd_T77 l0_1 x20_2).f2))), (wrap64 (x20_2 + 1)), (by first | rfl | (simp; done) | (simp [*]; done)), (by first | rfl | (simp; done) | (simp [*]; done)), H', ⟨by have := HJ1.out; have := HK2.out; omega⟩, ⟨by (with_reducible repeat (first | refine blk_drewN ?_ _ | refine blk_drew ?_ | refine blk_alloc ?_ _)); exact BK200.out⟩, ⟨by repeat (first | (with_reducible first | exact HB.out | apply below_alloc | apply pw_below_drewN | apply below_drew1 | refine below_set ?_ GE200.out | refine below_set ?_ GE203.out) | exact HB.out)⟩⟩
               ·replace c38 := Bool.eq_false_iff.mpr c38
                subst c38
                have H1 : (some false) = some r := by rw [if_neg (show ¬ (false = true) by decide)] at H; exact H
                clear H
                have H := H1
                clear H1
                obtain rfl := Option.some.inj H
                have p202 : 0 ≤ (x20_2 : Int) := of_decide_eq_true (by first | (with_reducible assumption) | assumption)
                have q202 : x20_2 < (l0_1.length : Int) := of_decide_eq_true (by first | (with_reducible assumption) | assumption)
                obtain ⟨ad202, e202, hx202_0, hx202_1, hx202_2⟩ := at_T77 HR0_1.out x20_2 p202 q202
                cases e202
                replace hx202_0 := (HB.out.cell (World.block_lt_of_cell? w _ hx202_0)).trans hx202_0
                replace hx202_1 := (HB.out.cell (World.block_lt_of_cell? w _ hx202_1)).trans hx202_1
                replace hx202_2 := (HB.out.cell (World.block_lt_of_cell? w _ hx202_2)).trans hx202_2
                replace p202 := eq_true p202
                replace q202 := eq_true q202
                go_wp2_with (first | ((with_reducible refine gate_dst (N := 5) rfl ?_); (try (refine gate_guard (by rfl) ?_; dsimp only)); refine box_event ?hg (N := 5) ?hd (cs := #[.int .i64 0, .int .i64 0, .int .i64 0]) (t := 77) ?hr ?_; (case hd => rfl); (case hg => rfl); (case hr => first | (go_simp; done) | (go_simp; rfl)); intro gb203 hg w46 hbox hb; have n0_ := Aside0.mk (blk_below (g := gb200) (o := .cells #[.int .i64 a0_0, .slice (some ad202) l0_1.length c0_1] 24 (0, 0)) (by (with_reducible repeat (first | refine blk_drewN ?_ _ | refine blk_drew ?_ | refine blk_alloc ?_ _)); exact BK200.out) hb); have n1_ := Aside0.mk (below_step (by repeat (first | (with_reducible first | exact HB.out | apply below_alloc | apply pw_below_drewN | apply below_drew1 | refine below_set ?_ GE200.out) | exact HB.out)) hb); have n2_ := Aside0.mk (hbox); have n3_ := Aside0.mk ((by rw [hg]; exact (below_size (by repeat (first | (with_reducible first | exact HB.out | apply below_alloc | apply pw_below_drewN | apply below_drew1 | refine below_set ?_ GE200.out) | exact HB.out))) : w.heap.size ≤ gb203)); have n4_ := Aside0.mk ((by rw [hg]; exact (below_size (by repeat (first | (with_reducible first | exact HB.out | apply below_alloc | apply pw_below_drewN | apply below_drew1 | refine below_set ?_ GE200.out) | exact HB.out))) : w.heap.size ≤ gb203)); have n5_ := Aside0.mk ((by rw [hg]; exact Nat.ne_of_lt (blk_lt (g := gb200) (o := .cells #[.int .i64 a0_0, .slice (some ad202) l0_1.length c0_1] 24 (0, 0)) (by (with_reducible repeat (first | refine blk_drewN ?_ _ | refine blk_drew ?_ | refine blk_alloc ?_ _)); exact BK200.out)) : gb200 ≠ gb203)); have n6_ := Aside0.mk ((by rw [hg]; exact Nat.ne_of_gt (blk_lt (g := gb200) (o := .cells #[.int .i64 a0_0, .slice (some ad202) l0_1.length c0_1] 24 (0, 0)) (by (with_reducible repeat (first | refine blk_drewN ?_ _ | refine blk_drew ?_ | refine blk_alloc ?_ _)); exact BK200.out)) : gb203 ≠ gb200)); clear BK200; clear HB; have BK200 := n0_; have HB := n1_; have BK203 := n2_; have GW203 := n3_; have GE203 := n4_; have NB200_203 := n5_; have NB203_200 := n6_; clear n0_ n1_ n2_ n3_ n4_ n5_ n6_; clear hb hbox hg; have hnb47 := NB203_200.out; have hnc47 := NB200_203.out; have hcz48_0 : w46.cell? ⟨gb203, 0, none⟩ = some (.int .i64 0) := (blk_cell BK203.out 0).trans rfl; have hcz48_1 : w46.cell? ⟨gb203, 1, none⟩ = some (.int .i64 0) := (blk_cell BK203.out 1).trans rfl; have hcz48_2 : w46.cell? ⟨gb203, 2, none⟩ = some (.int .i64 0) := (blk_cell BK203.out 2).trans rfl; have hfz48_0 := blk_frozen BK203.out 0; have hfz48_1 := blk_frozen BK203.out 1; have hfz48_2 := blk_frozen BK203.out 2) | ((with_reducible refine gate_store (t := 77) (p := 5) rfl ?_); refine store_event (t := 77) (p := 5) (v := ?vo_w49) (w1 := (((w46.setCell ⟨gb203, 0, none⟩ (.int .i64 ((rd_T77 l0_1 x20_2).f0))).setCell ⟨gb203, 1, none⟩ (.int .i64 ((rd_T77 l0_1 x20_2).f1))).setCell ⟨gb203, 2, none⟩ (.int .i64 ((rd_T77 l0_1 x20_2).f2)))) ?hg ?ho ?hn ?hr ?_; (case ho => rfl); (case hg => rfl); (case hn => rfl); (case hr => first | (go_simp; done) | (go_simp; rfl)); intro w49 hw; have n0_ : Aside0 (w49.heap[gb200]? = some (.cells #[.int .i64 a0_0, .slice (some ad202) l0_1.length c0_1] 24 (0, 0))) := ⟨(by rw [hw]; exact (by (with_reducible repeat (first | refine blk_drewN ?_ _ | refine blk_drew ?_ | refine blk_alloc ?_ _)); refine blk_far ?_ NB200_203.out _; (with_reducible repeat (first | refine blk_drewN ?_ _ | refine blk_drew ?_ | refine blk_alloc ?_ _)); refine blk_far ?_ NB200_203.out _; (with_reducible repeat (first | refine blk_drewN ?_ _ | refine blk_drew ?_ | refine blk_alloc ?_ _)); refine blk_far ?_ NB200_203.out _; (with_reducible repeat (first | refine blk_drewN ?_ _ | refine blk_drew ?_ | refine blk_alloc ?_ _)); exact BK200.out))⟩; have n1_ : Aside0 (w49.heap[gb203]? = some (.cells #[.int .i64 ((rd_T77 l0_1 x20_2).f0), .int .i64 ((rd_T77 l0_1 x20_2).f1), .int .i64 ((rd_T77 l0_1 x20_2).f2)] 77 (0, 0))) := ⟨(by rw [hw]; exact (by (with_reducible repeat (first | refine blk_drewN ?_ _ | refine blk_drew ?_ | refine blk_alloc ?_ _)); refine blk_put (cs := #[.int .i64 ((rd_T77 l0_1 x20_2).f0), .int .i64 ((rd_T77 l0_1 x20_2).f1), .int .i64 0]) ?_ 2 _ rfl; (with_reducible repeat (first | refine blk_drewN ?_ _ | refine blk_drew ?_ | refine blk_alloc ?_ _)); refine blk_put (cs := #[.int .i64 ((rd_T77 l0_1 x20_2).f0), .int .i64 0, .int .i64 0]) ?_ 1 _ rfl; (with_reducible repeat (first | refine blk_drewN ?_ _ | refine blk_drew ?_ | refine blk_alloc ?_ _)); refine blk_put (cs := #[.int .i64 0, .int .i64 0, .int .i64 0]) ?_ 0 _ rfl; (with_reducible repeat (first | refine blk_drewN ?_ _ | refine blk_drew ?_ | refine blk_alloc ?_ _)); exact BK203.out))⟩; have n2_ : Aside0 (Below w.heap.size w w49) := ⟨(by rw [hw]; exact (by repeat (first | (with_reducible first | exact HB.out | apply below_alloc | apply pw_below_drewN | apply below_drew1 | refine below_set ?_ GE200.out | refine below_set ?_ GE203.out) | exact HB.out)))⟩; clear hw; clear BK200; clear BK203; clear HB; have BK200 := n0_; have BK203 := n1_; have HB := n2_; clear n0_ n1_ n2_; have hcz50_0 : w49.cell? ⟨gb200, 0, none⟩ = some (.int .i64 a0_0) := (blk_cell BK200.out 0).trans rfl; have hcz50_1 : w49.cell? ⟨gb200, 1, none⟩ = some (.slice (some ad202) l0_1.length c0_1) := (blk_cell BK200.out 1).trans rfl; have hfz50_0 := blk_frozen BK200.out 0; have hfz50_1 := blk_frozen BK200.out 1; have q51 : (x20_2 : Int) ≤ ((l0_1.length : Int) : Int) := of_decide_eq_true (by first | (with_reducible assumption) | assumption); obtain ⟨i051, hi051, _, hsz51, _⟩ := info_parts info77; have hroom51 : l0_1.length ≤ c0_1 := HC0_1.out; have hC51 : Kd.C k77 _ (some ad202) l0_1.length l0_1 := HR0_1.out; have hcut51 := cut_to (P := Try.prog) 22 77 .i64 Try.underlying22 hi051 (some ad202) l0_1.length c0_1 x20_2 (of_decide_eq_true (by first | (with_reducible assumption) | assumption)) q51 hroom51; have hr51 := Kd.C_take (m := (x20_2 : Int).toNat) hC51 (by omega); have hy51 : y204.length = (x20_2 : Int).toNat := (by rw [Ny204.out, List.length_take]; omega); rw [← Ny204.out] at hr51; rw [← hy51] at hcut51; have HR207 := Aside0.mk hr51; have HC207 := Aside0.mk (show y204.length ≤ c0_1 from by omega); clear hr51 hC51 hroom51 hi051 hsz51; have KY51 := Aside0.mk hy51; clear hy51; replace q51 := eq_true q51; have hcz52_0 : w49.cell? ⟨gb203, 0, none⟩ = some (.int .i64 ((rd_T77 l0_1 x20_2).f0)) := (blk_cell BK203.out 0).trans rfl; have hcz52_1 : w49.cell? ⟨gb203, 1, none⟩ = some (.int .i64 ((rd_T77 l0_1 x20_2).f1)) := (blk_cell BK203.out 1).trans rfl; have hcz52_2 : w49.cell? ⟨gb203, 2, none⟩ = some (.int .i64 ((rd_T77 l0_1 x20_2).f2)) := (blk_cell BK203.out 2).trans rfl; have hfz52_0 := blk_frozen BK203.out 0; have hfz52_1 := blk_frozen BK203.out 1; have hfz52_2 := blk_frozen BK203.out 2) | ((with_reducible refine gate_callee (f := 66) rfl ?_); refine goesL_ (some 30) rfl rfl Try.func66 (by kernel_rfl) rfl #[.slice (some ad202) y204.length c0_1, .func (.func 67) #[] #[.pointer (some ⟨gb203, 0, none⟩)]] rfl (by (try simp only [List.map_toArray, List.map_cons, List.map_nil]); first | done | rfl | (simp only [List.length_drop, List.length_take]; rfl) | (simp only [show ∀ (n_ : Nat) (b_ : Int), Int.tdiv (n_ : Int) b_ = (n_ : Int) / b_ from fun n_ b_ => Int.tdiv_eq_ediv_of_nonneg (Int.natCast_nonneg n_)]; rfl)) ?_; (with_reducible refine (impl_Tap_66.calls gb203 _ _ y204 ((rd_T77 l0_1 x20_2).f0) ((rd_T77 l0_1 x20_2).f1) ((rd_T77 l0_1 x20_2).f2) false _ ?side1 ?side2 A15.out ?side3 ?side4).mono ?_); (case side1 => repeat (first | exact (Kd.C_below HR207.out HB.out) | (with_reducible refine Kd.C_alloc ?_ _) | (with_reducible refine Kd.C_drewN ?_ _) | (with_reducible refine Kd.C_drew ?_))); (case side2 => exact HC207.out); (case side3 => exact (blk_cell BK203.out 0).trans rfl); (case side4 => exact (blk_cell BK203.out 1).trans rfl); rintro e w66_ ⟨rfl, hb66_⟩; refine ⟨_, rfl, ?_⟩; have n0_ := Aside0.mk (blk_below BK200.out hb66_); have n1_ := Aside0.mk (blk_below BK203.out hb66_); have n2_ := Aside0.mk (below_step HB.out hb66_); clear BK200 BK203 HB; have BK200 := n0_; have BK203 := n1_; have HB := n2_; clear n0_ n1_ n2_ hb66_; have hczT_0 : w66_.cell? ⟨gb203, 0, none⟩ = some (.int .i64 ((rd_T77 l0_1 x20_2).f0)) := (blk_cell BK203.out 0).trans rfl; have hczT_1 : w66_.cell? ⟨gb203, 1, none⟩ = some (.int .i64 ((rd_T77 l0_1 x20_2).f1)) := (blk_cell BK203.out 1).trans rfl; have hczT_2 : w66_.cell? ⟨gb203, 2, none⟩ = some (.int .i64 ((rd_T77 l0_1 x20_2).f2)) := (blk_cell BK203.out 2).trans rfl; have hfzT_0 := blk_frozen BK203.out 0; have hfzT_1 := blk_frozen BK203.out 1; have hfzT_2 := blk_frozen BK203.out 2) | (go_at_call 65; (with_reducible refine (impl_within.calls ((rd_T77 l0_1 x20_2).f0) 0 2 true _ A24.out).mono ?_); rintro e w' ⟨rfl, ⟨nd, rfl⟩⟩) | (go_at_call 65; (with_reducible refine (impl_within.calls ((rd_T77 l0_1 x20_2).f1) (-2) 2 true _ A26.out).mono ?_); rintro e w' ⟨rfl, ⟨nd, rfl⟩⟩) | (go_at_call 65; (with_reducible refine (impl_within.calls ((rd_T77 l0_1 x20_2).f2) 1 64 false _ A37.out).mono ?_); rintro e w' ⟨rfl, ⟨nd, rfl⟩⟩))
                go_ret
                exact ⟨by first | rfl | (simp [errW_none, errW_some] <;> rfl) | (simp [*, errW_none, errW_some] <;> rfl), by repeat (first | (with_reducible first | exact HB.out | apply below_alloc | apply pw_below_drewN | apply below_drew1 | refine below_set ?_ GE200.out | refine below_set ?_ GE203.out) | exact HB.out)⟩
             ·rw [if_neg c28] at H
              have c28b0 : decide (((rd_T77 l0_1 x20_2).f0) < 1) = false := decide_eq_false c28
              clear c28
              replace H := Option.bind_eq_some_iff.mp H
              obtain ⟨t212, A530, H⟩ := H
              replace H : (if t212 = true then (impl_ValidKernel.l0 k2 (wrap64 (x3_2 + ((rd_T77 l0_1 x20_2).f2))) l0_1 (l0_1.length : Int) (wrap64 (x20_2 + 1)) a0_0 l0_1) else (some false)) = some r := H
              have A53 := Aside0.mk A530
              clear A530
              by_cases c54 : t212 = true
              ·subst c54
               have H1 : (impl_ValidKernel.l0 k2 (wrap64 (x3_2 + ((rd_T77 l0_1 x20_2).f2))) l0_1 (l0_1.length : Int) (wrap64 (x20_2 + 1)) a0_0 l0_1) = some r := by rw [if_pos rfl] at H; exact H
               clear H
               have H := H1
               clear H1
               have H' := Aside0.mk H
               clear H
               have p202 : 0 ≤ (x20_2 : Int) := of_decide_eq_true (by first | (with_reducible assumption) | assumption)
               have q202 : x20_2 < (l0_1.length : Int) := of_decide_eq_true (by first | (with_reducible assumption) | assumption)
               obtain ⟨ad202, e202, hx202_0, hx202_1, hx202_2⟩ := at_T77 HR0_1.out x20_2 p202 q202
               cases e202
               replace hx202_0 := (HB.out.cell (World.block_lt_of_cell? w _ hx202_0)).trans hx202_0
               replace hx202_1 := (HB.out.cell (World.block_lt_of_cell? w _ hx202_1)).trans hx202_1
               replace hx202_2 := (HB.out.cell (World.block_lt_of_cell? w _ hx202_2)).trans hx202_2
               replace p202 := eq_true p202
               replace q202 := eq_true q202
               go_wp2_with (first | ((with_reducible refine gate_dst (N := 5) rfl ?_); (try (refine gate_guard (by rfl) ?_; dsimp only)); refine box_event ?hg (N := 5) ?hd (cs := #[.int .i64 0, .int .i64 0, .int .i64 0]) (t := 77) ?hr ?_; (case hd => rfl); (case hg => rfl); (case hr => first | (go_simp; done) | (go_simp; rfl)); intro gb203 hg w55 hbox hb; have n0_ := Aside0.mk (blk_below (g := gb200) (o := .cells #[.int .i64 a0_0, .slice (some ad202) l0_1.length c0_1] 24 (0, 0)) (by (with_reducible repeat (first | refine blk_drewN ?_ _ | refine blk_drew ?_ | refine blk_alloc ?_ _)); exact BK200.out) hb); have n1_ := Aside0.mk (below_step (by repeat (first | (with_reducible first | exact HB.out | apply below_alloc | apply pw_below_drewN | apply below_drew1 | refine below_set ?_ GE200.out) | exact HB.out)) hb); have n2_ := Aside0.mk (hbox); have n3_ := Aside0.mk ((by rw [hg]; exact (below_size (by repeat (first | (with_reducible first | exact HB.out | apply below_alloc | apply pw_below_drewN | apply below_drew1 | refine below_set ?_ GE200.out) | exact HB.out))) : w.heap.size ≤ gb203)); have n4_ := Aside0.mk ((by rw [hg]; exact (below_size (by repeat (first | (with_reducible first | exact HB.out | apply below_alloc | apply pw_below_drewN | apply below_drew1 | refine below_set ?_ GE200.out) | exact HB.out))) : w.heap.size ≤ gb203)); have n5_ := Aside0.mk ((by rw [hg]; exact Nat.ne_of_lt (blk_lt (g := gb200) (o := .cells #[.int .i64 a0_0, .slice (some ad202) l0_1.length c0_1] 24 (0, 0)) (by (with_reducible repeat (first | refine blk_drewN ?_ _ | refine blk_drew ?_ | refine blk_alloc ?_ _)); exact BK200.out)) : gb200 ≠ gb203)); have n6_ := Aside0.mk ((by rw [hg]; exact Nat.ne_of_gt (blk_lt (g := gb200) (o := .cells #[.int .i64 a0_0, .slice (some ad202) l0_1.length c0_1] 24 (0, 0)) (by (with_reducible repeat (first | refine blk_drewN ?_ _ | refine blk_drew ?_ | refine blk_alloc ?_ _)); exact BK200.out)) : gb203 ≠ gb200)); clear BK200; clear HB; have BK200 := n0_; have HB := n1_; have BK203 := n2_; have GW203 := n3_; have GE203 := n4_; have NB200_203 := n5_; have NB203_200 := n6_; clear n0_ n1_ n2_ n3_ n4_ n5_ n6_; clear hb hbox hg; have hnb56 := NB203_200.out; have hnc56 := NB200_203.out; have hcz57_0 : w55.cell? ⟨gb203, 0, none⟩ = some (.int .i64 0) := (blk_cell BK203.out 0).trans rfl; have hcz57_1 : w55.cell? ⟨gb203, 1, none⟩ = some (.int .i64 0) := (blk_cell BK203.out 1).trans rfl; have hcz57_2 : w55.cell? ⟨gb203, 2, none⟩ = some (.int .i64 0) := (blk_cell BK203.out 2).trans rfl; have hfz57_0 := blk_frozen BK203.out 0; have hfz57_1 := blk_frozen BK203.out 1; have hfz57_2 := blk_frozen BK203.out 2) | ((with_reducible refine gate_store (t := 77) (p := 5) rfl ?_); refine store_event (t := 77) (p := 5) (v := ?vo_w58) (w1 := (((w55.setCell ⟨gb203, 0, none⟩ (.int .i64 ((rd_T77 l0_1 x20_2).f0))).setCell ⟨gb203, 1, none⟩ (.int .i64 ((rd_T77 l0_1 x20_2).f1))).setCell ⟨gb203, 2, none⟩ (.int .i64 ((rd_T77 l0_1 x20_2).f2)))) ?hg ?ho ?hn ?hr ?_; (case ho => rfl); (case hg => rfl); (case hn => rfl); (case hr => first | (go_simp; done) | (go_simp; rfl)); intro w58 hw; have n0_ : Aside0 (w58.heap[gb200]? = some (.cells #[.int .i64 a0_0, .slice (some ad202) l0_1.length c0_1] 24 (0, 0))) := ⟨(by rw [hw]; exact (by (with_reducible repeat (first | refine blk_drewN ?_ _ | refine blk_drew ?_ | refine blk_alloc ?_ _)); refine blk_far ?_ NB200_203.out _; (with_reducible repeat (first | refine blk_drewN ?_ _ | refine blk_drew ?_ | refine blk_alloc ?_ _)); refine blk_far ?_ NB200_203.out _; (with_reducible repeat (first | refine blk_drewN ?_ _ | refine blk_drew ?_ | refine blk_alloc ?_ _)); refine blk_far ?_ NB200_203.out _; (with_reducible repeat (first | refine blk_drewN ?_ _ | refine blk_drew ?_ | refine blk_alloc ?_ _)); exact BK200.out))⟩; have n1_ : Aside0 (w58.heap[gb203]? = some (.cells #[.int .i64 ((rd_T77 l0_1 x20_2).f0), .int .i64 ((rd_T77 l0_1 x20_2).f1), .int .i64 ((rd_T77 l0_1 x20_2).f2)] 77 (0, 0))) := ⟨(by rw [hw]; exact (by (with_reducible repeat (first | refine blk_drewN ?_ _ | refine blk_drew ?_ | refine blk_alloc ?_ _)); refine blk_put (cs := #[.int .i64 ((rd_T77 l0_1 x20_2).f0), .int .i64 ((rd_T77 l0_1 x20_2).f1), .int .i64 0]) ?_ 2 _ rfl; (with_reducible repeat (first | refine blk_drewN ?_ _ | refine blk_drew ?_ | refine blk_alloc ?_ _)); refine blk_put (cs := #[.int .i64 ((rd_T77 l0_1 x20_2).f0), .int .i64 0, .int .i64 0]) ?_ 1 _ rfl; (with_reducible repeat (first | refine blk_drewN ?_ _ | refine blk_drew ?_ | refine blk_alloc ?_ _)); refine blk_put (cs := #[.int .i64 0, .int .i64 0, .int .i64 0]) ?_ 0 _ rfl; (with_reducible repeat (first | refine blk_drewN ?_ _ | refine blk_drew ?_ | refine blk_alloc ?_ _)); exact BK203.out))⟩; have n2_ : Aside0 (Below w.heap.size w w58) := ⟨(by rw [hw]; exact (by repeat (first | (with_reducible first | exact HB.out | apply below_alloc | apply pw_below_drewN | apply below_drew1 | refine below_set ?_ GE200.out | refine below_set ?_ GE203.out) | exact HB.out)))⟩; clear hw; clear BK200; clear BK203; clear HB; have BK200 := n0_; have BK203 := n1_; have HB := n2_; clear n0_ n1_ n2_; have hcz59_0 : w58.cell? ⟨gb200, 0, none⟩ = some (.int .i64 a0_0) := (blk_cell BK200.out 0).trans rfl; have hcz59_1 : w58.cell? ⟨gb200, 1, none⟩ = some (.slice (some ad202) l0_1.length c0_1) := (blk_cell BK200.out 1).trans rfl; have hfz59_0 := blk_frozen BK200.out 0; have hfz59_1 := blk_frozen BK200.out 1; have q60 : (x20_2 : Int) ≤ ((l0_1.length : Int) : Int) := of_decide_eq_true (by first | (with_reducible assumption) | assumption); obtain ⟨i060, hi060, _, hsz60, _⟩ := info_parts info77; have hroom60 : l0_1.length ≤ c0_1 := HC0_1.out; have hC60 : Kd.C k77 _ (some ad202) l0_1.length l0_1 := HR0_1.out; have hcut60 := cut_to (P := Try.prog) 22 77 .i64 Try.underlying22 hi060 (some ad202) l0_1.length c0_1 x20_2 (of_decide_eq_true (by first | (with_reducible assumption) | assumption)) q60 hroom60; have hr60 := Kd.C_take (m := (x20_2 : Int).toNat) hC60 (by omega); have hy60 : y204.length = (x20_2 : Int).toNat := (by rw [Ny204.out, List.length_take]; omega); rw [← Ny204.out] at hr60; rw [← hy60] at hcut60; have HR207 := Aside0.mk hr60; have HC207 := Aside0.mk (show y204.length ≤ c0_1 from by omega); clear hr60 hC60 hroom60 hi060 hsz60; have KY60 := Aside0.mk hy60; clear hy60; replace q60 := eq_true q60; have hcz61_0 : w58.cell? ⟨gb203, 0, none⟩ = some (.int .i64 ((rd_T77 l0_1 x20_2).f0)) := (blk_cell BK203.out 0).trans rfl; have hcz61_1 : w58.cell? ⟨gb203, 1, none⟩ = some (.int .i64 ((rd_T77 l0_1 x20_2).f1)) := (blk_cell BK203.out 1).trans rfl; have hcz61_2 : w58.cell? ⟨gb203, 2, none⟩ = some (.int .i64 ((rd_T77 l0_1 x20_2).f2)) := (blk_cell BK203.out 2).trans rfl; have hfz61_0 := blk_frozen BK203.out 0; have hfz61_1 := blk_frozen BK203.out 1; have hfz61_2 := blk_frozen BK203.out 2) | ((with_reducible refine gate_callee (f := 66) rfl ?_); refine goesL_ (some 30) rfl rfl Try.func66 (by kernel_rfl) rfl #[.slice (some ad202) y204.length c0_1, .func (.func 67) #[] #[.pointer (some ⟨gb203, 0, none⟩)]] rfl (by (try simp only [List.map_toArray, List.map_cons, List.map_nil]); first | done | rfl | (simp only [List.length_drop, List.length_take]; rfl) | (simp only [show ∀ (n_ : Nat) (b_ : Int), Int.tdiv (n_ : Int) b_ = (n_ : Int) / b_ from fun n_ b_ => Int.tdiv_eq_ediv_of_nonneg (Int.natCast_nonneg n_)]; rfl)) ?_; (with_reducible refine (impl_Tap_66.calls gb203 _ _ y204 ((rd_T77 l0_1 x20_2).f0) ((rd_T77 l0_1 x20_2).f1) ((rd_T77 l0_1 x20_2).f2) false _ ?side1 ?side2 A15.out ?side3 ?side4).mono ?_); (case side1 => repeat (first | exact (Kd.C_below HR207.out HB.out) | (with_reducible refine Kd.C_alloc ?_ _) | (with_reducible refine Kd.C_drewN ?_ _) | (with_reducible refine Kd.C_drew ?_))); (case side2 => exact HC207.out); (case side3 => exact (blk_cell BK203.out 0).trans rfl); (case side4 => exact (blk_cell BK203.out 1).trans rfl); rintro e w66_ ⟨rfl, hb66_⟩; refine ⟨_, rfl, ?_⟩; have n0_ := Aside0.mk (blk_below BK200.out hb66_); have n1_ := Aside0.mk (blk_below BK203.out hb66_); have n2_ := Aside0.mk (below_step HB.out hb66_); clear BK200 BK203 HB; have BK200 := n0_; have BK203 := n1_; have HB := n2_; clear n0_ n1_ n2_ hb66_; have hczT_0 : w66_.cell? ⟨gb203, 0, none⟩ = some (.int .i64 ((rd_T77 l0_1 x20_2).f0)) := (blk_cell BK203.out 0).trans rfl; have hczT_1 : w66_.cell? ⟨gb203, 1, none⟩ = some (.int .i64 ((rd_T77 l0_1 x20_2).f1)) := (blk_cell BK203.out 1).trans rfl; have hczT_2 : w66_.cell? ⟨gb203, 2, none⟩ = some (.int .i64 ((rd_T77 l0_1 x20_2).f2)) := (blk_cell BK203.out 2).trans rfl; have hfzT_0 := blk_frozen BK203.out 0; have hfzT_1 := blk_frozen BK203.out 1; have hfzT_2 := blk_frozen BK203.out 2) | (go_at_call 65; (with_reducible refine (impl_within.calls ((rd_T77 l0_1 x20_2).f0) 0 2 true _ A24.out).mono ?_); rintro e w' ⟨rfl, ⟨nd, rfl⟩⟩) | (go_at_call 65; (with_reducible refine (impl_within.calls ((rd_T77 l0_1 x20_2).f1) (-2) 2 true _ A26.out).mono ?_); rintro e w' ⟨rfl, ⟨nd, rfl⟩⟩) | (go_at_call 65; (with_reducible refine (impl_within.calls ((rd_T77 l0_1 x20_2).f2) 1 64 true _ A53.out).mono ?_); rintro e w' ⟨rfl, ⟨nd, rfl⟩⟩))
               go_roundg k2
               case measure => have := HJ1.out; have := HK2.out; omega
               case rel => exact ⟨(wrap64 (x3_2 + ((rd_T77 l0_1 x20_2).f2))), (wrap64 (x20_2 + 1)), (by first | rfl | (simp; done) | (simp [*]; done)), (by first | rfl | (simp; done) | (simp [*]; done)), H', ⟨by have := HJ1.out; have := HK2.out; omega⟩, ⟨by (with_reducible repeat (first | refine blk_drewN ?_ _ | refine blk_drew ?_ | refine blk_alloc ?_ _)); exact BK200.out⟩, ⟨by repeat (first | (with_reducible first | exact HB.out | apply below_alloc | apply pw_below_drewN | apply below_drew1 | refine below_set ?_ GE200.out | refine below_set ?_ GE203.out) | exact HB.out)⟩⟩
              ·replace c54 := Bool.eq_false_iff.mpr c54
               subst c54
               have H1 : (some false) = some r := by rw [if_neg (show ¬ (false = true) by decide)] at H; exact H
               clear H
               have H := H1
               clear H1
               obtain rfl := Option.some.inj H
               have p202 : 0 ≤ (x20_2 : Int) := of_decide_eq_true (by first | (with_reducible assumption) | assumption)
               have q202 : x20_2 < (l0_1.length : Int) := of_decide_eq_true (by first | (with_reducible assumption) | assumption)
               obtain ⟨ad202, e202, hx202_0, hx202_1, hx202_2⟩ := at_T77 HR0_1.out x20_2 p202 q202
               cases e202
               replace hx202_0 := (HB.out.cell (World.block_lt_of_cell? w _ hx202_0)).trans hx202_0
               replace hx202_1 := (HB.out.cell (World.block_lt_of_cell? w _ hx202_1)).trans hx202_1
               replace hx202_2 := (HB.out.cell (World.block_lt_of_cell? w _ hx202_2)).trans hx202_2
               replace p202 := eq_true p202
               replace q202 := eq_true q202
               go_wp2_with (first | ((with_reducible refine gate_dst (N := 5) rfl ?_); (try (refine gate_guard (by rfl) ?_; dsimp only)); refine box_event ?hg (N := 5) ?hd (cs := #[.int .i64 0, .int .i64 0, .int .i64 0]) (t := 77) ?hr ?_; (case hd => rfl); (case hg => rfl); (case hr => first | (go_simp; done) | (go_simp; rfl)); intro gb203 hg w62 hbox hb; have n0_ := Aside0.mk (blk_below (g := gb200) (o := .cells #[.int .i64 a0_0, .slice (some ad202) l0_1.length c0_1] 24 (0, 0)) (by (with_reducible repeat (first | refine blk_drewN ?_ _ | refine blk_drew ?_ | refine blk_alloc ?_ _)); exact BK200.out) hb); have n1_ := Aside0.mk (below_step (by repeat (first | (with_reducible first | exact HB.out | apply below_alloc | apply pw_below_drewN | apply below_drew1 | refine below_set ?_ GE200.out) | exact HB.out)) hb); have n2_ := Aside0.mk (hbox); have n3_ := Aside0.mk ((by rw [hg]; exact (below_size (by repeat (first | (with_reducible first | exact HB.out | apply below_alloc | apply pw_below_drewN | apply below_drew1 | refine below_set ?_ GE200.out) | exact HB.out))) : w.heap.size ≤ gb203)); have n4_ := Aside0.mk ((by rw [hg]; exact (below_size (by repeat (first | (with_reducible first | exact HB.out | apply below_alloc | apply pw_below_drewN | apply below_drew1 | refine below_set ?_ GE200.out) | exact HB.out))) : w.heap.size ≤ gb203)); have n5_ := Aside0.mk ((by rw [hg]; exact Nat.ne_of_lt (blk_lt (g := gb200) (o := .cells #[.int .i64 a0_0, .slice (some ad202) l0_1.length c0_1] 24 (0, 0)) (by (with_reducible repeat (first | refine blk_drewN ?_ _ | refine blk_drew ?_ | refine blk_alloc ?_ _)); exact BK200.out)) : gb200 ≠ gb203)); have n6_ := Aside0.mk ((by rw [hg]; exact Nat.ne_of_gt (blk_lt (g := gb200) (o := .cells #[.int .i64 a0_0, .slice (some ad202) l0_1.length c0_1] 24 (0, 0)) (by (with_reducible repeat (first | refine blk_drewN ?_ _ | refine blk_drew ?_ | refine blk_alloc ?_ _)); exact BK200.out)) : gb203 ≠ gb200)); clear BK200; clear HB; have BK200 := n0_; have HB := n1_; have BK203 := n2_; have GW203 := n3_; have GE203 := n4_; have NB200_203 := n5_; have NB203_200 := n6_; clear n0_ n1_ n2_ n3_ n4_ n5_ n6_; clear hb hbox hg; have hnb63 := NB203_200.out; have hnc63 := NB200_203.out; have hcz64_0 : w62.cell? ⟨gb203, 0, none⟩ = some (.int .i64 0) := (blk_cell BK203.out 0).trans rfl; have hcz64_1 : w62.cell? ⟨gb203, 1, none⟩ = some (.int .i64 0) := (blk_cell BK203.out 1).trans rfl; have hcz64_2 : w62.cell? ⟨gb203, 2, none⟩ = some (.int .i64 0) := (blk_cell BK203.out 2).trans rfl; have hfz64_0 := blk_frozen BK203.out 0; have hfz64_1 := blk_frozen BK203.out 1; have hfz64_2 := blk_frozen BK203.out 2) | ((with_reducible refine gate_store (t := 77) (p := 5) rfl ?_); refine store_event (t := 77) (p := 5) (v := ?vo_w65) (w1 := (((w62.setCell ⟨gb203, 0, none⟩ (.int .i64 ((rd_T77 l0_1 x20_2).f0))).setCell ⟨gb203, 1, none⟩ (.int .i64 ((rd_T77 l0_1 x20_2).f1))).setCell ⟨gb203, 2, none⟩ (.int .i64 ((rd_T77 l0_1 x20_2).f2)))) ?hg ?ho ?hn ?hr ?_; (case ho => rfl); (case hg => rfl); (case hn => rfl); (case hr => first | (go_simp; done) | (go_simp; rfl)); intro w65 hw; have n0_ : Aside0 (w65.heap[gb200]? = some (.cells #[.int .i64 a0_0, .slice (some ad202) l0_1.length c0_1] 24 (0, 0))) := ⟨(by rw [hw]; exact (by (with_reducible repeat (first | refine blk_drewN ?_ _ | refine blk_drew ?_ | refine blk_alloc ?_ _)); refine blk_far ?_ NB200_203.out _; (with_reducible repeat (first | refine blk_drewN ?_ _ | refine blk_drew ?_ | refine blk_alloc ?_ _)); refine blk_far ?_ NB200_203.out _; (with_reducible repeat (first | refine blk_drewN ?_ _ | refine blk_drew ?_ | refine blk_alloc ?_ _)); refine blk_far ?_ NB200_203.out _; (with_reducible repeat (first | refine blk_drewN ?_ _ | refine blk_drew ?_ | refine blk_alloc ?_ _)); exact BK200.out))⟩; have n1_ : Aside0 (w65.heap[gb203]? = some (.cells #[.int .i64 ((rd_T77 l0_1 x20_2).f0), .int .i64 ((rd_T77 l0_1 x20_2).f1), .int .i64 ((rd_T77 l0_1 x20_2).f2)] 77 (0, 0))) := ⟨(by rw [hw]; exact (by (with_reducible repeat (first | refine blk_drewN ?_ _ | refine blk_drew ?_ | refine blk_alloc ?_ _)); refine blk_put (cs := #[.int .i64 ((rd_T77 l0_1 x20_2).f0), .int .i64 ((rd_T77 l0_1 x20_2).f1), .int .i64 0]) ?_ 2 _ rfl; (with_reducible repeat (first | refine blk_drewN ?_ _ | refine blk_drew ?_ | refine blk_alloc ?_ _)); refine blk_put (cs := #[.int .i64 ((rd_T77 l0_1 x20_2).f0), .int .i64 0, .int .i64 0]) ?_ 1 _ rfl; (with_reducible repeat (first | refine blk_drewN ?_ _ | refine blk_drew ?_ | refine blk_alloc ?_ _)); refine blk_put (cs := #[.int .i64 0, .int .i64 0, .int .i64 0]) ?_ 0 _ rfl; (with_reducible repeat (first | refine blk_drewN ?_ _ | refine blk_drew ?_ | refine blk_alloc ?_ _)); exact BK203.out))⟩; have n2_ : Aside0 (Below w.heap.size w w65) := ⟨(by rw [hw]; exact (by repeat (first | (with_reducible first | exact HB.out | apply below_alloc | apply pw_below_drewN | apply below_drew1 | refine below_set ?_ GE200.out | refine below_set ?_ GE203.out) | exact HB.out)))⟩; clear hw; clear BK200; clear BK203; clear HB; have BK200 := n0_; have BK203 := n1_; have HB := n2_; clear n0_ n1_ n2_; have hcz66_0 : w65.cell? ⟨gb200, 0, none⟩ = some (.int .i64 a0_0) := (blk_cell BK200.out 0).trans rfl; have hcz66_1 : w65.cell? ⟨gb200, 1, none⟩ = some (.slice (some ad202) l0_1.length c0_1) := (blk_cell BK200.out 1).trans rfl; have hfz66_0 := blk_frozen BK200.out 0; have hfz66_1 := blk_frozen BK200.out 1; have q67 : (x20_2 : Int) ≤ ((l0_1.length : Int) : Int) := of_decide_eq_true (by first | (with_reducible assumption) | assumption); obtain ⟨i067, hi067, _, hsz67, _⟩ := info_parts info77; have hroom67 : l0_1.length ≤ c0_1 := HC0_1.out; have hC67 : Kd.C k77 _ (some ad202) l0_1.length l0_1 := HR0_1.out; have hcut67 := cut_to (P := Try.prog) 22 77 .i64 Try.underlying22 hi067 (some ad202) l0_1.length c0_1 x20_2 (of_decide_eq_true (by first | (with_reducible assumption) | assumption)) q67 hroom67; have hr67 := Kd.C_take (m := (x20_2 : Int).toNat) hC67 (by omega); have hy67 : y204.length = (x20_2 : Int).toNat := (by rw [Ny204.out, List.length_take]; omega); rw [← Ny204.out] at hr67; rw [← hy67] at hcut67; have HR207 := Aside0.mk hr67; have HC207 := Aside0.mk (show y204.length ≤ c0_1 from by omega); clear hr67 hC67 hroom67 hi067 hsz67; have KY67 := Aside0.mk hy67; clear hy67; replace q67 := eq_true q67; have hcz68_0 : w65.cell? ⟨gb203, 0, none⟩ = some (.int .i64 ((rd_T77 l0_1 x20_2).f0)) := (blk_cell BK203.out 0).trans rfl; have hcz68_1 : w65.cell? ⟨gb203, 1, none⟩ = some (.int .i64 ((rd_T77 l0_1 x20_2).f1)) := (blk_cell BK203.out 1).trans rfl; have hcz68_2 : w65.cell? ⟨gb203, 2, none⟩ = some (.int .i64 ((rd_T77 l0_1 x20_2).f2)) := (blk_cell BK203.out 2).trans rfl; have hfz68_0 := blk_frozen BK203.out 0; have hfz68_1 := blk_frozen BK203.out 1; have hfz68_2 := blk_frozen BK203.out 2) | ((with_reducible refine gate_callee (f := 66) rfl ?_); refine goesL_ (some 30) rfl rfl Try.func66 (by kernel_rfl) rfl #[.slice (some ad202) y204.length c0_1, .func (.func 67) #[] #[.pointer (some ⟨gb203, 0, none⟩)]] rfl (by (try simp only [List.map_toArray, List.map_cons, List.map_nil]); first | done | rfl | (simp only [List.length_drop, List.length_take]; rfl) | (simp only [show ∀ (n_ : Nat) (b_ : Int), Int.tdiv (n_ : Int) b_ = (n_ : Int) / b_ from fun n_ b_ => Int.tdiv_eq_ediv_of_nonneg (Int.natCast_nonneg n_)]; rfl)) ?_; (with_reducible refine (impl_Tap_66.calls gb203 _ _ y204 ((rd_T77 l0_1 x20_2).f0) ((rd_T77 l0_1 x20_2).f1) ((rd_T77 l0_1 x20_2).f2) false _ ?side1 ?side2 A15.out ?side3 ?side4).mono ?_); (case side1 => repeat (first | exact (Kd.C_below HR207.out HB.out) | (with_reducible refine Kd.C_alloc ?_ _) | (with_reducible refine Kd.C_drewN ?_ _) | (with_reducible refine Kd.C_drew ?_))); (case side2 => exact HC207.out); (case side3 => exact (blk_cell BK203.out 0).trans rfl); (case side4 => exact (blk_cell BK203.out 1).trans rfl); rintro e w66_ ⟨rfl, hb66_⟩; refine ⟨_, rfl, ?_⟩; have n0_ := Aside0.mk (blk_below BK200.out hb66_); have n1_ := Aside0.mk (blk_below BK203.out hb66_); have n2_ := Aside0.mk (below_step HB.out hb66_); clear BK200 BK203 HB; have BK200 := n0_; have BK203 := n1_; have HB := n2_; clear n0_ n1_ n2_ hb66_; have hczT_0 : w66_.cell? ⟨gb203, 0, none⟩ = some (.int .i64 ((rd_T77 l0_1 x20_2).f0)) := (blk_cell BK203.out 0).trans rfl; have hczT_1 : w66_.cell? ⟨gb203, 1, none⟩ = some (.int .i64 ((rd_T77 l0_1 x20_2).f1)) := (blk_cell BK203.out 1).trans rfl; have hczT_2 : w66_.cell? ⟨gb203, 2, none⟩ = some (.int .i64 ((rd_T77 l0_1 x20_2).f2)) := (blk_cell BK203.out 2).trans rfl; have hfzT_0 := blk_frozen BK203.out 0; have hfzT_1 := blk_frozen BK203.out 1; have hfzT_2 := blk_frozen BK203.out 2) | (go_at_call 65; (with_reducible refine (impl_within.calls ((rd_T77 l0_1 x20_2).f0) 0 2 true _ A24.out).mono ?_); rintro e w' ⟨rfl, ⟨nd, rfl⟩⟩) | (go_at_call 65; (with_reducible refine (impl_within.calls ((rd_T77 l0_1 x20_2).f1) (-2) 2 true _ A26.out).mono ?_); rintro e w' ⟨rfl, ⟨nd, rfl⟩⟩) | (go_at_call 65; (with_reducible refine (impl_within.calls ((rd_T77 l0_1 x20_2).f2) 1 64 false _ A53.out).mono ?_); rintro e w' ⟨rfl, ⟨nd, rfl⟩⟩))
               go_ret
               exact ⟨by first | rfl | (simp [errW_none, errW_some] <;> rfl) | (simp [*, errW_none, errW_some] <;> rfl), by repeat (first | (with_reducible first | exact HB.out | apply below_alloc | apply pw_below_drewN | apply below_drew1 | refine below_set ?_ GE200.out | refine below_set ?_ GE203.out) | exact HB.out)⟩
            ·replace c27 := Bool.eq_false_iff.mpr c27
             subst c27
             have H1 : (some false) = some r := by rw [if_neg (show ¬ (false = true) by decide)] at H; exact H
             clear H
             have H := H1
             clear H1
             obtain rfl := Option.some.inj H
             have p202 : 0 ≤ (x20_2 : Int) := of_decide_eq_true (by first | (with_reducible assumption) | assumption)
             have q202 : x20_2 < (l0_1.length : Int) := of_decide_eq_true (by first | (with_reducible assumption) | assumption)
             obtain ⟨ad202, e202, hx202_0, hx202_1, hx202_2⟩ := at_T77 HR0_1.out x20_2 p202 q202
             cases e202
             replace hx202_0 := (HB.out.cell (World.block_lt_of_cell? w _ hx202_0)).trans hx202_0
             replace hx202_1 := (HB.out.cell (World.block_lt_of_cell? w _ hx202_1)).trans hx202_1
             replace hx202_2 := (HB.out.cell (World.block_lt_of_cell? w _ hx202_2)).trans hx202_2
             replace p202 := eq_true p202
             replace q202 := eq_true q202
             go_wp2_with (first | ((with_reducible refine gate_dst (N := 5) rfl ?_); (try (refine gate_guard (by rfl) ?_; dsimp only)); refine box_event ?hg (N := 5) ?hd (cs := #[.int .i64 0, .int .i64 0, .int .i64 0]) (t := 77) ?hr ?_; (case hd => rfl); (case hg => rfl); (case hr => first | (go_simp; done) | (go_simp; rfl)); intro gb203 hg w69 hbox hb; have n0_ := Aside0.mk (blk_below (g := gb200) (o := .cells #[.int .i64 a0_0, .slice (some ad202) l0_1.length c0_1] 24 (0, 0)) (by (with_reducible repeat (first | refine blk_drewN ?_ _ | refine blk_drew ?_ | refine blk_alloc ?_ _)); exact BK200.out) hb); have n1_ := Aside0.mk (below_step (by repeat (first | (with_reducible first | exact HB.out | apply below_alloc | apply pw_below_drewN | apply below_drew1 | refine below_set ?_ GE200.out) | exact HB.out)) hb); have n2_ := Aside0.mk (hbox); have n3_ := Aside0.mk ((by rw [hg]; exact (below_size (by repeat (first | (with_reducible first | exact HB.out | apply below_alloc | apply pw_below_drewN | apply below_drew1 | refine below_set ?_ GE200.out) | exact HB.out))) : w.heap.size ≤ gb203)); have n4_ := Aside0.mk ((by rw [hg]; exact (below_size (by repeat (first | (with_reducible first | exact HB.out | apply below_alloc | apply pw_below_drewN | apply below_drew1 | refine below_set ?_ GE200.out) | exact HB.out))) : w.heap.size ≤ gb203)); have n5_ := Aside0.mk ((by rw [hg]; exact Nat.ne_of_lt (blk_lt (g := gb200) (o := .cells #[.int .i64 a0_0, .slice (some ad202) l0_1.length c0_1] 24 (0, 0)) (by (with_reducible repeat (first | refine blk_drewN ?_ _ | refine blk_drew ?_ | refine blk_alloc ?_ _)); exact BK200.out)) : gb200 ≠ gb203)); have n6_ := Aside0.mk ((by rw [hg]; exact Nat.ne_of_gt (blk_lt (g := gb200) (o := .cells #[.int .i64 a0_0, .slice (some ad202) l0_1.length c0_1] 24 (0, 0)) (by (with_reducible repeat (first | refine blk_drewN ?_ _ | refine blk_drew ?_ | refine blk_alloc ?_ _)); exact BK200.out)) : gb203 ≠ gb200)); clear BK200; clear HB; have BK200 := n0_; have HB := n1_; have BK203 := n2_; have GW203 := n3_; have GE203 := n4_; have NB200_203 := n5_; have NB203_200 := n6_; clear n0_ n1_ n2_ n3_ n4_ n5_ n6_; clear hb hbox hg; have hnb70 := NB203_200.out; have hnc70 := NB200_203.out; have hcz71_0 : w69.cell? ⟨gb203, 0, none⟩ = some (.int .i64 0) := (blk_cell BK203.out 0).trans rfl; have hcz71_1 : w69.cell? ⟨gb203, 1, none⟩ = some (.int .i64 0) := (blk_cell BK203.out 1).trans rfl; have hcz71_2 : w69.cell? ⟨gb203, 2, none⟩ = some (.int .i64 0) := (blk_cell BK203.out 2).trans rfl; have hfz71_0 := blk_frozen BK203.out 0; have hfz71_1 := blk_frozen BK203.out 1; have hfz71_2 := blk_frozen BK203.out 2) | ((with_reducible refine gate_store (t := 77) (p := 5) rfl ?_); refine store_event (t := 77) (p := 5) (v := ?vo_w72) (w1 := (((w69.setCell ⟨gb203, 0, none⟩ (.int .i64 ((rd_T77 l0_1 x20_2).f0))).setCell ⟨gb203, 1, none⟩ (.int .i64 ((rd_T77 l0_1 x20_2).f1))).setCell ⟨gb203, 2, none⟩ (.int .i64 ((rd_T77 l0_1 x20_2).f2)))) ?hg ?ho ?hn ?hr ?_; (case ho => rfl); (case hg => rfl); (case hn => rfl); (case hr => first | (go_simp; done) | (go_simp; rfl)); intro w72 hw; have n0_ : Aside0 (w72.heap[gb200]? = some (.cells #[.int .i64 a0_0, .slice (some ad202) l0_1.length c0_1] 24 (0, 0))) := ⟨(by rw [hw]; exact (by (with_reducible repeat (first | refine blk_drewN ?_ _ | refine blk_drew ?_ | refine blk_alloc ?_ _)); refine blk_far ?_ NB200_203.out _; (with_reducible repeat (first | refine blk_drewN ?_ _ | refine blk_drew ?_ | refine blk_alloc ?_ _)); refine blk_far ?_ NB200_203.out _; (with_reducible repeat (first | refine blk_drewN ?_ _ | refine blk_drew ?_ | refine blk_alloc ?_ _)); refine blk_far ?_ NB200_203.out _; (with_reducible repeat (first | refine blk_drewN ?_ _ | refine blk_drew ?_ | refine blk_alloc ?_ _)); exact BK200.out))⟩; have n1_ : Aside0 (w72.heap[gb203]? = some (.cells #[.int .i64 ((rd_T77 l0_1 x20_2).f0), .int .i64 ((rd_T77 l0_1 x20_2).f1), .int .i64 ((rd_T77 l0_1 x20_2).f2)] 77 (0, 0))) := ⟨(by rw [hw]; exact (by (with_reducible repeat (first | refine blk_drewN ?_ _ | refine blk_drew ?_ | refine blk_alloc ?_ _)); refine blk_put (cs := #[.int .i64 ((rd_T77 l0_1 x20_2).f0), .int .i64 ((rd_T77 l0_1 x20_2).f1), .int .i64 0]) ?_ 2 _ rfl; (with_reducible repeat (first | refine blk_drewN ?_ _ | refine blk_drew ?_ | refine blk_alloc ?_ _)); refine blk_put (cs := #[.int .i64 ((rd_T77 l0_1 x20_2).f0), .int .i64 0, .int .i64 0]) ?_ 1 _ rfl; (with_reducible repeat (first | refine blk_drewN ?_ _ | refine blk_drew ?_ | refine blk_alloc ?_ _)); refine blk_put (cs := #[.int .i64 0, .int .i64 0, .int .i64 0]) ?_ 0 _ rfl; (with_reducible repeat (first | refine blk_drewN ?_ _ | refine blk_drew ?_ | refine blk_alloc ?_ _)); exact BK203.out))⟩; have n2_ : Aside0 (Below w.heap.size w w72) := ⟨(by rw [hw]; exact (by repeat (first | (with_reducible first | exact HB.out | apply below_alloc | apply pw_below_drewN | apply below_drew1 | refine below_set ?_ GE200.out | refine below_set ?_ GE203.out) | exact HB.out)))⟩; clear hw; clear BK200; clear BK203; clear HB; have BK200 := n0_; have BK203 := n1_; have HB := n2_; clear n0_ n1_ n2_; have hcz73_0 : w72.cell? ⟨gb200, 0, none⟩ = some (.int .i64 a0_0) := (blk_cell BK200.out 0).trans rfl; have hcz73_1 : w72.cell? ⟨gb200, 1, none⟩ = some (.slice (some ad202) l0_1.length c0_1) := (blk_cell BK200.out 1).trans rfl; have hfz73_0 := blk_frozen BK200.out 0; have hfz73_1 := blk_frozen BK200.out 1; have q74 : (x20_2 : Int) ≤ ((l0_1.length : Int) : Int) := of_decide_eq_true (by first | (with_reducible assumption) | assumption); obtain ⟨i074, hi074, _, hsz74, _⟩ := info_parts info77; have hroom74 : l0_1.length ≤ c0_1 := HC0_1.out; have hC74 : Kd.C k77 _ (some ad202) l0_1.length l0_1 := HR0_1.out; have hcut74 := cut_to (P := Try.prog) 22 77 .i64 Try.underlying22 hi074 (some ad202) l0_1.length c0_1 x20_2 (of_decide_eq_true (by first | (with_reducible assumption) | assumption)) q74 hroom74; have hr74 := Kd.C_take (m := (x20_2 : Int).toNat) hC74 (by omega); have hy74 : y204.length = (x20_2 : Int).toNat := (by rw [Ny204.out, List.length_take]; omega); rw [← Ny204.out] at hr74; rw [← hy74] at hcut74; have HR207 := Aside0.mk hr74; have HC207 := Aside0.mk (show y204.length ≤ c0_1 from by omega); clear hr74 hC74 hroom74 hi074 hsz74; have KY74 := Aside0.mk hy74; clear hy74; replace q74 := eq_true q74; have hcz75_0 : w72.cell? ⟨gb203, 0, none⟩ = some (.int .i64 ((rd_T77 l0_1 x20_2).f0)) := (blk_cell BK203.out 0).trans rfl; have hcz75_1 : w72.cell? ⟨gb203, 1, none⟩ = some (.int .i64 ((rd_T77 l0_1 x20_2).f1)) := (blk_cell BK203.out 1).trans rfl; have hcz75_2 : w72.cell? ⟨gb203, 2, none⟩ = some (.int .i64 ((rd_T77 l0_1 x20_2).f2)) := (blk_cell BK203.out 2).trans rfl; have hfz75_0 := blk_frozen BK203.out 0; have hfz75_1 := blk_frozen BK203.out 1; have hfz75_2 := blk_frozen BK203.out 2) | ((with_reducible refine gate_callee (f := 66) rfl ?_); refine goesL_ (some 30) rfl rfl Try.func66 (by kernel_rfl) rfl #[.slice (some ad202) y204.length c0_1, .func (.func 67) #[] #[.pointer (some ⟨gb203, 0, none⟩)]] rfl (by (try simp only [List.map_toArray, List.map_cons, List.map_nil]); first | done | rfl | (simp only [List.length_drop, List.length_take]; rfl) | (simp only [show ∀ (n_ : Nat) (b_ : Int), Int.tdiv (n_ : Int) b_ = (n_ : Int) / b_ from fun n_ b_ => Int.tdiv_eq_ediv_of_nonneg (Int.natCast_nonneg n_)]; rfl)) ?_; (with_reducible refine (impl_Tap_66.calls gb203 _ _ y204 ((rd_T77 l0_1 x20_2).f0) ((rd_T77 l0_1 x20_2).f1) ((rd_T77 l0_1 x20_2).f2) false _ ?side1 ?side2 A15.out ?side3 ?side4).mono ?_); (case side1 => repeat (first | exact (Kd.C_below HR207.out HB.out) | (with_reducible refine Kd.C_alloc ?_ _) | (with_reducible refine Kd.C_drewN ?_ _) | (with_reducible refine Kd.C_drew ?_))); (case side2 => exact HC207.out); (case side3 => exact (blk_cell BK203.out 0).trans rfl); (case side4 => exact (blk_cell BK203.out 1).trans rfl); rintro e w66_ ⟨rfl, hb66_⟩; refine ⟨_, rfl, ?_⟩; have n0_ := Aside0.mk (blk_below BK200.out hb66_); have n1_ := Aside0.mk (blk_below BK203.out hb66_); have n2_ := Aside0.mk (below_step HB.out hb66_); clear BK200 BK203 HB; have BK200 := n0_; have BK203 := n1_; have HB := n2_; clear n0_ n1_ n2_ hb66_; have hczT_0 : w66_.cell? ⟨gb203, 0, none⟩ = some (.int .i64 ((rd_T77 l0_1 x20_2).f0)) := (blk_cell BK203.out 0).trans rfl; have hczT_1 : w66_.cell? ⟨gb203, 1, none⟩ = some (.int .i64 ((rd_T77 l0_1 x20_2).f1)) := (blk_cell BK203.out 1).trans rfl; have hczT_2 : w66_.cell? ⟨gb203, 2, none⟩ = some (.int .i64 ((rd_T77 l0_1 x20_2).f2)) := (blk_cell BK203.out 2).trans rfl; have hfzT_0 := blk_frozen BK203.out 0; have hfzT_1 := blk_frozen BK203.out 1; have hfzT_2 := blk_frozen BK203.out 2) | (go_at_call 65; (with_reducible refine (impl_within.calls ((rd_T77 l0_1 x20_2).f0) 0 2 true _ A24.out).mono ?_); rintro e w' ⟨rfl, ⟨nd, rfl⟩⟩) | (go_at_call 65; (with_reducible refine (impl_within.calls ((rd_T77 l0_1 x20_2).f1) (-2) 2 false _ A26.out).mono ?_); rintro e w' ⟨rfl, ⟨nd, rfl⟩⟩))
             go_ret
             exact ⟨by first | rfl | (simp [errW_none, errW_some] <;> rfl) | (simp [*, errW_none, errW_some] <;> rfl), by repeat (first | (with_reducible first | exact HB.out | apply below_alloc | apply pw_below_drewN | apply below_drew1 | refine below_set ?_ GE200.out | refine below_set ?_ GE203.out) | exact HB.out)⟩
           ·replace c25 := Bool.eq_false_iff.mpr c25
            subst c25
            have H1 : (some false) = some r := by rw [if_neg (show ¬ (false = true) by decide)] at H; exact H
            clear H
            have H := H1
            clear H1
            obtain rfl := Option.some.inj H
            have p202 : 0 ≤ (x20_2 : Int) := of_decide_eq_true (by first | (with_reducible assumption) | assumption)
            have q202 : x20_2 < (l0_1.length : Int) := of_decide_eq_true (by first | (with_reducible assumption) | assumption)
            obtain ⟨ad202, e202, hx202_0, hx202_1, hx202_2⟩ := at_T77 HR0_1.out x20_2 p202 q202
            cases e202
            replace hx202_0 := (HB.out.cell (World.block_lt_of_cell? w _ hx202_0)).trans hx202_0
            replace hx202_1 := (HB.out.cell (World.block_lt_of_cell? w _ hx202_1)).trans hx202_1
            replace hx202_2 := (HB.out.cell (World.block_lt_of_cell? w _ hx202_2)).trans hx202_2
            replace p202 := eq_true p202
            replace q202 := eq_true q202
            go_wp2_with (first | ((with_reducible refine gate_dst (N := 5) rfl ?_); (try (refine gate_guard (by rfl) ?_; dsimp only)); refine box_event ?hg (N := 5) ?hd (cs := #[.int .i64 0, .int .i64 0, .int .i64 0]) (t := 77) ?hr ?_; (case hd => rfl); (case hg => rfl); (case hr => first | (go_simp; done) | (go_simp; rfl)); intro gb203 hg w76 hbox hb; have n0_ := Aside0.mk (blk_below (g := gb200) (o := .cells #[.int .i64 a0_0, .slice (some ad202) l0_1.length c0_1] 24 (0, 0)) (by (with_reducible repeat (first | refine blk_drewN ?_ _ | refine blk_drew ?_ | refine blk_alloc ?_ _)); exact BK200.out) hb); have n1_ := Aside0.mk (below_step (by repeat (first | (with_reducible first | exact HB.out | apply below_alloc | apply pw_below_drewN | apply below_drew1 | refine below_set ?_ GE200.out) | exact HB.out)) hb); have n2_ := Aside0.mk (hbox); have n3_ := Aside0.mk ((by rw [hg]; exact (below_size (by repeat (first | (with_reducible first | exact HB.out | apply below_alloc | apply pw_below_drewN | apply below_drew1 | refine below_set ?_ GE200.out) | exact HB.out))) : w.heap.size ≤ gb203)); have n4_ := Aside0.mk ((by rw [hg]; exact (below_size (by repeat (first | (with_reducible first | exact HB.out | apply below_alloc | apply pw_below_drewN | apply below_drew1 | refine below_set ?_ GE200.out) | exact HB.out))) : w.heap.size ≤ gb203)); have n5_ := Aside0.mk ((by rw [hg]; exact Nat.ne_of_lt (blk_lt (g := gb200) (o := .cells #[.int .i64 a0_0, .slice (some ad202) l0_1.length c0_1] 24 (0, 0)) (by (with_reducible repeat (first | refine blk_drewN ?_ _ | refine blk_drew ?_ | refine blk_alloc ?_ _)); exact BK200.out)) : gb200 ≠ gb203)); have n6_ := Aside0.mk ((by rw [hg]; exact Nat.ne_of_gt (blk_lt (g := gb200) (o := .cells #[.int .i64 a0_0, .slice (some ad202) l0_1.length c0_1] 24 (0, 0)) (by (with_reducible repeat (first | refine blk_drewN ?_ _ | refine blk_drew ?_ | refine blk_alloc ?_ _)); exact BK200.out)) : gb203 ≠ gb200)); clear BK200; clear HB; have BK200 := n0_; have HB := n1_; have BK203 := n2_; have GW203 := n3_; have GE203 := n4_; have NB200_203 := n5_; have NB203_200 := n6_; clear n0_ n1_ n2_ n3_ n4_ n5_ n6_; clear hb hbox hg; have hnb77 := NB203_200.out; have hnc77 := NB200_203.out; have hcz78_0 : w76.cell? ⟨gb203, 0, none⟩ = some (.int .i64 0) := (blk_cell BK203.out 0).trans rfl; have hcz78_1 : w76.cell? ⟨gb203, 1, none⟩ = some (.int .i64 0) := (blk_cell BK203.out 1).trans rfl; have hcz78_2 : w76.cell? ⟨gb203, 2, none⟩ = some (.int .i64 0) := (blk_cell BK203.out 2).trans rfl; have hfz78_0 := blk_frozen BK203.out 0; have hfz78_1 := blk_frozen BK203.out 1; have hfz78_2 := blk_frozen BK203.out 2) | ((with_reducible refine gate_store (t := 77) (p := 5) rfl ?_); refine store_event (t := 77) (p := 5) (v := ?vo_w79) (w1 := (((w76.setCell ⟨gb203, 0, none⟩ (.int .i64 ((rd_T77 l0_1 x20_2).f0))).setCell ⟨gb203, 1, none⟩ (.int .i64 ((rd_T77 l0_1 x20_2).f1))).setCell ⟨gb203, 2, none⟩ (.int .i64 ((rd_T77 l0_1 x20_2).f2)))) ?hg ?ho ?hn ?hr ?_; (case ho => rfl); (case hg => rfl); (case hn => rfl); (case hr => first | (go_simp; done) | (go_simp; rfl)); intro w79 hw; have n0_ : Aside0 (w79.heap[gb200]? = some (.cells #[.int .i64 a0_0, .slice (some ad202) l0_1.length c0_1] 24 (0, 0))) := ⟨(by rw [hw]; exact (by (with_reducible repeat (first | refine blk_drewN ?_ _ | refine blk_drew ?_ | refine blk_alloc ?_ _)); refine blk_far ?_ NB200_203.out _; (with_reducible repeat (first | refine blk_drewN ?_ _ | refine blk_drew ?_ | refine blk_alloc ?_ _)); refine blk_far ?_ NB200_203.out _; (with_reducible repeat (first | refine blk_drewN ?_ _ | refine blk_drew ?_ | refine blk_alloc ?_ _)); refine blk_far ?_ NB200_203.out _; (with_reducible repeat (first | refine blk_drewN ?_ _ | refine blk_drew ?_ | refine blk_alloc ?_ _)); exact BK200.out))⟩; have n1_ : Aside0 (w79.heap[gb203]? = some (.cells #[.int .i64 ((rd_T77 l0_1 x20_2).f0), .int .i64 ((rd_T77 l0_1 x20_2).f1), .int .i64 ((rd_T77 l0_1 x20_2).f2)] 77 (0, 0))) := ⟨(by rw [hw]; exact (by (with_reducible repeat (first | refine blk_drewN ?_ _ | refine blk_drew ?_ | refine blk_alloc ?_ _)); refine blk_put (cs := #[.int .i64 ((rd_T77 l0_1 x20_2).f0), .int .i64 ((rd_T77 l0_1 x20_2).f1), .int .i64 0]) ?_ 2 _ rfl; (with_reducible repeat (first | refine blk_drewN ?_ _ | refine blk_drew ?_ | refine blk_alloc ?_ _)); refine blk_put (cs := #[.int .i64 ((rd_T77 l0_1 x20_2).f0), .int .i64 0, .int .i64 0]) ?_ 1 _ rfl; (with_reducible repeat (first | refine blk_drewN ?_ _ | refine blk_drew ?_ | refine blk_alloc ?_ _)); refine blk_put (cs := #[.int .i64 0, .int .i64 0, .int .i64 0]) ?_ 0 _ rfl; (with_reducible repeat (first | refine blk_drewN ?_ _ | refine blk_drew ?_ | refine blk_alloc ?_ _)); exact BK203.out))⟩; have n2_ : Aside0 (Below w.heap.size w w79) := ⟨(by rw [hw]; exact (by repeat (first | (with_reducible first | exact HB.out | apply below_alloc | apply pw_below_drewN | apply below_drew1 | refine below_set ?_ GE200.out | refine below_set ?_ GE203.out) | exact HB.out)))⟩; clear hw; clear BK200; clear BK203; clear HB; have BK200 := n0_; have BK203 := n1_; have HB := n2_; clear n0_ n1_ n2_; have hcz80_0 : w79.cell? ⟨gb200, 0, none⟩ = some (.int .i64 a0_0) := (blk_cell BK200.out 0).trans rfl; have hcz80_1 : w79.cell? ⟨gb200, 1, none⟩ = some (.slice (some ad202) l0_1.length c0_1) := (blk_cell BK200.out 1).trans rfl; have hfz80_0 := blk_frozen BK200.out 0; have hfz80_1 := blk_frozen BK200.out 1; have q81 : (x20_2 : Int) ≤ ((l0_1.length : Int) : Int) := of_decide_eq_true (by first | (with_reducible assumption) | assumption); obtain ⟨i081, hi081, _, hsz81, _⟩ := info_parts info77; have hroom81 : l0_1.length ≤ c0_1 := HC0_1.out; have hC81 : Kd.C k77 _ (some ad202) l0_1.length l0_1 := HR0_1.out; have hcut81 := cut_to (P := Try.prog) 22 77 .i64 Try.underlying22 hi081 (some ad202) l0_1.length c0_1 x20_2 (of_decide_eq_true (by first | (with_reducible assumption) | assumption)) q81 hroom81; have hr81 := Kd.C_take (m := (x20_2 : Int).toNat) hC81 (by omega); have hy81 : y204.length = (x20_2 : Int).toNat := (by rw [Ny204.out, List.length_take]; omega); rw [← Ny204.out] at hr81; rw [← hy81] at hcut81; have HR207 := Aside0.mk hr81; have HC207 := Aside0.mk (show y204.length ≤ c0_1 from by omega); clear hr81 hC81 hroom81 hi081 hsz81; have KY81 := Aside0.mk hy81; clear hy81; replace q81 := eq_true q81; have hcz82_0 : w79.cell? ⟨gb203, 0, none⟩ = some (.int .i64 ((rd_T77 l0_1 x20_2).f0)) := (blk_cell BK203.out 0).trans rfl; have hcz82_1 : w79.cell? ⟨gb203, 1, none⟩ = some (.int .i64 ((rd_T77 l0_1 x20_2).f1)) := (blk_cell BK203.out 1).trans rfl; have hcz82_2 : w79.cell? ⟨gb203, 2, none⟩ = some (.int .i64 ((rd_T77 l0_1 x20_2).f2)) := (blk_cell BK203.out 2).trans rfl; have hfz82_0 := blk_frozen BK203.out 0; have hfz82_1 := blk_frozen BK203.out 1; have hfz82_2 := blk_frozen BK203.out 2) | ((with_reducible refine gate_callee (f := 66) rfl ?_); refine goesL_ (some 30) rfl rfl Try.func66 (by kernel_rfl) rfl #[.slice (some ad202) y204.length c0_1, .func (.func 67) #[] #[.pointer (some ⟨gb203, 0, none⟩)]] rfl (by (try simp only [List.map_toArray, List.map_cons, List.map_nil]); first | done | rfl | (simp only [List.length_drop, List.length_take]; rfl) | (simp only [show ∀ (n_ : Nat) (b_ : Int), Int.tdiv (n_ : Int) b_ = (n_ : Int) / b_ from fun n_ b_ => Int.tdiv_eq_ediv_of_nonneg (Int.natCast_nonneg n_)]; rfl)) ?_; (with_reducible refine (impl_Tap_66.calls gb203 _ _ y204 ((rd_T77 l0_1 x20_2).f0) ((rd_T77 l0_1 x20_2).f1) ((rd_T77 l0_1 x20_2).f2) false _ ?side1 ?side2 A15.out ?side3 ?side4).mono ?_); (case side1 => repeat (first | exact (Kd.C_below HR207.out HB.out) | (with_reducible refine Kd.C_alloc ?_ _) | (with_reducible refine Kd.C_drewN ?_ _) | (with_reducible refine Kd.C_drew ?_))); (case side2 => exact HC207.out); (case side3 => exact (blk_cell BK203.out 0).trans rfl); (case side4 => exact (blk_cell BK203.out 1).trans rfl); rintro e w66_ ⟨rfl, hb66_⟩; refine ⟨_, rfl, ?_⟩; have n0_ := Aside0.mk (blk_below BK200.out hb66_); have n1_ := Aside0.mk (blk_below BK203.out hb66_); have n2_ := Aside0.mk (below_step HB.out hb66_); clear BK200 BK203 HB; have BK200 := n0_; have BK203 := n1_; have HB := n2_; clear n0_ n1_ n2_ hb66_; have hczT_0 : w66_.cell? ⟨gb203, 0, none⟩ = some (.int .i64 ((rd_T77 l0_1 x20_2).f0)) := (blk_cell BK203.out 0).trans rfl; have hczT_1 : w66_.cell? ⟨gb203, 1, none⟩ = some (.int .i64 ((rd_T77 l0_1 x20_2).f1)) := (blk_cell BK203.out 1).trans rfl; have hczT_2 : w66_.cell? ⟨gb203, 2, none⟩ = some (.int .i64 ((rd_T77 l0_1 x20_2).f2)) := (blk_cell BK203.out 2).trans rfl; have hfzT_0 := blk_frozen BK203.out 0; have hfzT_1 := blk_frozen BK203.out 1; have hfzT_2 := blk_frozen BK203.out 2) | (go_at_call 65; (with_reducible refine (impl_within.calls ((rd_T77 l0_1 x20_2).f0) 0 2 false _ A24.out).mono ?_); rintro e w' ⟨rfl, ⟨nd, rfl⟩⟩))
            go_ret
            exact ⟨by first | rfl | (simp [errW_none, errW_some] <;> rfl) | (simp [*, errW_none, errW_some] <;> rfl), by repeat (first | (with_reducible first | exact HB.out | apply below_alloc | apply pw_below_drewN | apply below_drew1 | refine below_set ?_ GE200.out | refine below_set ?_ GE203.out) | exact HB.out)⟩
         ·rw [if_neg c14] at H
          exact absurd H (by simp)
        ·rw [if_neg c12] at H
         exact absurd H (by simp)
       ·rw [if_neg c11] at H
        exact absurd H (by simp)
      ·rw [if_neg c10] at H
       have c10b0 : decide (x20_2 < (l0_1.length : Int)) = false := decide_eq_false c10
       clear c10
       obtain rfl := Option.some.inj H
       have hcz83_0 : wr.cell? ⟨gb200, 0, none⟩ = some (.int .i64 a0_0) := (blk_cell BK200.out 0).trans rfl
       have hcz83_1 : wr.cell? ⟨gb200, 1, none⟩ = some (.slice A0_1 l0_1.length c0_1) := (blk_cell BK200.out 1).trans rfl
       have hfz83_0 := blk_frozen BK200.out 0
       have hfz83_1 := blk_frozen BK200.out 1
       go_wp2
       go_ret
       exact ⟨by first | rfl | (simp [errW_none, errW_some] <;> rfl) | (simp [*, errW_none, errW_some] <;> rfl), by repeat (first | (with_reducible first | exact HB.out | apply below_alloc | apply pw_below_drewN | apply below_drew1 | refine below_set ?_ GE200.out) | exact HB.out)⟩
end Go.Proofs.Ytgndemjphjhahaa.Q
namespace Go.Proofs.Ytgndemjphjhahaa.Q
open Go.RowKit Go.Proofs.YtgndemjphjhahaaW.PrintWords Go.Proofs.YtgndemjphjhahaaW.PrintLast Go.Proofs.YtgndemjphjhahaaW.PrintMore
set_option linter.unusedVariables false
set_option linter.unusedSimpArgs false
def laws_FnExactValidKernel.f (k : Nat) (a0_0 : Int) (l0_1 : List S111) : Option Bool := (laws_szKernel.f a0_0 l0_1 1048576).bind fun bt2 => (if bt2 < 0 then some true else ((laws_toKernel.f k a0_0 l0_1).bind fun bt3 => ((spec_ValidKernel.f k bt3.1 bt3.2).bind fun bt6 => ((laws_toKernel.f k a0_0 l0_1).bind fun bt7 => ((impl_ValidKernel.f k bt7.1 bt7.2).bind fun bt11 => (if bt11 = bt6 then ((laws_toKernel.f k a0_0 l0_1).bind fun bt12 => ((laws_eqKernel.f k bt7.1 bt7.2 bt12.1 bt12.2).bind fun bt15 => (if bt15 = true then (some true) else some false))) else some false))))))
def laws_FnExactValidKernel.Pure : Prop := ∀ (a0_0 : Int) (l0_1 : List S111), (Lit.int .i64 a0_0).wf = true → (l0_1.length ≤ maxLen ∧ ∀ y ∈ l0_1, ((Lit.int .i64 y.f0).wf = true ∧ (Lit.int .i64 y.f1).wf = true ∧ (Lit.int .i64 y.f2).wf = true)) → ∃ k, laws_FnExactValidKernel.f k a0_0 l0_1 = some true
set_option maxHeartbeats 16000000 in
set_option maxRecDepth 100000 in
theorem laws_FnExactValidKernel.calls (k : Nat) (a0_0 : Int) (A0_1 : Option Addr) (c0_1 : Nat) (l0_1 : List S111) (w : World) (hr0_1 : Kd.C k111 w A0_1 l0_1.length l0_1) (hc0_1 : l0_1.length ≤ c0_1) (h : laws_FnExactValidKernel.f k a0_0 l0_1 = some true) :
  Calls Try.prog 4 #[.agg #[.int .i64 a0_0, .slice A0_1 l0_1.length c0_1]] w fun e w' => e = .returned (.bool true) ∧ Below w.heap.size w w' := by
 have HR0_1 := Aside0.mk hr0_1
 have HC0_1 := Aside0.mk hc0_1
 clear hr0_1 hc0_1
 have HB := Aside0.mk (Below.refl w.heap.size w)
 have H := h
 clear h
 unfold laws_FnExactValidKernel.f at H
 replace H := Option.bind_eq_some_iff.mp H
 obtain ⟨t2, E10, H⟩ := H
 (try dsimp only at H)
 have E1 := Aside0.mk E10
 clear E10
 by_cases c1 : t2 < 0
 ·clear H
  have c1b : decide (t2 < 0) = true := decide_eq_true c1
  clear c1
  go_enter Try.func4, Try.ntmps4
  go_wp2_with (first | ((with_reducible refine gate_dst (N := 1) rfl ?_); refine box_event ?hg (N := 1) ?hd (cs := #[.int .i64 a0_0, .slice A0_1 l0_1.length c0_1]) (t := 32) ?hr ?_; (case hd => rfl); (case hg => rfl); (case hr => first | (go_simp; done) | (go_simp; rfl)); intro gb1 hg w_1 hbox hb; have n0_ := Aside0.mk (below_step HB.out hb); have n1_ := Aside0.mk (hbox); have n2_ := Aside0.mk (blk_lt hbox); have n3_ := Aside0.mk (by rw [hg]; exact below_size HB.out : w.heap.size ≤ gb1); clear HB; have HB := n0_; have BKgb1 := n1_; have GUgb1 := n2_; have GEgb1 := n3_; clear n0_ n1_ n2_ n3_; clear hb hbox hg; (try clear hczgb1_0); (try clear hfzgb1_0); (try clear hczgb1_1); (try clear hfzgb1_1); have hczgb1_0 : w_1.cell? ⟨gb1, 0, none⟩ = some (.int .i64 a0_0) := (blk_cell BKgb1.out 0).trans rfl; have hfzgb1_0 := blk_frozen BKgb1.out 0; have hczgb1_1 : w_1.cell? ⟨gb1, 1, none⟩ = some (.slice A0_1 l0_1.length c0_1) := (blk_cell BKgb1.out 1).trans rfl; have hfzgb1_1 := blk_frozen BKgb1.out 1) | ((with_reducible refine gate_callee (f := 20) rfl ?_); refine goesL_ (some 9) rfl rfl Try.func20 (by kernel_rfl) rfl #[.agg #[.int .i64 a0_0, .slice A0_1 l0_1.length c0_1], .int .i64 1048576] rfl (by (try simp only [List.map_toArray, List.map_cons, List.map_nil]); first | done | rfl) ?_; (with_reducible refine (laws_szKernel.calls a0_0 _ _ l0_1 1048576 t2 _ ?side1 ?side2 E1.out).mono ?_); (case side1 => exact Kd.C_below HR0_1.out HB.out); (case side2 => exact HC0_1.out); rintro e w_2 ⟨rfl, hb⟩; refine ⟨_, rfl, ?_⟩; have n0_ := Aside0.mk (blk_below (g := gb1) BKgb1.out hb); have n1_ := Aside0.mk (Nat.lt_of_lt_of_le GUgb1.out hb.size); have n2_ := Aside0.mk (below_step HB.out hb); clear BKgb1; clear GUgb1; clear HB; have BKgb1 := n0_; have GUgb1 := n1_; have HB := n2_; clear n0_ n1_ n2_; clear hb; (try clear hczgb1_0); (try clear hfzgb1_0); (try clear hczgb1_1); (try clear hfzgb1_1); have hczgb1_0 : w_2.cell? ⟨gb1, 0, none⟩ = some (.int .i64 a0_0) := (blk_cell BKgb1.out 0).trans rfl; have hfzgb1_0 := blk_frozen BKgb1.out 0; have hczgb1_1 : w_2.cell? ⟨gb1, 1, none⟩ = some (.slice A0_1 l0_1.length c0_1) := (blk_cell BKgb1.out 1).trans rfl; have hfzgb1_1 := blk_frozen BKgb1.out 1))
  go_ret
  exact ⟨by first | rfl | (simp; done) | (simp [*]; done), HB.out⟩
 rw [if_neg c1] at H
 have c1b : decide (t2 < 0) = false := decide_eq_false c1
 clear c1
 replace H := Option.bind_eq_some_iff.mp H
 obtain ⟨⟨t3, t4⟩, E30, H⟩ := H
 (try dsimp only at H)
 have E3 := Aside0.mk E30
 clear E30
 replace H := Option.bind_eq_some_iff.mp H
 obtain ⟨t6, E40, H⟩ := H
 (try dsimp only at H)
 have E4 := Aside0.mk E40
 clear E40
 replace H := Option.bind_eq_some_iff.mp H
 obtain ⟨⟨t7, t8⟩, E50, H⟩ := H
 (try dsimp only at H)
 have E5 := Aside0.mk E50
 clear E50
 replace H := Option.bind_eq_some_iff.mp H
 obtain ⟨t11, E60, H⟩ := H
 (try dsimp only at H)
 have E6 := Aside0.mk E60
 clear E60
 by_cases c6 : t11 = t6
 rotate_left
 ·rw [if_neg c6] at H; exact absurd H (by simp)
 rw [if_pos c6] at H
 subst c6
 replace H := Option.bind_eq_some_iff.mp H
 obtain ⟨⟨t12, t13⟩, E80, H⟩ := H
 (try dsimp only at H)
 have E8 := Aside0.mk E80
 clear E80
 replace H := Option.bind_eq_some_iff.mp H
 obtain ⟨t15, E90, H⟩ := H
 (try dsimp only at H)
 have E9 := Aside0.mk E90
 clear E90
 by_cases c9 : t15 = true
 rotate_left
 ·rw [if_neg c9] at H; exact absurd H (by simp)
 rw [if_pos c9] at H
 subst c9
 clear H
 go_enter Try.func4, Try.ntmps4
 go_wp2_with (first | ((with_reducible refine gate_dst (N := 1) rfl ?_); refine box_event ?hg (N := 1) ?hd (cs := #[.int .i64 a0_0, .slice A0_1 l0_1.length c0_1]) (t := 32) ?hr ?_; (case hd => rfl); (case hg => rfl); (case hr => first | (go_simp; done) | (go_simp; rfl)); intro gb1 hg w_1 hbox hb; have n0_ := Aside0.mk (below_step HB.out hb); have n1_ := Aside0.mk (hbox); have n2_ := Aside0.mk (blk_lt hbox); have n3_ := Aside0.mk (by rw [hg]; exact below_size HB.out : w.heap.size ≤ gb1); clear HB; have HB := n0_; have BKgb1 := n1_; have GUgb1 := n2_; have GEgb1 := n3_; clear n0_ n1_ n2_ n3_; clear hb hbox hg; (try clear hczgb1_0); (try clear hfzgb1_0); (try clear hczgb1_1); (try clear hfzgb1_1); have hczgb1_0 : w_1.cell? ⟨gb1, 0, none⟩ = some (.int .i64 a0_0) := (blk_cell BKgb1.out 0).trans rfl; have hfzgb1_0 := blk_frozen BKgb1.out 0; have hczgb1_1 : w_1.cell? ⟨gb1, 1, none⟩ = some (.slice A0_1 l0_1.length c0_1) := (blk_cell BKgb1.out 1).trans rfl; have hfzgb1_1 := blk_frozen BKgb1.out 1) | ((with_reducible refine gate_callee (f := 20) rfl ?_); refine goesL_ (some 9) rfl rfl Try.func20 (by kernel_rfl) rfl #[.agg #[.int .i64 a0_0, .slice A0_1 l0_1.length c0_1], .int .i64 1048576] rfl (by (try simp only [List.map_toArray, List.map_cons, List.map_nil]); first | done | rfl) ?_; (with_reducible refine (laws_szKernel.calls a0_0 _ _ l0_1 1048576 t2 _ ?side1 ?side2 E1.out).mono ?_); (case side1 => exact Kd.C_below HR0_1.out HB.out); (case side2 => exact HC0_1.out); rintro e w_2 ⟨rfl, hb⟩; refine ⟨_, rfl, ?_⟩; have n0_ := Aside0.mk (blk_below (g := gb1) BKgb1.out hb); have n1_ := Aside0.mk (Nat.lt_of_lt_of_le GUgb1.out hb.size); have n2_ := Aside0.mk (below_step HB.out hb); clear BKgb1; clear GUgb1; clear HB; have BKgb1 := n0_; have GUgb1 := n1_; have HB := n2_; clear n0_ n1_ n2_; clear hb; (try clear hczgb1_0); (try clear hfzgb1_0); (try clear hczgb1_1); (try clear hfzgb1_1); have hczgb1_0 : w_2.cell? ⟨gb1, 0, none⟩ = some (.int .i64 a0_0) := (blk_cell BKgb1.out 0).trans rfl; have hfzgb1_0 := blk_frozen BKgb1.out 0; have hczgb1_1 : w_2.cell? ⟨gb1, 1, none⟩ = some (.slice A0_1 l0_1.length c0_1) := (blk_cell BKgb1.out 1).trans rfl; have hfzgb1_1 := blk_frozen BKgb1.out 1) | ((with_reducible refine gate_callee (f := 22) rfl ?_); refine goesL_ (some 13) rfl rfl Try.func22 (by kernel_rfl) rfl #[.agg #[.int .i64 a0_0, .slice A0_1 l0_1.length c0_1]] rfl (by (try simp only [List.map_toArray, List.map_cons, List.map_nil]); first | done | rfl) ?_; (with_reducible refine (laws_toKernel.calls k a0_0 _ _ l0_1 t3 t4 _ ?side1 ?side2 E3.out).mono ?_); (case side1 => exact Kd.C_below HR0_1.out HB.out); (case side2 => exact HC0_1.out); rintro e w_3 ⟨vR5, rfl, hoR5, hb⟩; refine ⟨_, rfl, ?_⟩; obtain ⟨loR5, hloR5⟩ : ∃ n_ : Nat, n_ = w_2.heap.size := ⟨_, rfl⟩; obtain ⟨hiR5, hhiR5⟩ : ∃ n_ : Nat, n_ = w_3.heap.size := ⟨_, rfl⟩; have n0_ := Aside0.mk (blk_below (g := gb1) BKgb1.out hb); have n1_ := Aside0.mk (Nat.lt_of_lt_of_le GUgb1.out hb.size); have n2_ := Aside0.mk (below_step HB.out hb); have n3_ := Aside0.mk (Kd.R_lower (Kd.R_mono (ok' := fun k_ => loR5 ≤ k_ ∧ k_ < hiR5) (Kd.R_bound hoR5) (fun k_ hk_ => ⟨by rw [hloR5]; exact hk_.2.1, by rw [hhiR5]; exact hk_.2.2.1⟩)) (below_size HB.out)); have n4_ := Aside0.mk (by rw [hhiR5]; exact Nat.le_refl _ : hiR5 ≤ w_3.heap.size); have n5_ := Aside0.mk (fun k_ hk_ => by have := GUgb1.out; rw [← hloR5] at this; omega : ∀ k_, loR5 ≤ k_ ∧ k_ < hiR5 → k_ ≠ gb1); clear BKgb1; clear GUgb1; clear HB; have BKgb1 := n0_; have GUgb1 := n1_; have HB := n2_; have HOR5 := n3_; have UPR5 := n4_; have NER5_gb1 := n5_; clear n0_ n1_ n2_ n3_ n4_ n5_; clear hb; clear hoR5 hloR5 hhiR5; obtain ⟨AR5, cR5, eqR5⟩ := Kd.R_slice HOR5.out; subst eqR5; (try clear hczgb1_0); (try clear hfzgb1_0); (try clear hczgb1_1); (try clear hfzgb1_1); have hczgb1_0 : w_3.cell? ⟨gb1, 0, none⟩ = some (.int .i64 a0_0) := (blk_cell BKgb1.out 0).trans rfl; have hfzgb1_0 := blk_frozen BKgb1.out 0; have hczgb1_1 : w_3.cell? ⟨gb1, 1, none⟩ = some (.slice A0_1 l0_1.length c0_1) := (blk_cell BKgb1.out 1).trans rfl; have hfzgb1_1 := blk_frozen BKgb1.out 1) | ((with_reducible refine gate_callee (f := 21) rfl ?_); refine goesL_ (some 14) rfl rfl Try.func21 (by kernel_rfl) rfl #[.agg #[.int .i64 t3, .slice AR5 t4.length cR5]] rfl (by (try simp only [List.map_toArray, List.map_cons, List.map_nil]); first | done | rfl) ?_; (with_reducible refine (spec_ValidKernel.calls k t3 _ _ t4 t11 _ ?side1 ?side2 E4.out).mono ?_); (case side1 => exact (Kd.R_reads' HOR5.out).2.2); (case side2 => exact (Kd.R_reads' HOR5.out).2.1); rintro e w_4 ⟨rfl, hb⟩; refine ⟨_, rfl, ?_⟩; have n0_ := Aside0.mk (Kd.R_below HOR5.out hb); have n1_ := Aside0.mk (Nat.le_trans UPR5.out hb.size); have n2_ := Aside0.mk (blk_below (g := gb1) BKgb1.out hb); have n3_ := Aside0.mk (Nat.lt_of_lt_of_le GUgb1.out hb.size); have n4_ := Aside0.mk (below_step HB.out hb); clear HOR5; clear UPR5; clear BKgb1; clear GUgb1; clear HB; have HOR5 := n0_; have UPR5 := n1_; have BKgb1 := n2_; have GUgb1 := n3_; have HB := n4_; clear n0_ n1_ n2_ n3_ n4_; clear hb; (try clear hczgb1_0); (try clear hfzgb1_0); (try clear hczgb1_1); (try clear hfzgb1_1); have hczgb1_0 : w_4.cell? ⟨gb1, 0, none⟩ = some (.int .i64 a0_0) := (blk_cell BKgb1.out 0).trans rfl; have hfzgb1_0 := blk_frozen BKgb1.out 0; have hczgb1_1 : w_4.cell? ⟨gb1, 1, none⟩ = some (.slice A0_1 l0_1.length c0_1) := (blk_cell BKgb1.out 1).trans rfl; have hfzgb1_1 := blk_frozen BKgb1.out 1) | ((with_reducible refine gate_callee (f := 22) rfl ?_); refine goesL_ (some 16) rfl rfl Try.func22 (by kernel_rfl) rfl #[.agg #[.int .i64 a0_0, .slice A0_1 l0_1.length c0_1]] rfl (by (try simp only [List.map_toArray, List.map_cons, List.map_nil]); first | done | rfl) ?_; (with_reducible refine (laws_toKernel.calls k a0_0 _ _ l0_1 t7 t8 _ ?side1 ?side2 E5.out).mono ?_); (case side1 => exact Kd.C_below HR0_1.out HB.out); (case side2 => exact HC0_1.out); rintro e w_5 ⟨vR9, rfl, hoR9, hb⟩; refine ⟨_, rfl, ?_⟩; obtain ⟨loR9, hloR9⟩ : ∃ n_ : Nat, n_ = w_4.heap.size := ⟨_, rfl⟩; obtain ⟨hiR9, hhiR9⟩ : ∃ n_ : Nat, n_ = w_5.heap.size := ⟨_, rfl⟩; have n0_ := Aside0.mk (Kd.R_below HOR5.out hb); have n1_ := Aside0.mk (Nat.le_trans UPR5.out hb.size); have n2_ := Aside0.mk (blk_below (g := gb1) BKgb1.out hb); have n3_ := Aside0.mk (Nat.lt_of_lt_of_le GUgb1.out hb.size); have n4_ := Aside0.mk (below_step HB.out hb); have n5_ := Aside0.mk (Kd.R_lower (Kd.R_mono (ok' := fun k_ => loR9 ≤ k_ ∧ k_ < hiR9) (Kd.R_bound hoR9) (fun k_ hk_ => ⟨by rw [hloR9]; exact hk_.2.1, by rw [hhiR9]; exact hk_.2.2.1⟩)) (below_size HB.out)); have n6_ := Aside0.mk (by rw [hhiR9]; exact Nat.le_refl _ : hiR9 ≤ w_5.heap.size); have n7_ := Aside0.mk (fun k_ h1_ h2_ => by have := UPR5.out; rw [← hloR9] at this; omega : ∀ k_, loR5 ≤ k_ ∧ k_ < hiR5 → ¬ (loR9 ≤ k_ ∧ k_ < hiR9)); have n8_ := Aside0.mk (fun k_ h1_ h2_ => by have := UPR5.out; rw [← hloR9] at this; omega : ∀ k_, loR9 ≤ k_ ∧ k_ < hiR9 → ¬ (loR5 ≤ k_ ∧ k_ < hiR5)); have n9_ := Aside0.mk (fun k_ hk_ => by have := GUgb1.out; rw [← hloR9] at this; omega : ∀ k_, loR9 ≤ k_ ∧ k_ < hiR9 → k_ ≠ gb1); clear HOR5; clear UPR5; clear BKgb1; clear GUgb1; clear HB; have HOR5 := n0_; have UPR5 := n1_; have BKgb1 := n2_; have GUgb1 := n3_; have HB := n4_; have HOR9 := n5_; have UPR9 := n6_; have NRR5_R9 := n7_; have NRR9_R5 := n8_; have NER9_gb1 := n9_; clear n0_ n1_ n2_ n3_ n4_ n5_ n6_ n7_ n8_ n9_; clear hb; clear hoR9 hloR9 hhiR9; obtain ⟨AR9, cR9, eqR9⟩ := Kd.R_slice HOR9.out; subst eqR9; (try clear hczgb1_0); (try clear hfzgb1_0); (try clear hczgb1_1); (try clear hfzgb1_1); have hczgb1_0 : w_5.cell? ⟨gb1, 0, none⟩ = some (.int .i64 a0_0) := (blk_cell BKgb1.out 0).trans rfl; have hfzgb1_0 := blk_frozen BKgb1.out 0; have hczgb1_1 : w_5.cell? ⟨gb1, 1, none⟩ = some (.slice A0_1 l0_1.length c0_1) := (blk_cell BKgb1.out 1).trans rfl; have hfzgb1_1 := blk_frozen BKgb1.out 1) | ((with_reducible refine gate_dst (N := 5) rfl ?_); refine box_event ?hg (N := 5) ?hd (cs := #[.int .i64 0, .slice none 0 0]) (t := 24) ?hr ?_; (case hd => rfl); (case hg => rfl); (case hr => first | (go_simp; done) | (go_simp; rfl)); intro gb10 hg w_6 hbox hb; have n0_ := Aside0.mk (Kd.R_below HOR5.out hb); have n1_ := Aside0.mk (Kd.R_below HOR9.out hb); have n2_ := Aside0.mk (Nat.le_trans UPR5.out hb.size); have n3_ := Aside0.mk (Nat.le_trans UPR9.out hb.size); have n4_ := Aside0.mk (blk_below (g := gb1) BKgb1.out hb); have n5_ := Aside0.mk (Nat.lt_of_lt_of_le GUgb1.out hb.size); have n6_ := Aside0.mk (below_step HB.out hb); have n7_ := Aside0.mk (hbox); have n8_ := Aside0.mk (blk_lt hbox); have n9_ := Aside0.mk (by rw [hg]; exact below_size HB.out : w.heap.size ≤ gb10); have n10_ := Aside0.mk (fun k_ hk_ => by have := UPR5.out; rw [← hg] at this; omega : ∀ k_, loR5 ≤ k_ ∧ k_ < hiR5 → k_ ≠ gb10); have n11_ := Aside0.mk (fun k_ hk_ => by have := UPR9.out; rw [← hg] at this; omega : ∀ k_, loR9 ≤ k_ ∧ k_ < hiR9 → k_ ≠ gb10); have n12_ := Aside0.mk (by have := GUgb1.out; rw [← hg] at this; omega : gb1 ≠ gb10); have n13_ := Aside0.mk (by have := GUgb1.out; rw [← hg] at this; omega : gb10 ≠ gb1); clear HOR5; clear HOR9; clear UPR5; clear UPR9; clear BKgb1; clear GUgb1; clear HB; have HOR5 := n0_; have HOR9 := n1_; have UPR5 := n2_; have UPR9 := n3_; have BKgb1 := n4_; have GUgb1 := n5_; have HB := n6_; have BKgb10 := n7_; have GUgb10 := n8_; have GEgb10 := n9_; have NER5_gb10 := n10_; have NER9_gb10 := n11_; have NBgb1_gb10 := n12_; have NBgb10_gb1 := n13_; clear n0_ n1_ n2_ n3_ n4_ n5_ n6_ n7_ n8_ n9_ n10_ n11_ n12_ n13_; clear hb hbox hg; (try clear hczgb1_0); (try clear hfzgb1_0); (try clear hczgb1_1); (try clear hfzgb1_1); (try clear hczgb10_0); (try clear hfzgb10_0); (try clear hczgb10_1); (try clear hfzgb10_1); have hczgb1_0 : w_6.cell? ⟨gb1, 0, none⟩ = some (.int .i64 a0_0) := (blk_cell BKgb1.out 0).trans rfl; have hfzgb1_0 := blk_frozen BKgb1.out 0; have hczgb1_1 : w_6.cell? ⟨gb1, 1, none⟩ = some (.slice A0_1 l0_1.length c0_1) := (blk_cell BKgb1.out 1).trans rfl; have hfzgb1_1 := blk_frozen BKgb1.out 1; have hczgb10_0 : w_6.cell? ⟨gb10, 0, none⟩ = some (.int .i64 0) := (blk_cell BKgb10.out 0).trans rfl; have hfzgb10_0 := blk_frozen BKgb10.out 0; have hczgb10_1 : w_6.cell? ⟨gb10, 1, none⟩ = some (.slice none 0 0) := (blk_cell BKgb10.out 1).trans rfl; have hfzgb10_1 := blk_frozen BKgb10.out 1) | ((with_reducible refine gate_store (t := 24) (p := 5) rfl ?_); refine store_event (t := 24) (p := 5) (v := ?vow_7) (w1 := ((w_6.setCell ⟨gb10, 0, none⟩ (.int .i64 t7)).setCell ⟨gb10, 1, none⟩ (.slice AR9 t8.length cR9))) ?hg ?ho ?hn ?hr ?_; (case ho => rfl); (case hg => rfl); (case hn => rfl); (case hr => first | (go_simp; done) | (go_simp; rfl)); intro w_7 hw; have n0_ := Aside0.mk (by rw [hw]; exact (Kd.R_far (p := ⟨gb10, 1, none⟩) (Kd.R_far (p := ⟨gb10, 0, none⟩) HOR5.out NER5_gb10.out (.int .i64 t7)) NER5_gb10.out (.slice AR9 t8.length cR9)) : Kd.R k77 77 w_7 w.heap.size (fun k_ => loR5 ≤ k_ ∧ k_ < hiR5) (.slice AR5 t4.length cR5) t4); have n1_ := Aside0.mk (by rw [hw]; simp only [World.size_setCell]; exact UPR5.out : hiR5 ≤ w_7.heap.size); have n2_ := Aside0.mk (by rw [hw]; exact (Kd.R_far (p := ⟨gb10, 1, none⟩) (Kd.R_far (p := ⟨gb10, 0, none⟩) HOR9.out NER9_gb10.out (.int .i64 t7)) NER9_gb10.out (.slice AR9 t8.length cR9)) : Kd.R k77 77 w_7 w.heap.size (fun k_ => loR9 ≤ k_ ∧ k_ < hiR9) (.slice AR9 t8.length cR9) t8); have n3_ := Aside0.mk (by rw [hw]; simp only [World.size_setCell]; exact UPR9.out : hiR9 ≤ w_7.heap.size); have n4_ := Aside0.mk (by rw [hw]; exact (blk_far (blk_far BKgb1.out NBgb1_gb10.out (.int .i64 t7)) NBgb1_gb10.out (.slice AR9 t8.length cR9)) : w_7.heap[gb1]? = some (.cells #[.int .i64 a0_0, .slice A0_1 l0_1.length c0_1] 32 (0, 0))); have n5_ := Aside0.mk (by rw [hw]; simp only [World.size_setCell]; exact GUgb1.out : gb1 < w_7.heap.size); have n6_ := Aside0.mk (by rw [hw]; exact (blk_put (cs' := #[.int .i64 t7, .slice AR9 t8.length cR9]) (blk_put (cs' := #[.int .i64 t7, .slice none 0 0]) BKgb10.out 0 (.int .i64 t7) rfl) 1 (.slice AR9 t8.length cR9) rfl) : w_7.heap[gb10]? = some (.cells #[.int .i64 t7, .slice AR9 t8.length cR9] 24 (0, 0))); have n7_ := Aside0.mk (by rw [hw]; simp only [World.size_setCell]; exact GUgb10.out : gb10 < w_7.heap.size); have n8_ := Aside0.mk (by rw [hw]; exact (below_set (below_set HB.out GEgb10.out) GEgb10.out) : Below w.heap.size w w_7); clear HOR5; clear UPR5; clear HOR9; clear UPR9; clear BKgb1; clear GUgb1; clear BKgb10; clear GUgb10; clear HB; have HOR5 := n0_; have UPR5 := n1_; have HOR9 := n2_; have UPR9 := n3_; have BKgb1 := n4_; have GUgb1 := n5_; have BKgb10 := n6_; have GUgb10 := n7_; have HB := n8_; clear n0_ n1_ n2_ n3_ n4_ n5_ n6_ n7_ n8_; clear hw; (try clear hczgb1_0); (try clear hfzgb1_0); (try clear hczgb1_1); (try clear hfzgb1_1); (try clear hczgb10_0); (try clear hfzgb10_0); (try clear hczgb10_1); (try clear hfzgb10_1); have hczgb1_0 : w_7.cell? ⟨gb1, 0, none⟩ = some (.int .i64 a0_0) := (blk_cell BKgb1.out 0).trans rfl; have hfzgb1_0 := blk_frozen BKgb1.out 0; have hczgb1_1 : w_7.cell? ⟨gb1, 1, none⟩ = some (.slice A0_1 l0_1.length c0_1) := (blk_cell BKgb1.out 1).trans rfl; have hfzgb1_1 := blk_frozen BKgb1.out 1; have hczgb10_0 : w_7.cell? ⟨gb10, 0, none⟩ = some (.int .i64 t7) := (blk_cell BKgb10.out 0).trans rfl; have hfzgb10_0 := blk_frozen BKgb10.out 0; have hczgb10_1 : w_7.cell? ⟨gb10, 1, none⟩ = some (.slice AR9 t8.length cR9) := (blk_cell BKgb10.out 1).trans rfl; have hfzgb10_1 := blk_frozen BKgb10.out 1) | ((with_reducible refine gate_callee (f := 23) rfl ?_); refine goesL_ (some 18) rfl rfl Try.func23 (by kernel_rfl) rfl #[.agg #[.int .i64 t7, .slice AR9 t8.length cR9]] rfl (by (try simp only [List.map_toArray, List.map_cons, List.map_nil]); first | done | rfl) ?_; (with_reducible refine (impl_ValidKernel.calls k t7 _ _ t8 t11 _ ?side1 ?side2 E6.out).mono ?_); (case side1 => exact (Kd.R_reads' HOR9.out).2.2); (case side2 => exact (Kd.R_reads' HOR9.out).2.1); rintro e w_8 ⟨rfl, hb⟩; refine ⟨_, rfl, ?_⟩; have n0_ := Aside0.mk (Kd.R_below HOR5.out hb); have n1_ := Aside0.mk (Kd.R_below HOR9.out hb); have n2_ := Aside0.mk (Nat.le_trans UPR5.out hb.size); have n3_ := Aside0.mk (Nat.le_trans UPR9.out hb.size); have n4_ := Aside0.mk (blk_below (g := gb1) BKgb1.out hb); have n5_ := Aside0.mk (blk_below (g := gb10) BKgb10.out hb); have n6_ := Aside0.mk (Nat.lt_of_lt_of_le GUgb1.out hb.size); have n7_ := Aside0.mk (Nat.lt_of_lt_of_le GUgb10.out hb.size); have n8_ := Aside0.mk (below_step HB.out hb); clear HOR5; clear HOR9; clear UPR5; clear UPR9; clear BKgb1; clear BKgb10; clear GUgb1; clear GUgb10; clear HB; have HOR5 := n0_; have HOR9 := n1_; have UPR5 := n2_; have UPR9 := n3_; have BKgb1 := n4_; have BKgb10 := n5_; have GUgb1 := n6_; have GUgb10 := n7_; have HB := n8_; clear n0_ n1_ n2_ n3_ n4_ n5_ n6_ n7_ n8_; clear hb; (try clear hczgb1_0); (try clear hfzgb1_0); (try clear hczgb1_1); (try clear hfzgb1_1); (try clear hczgb10_0); (try clear hfzgb10_0); (try clear hczgb10_1); (try clear hfzgb10_1); have hczgb1_0 : w_8.cell? ⟨gb1, 0, none⟩ = some (.int .i64 a0_0) := (blk_cell BKgb1.out 0).trans rfl; have hfzgb1_0 := blk_frozen BKgb1.out 0; have hczgb1_1 : w_8.cell? ⟨gb1, 1, none⟩ = some (.slice A0_1 l0_1.length c0_1) := (blk_cell BKgb1.out 1).trans rfl; have hfzgb1_1 := blk_frozen BKgb1.out 1; have hczgb10_0 : w_8.cell? ⟨gb10, 0, none⟩ = some (.int .i64 t7) := (blk_cell BKgb10.out 0).trans rfl; have hfzgb10_0 := blk_frozen BKgb10.out 0; have hczgb10_1 : w_8.cell? ⟨gb10, 1, none⟩ = some (.slice AR9 t8.length cR9) := (blk_cell BKgb10.out 1).trans rfl; have hfzgb10_1 := blk_frozen BKgb10.out 1))
 have n0_ := Aside0.mk (Kd.R_drew HOR5.out)
 have n1_ := Aside0.mk (Kd.R_drew HOR9.out)
 have n2_ := Aside0.mk (show hiR5 ≤ w_8.drew.heap.size from UPR5.out)
 have n3_ := Aside0.mk (show hiR9 ≤ w_8.drew.heap.size from UPR9.out)
 have n4_ := Aside0.mk (blk_drew BKgb1.out)
 have n5_ := Aside0.mk (blk_drew BKgb10.out)
 have n6_ := Aside0.mk (show gb1 < w_8.drew.heap.size from GUgb1.out)
 have n7_ := Aside0.mk (show gb10 < w_8.drew.heap.size from GUgb10.out)
 have n8_ := Aside0.mk (below_drew1 HB.out)
 clear HOR5
 clear HOR9
 clear UPR5
 clear UPR9
 clear BKgb1
 clear BKgb10
 clear GUgb1
 clear GUgb10
 clear HB
 have HOR5 := n0_
 have HOR9 := n1_
 have UPR5 := n2_
 have UPR9 := n3_
 have BKgb1 := n4_
 have BKgb10 := n5_
 have GUgb1 := n6_
 have GUgb10 := n7_
 have HB := n8_
 clear n0_ n1_ n2_ n3_ n4_ n5_ n6_ n7_ n8_
 (try clear hczgb1_0); (try clear hfzgb1_0)
 (try clear hczgb1_1); (try clear hfzgb1_1)
 (try clear hczgb10_0); (try clear hfzgb10_0)
 (try clear hczgb10_1); (try clear hfzgb10_1)
 refine start_ (n := 5) (S := fun w' => w'.cell? ⟨gb10, 0, none⟩ = some (.int .i64 t7) ∧ w'.cell? ⟨gb10, 1, none⟩ = some (.slice AR9 t8.length cR9) ∧ w'.cell? ⟨gb1, 0, none⟩ = some (.int .i64 a0_0) ∧ w'.cell? ⟨gb1, 1, none⟩ = some (.slice A0_1 l0_1.length c0_1)) (ds := []) #[false, false, false, false, false] (by kernel_rfl) rfl rfl ⟨(blk_cell BKgb10.out 0).trans rfl, (blk_cell BKgb10.out 1).trans rfl, (blk_cell BKgb1.out 0).trans rfl, (blk_cell BKgb1.out 1).trans rfl⟩ (fun hHeld => ?_)
 generalize w_8.drew = w_9 at HOR5 HOR9 UPR5 UPR9 BKgb1 BKgb10 GUgb1 GUgb10 HB hHeld ⊢
 refine take_ (i := 0) (N := some 22) (v := ?_) (a' := ?_) #[true, false, false, false, false] rfl rfl (by kernel_rfl) (fun _ _ _ h => h) (Or.inl ⟨by rfl, ?_⟩) hHeld ?_ ?_
 rotate_left
 ·rintro w' ⟨s0, s1, s2, s3⟩
  go_simp
  with_reducible rfl
 rotate_left
 ·simp only [Act.put, List.setIfInBounds_toArray, List.set_cons_zero, List.set_cons_succ, i64_w, i32_w]
  rfl
 refine take_ (i := 1) (N := some 23) (v := ?_) (a' := ?_) #[true, true, false, false, false] rfl rfl (by kernel_rfl) (fun _ _ _ h => h) (Or.inl ⟨by rfl, ?_⟩) hHeld ?_ ?_
 rotate_left
 ·rintro w' ⟨s0, s1, s2, s3⟩
  go_simp
  with_reducible rfl
 rotate_left
 ·simp only [Act.put, List.setIfInBounds_toArray, List.set_cons_zero, List.set_cons_succ, i64_w, i32_w]
  rfl
 refine one_ (i := 2) (N := some 24) #[true, true, true, false, false] rfl rfl (by kernel_rfl) (by decide) (fun K hK => ?_)
 refine goes_ Try.func22 (by kernel_rfl) rfl #[.agg #[.int .i64 a0_0, .slice A0_1 l0_1.length c0_1]] (by rfl) rfl rfl (by (try simp only [List.map_toArray, List.map_cons, List.map_nil]); first | done | rfl) ?_
 (with_reducible refine (laws_toKernel.calls k a0_0 _ _ l0_1 t12 t13 _ ?side1 ?side2 E8.out).mono ?_)
 (case side1 => exact Kd.C_below HR0_1.out HB.out)
 (case side2 => exact HC0_1.out)
 rintro e w_10 ⟨vR14, rfl, hoR14, hb⟩
 refine ⟨_, rfl, ?_⟩
 obtain ⟨loR14, hloR14⟩ : ∃ n_ : Nat, n_ = w_9.heap.size := ⟨_, rfl⟩
 obtain ⟨hiR14, hhiR14⟩ : ∃ n_ : Nat, n_ = w_10.heap.size := ⟨_, rfl⟩
 have n0_ := Aside0.mk (Kd.R_below HOR5.out hb)
 have n1_ := Aside0.mk (Kd.R_below HOR9.out hb)
 have n2_ := Aside0.mk (Nat.le_trans UPR5.out hb.size)
 have n3_ := Aside0.mk (Nat.le_trans UPR9.out hb.size)
 have n4_ := Aside0.mk (blk_below (g := gb1) BKgb1.out hb)
 have n5_ := Aside0.mk (blk_below (g := gb10) BKgb10.out hb)
 have n6_ := Aside0.mk (Nat.lt_of_lt_of_le GUgb1.out hb.size)
 have n7_ := Aside0.mk (Nat.lt_of_lt_of_le GUgb10.out hb.size)
 have n8_ := Aside0.mk (below_step HB.out hb)
 have n9_ := Aside0.mk (Kd.R_lower (Kd.R_mono (ok' := fun k_ => loR14 ≤ k_ ∧ k_ < hiR14) (Kd.R_bound hoR14) (fun k_ hk_ => ⟨by rw [hloR14]; exact hk_.2.1, by rw [hhiR14]; exact hk_.2.2.1⟩)) (below_size HB.out))
 have n10_ := Aside0.mk (by rw [hhiR14]; exact Nat.le_refl _ : hiR14 ≤ w_10.heap.size)
 have n11_ := Aside0.mk (fun k_ h1_ h2_ => by have := UPR5.out; rw [← hloR14] at this; omega : ∀ k_, loR5 ≤ k_ ∧ k_ < hiR5 → ¬ (loR14 ≤ k_ ∧ k_ < hiR14))
 have n12_ := Aside0.mk (fun k_ h1_ h2_ => by have := UPR5.out; rw [← hloR14] at this; omega : ∀ k_, loR14 ≤ k_ ∧ k_ < hiR14 → ¬ (loR5 ≤ k_ ∧ k_ < hiR5))
 have n13_ := Aside0.mk (fun k_ h1_ h2_ => by have := UPR9.out; rw [← hloR14] at this; omega : ∀ k_, loR9 ≤ k_ ∧ k_ < hiR9 → ¬ (loR14 ≤ k_ ∧ k_ < hiR14))
 have n14_ := Aside0.mk (fun k_ h1_ h2_ => by have := UPR9.out; rw [← hloR14] at this; omega : ∀ k_, loR14 ≤ k_ ∧ k_ < hiR14 → ¬ (loR9 ≤ k_ ∧ k_ < hiR9))
 have n15_ := Aside0.mk (fun k_ hk_ => by have := GUgb1.out; rw [← hloR14] at this; omega : ∀ k_, loR14 ≤ k_ ∧ k_ < hiR14 → k_ ≠ gb1)
 have n16_ := Aside0.mk (fun k_ hk_ => by have := GUgb10.out; rw [← hloR14] at this; omega : ∀ k_, loR14 ≤ k_ ∧ k_ < hiR14 → k_ ≠ gb10)
 clear HOR5
 clear HOR9
 clear UPR5
 clear UPR9
 clear BKgb1
 clear BKgb10
 clear GUgb1
 clear GUgb10
 clear HB
 have HOR5 := n0_
 have HOR9 := n1_
 have UPR5 := n2_
 have UPR9 := n3_
 have BKgb1 := n4_
 have BKgb10 := n5_
 have GUgb1 := n6_
 have GUgb10 := n7_
 have HB := n8_
 have HOR14 := n9_
 have UPR14 := n10_
 have NRR5_R14 := n11_
 have NRR14_R5 := n12_
 have NRR9_R14 := n13_
 have NRR14_R9 := n14_
 have NER14_gb1 := n15_
 have NER14_gb10 := n16_
 clear n0_ n1_ n2_ n3_ n4_ n5_ n6_ n7_ n8_ n9_ n10_ n11_ n12_ n13_ n14_ n15_ n16_
 clear hb
 clear hoR14 hloR14 hhiR14
 obtain ⟨AR14, cR14, eqR14⟩ := Kd.R_slice HOR14.out
 subst eqR14
 refine hK.out _ _ ⟨(blk_cell BKgb10.out 0).trans rfl, (blk_cell BKgb10.out 1).trans rfl, (blk_cell BKgb1.out 0).trans rfl, (blk_cell BKgb1.out 1).trans rfl⟩ (fun hHeld => ?_)
 clear hK K
 refine norm_ (a' := ?_) ?_ ?_
 rotate_left
 ·show Act.put _ (some 24) _ = _
  simp only [Act.put, List.setIfInBounds_toArray, List.set_cons_zero, List.set_cons_succ, i64_w, i32_w]
  rfl
 refine one_ (i := 3) (N := some 25) #[true, true, true, true, false] rfl rfl (by kernel_rfl) (by decide) (fun K hK => ?_)
 refine goes_ Try.func17 (by kernel_rfl) rfl #[.agg #[.int .i64 t7, .slice AR9 t8.length cR9], .agg #[.int .i64 t12, .slice AR14 t13.length cR14]] (by rfl) rfl rfl (by (try simp only [List.map_toArray, List.map_cons, List.map_nil]); first | done | rfl) ?_
 (with_reducible refine (laws_eqKernel.calls k t7 _ _ t8 t12 _ _ t13 true _ ?side1 ?side2 ?side3 ?side4 E9.out).mono ?_)
 (case side1 => exact (Kd.R_reads' HOR9.out).2.2)
 (case side2 => exact (Kd.R_reads' HOR9.out).2.1)
 (case side3 => exact (Kd.R_reads' HOR14.out).2.2)
 (case side4 => exact (Kd.R_reads' HOR14.out).2.1)
 rintro e w_11 ⟨rfl, hb⟩
 refine ⟨_, rfl, ?_⟩
 have n0_ := Aside0.mk (Kd.R_below HOR5.out hb)
 have n1_ := Aside0.mk (Kd.R_below HOR9.out hb)
 have n2_ := Aside0.mk (Kd.R_below HOR14.out hb)
 have n3_ := Aside0.mk (Nat.le_trans UPR5.out hb.size)
 have n4_ := Aside0.mk (Nat.le_trans UPR9.out hb.size)
 have n5_ := Aside0.mk (Nat.le_trans UPR14.out hb.size)
 have n6_ := Aside0.mk (blk_below (g := gb1) BKgb1.out hb)
 have n7_ := Aside0.mk (blk_below (g := gb10) BKgb10.out hb)
 have n8_ := Aside0.mk (Nat.lt_of_lt_of_le GUgb1.out hb.size)
 have n9_ := Aside0.mk (Nat.lt_of_lt_of_le GUgb10.out hb.size)
 have n10_ := Aside0.mk (below_step HB.out hb)
 clear HOR5
 clear HOR9
 clear HOR14
 clear UPR5
 clear UPR9
 clear UPR14
 clear BKgb1
 clear BKgb10
 clear GUgb1
 clear GUgb10
 clear HB
 have HOR5 := n0_
 have HOR9 := n1_
 have HOR14 := n2_
 have UPR5 := n3_
 have UPR9 := n4_
 have UPR14 := n5_
 have BKgb1 := n6_
 have BKgb10 := n7_
 have GUgb1 := n8_
 have GUgb10 := n9_
 have HB := n10_
 clear n0_ n1_ n2_ n3_ n4_ n5_ n6_ n7_ n8_ n9_ n10_
 clear hb
 refine hK.out _ _ ⟨(blk_cell BKgb10.out 0).trans rfl, (blk_cell BKgb10.out 1).trans rfl, (blk_cell BKgb1.out 0).trans rfl, (blk_cell BKgb1.out 1).trans rfl⟩ (fun hHeld => ?_)
 clear hK K
 refine norm_ (a' := ?_) ?_ ?_
 rotate_left
 ·show Act.put _ (some 25) _ = _
  simp only [Act.put, List.setIfInBounds_toArray, List.set_cons_zero, List.set_cons_succ, i64_w, i32_w]
  rfl
 refine pure_ (i := 4) (N := some 26) (v := ?_) (a' := ?_) #[true, true, true, true, true] rfl rfl (by kernel_rfl) (fun _ _ _ h => h) (Or.inl ⟨by rfl, ?_⟩) ?_ ?_
 rotate_left
 ·intro w'
  go_simp
  with_reducible rfl
 rotate_left
 ·simp only [Act.put, List.setIfInBounds_toArray, List.set_cons_zero, List.set_cons_succ, i64_w, i32_w]
  rfl
 refine done_ (by kernel_rfl) ?_
 (try clear hczgb1_0)
 (try clear hfzgb1_0)
 (try clear hczgb1_1)
 (try clear hfzgb1_1)
 (try clear hczgb10_0)
 (try clear hfzgb10_0)
 (try clear hczgb10_1)
 (try clear hfzgb10_1)
 have hczgb1_0 : w_11.cell? ⟨gb1, 0, none⟩ = some (.int .i64 a0_0) := (blk_cell BKgb1.out 0).trans rfl
 have hfzgb1_0 := blk_frozen BKgb1.out 0
 have hczgb1_1 : w_11.cell? ⟨gb1, 1, none⟩ = some (.slice A0_1 l0_1.length c0_1) := (blk_cell BKgb1.out 1).trans rfl
 have hfzgb1_1 := blk_frozen BKgb1.out 1
 have hczgb10_0 : w_11.cell? ⟨gb10, 0, none⟩ = some (.int .i64 t7) := (blk_cell BKgb10.out 0).trans rfl
 have hfzgb10_0 := blk_frozen BKgb10.out 0
 have hczgb10_1 : w_11.cell? ⟨gb10, 1, none⟩ = some (.slice AR9 t8.length cR9) := (blk_cell BKgb10.out 1).trans rfl
 have hfzgb10_1 := blk_frozen BKgb10.out 1
 try go_wp2
 go_ret
 exact ⟨by first | rfl | (simp; done) | (simp [*]; done), HB.out⟩
theorem laws_FnExactValidKernel.walk (P : laws_FnExactValidKernel.Pure) (a0_0 : Int) (A0_1 : Option Addr) (c0_1 : Nat) (l0_1 : List S111) (w : World) (hr0_1 : Kd.C k111 w A0_1 l0_1.length l0_1) (hc0_1 : l0_1.length ≤ c0_1) (w0_0 : (Lit.int .i64 a0_0).wf = true) (w0_1 : (l0_1.length ≤ maxLen ∧ ∀ y ∈ l0_1, ((Lit.int .i64 y.f0).wf = true ∧ (Lit.int .i64 y.f1).wf = true ∧ (Lit.int .i64 y.f2).wf = true))) :
  Calls Try.prog 4 #[.agg #[.int .i64 a0_0, .slice A0_1 l0_1.length c0_1]] w fun e w' => e = .returned (.bool true) ∧ Below w.heap.size w w' := by
 obtain ⟨k, h⟩ := P a0_0 l0_1 w0_0 w0_1
 exact laws_FnExactValidKernel.calls k a0_0 A0_1 c0_1 l0_1 w hr0_1 hc0_1 h
end Go.Proofs.Ytgndemjphjhahaa.Q
namespace Go.Proofs.Ytgndemjphjhahaa.Com
open Go.RowKit Go.Proofs.YtgndemjphjhahaaW.PrintWords
theorem w64 {x : Int} (h1 : -9223372036854775808 ≤ x) (h2 : x ≤ 9223372036854775807) : wrap64 x = x := by
 unfold wrap64
 omega
theorem ev_of {α : Type} {g : Nat → Option α} {r : α} (h : Ev g r) : ∃ k, g k = some r := h.rounds
theorem ev_bind' {α β : Type} {o : Option α} {f : Nat → α → Option β} {a : α} {r : β} (h : o = some a) (k : Ev (fun n => f n a) r) : Ev (fun n => o.bind (f n)) r := by
 subst h
 exact k
end Go.Proofs.Ytgndemjphjhahaa.Com
namespace Go.Proofs.Ytgndemjphjhahaa.Com
set_option linter.unusedSimpArgs false
set_option linter.unusedVariables false
open Go.RowKit Go.Proofs.YtgndemjphjhahaaW.PrintWords
theorem ev_fold {α σ ρ : Type} (xs : List α) (g : Nat → σ → Nat → Option ρ) (F : List α → σ → ρ) (Inv : Nat → σ → Prop)
  (h0 : ∀ s, Inv xs.length s → Ev (g xs.length s) (F [] s))
  (hs : ∀ m (h : m < xs.length) s, Inv m s → (∀ s', Inv (m + 1) s' → Ev (g (m + 1) s') (F (xs.drop (m + 1)) s')) → Ev (g m s) (F (xs[m] :: xs.drop (m + 1)) s)) :
  ∀ m s, m ≤ xs.length → Inv m s → Ev (g m s) (F (xs.drop m) s) := by
 have key : ∀ d m s, m + d = xs.length → Inv m s → Ev (g m s) (F (xs.drop m) s) := by
  intro d
  induction d with
  | zero =>
   intro m s e hi
   obtain rfl : m = xs.length := by omega
   rw [List.drop_length]
   exact h0 s hi
  | succ d ih =>
   intro m s e hi
   have h : m < xs.length := by omega
   rw [List.drop_eq_getElem_cons h]
   exact hs m h s hi (fun s' hi' => ih (m + 1) s' (by omega) hi')
 intro m s hm hi
 exact key (xs.length - m) m s (by omega) hi
theorem ev_list {α ρ : Type} (xs : List α) (g : Nat → Nat → Option ρ) (F : List α → ρ) (h0 : Ev (g xs.length) (F []))
  (hs : ∀ m (h : m < xs.length), Ev (g (m + 1)) (F (xs.drop (m + 1))) → Ev (g m) (F (xs[m] :: xs.drop (m + 1)))) (m : Nat) (hm : m ≤ xs.length) : Ev (g m) (F (xs.drop m)) :=
 ev_fold xs (fun m (_ : Unit) => g m) (fun l _ => F l) (fun _ _ => True) (fun _ _ => h0) (fun m h _ _ ih => hs m h (ih () trivial)) m () hm trivial
theorem ev_count {σ ρ : Type} (n : Nat) (g : Nat → σ → Nat → Option ρ) (r : ρ) (Inv : Nat → σ → Prop) (h0 : ∀ s, Inv n s → Ev (g n s) r)
  (hs : ∀ m s, m < n → Inv m s → ∃ s', Inv (m + 1) s' ∧ (Ev (g (m + 1) s') r → Ev (g m s) r)) : ∀ m s, m ≤ n → Inv m s → Ev (g m s) r := by
 have key : ∀ d m s, m + d = n → Inv m s → Ev (g m s) r := by
  intro d
  induction d with
  | zero =>
   intro m s e hi
   obtain rfl : m = n := by omega
   exact h0 s hi
  | succ d ih =>
   intro m s e hi
   obtain ⟨s', hi', k⟩ := hs m s (by omega) hi
   exact k (ih (m + 1) s' (by omega) hi')
 intro m s hm hi
 exact key (n - m) m s (by omega) hi
theorem w_succ {m : Nat} (h : m < 9223372036854775807) : wrap64 ((m : Int) + 1) = ((m + 1 : Nat) : Int) := by
 rw [w64 (by omega) (by omega)]
 omega
end Go.Proofs.Ytgndemjphjhahaa.Com
namespace Go.Proofs.Ytgndemjphjhahaa.Com
set_option linter.unusedSimpArgs false
set_option linter.unusedVariables false
open Go.RowKit Go.Proofs.YtgndemjphjhahaaW.PrintWords Go.Proofs.Ytgndemjphjhahaa.Q
theorem within_tells (x a b : Int) : impl_within.f x a b = some (decide (a ≤ x ∧ x ≤ b)) := by
 unfold impl_within.f
 split <;> simp [*]
theorem in_tells (x a b : Int) : spec_l00In.f x a b = some (decide (a ≤ x ∧ x ≤ b)) := by
 unfold spec_l00In.f
 by_cases h : x ≥ a
 ·have h' : a ≤ x := h
  simp [h, h']
 ·have h' : ¬ a ≤ x := h
  simp [h, h']
end Go.Proofs.Ytgndemjphjhahaa.Com
namespace Go.Proofs.Ytgndemjphjhahaa.Pure
set_option linter.unusedSimpArgs false
set_option linter.unusedVariables false
open Go.RowKit Go.Proofs.Ytgndemjphjhahaa.Q Go.Proofs.YtgndemjphjhahaaW.PrintWords Go.Proofs.YtgndemjphjhahaaW.PrintLast Go.Proofs.Ytgndemjphjhahaa.Com
theorem rdk_nat {xs : List S77} {m : Nat} (h : m < xs.length) : rd_T77 xs (m : Int) = xs[m] := by
 unfold rd_T77
 rw [Int.toNat_natCast, List.getD_eq_getElem?_getD, List.getElem?_eq_getElem h]
 rfl
theorem rdk1_nat {xs : List S111} {m : Nat} (h : m < xs.length) : rd_T111 xs (m : Int) = xs[m] := by
 unfold rd_T111
 rw [Int.toNat_natCast, List.getD_eq_getElem?_getD, List.getElem?_eq_getElem h]
 rfl
def tapTo (x : S111) : S77 := ⟨x.f0, x.f1, x.f2⟩
theorem setk_take (xs : List S77) (m : Nat) (h : m < xs.length) : (xs.take m ++ List.replicate (xs.length - m) z77).set m xs[m] = xs.take (m + 1) ++ List.replicate (xs.length - (m + 1)) z77 := by
 have hl : (xs.take m).length = m := by rw [List.length_take]; omega
 rw [List.set_append_right _ _ (by omega), hl, Nat.sub_self]
 obtain ⟨q, hq⟩ : ∃ q, xs.length - m = q + 1 := ⟨xs.length - m - 1, by omega⟩
 rw [hq, List.replicate_succ, List.set_cons_zero, show xs.length - (m + 1) = q by omega, List.take_succ_eq_append_getElem h, List.append_assoc]
 rfl
theorem toTapS_ev (l : List S111) (hx : l.length ≤ 1048576) : Ev (fun k => laws_toTapS.f k l) (l.map tapTo) := by
 unfold laws_toTapS.f
 have hn : (l.map tapTo).length = l.length := List.length_map ..
 simp only [if_pos (show 0 ≤ (l.length : Int) by omega), if_pos (show ((l.length : Int)).toNat ≤ 11728124029610 by omega)]
 have := ev_count l.length (fun m s k => laws_toTapS.l0 k l s (m : Int)) (l.map tapTo) (fun m s => s = (l.map tapTo).take m ++ List.replicate ((l.map tapTo).length - m) z77) (fun s hs => ?_) (fun m s hm hs => ⟨(l.map tapTo).take (m + 1) ++ List.replicate ((l.map tapTo).length - (m + 1)) z77, rfl, fun ih => ?_⟩) 0 (List.replicate l.length z77) (by omega) (by simp)
 ·simpa using this
 ·refine Ev.step (fun k => by rw [laws_toTapS.l0]) ?_
  simp only [if_neg (show ¬ (l.length : Int) < (l.length : Int) by omega)]
  subst hs
  rw [hn, Nat.sub_self, List.replicate_zero, List.append_nil, ← hn, List.take_length]
  exact Ev.now _
 ·refine Ev.step (fun k => by rw [laws_toTapS.l0]) ?_
  subst hs
  have hl : ((l.map tapTo).take m ++ List.replicate ((l.map tapTo).length - m) z77).length = l.length := by simp; omega
  have hm' : m < (l.map tapTo).length := by omega
  have e : (⟨l[m].f0, l[m].f1, l[m].f2⟩ : S77) = (l.map tapTo)[m] := by rw [List.getElem_map]; rfl
  simp only [if_pos (show (m : Int) < (l.length : Int) by omega), if_pos (show 0 ≤ (m : Int) by omega), hl, rdk1_nat hm, w_succ (m := m) (by omega), laws_toTap.f, Option.bind_some, Int.toNat_natCast, e, setk_take _ m hm']
  exact ih
theorem toKernel_ev (a : Int) (l : List S111) (hx : l.length ≤ 1048576) : Ev (fun k => laws_toKernel.f k a l) (a, l.map tapTo) := by
 unfold laws_toKernel.f
 exact Ev.bind (toTapS_ev l hx) (Ev.now _)
theorem eqKernel_ev (a : Int) (l : List S77) (hx : l.length ≤ 1048576) : Ev (fun k => laws_eqKernel.f k a l a l) true := by
 unfold laws_eqKernel.f laws_eqTapS.f
 simp only [if_true]
 refine Ev.bind (a := true) ?_ (by simp only [if_true]; exact Ev.now _)
 have gen := ev_list l (fun m k => laws_eqTapS.l0 k l l (m : Int)) (fun _ => true) ?_ ?_ 0 (by omega)
 ·exact gen
 ·refine Ev.step (fun k => by rw [laws_eqTapS.l0]) ?_
  simp only [if_neg (show ¬ (l.length : Int) < (l.length : Int) by omega)]
  exact Ev.now _
 ·intro m hm ih
  refine Ev.step (fun k => by rw [laws_eqTapS.l0]) ?_
  simp only [if_pos (show (m : Int) < (l.length : Int) by omega), if_pos (show 0 ≤ (m : Int) by omega), rdk_nat hm, w_succ (m := m) (by omega), laws_eqTap.f, if_true, Option.bind_some]
  exact ih
theorem szKernel_tells (a : Int) (l : List S111) (hx : l.length ≤ maxLen) : (laws_szKernel.f a l 1048576 = some (-1)) ∨ (∃ t, laws_szKernel.f a l 1048576 = some t ∧ 0 ≤ t ∧ l.length ≤ 1048576) := by
 unfold laws_szKernel.f laws_szTapS.f
 unfold maxLen at hx
 rw [w64 (x := 1048576 - (l.length : Int)) (by omega) (by omega)]
 by_cases c : 1048576 - (l.length : Int) < 0
 ·left
  simp [c]
 ·right
  refine ⟨1048576 - (l.length : Int), ?_, by omega, by omega⟩
  simp [c]
def dupIn (pre : List S77) (x : S77) : Bool := pre.any fun y => y.f0 == x.f0 && y.f1 == x.f1
def tapOk (P : Int) (x : S77) : Prop := (0 ≤ x.f0 ∧ x.f0 ≤ 2) ∧ (-2 ≤ x.f1 ∧ x.f1 ≤ 2) ∧ ¬ (x.f0 < 1 ∧ x.f1 < 1) ∧ (1 ≤ x.f2 ∧ x.f2 ≤ P)
instance (P : Int) (x : S77) : Decidable (tapOk P x) := by unfold tapOk; infer_instance
def run (B P : Int) : List S77 → List S77 → Int → Bool
 | [], _, s => decide (s ≤ P)
 | x :: r, pre, s => if tapOk B x ∧ dupIn pre x = false then run B P r (pre ++ [x]) (s + x.f2) else false
theorem run_le (B P : Int) (r : List S77) : ∀ pre s, run B P r pre s = true → s ≤ P := by
 induction r with
 | nil => intro pre s h; unfold run at h; exact of_decide_eq_true h
 | cons x r ih =>
  intro pre s h
  unfold run at h
  by_cases c : tapOk B x ∧ dupIn pre x = false
  ·rw [if_pos c] at h
   have := ih _ _ h
   have := c.1.2.2.2.1
   omega
  ·rw [if_neg c] at h; cases h
theorem run_same (P : Int) (hP : P ≤ 64) (r : List S77) : ∀ pre s, 0 ≤ s → run P P r pre s = run 64 P r pre s := by
 induction r with
 | nil => intro pre s _; rfl
 | cons x r ih =>
  intro pre s hs
  unfold run
  by_cases c : tapOk 64 x ∧ dupIn pre x = false
  ·rw [if_pos c]
   by_cases d : x.f2 ≤ P
   ·have c1 := c.1
    rw [if_pos ⟨⟨c1.1, c1.2.1, c1.2.2.1, c1.2.2.2.1, d⟩, c.2⟩]
    have := c1.2.2.2.1
    exact ih _ _ (by omega)
   ·rw [if_neg (fun h => d h.1.2.2.2.2)]
    cases h : run 64 P r (pre ++ [x]) (s + x.f2) with
    | false => rfl
    | true => have := run_le _ _ _ _ _ h; omega
  ·rw [if_neg c, if_neg]
   rintro ⟨h1, h2⟩
   refine c ⟨⟨h1.1, h1.2.1, h1.2.2.1, h1.2.2.2.1, ?_⟩, h2⟩
   have := h1.2.2.2.2
   omega
section
variable {l : List S77} (P : Int) (hl : l.length ≤ 12)
include hl
theorem dup_ev (m : Nat) (hm : m < l.length) (s a b c : Int) (r : Bool) (ih : Ev (fun k => spec_l09Kernel.l0 k (wrap64 (s + c)) (wrap64 ((m : Int) + 1)) P l) r) :
  Ev (fun k => spec_l09Kernel.l1 k s (m : Int) 0 P l a b c) (if (l.take m).any (fun y => y.f0 == a && y.f1 == b) then false else r) := by
 have hlen : (l.take m).length = m := by rw [List.length_take]; omega
 have gen := ev_list (l.take m) (fun j k => spec_l09Kernel.l1 k s (m : Int) (j : Int) P l a b c) (fun d => if d.any (fun y => y.f0 == a && y.f1 == b) then false else r) ?_ ?_ 0 (by omega)
 ·exact gen
 ·rw [hlen]
  refine Ev.step (fun k => by rw [spec_l09Kernel.l1]) ?_
  simp only [if_neg (show ¬ (m : Int) < (m : Int) by omega), List.any_nil, Bool.false_eq_true, if_false]
  exact ih
 ·intro j hj ih'
  have hj' : j < m := by omega
  refine Ev.step (fun k => by rw [spec_l09Kernel.l1]) ?_
  have hjl : j < l.length := by omega
  have e : (l.take m)[j] = l[j] := List.getElem_take ..
  simp only [if_pos (show (j : Int) < (m : Int) by omega), if_pos (show 0 ≤ (j : Int) by omega), if_pos (show (j : Int) < (l.length : Int) by omega), rdk_nat hjl, w_succ (m := j) (by omega), e, List.any_cons]
  by_cases q1 : l[j].f0 = a
  ·by_cases q2 : l[j].f1 = b
   ·simp only [if_pos q1, if_pos q2, beq_iff_eq.mpr q1, beq_iff_eq.mpr q2, Bool.and_self, Bool.true_or, if_true]
    exact Ev.now _
   ·simp only [if_pos q1, if_neg q2, beq_eq_false_iff_ne.mpr q2, Bool.and_false, Bool.false_or]
    exact ih'
  ·simp only [if_neg q1, beq_eq_false_iff_ne.mpr q1, Bool.false_and, Bool.false_or]
   exact ih'
theorem specKern_ev (hP : 1 ≤ P ∧ P ≤ 64) : Ev (fun k => spec_l09Kernel.l0 k 0 0 P l) (run P P l [] 0) := by
 have gen := ev_fold l (fun m (s : Int) k => spec_l09Kernel.l0 k s (m : Int) P l) (fun d s => run P P d (l.take (l.length - d.length)) s) (fun m s => 0 ≤ s ∧ s ≤ 64 * (m : Int)) ?_ ?_ 0 0 (by omega) (by omega)
 ·simpa using gen
 ·intro s _
  refine Ev.step (fun k => by rw [spec_l09Kernel.l0]) ?_
  simp only [if_neg (show ¬ (l.length : Int) < (l.length : Int) by omega)]
  exact Ev.now _
 ·intro m hm s hs ih
  refine Ev.step (fun k => by rw [spec_l09Kernel.l0]) ?_
  have hd : (l.drop (m + 1)).length = l.length - (m + 1) := List.length_drop ..
  have t1 : l.length - (l[m] :: l.drop (m + 1)).length = m := by rw [List.length_cons, hd]; omega
  have t2 : l.length - (l.drop (m + 1)).length = m + 1 := by rw [hd]; omega
  rw [t1]
  rw [t2] at ih
  simp only [if_pos (show (m : Int) < (l.length : Int) by omega), if_pos (show 0 ≤ (m : Int) by omega), rdk_nat hm, in_tells, Option.bind_some, decide_eq_true_eq]
  have tk : l.take m ++ [l[m]] = l.take (m + 1) := (List.take_succ_eq_append_getElem hm).symm
  have dup := dup_ev P hl m hm s l[m].f0 l[m].f1 l[m].f2
  have jt : Ev (fun k => spec_l09Kernel.j2 k s (m : Int) true P l l[m].f0 l[m].f1 l[m].f2) false := Ev.step (fun k => by rw [spec_l09Kernel.j2]) (by simp only [if_true]; exact Ev.now _)
  unfold run
  rw [tk]
  generalize l[m] = x at dup jt ⊢
  by_cases q1 : 0 ≤ x.f0 ∧ x.f0 ≤ 2
  ·simp only [if_pos q1]
   by_cases q2 : -2 ≤ x.f1 ∧ x.f1 ≤ 2
   ·simp only [if_pos q2]
    have rest : ∀ (h : ¬ (x.f0 < 1 ∧ x.f1 < 1)), Ev (fun k => spec_l09Kernel.j2 k s (m : Int) (!decide (1 ≤ x.f2 ∧ x.f2 ≤ P)) P l x.f0 x.f1 x.f2) (if tapOk P x ∧ dupIn (l.take m) x = false then run P P (l.drop (m + 1)) (l.take (m + 1)) (s + x.f2) else false) := by
     intro h
     by_cases q3 : 1 ≤ x.f2 ∧ x.f2 ≤ P
     ·rw [decide_eq_true q3]
      refine Ev.step (fun k => by rw [spec_l09Kernel.j2]) ?_
      simp only [Bool.not_true, Bool.false_eq_true, if_false]
      have ok : tapOk P x := ⟨q1, q2, h, q3⟩
      have := dup (run P P (l.drop (m + 1)) (l.take (m + 1)) (s + x.f2)) (by rw [w64 (x := s + x.f2) (by omega) (by omega), w_succ (m := m) (by omega)]; exact ih _ (by omega))
      cases hd : dupIn (l.take m) x with
      | true => unfold dupIn at hd; rw [hd] at this; simpa using this
      | false => unfold dupIn at hd; rw [hd] at this; simpa [ok] using this
     ·rw [decide_eq_false q3, if_neg (fun h => q3 h.1.2.2.2)]
      exact jt
    by_cases z : x.f0 = 0
    ·simp only [if_pos z]
     by_cases z2 : x.f1 < 1
     ·simp only [if_pos z2]
      rw [if_neg (fun h => h.1.2.2.1 ⟨by omega, z2⟩)]
      exact jt
     ·simp only [if_neg z2]
      exact rest (fun h => z2 h.2)
    ·simp only [if_neg z]
     exact rest (fun h => by omega)
   ·simp only [if_neg q2]
    rw [if_neg (fun h => q2 h.1.2.1)]
    exact jt
  ·simp only [if_neg q1]
   rw [if_neg (fun h => q1 h.1.1)]
   exact jt
theorem implKern_ev (hP : 1 ≤ P ∧ P ≤ 64) : Ev (fun k => impl_ValidKernel.l0 k 0 l (l.length : Int) 0 P l) (run 64 P l [] 0) := by
 have gen := ev_fold l (fun m (s : Int) k => impl_ValidKernel.l0 k s l (l.length : Int) (m : Int) P l) (fun d s => run 64 P d (l.take (l.length - d.length)) s) (fun m s => 0 ≤ s ∧ s ≤ 64 * (m : Int)) ?_ ?_ 0 0 (by omega) (by omega)
 ·simpa using gen
 ·intro s _
  refine Ev.step (fun k => by rw [impl_ValidKernel.l0]) ?_
  simp only [if_neg (show ¬ (l.length : Int) < (l.length : Int) by omega)]
  exact Ev.now _
 ·intro m hm s hs ih
  refine Ev.step (fun k => by rw [impl_ValidKernel.l0]) ?_
  have hd : (l.drop (m + 1)).length = l.length - (m + 1) := List.length_drop ..
  have t1 : l.length - (l[m] :: l.drop (m + 1)).length = m := by rw [List.length_cons, hd]; omega
  have t2 : l.length - (l.drop (m + 1)).length = m + 1 := by rw [hd]; omega
  rw [t1]
  rw [t2] at ih
  simp only [if_pos (show (m : Int) < (l.length : Int) by omega), if_pos (show 0 ≤ (m : Int) by omega), if_pos (show (m : Int) ≤ (l.length : Int) by omega), rdk_nat hm, within_tells, impl_Tap_66.f, Int.toNat_natCast, Option.bind_some, decide_eq_true_eq]
  have tk : l.take m ++ [l[m]] = l.take (m + 1) := (List.take_succ_eq_append_getElem hm).symm
  unfold run
  rw [tk]
  generalize l[m] = x
  by_cases q0 : dupIn (l.take m) x = true
  ·have q0' := q0
   unfold dupIn at q0'
   simp only [if_pos q0']
   rw [if_neg (fun h => by rw [q0] at h; exact absurd h.2 (by decide))]
   exact Ev.now _
  ·have q0' := q0
   unfold dupIn at q0'
   simp only [if_neg q0']
   have q0f : dupIn (l.take m) x = false := by simpa using q0
   by_cases q1 : 0 ≤ x.f0 ∧ x.f0 ≤ 2
   ·simp only [if_pos q1]
    by_cases q2 : -2 ≤ x.f1 ∧ x.f1 ≤ 2
    ·simp only [if_pos q2]
     have rest : ∀ (h : ¬ (x.f0 < 1 ∧ x.f1 < 1)), Ev (fun k => if 1 ≤ x.f2 ∧ x.f2 ≤ 64 then impl_ValidKernel.l0 k (wrap64 (s + x.f2)) l (l.length : Int) (wrap64 ((m : Int) + 1)) P l else some false) (if tapOk 64 x ∧ dupIn (l.take m) x = false then run 64 P (l.drop (m + 1)) (l.take (m + 1)) (s + x.f2) else false) := by
      intro h
      by_cases q3 : 1 ≤ x.f2 ∧ x.f2 ≤ 64
      ·have ok : tapOk 64 x := ⟨q1, q2, h, q3⟩
       simp only [if_pos q3]
       rw [if_pos ⟨ok, q0f⟩, w64 (x := s + x.f2) (by omega) (by omega), w_succ (m := m) (by omega)]
       exact ih _ (by omega)
      ·simp only [if_neg q3]
       rw [if_neg (fun h => q3 h.1.2.2.2)]
       exact Ev.now _
     by_cases z : x.f0 < 1
     ·simp only [if_pos z]
      by_cases z2 : x.f1 < 1
      ·simp only [if_pos z2]
       rw [if_neg (fun h => h.1.2.2.1 ⟨z, z2⟩)]
       exact Ev.now _
      ·simp only [if_neg z2]
       exact rest (fun h => z2 h.2)
     ·simp only [if_neg z]
      exact rest (fun h => z h.1)
    ·simp only [if_neg q2]
     rw [if_neg (fun h => q2 h.1.2.1)]
     exact Ev.now _
   ·simp only [if_neg q1]
    rw [if_neg (fun h => q1 h.1.1)]
    exact Ev.now _
end
def kern (P : Int) (l : List S77) : Bool := if 1 ≤ P ∧ P ≤ 64 then if l.length ≤ 12 then run 64 P l [] 0 else false else false
theorem specKernel_ev (P : Int) (l : List S77) : Ev (fun k => spec_ValidKernel.f k P l) (kern P l) := by
 unfold spec_ValidKernel.f spec_l09Kernel.f kern
 refine Ev.bind (a := kern P l) ?_ (Ev.now _)
 unfold kern
 refine ev_bind' (in_tells _ _ _) ?_
 have no : Ev (fun k => spec_l09Kernel.j0 k true P l) false := Ev.step (fun k => by rw [spec_l09Kernel.j0]) (by simp only [if_true]; exact Ev.now _)
 by_cases hP : 1 ≤ P ∧ P ≤ 64
 ·simp only [decide_eq_true hP, if_true, if_pos hP]
  by_cases hl : l.length ≤ 12
  ·rw [decide_eq_false (show ¬ (l.length : Int) > 12 by omega), if_pos hl]
   refine Ev.step (fun k => by rw [spec_l09Kernel.j0]) ?_
   simp only [Bool.false_eq_true, if_false]
   rw [← run_same P hP.2 l [] 0 (by omega)]
   exact specKern_ev P hl hP
  ·rw [decide_eq_true (show (l.length : Int) > 12 by omega), if_neg hl]
   exact no
 ·simp only [decide_eq_false hP, Bool.false_eq_true, if_false, if_neg hP]
  exact no
theorem implKernel_ev (P : Int) (l : List S77) : Ev (fun k => impl_ValidKernel.f k P l) (kern P l) := by
 unfold impl_ValidKernel.f kern
 refine ev_bind' (within_tells _ _ _) ?_
 have no : Ev (fun k => impl_ValidKernel.j0 k true P l) false := Ev.step (fun k => by rw [impl_ValidKernel.j0]) (by simp only [if_true]; exact Ev.now _)
 by_cases hP : 1 ≤ P ∧ P ≤ 64
 ·simp only [decide_eq_true hP, if_true, if_pos hP]
  by_cases hl : l.length ≤ 12
  ·rw [decide_eq_false (show ¬ (l.length : Int) > 12 by omega), if_pos hl]
   refine Ev.step (fun k => by rw [impl_ValidKernel.j0]) ?_
   simp only [Bool.false_eq_true, if_false]
   exact implKern_ev P hl hP
  ·rw [decide_eq_true (show (l.length : Int) > 12 by omega), if_neg hl]
   exact no
 ·simp only [decide_eq_false hP, Bool.false_eq_true, if_false, if_neg hP]
  exact no
theorem FnExactValidKernel : laws_FnExactValidKernel.Pure := by
 intro a l _ hl
 apply ev_of
 unfold laws_FnExactValidKernel.f
 rcases szKernel_tells a l hl.1 with e | ⟨t, e, t0, hx⟩
 ·refine ev_bind' e ?_
  simp only [if_pos (show (-1 : Int) < 0 by omega)]
  exact Ev.now _
 refine ev_bind' e ?_
 simp only [if_neg (show ¬ t < 0 by omega)]
 have T := toKernel_ev a l hx
 refine Ev.bind T (Ev.bind (specKernel_ev a (l.map tapTo)) (Ev.bind T (Ev.bind (implKernel_ev a (l.map tapTo)) ?_)))
 simp only [if_true]
 refine Ev.bind T (Ev.bind (eqKernel_ev a (l.map tapTo) (by rw [List.length_map]; exact hx)) ?_)
 simp only [if_true]
 exact Ev.now _
end Go.Proofs.Ytgndemjphjhahaa.Pure
