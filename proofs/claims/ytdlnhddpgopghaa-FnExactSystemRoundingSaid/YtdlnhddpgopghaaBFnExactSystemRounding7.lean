/- The statement FnExactSystemRounding, with all that its proof stands on: functions of the program as plain functions, the program's walks, and the plain law. Conditions: none beyond the statement's own. -/
import Derived.ArgAppend
import Derived.Below
import Derived.BigQuiet
import Derived.BigRegion
import Derived.Deep.AppendLies
import Derived.Deep.CutBlock
import Derived.Deep.DeepCutAuto
import Derived.Deep.Draws
import Derived.Deep.LoopGhost
import Derived.Deep.OwnRows
import Derived.Deep.QuietTactic
import Derived.Deep.RegionHeld3
import Derived.Ground.SlgnProg
import Derived.KernelRfl
import Derived.Laws.BitsLemmas
import Derived.Laws.BytesArg
import Derived.Laws.IdiomCopy
import Derived.Laws.MakeOwn
import Derived.Laws.OwnMore
import Derived.Laws.Rows
import Derived.Laws.Slices
import Derived.Lib.AppendStr
import Derived.Lib.ConvBytes
import Derived.Maps.AppendAt
import Derived.OrdersHeld
import Derived.OwnWalk
import Derived.ProofKit
import Derived.RowKit
import Derived.RowKit3
import Derived.Shelf.SlicesE.Clone
import Derived.Shelf.SlicesE.Compact
import Derived.Shelf.SlicesE.Equal
import Derived.Shelf.Strconv.Itoa0
import Derived.Sort.OwnSortedInts
import Derived.Tactics
import Derived.Test.YtdlnhddpgopghaaProg
import Derived.WalkKit
import Derived.WideLaws
import Derived.Test.YtdlnhddpgopghaaBFnExactSystemRounding0
import Derived.Test.YtdlnhddpgopghaaBFnExactSystemRounding1
import Derived.Test.YtdlnhddpgopghaaBFnExactSystemRounding2
import Derived.Test.YtdlnhddpgopghaaBFnExactSystemRounding3
import Derived.Test.YtdlnhddpgopghaaBFnExactSystemRounding5
import Derived.Test.YtdlnhddpgopghaaBFnExactSystemRounding6
set_option linter.unusedVariables false
set_option linter.unusedSimpArgs false
namespace Go.Proofs.Ytdlnhddpgopghaa.Q
open Go.RowKit Go.Proofs.YtdlnhddpgopghaaW.PrintWords Go.Proofs.YtdlnhddpgopghaaW.PrintLast Go.Proofs.YtdlnhddpgopghaaW.PrintMore
attribute [local go_sem] max2_int min2_int max_two min_two max_three min_three max_four min_four   -- for this text's walks alone
set_option linter.unusedVariables false
set_option linter.unusedSimpArgs false
def laws_eqInt64S.l0 : Nat → List Int → List Int → Int → Option (Bool)
 | 0, _, _, _ => none
 | k + 1, x0, x1, x5 => if x5 < (x0.length : Int) then (if 0 ≤ x5 then (if x5 < (x1.length : Int) then (if (rd x0 x5) = (rd x1 x5) then (laws_eqInt64S.l0 k x0 x1 (wrap64 (x5 + 1))) else (some false)) else (none)) else (none)) else (some true)
def laws_eqInt64S.f (k : Nat) (l0 : List Int) (l1 : List Int) : Option (Bool) := if (l0.length : Int) = (l1.length : Int) then (laws_eqInt64S.l0 k l0 l1 0) else (some false)
theorem laws_eqInt64S.mono_l : ∀ k, (∀ y0 y1 y2, LeO (laws_eqInt64S.l0 k y0 y1 y2) (laws_eqInt64S.l0 (k + 1) y0 y1 y2))
 | 0 => fun _ _ _ r h => by simp [laws_eqInt64S.l0] at h
 | k + 1 => by
  have ih0 := laws_eqInt64S.mono_l k
  ·intro y0 y1 y2
   unfold laws_eqInt64S.l0
   repeat' first
   | (with_reducible exact ih0 _ _ _)
   | (with_reducible exact LeO.refl _)
   | (with_reducible exact LeO.none _)
   | (with_reducible refine LeO.ite ?_ ?_)
   | (with_reducible refine LeO.bind ?_ (fun _ => ?_))
   | exact ih0 _ _ _
   | exact LeO.none _
   | refine LeO.ite ?_ ?_
   | refine LeO.bind ?_ (fun _ => ?_)
theorem laws_eqInt64S.mono : ∀ a0 a1 k, LeO (laws_eqInt64S.f k a0 a1) (laws_eqInt64S.f (k + 1) a0 a1) := by
 intro a0 a1 k
 have ih0 := laws_eqInt64S.mono_l k
 unfold laws_eqInt64S.f
 repeat' first
   | (with_reducible exact ih0 _ _ _)
   | (with_reducible exact LeO.refl _)
   | (with_reducible exact LeO.none _)
   | (with_reducible refine LeO.ite ?_ ?_)
   | (with_reducible refine LeO.bind ?_ (fun _ => ?_))
   | exact ih0 _ _ _
   | exact LeO.none _
   | refine LeO.ite ?_ ?_
   | refine LeO.bind ?_ (fun _ => ?_)
set_option maxHeartbeats 8000000 in
set_option maxRecDepth 100000 in
theorem laws_eqInt64S.calls (k : Nat) (A0 : Option Addr) (c0 : Nat) (l0 : List Int) (A1 : Option Addr) (c1 : Nat) (l1 : List Int) (r : Bool) (w : World) (hr0 : Kd.C (Kd.int .i64) w A0 l0.length l0) (hc0 : l0.length ≤ c0) (hr1 : Kd.C (Kd.int .i64) w A1 l1.length l1) (hc1 : l1.length ≤ c1) (h : laws_eqInt64S.f k l0 l1 = some r) :
  Calls Try.prog 14 #[.slice A0 l0.length c0, .slice A1 l1.length c1] w fun e w' => e = .returned (.bool r) ∧ Drawn0 w w' := by
 have HR0 := Aside0.mk hr0
 have HC0 := Aside0.mk hc0
 clear hr0 hc0
 have HR1 := Aside0.mk hr1
 have HC1 := Aside0.mk hc1
 clear hr1 hc1
 have H : (if (l0.length : Int) = (l1.length : Int) then (laws_eqInt64S.l0 k l0 l1 0) else (some false)) = some r := h
 clear h
 by_cases c3 : (l0.length : Int) = (l1.length : Int)
 ·rw [if_pos c3] at H
  have c3b0 : ((l0.length : Int) == (l1.length : Int)) = true := beq_iff_eq.mpr c3
  have c3b1 : ((l0.length : Int) != (l1.length : Int)) = false := bne_eq_false_iff_eq.mpr c3
  have c3b2 : (l0.length == l1.length) = true := by first | simpa using c3 | (simp at c3 ⊢; omega)
  clear c3
  have H' := Aside0.mk H
  clear H
  go_enter Try.func14, Try.ntmps14
  go_wp2
  repeat (go_quiet (fail); try go_wp2)
  go_loopg [5] k (fun kq v5 w' => ∃ (x5_1 : Int), v5 = .int .i64 x5_1 ∧ Aside0 (laws_eqInt64S.l0 kq l0 l1 x5_1 = some r) ∧ Aside0 (kq ≤ k) ∧ Drawn0 w w')
  case atStart => exact ⟨(0), (by first | rfl | (simp; done) | (simp [*]; done)), H', ⟨Nat.le_refl _⟩, by repeat (first | exact Drawn0.refl _ | apply Drawn0.step)⟩
  case round =>
   clear H'
   try clear c1
   try clear p2
   try clear c3
   try clear c3b0
   try clear c3b1
   try clear c3b2
   obtain ⟨x5_1, rfl, HA, HK1, ⟨m1, rfl⟩⟩ := hrel
   cases gk with
   | zero => exact absurd HA.out (by simp [laws_eqInt64S.l0])
   | succ k1 =>
    have H := HA.out
    clear HA
    simp only [laws_eqInt64S.l0] at H
    by_cases c4 : x5_1 < (l0.length : Int)
    ·rw [if_pos c4] at H
     have c4b0 : decide (x5_1 < (l0.length : Int)) = true := decide_eq_true c4
     clear c4
     by_cases c5 : 0 ≤ x5_1
     ·rw [if_pos c5] at H
      have c5b0 : decide (0 ≤ x5_1) = true := decide_eq_true c5
      clear c5
      by_cases c6 : x5_1 < (l1.length : Int)
      ·rw [if_pos c6] at H
       have c6b0 : decide (x5_1 < (l1.length : Int)) = true := decide_eq_true c6
       clear c6
       by_cases c7 : (rd l0 x5_1) = (rd l1 x5_1)
       ·rw [if_pos c7] at H
        have c7b0 : ((rd l0 x5_1) == (rd l1 x5_1)) = true := beq_iff_eq.mpr c7
        have c7b1 : ((rd l0 x5_1) != (rd l1 x5_1)) = false := bne_eq_false_iff_eq.mpr c7
        clear c7
        have H' := Aside0.mk H
        clear H
        have p204 : 0 ≤ (x5_1 : Int) := of_decide_eq_true (by first | (with_reducible assumption) | assumption)
        have q204 : x5_1 < (l0.length : Int) := of_decide_eq_true (by first | (with_reducible assumption) | assumption)
        obtain ⟨ad204, e204, hx204_0⟩ := Kd.at_int HR0.out x5_1 p204 q204
        cases e204
        replace p204 := eq_true p204
        replace q204 := eq_true q204
        have p205 : 0 ≤ (x5_1 : Int) := of_decide_eq_true (by first | (with_reducible assumption) | assumption)
        have q205 : x5_1 < (l1.length : Int) := of_decide_eq_true (by first | (with_reducible assumption) | assumption)
        obtain ⟨ad205, e205, hx205_0⟩ := Kd.at_int HR1.out x5_1 p205 q205
        cases e205
        replace p205 := eq_true p205
        replace q205 := eq_true q205
        go_wp2
        repeat (go_quiet (fail); try go_wp2)
        go_roundg k1
        case measure => have := HK1.out; omega
        case rel => exact ⟨(wrap64 (x5_1 + 1)), (by first | rfl | (simp; done) | (simp [*]; done)), H', ⟨by have := HK1.out; omega⟩, by repeat (first | exact Drawn0.refl _ | apply Drawn0.step)⟩
       ·rw [if_neg c7] at H
        have c7b0 : ((rd l0 x5_1) == (rd l1 x5_1)) = false := beq_eq_false_iff_ne.mpr c7
        have c7b1 : ((rd l0 x5_1) != (rd l1 x5_1)) = true := bne_iff_ne.mpr c7
        obtain rfl := Option.some.inj H
        have p204 : 0 ≤ (x5_1 : Int) := of_decide_eq_true (by first | (with_reducible assumption) | assumption)
        have q204 : x5_1 < (l0.length : Int) := of_decide_eq_true (by first | (with_reducible assumption) | assumption)
        obtain ⟨ad204, e204, hx204_0⟩ := Kd.at_int HR0.out x5_1 p204 q204
        cases e204
        replace p204 := eq_true p204
        replace q204 := eq_true q204
        have p205 : 0 ≤ (x5_1 : Int) := of_decide_eq_true (by first | (with_reducible assumption) | assumption)
        have q205 : x5_1 < (l1.length : Int) := of_decide_eq_true (by first | (with_reducible assumption) | assumption)
        obtain ⟨ad205, e205, hx205_0⟩ := Kd.at_int HR1.out x5_1 p205 q205
        cases e205
        replace p205 := eq_true p205
        replace q205 := eq_true q205
        go_wp2
        repeat (go_quiet (fail); try go_wp2)
        go_ret
        exact ⟨by first | rfl | (simp; done) | (simp [*]; done), by repeat (first | exact Drawn0.refl _ | apply Drawn0.step)⟩
      ·rw [if_neg c6] at H
       exact absurd H (by simp)
     ·rw [if_neg c5] at H
      exact absurd H (by simp)
    ·rw [if_neg c4] at H
     have c4b0 : decide (x5_1 < (l0.length : Int)) = false := decide_eq_false c4
     clear c4
     obtain rfl := Option.some.inj H
     go_wp2
     repeat (go_quiet (fail); try go_wp2)
     go_ret
     exact ⟨by first | rfl | (simp; done) | (simp [*]; done), by repeat (first | exact Drawn0.refl _ | apply Drawn0.step)⟩
 ·rw [if_neg c3] at H
  have c3b0 : ((l0.length : Int) == (l1.length : Int)) = false := beq_eq_false_iff_ne.mpr c3
  have c3b1 : ((l0.length : Int) != (l1.length : Int)) = true := bne_iff_ne.mpr c3
  have c3b2 : (l0.length == l1.length) = false := by first | simpa using c3 | (simp at c3 ⊢; omega)
  obtain rfl := Option.some.inj H
  go_enter Try.func14, Try.ntmps14
  go_wp2
  repeat (go_quiet (fail); try go_wp2)
  go_ret
  exact ⟨by first | rfl | (simp; done) | (simp [*]; done), by repeat (first | exact Drawn0.refl _ | apply Drawn0.step)⟩
end Go.Proofs.Ytdlnhddpgopghaa.Q
namespace Go.Proofs.Ytdlnhddpgopghaa.Q
open Go.RowKit Go.Proofs.YtdlnhddpgopghaaW.PrintWords Go.Proofs.YtdlnhddpgopghaaW.PrintLast Go.Proofs.YtdlnhddpgopghaaW.PrintMore
attribute [local go_sem] max2_int min2_int max_two min_two max_three min_three max_four min_four   -- for this text's walks alone
set_option linter.unusedVariables false
set_option linter.unusedSimpArgs false
def laws_eqSystem.f (k : Nat) (a0_0 : Int) (l0_1 : List Int) (a1_0 : Int) (l1_1 : List Int) : Option (Bool) := if a0_0 = a1_0 then ((laws_eqInt64S.f k l0_1 l1_1).bind fun t208 => (if t208 = true then (some true) else (some false))) else (some false)
theorem laws_eqSystem.mono : ∀ a0 a1 a2 a3 k, LeO (laws_eqSystem.f k a0 a1 a2 a3) (laws_eqSystem.f (k + 1) a0 a1 a2 a3) := by
 intro a0 a1 a2 a3 k
 unfold laws_eqSystem.f
 repeat' first
   | (with_reducible exact laws_eqInt64S.mono _ _ _)
   | (with_reducible exact LeO.refl _)
   | (with_reducible exact LeO.none _)
   | (with_reducible refine LeO.ite ?_ ?_)
   | (with_reducible refine LeO.bind ?_ (fun _ => ?_))
   | exact laws_eqInt64S.mono _ _ _
   | exact LeO.none _
   | refine LeO.ite ?_ ?_
   | refine LeO.bind ?_ (fun _ => ?_)
set_option maxHeartbeats 8000000 in
set_option maxRecDepth 100000 in
theorem laws_eqSystem.calls (k : Nat) (a0_0 : Int) (A0_1 : Option Addr) (c0_1 : Nat) (l0_1 : List Int) (a1_0 : Int) (A1_1 : Option Addr) (c1_1 : Nat) (l1_1 : List Int) (r : Bool) (w : World) (hr0_1 : Kd.C (Kd.int .i64) w A0_1 l0_1.length l0_1) (hc0_1 : l0_1.length ≤ c0_1) (hr1_1 : Kd.C (Kd.int .i64) w A1_1 l1_1.length l1_1) (hc1_1 : l1_1.length ≤ c1_1) (h : laws_eqSystem.f k a0_0 l0_1 a1_0 l1_1 = some r) :
  Calls Try.prog 15 #[.agg #[.int .i64 a0_0, .slice A0_1 l0_1.length c0_1], .agg #[.int .i64 a1_0, .slice A1_1 l1_1.length c1_1]] w fun e w' => e = .returned (.bool r) ∧ Below w.heap.size w w' := by
 have hu31 := Try.underlying31
 have HR0_1 := Aside0.mk hr0_1
 have HC0_1 := Aside0.mk hc0_1
 clear hr0_1 hc0_1
 have HR1_1 := Aside0.mk hr1_1
 have HC1_1 := Aside0.mk hc1_1
 clear hr1_1 hc1_1
 have HB := Aside0.mk (Below.refl w.heap.size w)
 have H : (if a0_0 = a1_0 then ((laws_eqInt64S.f k l0_1 l1_1).bind fun t208 => (if t208 = true then (some true) else (some false))) else (some false)) = some r := h
 clear h
 by_cases c3 : a0_0 = a1_0
 ·rw [if_pos c3] at H
  have c3b0 : (a0_0 == a1_0) = true := beq_iff_eq.mpr c3
  have c3b1 : (a0_0 != a1_0) = false := bne_eq_false_iff_eq.mpr c3
  clear c3
  replace H := Option.bind_eq_some_iff.mp H
  obtain ⟨t208, A40, H⟩ := H
  replace H : (if t208 = true then (some true) else (some false)) = some r := H
  have A4 := Aside0.mk A40
  clear A40
  by_cases c5 : t208 = true
  ·subst c5
   have H1 : (some true) = some r := by rw [if_pos rfl] at H; exact H
   clear H
   have H := H1
   clear H1
   obtain rfl := Option.some.inj H
   go_enter Try.func15, Try.ntmps15
   go_wp2_with (first | ((with_reducible refine gate_dst (N := 2) rfl ?_); refine box_event ?hg (N := 2) ?hd (cs := #[.int .i64 a0_0, .slice A0_1 l0_1.length c0_1]) (t := 31) ?hr ?_; (case hd => rfl); (case hg => rfl); (case hr => first | (go_simp; done) | (go_simp; rfl)); intro gb206 hg w6 hbox hb; have n0_ := Aside0.mk (below_step (by repeat (first | (with_reducible first | exact HB.out | apply below_alloc | apply pw_below_drewN | apply below_drew1) | exact HB.out)) hb); have n1_ := Aside0.mk (hbox); have n2_ := Aside0.mk ((by rw [hg]; exact (below_size (by repeat (first | (with_reducible first | exact HB.out | apply below_alloc | apply pw_below_drewN | apply below_drew1) | exact HB.out))) : w.heap.size ≤ gb206)); have n3_ := Aside0.mk ((by rw [hg]; exact (below_size (by repeat (first | (with_reducible first | exact HB.out | apply below_alloc | apply pw_below_drewN | apply below_drew1) | exact HB.out))) : w.heap.size ≤ gb206)); clear HB; have HB := n0_; have BK206 := n1_; have GW206 := n2_; have GE206 := n3_; clear n0_ n1_ n2_ n3_; clear hb hbox hg) | ((with_reducible refine gate_dst (N := 3) rfl ?_); refine box_event ?hg (N := 3) ?hd (cs := #[.int .i64 a1_0, .slice A1_1 l1_1.length c1_1]) (t := 31) ?hr ?_; (case hd => rfl); (case hg => rfl); (case hr => first | (go_simp; done) | (go_simp; rfl)); intro gb207 hg w7 hbox hb; have n0_ := Aside0.mk (blk_below (g := gb206) (o := .cells #[.int .i64 a0_0, .slice A0_1 l0_1.length c0_1] 31 (0, 0)) (by (with_reducible repeat (first | refine blk_drewN ?_ _ | refine blk_drew ?_ | refine blk_alloc ?_ _)); exact BK206.out) hb); have n1_ := Aside0.mk (below_step (by repeat (first | (with_reducible first | exact HB.out | apply below_alloc | apply pw_below_drewN | apply below_drew1 | refine below_set ?_ GE206.out) | exact HB.out)) hb); have n2_ := Aside0.mk (hbox); have n3_ := Aside0.mk ((by rw [hg]; exact (below_size (by repeat (first | (with_reducible first | exact HB.out | apply below_alloc | apply pw_below_drewN | apply below_drew1 | refine below_set ?_ GE206.out) | exact HB.out))) : w.heap.size ≤ gb207)); have n4_ := Aside0.mk ((by rw [hg]; exact (below_size (by repeat (first | (with_reducible first | exact HB.out | apply below_alloc | apply pw_below_drewN | apply below_drew1 | refine below_set ?_ GE206.out) | exact HB.out))) : w.heap.size ≤ gb207)); have n5_ := Aside0.mk ((by rw [hg]; exact Nat.ne_of_lt (blk_lt (g := gb206) (o := .cells #[.int .i64 a0_0, .slice A0_1 l0_1.length c0_1] 31 (0, 0)) (by (with_reducible repeat (first | refine blk_drewN ?_ _ | refine blk_drew ?_ | refine blk_alloc ?_ _)); exact BK206.out)) : gb206 ≠ gb207)); have n6_ := Aside0.mk ((by rw [hg]; exact Nat.ne_of_gt (blk_lt (g := gb206) (o := .cells #[.int .i64 a0_0, .slice A0_1 l0_1.length c0_1] 31 (0, 0)) (by (with_reducible repeat (first | refine blk_drewN ?_ _ | refine blk_drew ?_ | refine blk_alloc ?_ _)); exact BK206.out)) : gb207 ≠ gb206)); clear BK206; clear HB; have BK206 := n0_; have HB := n1_; have BK207 := n2_; have GW207 := n3_; have GE207 := n4_; have NB206_207 := n5_; have NB207_206 := n6_; clear n0_ n1_ n2_ n3_ n4_ n5_ n6_; clear hb hbox hg; have hnb8 := NB206_207.out; have hnc8 := NB207_206.out; have hcz9_0 : w7.cell? ⟨gb206, 0, none⟩ = some (.int .i64 a0_0) := (blk_cell BK206.out 0).trans rfl; have hcz9_1 : w7.cell? ⟨gb206, 1, none⟩ = some (.slice A0_1 l0_1.length c0_1) := (blk_cell BK206.out 1).trans rfl; have hfz9_0 := blk_frozen BK206.out 0; have hfz9_1 := blk_frozen BK206.out 1; have hcz10_0 : w7.cell? ⟨gb207, 0, none⟩ = some (.int .i64 a1_0) := (blk_cell BK207.out 0).trans rfl; have hcz10_1 : w7.cell? ⟨gb207, 1, none⟩ = some (.slice A1_1 l1_1.length c1_1) := (blk_cell BK207.out 1).trans rfl; have hfz10_0 := blk_frozen BK207.out 0; have hfz10_1 := blk_frozen BK207.out 1) | ((with_reducible refine gate_callee (f := 14) rfl ?_); refine goesL_ (some 14) rfl rfl Try.func14 (by kernel_rfl) rfl #[.slice A0_1 l0_1.length c0_1, .slice A1_1 l1_1.length c1_1] rfl (by (try simp only [List.map_toArray, List.map_cons, List.map_nil]); first | done | rfl | (simp only [List.length_drop, List.length_take]; rfl) | (simp only [show ∀ (n_ : Nat) (b_ : Int), Int.tdiv (n_ : Int) b_ = (n_ : Int) / b_ from fun n_ b_ => Int.tdiv_eq_ediv_of_nonneg (Int.natCast_nonneg n_)]; rfl)) ?_; (with_reducible refine (laws_eqInt64S.calls k _ _ l0_1 _ _ l1_1 true _ ?side1 ?side2 ?side3 ?side4 A4.out).mono ?_); (case side1 => repeat (first | exact (Kd.C_below HR0_1.out HB.out) | (with_reducible refine Kd.C_alloc ?_ _) | (with_reducible refine Kd.C_drewN ?_ _) | (with_reducible refine Kd.C_drew ?_))); (case side2 => exact HC0_1.out); (case side3 => repeat (first | exact (Kd.C_below HR1_1.out HB.out) | (with_reducible refine Kd.C_alloc ?_ _) | (with_reducible refine Kd.C_drewN ?_ _) | (with_reducible refine Kd.C_drew ?_))); (case side4 => exact HC1_1.out); rintro e w' ⟨rfl, ⟨nd, rfl⟩⟩; refine ⟨_, rfl, ?_⟩))
   go_ret
   exact ⟨by first | rfl | (simp [errW_none, errW_some] <;> rfl) | (simp [*, errW_none, errW_some] <;> rfl), by repeat (first | (with_reducible first | exact HB.out | apply below_alloc | apply pw_below_drewN | apply below_drew1 | refine below_set ?_ GE206.out | refine below_set ?_ GE207.out) | exact HB.out)⟩
  ·replace c5 := Bool.eq_false_iff.mpr c5
   subst c5
   have H1 : (some false) = some r := by rw [if_neg (show ¬ (false = true) by decide)] at H; exact H
   clear H
   have H := H1
   clear H1
   obtain rfl := Option.some.inj H
   go_enter Try.func15, Try.ntmps15
   go_wp2_with (first | ((with_reducible refine gate_dst (N := 2) rfl ?_); refine box_event ?hg (N := 2) ?hd (cs := #[.int .i64 a0_0, .slice A0_1 l0_1.length c0_1]) (t := 31) ?hr ?_; (case hd => rfl); (case hg => rfl); (case hr => first | (go_simp; done) | (go_simp; rfl)); intro gb206 hg w11 hbox hb; have n0_ := Aside0.mk (below_step (by repeat (first | (with_reducible first | exact HB.out | apply below_alloc | apply pw_below_drewN | apply below_drew1) | exact HB.out)) hb); have n1_ := Aside0.mk (hbox); have n2_ := Aside0.mk ((by rw [hg]; exact (below_size (by repeat (first | (with_reducible first | exact HB.out | apply below_alloc | apply pw_below_drewN | apply below_drew1) | exact HB.out))) : w.heap.size ≤ gb206)); have n3_ := Aside0.mk ((by rw [hg]; exact (below_size (by repeat (first | (with_reducible first | exact HB.out | apply below_alloc | apply pw_below_drewN | apply below_drew1) | exact HB.out))) : w.heap.size ≤ gb206)); clear HB; have HB := n0_; have BK206 := n1_; have GW206 := n2_; have GE206 := n3_; clear n0_ n1_ n2_ n3_; clear hb hbox hg) | ((with_reducible refine gate_dst (N := 3) rfl ?_); refine box_event ?hg (N := 3) ?hd (cs := #[.int .i64 a1_0, .slice A1_1 l1_1.length c1_1]) (t := 31) ?hr ?_; (case hd => rfl); (case hg => rfl); (case hr => first | (go_simp; done) | (go_simp; rfl)); intro gb207 hg w12 hbox hb; have n0_ := Aside0.mk (blk_below (g := gb206) (o := .cells #[.int .i64 a0_0, .slice A0_1 l0_1.length c0_1] 31 (0, 0)) (by (with_reducible repeat (first | refine blk_drewN ?_ _ | refine blk_drew ?_ | refine blk_alloc ?_ _)); exact BK206.out) hb); have n1_ := Aside0.mk (below_step (by repeat (first | (with_reducible first | exact HB.out | apply below_alloc | apply pw_below_drewN | apply below_drew1 | refine below_set ?_ GE206.out) | exact HB.out)) hb); have n2_ := Aside0.mk (hbox); have n3_ := Aside0.mk ((by rw [hg]; exact (below_size (by repeat (first | (with_reducible first | exact HB.out | apply below_alloc | apply pw_below_drewN | apply below_drew1 | refine below_set ?_ GE206.out) | exact HB.out))) : w.heap.size ≤ gb207)); have n4_ := Aside0.mk ((by rw [hg]; exact (below_size (by repeat (first | (with_reducible first | exact HB.out | apply below_alloc | apply pw_below_drewN | apply below_drew1 | refine below_set ?_ GE206.out) | exact HB.out))) : w.heap.size ≤ gb207)); have n5_ := Aside0.mk ((by rw [hg]; exact Nat.ne_of_lt (blk_lt (g := gb206) (o := .cells #[.int .i64 a0_0, .slice A0_1 l0_1.length c0_1] 31 (0, 0)) (by (with_reducible repeat (first | refine blk_drewN ?_ _ | refine blk_drew ?_ | refine blk_alloc ?_ _)); exact BK206.out)) : gb206 ≠ gb207)); have n6_ := Aside0.mk ((by rw [hg]; exact Nat.ne_of_gt (blk_lt (g := gb206) (o := .cells #[.int .i64 a0_0, .slice A0_1 l0_1.length c0_1] 31 (0, 0)) (by (with_reducible repeat (first | refine blk_drewN ?_ _ | refine blk_drew ?_ | refine blk_alloc ?_ _)); exact BK206.out)) : gb207 ≠ gb206)); clear BK206; clear HB; have BK206 := n0_; have HB := n1_; have BK207 := n2_; have GW207 := n3_; have GE207 := n4_; have NB206_207 := n5_; have NB207_206 := n6_; clear n0_ n1_ n2_ n3_ n4_ n5_ n6_; clear hb hbox hg; have hnb13 := NB206_207.out; have hnc13 := NB207_206.out; have hcz14_0 : w12.cell? ⟨gb206, 0, none⟩ = some (.int .i64 a0_0) := (blk_cell BK206.out 0).trans rfl; have hcz14_1 : w12.cell? ⟨gb206, 1, none⟩ = some (.slice A0_1 l0_1.length c0_1) := (blk_cell BK206.out 1).trans rfl; have hfz14_0 := blk_frozen BK206.out 0; have hfz14_1 := blk_frozen BK206.out 1; have hcz15_0 : w12.cell? ⟨gb207, 0, none⟩ = some (.int .i64 a1_0) := (blk_cell BK207.out 0).trans rfl; have hcz15_1 : w12.cell? ⟨gb207, 1, none⟩ = some (.slice A1_1 l1_1.length c1_1) := (blk_cell BK207.out 1).trans rfl; have hfz15_0 := blk_frozen BK207.out 0; have hfz15_1 := blk_frozen BK207.out 1) | ((with_reducible refine gate_callee (f := 14) rfl ?_); refine goesL_ (some 14) rfl rfl Try.func14 (by kernel_rfl) rfl #[.slice A0_1 l0_1.length c0_1, .slice A1_1 l1_1.length c1_1] rfl (by (try simp only [List.map_toArray, List.map_cons, List.map_nil]); first | done | rfl | (simp only [List.length_drop, List.length_take]; rfl) | (simp only [show ∀ (n_ : Nat) (b_ : Int), Int.tdiv (n_ : Int) b_ = (n_ : Int) / b_ from fun n_ b_ => Int.tdiv_eq_ediv_of_nonneg (Int.natCast_nonneg n_)]; rfl)) ?_; (with_reducible refine (laws_eqInt64S.calls k _ _ l0_1 _ _ l1_1 false _ ?side1 ?side2 ?side3 ?side4 A4.out).mono ?_); (case side1 => repeat (first | exact (Kd.C_below HR0_1.out HB.out) | (with_reducible refine Kd.C_alloc ?_ _) | (with_reducible refine Kd.C_drewN ?_ _) | (with_reducible refine Kd.C_drew ?_))); (case side2 => exact HC0_1.out); (case side3 => repeat (first | exact (Kd.C_below HR1_1.out HB.out) | (with_reducible refine Kd.C_alloc ?_ _) | (with_reducible refine Kd.C_drewN ?_ _) | (with_reducible refine Kd.C_drew ?_))); (case side4 => exact HC1_1.out); rintro e w' ⟨rfl, ⟨nd, rfl⟩⟩; refine ⟨_, rfl, ?_⟩))
   go_ret
   exact ⟨by first | rfl | (simp [errW_none, errW_some] <;> rfl) | (simp [*, errW_none, errW_some] <;> rfl), by repeat (first | (with_reducible first | exact HB.out | apply below_alloc | apply pw_below_drewN | apply below_drew1 | refine below_set ?_ GE206.out | refine below_set ?_ GE207.out) | exact HB.out)⟩
 ·rw [if_neg c3] at H
  have c3b0 : (a0_0 == a1_0) = false := beq_eq_false_iff_ne.mpr c3
  have c3b1 : (a0_0 != a1_0) = true := bne_iff_ne.mpr c3
  obtain rfl := Option.some.inj H
  go_enter Try.func15, Try.ntmps15
  go_wp2_with (first | ((with_reducible refine gate_dst (N := 2) rfl ?_); refine box_event ?hg (N := 2) ?hd (cs := #[.int .i64 a0_0, .slice A0_1 l0_1.length c0_1]) (t := 31) ?hr ?_; (case hd => rfl); (case hg => rfl); (case hr => first | (go_simp; done) | (go_simp; rfl)); intro gb206 hg w16 hbox hb; have n0_ := Aside0.mk (below_step (by repeat (first | (with_reducible first | exact HB.out | apply below_alloc | apply pw_below_drewN | apply below_drew1) | exact HB.out)) hb); have n1_ := Aside0.mk (hbox); have n2_ := Aside0.mk ((by rw [hg]; exact (below_size (by repeat (first | (with_reducible first | exact HB.out | apply below_alloc | apply pw_below_drewN | apply below_drew1) | exact HB.out))) : w.heap.size ≤ gb206)); have n3_ := Aside0.mk ((by rw [hg]; exact (below_size (by repeat (first | (with_reducible first | exact HB.out | apply below_alloc | apply pw_below_drewN | apply below_drew1) | exact HB.out))) : w.heap.size ≤ gb206)); clear HB; have HB := n0_; have BK206 := n1_; have GW206 := n2_; have GE206 := n3_; clear n0_ n1_ n2_ n3_; clear hb hbox hg) | ((with_reducible refine gate_dst (N := 3) rfl ?_); refine box_event ?hg (N := 3) ?hd (cs := #[.int .i64 a1_0, .slice A1_1 l1_1.length c1_1]) (t := 31) ?hr ?_; (case hd => rfl); (case hg => rfl); (case hr => first | (go_simp; done) | (go_simp; rfl)); intro gb207 hg w17 hbox hb; have n0_ := Aside0.mk (blk_below (g := gb206) (o := .cells #[.int .i64 a0_0, .slice A0_1 l0_1.length c0_1] 31 (0, 0)) (by (with_reducible repeat (first | refine blk_drewN ?_ _ | refine blk_drew ?_ | refine blk_alloc ?_ _)); exact BK206.out) hb); have n1_ := Aside0.mk (below_step (by repeat (first | (with_reducible first | exact HB.out | apply below_alloc | apply pw_below_drewN | apply below_drew1 | refine below_set ?_ GE206.out) | exact HB.out)) hb); have n2_ := Aside0.mk (hbox); have n3_ := Aside0.mk ((by rw [hg]; exact (below_size (by repeat (first | (with_reducible first | exact HB.out | apply below_alloc | apply pw_below_drewN | apply below_drew1 | refine below_set ?_ GE206.out) | exact HB.out))) : w.heap.size ≤ gb207)); have n4_ := Aside0.mk ((by rw [hg]; exact (below_size (by repeat (first | (with_reducible first | exact HB.out | apply below_alloc | apply pw_below_drewN | apply below_drew1 | refine below_set ?_ GE206.out) | exact HB.out))) : w.heap.size ≤ gb207)); have n5_ := Aside0.mk ((by rw [hg]; exact Nat.ne_of_lt (blk_lt (g := gb206) (o := .cells #[.int .i64 a0_0, .slice A0_1 l0_1.length c0_1] 31 (0, 0)) (by (with_reducible repeat (first | refine blk_drewN ?_ _ | refine blk_drew ?_ | refine blk_alloc ?_ _)); exact BK206.out)) : gb206 ≠ gb207)); have n6_ := Aside0.mk ((by rw [hg]; exact Nat.ne_of_gt (blk_lt (g := gb206) (o := .cells #[.int .i64 a0_0, .slice A0_1 l0_1.length c0_1] 31 (0, 0)) (by (with_reducible repeat (first | refine blk_drewN ?_ _ | refine blk_drew ?_ | refine blk_alloc ?_ _)); exact BK206.out)) : gb207 ≠ gb206)); clear BK206; clear HB; have BK206 := n0_; have HB := n1_; have BK207 := n2_; have GW207 := n3_; have GE207 := n4_; have NB206_207 := n5_; have NB207_206 := n6_; clear n0_ n1_ n2_ n3_ n4_ n5_ n6_; clear hb hbox hg; have hnb18 := NB206_207.out; have hnc18 := NB207_206.out; have hcz19_0 : w17.cell? ⟨gb206, 0, none⟩ = some (.int .i64 a0_0) := (blk_cell BK206.out 0).trans rfl; have hcz19_1 : w17.cell? ⟨gb206, 1, none⟩ = some (.slice A0_1 l0_1.length c0_1) := (blk_cell BK206.out 1).trans rfl; have hfz19_0 := blk_frozen BK206.out 0; have hfz19_1 := blk_frozen BK206.out 1; have hcz20_0 : w17.cell? ⟨gb207, 0, none⟩ = some (.int .i64 a1_0) := (blk_cell BK207.out 0).trans rfl; have hcz20_1 : w17.cell? ⟨gb207, 1, none⟩ = some (.slice A1_1 l1_1.length c1_1) := (blk_cell BK207.out 1).trans rfl; have hfz20_0 := blk_frozen BK207.out 0; have hfz20_1 := blk_frozen BK207.out 1))
  go_ret
  exact ⟨by first | rfl | (simp [errW_none, errW_some] <;> rfl) | (simp [*, errW_none, errW_some] <;> rfl), by repeat (first | (with_reducible first | exact HB.out | apply below_alloc | apply pw_below_drewN | apply below_drew1 | refine below_set ?_ GE206.out | refine below_set ?_ GE207.out) | exact HB.out)⟩
def laws_eqValues.f (k : Nat) (a0_0 : Int) (l0_1 : List Int) (a1_0 : Int) (l1_1 : List Int) : Option (Bool) := if a0_0 = a1_0 then ((laws_eqInt64S.f k l0_1 l1_1).bind fun t211 => (if t211 = true then (some true) else (some false))) else (some false)
theorem laws_eqValues.mono : ∀ a0 a1 a2 a3 k, LeO (laws_eqValues.f k a0 a1 a2 a3) (laws_eqValues.f (k + 1) a0 a1 a2 a3) := by
 intro a0 a1 a2 a3 k
 unfold laws_eqValues.f
 repeat' first
   | (with_reducible exact laws_eqInt64S.mono _ _ _)
   | (with_reducible exact LeO.refl _)
   | (with_reducible exact LeO.none _)
   | (with_reducible refine LeO.ite ?_ ?_)
   | (with_reducible refine LeO.bind ?_ (fun _ => ?_))
   | exact laws_eqInt64S.mono _ _ _
   | exact LeO.none _
   | refine LeO.ite ?_ ?_
   | refine LeO.bind ?_ (fun _ => ?_)
set_option maxHeartbeats 8000000 in
set_option maxRecDepth 100000 in
theorem laws_eqValues.calls (k : Nat) (a0_0 : Int) (A0_1 : Option Addr) (c0_1 : Nat) (l0_1 : List Int) (a1_0 : Int) (A1_1 : Option Addr) (c1_1 : Nat) (l1_1 : List Int) (r : Bool) (w : World) (hr0_1 : Kd.C (Kd.int .i64) w A0_1 l0_1.length l0_1) (hc0_1 : l0_1.length ≤ c0_1) (hr1_1 : Kd.C (Kd.int .i64) w A1_1 l1_1.length l1_1) (hc1_1 : l1_1.length ≤ c1_1) (h : laws_eqValues.f k a0_0 l0_1 a1_0 l1_1 = some r) :
  Calls Try.prog 16 #[.agg #[.int .i64 a0_0, .slice A0_1 l0_1.length c0_1], .agg #[.int .i64 a1_0, .slice A1_1 l1_1.length c1_1]] w fun e w' => e = .returned (.bool r) ∧ Below w.heap.size w w' := by
 have hu33 := Try.underlying33
 have HR0_1 := Aside0.mk hr0_1
 have HC0_1 := Aside0.mk hc0_1
 clear hr0_1 hc0_1
 have HR1_1 := Aside0.mk hr1_1
 have HC1_1 := Aside0.mk hc1_1
 clear hr1_1 hc1_1
 have HB := Aside0.mk (Below.refl w.heap.size w)
 have H : (if a0_0 = a1_0 then ((laws_eqInt64S.f k l0_1 l1_1).bind fun t211 => (if t211 = true then (some true) else (some false))) else (some false)) = some r := h
 clear h
 by_cases c3 : a0_0 = a1_0
 ·rw [if_pos c3] at H
  have c3b0 : (a0_0 == a1_0) = true := beq_iff_eq.mpr c3
  have c3b1 : (a0_0 != a1_0) = false := bne_eq_false_iff_eq.mpr c3
  clear c3
  replace H := Option.bind_eq_some_iff.mp H
  obtain ⟨t211, A40, H⟩ := H
  replace H : (if t211 = true then (some true) else (some false)) = some r := H
  have A4 := Aside0.mk A40
  clear A40
  by_cases c5 : t211 = true
  ·subst c5
   have H1 : (some true) = some r := by rw [if_pos rfl] at H; exact H
   clear H
   have H := H1
   clear H1
   obtain rfl := Option.some.inj H
   go_enter Try.func16, Try.ntmps16
   go_wp2_with (first | ((with_reducible refine gate_dst (N := 2) rfl ?_); refine box_event ?hg (N := 2) ?hd (cs := #[.int .i64 a0_0, .slice A0_1 l0_1.length c0_1]) (t := 33) ?hr ?_; (case hd => rfl); (case hg => rfl); (case hr => first | (go_simp; done) | (go_simp; rfl)); intro gb209 hg w6 hbox hb; have n0_ := Aside0.mk (below_step (by repeat (first | (with_reducible first | exact HB.out | apply below_alloc | apply pw_below_drewN | apply below_drew1) | exact HB.out)) hb); have n1_ := Aside0.mk (hbox); have n2_ := Aside0.mk ((by rw [hg]; exact (below_size (by repeat (first | (with_reducible first | exact HB.out | apply below_alloc | apply pw_below_drewN | apply below_drew1) | exact HB.out))) : w.heap.size ≤ gb209)); have n3_ := Aside0.mk ((by rw [hg]; exact (below_size (by repeat (first | (with_reducible first | exact HB.out | apply below_alloc | apply pw_below_drewN | apply below_drew1) | exact HB.out))) : w.heap.size ≤ gb209)); clear HB; have HB := n0_; have BK209 := n1_; have GW209 := n2_; have GE209 := n3_; clear n0_ n1_ n2_ n3_; clear hb hbox hg) | ((with_reducible refine gate_dst (N := 3) rfl ?_); refine box_event ?hg (N := 3) ?hd (cs := #[.int .i64 a1_0, .slice A1_1 l1_1.length c1_1]) (t := 33) ?hr ?_; (case hd => rfl); (case hg => rfl); (case hr => first | (go_simp; done) | (go_simp; rfl)); intro gb210 hg w7 hbox hb; have n0_ := Aside0.mk (blk_below (g := gb209) (o := .cells #[.int .i64 a0_0, .slice A0_1 l0_1.length c0_1] 33 (0, 0)) (by (with_reducible repeat (first | refine blk_drewN ?_ _ | refine blk_drew ?_ | refine blk_alloc ?_ _)); exact BK209.out) hb); have n1_ := Aside0.mk (below_step (by repeat (first | (with_reducible first | exact HB.out | apply below_alloc | apply pw_below_drewN | apply below_drew1 | refine below_set ?_ GE209.out) | exact HB.out)) hb); have n2_ := Aside0.mk (hbox); have n3_ := Aside0.mk ((by rw [hg]; exact (below_size (by repeat (first | (with_reducible first | exact HB.out | apply below_alloc | apply pw_below_drewN | apply below_drew1 | refine below_set ?_ GE209.out) | exact HB.out))) : w.heap.size ≤ gb210)); have n4_ := Aside0.mk ((by rw [hg]; exact (below_size (by repeat (first | (with_reducible first | exact HB.out | apply below_alloc | apply pw_below_drewN | apply below_drew1 | refine below_set ?_ GE209.out) | exact HB.out))) : w.heap.size ≤ gb210)); have n5_ := Aside0.mk ((by rw [hg]; exact Nat.ne_of_lt (blk_lt (g := gb209) (o := .cells #[.int .i64 a0_0, .slice A0_1 l0_1.length c0_1] 33 (0, 0)) (by (with_reducible repeat (first | refine blk_drewN ?_ _ | refine blk_drew ?_ | refine blk_alloc ?_ _)); exact BK209.out)) : gb209 ≠ gb210)); have n6_ := Aside0.mk ((by rw [hg]; exact Nat.ne_of_gt (blk_lt (g := gb209) (o := .cells #[.int .i64 a0_0, .slice A0_1 l0_1.length c0_1] 33 (0, 0)) (by (with_reducible repeat (first | refine blk_drewN ?_ _ | refine blk_drew ?_ | refine blk_alloc ?_ _)); exact BK209.out)) : gb210 ≠ gb209)); clear BK209; clear HB; have BK209 := n0_; have HB := n1_; have BK210 := n2_; have GW210 := n3_; have GE210 := n4_; have NB209_210 := n5_; have NB210_209 := n6_; clear n0_ n1_ n2_ n3_ n4_ n5_ n6_; clear hb hbox hg; have hnb8 := NB209_210.out; have hnc8 := NB210_209.out; have hcz9_0 : w7.cell? ⟨gb209, 0, none⟩ = some (.int .i64 a0_0) := (blk_cell BK209.out 0).trans rfl; have hcz9_1 : w7.cell? ⟨gb209, 1, none⟩ = some (.slice A0_1 l0_1.length c0_1) := (blk_cell BK209.out 1).trans rfl; have hfz9_0 := blk_frozen BK209.out 0; have hfz9_1 := blk_frozen BK209.out 1; have hcz10_0 : w7.cell? ⟨gb210, 0, none⟩ = some (.int .i64 a1_0) := (blk_cell BK210.out 0).trans rfl; have hcz10_1 : w7.cell? ⟨gb210, 1, none⟩ = some (.slice A1_1 l1_1.length c1_1) := (blk_cell BK210.out 1).trans rfl; have hfz10_0 := blk_frozen BK210.out 0; have hfz10_1 := blk_frozen BK210.out 1) | ((with_reducible refine gate_callee (f := 14) rfl ?_); refine goesL_ (some 14) rfl rfl Try.func14 (by kernel_rfl) rfl #[.slice A0_1 l0_1.length c0_1, .slice A1_1 l1_1.length c1_1] rfl (by (try simp only [List.map_toArray, List.map_cons, List.map_nil]); first | done | rfl | (simp only [List.length_drop, List.length_take]; rfl) | (simp only [show ∀ (n_ : Nat) (b_ : Int), Int.tdiv (n_ : Int) b_ = (n_ : Int) / b_ from fun n_ b_ => Int.tdiv_eq_ediv_of_nonneg (Int.natCast_nonneg n_)]; rfl)) ?_; (with_reducible refine (laws_eqInt64S.calls k _ _ l0_1 _ _ l1_1 true _ ?side1 ?side2 ?side3 ?side4 A4.out).mono ?_); (case side1 => repeat (first | exact (Kd.C_below HR0_1.out HB.out) | (with_reducible refine Kd.C_alloc ?_ _) | (with_reducible refine Kd.C_drewN ?_ _) | (with_reducible refine Kd.C_drew ?_))); (case side2 => exact HC0_1.out); (case side3 => repeat (first | exact (Kd.C_below HR1_1.out HB.out) | (with_reducible refine Kd.C_alloc ?_ _) | (with_reducible refine Kd.C_drewN ?_ _) | (with_reducible refine Kd.C_drew ?_))); (case side4 => exact HC1_1.out); rintro e w' ⟨rfl, ⟨nd, rfl⟩⟩; refine ⟨_, rfl, ?_⟩))
   go_ret
   exact ⟨by first | rfl | (simp [errW_none, errW_some] <;> rfl) | (simp [*, errW_none, errW_some] <;> rfl), by repeat (first | (with_reducible first | exact HB.out | apply below_alloc | apply pw_below_drewN | apply below_drew1 | refine below_set ?_ GE209.out | refine below_set ?_ GE210.out) | exact HB.out)⟩
  ·replace c5 := Bool.eq_false_iff.mpr c5
   subst c5
   have H1 : (some false) = some r := by rw [if_neg (show ¬ (false = true) by decide)] at H; exact H
   clear H
   have H := H1
   clear H1
   obtain rfl := Option.some.inj H
   go_enter Try.func16, Try.ntmps16
   go_wp2_with (first | ((with_reducible refine gate_dst (N := 2) rfl ?_); refine box_event ?hg (N := 2) ?hd (cs := #[.int .i64 a0_0, .slice A0_1 l0_1.length c0_1]) (t := 33) ?hr ?_; (case hd => rfl); (case hg => rfl); (case hr => first | (go_simp; done) | (go_simp; rfl)); intro gb209 hg w11 hbox hb; have n0_ := Aside0.mk (below_step (by repeat (first | (with_reducible first | exact HB.out | apply below_alloc | apply pw_below_drewN | apply below_drew1) | exact HB.out)) hb); have n1_ := Aside0.mk (hbox); have n2_ := Aside0.mk ((by rw [hg]; exact (below_size (by repeat (first | (with_reducible first | exact HB.out | apply below_alloc | apply pw_below_drewN | apply below_drew1) | exact HB.out))) : w.heap.size ≤ gb209)); have n3_ := Aside0.mk ((by rw [hg]; exact (below_size (by repeat (first | (with_reducible first | exact HB.out | apply below_alloc | apply pw_below_drewN | apply below_drew1) | exact HB.out))) : w.heap.size ≤ gb209)); clear HB; have HB := n0_; have BK209 := n1_; have GW209 := n2_; have GE209 := n3_; clear n0_ n1_ n2_ n3_; clear hb hbox hg) | ((with_reducible refine gate_dst (N := 3) rfl ?_); refine box_event ?hg (N := 3) ?hd (cs := #[.int .i64 a1_0, .slice A1_1 l1_1.length c1_1]) (t := 33) ?hr ?_; (case hd => rfl); (case hg => rfl); (case hr => first | (go_simp; done) | (go_simp; rfl)); intro gb210 hg w12 hbox hb; have n0_ := Aside0.mk (blk_below (g := gb209) (o := .cells #[.int .i64 a0_0, .slice A0_1 l0_1.length c0_1] 33 (0, 0)) (by (with_reducible repeat (first | refine blk_drewN ?_ _ | refine blk_drew ?_ | refine blk_alloc ?_ _)); exact BK209.out) hb); have n1_ := Aside0.mk (below_step (by repeat (first | (with_reducible first | exact HB.out | apply below_alloc | apply pw_below_drewN | apply below_drew1 | refine below_set ?_ GE209.out) | exact HB.out)) hb); have n2_ := Aside0.mk (hbox); have n3_ := Aside0.mk ((by rw [hg]; exact (below_size (by repeat (first | (with_reducible first | exact HB.out | apply below_alloc | apply pw_below_drewN | apply below_drew1 | refine below_set ?_ GE209.out) | exact HB.out))) : w.heap.size ≤ gb210)); have n4_ := Aside0.mk ((by rw [hg]; exact (below_size (by repeat (first | (with_reducible first | exact HB.out | apply below_alloc | apply pw_below_drewN | apply below_drew1 | refine below_set ?_ GE209.out) | exact HB.out))) : w.heap.size ≤ gb210)); have n5_ := Aside0.mk ((by rw [hg]; exact Nat.ne_of_lt (blk_lt (g := gb209) (o := .cells #[.int .i64 a0_0, .slice A0_1 l0_1.length c0_1] 33 (0, 0)) (by (with_reducible repeat (first | refine blk_drewN ?_ _ | refine blk_drew ?_ | refine blk_alloc ?_ _)); exact BK209.out)) : gb209 ≠ gb210)); have n6_ := Aside0.mk ((by rw [hg]; exact Nat.ne_of_gt (blk_lt (g := gb209) (o := .cells #[.int .i64 a0_0, .slice A0_1 l0_1.length c0_1] 33 (0, 0)) (by (with_reducible repeat (first | refine blk_drewN ?_ _ | refine blk_drew ?_ | refine blk_alloc ?_ _)); exact BK209.out)) : gb210 ≠ gb209)); clear BK209; clear HB; have BK209 := n0_; have HB := n1_; have BK210 := n2_; have GW210 := n3_; have GE210 := n4_; have NB209_210 := n5_; have NB210_209 := n6_; clear n0_ n1_ n2_ n3_ n4_ n5_ n6_; clear hb hbox hg; have hnb13 := NB209_210.out; have hnc13 := NB210_209.out; have hcz14_0 : w12.cell? ⟨gb209, 0, none⟩ = some (.int .i64 a0_0) := (blk_cell BK209.out 0).trans rfl; have hcz14_1 : w12.cell? ⟨gb209, 1, none⟩ = some (.slice A0_1 l0_1.length c0_1) := (blk_cell BK209.out 1).trans rfl; have hfz14_0 := blk_frozen BK209.out 0; have hfz14_1 := blk_frozen BK209.out 1; have hcz15_0 : w12.cell? ⟨gb210, 0, none⟩ = some (.int .i64 a1_0) := (blk_cell BK210.out 0).trans rfl; have hcz15_1 : w12.cell? ⟨gb210, 1, none⟩ = some (.slice A1_1 l1_1.length c1_1) := (blk_cell BK210.out 1).trans rfl; have hfz15_0 := blk_frozen BK210.out 0; have hfz15_1 := blk_frozen BK210.out 1) | ((with_reducible refine gate_callee (f := 14) rfl ?_); refine goesL_ (some 14) rfl rfl Try.func14 (by kernel_rfl) rfl #[.slice A0_1 l0_1.length c0_1, .slice A1_1 l1_1.length c1_1] rfl (by (try simp only [List.map_toArray, List.map_cons, List.map_nil]); first | done | rfl | (simp only [List.length_drop, List.length_take]; rfl) | (simp only [show ∀ (n_ : Nat) (b_ : Int), Int.tdiv (n_ : Int) b_ = (n_ : Int) / b_ from fun n_ b_ => Int.tdiv_eq_ediv_of_nonneg (Int.natCast_nonneg n_)]; rfl)) ?_; (with_reducible refine (laws_eqInt64S.calls k _ _ l0_1 _ _ l1_1 false _ ?side1 ?side2 ?side3 ?side4 A4.out).mono ?_); (case side1 => repeat (first | exact (Kd.C_below HR0_1.out HB.out) | (with_reducible refine Kd.C_alloc ?_ _) | (with_reducible refine Kd.C_drewN ?_ _) | (with_reducible refine Kd.C_drew ?_))); (case side2 => exact HC0_1.out); (case side3 => repeat (first | exact (Kd.C_below HR1_1.out HB.out) | (with_reducible refine Kd.C_alloc ?_ _) | (with_reducible refine Kd.C_drewN ?_ _) | (with_reducible refine Kd.C_drew ?_))); (case side4 => exact HC1_1.out); rintro e w' ⟨rfl, ⟨nd, rfl⟩⟩; refine ⟨_, rfl, ?_⟩))
   go_ret
   exact ⟨by first | rfl | (simp [errW_none, errW_some] <;> rfl) | (simp [*, errW_none, errW_some] <;> rfl), by repeat (first | (with_reducible first | exact HB.out | apply below_alloc | apply pw_below_drewN | apply below_drew1 | refine below_set ?_ GE209.out | refine below_set ?_ GE210.out) | exact HB.out)⟩
 ·rw [if_neg c3] at H
  have c3b0 : (a0_0 == a1_0) = false := beq_eq_false_iff_ne.mpr c3
  have c3b1 : (a0_0 != a1_0) = true := bne_iff_ne.mpr c3
  obtain rfl := Option.some.inj H
  go_enter Try.func16, Try.ntmps16
  go_wp2_with (first | ((with_reducible refine gate_dst (N := 2) rfl ?_); refine box_event ?hg (N := 2) ?hd (cs := #[.int .i64 a0_0, .slice A0_1 l0_1.length c0_1]) (t := 33) ?hr ?_; (case hd => rfl); (case hg => rfl); (case hr => first | (go_simp; done) | (go_simp; rfl)); intro gb209 hg w16 hbox hb; have n0_ := Aside0.mk (below_step (by repeat (first | (with_reducible first | exact HB.out | apply below_alloc | apply pw_below_drewN | apply below_drew1) | exact HB.out)) hb); have n1_ := Aside0.mk (hbox); have n2_ := Aside0.mk ((by rw [hg]; exact (below_size (by repeat (first | (with_reducible first | exact HB.out | apply below_alloc | apply pw_below_drewN | apply below_drew1) | exact HB.out))) : w.heap.size ≤ gb209)); have n3_ := Aside0.mk ((by rw [hg]; exact (below_size (by repeat (first | (with_reducible first | exact HB.out | apply below_alloc | apply pw_below_drewN | apply below_drew1) | exact HB.out))) : w.heap.size ≤ gb209)); clear HB; have HB := n0_; have BK209 := n1_; have GW209 := n2_; have GE209 := n3_; clear n0_ n1_ n2_ n3_; clear hb hbox hg) | ((with_reducible refine gate_dst (N := 3) rfl ?_); refine box_event ?hg (N := 3) ?hd (cs := #[.int .i64 a1_0, .slice A1_1 l1_1.length c1_1]) (t := 33) ?hr ?_; (case hd => rfl); (case hg => rfl); (case hr => first | (go_simp; done) | (go_simp; rfl)); intro gb210 hg w17 hbox hb; have n0_ := Aside0.mk (blk_below (g := gb209) (o := .cells #[.int .i64 a0_0, .slice A0_1 l0_1.length c0_1] 33 (0, 0)) (by (with_reducible repeat (first | refine blk_drewN ?_ _ | refine blk_drew ?_ | refine blk_alloc ?_ _)); exact BK209.out) hb); have n1_ := Aside0.mk (below_step (by repeat (first | (with_reducible first | exact HB.out | apply below_alloc | apply pw_below_drewN | apply below_drew1 | refine below_set ?_ GE209.out) | exact HB.out)) hb); have n2_ := Aside0.mk (hbox); have n3_ := Aside0.mk ((by rw [hg]; exact (below_size (by repeat (first | (with_reducible first | exact HB.out | apply below_alloc | apply pw_below_drewN | apply below_drew1 | refine below_set ?_ GE209.out) | exact HB.out))) : w.heap.size ≤ gb210)); have n4_ := Aside0.mk ((by rw [hg]; exact (below_size (by repeat (first | (with_reducible first | exact HB.out | apply below_alloc | apply pw_below_drewN | apply below_drew1 | refine below_set ?_ GE209.out) | exact HB.out))) : w.heap.size ≤ gb210)); have n5_ := Aside0.mk ((by rw [hg]; exact Nat.ne_of_lt (blk_lt (g := gb209) (o := .cells #[.int .i64 a0_0, .slice A0_1 l0_1.length c0_1] 33 (0, 0)) (by (with_reducible repeat (first | refine blk_drewN ?_ _ | refine blk_drew ?_ | refine blk_alloc ?_ _)); exact BK209.out)) : gb209 ≠ gb210)); have n6_ := Aside0.mk ((by rw [hg]; exact Nat.ne_of_gt (blk_lt (g := gb209) (o := .cells #[.int .i64 a0_0, .slice A0_1 l0_1.length c0_1] 33 (0, 0)) (by (with_reducible repeat (first | refine blk_drewN ?_ _ | refine blk_drew ?_ | refine blk_alloc ?_ _)); exact BK209.out)) : gb210 ≠ gb209)); clear BK209; clear HB; have BK209 := n0_; have HB := n1_; have BK210 := n2_; have GW210 := n3_; have GE210 := n4_; have NB209_210 := n5_; have NB210_209 := n6_; clear n0_ n1_ n2_ n3_ n4_ n5_ n6_; clear hb hbox hg; have hnb18 := NB209_210.out; have hnc18 := NB210_209.out; have hcz19_0 : w17.cell? ⟨gb209, 0, none⟩ = some (.int .i64 a0_0) := (blk_cell BK209.out 0).trans rfl; have hcz19_1 : w17.cell? ⟨gb209, 1, none⟩ = some (.slice A0_1 l0_1.length c0_1) := (blk_cell BK209.out 1).trans rfl; have hfz19_0 := blk_frozen BK209.out 0; have hfz19_1 := blk_frozen BK209.out 1; have hcz20_0 : w17.cell? ⟨gb210, 0, none⟩ = some (.int .i64 a1_0) := (blk_cell BK210.out 0).trans rfl; have hcz20_1 : w17.cell? ⟨gb210, 1, none⟩ = some (.slice A1_1 l1_1.length c1_1) := (blk_cell BK210.out 1).trans rfl; have hfz20_0 := blk_frozen BK210.out 0; have hfz20_1 := blk_frozen BK210.out 1))
  go_ret
  exact ⟨by first | rfl | (simp [errW_none, errW_some] <;> rfl) | (simp [*, errW_none, errW_some] <;> rfl), by repeat (first | (with_reducible first | exact HB.out | apply below_alloc | apply pw_below_drewN | apply below_drew1 | refine below_set ?_ GE209.out | refine below_set ?_ GE210.out) | exact HB.out)⟩
end Go.Proofs.Ytdlnhddpgopghaa.Q
namespace Go.Proofs.Ytdlnhddpgopghaa.Q
open Go.RowKit Go.Proofs.YtdlnhddpgopghaaW.PrintWords Go.Proofs.YtdlnhddpgopghaaW.PrintLast Go.Proofs.YtdlnhddpgopghaaW.PrintMore
attribute [local go_sem] max2_int min2_int max_two min_two max_three min_three max_four min_four   -- for this text's walks alone
set_option linter.unusedVariables false
set_option linter.unusedSimpArgs false
def laws_markInt64S.l0 : Nat → List Int → Int → Int → Option (Int × List Int)
 | 0, _, _, _ => none
 | k + 1, x0, x1, x5 => if x5 < (x0.length : Int) then (if 0 ≤ x5 then (laws_markInt64S.l0 k (x0.set (x5 : Int).toNat x1) (wrap64 (x1 + 1)) (wrap64 (x5 + 1))) else (none)) else (some (x1, x0))
def laws_markInt64S.f (k : Nat) (l0 : List Int) (a1 : Int) : Option (Int × List Int) := laws_markInt64S.l0 k l0 a1 0
theorem laws_markInt64S.mono_l : ∀ k, (∀ y0 y1 y2, LeO (laws_markInt64S.l0 k y0 y1 y2) (laws_markInt64S.l0 (k + 1) y0 y1 y2))
 | 0 => fun _ _ _ r h => by simp [laws_markInt64S.l0] at h
 | k + 1 => by
  have ih0 := laws_markInt64S.mono_l k
  ·intro y0 y1 y2
   unfold laws_markInt64S.l0
   repeat' first
   | (with_reducible exact ih0 _ _ _)
   | (with_reducible exact LeO.refl _)
   | (with_reducible exact LeO.none _)
   | (with_reducible refine LeO.ite ?_ ?_)
   | (with_reducible refine LeO.bind ?_ (fun _ => ?_))
   | exact ih0 _ _ _
   | exact LeO.none _
   | refine LeO.ite ?_ ?_
   | refine LeO.bind ?_ (fun _ => ?_)
theorem laws_markInt64S.mono : ∀ a0 a1 k, LeO (laws_markInt64S.f k a0 a1) (laws_markInt64S.f (k + 1) a0 a1) := by
 intro a0 a1 k
 have ih0 := laws_markInt64S.mono_l k
 unfold laws_markInt64S.f
 repeat' first
   | (with_reducible exact ih0 _ _ _)
   | (with_reducible exact LeO.refl _)
   | (with_reducible exact LeO.none _)
   | (with_reducible refine LeO.ite ?_ ?_)
   | (with_reducible refine LeO.bind ?_ (fun _ => ?_))
   | exact ih0 _ _ _
   | exact LeO.none _
   | refine LeO.ite ?_ ?_
   | refine LeO.bind ?_ (fun _ => ?_)
set_option maxHeartbeats 8000000 in
set_option maxRecDepth 100000 in
theorem laws_markInt64S.calls (k : Nat) (P0_ : Nat → Prop) (u9000_ : Value) (l0 : List Int) (a1 : Int) (r1 : Int) (r2 : List Int) (w0 w : World) (hB : Below w0.heap.size w0 w) (ho0 : Kd.R (Kd.int .i64) 2 w w0.heap.size P0_ u9000_ l0) (h : laws_markInt64S.f k l0 a1 = some (r1, r2)) :
  Calls Try.prog 19 #[u9000_, .int .i64 a1] w fun e w' => e = .returned (.int .i64 r1) ∧ Kd.R (Kd.int .i64) 2 w' w0.heap.size (fun k_ => (P0_ k_ ∨ w.heap.size ≤ k_)) u9000_ r2 ∧ Below w0.heap.size w0 w' ∧ Kept w w' (fun k_ => P0_ k_) := by
 have HO0 := Aside0.mk (show Kd.R (Kd.int .i64) 2 w w0.heap.size (fun k_ => (P0_ k_ ∨ w.heap.size ≤ k_)) u9000_ l0 from Kd.R_mono ho0 (fun k_ hk => (.inl hk)))
 have HK := Aside0.mk (Kept.refl w (fun k_ => P0_ k_))
 have HW0 := Aside0.mk hB.size
 have HB := Aside0.mk hB
 clear hB
 have H : (laws_markInt64S.l0 k l0 a1 0) = some (r1, r2) := h
 clear h
 have H' := Aside0.mk H
 clear H
 go_enter Try.func19, Try.ntmps19
 go_wp2
 go_loopg [1, 5] k (fun kq v1 v5 w' => ∃ (x0_1 : List Int) (x1_1 : Int) (x5_1 : Int), v1 = .int .i64 x1_1 ∧ v5 = .int .i64 x5_1 ∧ Aside0 (laws_markInt64S.l0 kq x0_1 x1_1 x5_1 = some (r1, r2)) ∧ Aside0 (kq ≤ k) ∧ Aside0 (Kd.R (Kd.int .i64) 2 w' w0.heap.size (fun k_ => (P0_ k_ ∨ w.heap.size ≤ k_)) u9000_ x0_1) ∧ Aside0 (Kept w w' (fun k_ => P0_ k_)) ∧ Aside0 (Below w0.heap.size w0 w'))
 case atStart => exact ⟨(l0), (a1), (0), (by first | rfl | (simp; done) | (simp [*]; done)), (by first | rfl | (simp; done) | (simp [*]; done)), H', ⟨Nat.le_refl _⟩, ⟨by (with_reducible repeat (first | apply Kd.R_alloc | apply Kd.R_drewN | apply Kd.R_drew)); exact HO0.out⟩, ⟨by repeat (first | (with_reducible first | exact HK.out | apply Kept.alloc | apply Kept.drewN | apply Kept.drew) | exact HK.out)⟩, ⟨by repeat (first | (with_reducible first | exact HB.out | apply below_alloc | apply pw_below_drewN | apply below_drew1) | exact HB.out)⟩⟩
 case round =>
  clear H'
  try clear c1
  try clear p2
  obtain ⟨x0_1, x1_1, x5_1, rfl, rfl, HA, HK1, HO_0, HK, HB⟩ := hrel
  cases gk with
  | zero => exact absurd HA.out (by simp [laws_markInt64S.l0])
  | succ k1 =>
   have H := HA.out
   clear HA
   simp only [laws_markInt64S.l0] at H
   by_cases c3 : x5_1 < (x0_1.length : Int)
   ·rw [if_pos c3] at H
    have c3b0 : decide (x5_1 < (x0_1.length : Int)) = true := decide_eq_true c3
    clear c3
    by_cases c4 : 0 ≤ x5_1
    ·rw [if_pos c4] at H
     have c4b0 : decide (0 ≤ x5_1) = true := decide_eq_true c4
     clear c4
     obtain ⟨y212, hy212⟩ : ∃ y_ : List Int, y_ = (x0_1.set (x5_1 : Int).toNat x1_1) := ⟨_, rfl⟩
     replace H : (laws_markInt64S.l0 k1 y212 (wrap64 (x1_1 + 1)) (wrap64 (x5_1 + 1))) = some (r1, r2) := by first | (rw [hy212]; with_reducible exact H) | (have H2_ := (Option.bind_some _ _).symm.trans H; rw [hy212]; with_reducible exact H2_) | (have H2_ := (Option.bind_some _ _).symm.trans H; with_reducible exact H2_) | with_reducible exact H | (rw [hy212]; exact H) | exact H
     have Ny212 := Aside0.mk hy212
     clear hy212
     have H' := Aside0.mk H
     clear H
     obtain ⟨Ao6, co6, eo6⟩ := Kd.R_slice HO_0.out
     subst eo6
     have p5 : 0 ≤ (x5_1 : Int) := of_decide_eq_true (by first | (with_reducible assumption) | assumption)
     have q5 : (x5_1 : Int) < ((x0_1.length : Int) : Int) := of_decide_eq_true (by first | (with_reducible assumption) | assumption)
     obtain ⟨go5, co5, eo5, gb5, gl5, cl5, HG5⟩ := Kd.R_form HO_0.out (by omega)
     (first | cases eo5 | (injection eo5 with ea_ en_ ec_; (first | subst ea_ | (injection ea_ with ea_; subst ea_)); subst ec_; clear en_))
     have GB5 := Aside0.mk gb5
     have GG5 := Aside0.mk HG5
     clear gb5 gl5 HG5
     have HMgo5 := Aside0.mk (show (P0_ go5 ∨ w.heap.size ≤ go5) from (HO_0.out.1 _ rfl))
     obtain ⟨hx5_0, hf5_0⟩ := Kd.R_celln 0 HO_0.out (x5_1 : Int) p5 q5
     replace p5 := eq_true p5
     replace q5 := eq_true q5
     have HP7 := Kd.R_putg HO_0.out (x5_1 : Int) x1_1
     go_wp2_with (first | ((with_reducible refine gate_store (t := 2) (p := 15) rfl ?_); refine store_event (t := 2) (p := 15) (v := ?vo_w8) (w1 := (wr.setCell ⟨go5, (x5_1 : Int).toNat, none⟩ (.int .i64 x1_1))) ?hg ?ho ?hn ?hr ?_; (case ho => rfl); (case hg => rfl); (case hn => rfl); (case hr => first | (go_simp; done) | (go_simp; rfl)); intro w8 hw; have hg : wr.grownBy w8 (some go5) := (by rw [hw]; exact HP7.2); have hp_ : Kd.R (Kd.int .i64) 2 w8 w0.heap.size (fun k_ => (P0_ k_ ∨ w.heap.size ≤ k_)) (.slice (some ⟨go5, 0, none⟩) x0_1.length co6) y212 := (by rw [hw, Ny212.out]; exact HP7.1); clear HP7; have n0_ := Aside0.mk (hp_); have n1_ := Aside0.mk ((by rw [hw]; exact below_set (HB.out) GB5.out : Below w0.heap.size w0 w8)); have n2_ := Aside0.mk (Kept.of_grown (S := (fun k_ => P0_ k_)) hg (by repeat (first | (with_reducible first | exact HK.out | apply Kept.alloc | apply Kept.drewN | apply Kept.drew) | exact HK.out)) (fun k_ e_ => (HO_0.out.1 k_ e_))); clear HO_0; clear HB; clear HK; have HO_0 := n0_; have HB := n1_; have HK := n2_; clear n0_ n1_ n2_; clear hg hw hp_))
     go_roundg k1
     case measure => have := HK1.out; omega
     case rel => exact ⟨(y212), (wrap64 (x1_1 + 1)), (wrap64 (x5_1 + 1)), (by first | rfl | (simp; done) | (simp [*]; done)), (by first | rfl | (simp; done) | (simp [*]; done)), H', ⟨by have := HK1.out; omega⟩, ⟨by (with_reducible repeat (first | apply Kd.R_alloc | apply Kd.R_drewN | apply Kd.R_drew)); exact HO_0.out⟩, ⟨by repeat (first | (with_reducible first | exact HK.out | apply Kept.alloc | apply Kept.drewN | apply Kept.drew) | exact HK.out)⟩, ⟨by repeat (first | (with_reducible first | exact HB.out | apply below_alloc | apply pw_below_drewN | apply below_drew1) | exact HB.out)⟩⟩
    ·rw [if_neg c4] at H
     exact absurd H (by simp)
   ·rw [if_neg c3] at H
    have c3b0 : decide (x5_1 < (x0_1.length : Int)) = false := decide_eq_false c3
    clear c3
    simp only [Option.some.injEq, Prod.mk.injEq] at H
    obtain ⟨rfl, rfl⟩ := H
    obtain ⟨Ao9, co9, eo9⟩ := Kd.R_slice HO_0.out
    subst eo9
    go_wp2
    go_ret
    exact ⟨by first | rfl | (simp [errW_none, errW_some] <;> rfl) | (simp [*, errW_none, errW_some] <;> rfl), by (with_reducible repeat (first | apply Kd.R_alloc | apply Kd.R_drewN | apply Kd.R_drew)); exact HO_0.out, by repeat (first | (with_reducible first | exact HB.out | apply below_alloc | apply pw_below_drewN | apply below_drew1) | exact HB.out), by repeat (first | (with_reducible first | exact HK.out | apply Kept.alloc | apply Kept.drewN | apply Kept.drew) | exact HK.out)⟩
def laws_markSystem.f (k : Nat) (a0_0 : Int) (l0_1 : List Int) (a1 : Int) : Option (Int × List Int) := (laws_markInt64S.f k l0_1 a1).bind fun bt214 => (some (bt214.1, bt214.2))
theorem laws_markSystem.mono : ∀ a0 a1 a2 k, LeO (laws_markSystem.f k a0 a1 a2) (laws_markSystem.f (k + 1) a0 a1 a2) := by
 intro a0 a1 a2 k
 unfold laws_markSystem.f
 repeat' first
   | (with_reducible exact laws_markInt64S.mono _ _ _)
   | (with_reducible exact LeO.refl _)
   | (with_reducible exact LeO.none _)
   | (with_reducible refine LeO.ite ?_ ?_)
   | (with_reducible refine LeO.bind ?_ (fun _ => ?_))
   | exact laws_markInt64S.mono _ _ _
   | exact LeO.none _
   | refine LeO.ite ?_ ?_
   | refine LeO.bind ?_ (fun _ => ?_)
set_option maxHeartbeats 8000000 in
set_option maxRecDepth 100000 in
theorem laws_markSystem.calls (k : Nat) (a0_0 : Int) (P0_1_ : Nat → Prop) (u9000_ : Value) (l0_1 : List Int) (a1 : Int) (r1 : Int) (r2 : List Int) (w0 w : World) (hB : Below w0.heap.size w0 w) (ho0_1 : Kd.R (Kd.int .i64) 2 w w0.heap.size P0_1_ u9000_ l0_1) (h : laws_markSystem.f k a0_0 l0_1 a1 = some (r1, r2)) :
  Calls Try.prog 17 #[.agg #[.int .i64 a0_0, u9000_], .int .i64 a1] w fun e w' => e = .returned (.int .i64 r1) ∧ Kd.R (Kd.int .i64) 2 w' w0.heap.size (fun k_ => (P0_1_ k_ ∨ w.heap.size ≤ k_)) u9000_ r2 ∧ Below w0.heap.size w0 w' ∧ Kept w w' (fun k_ => P0_1_ k_) := by
 have hu31 := Try.underlying31
 have HO0_1 := Aside0.mk (show Kd.R (Kd.int .i64) 2 w w0.heap.size (fun k_ => (P0_1_ k_ ∨ w.heap.size ≤ k_)) u9000_ l0_1 from Kd.R_mono ho0_1 (fun k_ hk => (.inl hk)))
 have HK := Aside0.mk (Kept.refl w (fun k_ => P0_1_ k_))
 have HW0 := Aside0.mk hB.size
 have HB := Aside0.mk hB
 clear hB
 have H : ((laws_markInt64S.f k l0_1 a1).bind fun bt214 => (some (bt214.1, bt214.2))) = some (r1, r2) := h
 clear h
 replace H := Option.bind_eq_some_iff.mp H
 obtain ⟨⟨t214, t215⟩, A30, H⟩ := H
 replace H : (some (t214, t215)) = some (r1, r2) := H
 have A3 := Aside0.mk A30
 clear A30
 simp only [Option.some.injEq, Prod.mk.injEq] at H
 obtain ⟨rfl, rfl⟩ := H
 obtain ⟨Ao4, co4, eo4⟩ := Kd.R_slice HO0_1.out
 subst eo4
 go_enter Try.func17, Try.ntmps17
 go_wp2_with (first | ((with_reducible refine gate_dst (N := 2) rfl ?_); refine box_event ?hg (N := 2) ?hd (cs := #[.int .i64 a0_0, .slice Ao4 l0_1.length co4]) (t := 31) ?hr ?_; (case hd => rfl); (case hg => rfl); (case hr => first | (go_simp; done) | (go_simp; rfl)); intro gb213 hg w5 hbox hb; have n0_ := Aside0.mk (Kd.R_below (by (with_reducible repeat (first | apply Kd.R_alloc | apply Kd.R_drewN | apply Kd.R_drew)); exact HO0_1.out) hb); have n1_ := Aside0.mk (Kept.below (S := (fun k_ => P0_1_ k_)) (by repeat (first | (with_reducible first | exact HK.out | apply Kept.alloc | apply Kept.drewN | apply Kept.drew) | exact HK.out)) hb); have n2_ := Aside0.mk (below_step (by repeat (first | (with_reducible first | exact HB.out | apply below_alloc | apply pw_below_drewN | apply below_drew1) | exact HB.out)) hb); have n3_ := Aside0.mk (hbox); have n4_ := Aside0.mk ((by rw [hg]; exact (by first | exact HK.out.1 | exact (show Kept w _ (fun k_ => P0_1_ k_) from by repeat (first | (with_reducible first | exact HK.out | apply Kept.alloc | apply Kept.drewN | apply Kept.drew) | exact HK.out)).1) : w.heap.size ≤ gb213)); have n5_ := Aside0.mk ((by rw [hg]; exact (below_size (by repeat (first | (with_reducible first | exact HB.out | apply below_alloc | apply pw_below_drewN | apply below_drew1) | exact HB.out))) : w0.heap.size ≤ gb213)); clear HO0_1; clear HK; clear HB; have HO0_1 := n0_; have HK := n1_; have HB := n2_; have BK213 := n3_; have GW213 := n4_; have GE213 := n5_; clear n0_ n1_ n2_ n3_ n4_ n5_; clear hb hbox hg; have hcz6_0 : w5.cell? ⟨gb213, 0, none⟩ = some (.int .i64 a0_0) := (blk_cell BK213.out 0).trans rfl; have hcz6_1 : w5.cell? ⟨gb213, 1, none⟩ = some (.slice Ao4 l0_1.length co4) := (blk_cell BK213.out 1).trans rfl; have hfz6_0 := blk_frozen BK213.out 0; have hfz6_1 := blk_frozen BK213.out 1) | ((with_reducible refine gate_callee (f := 19) rfl ?_); refine goesL_ (some 8) rfl rfl Try.func19 (by kernel_rfl) rfl #[.slice Ao4 l0_1.length co4, .int .i64 a1] rfl (by (try simp only [List.map_toArray, List.map_cons, List.map_nil]); first | done | rfl | (simp only [List.length_drop, List.length_take]; rfl) | (simp only [show ∀ (n_ : Nat) (b_ : Int), Int.tdiv (n_ : Int) b_ = (n_ : Int) / b_ from fun n_ b_ => Int.tdiv_eq_ediv_of_nonneg (Int.natCast_nonneg n_)]; rfl)) ?_; (with_reducible refine (laws_markInt64S.calls k (fun k_ => some k_ = (.slice Ao4 l0_1.length co4 : Value).ownBlock) (.slice Ao4 l0_1.length co4) l0_1 a1 t214 t215 w0 _ ?side1 ?side2 A3.out).mono ?_); (case side1 => repeat (first | (with_reducible first | exact HB.out | apply below_alloc | apply pw_below_drewN | apply below_drew1 | refine below_set ?_ GE213.out) | exact HB.out)); (case side2 => exact Kd.R_tight rfl HO0_1.out); rintro e w7 ⟨rfl, hy0, hb, hkp⟩; refine ⟨_, rfl, ?_⟩; have n0_ := Aside0.mk (Kd.R_reok rfl hy0 (fun k_ e_ => HO0_1.out.1 k_ e_)); have n1_ := Aside0.mk (blk_kept (by (with_reducible repeat (first | refine blk_drewN ?_ _ | refine blk_drew ?_ | refine blk_alloc ?_ _)); exact BK213.out) hkp (fun hs_ => (fun e_ => (Kd.R_ne HO0_1.out BK213.out (by decide)) e_) hs_)); have n2_ := Aside0.mk (Kept.then_ (S := (fun k_ => P0_1_ k_)) (by repeat (first | (with_reducible first | exact HK.out | apply Kept.alloc | apply Kept.drewN | apply Kept.drew | refine Kept.setCell ?_ (.inr GW213.out) _) | exact HK.out)) hkp (fun k_ hs_ => (fun e_ => (HO0_1.out.1 k_ e_.symm)) hs_)); have n3_ := Aside0.mk (hb); clear HO0_1; clear BK213; clear HK; clear HB; have HO0_1 := n0_; have BK213 := n1_; have HK := n2_; have HB := n3_; clear n0_ n1_ n2_ n3_; (try clear hb); (try clear hkp); (try clear hy0)))
 go_ret
 exact ⟨by first | rfl | (simp [errW_none, errW_some] <;> rfl) | (simp [*, errW_none, errW_some] <;> rfl), by (with_reducible repeat (first | apply Kd.R_alloc | apply Kd.R_drewN | apply Kd.R_drew)); exact HO0_1.out, by repeat (first | (with_reducible first | exact HB.out | apply below_alloc | apply pw_below_drewN | apply below_drew1 | refine below_set ?_ GE213.out) | exact HB.out), by repeat (first | (with_reducible first | exact HK.out | apply Kept.alloc | apply Kept.drewN | apply Kept.drew | refine Kept.setCell ?_ (.inr GW213.out) _) | exact HK.out)⟩
end Go.Proofs.Ytdlnhddpgopghaa.Q
namespace Go.Proofs.Ytdlnhddpgopghaa.Q
open Go.RowKit Go.Proofs.YtdlnhddpgopghaaW.PrintWords Go.Proofs.YtdlnhddpgopghaaW.PrintLast Go.Proofs.YtdlnhddpgopghaaW.PrintMore
attribute [local go_sem] max2_int min2_int max_two min_two max_three min_three max_four min_four   -- for this text's walks alone
set_option linter.unusedVariables false
set_option linter.unusedSimpArgs false
def laws_markValues.f (k : Nat) (a0_0 : Int) (l0_1 : List Int) (a1 : Int) : Option (Int × List Int) := (laws_markInt64S.f k l0_1 a1).bind fun bt217 => (some (bt217.1, bt217.2))
theorem laws_markValues.mono : ∀ a0 a1 a2 k, LeO (laws_markValues.f k a0 a1 a2) (laws_markValues.f (k + 1) a0 a1 a2) := by
 intro a0 a1 a2 k
 unfold laws_markValues.f
 repeat' first
   | (with_reducible exact laws_markInt64S.mono _ _ _)
   | (with_reducible exact LeO.refl _)
   | (with_reducible exact LeO.none _)
   | (with_reducible refine LeO.ite ?_ ?_)
   | (with_reducible refine LeO.bind ?_ (fun _ => ?_))
   | exact laws_markInt64S.mono _ _ _
   | exact LeO.none _
   | refine LeO.ite ?_ ?_
   | refine LeO.bind ?_ (fun _ => ?_)
set_option maxHeartbeats 8000000 in
set_option maxRecDepth 100000 in
theorem laws_markValues.calls (k : Nat) (a0_0 : Int) (P0_1_ : Nat → Prop) (u9000_ : Value) (l0_1 : List Int) (a1 : Int) (r1 : Int) (r2 : List Int) (w0 w : World) (hB : Below w0.heap.size w0 w) (ho0_1 : Kd.R (Kd.int .i64) 2 w w0.heap.size P0_1_ u9000_ l0_1) (h : laws_markValues.f k a0_0 l0_1 a1 = some (r1, r2)) :
  Calls Try.prog 18 #[.agg #[.int .i64 a0_0, u9000_], .int .i64 a1] w fun e w' => e = .returned (.int .i64 r1) ∧ Kd.R (Kd.int .i64) 2 w' w0.heap.size (fun k_ => (P0_1_ k_ ∨ w.heap.size ≤ k_)) u9000_ r2 ∧ Below w0.heap.size w0 w' ∧ Kept w w' (fun k_ => P0_1_ k_) := by
 have hu33 := Try.underlying33
 have HO0_1 := Aside0.mk (show Kd.R (Kd.int .i64) 2 w w0.heap.size (fun k_ => (P0_1_ k_ ∨ w.heap.size ≤ k_)) u9000_ l0_1 from Kd.R_mono ho0_1 (fun k_ hk => (.inl hk)))
 have HK := Aside0.mk (Kept.refl w (fun k_ => P0_1_ k_))
 have HW0 := Aside0.mk hB.size
 have HB := Aside0.mk hB
 clear hB
 have H : ((laws_markInt64S.f k l0_1 a1).bind fun bt217 => (some (bt217.1, bt217.2))) = some (r1, r2) := h
 clear h
 replace H := Option.bind_eq_some_iff.mp H
 obtain ⟨⟨t217, t218⟩, A30, H⟩ := H
 replace H : (some (t217, t218)) = some (r1, r2) := H
 have A3 := Aside0.mk A30
 clear A30
 simp only [Option.some.injEq, Prod.mk.injEq] at H
 obtain ⟨rfl, rfl⟩ := H
 obtain ⟨Ao4, co4, eo4⟩ := Kd.R_slice HO0_1.out
 subst eo4
 go_enter Try.func18, Try.ntmps18
 go_wp2_with (first | ((with_reducible refine gate_dst (N := 2) rfl ?_); refine box_event ?hg (N := 2) ?hd (cs := #[.int .i64 a0_0, .slice Ao4 l0_1.length co4]) (t := 33) ?hr ?_; (case hd => rfl); (case hg => rfl); (case hr => first | (go_simp; done) | (go_simp; rfl)); intro gb216 hg w5 hbox hb; have n0_ := Aside0.mk (Kd.R_below (by (with_reducible repeat (first | apply Kd.R_alloc | apply Kd.R_drewN | apply Kd.R_drew)); exact HO0_1.out) hb); have n1_ := Aside0.mk (Kept.below (S := (fun k_ => P0_1_ k_)) (by repeat (first | (with_reducible first | exact HK.out | apply Kept.alloc | apply Kept.drewN | apply Kept.drew) | exact HK.out)) hb); have n2_ := Aside0.mk (below_step (by repeat (first | (with_reducible first | exact HB.out | apply below_alloc | apply pw_below_drewN | apply below_drew1) | exact HB.out)) hb); have n3_ := Aside0.mk (hbox); have n4_ := Aside0.mk ((by rw [hg]; exact (by first | exact HK.out.1 | exact (show Kept w _ (fun k_ => P0_1_ k_) from by repeat (first | (with_reducible first | exact HK.out | apply Kept.alloc | apply Kept.drewN | apply Kept.drew) | exact HK.out)).1) : w.heap.size ≤ gb216)); have n5_ := Aside0.mk ((by rw [hg]; exact (below_size (by repeat (first | (with_reducible first | exact HB.out | apply below_alloc | apply pw_below_drewN | apply below_drew1) | exact HB.out))) : w0.heap.size ≤ gb216)); clear HO0_1; clear HK; clear HB; have HO0_1 := n0_; have HK := n1_; have HB := n2_; have BK216 := n3_; have GW216 := n4_; have GE216 := n5_; clear n0_ n1_ n2_ n3_ n4_ n5_; clear hb hbox hg; have hcz6_0 : w5.cell? ⟨gb216, 0, none⟩ = some (.int .i64 a0_0) := (blk_cell BK216.out 0).trans rfl; have hcz6_1 : w5.cell? ⟨gb216, 1, none⟩ = some (.slice Ao4 l0_1.length co4) := (blk_cell BK216.out 1).trans rfl; have hfz6_0 := blk_frozen BK216.out 0; have hfz6_1 := blk_frozen BK216.out 1) | ((with_reducible refine gate_callee (f := 19) rfl ?_); refine goesL_ (some 8) rfl rfl Try.func19 (by kernel_rfl) rfl #[.slice Ao4 l0_1.length co4, .int .i64 a1] rfl (by (try simp only [List.map_toArray, List.map_cons, List.map_nil]); first | done | rfl | (simp only [List.length_drop, List.length_take]; rfl) | (simp only [show ∀ (n_ : Nat) (b_ : Int), Int.tdiv (n_ : Int) b_ = (n_ : Int) / b_ from fun n_ b_ => Int.tdiv_eq_ediv_of_nonneg (Int.natCast_nonneg n_)]; rfl)) ?_; (with_reducible refine (laws_markInt64S.calls k (fun k_ => some k_ = (.slice Ao4 l0_1.length co4 : Value).ownBlock) (.slice Ao4 l0_1.length co4) l0_1 a1 t217 t218 w0 _ ?side1 ?side2 A3.out).mono ?_); (case side1 => repeat (first | (with_reducible first | exact HB.out | apply below_alloc | apply pw_below_drewN | apply below_drew1 | refine below_set ?_ GE216.out) | exact HB.out)); (case side2 => exact Kd.R_tight rfl HO0_1.out); rintro e w7 ⟨rfl, hy0, hb, hkp⟩; refine ⟨_, rfl, ?_⟩; have n0_ := Aside0.mk (Kd.R_reok rfl hy0 (fun k_ e_ => HO0_1.out.1 k_ e_)); have n1_ := Aside0.mk (blk_kept (by (with_reducible repeat (first | refine blk_drewN ?_ _ | refine blk_drew ?_ | refine blk_alloc ?_ _)); exact BK216.out) hkp (fun hs_ => (fun e_ => (Kd.R_ne HO0_1.out BK216.out (by decide)) e_) hs_)); have n2_ := Aside0.mk (Kept.then_ (S := (fun k_ => P0_1_ k_)) (by repeat (first | (with_reducible first | exact HK.out | apply Kept.alloc | apply Kept.drewN | apply Kept.drew | refine Kept.setCell ?_ (.inr GW216.out) _) | exact HK.out)) hkp (fun k_ hs_ => (fun e_ => (HO0_1.out.1 k_ e_.symm)) hs_)); have n3_ := Aside0.mk (hb); clear HO0_1; clear BK216; clear HK; clear HB; have HO0_1 := n0_; have BK216 := n1_; have HK := n2_; have HB := n3_; clear n0_ n1_ n2_ n3_; (try clear hb); (try clear hkp); (try clear hy0)))
 go_ret
 exact ⟨by first | rfl | (simp [errW_none, errW_some] <;> rfl) | (simp [*, errW_none, errW_some] <;> rfl), by (with_reducible repeat (first | apply Kd.R_alloc | apply Kd.R_drewN | apply Kd.R_drew)); exact HO0_1.out, by repeat (first | (with_reducible first | exact HB.out | apply below_alloc | apply pw_below_drewN | apply below_drew1 | refine below_set ?_ GE216.out) | exact HB.out), by repeat (first | (with_reducible first | exact HK.out | apply Kept.alloc | apply Kept.drewN | apply Kept.drew | refine Kept.setCell ?_ (.inr GW216.out) _) | exact HK.out)⟩
def laws_heldInt64S.l0 : Nat → List Int → Int → Int → Option (Int)
 | 0, _, _, _ => none
 | k + 1, x0, x1, x5 => if x5 < (x0.length : Int) then (if 0 ≤ x5 then (if (rd x0 x5) = x1 then (laws_heldInt64S.l0 k x0 (wrap64 (x1 + 1)) (wrap64 (x5 + 1))) else (some (-1))) else (none)) else (some x1)
def laws_heldInt64S.f (k : Nat) (l0 : List Int) (a1 : Int) : Option (Int) := laws_heldInt64S.l0 k l0 a1 0
theorem laws_heldInt64S.mono_l : ∀ k, (∀ y0 y1 y2, LeO (laws_heldInt64S.l0 k y0 y1 y2) (laws_heldInt64S.l0 (k + 1) y0 y1 y2))
 | 0 => fun _ _ _ r h => by simp [laws_heldInt64S.l0] at h
 | k + 1 => by
  have ih0 := laws_heldInt64S.mono_l k
  ·intro y0 y1 y2
   unfold laws_heldInt64S.l0
   repeat' first
   | (with_reducible exact ih0 _ _ _)
   | (with_reducible exact LeO.refl _)
   | (with_reducible exact LeO.none _)
   | (with_reducible refine LeO.ite ?_ ?_)
   | (with_reducible refine LeO.bind ?_ (fun _ => ?_))
   | exact ih0 _ _ _
   | exact LeO.none _
   | refine LeO.ite ?_ ?_
   | refine LeO.bind ?_ (fun _ => ?_)
theorem laws_heldInt64S.mono : ∀ a0 a1 k, LeO (laws_heldInt64S.f k a0 a1) (laws_heldInt64S.f (k + 1) a0 a1) := by
 intro a0 a1 k
 have ih0 := laws_heldInt64S.mono_l k
 unfold laws_heldInt64S.f
 repeat' first
   | (with_reducible exact ih0 _ _ _)
   | (with_reducible exact LeO.refl _)
   | (with_reducible exact LeO.none _)
   | (with_reducible refine LeO.ite ?_ ?_)
   | (with_reducible refine LeO.bind ?_ (fun _ => ?_))
   | exact ih0 _ _ _
   | exact LeO.none _
   | refine LeO.ite ?_ ?_
   | refine LeO.bind ?_ (fun _ => ?_)
set_option maxHeartbeats 8000000 in
set_option maxRecDepth 100000 in
theorem laws_heldInt64S.calls (k : Nat) (A0 : Option Addr) (c0 : Nat) (l0 : List Int) (a1 : Int) (r : Int) (w : World) (hr0 : Kd.C (Kd.int .i64) w A0 l0.length l0) (hc0 : l0.length ≤ c0) (h : laws_heldInt64S.f k l0 a1 = some r) :
  Calls Try.prog 20 #[.slice A0 l0.length c0, .int .i64 a1] w fun e w' => e = .returned (.int .i64 r) ∧ Drawn0 w w' := by
 have HR0 := Aside0.mk hr0
 have HC0 := Aside0.mk hc0
 clear hr0 hc0
 have H : (laws_heldInt64S.l0 k l0 a1 0) = some r := h
 clear h
 have H' := Aside0.mk H
 clear H
 go_enter Try.func20, Try.ntmps20
 go_wp2
 go_loopg [1, 5] k (fun kq v1 v5 w' => ∃ (x1_1 : Int) (x5_1 : Int), v1 = .int .i64 x1_1 ∧ v5 = .int .i64 x5_1 ∧ Aside0 (laws_heldInt64S.l0 kq l0 x1_1 x5_1 = some r) ∧ Aside0 (kq ≤ k) ∧ Drawn0 w w')
 case atStart => exact ⟨(a1), (0), (by first | rfl | (simp; done) | (simp [*]; done)), (by first | rfl | (simp; done) | (simp [*]; done)), H', ⟨Nat.le_refl _⟩, by repeat (first | exact Drawn0.refl _ | apply Drawn0.step)⟩
 case round =>
  clear H'
  try clear c2
  try clear p2
  obtain ⟨x1_1, x5_1, rfl, rfl, HA, HK1, ⟨m1, rfl⟩⟩ := hrel
  cases gk with
  | zero => exact absurd HA.out (by simp [laws_heldInt64S.l0])
  | succ k1 =>
   have H := HA.out
   clear HA
   simp only [laws_heldInt64S.l0] at H
   by_cases c3 : x5_1 < (l0.length : Int)
   ·rw [if_pos c3] at H
    have c3b0 : decide (x5_1 < (l0.length : Int)) = true := decide_eq_true c3
    clear c3
    by_cases c4 : 0 ≤ x5_1
    ·rw [if_pos c4] at H
     have c4b0 : decide (0 ≤ x5_1) = true := decide_eq_true c4
     clear c4
     by_cases c5 : (rd l0 x5_1) = x1_1
     ·rw [if_pos c5] at H
      have c5b0 : ((rd l0 x5_1) == x1_1) = true := beq_iff_eq.mpr c5
      have c5b1 : ((rd l0 x5_1) != x1_1) = false := bne_eq_false_iff_eq.mpr c5
      clear c5
      have H' := Aside0.mk H
      clear H
      have p219 : 0 ≤ (x5_1 : Int) := of_decide_eq_true (by first | (with_reducible assumption) | assumption)
      have q219 : x5_1 < (l0.length : Int) := of_decide_eq_true (by first | (with_reducible assumption) | assumption)
      obtain ⟨ad219, e219, hx219_0⟩ := Kd.at_int HR0.out x5_1 p219 q219
      cases e219
      replace p219 := eq_true p219
      replace q219 := eq_true q219
      go_wp2
      go_roundg k1
      case measure => have := HK1.out; omega
      case rel => exact ⟨(wrap64 (x1_1 + 1)), (wrap64 (x5_1 + 1)), (by first | rfl | (simp; done) | (simp [*]; done)), (by first | rfl | (simp; done) | (simp [*]; done)), H', ⟨by have := HK1.out; omega⟩, by repeat (first | exact Drawn0.refl _ | apply Drawn0.step)⟩
     ·rw [if_neg c5] at H
      have c5b0 : ((rd l0 x5_1) == x1_1) = false := beq_eq_false_iff_ne.mpr c5
      have c5b1 : ((rd l0 x5_1) != x1_1) = true := bne_iff_ne.mpr c5
      obtain rfl := Option.some.inj H
      have p219 : 0 ≤ (x5_1 : Int) := of_decide_eq_true (by first | (with_reducible assumption) | assumption)
      have q219 : x5_1 < (l0.length : Int) := of_decide_eq_true (by first | (with_reducible assumption) | assumption)
      obtain ⟨ad219, e219, hx219_0⟩ := Kd.at_int HR0.out x5_1 p219 q219
      cases e219
      replace p219 := eq_true p219
      replace q219 := eq_true q219
      go_wp2
      go_ret
      exact ⟨by first | rfl | (simp; done) | (simp [*]; done), by repeat (first | exact Drawn0.refl _ | apply Drawn0.step)⟩
    ·rw [if_neg c4] at H
     exact absurd H (by simp)
   ·rw [if_neg c3] at H
    have c3b0 : decide (x5_1 < (l0.length : Int)) = false := decide_eq_false c3
    clear c3
    obtain rfl := Option.some.inj H
    go_wp2
    go_ret
    exact ⟨by first | rfl | (simp; done) | (simp [*]; done), by repeat (first | exact Drawn0.refl _ | apply Drawn0.step)⟩
end Go.Proofs.Ytdlnhddpgopghaa.Q
namespace Go.Proofs.Ytdlnhddpgopghaa.Q
open Go.RowKit Go.Proofs.YtdlnhddpgopghaaW.PrintWords Go.Proofs.YtdlnhddpgopghaaW.PrintLast Go.Proofs.YtdlnhddpgopghaaW.PrintMore
set_option linter.unusedVariables false
set_option linter.unusedSimpArgs false
def laws_FnExactSystemRounding.f (k : Nat) (a0_0 : Int) (l0_1 : List Int) (a1_0 : Int) (l1_1 : List Int) : Option Bool := (laws_szSystem.f a0_0 l0_1 1048576).bind fun bt3 => (if bt3 < 0 then some true else ((laws_szValues.f a1_0 l1_1 bt3).bind fun bt4 => (if bt4 < 0 then some true else ((laws_toSystem.f k a0_0 l0_1).bind fun bt5 => ((laws_toValues.f k a1_0 l1_1).bind fun bt8 => ((spec_SystemRounding.f k bt5.1 bt5.2 bt8.1 bt8.2).bind fun bt11 => ((laws_toSystem.f k a0_0 l0_1).bind fun bt15 => ((laws_toValues.f k a1_0 l1_1).bind fun bt19 => ((impl_SystemRounding.f k bt15.1 bt15.2 bt19.1 bt19.2).bind fun bt23 => ((laws_eqInt64S.f k bt23.1 bt11.1).bind fun bt27 => (if bt27 = true then (if bt23.2.1 = bt11.2.1 then (if bt23.2.2 = bt11.2.2 then ((laws_toSystem.f k a0_0 l0_1).bind fun bt28 => ((laws_eqSystem.f k bt15.1 bt15.2 bt28.1 bt28.2).bind fun bt31 => (if bt31 = true then ((laws_toValues.f k a1_0 l1_1).bind fun bt32 => ((laws_eqValues.f k bt19.1 bt19.2 bt32.1 bt32.2).bind fun bt35 => (if bt35 = true then ((laws_markSystem.f k bt15.1 bt15.2 1).bind fun bt36 => ((laws_markValues.f k bt19.1 bt19.2 bt36.1).bind fun bt38 => (if bt38.1 < 0 then some false else ((laws_eqInt64S.f k bt23.1 bt11.1).bind fun bt40 => (if bt40 = true then ((laws_markInt64S.f k bt23.1 1).bind fun bt41 => ((laws_heldInt64S.f k bt41.2 1).bind fun bt43 => (if bt43 < 0 then some false else (if bt43 = bt41.1 then ((laws_toSystem.f k a0_0 l0_1).bind fun bt44 => ((laws_toValues.f k a1_0 l1_1).bind fun bt47 => ((impl_SystemRounding.f k bt44.1 bt44.2 bt47.1 bt47.2).bind fun bt50 => ((laws_eqInt64S.f k bt50.1 bt11.1).bind fun bt54 => (if bt54 = true then (if bt50.2.1 = bt23.2.1 then (if bt50.2.2 = bt23.2.2 then ((laws_heldInt64S.f k bt41.2 1).bind fun bt55 => (if bt55 < 0 then some false else (if bt55 = bt43 then (some true) else some false))) else some false) else some false) else some false))))) else some false)))) else some false))))) else some false))) else some false))) else some false) else some false) else some false)))))))))))
def laws_FnExactSystemRounding.Pure : Prop := ∀ (a0_0 : Int) (l0_1 : List Int) (a1_0 : Int) (l1_1 : List Int), (Lit.int .i64 a0_0).wf = true → (l0_1.length ≤ maxLen ∧ ∀ y ∈ l0_1, (Lit.int .i64 y).wf = true) → (Lit.int .i64 a1_0).wf = true → (l1_1.length ≤ maxLen ∧ ∀ y ∈ l1_1, (Lit.int .i64 y).wf = true) → ∃ k, laws_FnExactSystemRounding.f k a0_0 l0_1 a1_0 l1_1 = some true
set_option maxHeartbeats 16000000 in
set_option maxRecDepth 100000 in
theorem laws_FnExactSystemRounding.calls (k : Nat) (a0_0 : Int) (A0_1 : Option Addr) (c0_1 : Nat) (l0_1 : List Int) (a1_0 : Int) (A1_1 : Option Addr) (c1_1 : Nat) (l1_1 : List Int) (w : World) (hr0_1 : Kd.C (Kd.int .i64) w A0_1 l0_1.length l0_1) (hc0_1 : l0_1.length ≤ c0_1) (hr1_1 : Kd.C (Kd.int .i64) w A1_1 l1_1.length l1_1) (hc1_1 : l1_1.length ≤ c1_1) (h : laws_FnExactSystemRounding.f k a0_0 l0_1 a1_0 l1_1 = some true) :
  Calls Try.prog 3 #[.agg #[.int .i64 a0_0, .slice A0_1 l0_1.length c0_1], .agg #[.int .i64 a1_0, .slice A1_1 l1_1.length c1_1]] w fun e w' => e = .returned (.bool true) ∧ Below w.heap.size w w' := by
 have HR0_1 := Aside0.mk hr0_1
 have HC0_1 := Aside0.mk hc0_1
 clear hr0_1 hc0_1
 have HR1_1 := Aside0.mk hr1_1
 have HC1_1 := Aside0.mk hc1_1
 clear hr1_1 hc1_1
 have HB := Aside0.mk (Below.refl w.heap.size w)
 have H := h
 clear h
 unfold laws_FnExactSystemRounding.f at H
 replace H := Option.bind_eq_some_iff.mp H
 obtain ⟨t3, E10, H⟩ := H
 (try dsimp only at H)
 have E1 := Aside0.mk E10
 clear E10
 by_cases c1 : t3 < 0
 ·clear H
  have c1b : decide (t3 < 0) = true := decide_eq_true c1
  clear c1
  go_enter Try.func3, Try.ntmps3
  go_wp2_with (first | ((with_reducible refine gate_dst (N := 2) rfl ?_); refine box_event ?hg (N := 2) ?hd (cs := #[.int .i64 a0_0, .slice A0_1 l0_1.length c0_1]) (t := 24) ?hr ?_; (case hd => rfl); (case hg => rfl); (case hr => first | (go_simp; done) | (go_simp; rfl)); intro gb1 hg w_1 hbox hb; have n0_ := Aside0.mk (below_step HB.out hb); have n1_ := Aside0.mk (hbox); have n2_ := Aside0.mk (blk_lt hbox); have n3_ := Aside0.mk (by rw [hg]; exact below_size HB.out : w.heap.size ≤ gb1); clear HB; have HB := n0_; have BKgb1 := n1_; have GUgb1 := n2_; have GEgb1 := n3_; clear n0_ n1_ n2_ n3_; clear hb hbox hg; (try clear hczgb1_0); (try clear hfzgb1_0); (try clear hczgb1_1); (try clear hfzgb1_1); have hczgb1_0 : w_1.cell? ⟨gb1, 0, none⟩ = some (.int .i64 a0_0) := (blk_cell BKgb1.out 0).trans rfl; have hfzgb1_0 := blk_frozen BKgb1.out 0; have hczgb1_1 : w_1.cell? ⟨gb1, 1, none⟩ = some (.slice A0_1 l0_1.length c0_1) := (blk_cell BKgb1.out 1).trans rfl; have hfzgb1_1 := blk_frozen BKgb1.out 1) | ((with_reducible refine gate_dst (N := 3) rfl ?_); refine box_event ?hg (N := 3) ?hd (cs := #[.int .i64 a1_0, .slice A1_1 l1_1.length c1_1]) (t := 26) ?hr ?_; (case hd => rfl); (case hg => rfl); (case hr => first | (go_simp; done) | (go_simp; rfl)); intro gb2 hg w_2 hbox hb; have n0_ := Aside0.mk (blk_below (g := gb1) BKgb1.out hb); have n1_ := Aside0.mk (Nat.lt_of_lt_of_le GUgb1.out hb.size); have n2_ := Aside0.mk (below_step HB.out hb); have n3_ := Aside0.mk (hbox); have n4_ := Aside0.mk (blk_lt hbox); have n5_ := Aside0.mk (by rw [hg]; exact below_size HB.out : w.heap.size ≤ gb2); have n6_ := Aside0.mk (by have := GUgb1.out; rw [← hg] at this; omega : gb1 ≠ gb2); have n7_ := Aside0.mk (by have := GUgb1.out; rw [← hg] at this; omega : gb2 ≠ gb1); clear BKgb1; clear GUgb1; clear HB; have BKgb1 := n0_; have GUgb1 := n1_; have HB := n2_; have BKgb2 := n3_; have GUgb2 := n4_; have GEgb2 := n5_; have NBgb1_gb2 := n6_; have NBgb2_gb1 := n7_; clear n0_ n1_ n2_ n3_ n4_ n5_ n6_ n7_; clear hb hbox hg; (try clear hczgb1_0); (try clear hfzgb1_0); (try clear hczgb1_1); (try clear hfzgb1_1); (try clear hczgb2_0); (try clear hfzgb2_0); (try clear hczgb2_1); (try clear hfzgb2_1); have hczgb1_0 : w_2.cell? ⟨gb1, 0, none⟩ = some (.int .i64 a0_0) := (blk_cell BKgb1.out 0).trans rfl; have hfzgb1_0 := blk_frozen BKgb1.out 0; have hczgb1_1 : w_2.cell? ⟨gb1, 1, none⟩ = some (.slice A0_1 l0_1.length c0_1) := (blk_cell BKgb1.out 1).trans rfl; have hfzgb1_1 := blk_frozen BKgb1.out 1; have hczgb2_0 : w_2.cell? ⟨gb2, 0, none⟩ = some (.int .i64 a1_0) := (blk_cell BKgb2.out 0).trans rfl; have hfzgb2_0 := blk_frozen BKgb2.out 0; have hczgb2_1 : w_2.cell? ⟨gb2, 1, none⟩ = some (.slice A1_1 l1_1.length c1_1) := (blk_cell BKgb2.out 1).trans rfl; have hfzgb2_1 := blk_frozen BKgb2.out 1) | ((with_reducible refine gate_callee (f := 8) rfl ?_); refine goesL_ (some 22) rfl rfl Try.func8 (by kernel_rfl) rfl #[.agg #[.int .i64 a0_0, .slice A0_1 l0_1.length c0_1], .int .i64 1048576] rfl (by (try simp only [List.map_toArray, List.map_cons, List.map_nil]); first | done | rfl) ?_; (with_reducible refine (laws_szSystem.calls a0_0 _ _ l0_1 1048576 t3 _ ?side1 ?side2 E1.out).mono ?_); (case side1 => exact Kd.C_below HR0_1.out HB.out); (case side2 => exact HC0_1.out); rintro e w_3 ⟨rfl, hb⟩; refine ⟨_, rfl, ?_⟩; have n0_ := Aside0.mk (blk_below (g := gb1) BKgb1.out hb); have n1_ := Aside0.mk (blk_below (g := gb2) BKgb2.out hb); have n2_ := Aside0.mk (Nat.lt_of_lt_of_le GUgb1.out hb.size); have n3_ := Aside0.mk (Nat.lt_of_lt_of_le GUgb2.out hb.size); have n4_ := Aside0.mk (below_step HB.out hb); clear BKgb1; clear BKgb2; clear GUgb1; clear GUgb2; clear HB; have BKgb1 := n0_; have BKgb2 := n1_; have GUgb1 := n2_; have GUgb2 := n3_; have HB := n4_; clear n0_ n1_ n2_ n3_ n4_; clear hb; (try clear hczgb1_0); (try clear hfzgb1_0); (try clear hczgb1_1); (try clear hfzgb1_1); (try clear hczgb2_0); (try clear hfzgb2_0); (try clear hczgb2_1); (try clear hfzgb2_1); have hczgb1_0 : w_3.cell? ⟨gb1, 0, none⟩ = some (.int .i64 a0_0) := (blk_cell BKgb1.out 0).trans rfl; have hfzgb1_0 := blk_frozen BKgb1.out 0; have hczgb1_1 : w_3.cell? ⟨gb1, 1, none⟩ = some (.slice A0_1 l0_1.length c0_1) := (blk_cell BKgb1.out 1).trans rfl; have hfzgb1_1 := blk_frozen BKgb1.out 1; have hczgb2_0 : w_3.cell? ⟨gb2, 0, none⟩ = some (.int .i64 a1_0) := (blk_cell BKgb2.out 0).trans rfl; have hfzgb2_0 := blk_frozen BKgb2.out 0; have hczgb2_1 : w_3.cell? ⟨gb2, 1, none⟩ = some (.slice A1_1 l1_1.length c1_1) := (blk_cell BKgb2.out 1).trans rfl; have hfzgb2_1 := blk_frozen BKgb2.out 1))
  go_ret
  exact ⟨by first | rfl | (simp; done) | (simp [*]; done), HB.out⟩
 rw [if_neg c1] at H
 have c1b : decide (t3 < 0) = false := decide_eq_false c1
 clear c1
 replace H := Option.bind_eq_some_iff.mp H
 obtain ⟨t4, E30, H⟩ := H
 (try dsimp only at H)
 have E3 := Aside0.mk E30
 clear E30
 by_cases c3 : t4 < 0
 ·clear H
  have c3b : decide (t4 < 0) = true := decide_eq_true c3
  clear c3
  go_enter Try.func3, Try.ntmps3
  go_wp2_with (first | ((with_reducible refine gate_dst (N := 2) rfl ?_); refine box_event ?hg (N := 2) ?hd (cs := #[.int .i64 a0_0, .slice A0_1 l0_1.length c0_1]) (t := 24) ?hr ?_; (case hd => rfl); (case hg => rfl); (case hr => first | (go_simp; done) | (go_simp; rfl)); intro gb1 hg w_1 hbox hb; have n0_ := Aside0.mk (below_step HB.out hb); have n1_ := Aside0.mk (hbox); have n2_ := Aside0.mk (blk_lt hbox); have n3_ := Aside0.mk (by rw [hg]; exact below_size HB.out : w.heap.size ≤ gb1); clear HB; have HB := n0_; have BKgb1 := n1_; have GUgb1 := n2_; have GEgb1 := n3_; clear n0_ n1_ n2_ n3_; clear hb hbox hg; (try clear hczgb1_0); (try clear hfzgb1_0); (try clear hczgb1_1); (try clear hfzgb1_1); have hczgb1_0 : w_1.cell? ⟨gb1, 0, none⟩ = some (.int .i64 a0_0) := (blk_cell BKgb1.out 0).trans rfl; have hfzgb1_0 := blk_frozen BKgb1.out 0; have hczgb1_1 : w_1.cell? ⟨gb1, 1, none⟩ = some (.slice A0_1 l0_1.length c0_1) := (blk_cell BKgb1.out 1).trans rfl; have hfzgb1_1 := blk_frozen BKgb1.out 1) | ((with_reducible refine gate_dst (N := 3) rfl ?_); refine box_event ?hg (N := 3) ?hd (cs := #[.int .i64 a1_0, .slice A1_1 l1_1.length c1_1]) (t := 26) ?hr ?_; (case hd => rfl); (case hg => rfl); (case hr => first | (go_simp; done) | (go_simp; rfl)); intro gb2 hg w_2 hbox hb; have n0_ := Aside0.mk (blk_below (g := gb1) BKgb1.out hb); have n1_ := Aside0.mk (Nat.lt_of_lt_of_le GUgb1.out hb.size); have n2_ := Aside0.mk (below_step HB.out hb); have n3_ := Aside0.mk (hbox); have n4_ := Aside0.mk (blk_lt hbox); have n5_ := Aside0.mk (by rw [hg]; exact below_size HB.out : w.heap.size ≤ gb2); have n6_ := Aside0.mk (by have := GUgb1.out; rw [← hg] at this; omega : gb1 ≠ gb2); have n7_ := Aside0.mk (by have := GUgb1.out; rw [← hg] at this; omega : gb2 ≠ gb1); clear BKgb1; clear GUgb1; clear HB; have BKgb1 := n0_; have GUgb1 := n1_; have HB := n2_; have BKgb2 := n3_; have GUgb2 := n4_; have GEgb2 := n5_; have NBgb1_gb2 := n6_; have NBgb2_gb1 := n7_; clear n0_ n1_ n2_ n3_ n4_ n5_ n6_ n7_; clear hb hbox hg; (try clear hczgb1_0); (try clear hfzgb1_0); (try clear hczgb1_1); (try clear hfzgb1_1); (try clear hczgb2_0); (try clear hfzgb2_0); (try clear hczgb2_1); (try clear hfzgb2_1); have hczgb1_0 : w_2.cell? ⟨gb1, 0, none⟩ = some (.int .i64 a0_0) := (blk_cell BKgb1.out 0).trans rfl; have hfzgb1_0 := blk_frozen BKgb1.out 0; have hczgb1_1 : w_2.cell? ⟨gb1, 1, none⟩ = some (.slice A0_1 l0_1.length c0_1) := (blk_cell BKgb1.out 1).trans rfl; have hfzgb1_1 := blk_frozen BKgb1.out 1; have hczgb2_0 : w_2.cell? ⟨gb2, 0, none⟩ = some (.int .i64 a1_0) := (blk_cell BKgb2.out 0).trans rfl; have hfzgb2_0 := blk_frozen BKgb2.out 0; have hczgb2_1 : w_2.cell? ⟨gb2, 1, none⟩ = some (.slice A1_1 l1_1.length c1_1) := (blk_cell BKgb2.out 1).trans rfl; have hfzgb2_1 := blk_frozen BKgb2.out 1) | ((with_reducible refine gate_callee (f := 8) rfl ?_); refine goesL_ (some 22) rfl rfl Try.func8 (by kernel_rfl) rfl #[.agg #[.int .i64 a0_0, .slice A0_1 l0_1.length c0_1], .int .i64 1048576] rfl (by (try simp only [List.map_toArray, List.map_cons, List.map_nil]); first | done | rfl) ?_; (with_reducible refine (laws_szSystem.calls a0_0 _ _ l0_1 1048576 t3 _ ?side1 ?side2 E1.out).mono ?_); (case side1 => exact Kd.C_below HR0_1.out HB.out); (case side2 => exact HC0_1.out); rintro e w_3 ⟨rfl, hb⟩; refine ⟨_, rfl, ?_⟩; have n0_ := Aside0.mk (blk_below (g := gb1) BKgb1.out hb); have n1_ := Aside0.mk (blk_below (g := gb2) BKgb2.out hb); have n2_ := Aside0.mk (Nat.lt_of_lt_of_le GUgb1.out hb.size); have n3_ := Aside0.mk (Nat.lt_of_lt_of_le GUgb2.out hb.size); have n4_ := Aside0.mk (below_step HB.out hb); clear BKgb1; clear BKgb2; clear GUgb1; clear GUgb2; clear HB; have BKgb1 := n0_; have BKgb2 := n1_; have GUgb1 := n2_; have GUgb2 := n3_; have HB := n4_; clear n0_ n1_ n2_ n3_ n4_; clear hb; (try clear hczgb1_0); (try clear hfzgb1_0); (try clear hczgb1_1); (try clear hfzgb1_1); (try clear hczgb2_0); (try clear hfzgb2_0); (try clear hczgb2_1); (try clear hfzgb2_1); have hczgb1_0 : w_3.cell? ⟨gb1, 0, none⟩ = some (.int .i64 a0_0) := (blk_cell BKgb1.out 0).trans rfl; have hfzgb1_0 := blk_frozen BKgb1.out 0; have hczgb1_1 : w_3.cell? ⟨gb1, 1, none⟩ = some (.slice A0_1 l0_1.length c0_1) := (blk_cell BKgb1.out 1).trans rfl; have hfzgb1_1 := blk_frozen BKgb1.out 1; have hczgb2_0 : w_3.cell? ⟨gb2, 0, none⟩ = some (.int .i64 a1_0) := (blk_cell BKgb2.out 0).trans rfl; have hfzgb2_0 := blk_frozen BKgb2.out 0; have hczgb2_1 : w_3.cell? ⟨gb2, 1, none⟩ = some (.slice A1_1 l1_1.length c1_1) := (blk_cell BKgb2.out 1).trans rfl; have hfzgb2_1 := blk_frozen BKgb2.out 1) | ((with_reducible refine gate_callee (f := 9) rfl ?_); refine goesL_ (some 27) rfl rfl Try.func9 (by kernel_rfl) rfl #[.agg #[.int .i64 a1_0, .slice A1_1 l1_1.length c1_1], .int .i64 t3] rfl (by (try simp only [List.map_toArray, List.map_cons, List.map_nil]); first | done | rfl) ?_; (with_reducible refine (laws_szValues.calls a1_0 _ _ l1_1 t3 t4 _ ?side1 ?side2 E3.out).mono ?_); (case side1 => exact Kd.C_below HR1_1.out HB.out); (case side2 => exact HC1_1.out); rintro e w_4 ⟨rfl, hb⟩; refine ⟨_, rfl, ?_⟩; have n0_ := Aside0.mk (blk_below (g := gb1) BKgb1.out hb); have n1_ := Aside0.mk (blk_below (g := gb2) BKgb2.out hb); have n2_ := Aside0.mk (Nat.lt_of_lt_of_le GUgb1.out hb.size); have n3_ := Aside0.mk (Nat.lt_of_lt_of_le GUgb2.out hb.size); have n4_ := Aside0.mk (below_step HB.out hb); clear BKgb1; clear BKgb2; clear GUgb1; clear GUgb2; clear HB; have BKgb1 := n0_; have BKgb2 := n1_; have GUgb1 := n2_; have GUgb2 := n3_; have HB := n4_; clear n0_ n1_ n2_ n3_ n4_; clear hb; (try clear hczgb1_0); (try clear hfzgb1_0); (try clear hczgb1_1); (try clear hfzgb1_1); (try clear hczgb2_0); (try clear hfzgb2_0); (try clear hczgb2_1); (try clear hfzgb2_1); have hczgb1_0 : w_4.cell? ⟨gb1, 0, none⟩ = some (.int .i64 a0_0) := (blk_cell BKgb1.out 0).trans rfl; have hfzgb1_0 := blk_frozen BKgb1.out 0; have hczgb1_1 : w_4.cell? ⟨gb1, 1, none⟩ = some (.slice A0_1 l0_1.length c0_1) := (blk_cell BKgb1.out 1).trans rfl; have hfzgb1_1 := blk_frozen BKgb1.out 1; have hczgb2_0 : w_4.cell? ⟨gb2, 0, none⟩ = some (.int .i64 a1_0) := (blk_cell BKgb2.out 0).trans rfl; have hfzgb2_0 := blk_frozen BKgb2.out 0; have hczgb2_1 : w_4.cell? ⟨gb2, 1, none⟩ = some (.slice A1_1 l1_1.length c1_1) := (blk_cell BKgb2.out 1).trans rfl; have hfzgb2_1 := blk_frozen BKgb2.out 1))
  go_ret
  exact ⟨by first | rfl | (simp; done) | (simp [*]; done), HB.out⟩
 rw [if_neg c3] at H
 have c3b : decide (t4 < 0) = false := decide_eq_false c3
 clear c3
 replace H := Option.bind_eq_some_iff.mp H
 obtain ⟨⟨t5, t6⟩, E50, H⟩ := H
 (try dsimp only at H)
 have E5 := Aside0.mk E50
 clear E50
 replace H := Option.bind_eq_some_iff.mp H
 obtain ⟨⟨t8, t9⟩, E60, H⟩ := H
 (try dsimp only at H)
 have E6 := Aside0.mk E60
 clear E60
 replace H := Option.bind_eq_some_iff.mp H
 obtain ⟨⟨t11, t12, t13⟩, E70, H⟩ := H
 (try dsimp only at H)
 have E7 := Aside0.mk E70
 clear E70
 replace H := Option.bind_eq_some_iff.mp H
 obtain ⟨⟨t15, t16⟩, E80, H⟩ := H
 (try dsimp only at H)
 have E8 := Aside0.mk E80
 clear E80
 replace H := Option.bind_eq_some_iff.mp H
 obtain ⟨⟨t19, t20⟩, E90, H⟩ := H
 (try dsimp only at H)
 have E9 := Aside0.mk E90
 clear E90
 replace H := Option.bind_eq_some_iff.mp H
 obtain ⟨⟨t23, t24, t25⟩, E100, H⟩ := H
 (try dsimp only at H)
 have E10 := Aside0.mk E100
 clear E100
 replace H := Option.bind_eq_some_iff.mp H
 obtain ⟨t27, E110, H⟩ := H
 (try dsimp only at H)
 have E11 := Aside0.mk E110
 clear E110
 by_cases c11 : t27 = true
 rotate_left
 ·rw [if_neg c11] at H; exact absurd H (by simp)
 rw [if_pos c11] at H
 subst c11
 by_cases c12 : t24 = t12
 rotate_left
 ·rw [if_neg c12] at H; exact absurd H (by simp)
 rw [if_pos c12] at H
 subst c12
 by_cases c13 : t25 = t13
 rotate_left
 ·rw [if_neg c13] at H; exact absurd H (by simp)
 rw [if_pos c13] at H
 subst c13
 replace H := Option.bind_eq_some_iff.mp H
 obtain ⟨⟨t28, t29⟩, E150, H⟩ := H
 (try dsimp only at H)
 have E15 := Aside0.mk E150
 clear E150
 replace H := Option.bind_eq_some_iff.mp H
 obtain ⟨t31, E160, H⟩ := H
 (try dsimp only at H)
 have E16 := Aside0.mk E160
 clear E160
 by_cases c16 : t31 = true
 rotate_left
 ·rw [if_neg c16] at H; exact absurd H (by simp)
 rw [if_pos c16] at H
 subst c16
 replace H := Option.bind_eq_some_iff.mp H
 obtain ⟨⟨t32, t33⟩, E180, H⟩ := H
 (try dsimp only at H)
 have E18 := Aside0.mk E180
 clear E180
 replace H := Option.bind_eq_some_iff.mp H
 obtain ⟨t35, E190, H⟩ := H
 (try dsimp only at H)
 have E19 := Aside0.mk E190
 clear E190
 by_cases c19 : t35 = true
 rotate_left
 ·rw [if_neg c19] at H; exact absurd H (by simp)
 rw [if_pos c19] at H
 subst c19
 replace H := Option.bind_eq_some_iff.mp H
 obtain ⟨⟨t36, t37⟩, E210, H⟩ := H
 (try dsimp only at H)
 have E21 := Aside0.mk E210
 clear E210
 replace H := Option.bind_eq_some_iff.mp H
 obtain ⟨⟨t38, t39⟩, E220, H⟩ := H
 (try dsimp only at H)
 have E22 := Aside0.mk E220
 clear E220
 by_cases c22 : t38 < 0
 ·rw [if_pos c22] at H; exact absurd H (by simp)
 rw [if_neg c22] at H
 have c22b : decide (t38 < 0) = false := decide_eq_false c22
 clear c22
 replace H := Option.bind_eq_some_iff.mp H
 obtain ⟨t40, E240, H⟩ := H
 (try dsimp only at H)
 have E24 := Aside0.mk E240
 clear E240
 by_cases c24 : t40 = true
 rotate_left
 ·rw [if_neg c24] at H; exact absurd H (by simp)
 rw [if_pos c24] at H
 subst c24
 replace H := Option.bind_eq_some_iff.mp H
 obtain ⟨⟨t41, t42⟩, E260, H⟩ := H
 (try dsimp only at H)
 have E26 := Aside0.mk E260
 clear E260
 replace H := Option.bind_eq_some_iff.mp H
 obtain ⟨t43, E270, H⟩ := H
 (try dsimp only at H)
 have E27 := Aside0.mk E270
 clear E270
 by_cases c27 : t43 < 0
 ·rw [if_pos c27] at H; exact absurd H (by simp)
 rw [if_neg c27] at H
 have c27b : decide (t43 < 0) = false := decide_eq_false c27
 clear c27
 by_cases c28 : t43 = t41
 rotate_left
 ·rw [if_neg c28] at H; exact absurd H (by simp)
 rw [if_pos c28] at H
 subst c28
 replace H := Option.bind_eq_some_iff.mp H
 obtain ⟨⟨t44, t45⟩, E300, H⟩ := H
 (try dsimp only at H)
 have E30 := Aside0.mk E300
 clear E300
 replace H := Option.bind_eq_some_iff.mp H
 obtain ⟨⟨t47, t48⟩, E310, H⟩ := H
 (try dsimp only at H)
 have E31 := Aside0.mk E310
 clear E310
 replace H := Option.bind_eq_some_iff.mp H
 obtain ⟨⟨t50, t51, t52⟩, E320, H⟩ := H
 (try dsimp only at H)
 have E32 := Aside0.mk E320
 clear E320
 replace H := Option.bind_eq_some_iff.mp H
 obtain ⟨t54, E330, H⟩ := H
 (try dsimp only at H)
 have E33 := Aside0.mk E330
 clear E330
 by_cases c33 : t54 = true
 rotate_left
 ·rw [if_neg c33] at H; exact absurd H (by simp)
 rw [if_pos c33] at H
 subst c33
 by_cases c34 : t51 = t24
 rotate_left
 ·rw [if_neg c34] at H; exact absurd H (by simp)
 rw [if_pos c34] at H
 subst c34
 by_cases c35 : t52 = t25
 rotate_left
 ·rw [if_neg c35] at H; exact absurd H (by simp)
 rw [if_pos c35] at H
 subst c35
 replace H := Option.bind_eq_some_iff.mp H
 obtain ⟨t55, E370, H⟩ := H
 (try dsimp only at H)
 have E37 := Aside0.mk E370
 clear E370
 by_cases c37 : t55 < 0
 ·rw [if_pos c37] at H; exact absurd H (by simp)
 rw [if_neg c37] at H
 have c37b : decide (t55 < 0) = false := decide_eq_false c37
 clear c37
 by_cases c38 : t55 = t43
 rotate_left
 ·rw [if_neg c38] at H; exact absurd H (by simp)
 rw [if_pos c38] at H
 subst c38
 clear H
 go_enter Try.func3, Try.ntmps3
 go_wp2_with (first | ((with_reducible refine gate_dst (N := 2) rfl ?_); refine box_event ?hg (N := 2) ?hd (cs := #[.int .i64 a0_0, .slice A0_1 l0_1.length c0_1]) (t := 24) ?hr ?_; (case hd => rfl); (case hg => rfl); (case hr => first | (go_simp; done) | (go_simp; rfl)); intro gb1 hg w_1 hbox hb; have n0_ := Aside0.mk (below_step HB.out hb); have n1_ := Aside0.mk (hbox); have n2_ := Aside0.mk (blk_lt hbox); have n3_ := Aside0.mk (by rw [hg]; exact below_size HB.out : w.heap.size ≤ gb1); clear HB; have HB := n0_; have BKgb1 := n1_; have GUgb1 := n2_; have GEgb1 := n3_; clear n0_ n1_ n2_ n3_; clear hb hbox hg; (try clear hczgb1_0); (try clear hfzgb1_0); (try clear hczgb1_1); (try clear hfzgb1_1); have hczgb1_0 : w_1.cell? ⟨gb1, 0, none⟩ = some (.int .i64 a0_0) := (blk_cell BKgb1.out 0).trans rfl; have hfzgb1_0 := blk_frozen BKgb1.out 0; have hczgb1_1 : w_1.cell? ⟨gb1, 1, none⟩ = some (.slice A0_1 l0_1.length c0_1) := (blk_cell BKgb1.out 1).trans rfl; have hfzgb1_1 := blk_frozen BKgb1.out 1) | ((with_reducible refine gate_dst (N := 3) rfl ?_); refine box_event ?hg (N := 3) ?hd (cs := #[.int .i64 a1_0, .slice A1_1 l1_1.length c1_1]) (t := 26) ?hr ?_; (case hd => rfl); (case hg => rfl); (case hr => first | (go_simp; done) | (go_simp; rfl)); intro gb2 hg w_2 hbox hb; have n0_ := Aside0.mk (blk_below (g := gb1) BKgb1.out hb); have n1_ := Aside0.mk (Nat.lt_of_lt_of_le GUgb1.out hb.size); have n2_ := Aside0.mk (below_step HB.out hb); have n3_ := Aside0.mk (hbox); have n4_ := Aside0.mk (blk_lt hbox); have n5_ := Aside0.mk (by rw [hg]; exact below_size HB.out : w.heap.size ≤ gb2); have n6_ := Aside0.mk (by have := GUgb1.out; rw [← hg] at this; omega : gb1 ≠ gb2); have n7_ := Aside0.mk (by have := GUgb1.out; rw [← hg] at this; omega : gb2 ≠ gb1); clear BKgb1; clear GUgb1; clear HB; have BKgb1 := n0_; have GUgb1 := n1_; have HB := n2_; have BKgb2 := n3_; have GUgb2 := n4_; have GEgb2 := n5_; have NBgb1_gb2 := n6_; have NBgb2_gb1 := n7_; clear n0_ n1_ n2_ n3_ n4_ n5_ n6_ n7_; clear hb hbox hg; (try clear hczgb1_0); (try clear hfzgb1_0); (try clear hczgb1_1); (try clear hfzgb1_1); (try clear hczgb2_0); (try clear hfzgb2_0); (try clear hczgb2_1); (try clear hfzgb2_1); have hczgb1_0 : w_2.cell? ⟨gb1, 0, none⟩ = some (.int .i64 a0_0) := (blk_cell BKgb1.out 0).trans rfl; have hfzgb1_0 := blk_frozen BKgb1.out 0; have hczgb1_1 : w_2.cell? ⟨gb1, 1, none⟩ = some (.slice A0_1 l0_1.length c0_1) := (blk_cell BKgb1.out 1).trans rfl; have hfzgb1_1 := blk_frozen BKgb1.out 1; have hczgb2_0 : w_2.cell? ⟨gb2, 0, none⟩ = some (.int .i64 a1_0) := (blk_cell BKgb2.out 0).trans rfl; have hfzgb2_0 := blk_frozen BKgb2.out 0; have hczgb2_1 : w_2.cell? ⟨gb2, 1, none⟩ = some (.slice A1_1 l1_1.length c1_1) := (blk_cell BKgb2.out 1).trans rfl; have hfzgb2_1 := blk_frozen BKgb2.out 1) | ((with_reducible refine gate_callee (f := 8) rfl ?_); refine goesL_ (some 22) rfl rfl Try.func8 (by kernel_rfl) rfl #[.agg #[.int .i64 a0_0, .slice A0_1 l0_1.length c0_1], .int .i64 1048576] rfl (by (try simp only [List.map_toArray, List.map_cons, List.map_nil]); first | done | rfl) ?_; (with_reducible refine (laws_szSystem.calls a0_0 _ _ l0_1 1048576 t3 _ ?side1 ?side2 E1.out).mono ?_); (case side1 => exact Kd.C_below HR0_1.out HB.out); (case side2 => exact HC0_1.out); rintro e w_3 ⟨rfl, hb⟩; refine ⟨_, rfl, ?_⟩; have n0_ := Aside0.mk (blk_below (g := gb1) BKgb1.out hb); have n1_ := Aside0.mk (blk_below (g := gb2) BKgb2.out hb); have n2_ := Aside0.mk (Nat.lt_of_lt_of_le GUgb1.out hb.size); have n3_ := Aside0.mk (Nat.lt_of_lt_of_le GUgb2.out hb.size); have n4_ := Aside0.mk (below_step HB.out hb); clear BKgb1; clear BKgb2; clear GUgb1; clear GUgb2; clear HB; have BKgb1 := n0_; have BKgb2 := n1_; have GUgb1 := n2_; have GUgb2 := n3_; have HB := n4_; clear n0_ n1_ n2_ n3_ n4_; clear hb; (try clear hczgb1_0); (try clear hfzgb1_0); (try clear hczgb1_1); (try clear hfzgb1_1); (try clear hczgb2_0); (try clear hfzgb2_0); (try clear hczgb2_1); (try clear hfzgb2_1); have hczgb1_0 : w_3.cell? ⟨gb1, 0, none⟩ = some (.int .i64 a0_0) := (blk_cell BKgb1.out 0).trans rfl; have hfzgb1_0 := blk_frozen BKgb1.out 0; have hczgb1_1 : w_3.cell? ⟨gb1, 1, none⟩ = some (.slice A0_1 l0_1.length c0_1) := (blk_cell BKgb1.out 1).trans rfl; have hfzgb1_1 := blk_frozen BKgb1.out 1; have hczgb2_0 : w_3.cell? ⟨gb2, 0, none⟩ = some (.int .i64 a1_0) := (blk_cell BKgb2.out 0).trans rfl; have hfzgb2_0 := blk_frozen BKgb2.out 0; have hczgb2_1 : w_3.cell? ⟨gb2, 1, none⟩ = some (.slice A1_1 l1_1.length c1_1) := (blk_cell BKgb2.out 1).trans rfl; have hfzgb2_1 := blk_frozen BKgb2.out 1) | ((with_reducible refine gate_callee (f := 9) rfl ?_); refine goesL_ (some 27) rfl rfl Try.func9 (by kernel_rfl) rfl #[.agg #[.int .i64 a1_0, .slice A1_1 l1_1.length c1_1], .int .i64 t3] rfl (by (try simp only [List.map_toArray, List.map_cons, List.map_nil]); first | done | rfl) ?_; (with_reducible refine (laws_szValues.calls a1_0 _ _ l1_1 t3 t4 _ ?side1 ?side2 E3.out).mono ?_); (case side1 => exact Kd.C_below HR1_1.out HB.out); (case side2 => exact HC1_1.out); rintro e w_4 ⟨rfl, hb⟩; refine ⟨_, rfl, ?_⟩; have n0_ := Aside0.mk (blk_below (g := gb1) BKgb1.out hb); have n1_ := Aside0.mk (blk_below (g := gb2) BKgb2.out hb); have n2_ := Aside0.mk (Nat.lt_of_lt_of_le GUgb1.out hb.size); have n3_ := Aside0.mk (Nat.lt_of_lt_of_le GUgb2.out hb.size); have n4_ := Aside0.mk (below_step HB.out hb); clear BKgb1; clear BKgb2; clear GUgb1; clear GUgb2; clear HB; have BKgb1 := n0_; have BKgb2 := n1_; have GUgb1 := n2_; have GUgb2 := n3_; have HB := n4_; clear n0_ n1_ n2_ n3_ n4_; clear hb; (try clear hczgb1_0); (try clear hfzgb1_0); (try clear hczgb1_1); (try clear hfzgb1_1); (try clear hczgb2_0); (try clear hfzgb2_0); (try clear hczgb2_1); (try clear hfzgb2_1); have hczgb1_0 : w_4.cell? ⟨gb1, 0, none⟩ = some (.int .i64 a0_0) := (blk_cell BKgb1.out 0).trans rfl; have hfzgb1_0 := blk_frozen BKgb1.out 0; have hczgb1_1 : w_4.cell? ⟨gb1, 1, none⟩ = some (.slice A0_1 l0_1.length c0_1) := (blk_cell BKgb1.out 1).trans rfl; have hfzgb1_1 := blk_frozen BKgb1.out 1; have hczgb2_0 : w_4.cell? ⟨gb2, 0, none⟩ = some (.int .i64 a1_0) := (blk_cell BKgb2.out 0).trans rfl; have hfzgb2_0 := blk_frozen BKgb2.out 0; have hczgb2_1 : w_4.cell? ⟨gb2, 1, none⟩ = some (.slice A1_1 l1_1.length c1_1) := (blk_cell BKgb2.out 1).trans rfl; have hfzgb2_1 := blk_frozen BKgb2.out 1))
 have n0_ := Aside0.mk (blk_drew BKgb1.out)
 have n1_ := Aside0.mk (blk_drew BKgb2.out)
 have n2_ := Aside0.mk (show gb1 < w_4.drew.heap.size from GUgb1.out)
 have n3_ := Aside0.mk (show gb2 < w_4.drew.heap.size from GUgb2.out)
 have n4_ := Aside0.mk (below_drew1 HB.out)
 clear BKgb1
 clear BKgb2
 clear GUgb1
 clear GUgb2
 clear HB
 have BKgb1 := n0_
 have BKgb2 := n1_
 have GUgb1 := n2_
 have GUgb2 := n3_
 have HB := n4_
 clear n0_ n1_ n2_ n3_ n4_
 (try clear hczgb1_0); (try clear hfzgb1_0)
 (try clear hczgb1_1); (try clear hfzgb1_1)
 (try clear hczgb2_0); (try clear hfzgb2_0)
 (try clear hczgb2_1); (try clear hfzgb2_1)
 refine start_ (n := 12) (S := fun w' => w'.cell? ⟨gb1, 0, none⟩ = some (.int .i64 a0_0) ∧ w'.cell? ⟨gb1, 1, none⟩ = some (.slice A0_1 l0_1.length c0_1) ∧ w'.cell? ⟨gb2, 0, none⟩ = some (.int .i64 a1_0) ∧ w'.cell? ⟨gb2, 1, none⟩ = some (.slice A1_1 l1_1.length c1_1)) (ds := []) #[false, false, false, false, false, false, false, false, false, false, false, false] (by kernel_rfl) rfl rfl ⟨(blk_cell BKgb1.out 0).trans rfl, (blk_cell BKgb1.out 1).trans rfl, (blk_cell BKgb2.out 0).trans rfl, (blk_cell BKgb2.out 1).trans rfl⟩ (fun hHeld => ?_)
 generalize w_4.drew = w_5 at BKgb1 BKgb2 GUgb1 GUgb2 HB hHeld ⊢
 refine take_ (i := 0) (N := some 31) (v := ?_) (a' := ?_) #[true, false, false, false, false, false, false, false, false, false, false, false] rfl rfl (by kernel_rfl) (fun _ _ _ h => h) (Or.inl ⟨by rfl, ?_⟩) hHeld ?_ ?_
 rotate_left
 ·rintro w' ⟨s0, s1, s2, s3⟩
  go_simp
  with_reducible rfl
 rotate_left
 ·simp only [Act.put, List.setIfInBounds_toArray, List.set_cons_zero, List.set_cons_succ, i64_w, i32_w]
  rfl
 refine take_ (i := 2) (N := some 33) (v := ?_) (a' := ?_) #[true, false, true, false, false, false, false, false, false, false, false, false] rfl rfl (by kernel_rfl) (fun _ _ _ h => h) (Or.inl ⟨by rfl, ?_⟩) hHeld ?_ ?_
 rotate_left
 ·rintro w' ⟨s0, s1, s2, s3⟩
  go_simp
  with_reducible rfl
 rotate_left
 ·simp only [Act.put, List.setIfInBounds_toArray, List.set_cons_zero, List.set_cons_succ, i64_w, i32_w]
  rfl
 refine one_ (i := 1) (N := some 32) #[true, true, true, false, false, false, false, false, false, false, false, false] rfl rfl (by kernel_rfl) (by decide) (fun K hK => ?_)
 refine goes_ Try.func11 (by kernel_rfl) rfl #[.agg #[.int .i64 a0_0, .slice A0_1 l0_1.length c0_1]] (by rfl) rfl rfl (by (try simp only [List.map_toArray, List.map_cons, List.map_nil]); first | done | rfl) ?_
 (with_reducible refine (laws_toSystem.calls k a0_0 _ _ l0_1 t5 t6 _ ?side1 ?side2 E5.out).mono ?_)
 (case side1 => exact Kd.C_below HR0_1.out HB.out)
 (case side2 => exact HC0_1.out)
 rintro e w_6 ⟨vR7, rfl, hoR7, hb⟩
 refine ⟨_, rfl, ?_⟩
 obtain ⟨loR7, hloR7⟩ : ∃ n_ : Nat, n_ = w_5.heap.size := ⟨_, rfl⟩
 obtain ⟨hiR7, hhiR7⟩ : ∃ n_ : Nat, n_ = w_6.heap.size := ⟨_, rfl⟩
 have n0_ := Aside0.mk (blk_below (g := gb1) BKgb1.out hb)
 have n1_ := Aside0.mk (blk_below (g := gb2) BKgb2.out hb)
 have n2_ := Aside0.mk (Nat.lt_of_lt_of_le GUgb1.out hb.size)
 have n3_ := Aside0.mk (Nat.lt_of_lt_of_le GUgb2.out hb.size)
 have n4_ := Aside0.mk (below_step HB.out hb)
 have n5_ := Aside0.mk (Kd.R_lower (Kd.R_mono (ok' := fun k_ => loR7 ≤ k_ ∧ k_ < hiR7) (Kd.R_bound hoR7) (fun k_ hk_ => ⟨by rw [hloR7]; exact hk_.2.1, by rw [hhiR7]; exact hk_.2.2.1⟩)) (below_size HB.out))
 have n6_ := Aside0.mk (by rw [hhiR7]; exact Nat.le_refl _ : hiR7 ≤ w_6.heap.size)
 have n7_ := Aside0.mk (fun k_ hk_ => by have := GUgb1.out; rw [← hloR7] at this; omega : ∀ k_, loR7 ≤ k_ ∧ k_ < hiR7 → k_ ≠ gb1)
 have n8_ := Aside0.mk (fun k_ hk_ => by have := GUgb2.out; rw [← hloR7] at this; omega : ∀ k_, loR7 ≤ k_ ∧ k_ < hiR7 → k_ ≠ gb2)
 clear BKgb1
 clear BKgb2
 clear GUgb1
 clear GUgb2
 clear HB
 have BKgb1 := n0_
 have BKgb2 := n1_
 have GUgb1 := n2_
 have GUgb2 := n3_
 have HB := n4_
 have HOR7 := n5_
 have UPR7 := n6_
 have NER7_gb1 := n7_
 have NER7_gb2 := n8_
 clear n0_ n1_ n2_ n3_ n4_ n5_ n6_ n7_ n8_
 clear hb
 clear hoR7 hloR7 hhiR7
 obtain ⟨AR7, cR7, eqR7⟩ := Kd.R_slice HOR7.out
 subst eqR7
 refine hK.out _ _ ⟨(blk_cell BKgb1.out 0).trans rfl, (blk_cell BKgb1.out 1).trans rfl, (blk_cell BKgb2.out 0).trans rfl, (blk_cell BKgb2.out 1).trans rfl⟩ (fun hHeld => ?_)
 clear hK K
 refine norm_ (a' := ?_) ?_ ?_
 rotate_left
 ·show Act.put _ (some 32) _ = _
  simp only [Act.put, List.setIfInBounds_toArray, List.set_cons_zero, List.set_cons_succ, i64_w, i32_w]
  rfl
 refine one_ (i := 3) (N := some 34) #[true, true, true, true, false, false, false, false, false, false, false, false] rfl rfl (by kernel_rfl) (by decide) (fun K hK => ?_)
 refine goes_ Try.func12 (by kernel_rfl) rfl #[.agg #[.int .i64 a1_0, .slice A1_1 l1_1.length c1_1]] (by rfl) rfl rfl (by (try simp only [List.map_toArray, List.map_cons, List.map_nil]); first | done | rfl) ?_
 (with_reducible refine (laws_toValues.calls k a1_0 _ _ l1_1 t8 t9 _ ?side1 ?side2 E6.out).mono ?_)
 (case side1 => exact Kd.C_below HR1_1.out HB.out)
 (case side2 => exact HC1_1.out)
 rintro e w_7 ⟨vR10, rfl, hoR10, hb⟩
 refine ⟨_, rfl, ?_⟩
 obtain ⟨loR10, hloR10⟩ : ∃ n_ : Nat, n_ = w_6.heap.size := ⟨_, rfl⟩
 obtain ⟨hiR10, hhiR10⟩ : ∃ n_ : Nat, n_ = w_7.heap.size := ⟨_, rfl⟩
 have n0_ := Aside0.mk (Kd.R_below HOR7.out hb)
 have n1_ := Aside0.mk (Nat.le_trans UPR7.out hb.size)
 have n2_ := Aside0.mk (blk_below (g := gb1) BKgb1.out hb)
 have n3_ := Aside0.mk (blk_below (g := gb2) BKgb2.out hb)
 have n4_ := Aside0.mk (Nat.lt_of_lt_of_le GUgb1.out hb.size)
 have n5_ := Aside0.mk (Nat.lt_of_lt_of_le GUgb2.out hb.size)
 have n6_ := Aside0.mk (below_step HB.out hb)
 have n7_ := Aside0.mk (Kd.R_lower (Kd.R_mono (ok' := fun k_ => loR10 ≤ k_ ∧ k_ < hiR10) (Kd.R_bound hoR10) (fun k_ hk_ => ⟨by rw [hloR10]; exact hk_.2.1, by rw [hhiR10]; exact hk_.2.2.1⟩)) (below_size HB.out))
 have n8_ := Aside0.mk (by rw [hhiR10]; exact Nat.le_refl _ : hiR10 ≤ w_7.heap.size)
 have n9_ := Aside0.mk (fun k_ h1_ h2_ => by have := UPR7.out; rw [← hloR10] at this; omega : ∀ k_, loR7 ≤ k_ ∧ k_ < hiR7 → ¬ (loR10 ≤ k_ ∧ k_ < hiR10))
 have n10_ := Aside0.mk (fun k_ h1_ h2_ => by have := UPR7.out; rw [← hloR10] at this; omega : ∀ k_, loR10 ≤ k_ ∧ k_ < hiR10 → ¬ (loR7 ≤ k_ ∧ k_ < hiR7))
 have n11_ := Aside0.mk (fun k_ hk_ => by have := GUgb1.out; rw [← hloR10] at this; omega : ∀ k_, loR10 ≤ k_ ∧ k_ < hiR10 → k_ ≠ gb1)
 have n12_ := Aside0.mk (fun k_ hk_ => by have := GUgb2.out; rw [← hloR10] at this; omega : ∀ k_, loR10 ≤ k_ ∧ k_ < hiR10 → k_ ≠ gb2)
 clear HOR7
 clear UPR7
 clear BKgb1
 clear BKgb2
 clear GUgb1
 clear GUgb2
 clear HB
 have HOR7 := n0_
 have UPR7 := n1_
 have BKgb1 := n2_
 have BKgb2 := n3_
 have GUgb1 := n4_
 have GUgb2 := n5_
 have HB := n6_
 have HOR10 := n7_
 have UPR10 := n8_
 have NRR7_R10 := n9_
 have NRR10_R7 := n10_
 have NER10_gb1 := n11_
 have NER10_gb2 := n12_
 clear n0_ n1_ n2_ n3_ n4_ n5_ n6_ n7_ n8_ n9_ n10_ n11_ n12_
 clear hb
 clear hoR10 hloR10 hhiR10
 obtain ⟨AR10, cR10, eqR10⟩ := Kd.R_slice HOR10.out
 subst eqR10
 refine hK.out _ _ ⟨(blk_cell BKgb1.out 0).trans rfl, (blk_cell BKgb1.out 1).trans rfl, (blk_cell BKgb2.out 0).trans rfl, (blk_cell BKgb2.out 1).trans rfl⟩ (fun hHeld => ?_)
 clear hK K
 refine norm_ (a' := ?_) ?_ ?_
 rotate_left
 ·show Act.put _ (some 34) _ = _
  simp only [Act.put, List.setIfInBounds_toArray, List.set_cons_zero, List.set_cons_succ, i64_w, i32_w]
  rfl
 refine one_ (i := 4) (N := some 35) #[true, true, true, true, true, false, false, false, false, false, false, false] rfl rfl (by kernel_rfl) (by decide) (fun K hK => ?_)
 refine goes_ Try.func10 (by kernel_rfl) rfl #[.agg #[.int .i64 t5, .slice AR7 t6.length cR7], .agg #[.int .i64 t8, .slice AR10 t9.length cR10]] (by rfl) rfl rfl (by (try simp only [List.map_toArray, List.map_cons, List.map_nil]); first | done | rfl) ?_
 (with_reducible refine (spec_SystemRounding.calls k t5 _ _ t6 t8 _ _ t9 t11 t51 t52 _ ?side1 ?side2 ?side3 ?side4 E7.out).mono ?_)
 (case side1 => exact (Kd.R_reads' HOR7.out).2.2)
 (case side2 => exact (Kd.R_reads' HOR7.out).2.1)
 (case side3 => exact (Kd.R_reads' HOR10.out).2.2)
 (case side4 => exact (Kd.R_reads' HOR10.out).2.1)
 rintro e w_8 ⟨vR14, rfl, hoR14, hb⟩
 refine ⟨_, rfl, ?_⟩
 obtain ⟨loR14, hloR14⟩ : ∃ n_ : Nat, n_ = w_7.heap.size := ⟨_, rfl⟩
 obtain ⟨hiR14, hhiR14⟩ : ∃ n_ : Nat, n_ = w_8.heap.size := ⟨_, rfl⟩
 have n0_ := Aside0.mk (Kd.R_below HOR7.out hb)
 have n1_ := Aside0.mk (Kd.R_below HOR10.out hb)
 have n2_ := Aside0.mk (Nat.le_trans UPR7.out hb.size)
 have n3_ := Aside0.mk (Nat.le_trans UPR10.out hb.size)
 have n4_ := Aside0.mk (blk_below (g := gb1) BKgb1.out hb)
 have n5_ := Aside0.mk (blk_below (g := gb2) BKgb2.out hb)
 have n6_ := Aside0.mk (Nat.lt_of_lt_of_le GUgb1.out hb.size)
 have n7_ := Aside0.mk (Nat.lt_of_lt_of_le GUgb2.out hb.size)
 have n8_ := Aside0.mk (below_step HB.out hb)
 have n9_ := Aside0.mk (Kd.R_lower (Kd.R_mono (ok' := fun k_ => loR14 ≤ k_ ∧ k_ < hiR14) (Kd.R_bound hoR14) (fun k_ hk_ => ⟨by rw [hloR14]; exact hk_.2.1, by rw [hhiR14]; exact hk_.2.2.1⟩)) (below_size HB.out))
 have n10_ := Aside0.mk (by rw [hhiR14]; exact Nat.le_refl _ : hiR14 ≤ w_8.heap.size)
 have n11_ := Aside0.mk (fun k_ h1_ h2_ => by have := UPR7.out; rw [← hloR14] at this; omega : ∀ k_, loR7 ≤ k_ ∧ k_ < hiR7 → ¬ (loR14 ≤ k_ ∧ k_ < hiR14))
 have n12_ := Aside0.mk (fun k_ h1_ h2_ => by have := UPR7.out; rw [← hloR14] at this; omega : ∀ k_, loR14 ≤ k_ ∧ k_ < hiR14 → ¬ (loR7 ≤ k_ ∧ k_ < hiR7))
 have n13_ := Aside0.mk (fun k_ h1_ h2_ => by have := UPR10.out; rw [← hloR14] at this; omega : ∀ k_, loR10 ≤ k_ ∧ k_ < hiR10 → ¬ (loR14 ≤ k_ ∧ k_ < hiR14))
 have n14_ := Aside0.mk (fun k_ h1_ h2_ => by have := UPR10.out; rw [← hloR14] at this; omega : ∀ k_, loR14 ≤ k_ ∧ k_ < hiR14 → ¬ (loR10 ≤ k_ ∧ k_ < hiR10))
 have n15_ := Aside0.mk (fun k_ hk_ => by have := GUgb1.out; rw [← hloR14] at this; omega : ∀ k_, loR14 ≤ k_ ∧ k_ < hiR14 → k_ ≠ gb1)
 have n16_ := Aside0.mk (fun k_ hk_ => by have := GUgb2.out; rw [← hloR14] at this; omega : ∀ k_, loR14 ≤ k_ ∧ k_ < hiR14 → k_ ≠ gb2)
 clear HOR7
 clear HOR10
 clear UPR7
 clear UPR10
 clear BKgb1
 clear BKgb2
 clear GUgb1
 clear GUgb2
 clear HB
 have HOR7 := n0_
 have HOR10 := n1_
 have UPR7 := n2_
 have UPR10 := n3_
 have BKgb1 := n4_
 have BKgb2 := n5_
 have GUgb1 := n6_
 have GUgb2 := n7_
 have HB := n8_
 have HOR14 := n9_
 have UPR14 := n10_
 have NRR7_R14 := n11_
 have NRR14_R7 := n12_
 have NRR10_R14 := n13_
 have NRR14_R10 := n14_
 have NER14_gb1 := n15_
 have NER14_gb2 := n16_
 clear n0_ n1_ n2_ n3_ n4_ n5_ n6_ n7_ n8_ n9_ n10_ n11_ n12_ n13_ n14_ n15_ n16_
 clear hb
 clear hoR14 hloR14 hhiR14
 obtain ⟨AR14, cR14, eqR14⟩ := Kd.R_slice HOR14.out
 subst eqR14
 refine hK.out _ _ ⟨(blk_cell BKgb1.out 0).trans rfl, (blk_cell BKgb1.out 1).trans rfl, (blk_cell BKgb2.out 0).trans rfl, (blk_cell BKgb2.out 1).trans rfl⟩ (fun hHeld => ?_)
 clear hK K
 refine norm_ (a' := ?_) ?_ ?_
 rotate_left
 ·show Act.put _ (some 35) _ = _
  simp only [Act.put, List.setIfInBounds_toArray, List.set_cons_zero, List.set_cons_succ, i64_w, i32_w]
  rfl
 refine pure_ (i := 5) (N := some 30) (v := ?_) (a' := ?_) #[true, true, true, true, true, true, false, false, false, false, false, false] rfl rfl (by kernel_rfl) (fun _ _ _ h => h) (Or.inl ⟨by rfl, ?_⟩) ?_ ?_
 rotate_left
 ·intro w'
  go_simp
  with_reducible rfl
 rotate_left
 ·simp only [Act.put, List.setIfInBounds_toArray, List.set_cons_zero, List.set_cons_succ, i64_w, i32_w]
  rfl
 refine pure_ (i := 6) (N := some 36) (v := ?_) (a' := ?_) #[true, true, true, true, true, true, true, false, false, false, false, false] rfl rfl (by kernel_rfl) (fun _ _ _ h => h) (Or.inl ⟨by rfl, ?_⟩) ?_ ?_
 rotate_left
 ·intro w'
  go_simp
  with_reducible rfl
 rotate_left
 ·simp only [Act.put, List.setIfInBounds_toArray, List.set_cons_zero, List.set_cons_succ, i64_w, i32_w]
  rfl
 refine pure_ (i := 7) (N := some 37) (v := ?_) (a' := ?_) #[true, true, true, true, true, true, true, true, false, false, false, false] rfl rfl (by kernel_rfl) (fun _ _ _ h => h) (Or.inl ⟨by rfl, ?_⟩) ?_ ?_
 rotate_left
 ·intro w'
  go_simp
  with_reducible rfl
 rotate_left
 ·simp only [Act.put, List.setIfInBounds_toArray, List.set_cons_zero, List.set_cons_succ, i64_w, i32_w]
  rfl
 refine pure_ (i := 8) (N := some 38) (v := ?_) (a' := ?_) #[true, true, true, true, true, true, true, true, true, false, false, false] rfl rfl (by kernel_rfl) (fun _ _ _ h => h) (Or.inl ⟨by rfl, ?_⟩) ?_ ?_
 rotate_left
 ·intro w'
  go_simp
  with_reducible rfl
 rotate_left
 ·simp only [Act.put, List.setIfInBounds_toArray, List.set_cons_zero, List.set_cons_succ, i64_w, i32_w]
  rfl
 refine pure_ (i := 9) (N := some 6) (v := ?_) (a' := ?_) #[true, true, true, true, true, true, true, true, true, true, false, false] rfl rfl (by kernel_rfl) (fun _ _ _ h => h) (Or.inl ⟨by rfl, ?_⟩) ?_ ?_
 rotate_left
 ·intro w'
  go_simp
  with_reducible rfl
 rotate_left
 ·simp only [Act.put, List.setIfInBounds_toArray, List.set_cons_zero, List.set_cons_succ, i64_w, i32_w]
  rfl
 refine pure_ (i := 10) (N := some 7) (v := ?_) (a' := ?_) #[true, true, true, true, true, true, true, true, true, true, true, false] rfl rfl (by kernel_rfl) (fun _ _ _ h => h) (Or.inl ⟨by rfl, ?_⟩) ?_ ?_
 rotate_left
 ·intro w'
  go_simp
  with_reducible rfl
 rotate_left
 ·simp only [Act.put, List.setIfInBounds_toArray, List.set_cons_zero, List.set_cons_succ, i64_w, i32_w]
  rfl
 refine pure_ (i := 11) (N := some 8) (v := ?_) (a' := ?_) #[true, true, true, true, true, true, true, true, true, true, true, true] rfl rfl (by kernel_rfl) (fun _ _ _ h => h) (Or.inl ⟨by rfl, ?_⟩) ?_ ?_
 rotate_left
 ·intro w'
  go_simp
  with_reducible rfl
 rotate_left
 ·simp only [Act.put, List.setIfInBounds_toArray, List.set_cons_zero, List.set_cons_succ, i64_w, i32_w]
  rfl
 refine done_ (by kernel_rfl) ?_
 (try clear hczgb1_0)
 (try clear hfzgb1_0)
 (try clear hczgb1_1)
 (try clear hfzgb1_1)
 (try clear hczgb2_0)
 (try clear hfzgb2_0)
 (try clear hczgb2_1)
 (try clear hfzgb2_1)
 have hczgb1_0 : w_8.cell? ⟨gb1, 0, none⟩ = some (.int .i64 a0_0) := (blk_cell BKgb1.out 0).trans rfl
 have hfzgb1_0 := blk_frozen BKgb1.out 0
 have hczgb1_1 : w_8.cell? ⟨gb1, 1, none⟩ = some (.slice A0_1 l0_1.length c0_1) := (blk_cell BKgb1.out 1).trans rfl
 have hfzgb1_1 := blk_frozen BKgb1.out 1
 have hczgb2_0 : w_8.cell? ⟨gb2, 0, none⟩ = some (.int .i64 a1_0) := (blk_cell BKgb2.out 0).trans rfl
 have hfzgb2_0 := blk_frozen BKgb2.out 0
 have hczgb2_1 : w_8.cell? ⟨gb2, 1, none⟩ = some (.slice A1_1 l1_1.length c1_1) := (blk_cell BKgb2.out 1).trans rfl
 have hfzgb2_1 := blk_frozen BKgb2.out 1
 go_wp2_with (first | ((with_reducible refine gate_callee (f := 11) rfl ?_); refine goesL_ (some 40) rfl rfl Try.func11 (by kernel_rfl) rfl #[.agg #[.int .i64 a0_0, .slice A0_1 l0_1.length c0_1]] rfl (by (try simp only [List.map_toArray, List.map_cons, List.map_nil]); first | done | rfl) ?_; have HWM := HB; have HBM := Aside0.mk (Below.refl w_8.heap.size w_8); (with_reducible refine (laws_toSystem.calls k a0_0 _ _ l0_1 t15 t16 _ ?side1 ?side2 E8.out).mono ?_); (case side1 => exact Kd.C_below HR0_1.out HB.out); (case side2 => exact HC0_1.out); rintro e w_9 ⟨vR17, rfl, hoR17, hb⟩; refine ⟨_, rfl, ?_⟩; obtain ⟨loR17, hloR17⟩ : ∃ n_ : Nat, n_ = w_8.heap.size := ⟨_, rfl⟩; obtain ⟨hiR17, hhiR17⟩ : ∃ n_ : Nat, n_ = w_9.heap.size := ⟨_, rfl⟩; have n0_ := Aside0.mk (Kd.R_below HOR7.out hb); have n1_ := Aside0.mk (Kd.R_below HOR10.out hb); have n2_ := Aside0.mk (Kd.R_below HOR14.out hb); have n3_ := Aside0.mk (Nat.le_trans UPR7.out hb.size); have n4_ := Aside0.mk (Nat.le_trans UPR10.out hb.size); have n5_ := Aside0.mk (Nat.le_trans UPR14.out hb.size); have n6_ := Aside0.mk (blk_below (g := gb1) BKgb1.out hb); have n7_ := Aside0.mk (blk_below (g := gb2) BKgb2.out hb); have n8_ := Aside0.mk (Nat.lt_of_lt_of_le GUgb1.out hb.size); have n9_ := Aside0.mk (Nat.lt_of_lt_of_le GUgb2.out hb.size); have n10_ := Aside0.mk (below_step HB.out hb); have n11_ := Aside0.mk (below_step HBM.out hb); have n12_ := Aside0.mk (Kd.R_lower (Kd.R_mono (ok' := fun k_ => loR17 ≤ k_ ∧ k_ < hiR17) (Kd.R_bound hoR17) (fun k_ hk_ => ⟨by rw [hloR17]; exact hk_.2.1, by rw [hhiR17]; exact hk_.2.2.1⟩)) (below_size HBM.out)); have n13_ := Aside0.mk (by rw [hhiR17]; exact Nat.le_refl _ : hiR17 ≤ w_9.heap.size); have n14_ := Aside0.mk (fun k_ h1_ h2_ => by have := UPR7.out; rw [← hloR17] at this; omega : ∀ k_, loR7 ≤ k_ ∧ k_ < hiR7 → ¬ (loR17 ≤ k_ ∧ k_ < hiR17)); have n15_ := Aside0.mk (fun k_ h1_ h2_ => by have := UPR7.out; rw [← hloR17] at this; omega : ∀ k_, loR17 ≤ k_ ∧ k_ < hiR17 → ¬ (loR7 ≤ k_ ∧ k_ < hiR7)); have n16_ := Aside0.mk (fun k_ h1_ h2_ => by have := UPR10.out; rw [← hloR17] at this; omega : ∀ k_, loR10 ≤ k_ ∧ k_ < hiR10 → ¬ (loR17 ≤ k_ ∧ k_ < hiR17)); have n17_ := Aside0.mk (fun k_ h1_ h2_ => by have := UPR10.out; rw [← hloR17] at this; omega : ∀ k_, loR17 ≤ k_ ∧ k_ < hiR17 → ¬ (loR10 ≤ k_ ∧ k_ < hiR10)); have n18_ := Aside0.mk (fun k_ h1_ h2_ => by have := UPR14.out; rw [← hloR17] at this; omega : ∀ k_, loR14 ≤ k_ ∧ k_ < hiR14 → ¬ (loR17 ≤ k_ ∧ k_ < hiR17)); have n19_ := Aside0.mk (fun k_ h1_ h2_ => by have := UPR14.out; rw [← hloR17] at this; omega : ∀ k_, loR17 ≤ k_ ∧ k_ < hiR17 → ¬ (loR14 ≤ k_ ∧ k_ < hiR14)); have n20_ := Aside0.mk (fun k_ hk_ => by have := GUgb1.out; rw [← hloR17] at this; omega : ∀ k_, loR17 ≤ k_ ∧ k_ < hiR17 → k_ ≠ gb1); have n21_ := Aside0.mk (fun k_ hk_ => by have := GUgb2.out; rw [← hloR17] at this; omega : ∀ k_, loR17 ≤ k_ ∧ k_ < hiR17 → k_ ≠ gb2); clear HOR7; clear HOR10; clear HOR14; clear UPR7; clear UPR10; clear UPR14; clear BKgb1; clear BKgb2; clear GUgb1; clear GUgb2; clear HB; clear HBM; have HOR7 := n0_; have HOR10 := n1_; have HOR14 := n2_; have UPR7 := n3_; have UPR10 := n4_; have UPR14 := n5_; have BKgb1 := n6_; have BKgb2 := n7_; have GUgb1 := n8_; have GUgb2 := n9_; have HB := n10_; have HBM := n11_; have HOR17 := n12_; have UPR17 := n13_; have NRR7_R17 := n14_; have NRR17_R7 := n15_; have NRR10_R17 := n16_; have NRR17_R10 := n17_; have NRR14_R17 := n18_; have NRR17_R14 := n19_; have NER17_gb1 := n20_; have NER17_gb2 := n21_; clear n0_ n1_ n2_ n3_ n4_ n5_ n6_ n7_ n8_ n9_ n10_ n11_ n12_ n13_ n14_ n15_ n16_ n17_ n18_ n19_ n20_ n21_; clear hb; clear hoR17 hloR17 hhiR17; obtain ⟨AR17, cR17, eqR17⟩ := Kd.R_slice HOR17.out; subst eqR17; (try clear hczgb1_0); (try clear hfzgb1_0); (try clear hczgb1_1); (try clear hfzgb1_1); (try clear hczgb2_0); (try clear hfzgb2_0); (try clear hczgb2_1); (try clear hfzgb2_1); have hczgb1_0 : w_9.cell? ⟨gb1, 0, none⟩ = some (.int .i64 a0_0) := (blk_cell BKgb1.out 0).trans rfl; have hfzgb1_0 := blk_frozen BKgb1.out 0; have hczgb1_1 : w_9.cell? ⟨gb1, 1, none⟩ = some (.slice A0_1 l0_1.length c0_1) := (blk_cell BKgb1.out 1).trans rfl; have hfzgb1_1 := blk_frozen BKgb1.out 1; have hczgb2_0 : w_9.cell? ⟨gb2, 0, none⟩ = some (.int .i64 a1_0) := (blk_cell BKgb2.out 0).trans rfl; have hfzgb2_0 := blk_frozen BKgb2.out 0; have hczgb2_1 : w_9.cell? ⟨gb2, 1, none⟩ = some (.slice A1_1 l1_1.length c1_1) := (blk_cell BKgb2.out 1).trans rfl; have hfzgb2_1 := blk_frozen BKgb2.out 1) | ((with_reducible refine gate_dst (N := 9) rfl ?_); refine box_event ?hg (N := 9) ?hd (cs := #[.int .i64 0, .slice none 0 0]) (t := 31) ?hr ?_; (case hd => rfl); (case hg => rfl); (case hr => first | (go_simp; done) | (go_simp; rfl)); intro gb18 hg w_10 hbox hb; have n0_ := Aside0.mk (Kd.R_below HOR7.out hb); have n1_ := Aside0.mk (Kd.R_below HOR10.out hb); have n2_ := Aside0.mk (Kd.R_below HOR14.out hb); have n3_ := Aside0.mk (Kd.R_below HOR17.out hb); have n4_ := Aside0.mk (Nat.le_trans UPR7.out hb.size); have n5_ := Aside0.mk (Nat.le_trans UPR10.out hb.size); have n6_ := Aside0.mk (Nat.le_trans UPR14.out hb.size); have n7_ := Aside0.mk (Nat.le_trans UPR17.out hb.size); have n8_ := Aside0.mk (blk_below (g := gb1) BKgb1.out hb); have n9_ := Aside0.mk (blk_below (g := gb2) BKgb2.out hb); have n10_ := Aside0.mk (Nat.lt_of_lt_of_le GUgb1.out hb.size); have n11_ := Aside0.mk (Nat.lt_of_lt_of_le GUgb2.out hb.size); have n12_ := Aside0.mk (below_step HB.out hb); have n13_ := Aside0.mk (below_step HBM.out hb); have n14_ := Aside0.mk (hbox); have n15_ := Aside0.mk (blk_lt hbox); have n16_ := Aside0.mk (by rw [hg]; exact below_size HB.out : w.heap.size ≤ gb18); have n17_ := Aside0.mk (by rw [hg]; exact below_size HBM.out : w_8.heap.size ≤ gb18); have n18_ := Aside0.mk (fun k_ hk_ => by have := UPR7.out; rw [← hg] at this; omega : ∀ k_, loR7 ≤ k_ ∧ k_ < hiR7 → k_ ≠ gb18); have n19_ := Aside0.mk (fun k_ hk_ => by have := UPR10.out; rw [← hg] at this; omega : ∀ k_, loR10 ≤ k_ ∧ k_ < hiR10 → k_ ≠ gb18); have n20_ := Aside0.mk (fun k_ hk_ => by have := UPR14.out; rw [← hg] at this; omega : ∀ k_, loR14 ≤ k_ ∧ k_ < hiR14 → k_ ≠ gb18); have n21_ := Aside0.mk (fun k_ hk_ => by have := UPR17.out; rw [← hg] at this; omega : ∀ k_, loR17 ≤ k_ ∧ k_ < hiR17 → k_ ≠ gb18); have n22_ := Aside0.mk (by have := GUgb1.out; rw [← hg] at this; omega : gb1 ≠ gb18); have n23_ := Aside0.mk (by have := GUgb1.out; rw [← hg] at this; omega : gb18 ≠ gb1); have n24_ := Aside0.mk (by have := GUgb2.out; rw [← hg] at this; omega : gb2 ≠ gb18); have n25_ := Aside0.mk (by have := GUgb2.out; rw [← hg] at this; omega : gb18 ≠ gb2); clear HOR7; clear HOR10; clear HOR14; clear HOR17; clear UPR7; clear UPR10; clear UPR14; clear UPR17; clear BKgb1; clear BKgb2; clear GUgb1; clear GUgb2; clear HB; clear HBM; have HOR7 := n0_; have HOR10 := n1_; have HOR14 := n2_; have HOR17 := n3_; have UPR7 := n4_; have UPR10 := n5_; have UPR14 := n6_; have UPR17 := n7_; have BKgb1 := n8_; have BKgb2 := n9_; have GUgb1 := n10_; have GUgb2 := n11_; have HB := n12_; have HBM := n13_; have BKgb18 := n14_; have GUgb18 := n15_; have GEgb18 := n16_; have GMgb18 := n17_; have NER7_gb18 := n18_; have NER10_gb18 := n19_; have NER14_gb18 := n20_; have NER17_gb18 := n21_; have NBgb1_gb18 := n22_; have NBgb18_gb1 := n23_; have NBgb2_gb18 := n24_; have NBgb18_gb2 := n25_; clear n0_ n1_ n2_ n3_ n4_ n5_ n6_ n7_ n8_ n9_ n10_ n11_ n12_ n13_ n14_ n15_ n16_ n17_ n18_ n19_ n20_ n21_ n22_ n23_ n24_ n25_; clear hb hbox hg; (try clear hczgb1_0); (try clear hfzgb1_0); (try clear hczgb1_1); (try clear hfzgb1_1); (try clear hczgb2_0); (try clear hfzgb2_0); (try clear hczgb2_1); (try clear hfzgb2_1); (try clear hczgb18_0); (try clear hfzgb18_0); (try clear hczgb18_1); (try clear hfzgb18_1); have hczgb1_0 : w_10.cell? ⟨gb1, 0, none⟩ = some (.int .i64 a0_0) := (blk_cell BKgb1.out 0).trans rfl; have hfzgb1_0 := blk_frozen BKgb1.out 0; have hczgb1_1 : w_10.cell? ⟨gb1, 1, none⟩ = some (.slice A0_1 l0_1.length c0_1) := (blk_cell BKgb1.out 1).trans rfl; have hfzgb1_1 := blk_frozen BKgb1.out 1; have hczgb2_0 : w_10.cell? ⟨gb2, 0, none⟩ = some (.int .i64 a1_0) := (blk_cell BKgb2.out 0).trans rfl; have hfzgb2_0 := blk_frozen BKgb2.out 0; have hczgb2_1 : w_10.cell? ⟨gb2, 1, none⟩ = some (.slice A1_1 l1_1.length c1_1) := (blk_cell BKgb2.out 1).trans rfl; have hfzgb2_1 := blk_frozen BKgb2.out 1; have hczgb18_0 : w_10.cell? ⟨gb18, 0, none⟩ = some (.int .i64 0) := (blk_cell BKgb18.out 0).trans rfl; have hfzgb18_0 := blk_frozen BKgb18.out 0; have hczgb18_1 : w_10.cell? ⟨gb18, 1, none⟩ = some (.slice none 0 0) := (blk_cell BKgb18.out 1).trans rfl; have hfzgb18_1 := blk_frozen BKgb18.out 1) | ((with_reducible refine gate_store (t := 31) (p := 9) rfl ?_); refine store_event (t := 31) (p := 9) (v := ?vow_11) (w1 := ((w_10.setCell ⟨gb18, 0, none⟩ (.int .i64 t15)).setCell ⟨gb18, 1, none⟩ (.slice AR17 t16.length cR17))) ?hg ?ho ?hn ?hr ?_; (case ho => rfl); (case hg => rfl); (case hn => rfl); (case hr => first | (go_simp; done) | (go_simp; rfl)); intro w_11 hw; have n0_ := Aside0.mk (by rw [hw]; exact (Kd.R_far (p := ⟨gb18, 1, none⟩) (Kd.R_far (p := ⟨gb18, 0, none⟩) HOR7.out NER7_gb18.out (.int .i64 t15)) NER7_gb18.out (.slice AR17 t16.length cR17)) : Kd.R (Kd.int .i64) 2 w_11 w.heap.size (fun k_ => loR7 ≤ k_ ∧ k_ < hiR7) (.slice AR7 t6.length cR7) t6); have n1_ := Aside0.mk (by rw [hw]; simp only [World.size_setCell]; exact UPR7.out : hiR7 ≤ w_11.heap.size); have n2_ := Aside0.mk (by rw [hw]; exact (Kd.R_far (p := ⟨gb18, 1, none⟩) (Kd.R_far (p := ⟨gb18, 0, none⟩) HOR10.out NER10_gb18.out (.int .i64 t15)) NER10_gb18.out (.slice AR17 t16.length cR17)) : Kd.R (Kd.int .i64) 2 w_11 w.heap.size (fun k_ => loR10 ≤ k_ ∧ k_ < hiR10) (.slice AR10 t9.length cR10) t9); have n3_ := Aside0.mk (by rw [hw]; simp only [World.size_setCell]; exact UPR10.out : hiR10 ≤ w_11.heap.size); have n4_ := Aside0.mk (by rw [hw]; exact (Kd.R_far (p := ⟨gb18, 1, none⟩) (Kd.R_far (p := ⟨gb18, 0, none⟩) HOR14.out NER14_gb18.out (.int .i64 t15)) NER14_gb18.out (.slice AR17 t16.length cR17)) : Kd.R (Kd.int .i64) 2 w_11 w.heap.size (fun k_ => loR14 ≤ k_ ∧ k_ < hiR14) (.slice AR14 t11.length cR14) t11); have n5_ := Aside0.mk (by rw [hw]; simp only [World.size_setCell]; exact UPR14.out : hiR14 ≤ w_11.heap.size); have n6_ := Aside0.mk (by rw [hw]; exact (Kd.R_far (p := ⟨gb18, 1, none⟩) (Kd.R_far (p := ⟨gb18, 0, none⟩) HOR17.out NER17_gb18.out (.int .i64 t15)) NER17_gb18.out (.slice AR17 t16.length cR17)) : Kd.R (Kd.int .i64) 2 w_11 w_8.heap.size (fun k_ => loR17 ≤ k_ ∧ k_ < hiR17) (.slice AR17 t16.length cR17) t16); have n7_ := Aside0.mk (by rw [hw]; simp only [World.size_setCell]; exact UPR17.out : hiR17 ≤ w_11.heap.size); have n8_ := Aside0.mk (by rw [hw]; exact (blk_far (blk_far BKgb1.out NBgb1_gb18.out (.int .i64 t15)) NBgb1_gb18.out (.slice AR17 t16.length cR17)) : w_11.heap[gb1]? = some (.cells #[.int .i64 a0_0, .slice A0_1 l0_1.length c0_1] 24 (0, 0))); have n9_ := Aside0.mk (by rw [hw]; simp only [World.size_setCell]; exact GUgb1.out : gb1 < w_11.heap.size); have n10_ := Aside0.mk (by rw [hw]; exact (blk_far (blk_far BKgb2.out NBgb2_gb18.out (.int .i64 t15)) NBgb2_gb18.out (.slice AR17 t16.length cR17)) : w_11.heap[gb2]? = some (.cells #[.int .i64 a1_0, .slice A1_1 l1_1.length c1_1] 26 (0, 0))); have n11_ := Aside0.mk (by rw [hw]; simp only [World.size_setCell]; exact GUgb2.out : gb2 < w_11.heap.size); have n12_ := Aside0.mk (by rw [hw]; exact (blk_put (cs' := #[.int .i64 t15, .slice AR17 t16.length cR17]) (blk_put (cs' := #[.int .i64 t15, .slice none 0 0]) BKgb18.out 0 (.int .i64 t15) rfl) 1 (.slice AR17 t16.length cR17) rfl) : w_11.heap[gb18]? = some (.cells #[.int .i64 t15, .slice AR17 t16.length cR17] 31 (0, 0))); have n13_ := Aside0.mk (by rw [hw]; simp only [World.size_setCell]; exact GUgb18.out : gb18 < w_11.heap.size); have n14_ := Aside0.mk (by rw [hw]; exact (below_set (below_set HB.out GEgb18.out) GEgb18.out) : Below w.heap.size w w_11); have n15_ := Aside0.mk (by rw [hw]; exact (below_set (below_set HBM.out GMgb18.out) GMgb18.out) : Below w_8.heap.size w_8 w_11); clear HOR7; clear UPR7; clear HOR10; clear UPR10; clear HOR14; clear UPR14; clear HOR17; clear UPR17; clear BKgb1; clear GUgb1; clear BKgb2; clear GUgb2; clear BKgb18; clear GUgb18; clear HB; clear HBM; have HOR7 := n0_; have UPR7 := n1_; have HOR10 := n2_; have UPR10 := n3_; have HOR14 := n4_; have UPR14 := n5_; have HOR17 := n6_; have UPR17 := n7_; have BKgb1 := n8_; have GUgb1 := n9_; have BKgb2 := n10_; have GUgb2 := n11_; have BKgb18 := n12_; have GUgb18 := n13_; have HB := n14_; have HBM := n15_; clear n0_ n1_ n2_ n3_ n4_ n5_ n6_ n7_ n8_ n9_ n10_ n11_ n12_ n13_ n14_ n15_; clear hw; (try clear hczgb1_0); (try clear hfzgb1_0); (try clear hczgb1_1); (try clear hfzgb1_1); (try clear hczgb2_0); (try clear hfzgb2_0); (try clear hczgb2_1); (try clear hfzgb2_1); (try clear hczgb18_0); (try clear hfzgb18_0); (try clear hczgb18_1); (try clear hfzgb18_1); have hczgb1_0 : w_11.cell? ⟨gb1, 0, none⟩ = some (.int .i64 a0_0) := (blk_cell BKgb1.out 0).trans rfl; have hfzgb1_0 := blk_frozen BKgb1.out 0; have hczgb1_1 : w_11.cell? ⟨gb1, 1, none⟩ = some (.slice A0_1 l0_1.length c0_1) := (blk_cell BKgb1.out 1).trans rfl; have hfzgb1_1 := blk_frozen BKgb1.out 1; have hczgb2_0 : w_11.cell? ⟨gb2, 0, none⟩ = some (.int .i64 a1_0) := (blk_cell BKgb2.out 0).trans rfl; have hfzgb2_0 := blk_frozen BKgb2.out 0; have hczgb2_1 : w_11.cell? ⟨gb2, 1, none⟩ = some (.slice A1_1 l1_1.length c1_1) := (blk_cell BKgb2.out 1).trans rfl; have hfzgb2_1 := blk_frozen BKgb2.out 1; have hczgb18_0 : w_11.cell? ⟨gb18, 0, none⟩ = some (.int .i64 t15) := (blk_cell BKgb18.out 0).trans rfl; have hfzgb18_0 := blk_frozen BKgb18.out 0; have hczgb18_1 : w_11.cell? ⟨gb18, 1, none⟩ = some (.slice AR17 t16.length cR17) := (blk_cell BKgb18.out 1).trans rfl; have hfzgb18_1 := blk_frozen BKgb18.out 1) | ((with_reducible refine gate_callee (f := 12) rfl ?_); refine goesL_ (some 42) rfl rfl Try.func12 (by kernel_rfl) rfl #[.agg #[.int .i64 a1_0, .slice A1_1 l1_1.length c1_1]] rfl (by (try simp only [List.map_toArray, List.map_cons, List.map_nil]); first | done | rfl) ?_; (with_reducible refine (laws_toValues.calls k a1_0 _ _ l1_1 t19 t20 _ ?side1 ?side2 E9.out).mono ?_); (case side1 => exact Kd.C_below HR1_1.out HB.out); (case side2 => exact HC1_1.out); rintro e w_12 ⟨vR21, rfl, hoR21, hb⟩; refine ⟨_, rfl, ?_⟩; obtain ⟨loR21, hloR21⟩ : ∃ n_ : Nat, n_ = w_11.heap.size := ⟨_, rfl⟩; obtain ⟨hiR21, hhiR21⟩ : ∃ n_ : Nat, n_ = w_12.heap.size := ⟨_, rfl⟩; have n0_ := Aside0.mk (Kd.R_below HOR7.out hb); have n1_ := Aside0.mk (Kd.R_below HOR10.out hb); have n2_ := Aside0.mk (Kd.R_below HOR14.out hb); have n3_ := Aside0.mk (Kd.R_below HOR17.out hb); have n4_ := Aside0.mk (Nat.le_trans UPR7.out hb.size); have n5_ := Aside0.mk (Nat.le_trans UPR10.out hb.size); have n6_ := Aside0.mk (Nat.le_trans UPR14.out hb.size); have n7_ := Aside0.mk (Nat.le_trans UPR17.out hb.size); have n8_ := Aside0.mk (blk_below (g := gb1) BKgb1.out hb); have n9_ := Aside0.mk (blk_below (g := gb2) BKgb2.out hb); have n10_ := Aside0.mk (blk_below (g := gb18) BKgb18.out hb); have n11_ := Aside0.mk (Nat.lt_of_lt_of_le GUgb1.out hb.size); have n12_ := Aside0.mk (Nat.lt_of_lt_of_le GUgb2.out hb.size); have n13_ := Aside0.mk (Nat.lt_of_lt_of_le GUgb18.out hb.size); have n14_ := Aside0.mk (below_step HB.out hb); have n15_ := Aside0.mk (below_step HBM.out hb); have n16_ := Aside0.mk (Kd.R_lower (Kd.R_mono (ok' := fun k_ => loR21 ≤ k_ ∧ k_ < hiR21) (Kd.R_bound hoR21) (fun k_ hk_ => ⟨by rw [hloR21]; exact hk_.2.1, by rw [hhiR21]; exact hk_.2.2.1⟩)) (below_size HBM.out)); have n17_ := Aside0.mk (by rw [hhiR21]; exact Nat.le_refl _ : hiR21 ≤ w_12.heap.size); have n18_ := Aside0.mk (fun k_ h1_ h2_ => by have := UPR7.out; rw [← hloR21] at this; omega : ∀ k_, loR7 ≤ k_ ∧ k_ < hiR7 → ¬ (loR21 ≤ k_ ∧ k_ < hiR21)); have n19_ := Aside0.mk (fun k_ h1_ h2_ => by have := UPR7.out; rw [← hloR21] at this; omega : ∀ k_, loR21 ≤ k_ ∧ k_ < hiR21 → ¬ (loR7 ≤ k_ ∧ k_ < hiR7)); have n20_ := Aside0.mk (fun k_ h1_ h2_ => by have := UPR10.out; rw [← hloR21] at this; omega : ∀ k_, loR10 ≤ k_ ∧ k_ < hiR10 → ¬ (loR21 ≤ k_ ∧ k_ < hiR21)); have n21_ := Aside0.mk (fun k_ h1_ h2_ => by have := UPR10.out; rw [← hloR21] at this; omega : ∀ k_, loR21 ≤ k_ ∧ k_ < hiR21 → ¬ (loR10 ≤ k_ ∧ k_ < hiR10)); have n22_ := Aside0.mk (fun k_ h1_ h2_ => by have := UPR14.out; rw [← hloR21] at this; omega : ∀ k_, loR14 ≤ k_ ∧ k_ < hiR14 → ¬ (loR21 ≤ k_ ∧ k_ < hiR21)); have n23_ := Aside0.mk (fun k_ h1_ h2_ => by have := UPR14.out; rw [← hloR21] at this; omega : ∀ k_, loR21 ≤ k_ ∧ k_ < hiR21 → ¬ (loR14 ≤ k_ ∧ k_ < hiR14)); have n24_ := Aside0.mk (fun k_ h1_ h2_ => by have := UPR17.out; rw [← hloR21] at this; omega : ∀ k_, loR17 ≤ k_ ∧ k_ < hiR17 → ¬ (loR21 ≤ k_ ∧ k_ < hiR21)); have n25_ := Aside0.mk (fun k_ h1_ h2_ => by have := UPR17.out; rw [← hloR21] at this; omega : ∀ k_, loR21 ≤ k_ ∧ k_ < hiR21 → ¬ (loR17 ≤ k_ ∧ k_ < hiR17)); have n26_ := Aside0.mk (fun k_ hk_ => by have := GUgb1.out; rw [← hloR21] at this; omega : ∀ k_, loR21 ≤ k_ ∧ k_ < hiR21 → k_ ≠ gb1); have n27_ := Aside0.mk (fun k_ hk_ => by have := GUgb2.out; rw [← hloR21] at this; omega : ∀ k_, loR21 ≤ k_ ∧ k_ < hiR21 → k_ ≠ gb2); have n28_ := Aside0.mk (fun k_ hk_ => by have := GUgb18.out; rw [← hloR21] at this; omega : ∀ k_, loR21 ≤ k_ ∧ k_ < hiR21 → k_ ≠ gb18); clear HOR7; clear HOR10; clear HOR14; clear HOR17; clear UPR7; clear UPR10; clear UPR14; clear UPR17; clear BKgb1; clear BKgb2; clear BKgb18; clear GUgb1; clear GUgb2; clear GUgb18; clear HB; clear HBM; have HOR7 := n0_; have HOR10 := n1_; have HOR14 := n2_; have HOR17 := n3_; have UPR7 := n4_; have UPR10 := n5_; have UPR14 := n6_; have UPR17 := n7_; have BKgb1 := n8_; have BKgb2 := n9_; have BKgb18 := n10_; have GUgb1 := n11_; have GUgb2 := n12_; have GUgb18 := n13_; have HB := n14_; have HBM := n15_; have HOR21 := n16_; have UPR21 := n17_; have NRR7_R21 := n18_; have NRR21_R7 := n19_; have NRR10_R21 := n20_; have NRR21_R10 := n21_; have NRR14_R21 := n22_; have NRR21_R14 := n23_; have NRR17_R21 := n24_; have NRR21_R17 := n25_; have NER21_gb1 := n26_; have NER21_gb2 := n27_; have NER21_gb18 := n28_; clear n0_ n1_ n2_ n3_ n4_ n5_ n6_ n7_ n8_ n9_ n10_ n11_ n12_ n13_ n14_ n15_ n16_ n17_ n18_ n19_ n20_ n21_ n22_ n23_ n24_ n25_ n26_ n27_ n28_; clear hb; clear hoR21 hloR21 hhiR21; obtain ⟨AR21, cR21, eqR21⟩ := Kd.R_slice HOR21.out; subst eqR21; (try clear hczgb1_0); (try clear hfzgb1_0); (try clear hczgb1_1); (try clear hfzgb1_1); (try clear hczgb2_0); (try clear hfzgb2_0); (try clear hczgb2_1); (try clear hfzgb2_1); (try clear hczgb18_0); (try clear hfzgb18_0); (try clear hczgb18_1); (try clear hfzgb18_1); have hczgb1_0 : w_12.cell? ⟨gb1, 0, none⟩ = some (.int .i64 a0_0) := (blk_cell BKgb1.out 0).trans rfl; have hfzgb1_0 := blk_frozen BKgb1.out 0; have hczgb1_1 : w_12.cell? ⟨gb1, 1, none⟩ = some (.slice A0_1 l0_1.length c0_1) := (blk_cell BKgb1.out 1).trans rfl; have hfzgb1_1 := blk_frozen BKgb1.out 1; have hczgb2_0 : w_12.cell? ⟨gb2, 0, none⟩ = some (.int .i64 a1_0) := (blk_cell BKgb2.out 0).trans rfl; have hfzgb2_0 := blk_frozen BKgb2.out 0; have hczgb2_1 : w_12.cell? ⟨gb2, 1, none⟩ = some (.slice A1_1 l1_1.length c1_1) := (blk_cell BKgb2.out 1).trans rfl; have hfzgb2_1 := blk_frozen BKgb2.out 1; have hczgb18_0 : w_12.cell? ⟨gb18, 0, none⟩ = some (.int .i64 t15) := (blk_cell BKgb18.out 0).trans rfl; have hfzgb18_0 := blk_frozen BKgb18.out 0; have hczgb18_1 : w_12.cell? ⟨gb18, 1, none⟩ = some (.slice AR17 t16.length cR17) := (blk_cell BKgb18.out 1).trans rfl; have hfzgb18_1 := blk_frozen BKgb18.out 1) | ((with_reducible refine gate_dst (N := 10) rfl ?_); refine box_event ?hg (N := 10) ?hd (cs := #[.int .i64 0, .slice none 0 0]) (t := 33) ?hr ?_; (case hd => rfl); (case hg => rfl); (case hr => first | (go_simp; done) | (go_simp; rfl)); intro gb22 hg w_13 hbox hb; have n0_ := Aside0.mk (Kd.R_below HOR7.out hb); have n1_ := Aside0.mk (Kd.R_below HOR10.out hb); have n2_ := Aside0.mk (Kd.R_below HOR14.out hb); have n3_ := Aside0.mk (Kd.R_below HOR17.out hb); have n4_ := Aside0.mk (Kd.R_below HOR21.out hb); have n5_ := Aside0.mk (Nat.le_trans UPR7.out hb.size); have n6_ := Aside0.mk (Nat.le_trans UPR10.out hb.size); have n7_ := Aside0.mk (Nat.le_trans UPR14.out hb.size); have n8_ := Aside0.mk (Nat.le_trans UPR17.out hb.size); have n9_ := Aside0.mk (Nat.le_trans UPR21.out hb.size); have n10_ := Aside0.mk (blk_below (g := gb1) BKgb1.out hb); have n11_ := Aside0.mk (blk_below (g := gb2) BKgb2.out hb); have n12_ := Aside0.mk (blk_below (g := gb18) BKgb18.out hb); have n13_ := Aside0.mk (Nat.lt_of_lt_of_le GUgb1.out hb.size); have n14_ := Aside0.mk (Nat.lt_of_lt_of_le GUgb2.out hb.size); have n15_ := Aside0.mk (Nat.lt_of_lt_of_le GUgb18.out hb.size); have n16_ := Aside0.mk (below_step HB.out hb); have n17_ := Aside0.mk (below_step HBM.out hb); have n18_ := Aside0.mk (hbox); have n19_ := Aside0.mk (blk_lt hbox); have n20_ := Aside0.mk (by rw [hg]; exact below_size HB.out : w.heap.size ≤ gb22); have n21_ := Aside0.mk (by rw [hg]; exact below_size HBM.out : w_8.heap.size ≤ gb22); have n22_ := Aside0.mk (fun k_ hk_ => by have := UPR7.out; rw [← hg] at this; omega : ∀ k_, loR7 ≤ k_ ∧ k_ < hiR7 → k_ ≠ gb22); have n23_ := Aside0.mk (fun k_ hk_ => by have := UPR10.out; rw [← hg] at this; omega : ∀ k_, loR10 ≤ k_ ∧ k_ < hiR10 → k_ ≠ gb22); have n24_ := Aside0.mk (fun k_ hk_ => by have := UPR14.out; rw [← hg] at this; omega : ∀ k_, loR14 ≤ k_ ∧ k_ < hiR14 → k_ ≠ gb22); have n25_ := Aside0.mk (fun k_ hk_ => by have := UPR17.out; rw [← hg] at this; omega : ∀ k_, loR17 ≤ k_ ∧ k_ < hiR17 → k_ ≠ gb22); have n26_ := Aside0.mk (fun k_ hk_ => by have := UPR21.out; rw [← hg] at this; omega : ∀ k_, loR21 ≤ k_ ∧ k_ < hiR21 → k_ ≠ gb22); have n27_ := Aside0.mk (by have := GUgb1.out; rw [← hg] at this; omega : gb1 ≠ gb22); have n28_ := Aside0.mk (by have := GUgb1.out; rw [← hg] at this; omega : gb22 ≠ gb1); have n29_ := Aside0.mk (by have := GUgb2.out; rw [← hg] at this; omega : gb2 ≠ gb22); have n30_ := Aside0.mk (by have := GUgb2.out; rw [← hg] at this; omega : gb22 ≠ gb2); have n31_ := Aside0.mk (by have := GUgb18.out; rw [← hg] at this; omega : gb18 ≠ gb22); have n32_ := Aside0.mk (by have := GUgb18.out; rw [← hg] at this; omega : gb22 ≠ gb18); clear HOR7; clear HOR10; clear HOR14; clear HOR17; clear HOR21; clear UPR7; clear UPR10; clear UPR14; clear UPR17; clear UPR21; clear BKgb1; clear BKgb2; clear BKgb18; clear GUgb1; clear GUgb2; clear GUgb18; clear HB; clear HBM; have HOR7 := n0_; have HOR10 := n1_; have HOR14 := n2_; have HOR17 := n3_; have HOR21 := n4_; have UPR7 := n5_; have UPR10 := n6_; have UPR14 := n7_; have UPR17 := n8_; have UPR21 := n9_; have BKgb1 := n10_; have BKgb2 := n11_; have BKgb18 := n12_; have GUgb1 := n13_; have GUgb2 := n14_; have GUgb18 := n15_; have HB := n16_; have HBM := n17_; have BKgb22 := n18_; have GUgb22 := n19_; have GEgb22 := n20_; have GMgb22 := n21_; have NER7_gb22 := n22_; have NER10_gb22 := n23_; have NER14_gb22 := n24_; have NER17_gb22 := n25_; have NER21_gb22 := n26_; have NBgb1_gb22 := n27_; have NBgb22_gb1 := n28_; have NBgb2_gb22 := n29_; have NBgb22_gb2 := n30_; have NBgb18_gb22 := n31_; have NBgb22_gb18 := n32_; clear n0_ n1_ n2_ n3_ n4_ n5_ n6_ n7_ n8_ n9_ n10_ n11_ n12_ n13_ n14_ n15_ n16_ n17_ n18_ n19_ n20_ n21_ n22_ n23_ n24_ n25_ n26_ n27_ n28_ n29_ n30_ n31_ n32_; clear hb hbox hg; (try clear hczgb1_0); (try clear hfzgb1_0); (try clear hczgb1_1); (try clear hfzgb1_1); (try clear hczgb2_0); (try clear hfzgb2_0); (try clear hczgb2_1); (try clear hfzgb2_1); (try clear hczgb18_0); (try clear hfzgb18_0); (try clear hczgb18_1); (try clear hfzgb18_1); (try clear hczgb22_0); (try clear hfzgb22_0); (try clear hczgb22_1); (try clear hfzgb22_1); have hczgb1_0 : w_13.cell? ⟨gb1, 0, none⟩ = some (.int .i64 a0_0) := (blk_cell BKgb1.out 0).trans rfl; have hfzgb1_0 := blk_frozen BKgb1.out 0; have hczgb1_1 : w_13.cell? ⟨gb1, 1, none⟩ = some (.slice A0_1 l0_1.length c0_1) := (blk_cell BKgb1.out 1).trans rfl; have hfzgb1_1 := blk_frozen BKgb1.out 1; have hczgb2_0 : w_13.cell? ⟨gb2, 0, none⟩ = some (.int .i64 a1_0) := (blk_cell BKgb2.out 0).trans rfl; have hfzgb2_0 := blk_frozen BKgb2.out 0; have hczgb2_1 : w_13.cell? ⟨gb2, 1, none⟩ = some (.slice A1_1 l1_1.length c1_1) := (blk_cell BKgb2.out 1).trans rfl; have hfzgb2_1 := blk_frozen BKgb2.out 1; have hczgb18_0 : w_13.cell? ⟨gb18, 0, none⟩ = some (.int .i64 t15) := (blk_cell BKgb18.out 0).trans rfl; have hfzgb18_0 := blk_frozen BKgb18.out 0; have hczgb18_1 : w_13.cell? ⟨gb18, 1, none⟩ = some (.slice AR17 t16.length cR17) := (blk_cell BKgb18.out 1).trans rfl; have hfzgb18_1 := blk_frozen BKgb18.out 1; have hczgb22_0 : w_13.cell? ⟨gb22, 0, none⟩ = some (.int .i64 0) := (blk_cell BKgb22.out 0).trans rfl; have hfzgb22_0 := blk_frozen BKgb22.out 0; have hczgb22_1 : w_13.cell? ⟨gb22, 1, none⟩ = some (.slice none 0 0) := (blk_cell BKgb22.out 1).trans rfl; have hfzgb22_1 := blk_frozen BKgb22.out 1) | ((with_reducible refine gate_store (t := 33) (p := 10) rfl ?_); refine store_event (t := 33) (p := 10) (v := ?vow_14) (w1 := ((w_13.setCell ⟨gb22, 0, none⟩ (.int .i64 t19)).setCell ⟨gb22, 1, none⟩ (.slice AR21 t20.length cR21))) ?hg ?ho ?hn ?hr ?_; (case ho => rfl); (case hg => rfl); (case hn => rfl); (case hr => first | (go_simp; done) | (go_simp; rfl)); intro w_14 hw; have n0_ := Aside0.mk (by rw [hw]; exact (Kd.R_far (p := ⟨gb22, 1, none⟩) (Kd.R_far (p := ⟨gb22, 0, none⟩) HOR7.out NER7_gb22.out (.int .i64 t19)) NER7_gb22.out (.slice AR21 t20.length cR21)) : Kd.R (Kd.int .i64) 2 w_14 w.heap.size (fun k_ => loR7 ≤ k_ ∧ k_ < hiR7) (.slice AR7 t6.length cR7) t6); have n1_ := Aside0.mk (by rw [hw]; simp only [World.size_setCell]; exact UPR7.out : hiR7 ≤ w_14.heap.size); have n2_ := Aside0.mk (by rw [hw]; exact (Kd.R_far (p := ⟨gb22, 1, none⟩) (Kd.R_far (p := ⟨gb22, 0, none⟩) HOR10.out NER10_gb22.out (.int .i64 t19)) NER10_gb22.out (.slice AR21 t20.length cR21)) : Kd.R (Kd.int .i64) 2 w_14 w.heap.size (fun k_ => loR10 ≤ k_ ∧ k_ < hiR10) (.slice AR10 t9.length cR10) t9); have n3_ := Aside0.mk (by rw [hw]; simp only [World.size_setCell]; exact UPR10.out : hiR10 ≤ w_14.heap.size); have n4_ := Aside0.mk (by rw [hw]; exact (Kd.R_far (p := ⟨gb22, 1, none⟩) (Kd.R_far (p := ⟨gb22, 0, none⟩) HOR14.out NER14_gb22.out (.int .i64 t19)) NER14_gb22.out (.slice AR21 t20.length cR21)) : Kd.R (Kd.int .i64) 2 w_14 w.heap.size (fun k_ => loR14 ≤ k_ ∧ k_ < hiR14) (.slice AR14 t11.length cR14) t11); have n5_ := Aside0.mk (by rw [hw]; simp only [World.size_setCell]; exact UPR14.out : hiR14 ≤ w_14.heap.size); have n6_ := Aside0.mk (by rw [hw]; exact (Kd.R_far (p := ⟨gb22, 1, none⟩) (Kd.R_far (p := ⟨gb22, 0, none⟩) HOR17.out NER17_gb22.out (.int .i64 t19)) NER17_gb22.out (.slice AR21 t20.length cR21)) : Kd.R (Kd.int .i64) 2 w_14 w_8.heap.size (fun k_ => loR17 ≤ k_ ∧ k_ < hiR17) (.slice AR17 t16.length cR17) t16); have n7_ := Aside0.mk (by rw [hw]; simp only [World.size_setCell]; exact UPR17.out : hiR17 ≤ w_14.heap.size); have n8_ := Aside0.mk (by rw [hw]; exact (Kd.R_far (p := ⟨gb22, 1, none⟩) (Kd.R_far (p := ⟨gb22, 0, none⟩) HOR21.out NER21_gb22.out (.int .i64 t19)) NER21_gb22.out (.slice AR21 t20.length cR21)) : Kd.R (Kd.int .i64) 2 w_14 w_8.heap.size (fun k_ => loR21 ≤ k_ ∧ k_ < hiR21) (.slice AR21 t20.length cR21) t20); have n9_ := Aside0.mk (by rw [hw]; simp only [World.size_setCell]; exact UPR21.out : hiR21 ≤ w_14.heap.size); have n10_ := Aside0.mk (by rw [hw]; exact (blk_far (blk_far BKgb1.out NBgb1_gb22.out (.int .i64 t19)) NBgb1_gb22.out (.slice AR21 t20.length cR21)) : w_14.heap[gb1]? = some (.cells #[.int .i64 a0_0, .slice A0_1 l0_1.length c0_1] 24 (0, 0))); have n11_ := Aside0.mk (by rw [hw]; simp only [World.size_setCell]; exact GUgb1.out : gb1 < w_14.heap.size); have n12_ := Aside0.mk (by rw [hw]; exact (blk_far (blk_far BKgb2.out NBgb2_gb22.out (.int .i64 t19)) NBgb2_gb22.out (.slice AR21 t20.length cR21)) : w_14.heap[gb2]? = some (.cells #[.int .i64 a1_0, .slice A1_1 l1_1.length c1_1] 26 (0, 0))); have n13_ := Aside0.mk (by rw [hw]; simp only [World.size_setCell]; exact GUgb2.out : gb2 < w_14.heap.size); have n14_ := Aside0.mk (by rw [hw]; exact (blk_far (blk_far BKgb18.out NBgb18_gb22.out (.int .i64 t19)) NBgb18_gb22.out (.slice AR21 t20.length cR21)) : w_14.heap[gb18]? = some (.cells #[.int .i64 t15, .slice AR17 t16.length cR17] 31 (0, 0))); have n15_ := Aside0.mk (by rw [hw]; simp only [World.size_setCell]; exact GUgb18.out : gb18 < w_14.heap.size); have n16_ := Aside0.mk (by rw [hw]; exact (blk_put (cs' := #[.int .i64 t19, .slice AR21 t20.length cR21]) (blk_put (cs' := #[.int .i64 t19, .slice none 0 0]) BKgb22.out 0 (.int .i64 t19) rfl) 1 (.slice AR21 t20.length cR21) rfl) : w_14.heap[gb22]? = some (.cells #[.int .i64 t19, .slice AR21 t20.length cR21] 33 (0, 0))); have n17_ := Aside0.mk (by rw [hw]; simp only [World.size_setCell]; exact GUgb22.out : gb22 < w_14.heap.size); have n18_ := Aside0.mk (by rw [hw]; exact (below_set (below_set HB.out GEgb22.out) GEgb22.out) : Below w.heap.size w w_14); have n19_ := Aside0.mk (by rw [hw]; exact (below_set (below_set HBM.out GMgb22.out) GMgb22.out) : Below w_8.heap.size w_8 w_14); clear HOR7; clear UPR7; clear HOR10; clear UPR10; clear HOR14; clear UPR14; clear HOR17; clear UPR17; clear HOR21; clear UPR21; clear BKgb1; clear GUgb1; clear BKgb2; clear GUgb2; clear BKgb18; clear GUgb18; clear BKgb22; clear GUgb22; clear HB; clear HBM; have HOR7 := n0_; have UPR7 := n1_; have HOR10 := n2_; have UPR10 := n3_; have HOR14 := n4_; have UPR14 := n5_; have HOR17 := n6_; have UPR17 := n7_; have HOR21 := n8_; have UPR21 := n9_; have BKgb1 := n10_; have GUgb1 := n11_; have BKgb2 := n12_; have GUgb2 := n13_; have BKgb18 := n14_; have GUgb18 := n15_; have BKgb22 := n16_; have GUgb22 := n17_; have HB := n18_; have HBM := n19_; clear n0_ n1_ n2_ n3_ n4_ n5_ n6_ n7_ n8_ n9_ n10_ n11_ n12_ n13_ n14_ n15_ n16_ n17_ n18_ n19_; clear hw; (try clear hczgb1_0); (try clear hfzgb1_0); (try clear hczgb1_1); (try clear hfzgb1_1); (try clear hczgb2_0); (try clear hfzgb2_0); (try clear hczgb2_1); (try clear hfzgb2_1); (try clear hczgb18_0); (try clear hfzgb18_0); (try clear hczgb18_1); (try clear hfzgb18_1); (try clear hczgb22_0); (try clear hfzgb22_0); (try clear hczgb22_1); (try clear hfzgb22_1); have hczgb1_0 : w_14.cell? ⟨gb1, 0, none⟩ = some (.int .i64 a0_0) := (blk_cell BKgb1.out 0).trans rfl; have hfzgb1_0 := blk_frozen BKgb1.out 0; have hczgb1_1 : w_14.cell? ⟨gb1, 1, none⟩ = some (.slice A0_1 l0_1.length c0_1) := (blk_cell BKgb1.out 1).trans rfl; have hfzgb1_1 := blk_frozen BKgb1.out 1; have hczgb2_0 : w_14.cell? ⟨gb2, 0, none⟩ = some (.int .i64 a1_0) := (blk_cell BKgb2.out 0).trans rfl; have hfzgb2_0 := blk_frozen BKgb2.out 0; have hczgb2_1 : w_14.cell? ⟨gb2, 1, none⟩ = some (.slice A1_1 l1_1.length c1_1) := (blk_cell BKgb2.out 1).trans rfl; have hfzgb2_1 := blk_frozen BKgb2.out 1; have hczgb18_0 : w_14.cell? ⟨gb18, 0, none⟩ = some (.int .i64 t15) := (blk_cell BKgb18.out 0).trans rfl; have hfzgb18_0 := blk_frozen BKgb18.out 0; have hczgb18_1 : w_14.cell? ⟨gb18, 1, none⟩ = some (.slice AR17 t16.length cR17) := (blk_cell BKgb18.out 1).trans rfl; have hfzgb18_1 := blk_frozen BKgb18.out 1; have hczgb22_0 : w_14.cell? ⟨gb22, 0, none⟩ = some (.int .i64 t19) := (blk_cell BKgb22.out 0).trans rfl; have hfzgb22_0 := blk_frozen BKgb22.out 0; have hczgb22_1 : w_14.cell? ⟨gb22, 1, none⟩ = some (.slice AR21 t20.length cR21) := (blk_cell BKgb22.out 1).trans rfl; have hfzgb22_1 := blk_frozen BKgb22.out 1) | ((with_reducible refine gate_callee (f := 13) rfl ?_); refine goesL_ (some 46) rfl rfl Try.func13 (by kernel_rfl) rfl #[.agg #[.int .i64 t15, .slice AR17 t16.length cR17], .agg #[.int .i64 t19, .slice AR21 t20.length cR21]] rfl (by (try simp only [List.map_toArray, List.map_cons, List.map_nil]); first | done | rfl) ?_; (with_reducible refine (impl_SystemRounding.calls k t15 _ _ t16 t19 _ _ t20 t23 t51 t52 _ ?side1 ?side2 ?side3 ?side4 E10.out).mono ?_); (case side1 => exact (Kd.R_reads' HOR17.out).2.2); (case side2 => exact (Kd.R_reads' HOR17.out).2.1); (case side3 => exact (Kd.R_reads' HOR21.out).2.2); (case side4 => exact (Kd.R_reads' HOR21.out).2.1); rintro e w_15 ⟨vR26, rfl, hoR26, hb⟩; refine ⟨_, rfl, ?_⟩; obtain ⟨loR26, hloR26⟩ : ∃ n_ : Nat, n_ = w_14.heap.size := ⟨_, rfl⟩; obtain ⟨hiR26, hhiR26⟩ : ∃ n_ : Nat, n_ = w_15.heap.size := ⟨_, rfl⟩; have n0_ := Aside0.mk (Kd.R_below HOR7.out hb); have n1_ := Aside0.mk (Kd.R_below HOR10.out hb); have n2_ := Aside0.mk (Kd.R_below HOR14.out hb); have n3_ := Aside0.mk (Kd.R_below HOR17.out hb); have n4_ := Aside0.mk (Kd.R_below HOR21.out hb); have n5_ := Aside0.mk (Nat.le_trans UPR7.out hb.size); have n6_ := Aside0.mk (Nat.le_trans UPR10.out hb.size); have n7_ := Aside0.mk (Nat.le_trans UPR14.out hb.size); have n8_ := Aside0.mk (Nat.le_trans UPR17.out hb.size); have n9_ := Aside0.mk (Nat.le_trans UPR21.out hb.size); have n10_ := Aside0.mk (blk_below (g := gb1) BKgb1.out hb); have n11_ := Aside0.mk (blk_below (g := gb2) BKgb2.out hb); have n12_ := Aside0.mk (blk_below (g := gb18) BKgb18.out hb); have n13_ := Aside0.mk (blk_below (g := gb22) BKgb22.out hb); have n14_ := Aside0.mk (Nat.lt_of_lt_of_le GUgb1.out hb.size); have n15_ := Aside0.mk (Nat.lt_of_lt_of_le GUgb2.out hb.size); have n16_ := Aside0.mk (Nat.lt_of_lt_of_le GUgb18.out hb.size); have n17_ := Aside0.mk (Nat.lt_of_lt_of_le GUgb22.out hb.size); have n18_ := Aside0.mk (below_step HB.out hb); have n19_ := Aside0.mk (below_step HBM.out hb); have n20_ := Aside0.mk (Kd.R_lower (Kd.R_mono (ok' := fun k_ => loR26 ≤ k_ ∧ k_ < hiR26) (Kd.R_bound hoR26) (fun k_ hk_ => ⟨by rw [hloR26]; exact hk_.2.1, by rw [hhiR26]; exact hk_.2.2.1⟩)) (below_size HBM.out)); have n21_ := Aside0.mk (by rw [hhiR26]; exact Nat.le_refl _ : hiR26 ≤ w_15.heap.size); have n22_ := Aside0.mk (fun k_ h1_ h2_ => by have := UPR7.out; rw [← hloR26] at this; omega : ∀ k_, loR7 ≤ k_ ∧ k_ < hiR7 → ¬ (loR26 ≤ k_ ∧ k_ < hiR26)); have n23_ := Aside0.mk (fun k_ h1_ h2_ => by have := UPR7.out; rw [← hloR26] at this; omega : ∀ k_, loR26 ≤ k_ ∧ k_ < hiR26 → ¬ (loR7 ≤ k_ ∧ k_ < hiR7)); have n24_ := Aside0.mk (fun k_ h1_ h2_ => by have := UPR10.out; rw [← hloR26] at this; omega : ∀ k_, loR10 ≤ k_ ∧ k_ < hiR10 → ¬ (loR26 ≤ k_ ∧ k_ < hiR26)); have n25_ := Aside0.mk (fun k_ h1_ h2_ => by have := UPR10.out; rw [← hloR26] at this; omega : ∀ k_, loR26 ≤ k_ ∧ k_ < hiR26 → ¬ (loR10 ≤ k_ ∧ k_ < hiR10)); have n26_ := Aside0.mk (fun k_ h1_ h2_ => by have := UPR14.out; rw [← hloR26] at this; omega : ∀ k_, loR14 ≤ k_ ∧ k_ < hiR14 → ¬ (loR26 ≤ k_ ∧ k_ < hiR26)); have n27_ := Aside0.mk (fun k_ h1_ h2_ => by have := UPR14.out; rw [← hloR26] at this; omega : ∀ k_, loR26 ≤ k_ ∧ k_ < hiR26 → ¬ (loR14 ≤ k_ ∧ k_ < hiR14)); have n28_ := Aside0.mk (fun k_ h1_ h2_ => by have := UPR17.out; rw [← hloR26] at this; omega : ∀ k_, loR17 ≤ k_ ∧ k_ < hiR17 → ¬ (loR26 ≤ k_ ∧ k_ < hiR26)); have n29_ := Aside0.mk (fun k_ h1_ h2_ => by have := UPR17.out; rw [← hloR26] at this; omega : ∀ k_, loR26 ≤ k_ ∧ k_ < hiR26 → ¬ (loR17 ≤ k_ ∧ k_ < hiR17)); have n30_ := Aside0.mk (fun k_ h1_ h2_ => by have := UPR21.out; rw [← hloR26] at this; omega : ∀ k_, loR21 ≤ k_ ∧ k_ < hiR21 → ¬ (loR26 ≤ k_ ∧ k_ < hiR26)); have n31_ := Aside0.mk (fun k_ h1_ h2_ => by have := UPR21.out; rw [← hloR26] at this; omega : ∀ k_, loR26 ≤ k_ ∧ k_ < hiR26 → ¬ (loR21 ≤ k_ ∧ k_ < hiR21)); have n32_ := Aside0.mk (fun k_ hk_ => by have := GUgb1.out; rw [← hloR26] at this; omega : ∀ k_, loR26 ≤ k_ ∧ k_ < hiR26 → k_ ≠ gb1); have n33_ := Aside0.mk (fun k_ hk_ => by have := GUgb2.out; rw [← hloR26] at this; omega : ∀ k_, loR26 ≤ k_ ∧ k_ < hiR26 → k_ ≠ gb2); have n34_ := Aside0.mk (fun k_ hk_ => by have := GUgb18.out; rw [← hloR26] at this; omega : ∀ k_, loR26 ≤ k_ ∧ k_ < hiR26 → k_ ≠ gb18); have n35_ := Aside0.mk (fun k_ hk_ => by have := GUgb22.out; rw [← hloR26] at this; omega : ∀ k_, loR26 ≤ k_ ∧ k_ < hiR26 → k_ ≠ gb22); clear HOR7; clear HOR10; clear HOR14; clear HOR17; clear HOR21; clear UPR7; clear UPR10; clear UPR14; clear UPR17; clear UPR21; clear BKgb1; clear BKgb2; clear BKgb18; clear BKgb22; clear GUgb1; clear GUgb2; clear GUgb18; clear GUgb22; clear HB; clear HBM; have HOR7 := n0_; have HOR10 := n1_; have HOR14 := n2_; have HOR17 := n3_; have HOR21 := n4_; have UPR7 := n5_; have UPR10 := n6_; have UPR14 := n7_; have UPR17 := n8_; have UPR21 := n9_; have BKgb1 := n10_; have BKgb2 := n11_; have BKgb18 := n12_; have BKgb22 := n13_; have GUgb1 := n14_; have GUgb2 := n15_; have GUgb18 := n16_; have GUgb22 := n17_; have HB := n18_; have HBM := n19_; have HOR26 := n20_; have UPR26 := n21_; have NRR7_R26 := n22_; have NRR26_R7 := n23_; have NRR10_R26 := n24_; have NRR26_R10 := n25_; have NRR14_R26 := n26_; have NRR26_R14 := n27_; have NRR17_R26 := n28_; have NRR26_R17 := n29_; have NRR21_R26 := n30_; have NRR26_R21 := n31_; have NER26_gb1 := n32_; have NER26_gb2 := n33_; have NER26_gb18 := n34_; have NER26_gb22 := n35_; clear n0_ n1_ n2_ n3_ n4_ n5_ n6_ n7_ n8_ n9_ n10_ n11_ n12_ n13_ n14_ n15_ n16_ n17_ n18_ n19_ n20_ n21_ n22_ n23_ n24_ n25_ n26_ n27_ n28_ n29_ n30_ n31_ n32_ n33_ n34_ n35_; clear hb; clear hoR26 hloR26 hhiR26; obtain ⟨AR26, cR26, eqR26⟩ := Kd.R_slice HOR26.out; subst eqR26; (try clear hczgb1_0); (try clear hfzgb1_0); (try clear hczgb1_1); (try clear hfzgb1_1); (try clear hczgb2_0); (try clear hfzgb2_0); (try clear hczgb2_1); (try clear hfzgb2_1); (try clear hczgb18_0); (try clear hfzgb18_0); (try clear hczgb18_1); (try clear hfzgb18_1); (try clear hczgb22_0); (try clear hfzgb22_0); (try clear hczgb22_1); (try clear hfzgb22_1); have hczgb1_0 : w_15.cell? ⟨gb1, 0, none⟩ = some (.int .i64 a0_0) := (blk_cell BKgb1.out 0).trans rfl; have hfzgb1_0 := blk_frozen BKgb1.out 0; have hczgb1_1 : w_15.cell? ⟨gb1, 1, none⟩ = some (.slice A0_1 l0_1.length c0_1) := (blk_cell BKgb1.out 1).trans rfl; have hfzgb1_1 := blk_frozen BKgb1.out 1; have hczgb2_0 : w_15.cell? ⟨gb2, 0, none⟩ = some (.int .i64 a1_0) := (blk_cell BKgb2.out 0).trans rfl; have hfzgb2_0 := blk_frozen BKgb2.out 0; have hczgb2_1 : w_15.cell? ⟨gb2, 1, none⟩ = some (.slice A1_1 l1_1.length c1_1) := (blk_cell BKgb2.out 1).trans rfl; have hfzgb2_1 := blk_frozen BKgb2.out 1; have hczgb18_0 : w_15.cell? ⟨gb18, 0, none⟩ = some (.int .i64 t15) := (blk_cell BKgb18.out 0).trans rfl; have hfzgb18_0 := blk_frozen BKgb18.out 0; have hczgb18_1 : w_15.cell? ⟨gb18, 1, none⟩ = some (.slice AR17 t16.length cR17) := (blk_cell BKgb18.out 1).trans rfl; have hfzgb18_1 := blk_frozen BKgb18.out 1; have hczgb22_0 : w_15.cell? ⟨gb22, 0, none⟩ = some (.int .i64 t19) := (blk_cell BKgb22.out 0).trans rfl; have hfzgb22_0 := blk_frozen BKgb22.out 0; have hczgb22_1 : w_15.cell? ⟨gb22, 1, none⟩ = some (.slice AR21 t20.length cR21) := (blk_cell BKgb22.out 1).trans rfl; have hfzgb22_1 := blk_frozen BKgb22.out 1) | ((with_reducible refine gate_callee (f := 14) rfl ?_); refine goesL_ (some 52) rfl rfl Try.func14 (by kernel_rfl) rfl #[.slice AR26 t23.length cR26, .slice AR14 t11.length cR14] rfl (by (try simp only [List.map_toArray, List.map_cons, List.map_nil]); first | done | rfl) ?_; (with_reducible refine (laws_eqInt64S.calls k _ _ t23 _ _ t11 true _ ?side1 ?side2 ?side3 ?side4 E11.out).mono ?_); (case side1 => exact (Kd.R_reads' HOR26.out).2.2); (case side2 => exact (Kd.R_reads' HOR26.out).2.1); (case side3 => exact (Kd.R_reads' HOR14.out).2.2); (case side4 => exact (Kd.R_reads' HOR14.out).2.1); rintro e w_16 ⟨rfl, hd⟩; have hb := Drawn0.below hd; refine ⟨_, rfl, ?_⟩; have n0_ := Aside0.mk (Kd.R_below HOR7.out hb); have n1_ := Aside0.mk (Kd.R_below HOR10.out hb); have n2_ := Aside0.mk (Kd.R_below HOR14.out hb); have n3_ := Aside0.mk (Kd.R_below HOR17.out hb); have n4_ := Aside0.mk (Kd.R_below HOR21.out hb); have n5_ := Aside0.mk (Kd.R_below HOR26.out hb); have n6_ := Aside0.mk (Nat.le_trans UPR7.out hb.size); have n7_ := Aside0.mk (Nat.le_trans UPR10.out hb.size); have n8_ := Aside0.mk (Nat.le_trans UPR14.out hb.size); have n9_ := Aside0.mk (Nat.le_trans UPR17.out hb.size); have n10_ := Aside0.mk (Nat.le_trans UPR21.out hb.size); have n11_ := Aside0.mk (Nat.le_trans UPR26.out hb.size); have n12_ := Aside0.mk (blk_below (g := gb1) BKgb1.out hb); have n13_ := Aside0.mk (blk_below (g := gb2) BKgb2.out hb); have n14_ := Aside0.mk (blk_below (g := gb18) BKgb18.out hb); have n15_ := Aside0.mk (blk_below (g := gb22) BKgb22.out hb); have n16_ := Aside0.mk (Nat.lt_of_lt_of_le GUgb1.out hb.size); have n17_ := Aside0.mk (Nat.lt_of_lt_of_le GUgb2.out hb.size); have n18_ := Aside0.mk (Nat.lt_of_lt_of_le GUgb18.out hb.size); have n19_ := Aside0.mk (Nat.lt_of_lt_of_le GUgb22.out hb.size); have n20_ := Aside0.mk (below_step HB.out hb); have n21_ := Aside0.mk (below_step HBM.out hb); clear HOR7; clear HOR10; clear HOR14; clear HOR17; clear HOR21; clear HOR26; clear UPR7; clear UPR10; clear UPR14; clear UPR17; clear UPR21; clear UPR26; clear BKgb1; clear BKgb2; clear BKgb18; clear BKgb22; clear GUgb1; clear GUgb2; clear GUgb18; clear GUgb22; clear HB; clear HBM; have HOR7 := n0_; have HOR10 := n1_; have HOR14 := n2_; have HOR17 := n3_; have HOR21 := n4_; have HOR26 := n5_; have UPR7 := n6_; have UPR10 := n7_; have UPR14 := n8_; have UPR17 := n9_; have UPR21 := n10_; have UPR26 := n11_; have BKgb1 := n12_; have BKgb2 := n13_; have BKgb18 := n14_; have BKgb22 := n15_; have GUgb1 := n16_; have GUgb2 := n17_; have GUgb18 := n18_; have GUgb22 := n19_; have HB := n20_; have HBM := n21_; clear n0_ n1_ n2_ n3_ n4_ n5_ n6_ n7_ n8_ n9_ n10_ n11_ n12_ n13_ n14_ n15_ n16_ n17_ n18_ n19_ n20_ n21_; clear hb; clear hd; (try clear hczgb1_0); (try clear hfzgb1_0); (try clear hczgb1_1); (try clear hfzgb1_1); (try clear hczgb2_0); (try clear hfzgb2_0); (try clear hczgb2_1); (try clear hfzgb2_1); (try clear hczgb18_0); (try clear hfzgb18_0); (try clear hczgb18_1); (try clear hfzgb18_1); (try clear hczgb22_0); (try clear hfzgb22_0); (try clear hczgb22_1); (try clear hfzgb22_1); have hczgb1_0 : w_16.cell? ⟨gb1, 0, none⟩ = some (.int .i64 a0_0) := (blk_cell BKgb1.out 0).trans rfl; have hfzgb1_0 := blk_frozen BKgb1.out 0; have hczgb1_1 : w_16.cell? ⟨gb1, 1, none⟩ = some (.slice A0_1 l0_1.length c0_1) := (blk_cell BKgb1.out 1).trans rfl; have hfzgb1_1 := blk_frozen BKgb1.out 1; have hczgb2_0 : w_16.cell? ⟨gb2, 0, none⟩ = some (.int .i64 a1_0) := (blk_cell BKgb2.out 0).trans rfl; have hfzgb2_0 := blk_frozen BKgb2.out 0; have hczgb2_1 : w_16.cell? ⟨gb2, 1, none⟩ = some (.slice A1_1 l1_1.length c1_1) := (blk_cell BKgb2.out 1).trans rfl; have hfzgb2_1 := blk_frozen BKgb2.out 1; have hczgb18_0 : w_16.cell? ⟨gb18, 0, none⟩ = some (.int .i64 t15) := (blk_cell BKgb18.out 0).trans rfl; have hfzgb18_0 := blk_frozen BKgb18.out 0; have hczgb18_1 : w_16.cell? ⟨gb18, 1, none⟩ = some (.slice AR17 t16.length cR17) := (blk_cell BKgb18.out 1).trans rfl; have hfzgb18_1 := blk_frozen BKgb18.out 1; have hczgb22_0 : w_16.cell? ⟨gb22, 0, none⟩ = some (.int .i64 t19) := (blk_cell BKgb22.out 0).trans rfl; have hfzgb22_0 := blk_frozen BKgb22.out 0; have hczgb22_1 : w_16.cell? ⟨gb22, 1, none⟩ = some (.slice AR21 t20.length cR21) := (blk_cell BKgb22.out 1).trans rfl; have hfzgb22_1 := blk_frozen BKgb22.out 1))
 have n0_ := Aside0.mk (Kd.R_drew HOR7.out)
 have n1_ := Aside0.mk (Kd.R_drew HOR10.out)
 have n2_ := Aside0.mk (Kd.R_drew HOR14.out)
 have n3_ := Aside0.mk (Kd.R_drew HOR17.out)
 have n4_ := Aside0.mk (Kd.R_drew HOR21.out)
 have n5_ := Aside0.mk (Kd.R_drew HOR26.out)
 have n6_ := Aside0.mk (show hiR7 ≤ w_16.drew.heap.size from UPR7.out)
 have n7_ := Aside0.mk (show hiR10 ≤ w_16.drew.heap.size from UPR10.out)
 have n8_ := Aside0.mk (show hiR14 ≤ w_16.drew.heap.size from UPR14.out)
 have n9_ := Aside0.mk (show hiR17 ≤ w_16.drew.heap.size from UPR17.out)
 have n10_ := Aside0.mk (show hiR21 ≤ w_16.drew.heap.size from UPR21.out)
 have n11_ := Aside0.mk (show hiR26 ≤ w_16.drew.heap.size from UPR26.out)
 have n12_ := Aside0.mk (blk_drew BKgb1.out)
 have n13_ := Aside0.mk (blk_drew BKgb2.out)
 have n14_ := Aside0.mk (blk_drew BKgb18.out)
 have n15_ := Aside0.mk (blk_drew BKgb22.out)
 have n16_ := Aside0.mk (show gb1 < w_16.drew.heap.size from GUgb1.out)
 have n17_ := Aside0.mk (show gb2 < w_16.drew.heap.size from GUgb2.out)
 have n18_ := Aside0.mk (show gb18 < w_16.drew.heap.size from GUgb18.out)
 have n19_ := Aside0.mk (show gb22 < w_16.drew.heap.size from GUgb22.out)
 have n20_ := Aside0.mk (below_drew1 HB.out)
 have n21_ := Aside0.mk (below_drew1 HBM.out)
 clear HOR7
 clear HOR10
 clear HOR14
 clear HOR17
 clear HOR21
 clear HOR26
 clear UPR7
 clear UPR10
 clear UPR14
 clear UPR17
 clear UPR21
 clear UPR26
 clear BKgb1
 clear BKgb2
 clear BKgb18
 clear BKgb22
 clear GUgb1
 clear GUgb2
 clear GUgb18
 clear GUgb22
 clear HB
 clear HBM
 have HOR7 := n0_
 have HOR10 := n1_
 have HOR14 := n2_
 have HOR17 := n3_
 have HOR21 := n4_
 have HOR26 := n5_
 have UPR7 := n6_
 have UPR10 := n7_
 have UPR14 := n8_
 have UPR17 := n9_
 have UPR21 := n10_
 have UPR26 := n11_
 have BKgb1 := n12_
 have BKgb2 := n13_
 have BKgb18 := n14_
 have BKgb22 := n15_
 have GUgb1 := n16_
 have GUgb2 := n17_
 have GUgb18 := n18_
 have GUgb22 := n19_
 have HB := n20_
 have HBM := n21_
 clear n0_ n1_ n2_ n3_ n4_ n5_ n6_ n7_ n8_ n9_ n10_ n11_ n12_ n13_ n14_ n15_ n16_ n17_ n18_ n19_ n20_ n21_
 (try clear hczgb1_0); (try clear hfzgb1_0)
 (try clear hczgb1_1); (try clear hfzgb1_1)
 (try clear hczgb2_0); (try clear hfzgb2_0)
 (try clear hczgb2_1); (try clear hfzgb2_1)
 (try clear hczgb18_0); (try clear hfzgb18_0)
 (try clear hczgb18_1); (try clear hfzgb18_1)
 (try clear hczgb22_0); (try clear hfzgb22_0)
 (try clear hczgb22_1); (try clear hfzgb22_1)
 refine start_ (n := 5) (S := fun w' => w'.cell? ⟨gb18, 0, none⟩ = some (.int .i64 t15) ∧ w'.cell? ⟨gb18, 1, none⟩ = some (.slice AR17 t16.length cR17) ∧ w'.cell? ⟨gb1, 0, none⟩ = some (.int .i64 a0_0) ∧ w'.cell? ⟨gb1, 1, none⟩ = some (.slice A0_1 l0_1.length c0_1)) (ds := []) #[false, false, false, false, false] (by kernel_rfl) rfl rfl ⟨(blk_cell BKgb18.out 0).trans rfl, (blk_cell BKgb18.out 1).trans rfl, (blk_cell BKgb1.out 0).trans rfl, (blk_cell BKgb1.out 1).trans rfl⟩ (fun hHeld => ?_)
 generalize w_16.drew = w_17 at HOR7 HOR10 HOR14 HOR17 HOR21 HOR26 UPR7 UPR10 UPR14 UPR17 UPR21 UPR26 BKgb1 BKgb2 BKgb18 BKgb22 GUgb1 GUgb2 GUgb18 GUgb22 HB HBM hHeld ⊢
 refine take_ (i := 0) (N := some 64) (v := ?_) (a' := ?_) #[true, false, false, false, false] rfl rfl (by kernel_rfl) (fun _ _ _ h => h) (Or.inl ⟨by rfl, ?_⟩) hHeld ?_ ?_
 rotate_left
 ·rintro w' ⟨s0, s1, s2, s3⟩
  go_simp
  with_reducible rfl
 rotate_left
 ·simp only [Act.put, List.setIfInBounds_toArray, List.set_cons_zero, List.set_cons_succ, i64_w, i32_w]
  rfl
 refine take_ (i := 1) (N := some 65) (v := ?_) (a' := ?_) #[true, true, false, false, false] rfl rfl (by kernel_rfl) (fun _ _ _ h => h) (Or.inl ⟨by rfl, ?_⟩) hHeld ?_ ?_
 rotate_left
 ·rintro w' ⟨s0, s1, s2, s3⟩
  go_simp
  with_reducible rfl
 rotate_left
 ·simp only [Act.put, List.setIfInBounds_toArray, List.set_cons_zero, List.set_cons_succ, i64_w, i32_w]
  rfl
 refine one_ (i := 2) (N := some 66) #[true, true, true, false, false] rfl rfl (by kernel_rfl) (by decide) (fun K hK => ?_)
 refine goes_ Try.func11 (by kernel_rfl) rfl #[.agg #[.int .i64 a0_0, .slice A0_1 l0_1.length c0_1]] (by rfl) rfl rfl (by (try simp only [List.map_toArray, List.map_cons, List.map_nil]); first | done | rfl) ?_
 (with_reducible refine (laws_toSystem.calls k a0_0 _ _ l0_1 t28 t29 _ ?side1 ?side2 E15.out).mono ?_)
 (case side1 => exact Kd.C_below HR0_1.out HB.out)
 (case side2 => exact HC0_1.out)
 rintro e w_18 ⟨vR30, rfl, hoR30, hb⟩
 refine ⟨_, rfl, ?_⟩
 obtain ⟨loR30, hloR30⟩ : ∃ n_ : Nat, n_ = w_17.heap.size := ⟨_, rfl⟩
 obtain ⟨hiR30, hhiR30⟩ : ∃ n_ : Nat, n_ = w_18.heap.size := ⟨_, rfl⟩
 have n0_ := Aside0.mk (Kd.R_below HOR7.out hb)
 have n1_ := Aside0.mk (Kd.R_below HOR10.out hb)
 have n2_ := Aside0.mk (Kd.R_below HOR14.out hb)
 have n3_ := Aside0.mk (Kd.R_below HOR17.out hb)
 have n4_ := Aside0.mk (Kd.R_below HOR21.out hb)
 have n5_ := Aside0.mk (Kd.R_below HOR26.out hb)
 have n6_ := Aside0.mk (Nat.le_trans UPR7.out hb.size)
 have n7_ := Aside0.mk (Nat.le_trans UPR10.out hb.size)
 have n8_ := Aside0.mk (Nat.le_trans UPR14.out hb.size)
 have n9_ := Aside0.mk (Nat.le_trans UPR17.out hb.size)
 have n10_ := Aside0.mk (Nat.le_trans UPR21.out hb.size)
 have n11_ := Aside0.mk (Nat.le_trans UPR26.out hb.size)
 have n12_ := Aside0.mk (blk_below (g := gb1) BKgb1.out hb)
 have n13_ := Aside0.mk (blk_below (g := gb2) BKgb2.out hb)
 have n14_ := Aside0.mk (blk_below (g := gb18) BKgb18.out hb)
 have n15_ := Aside0.mk (blk_below (g := gb22) BKgb22.out hb)
 have n16_ := Aside0.mk (Nat.lt_of_lt_of_le GUgb1.out hb.size)
 have n17_ := Aside0.mk (Nat.lt_of_lt_of_le GUgb2.out hb.size)
 have n18_ := Aside0.mk (Nat.lt_of_lt_of_le GUgb18.out hb.size)
 have n19_ := Aside0.mk (Nat.lt_of_lt_of_le GUgb22.out hb.size)
 have n20_ := Aside0.mk (below_step HB.out hb)
 have n21_ := Aside0.mk (below_step HBM.out hb)
 have n22_ := Aside0.mk (Kd.R_lower (Kd.R_mono (ok' := fun k_ => loR30 ≤ k_ ∧ k_ < hiR30) (Kd.R_bound hoR30) (fun k_ hk_ => ⟨by rw [hloR30]; exact hk_.2.1, by rw [hhiR30]; exact hk_.2.2.1⟩)) (below_size HBM.out))
 have n23_ := Aside0.mk (by rw [hhiR30]; exact Nat.le_refl _ : hiR30 ≤ w_18.heap.size)
 have n24_ := Aside0.mk (fun k_ h1_ h2_ => by have := UPR7.out; rw [← hloR30] at this; omega : ∀ k_, loR7 ≤ k_ ∧ k_ < hiR7 → ¬ (loR30 ≤ k_ ∧ k_ < hiR30))
 have n25_ := Aside0.mk (fun k_ h1_ h2_ => by have := UPR7.out; rw [← hloR30] at this; omega : ∀ k_, loR30 ≤ k_ ∧ k_ < hiR30 → ¬ (loR7 ≤ k_ ∧ k_ < hiR7))
 have n26_ := Aside0.mk (fun k_ h1_ h2_ => by have := UPR10.out; rw [← hloR30] at this; omega : ∀ k_, loR10 ≤ k_ ∧ k_ < hiR10 → ¬ (loR30 ≤ k_ ∧ k_ < hiR30))
 have n27_ := Aside0.mk (fun k_ h1_ h2_ => by have := UPR10.out; rw [← hloR30] at this; omega : ∀ k_, loR30 ≤ k_ ∧ k_ < hiR30 → ¬ (loR10 ≤ k_ ∧ k_ < hiR10))
 have n28_ := Aside0.mk (fun k_ h1_ h2_ => by have := UPR14.out; rw [← hloR30] at this; omega : ∀ k_, loR14 ≤ k_ ∧ k_ < hiR14 → ¬ (loR30 ≤ k_ ∧ k_ < hiR30))
 have n29_ := Aside0.mk (fun k_ h1_ h2_ => by have := UPR14.out; rw [← hloR30] at this; omega : ∀ k_, loR30 ≤ k_ ∧ k_ < hiR30 → ¬ (loR14 ≤ k_ ∧ k_ < hiR14))
 have n30_ := Aside0.mk (fun k_ h1_ h2_ => by have := UPR17.out; rw [← hloR30] at this; omega : ∀ k_, loR17 ≤ k_ ∧ k_ < hiR17 → ¬ (loR30 ≤ k_ ∧ k_ < hiR30))
 have n31_ := Aside0.mk (fun k_ h1_ h2_ => by have := UPR17.out; rw [← hloR30] at this; omega : ∀ k_, loR30 ≤ k_ ∧ k_ < hiR30 → ¬ (loR17 ≤ k_ ∧ k_ < hiR17))
 have n32_ := Aside0.mk (fun k_ h1_ h2_ => by have := UPR21.out; rw [← hloR30] at this; omega : ∀ k_, loR21 ≤ k_ ∧ k_ < hiR21 → ¬ (loR30 ≤ k_ ∧ k_ < hiR30))
 have n33_ := Aside0.mk (fun k_ h1_ h2_ => by have := UPR21.out; rw [← hloR30] at this; omega : ∀ k_, loR30 ≤ k_ ∧ k_ < hiR30 → ¬ (loR21 ≤ k_ ∧ k_ < hiR21))
 have n34_ := Aside0.mk (fun k_ h1_ h2_ => by have := UPR26.out; rw [← hloR30] at this; omega : ∀ k_, loR26 ≤ k_ ∧ k_ < hiR26 → ¬ (loR30 ≤ k_ ∧ k_ < hiR30))
 have n35_ := Aside0.mk (fun k_ h1_ h2_ => by have := UPR26.out; rw [← hloR30] at this; omega : ∀ k_, loR30 ≤ k_ ∧ k_ < hiR30 → ¬ (loR26 ≤ k_ ∧ k_ < hiR26))
 have n36_ := Aside0.mk (fun k_ hk_ => by have := GUgb1.out; rw [← hloR30] at this; omega : ∀ k_, loR30 ≤ k_ ∧ k_ < hiR30 → k_ ≠ gb1)
 have n37_ := Aside0.mk (fun k_ hk_ => by have := GUgb2.out; rw [← hloR30] at this; omega : ∀ k_, loR30 ≤ k_ ∧ k_ < hiR30 → k_ ≠ gb2)
 have n38_ := Aside0.mk (fun k_ hk_ => by have := GUgb18.out; rw [← hloR30] at this; omega : ∀ k_, loR30 ≤ k_ ∧ k_ < hiR30 → k_ ≠ gb18)
 have n39_ := Aside0.mk (fun k_ hk_ => by have := GUgb22.out; rw [← hloR30] at this; omega : ∀ k_, loR30 ≤ k_ ∧ k_ < hiR30 → k_ ≠ gb22)
 clear HOR7
 clear HOR10
 clear HOR14
 clear HOR17
 clear HOR21
 clear HOR26
 clear UPR7
 clear UPR10
 clear UPR14
 clear UPR17
 clear UPR21
 clear UPR26
 clear BKgb1
 clear BKgb2
 clear BKgb18
 clear BKgb22
 clear GUgb1
 clear GUgb2
 clear GUgb18
 clear GUgb22
 clear HB
 clear HBM
 have HOR7 := n0_
 have HOR10 := n1_
 have HOR14 := n2_
 have HOR17 := n3_
 have HOR21 := n4_
 have HOR26 := n5_
 have UPR7 := n6_
 have UPR10 := n7_
 have UPR14 := n8_
 have UPR17 := n9_
 have UPR21 := n10_
 have UPR26 := n11_
 have BKgb1 := n12_
 have BKgb2 := n13_
 have BKgb18 := n14_
 have BKgb22 := n15_
 have GUgb1 := n16_
 have GUgb2 := n17_
 have GUgb18 := n18_
 have GUgb22 := n19_
 have HB := n20_
 have HBM := n21_
 have HOR30 := n22_
 have UPR30 := n23_
 have NRR7_R30 := n24_
 have NRR30_R7 := n25_
 have NRR10_R30 := n26_
 have NRR30_R10 := n27_
 have NRR14_R30 := n28_
 have NRR30_R14 := n29_
 have NRR17_R30 := n30_
 have NRR30_R17 := n31_
 have NRR21_R30 := n32_
 have NRR30_R21 := n33_
 have NRR26_R30 := n34_
 have NRR30_R26 := n35_
 have NER30_gb1 := n36_
 have NER30_gb2 := n37_
 have NER30_gb18 := n38_
 have NER30_gb22 := n39_
 clear n0_ n1_ n2_ n3_ n4_ n5_ n6_ n7_ n8_ n9_ n10_ n11_ n12_ n13_ n14_ n15_ n16_ n17_ n18_ n19_ n20_ n21_ n22_ n23_ n24_ n25_ n26_ n27_ n28_ n29_ n30_ n31_ n32_ n33_ n34_ n35_ n36_ n37_ n38_ n39_
 clear hb
 clear hoR30 hloR30 hhiR30
 obtain ⟨AR30, cR30, eqR30⟩ := Kd.R_slice HOR30.out
 subst eqR30
 refine hK.out _ _ ⟨(blk_cell BKgb18.out 0).trans rfl, (blk_cell BKgb18.out 1).trans rfl, (blk_cell BKgb1.out 0).trans rfl, (blk_cell BKgb1.out 1).trans rfl⟩ (fun hHeld => ?_)
 clear hK K
 refine norm_ (a' := ?_) ?_ ?_
 rotate_left
 ·show Act.put _ (some 66) _ = _
  simp only [Act.put, List.setIfInBounds_toArray, List.set_cons_zero, List.set_cons_succ, i64_w, i32_w]
  rfl
 refine one_ (i := 3) (N := some 67) #[true, true, true, true, false] rfl rfl (by kernel_rfl) (by decide) (fun K hK => ?_)
 refine goes_ Try.func15 (by kernel_rfl) rfl #[.agg #[.int .i64 t15, .slice AR17 t16.length cR17], .agg #[.int .i64 t28, .slice AR30 t29.length cR30]] (by rfl) rfl rfl (by (try simp only [List.map_toArray, List.map_cons, List.map_nil]); first | done | rfl) ?_
 (with_reducible refine (laws_eqSystem.calls k t15 _ _ t16 t28 _ _ t29 true _ ?side1 ?side2 ?side3 ?side4 E16.out).mono ?_)
 (case side1 => exact (Kd.R_reads' HOR17.out).2.2)
 (case side2 => exact (Kd.R_reads' HOR17.out).2.1)
 (case side3 => exact (Kd.R_reads' HOR30.out).2.2)
 (case side4 => exact (Kd.R_reads' HOR30.out).2.1)
 rintro e w_19 ⟨rfl, hb⟩
 refine ⟨_, rfl, ?_⟩
 have n0_ := Aside0.mk (Kd.R_below HOR7.out hb)
 have n1_ := Aside0.mk (Kd.R_below HOR10.out hb)
 have n2_ := Aside0.mk (Kd.R_below HOR14.out hb)
 have n3_ := Aside0.mk (Kd.R_below HOR17.out hb)
 have n4_ := Aside0.mk (Kd.R_below HOR21.out hb)
 have n5_ := Aside0.mk (Kd.R_below HOR26.out hb)
 have n6_ := Aside0.mk (Kd.R_below HOR30.out hb)
 have n7_ := Aside0.mk (Nat.le_trans UPR7.out hb.size)
 have n8_ := Aside0.mk (Nat.le_trans UPR10.out hb.size)
 have n9_ := Aside0.mk (Nat.le_trans UPR14.out hb.size)
 have n10_ := Aside0.mk (Nat.le_trans UPR17.out hb.size)
 have n11_ := Aside0.mk (Nat.le_trans UPR21.out hb.size)
 have n12_ := Aside0.mk (Nat.le_trans UPR26.out hb.size)
 have n13_ := Aside0.mk (Nat.le_trans UPR30.out hb.size)
 have n14_ := Aside0.mk (blk_below (g := gb1) BKgb1.out hb)
 have n15_ := Aside0.mk (blk_below (g := gb2) BKgb2.out hb)
 have n16_ := Aside0.mk (blk_below (g := gb18) BKgb18.out hb)
 have n17_ := Aside0.mk (blk_below (g := gb22) BKgb22.out hb)
 have n18_ := Aside0.mk (Nat.lt_of_lt_of_le GUgb1.out hb.size)
 have n19_ := Aside0.mk (Nat.lt_of_lt_of_le GUgb2.out hb.size)
 have n20_ := Aside0.mk (Nat.lt_of_lt_of_le GUgb18.out hb.size)
 have n21_ := Aside0.mk (Nat.lt_of_lt_of_le GUgb22.out hb.size)
 have n22_ := Aside0.mk (below_step HB.out hb)
 have n23_ := Aside0.mk (below_step HBM.out hb)
 clear HOR7
 clear HOR10
 clear HOR14
 clear HOR17
 clear HOR21
 clear HOR26
 clear HOR30
 clear UPR7
 clear UPR10
 clear UPR14
 clear UPR17
 clear UPR21
 clear UPR26
 clear UPR30
 clear BKgb1
 clear BKgb2
 clear BKgb18
 clear BKgb22
 clear GUgb1
 clear GUgb2
 clear GUgb18
 clear GUgb22
 clear HB
 clear HBM
 have HOR7 := n0_
 have HOR10 := n1_
 have HOR14 := n2_
 have HOR17 := n3_
 have HOR21 := n4_
 have HOR26 := n5_
 have HOR30 := n6_
 have UPR7 := n7_
 have UPR10 := n8_
 have UPR14 := n9_
 have UPR17 := n10_
 have UPR21 := n11_
 have UPR26 := n12_
 have UPR30 := n13_
 have BKgb1 := n14_
 have BKgb2 := n15_
 have BKgb18 := n16_
 have BKgb22 := n17_
 have GUgb1 := n18_
 have GUgb2 := n19_
 have GUgb18 := n20_
 have GUgb22 := n21_
 have HB := n22_
 have HBM := n23_
 clear n0_ n1_ n2_ n3_ n4_ n5_ n6_ n7_ n8_ n9_ n10_ n11_ n12_ n13_ n14_ n15_ n16_ n17_ n18_ n19_ n20_ n21_ n22_ n23_
 clear hb
 refine hK.out _ _ ⟨(blk_cell BKgb18.out 0).trans rfl, (blk_cell BKgb18.out 1).trans rfl, (blk_cell BKgb1.out 0).trans rfl, (blk_cell BKgb1.out 1).trans rfl⟩ (fun hHeld => ?_)
 clear hK K
 refine norm_ (a' := ?_) ?_ ?_
 rotate_left
 ·show Act.put _ (some 67) _ = _
  simp only [Act.put, List.setIfInBounds_toArray, List.set_cons_zero, List.set_cons_succ, i64_w, i32_w]
  rfl
 refine pure_ (i := 4) (N := some 68) (v := ?_) (a' := ?_) #[true, true, true, true, true] rfl rfl (by kernel_rfl) (fun _ _ _ h => h) (Or.inl ⟨by rfl, ?_⟩) ?_ ?_
 rotate_left
 ·intro w'
  go_simp
  with_reducible rfl
 rotate_left
 ·simp only [Act.put, List.setIfInBounds_toArray, List.set_cons_zero, List.set_cons_succ, i64_w, i32_w]
  rfl
 refine done_ (by kernel_rfl) ?_
 (try clear hczgb1_0)
 (try clear hfzgb1_0)
 (try clear hczgb1_1)
 (try clear hfzgb1_1)
 (try clear hczgb2_0)
 (try clear hfzgb2_0)
 (try clear hczgb2_1)
 (try clear hfzgb2_1)
 (try clear hczgb18_0)
 (try clear hfzgb18_0)
 (try clear hczgb18_1)
 (try clear hfzgb18_1)
 (try clear hczgb22_0)
 (try clear hfzgb22_0)
 (try clear hczgb22_1)
 (try clear hfzgb22_1)
 have hczgb1_0 : w_19.cell? ⟨gb1, 0, none⟩ = some (.int .i64 a0_0) := (blk_cell BKgb1.out 0).trans rfl
 have hfzgb1_0 := blk_frozen BKgb1.out 0
 have hczgb1_1 : w_19.cell? ⟨gb1, 1, none⟩ = some (.slice A0_1 l0_1.length c0_1) := (blk_cell BKgb1.out 1).trans rfl
 have hfzgb1_1 := blk_frozen BKgb1.out 1
 have hczgb2_0 : w_19.cell? ⟨gb2, 0, none⟩ = some (.int .i64 a1_0) := (blk_cell BKgb2.out 0).trans rfl
 have hfzgb2_0 := blk_frozen BKgb2.out 0
 have hczgb2_1 : w_19.cell? ⟨gb2, 1, none⟩ = some (.slice A1_1 l1_1.length c1_1) := (blk_cell BKgb2.out 1).trans rfl
 have hfzgb2_1 := blk_frozen BKgb2.out 1
 have hczgb18_0 : w_19.cell? ⟨gb18, 0, none⟩ = some (.int .i64 t15) := (blk_cell BKgb18.out 0).trans rfl
 have hfzgb18_0 := blk_frozen BKgb18.out 0
 have hczgb18_1 : w_19.cell? ⟨gb18, 1, none⟩ = some (.slice AR17 t16.length cR17) := (blk_cell BKgb18.out 1).trans rfl
 have hfzgb18_1 := blk_frozen BKgb18.out 1
 have hczgb22_0 : w_19.cell? ⟨gb22, 0, none⟩ = some (.int .i64 t19) := (blk_cell BKgb22.out 0).trans rfl
 have hfzgb22_0 := blk_frozen BKgb22.out 0
 have hczgb22_1 : w_19.cell? ⟨gb22, 1, none⟩ = some (.slice AR21 t20.length cR21) := (blk_cell BKgb22.out 1).trans rfl
 have hfzgb22_1 := blk_frozen BKgb22.out 1
 try go_wp2
 have n0_ := Aside0.mk (Kd.R_drew HOR7.out)
 have n1_ := Aside0.mk (Kd.R_drew HOR10.out)
 have n2_ := Aside0.mk (Kd.R_drew HOR14.out)
 have n3_ := Aside0.mk (Kd.R_drew HOR17.out)
 have n4_ := Aside0.mk (Kd.R_drew HOR21.out)
 have n5_ := Aside0.mk (Kd.R_drew HOR26.out)
 have n6_ := Aside0.mk (Kd.R_drew HOR30.out)
 have n7_ := Aside0.mk (show hiR7 ≤ w_19.drew.heap.size from UPR7.out)
 have n8_ := Aside0.mk (show hiR10 ≤ w_19.drew.heap.size from UPR10.out)
 have n9_ := Aside0.mk (show hiR14 ≤ w_19.drew.heap.size from UPR14.out)
 have n10_ := Aside0.mk (show hiR17 ≤ w_19.drew.heap.size from UPR17.out)
 have n11_ := Aside0.mk (show hiR21 ≤ w_19.drew.heap.size from UPR21.out)
 have n12_ := Aside0.mk (show hiR26 ≤ w_19.drew.heap.size from UPR26.out)
 have n13_ := Aside0.mk (show hiR30 ≤ w_19.drew.heap.size from UPR30.out)
 have n14_ := Aside0.mk (blk_drew BKgb1.out)
 have n15_ := Aside0.mk (blk_drew BKgb2.out)
 have n16_ := Aside0.mk (blk_drew BKgb18.out)
 have n17_ := Aside0.mk (blk_drew BKgb22.out)
 have n18_ := Aside0.mk (show gb1 < w_19.drew.heap.size from GUgb1.out)
 have n19_ := Aside0.mk (show gb2 < w_19.drew.heap.size from GUgb2.out)
 have n20_ := Aside0.mk (show gb18 < w_19.drew.heap.size from GUgb18.out)
 have n21_ := Aside0.mk (show gb22 < w_19.drew.heap.size from GUgb22.out)
 have n22_ := Aside0.mk (below_drew1 HB.out)
 have n23_ := Aside0.mk (below_drew1 HBM.out)
 clear HOR7
 clear HOR10
 clear HOR14
 clear HOR17
 clear HOR21
 clear HOR26
 clear HOR30
 clear UPR7
 clear UPR10
 clear UPR14
 clear UPR17
 clear UPR21
 clear UPR26
 clear UPR30
 clear BKgb1
 clear BKgb2
 clear BKgb18
 clear BKgb22
 clear GUgb1
 clear GUgb2
 clear GUgb18
 clear GUgb22
 clear HB
 clear HBM
 have HOR7 := n0_
 have HOR10 := n1_
 have HOR14 := n2_
 have HOR17 := n3_
 have HOR21 := n4_
 have HOR26 := n5_
 have HOR30 := n6_
 have UPR7 := n7_
 have UPR10 := n8_
 have UPR14 := n9_
 have UPR17 := n10_
 have UPR21 := n11_
 have UPR26 := n12_
 have UPR30 := n13_
 have BKgb1 := n14_
 have BKgb2 := n15_
 have BKgb18 := n16_
 have BKgb22 := n17_
 have GUgb1 := n18_
 have GUgb2 := n19_
 have GUgb18 := n20_
 have GUgb22 := n21_
 have HB := n22_
 have HBM := n23_
 clear n0_ n1_ n2_ n3_ n4_ n5_ n6_ n7_ n8_ n9_ n10_ n11_ n12_ n13_ n14_ n15_ n16_ n17_ n18_ n19_ n20_ n21_ n22_ n23_
 (try clear hczgb1_0); (try clear hfzgb1_0)
 (try clear hczgb1_1); (try clear hfzgb1_1)
 (try clear hczgb2_0); (try clear hfzgb2_0)
 (try clear hczgb2_1); (try clear hfzgb2_1)
 (try clear hczgb18_0); (try clear hfzgb18_0)
 (try clear hczgb18_1); (try clear hfzgb18_1)
 (try clear hczgb22_0); (try clear hfzgb22_0)
 (try clear hczgb22_1); (try clear hfzgb22_1)
 refine start_ (n := 5) (S := fun w' => w'.cell? ⟨gb22, 0, none⟩ = some (.int .i64 t19) ∧ w'.cell? ⟨gb22, 1, none⟩ = some (.slice AR21 t20.length cR21) ∧ w'.cell? ⟨gb2, 0, none⟩ = some (.int .i64 a1_0) ∧ w'.cell? ⟨gb2, 1, none⟩ = some (.slice A1_1 l1_1.length c1_1)) (ds := []) #[false, false, false, false, false] (by kernel_rfl) rfl rfl ⟨(blk_cell BKgb22.out 0).trans rfl, (blk_cell BKgb22.out 1).trans rfl, (blk_cell BKgb2.out 0).trans rfl, (blk_cell BKgb2.out 1).trans rfl⟩ (fun hHeld => ?_)
 generalize w_19.drew = w_20 at HOR7 HOR10 HOR14 HOR17 HOR21 HOR26 HOR30 UPR7 UPR10 UPR14 UPR17 UPR21 UPR26 UPR30 BKgb1 BKgb2 BKgb18 BKgb22 GUgb1 GUgb2 GUgb18 GUgb22 HB HBM hHeld ⊢
 refine take_ (i := 0) (N := some 69) (v := ?_) (a' := ?_) #[true, false, false, false, false] rfl rfl (by kernel_rfl) (fun _ _ _ h => h) (Or.inl ⟨by rfl, ?_⟩) hHeld ?_ ?_
 rotate_left
 ·rintro w' ⟨s0, s1, s2, s3⟩
  go_simp
  with_reducible rfl
 rotate_left
 ·simp only [Act.put, List.setIfInBounds_toArray, List.set_cons_zero, List.set_cons_succ, i64_w, i32_w]
  rfl
 refine take_ (i := 1) (N := some 70) (v := ?_) (a' := ?_) #[true, true, false, false, false] rfl rfl (by kernel_rfl) (fun _ _ _ h => h) (Or.inl ⟨by rfl, ?_⟩) hHeld ?_ ?_
 rotate_left
 ·rintro w' ⟨s0, s1, s2, s3⟩
  go_simp
  with_reducible rfl
 rotate_left
 ·simp only [Act.put, List.setIfInBounds_toArray, List.set_cons_zero, List.set_cons_succ, i64_w, i32_w]
  rfl
 refine one_ (i := 2) (N := some 71) #[true, true, true, false, false] rfl rfl (by kernel_rfl) (by decide) (fun K hK => ?_)
 refine goes_ Try.func12 (by kernel_rfl) rfl #[.agg #[.int .i64 a1_0, .slice A1_1 l1_1.length c1_1]] (by rfl) rfl rfl (by (try simp only [List.map_toArray, List.map_cons, List.map_nil]); first | done | rfl) ?_
 (with_reducible refine (laws_toValues.calls k a1_0 _ _ l1_1 t32 t33 _ ?side1 ?side2 E18.out).mono ?_)
 (case side1 => exact Kd.C_below HR1_1.out HB.out)
 (case side2 => exact HC1_1.out)
 rintro e w_21 ⟨vR34, rfl, hoR34, hb⟩
 refine ⟨_, rfl, ?_⟩
 obtain ⟨loR34, hloR34⟩ : ∃ n_ : Nat, n_ = w_20.heap.size := ⟨_, rfl⟩
 obtain ⟨hiR34, hhiR34⟩ : ∃ n_ : Nat, n_ = w_21.heap.size := ⟨_, rfl⟩
 have n0_ := Aside0.mk (Kd.R_below HOR7.out hb)
 have n1_ := Aside0.mk (Kd.R_below HOR10.out hb)
 have n2_ := Aside0.mk (Kd.R_below HOR14.out hb)
 have n3_ := Aside0.mk (Kd.R_below HOR17.out hb)
 have n4_ := Aside0.mk (Kd.R_below HOR21.out hb)
 have n5_ := Aside0.mk (Kd.R_below HOR26.out hb)
 have n6_ := Aside0.mk (Kd.R_below HOR30.out hb)
 have n7_ := Aside0.mk (Nat.le_trans UPR7.out hb.size)
 have n8_ := Aside0.mk (Nat.le_trans UPR10.out hb.size)
 have n9_ := Aside0.mk (Nat.le_trans UPR14.out hb.size)
 have n10_ := Aside0.mk (Nat.le_trans UPR17.out hb.size)
 have n11_ := Aside0.mk (Nat.le_trans UPR21.out hb.size)
 have n12_ := Aside0.mk (Nat.le_trans UPR26.out hb.size)
 have n13_ := Aside0.mk (Nat.le_trans UPR30.out hb.size)
 have n14_ := Aside0.mk (blk_below (g := gb1) BKgb1.out hb)
 have n15_ := Aside0.mk (blk_below (g := gb2) BKgb2.out hb)
 have n16_ := Aside0.mk (blk_below (g := gb18) BKgb18.out hb)
 have n17_ := Aside0.mk (blk_below (g := gb22) BKgb22.out hb)
 have n18_ := Aside0.mk (Nat.lt_of_lt_of_le GUgb1.out hb.size)
 have n19_ := Aside0.mk (Nat.lt_of_lt_of_le GUgb2.out hb.size)
 have n20_ := Aside0.mk (Nat.lt_of_lt_of_le GUgb18.out hb.size)
 have n21_ := Aside0.mk (Nat.lt_of_lt_of_le GUgb22.out hb.size)
 have n22_ := Aside0.mk (below_step HB.out hb)
 have n23_ := Aside0.mk (below_step HBM.out hb)
 have n24_ := Aside0.mk (Kd.R_lower (Kd.R_mono (ok' := fun k_ => loR34 ≤ k_ ∧ k_ < hiR34) (Kd.R_bound hoR34) (fun k_ hk_ => ⟨by rw [hloR34]; exact hk_.2.1, by rw [hhiR34]; exact hk_.2.2.1⟩)) (below_size HBM.out))
 have n25_ := Aside0.mk (by rw [hhiR34]; exact Nat.le_refl _ : hiR34 ≤ w_21.heap.size)
 have n26_ := Aside0.mk (fun k_ h1_ h2_ => by have := UPR7.out; rw [← hloR34] at this; omega : ∀ k_, loR7 ≤ k_ ∧ k_ < hiR7 → ¬ (loR34 ≤ k_ ∧ k_ < hiR34))
 have n27_ := Aside0.mk (fun k_ h1_ h2_ => by have := UPR7.out; rw [← hloR34] at this; omega : ∀ k_, loR34 ≤ k_ ∧ k_ < hiR34 → ¬ (loR7 ≤ k_ ∧ k_ < hiR7))
 have n28_ := Aside0.mk (fun k_ h1_ h2_ => by have := UPR10.out; rw [← hloR34] at this; omega : ∀ k_, loR10 ≤ k_ ∧ k_ < hiR10 → ¬ (loR34 ≤ k_ ∧ k_ < hiR34))
 have n29_ := Aside0.mk (fun k_ h1_ h2_ => by have := UPR10.out; rw [← hloR34] at this; omega : ∀ k_, loR34 ≤ k_ ∧ k_ < hiR34 → ¬ (loR10 ≤ k_ ∧ k_ < hiR10))
 have n30_ := Aside0.mk (fun k_ h1_ h2_ => by have := UPR14.out; rw [← hloR34] at this; omega : ∀ k_, loR14 ≤ k_ ∧ k_ < hiR14 → ¬ (loR34 ≤ k_ ∧ k_ < hiR34))
 have n31_ := Aside0.mk (fun k_ h1_ h2_ => by have := UPR14.out; rw [← hloR34] at this; omega : ∀ k_, loR34 ≤ k_ ∧ k_ < hiR34 → ¬ (loR14 ≤ k_ ∧ k_ < hiR14))
 have n32_ := Aside0.mk (fun k_ h1_ h2_ => by have := UPR17.out; rw [← hloR34] at this; omega : ∀ k_, loR17 ≤ k_ ∧ k_ < hiR17 → ¬ (loR34 ≤ k_ ∧ k_ < hiR34))
 have n33_ := Aside0.mk (fun k_ h1_ h2_ => by have := UPR17.out; rw [← hloR34] at this; omega : ∀ k_, loR34 ≤ k_ ∧ k_ < hiR34 → ¬ (loR17 ≤ k_ ∧ k_ < hiR17))
 have n34_ := Aside0.mk (fun k_ h1_ h2_ => by have := UPR21.out; rw [← hloR34] at this; omega : ∀ k_, loR21 ≤ k_ ∧ k_ < hiR21 → ¬ (loR34 ≤ k_ ∧ k_ < hiR34))
 have n35_ := Aside0.mk (fun k_ h1_ h2_ => by have := UPR21.out; rw [← hloR34] at this; omega : ∀ k_, loR34 ≤ k_ ∧ k_ < hiR34 → ¬ (loR21 ≤ k_ ∧ k_ < hiR21))
 have n36_ := Aside0.mk (fun k_ h1_ h2_ => by have := UPR26.out; rw [← hloR34] at this; omega : ∀ k_, loR26 ≤ k_ ∧ k_ < hiR26 → ¬ (loR34 ≤ k_ ∧ k_ < hiR34))
 have n37_ := Aside0.mk (fun k_ h1_ h2_ => by have := UPR26.out; rw [← hloR34] at this; omega : ∀ k_, loR34 ≤ k_ ∧ k_ < hiR34 → ¬ (loR26 ≤ k_ ∧ k_ < hiR26))
 have n38_ := Aside0.mk (fun k_ h1_ h2_ => by have := UPR30.out; rw [← hloR34] at this; omega : ∀ k_, loR30 ≤ k_ ∧ k_ < hiR30 → ¬ (loR34 ≤ k_ ∧ k_ < hiR34))
 have n39_ := Aside0.mk (fun k_ h1_ h2_ => by have := UPR30.out; rw [← hloR34] at this; omega : ∀ k_, loR34 ≤ k_ ∧ k_ < hiR34 → ¬ (loR30 ≤ k_ ∧ k_ < hiR30))
 have n40_ := Aside0.mk (fun k_ hk_ => by have := GUgb1.out; rw [← hloR34] at this; omega : ∀ k_, loR34 ≤ k_ ∧ k_ < hiR34 → k_ ≠ gb1)
 have n41_ := Aside0.mk (fun k_ hk_ => by have := GUgb2.out; rw [← hloR34] at this; omega : ∀ k_, loR34 ≤ k_ ∧ k_ < hiR34 → k_ ≠ gb2)
 have n42_ := Aside0.mk (fun k_ hk_ => by have := GUgb18.out; rw [← hloR34] at this; omega : ∀ k_, loR34 ≤ k_ ∧ k_ < hiR34 → k_ ≠ gb18)
 have n43_ := Aside0.mk (fun k_ hk_ => by have := GUgb22.out; rw [← hloR34] at this; omega : ∀ k_, loR34 ≤ k_ ∧ k_ < hiR34 → k_ ≠ gb22)
 clear HOR7
 clear HOR10
 clear HOR14
 clear HOR17
 clear HOR21
 clear HOR26
 clear HOR30
 clear UPR7
 clear UPR10
 clear UPR14
 clear UPR17
 clear UPR21
 clear UPR26
 clear UPR30
 clear BKgb1
 clear BKgb2
 clear BKgb18
 clear BKgb22
 clear GUgb1
 clear GUgb2
 clear GUgb18
 clear GUgb22
 clear HB
 clear HBM
 have HOR7 := n0_
 have HOR10 := n1_
 have HOR14 := n2_
 have HOR17 := n3_
 have HOR21 := n4_
 have HOR26 := n5_
 have HOR30 := n6_
 have UPR7 := n7_
 have UPR10 := n8_
 have UPR14 := n9_
 have UPR17 := n10_
 have UPR21 := n11_
 have UPR26 := n12_
 have UPR30 := n13_
 have BKgb1 := n14_
 have BKgb2 := n15_
 have BKgb18 := n16_
 have BKgb22 := n17_
 have GUgb1 := n18_
 have GUgb2 := n19_
 have GUgb18 := n20_
 have GUgb22 := n21_
 have HB := n22_
 have HBM := n23_
 have HOR34 := n24_
 have UPR34 := n25_
 have NRR7_R34 := n26_
 have NRR34_R7 := n27_
 have NRR10_R34 := n28_
 have NRR34_R10 := n29_
 have NRR14_R34 := n30_
 have NRR34_R14 := n31_
 have NRR17_R34 := n32_
 have NRR34_R17 := n33_
 have NRR21_R34 := n34_
 have NRR34_R21 := n35_
 have NRR26_R34 := n36_
 have NRR34_R26 := n37_
 have NRR30_R34 := n38_
 have NRR34_R30 := n39_
 have NER34_gb1 := n40_
 have NER34_gb2 := n41_
 have NER34_gb18 := n42_
 have NER34_gb22 := n43_
 clear n0_ n1_ n2_ n3_ n4_ n5_ n6_ n7_ n8_ n9_ n10_ n11_ n12_ n13_ n14_ n15_ n16_ n17_ n18_ n19_ n20_ n21_ n22_ n23_ n24_ n25_ n26_ n27_ n28_ n29_ n30_ n31_ n32_ n33_ n34_ n35_ n36_ n37_ n38_ n39_ n40_ n41_ n42_ n43_
 clear hb
 clear hoR34 hloR34 hhiR34
 obtain ⟨AR34, cR34, eqR34⟩ := Kd.R_slice HOR34.out
 subst eqR34
 refine hK.out _ _ ⟨(blk_cell BKgb22.out 0).trans rfl, (blk_cell BKgb22.out 1).trans rfl, (blk_cell BKgb2.out 0).trans rfl, (blk_cell BKgb2.out 1).trans rfl⟩ (fun hHeld => ?_)
 clear hK K
 refine norm_ (a' := ?_) ?_ ?_
 rotate_left
 ·show Act.put _ (some 71) _ = _
  simp only [Act.put, List.setIfInBounds_toArray, List.set_cons_zero, List.set_cons_succ, i64_w, i32_w]
  rfl
 refine one_ (i := 3) (N := some 72) #[true, true, true, true, false] rfl rfl (by kernel_rfl) (by decide) (fun K hK => ?_)
 refine goes_ Try.func16 (by kernel_rfl) rfl #[.agg #[.int .i64 t19, .slice AR21 t20.length cR21], .agg #[.int .i64 t32, .slice AR34 t33.length cR34]] (by rfl) rfl rfl (by (try simp only [List.map_toArray, List.map_cons, List.map_nil]); first | done | rfl) ?_
 (with_reducible refine (laws_eqValues.calls k t19 _ _ t20 t32 _ _ t33 true _ ?side1 ?side2 ?side3 ?side4 E19.out).mono ?_)
 (case side1 => exact (Kd.R_reads' HOR21.out).2.2)
 (case side2 => exact (Kd.R_reads' HOR21.out).2.1)
 (case side3 => exact (Kd.R_reads' HOR34.out).2.2)
 (case side4 => exact (Kd.R_reads' HOR34.out).2.1)
 rintro e w_22 ⟨rfl, hb⟩
 refine ⟨_, rfl, ?_⟩
 have n0_ := Aside0.mk (Kd.R_below HOR7.out hb)
 have n1_ := Aside0.mk (Kd.R_below HOR10.out hb)
 have n2_ := Aside0.mk (Kd.R_below HOR14.out hb)
 have n3_ := Aside0.mk (Kd.R_below HOR17.out hb)
 have n4_ := Aside0.mk (Kd.R_below HOR21.out hb)
 have n5_ := Aside0.mk (Kd.R_below HOR26.out hb)
 have n6_ := Aside0.mk (Kd.R_below HOR30.out hb)
 have n7_ := Aside0.mk (Kd.R_below HOR34.out hb)
 have n8_ := Aside0.mk (Nat.le_trans UPR7.out hb.size)
 have n9_ := Aside0.mk (Nat.le_trans UPR10.out hb.size)
 have n10_ := Aside0.mk (Nat.le_trans UPR14.out hb.size)
 have n11_ := Aside0.mk (Nat.le_trans UPR17.out hb.size)
 have n12_ := Aside0.mk (Nat.le_trans UPR21.out hb.size)
 have n13_ := Aside0.mk (Nat.le_trans UPR26.out hb.size)
 have n14_ := Aside0.mk (Nat.le_trans UPR30.out hb.size)
 have n15_ := Aside0.mk (Nat.le_trans UPR34.out hb.size)
 have n16_ := Aside0.mk (blk_below (g := gb1) BKgb1.out hb)
 have n17_ := Aside0.mk (blk_below (g := gb2) BKgb2.out hb)
 have n18_ := Aside0.mk (blk_below (g := gb18) BKgb18.out hb)
 have n19_ := Aside0.mk (blk_below (g := gb22) BKgb22.out hb)
 have n20_ := Aside0.mk (Nat.lt_of_lt_of_le GUgb1.out hb.size)
 have n21_ := Aside0.mk (Nat.lt_of_lt_of_le GUgb2.out hb.size)
 have n22_ := Aside0.mk (Nat.lt_of_lt_of_le GUgb18.out hb.size)
 have n23_ := Aside0.mk (Nat.lt_of_lt_of_le GUgb22.out hb.size)
 have n24_ := Aside0.mk (below_step HB.out hb)
 have n25_ := Aside0.mk (below_step HBM.out hb)
 clear HOR7
 clear HOR10
 clear HOR14
 clear HOR17
 clear HOR21
 clear HOR26
 clear HOR30
 clear HOR34
 clear UPR7
 clear UPR10
 clear UPR14
 clear UPR17
 clear UPR21
 clear UPR26
 clear UPR30
 clear UPR34
 clear BKgb1
 clear BKgb2
 clear BKgb18
 clear BKgb22
 clear GUgb1
 clear GUgb2
 clear GUgb18
 clear GUgb22
 clear HB
 clear HBM
 have HOR7 := n0_
 have HOR10 := n1_
 have HOR14 := n2_
 have HOR17 := n3_
 have HOR21 := n4_
 have HOR26 := n5_
 have HOR30 := n6_
 have HOR34 := n7_
 have UPR7 := n8_
 have UPR10 := n9_
 have UPR14 := n10_
 have UPR17 := n11_
 have UPR21 := n12_
 have UPR26 := n13_
 have UPR30 := n14_
 have UPR34 := n15_
 have BKgb1 := n16_
 have BKgb2 := n17_
 have BKgb18 := n18_
 have BKgb22 := n19_
 have GUgb1 := n20_
 have GUgb2 := n21_
 have GUgb18 := n22_
 have GUgb22 := n23_
 have HB := n24_
 have HBM := n25_
 clear n0_ n1_ n2_ n3_ n4_ n5_ n6_ n7_ n8_ n9_ n10_ n11_ n12_ n13_ n14_ n15_ n16_ n17_ n18_ n19_ n20_ n21_ n22_ n23_ n24_ n25_
 clear hb
 refine hK.out _ _ ⟨(blk_cell BKgb22.out 0).trans rfl, (blk_cell BKgb22.out 1).trans rfl, (blk_cell BKgb2.out 0).trans rfl, (blk_cell BKgb2.out 1).trans rfl⟩ (fun hHeld => ?_)
 clear hK K
 refine norm_ (a' := ?_) ?_ ?_
 rotate_left
 ·show Act.put _ (some 72) _ = _
  simp only [Act.put, List.setIfInBounds_toArray, List.set_cons_zero, List.set_cons_succ, i64_w, i32_w]
  rfl
 refine pure_ (i := 4) (N := some 73) (v := ?_) (a' := ?_) #[true, true, true, true, true] rfl rfl (by kernel_rfl) (fun _ _ _ h => h) (Or.inl ⟨by rfl, ?_⟩) ?_ ?_
 rotate_left
 ·intro w'
  go_simp
  with_reducible rfl
 rotate_left
 ·simp only [Act.put, List.setIfInBounds_toArray, List.set_cons_zero, List.set_cons_succ, i64_w, i32_w]
  rfl
 refine done_ (by kernel_rfl) ?_
 (try clear hczgb1_0)
 (try clear hfzgb1_0)
 (try clear hczgb1_1)
 (try clear hfzgb1_1)
 (try clear hczgb2_0)
 (try clear hfzgb2_0)
 (try clear hczgb2_1)
 (try clear hfzgb2_1)
 (try clear hczgb18_0)
 (try clear hfzgb18_0)
 (try clear hczgb18_1)
 (try clear hfzgb18_1)
 (try clear hczgb22_0)
 (try clear hfzgb22_0)
 (try clear hczgb22_1)
 (try clear hfzgb22_1)
 have hczgb1_0 : w_22.cell? ⟨gb1, 0, none⟩ = some (.int .i64 a0_0) := (blk_cell BKgb1.out 0).trans rfl
 have hfzgb1_0 := blk_frozen BKgb1.out 0
 have hczgb1_1 : w_22.cell? ⟨gb1, 1, none⟩ = some (.slice A0_1 l0_1.length c0_1) := (blk_cell BKgb1.out 1).trans rfl
 have hfzgb1_1 := blk_frozen BKgb1.out 1
 have hczgb2_0 : w_22.cell? ⟨gb2, 0, none⟩ = some (.int .i64 a1_0) := (blk_cell BKgb2.out 0).trans rfl
 have hfzgb2_0 := blk_frozen BKgb2.out 0
 have hczgb2_1 : w_22.cell? ⟨gb2, 1, none⟩ = some (.slice A1_1 l1_1.length c1_1) := (blk_cell BKgb2.out 1).trans rfl
 have hfzgb2_1 := blk_frozen BKgb2.out 1
 have hczgb18_0 : w_22.cell? ⟨gb18, 0, none⟩ = some (.int .i64 t15) := (blk_cell BKgb18.out 0).trans rfl
 have hfzgb18_0 := blk_frozen BKgb18.out 0
 have hczgb18_1 : w_22.cell? ⟨gb18, 1, none⟩ = some (.slice AR17 t16.length cR17) := (blk_cell BKgb18.out 1).trans rfl
 have hfzgb18_1 := blk_frozen BKgb18.out 1
 have hczgb22_0 : w_22.cell? ⟨gb22, 0, none⟩ = some (.int .i64 t19) := (blk_cell BKgb22.out 0).trans rfl
 have hfzgb22_0 := blk_frozen BKgb22.out 0
 have hczgb22_1 : w_22.cell? ⟨gb22, 1, none⟩ = some (.slice AR21 t20.length cR21) := (blk_cell BKgb22.out 1).trans rfl
 have hfzgb22_1 := blk_frozen BKgb22.out 1
 go_wp2_with (first | ((with_reducible refine gate_callee (f := 17) rfl ?_); refine goesL_ (some 76) rfl rfl Try.func17 (by kernel_rfl) rfl #[.agg #[.int .i64 t15, .slice AR17 t16.length cR17], .int .i64 1] rfl (by (try simp only [List.map_toArray, List.map_cons, List.map_nil]); first | done | rfl) ?_; (with_reducible refine (laws_markSystem.calls k t15 (fun k_ => loR17 ≤ k_ ∧ k_ < hiR17) _ t16 1 t36 t37 w_8 _ ?side1 ?side2 E21.out).mono ?_); (case side1 => exact HBM.out); (case side2 => exact HOR17.out); rintro e w_23 ⟨rfl, hy, hb, hkp⟩; refine ⟨_, rfl, ?_⟩; have n0_ := Aside0.mk (Kd.R_kept HOR7.out hkp NRR7_R17.out); have n1_ := Aside0.mk (Nat.le_trans UPR7.out hkp.1); have n2_ := Aside0.mk (Kd.R_kept HOR10.out hkp NRR10_R17.out); have n3_ := Aside0.mk (Nat.le_trans UPR10.out hkp.1); have n4_ := Aside0.mk (Kd.R_kept HOR14.out hkp NRR14_R17.out); have n5_ := Aside0.mk (Nat.le_trans UPR14.out hkp.1); have n6_ := Aside0.mk (Kd.R_reok rfl hy (fun k_ e_ => HOR17.out.1 k_ e_)); have n7_ := Aside0.mk (Nat.le_trans UPR17.out hkp.1); have n8_ := Aside0.mk (Kd.R_kept HOR21.out hkp NRR21_R17.out); have n9_ := Aside0.mk (Nat.le_trans UPR21.out hkp.1); have n10_ := Aside0.mk (Kd.R_kept HOR26.out hkp NRR26_R17.out); have n11_ := Aside0.mk (Nat.le_trans UPR26.out hkp.1); have n12_ := Aside0.mk (Kd.R_kept HOR30.out hkp NRR30_R17.out); have n13_ := Aside0.mk (Nat.le_trans UPR30.out hkp.1); have n14_ := Aside0.mk (Kd.R_kept HOR34.out hkp NRR34_R17.out); have n15_ := Aside0.mk (Nat.le_trans UPR34.out hkp.1); have n16_ := Aside0.mk (blk_kept (g := gb1) BKgb1.out hkp (fun h_ => NER17_gb1.out _ h_ rfl)); have n17_ := Aside0.mk (Nat.lt_of_lt_of_le GUgb1.out hkp.1); have n18_ := Aside0.mk (blk_kept (g := gb2) BKgb2.out hkp (fun h_ => NER17_gb2.out _ h_ rfl)); have n19_ := Aside0.mk (Nat.lt_of_lt_of_le GUgb2.out hkp.1); have n20_ := Aside0.mk (blk_kept (g := gb18) BKgb18.out hkp (fun h_ => NER17_gb18.out _ h_ rfl)); have n21_ := Aside0.mk (Nat.lt_of_lt_of_le GUgb18.out hkp.1); have n22_ := Aside0.mk (blk_kept (g := gb22) BKgb22.out hkp (fun h_ => NER17_gb22.out _ h_ rfl)); have n23_ := Aside0.mk (Nat.lt_of_lt_of_le GUgb22.out hkp.1); have n24_ := Aside0.mk (below_step HWM.out hb); have n25_ := Aside0.mk (hb); clear HOR7; clear UPR7; clear HOR10; clear UPR10; clear HOR14; clear UPR14; clear HOR17; clear UPR17; clear HOR21; clear UPR21; clear HOR26; clear UPR26; clear HOR30; clear UPR30; clear HOR34; clear UPR34; clear BKgb1; clear GUgb1; clear BKgb2; clear GUgb2; clear BKgb18; clear GUgb18; clear BKgb22; clear GUgb22; clear HB; clear HBM; have HOR7 := n0_; have UPR7 := n1_; have HOR10 := n2_; have UPR10 := n3_; have HOR14 := n4_; have UPR14 := n5_; have HOR17 := n6_; have UPR17 := n7_; have HOR21 := n8_; have UPR21 := n9_; have HOR26 := n10_; have UPR26 := n11_; have HOR30 := n12_; have UPR30 := n13_; have HOR34 := n14_; have UPR34 := n15_; have BKgb1 := n16_; have GUgb1 := n17_; have BKgb2 := n18_; have GUgb2 := n19_; have BKgb18 := n20_; have GUgb18 := n21_; have BKgb22 := n22_; have GUgb22 := n23_; have HB := n24_; have HBM := n25_; clear n0_ n1_ n2_ n3_ n4_ n5_ n6_ n7_ n8_ n9_ n10_ n11_ n12_ n13_ n14_ n15_ n16_ n17_ n18_ n19_ n20_ n21_ n22_ n23_ n24_ n25_; clear hy hb hkp; (try clear hczgb1_0); (try clear hfzgb1_0); (try clear hczgb1_1); (try clear hfzgb1_1); (try clear hczgb2_0); (try clear hfzgb2_0); (try clear hczgb2_1); (try clear hfzgb2_1); (try clear hczgb18_0); (try clear hfzgb18_0); (try clear hczgb18_1); (try clear hfzgb18_1); (try clear hczgb22_0); (try clear hfzgb22_0); (try clear hczgb22_1); (try clear hfzgb22_1); have hczgb1_0 : w_23.cell? ⟨gb1, 0, none⟩ = some (.int .i64 a0_0) := (blk_cell BKgb1.out 0).trans rfl; have hfzgb1_0 := blk_frozen BKgb1.out 0; have hczgb1_1 : w_23.cell? ⟨gb1, 1, none⟩ = some (.slice A0_1 l0_1.length c0_1) := (blk_cell BKgb1.out 1).trans rfl; have hfzgb1_1 := blk_frozen BKgb1.out 1; have hczgb2_0 : w_23.cell? ⟨gb2, 0, none⟩ = some (.int .i64 a1_0) := (blk_cell BKgb2.out 0).trans rfl; have hfzgb2_0 := blk_frozen BKgb2.out 0; have hczgb2_1 : w_23.cell? ⟨gb2, 1, none⟩ = some (.slice A1_1 l1_1.length c1_1) := (blk_cell BKgb2.out 1).trans rfl; have hfzgb2_1 := blk_frozen BKgb2.out 1; have hczgb18_0 : w_23.cell? ⟨gb18, 0, none⟩ = some (.int .i64 t15) := (blk_cell BKgb18.out 0).trans rfl; have hfzgb18_0 := blk_frozen BKgb18.out 0; have hczgb18_1 : w_23.cell? ⟨gb18, 1, none⟩ = some (.slice AR17 t16.length cR17) := (blk_cell BKgb18.out 1).trans rfl; have hfzgb18_1 := blk_frozen BKgb18.out 1; have hczgb22_0 : w_23.cell? ⟨gb22, 0, none⟩ = some (.int .i64 t19) := (blk_cell BKgb22.out 0).trans rfl; have hfzgb22_0 := blk_frozen BKgb22.out 0; have hczgb22_1 : w_23.cell? ⟨gb22, 1, none⟩ = some (.slice AR21 t20.length cR21) := (blk_cell BKgb22.out 1).trans rfl; have hfzgb22_1 := blk_frozen BKgb22.out 1) | ((with_reducible refine gate_callee (f := 18) rfl ?_); refine goesL_ (some 79) rfl rfl Try.func18 (by kernel_rfl) rfl #[.agg #[.int .i64 t19, .slice AR21 t20.length cR21], .int .i64 t36] rfl (by (try simp only [List.map_toArray, List.map_cons, List.map_nil]); first | done | rfl) ?_; (with_reducible refine (laws_markValues.calls k t19 (fun k_ => loR21 ≤ k_ ∧ k_ < hiR21) _ t20 t36 t38 t39 w_8 _ ?side1 ?side2 E22.out).mono ?_); (case side1 => exact HBM.out); (case side2 => exact HOR21.out); rintro e w_24 ⟨rfl, hy, hb, hkp⟩; refine ⟨_, rfl, ?_⟩; have n0_ := Aside0.mk (Kd.R_kept HOR7.out hkp NRR7_R21.out); have n1_ := Aside0.mk (Nat.le_trans UPR7.out hkp.1); have n2_ := Aside0.mk (Kd.R_kept HOR10.out hkp NRR10_R21.out); have n3_ := Aside0.mk (Nat.le_trans UPR10.out hkp.1); have n4_ := Aside0.mk (Kd.R_kept HOR14.out hkp NRR14_R21.out); have n5_ := Aside0.mk (Nat.le_trans UPR14.out hkp.1); have n6_ := Aside0.mk (Kd.R_kept HOR17.out hkp NRR17_R21.out); have n7_ := Aside0.mk (Nat.le_trans UPR17.out hkp.1); have n8_ := Aside0.mk (Kd.R_reok rfl hy (fun k_ e_ => HOR21.out.1 k_ e_)); have n9_ := Aside0.mk (Nat.le_trans UPR21.out hkp.1); have n10_ := Aside0.mk (Kd.R_kept HOR26.out hkp NRR26_R21.out); have n11_ := Aside0.mk (Nat.le_trans UPR26.out hkp.1); have n12_ := Aside0.mk (Kd.R_kept HOR30.out hkp NRR30_R21.out); have n13_ := Aside0.mk (Nat.le_trans UPR30.out hkp.1); have n14_ := Aside0.mk (Kd.R_kept HOR34.out hkp NRR34_R21.out); have n15_ := Aside0.mk (Nat.le_trans UPR34.out hkp.1); have n16_ := Aside0.mk (blk_kept (g := gb1) BKgb1.out hkp (fun h_ => NER21_gb1.out _ h_ rfl)); have n17_ := Aside0.mk (Nat.lt_of_lt_of_le GUgb1.out hkp.1); have n18_ := Aside0.mk (blk_kept (g := gb2) BKgb2.out hkp (fun h_ => NER21_gb2.out _ h_ rfl)); have n19_ := Aside0.mk (Nat.lt_of_lt_of_le GUgb2.out hkp.1); have n20_ := Aside0.mk (blk_kept (g := gb18) BKgb18.out hkp (fun h_ => NER21_gb18.out _ h_ rfl)); have n21_ := Aside0.mk (Nat.lt_of_lt_of_le GUgb18.out hkp.1); have n22_ := Aside0.mk (blk_kept (g := gb22) BKgb22.out hkp (fun h_ => NER21_gb22.out _ h_ rfl)); have n23_ := Aside0.mk (Nat.lt_of_lt_of_le GUgb22.out hkp.1); have n24_ := Aside0.mk (below_step HWM.out hb); have n25_ := Aside0.mk (hb); clear HOR7; clear UPR7; clear HOR10; clear UPR10; clear HOR14; clear UPR14; clear HOR17; clear UPR17; clear HOR21; clear UPR21; clear HOR26; clear UPR26; clear HOR30; clear UPR30; clear HOR34; clear UPR34; clear BKgb1; clear GUgb1; clear BKgb2; clear GUgb2; clear BKgb18; clear GUgb18; clear BKgb22; clear GUgb22; clear HB; clear HBM; have HOR7 := n0_; have UPR7 := n1_; have HOR10 := n2_; have UPR10 := n3_; have HOR14 := n4_; have UPR14 := n5_; have HOR17 := n6_; have UPR17 := n7_; have HOR21 := n8_; have UPR21 := n9_; have HOR26 := n10_; have UPR26 := n11_; have HOR30 := n12_; have UPR30 := n13_; have HOR34 := n14_; have UPR34 := n15_; have BKgb1 := n16_; have GUgb1 := n17_; have BKgb2 := n18_; have GUgb2 := n19_; have BKgb18 := n20_; have GUgb18 := n21_; have BKgb22 := n22_; have GUgb22 := n23_; have HB := n24_; have HBM := n25_; clear n0_ n1_ n2_ n3_ n4_ n5_ n6_ n7_ n8_ n9_ n10_ n11_ n12_ n13_ n14_ n15_ n16_ n17_ n18_ n19_ n20_ n21_ n22_ n23_ n24_ n25_; clear hy hb hkp; (try clear hczgb1_0); (try clear hfzgb1_0); (try clear hczgb1_1); (try clear hfzgb1_1); (try clear hczgb2_0); (try clear hfzgb2_0); (try clear hczgb2_1); (try clear hfzgb2_1); (try clear hczgb18_0); (try clear hfzgb18_0); (try clear hczgb18_1); (try clear hfzgb18_1); (try clear hczgb22_0); (try clear hfzgb22_0); (try clear hczgb22_1); (try clear hfzgb22_1); have hczgb1_0 : w_24.cell? ⟨gb1, 0, none⟩ = some (.int .i64 a0_0) := (blk_cell BKgb1.out 0).trans rfl; have hfzgb1_0 := blk_frozen BKgb1.out 0; have hczgb1_1 : w_24.cell? ⟨gb1, 1, none⟩ = some (.slice A0_1 l0_1.length c0_1) := (blk_cell BKgb1.out 1).trans rfl; have hfzgb1_1 := blk_frozen BKgb1.out 1; have hczgb2_0 : w_24.cell? ⟨gb2, 0, none⟩ = some (.int .i64 a1_0) := (blk_cell BKgb2.out 0).trans rfl; have hfzgb2_0 := blk_frozen BKgb2.out 0; have hczgb2_1 : w_24.cell? ⟨gb2, 1, none⟩ = some (.slice A1_1 l1_1.length c1_1) := (blk_cell BKgb2.out 1).trans rfl; have hfzgb2_1 := blk_frozen BKgb2.out 1; have hczgb18_0 : w_24.cell? ⟨gb18, 0, none⟩ = some (.int .i64 t15) := (blk_cell BKgb18.out 0).trans rfl; have hfzgb18_0 := blk_frozen BKgb18.out 0; have hczgb18_1 : w_24.cell? ⟨gb18, 1, none⟩ = some (.slice AR17 t16.length cR17) := (blk_cell BKgb18.out 1).trans rfl; have hfzgb18_1 := blk_frozen BKgb18.out 1; have hczgb22_0 : w_24.cell? ⟨gb22, 0, none⟩ = some (.int .i64 t19) := (blk_cell BKgb22.out 0).trans rfl; have hfzgb22_0 := blk_frozen BKgb22.out 0; have hczgb22_1 : w_24.cell? ⟨gb22, 1, none⟩ = some (.slice AR21 t20.length cR21) := (blk_cell BKgb22.out 1).trans rfl; have hfzgb22_1 := blk_frozen BKgb22.out 1) | (go_at_call 14; (with_reducible refine (laws_eqInt64S.calls k _ _ t23 _ _ t11 true _ ?side1 ?side2 ?side3 ?side4 E24.out).mono ?_); (case side1 => exact (Kd.R_reads' HOR26.out).2.2); (case side2 => exact (Kd.R_reads' HOR26.out).2.1); (case side3 => exact (Kd.R_reads' HOR14.out).2.2); (case side4 => exact (Kd.R_reads' HOR14.out).2.1); rintro e w_25 ⟨rfl, hd⟩; have hb := Drawn0.below hd; have n0_ := Aside0.mk (Kd.R_below HOR7.out hb); have n1_ := Aside0.mk (Kd.R_below HOR10.out hb); have n2_ := Aside0.mk (Kd.R_below HOR14.out hb); have n3_ := Aside0.mk (Kd.R_below HOR17.out hb); have n4_ := Aside0.mk (Kd.R_below HOR21.out hb); have n5_ := Aside0.mk (Kd.R_below HOR26.out hb); have n6_ := Aside0.mk (Kd.R_below HOR30.out hb); have n7_ := Aside0.mk (Kd.R_below HOR34.out hb); have n8_ := Aside0.mk (Nat.le_trans UPR7.out hb.size); have n9_ := Aside0.mk (Nat.le_trans UPR10.out hb.size); have n10_ := Aside0.mk (Nat.le_trans UPR14.out hb.size); have n11_ := Aside0.mk (Nat.le_trans UPR17.out hb.size); have n12_ := Aside0.mk (Nat.le_trans UPR21.out hb.size); have n13_ := Aside0.mk (Nat.le_trans UPR26.out hb.size); have n14_ := Aside0.mk (Nat.le_trans UPR30.out hb.size); have n15_ := Aside0.mk (Nat.le_trans UPR34.out hb.size); have n16_ := Aside0.mk (blk_below (g := gb1) BKgb1.out hb); have n17_ := Aside0.mk (blk_below (g := gb2) BKgb2.out hb); have n18_ := Aside0.mk (blk_below (g := gb18) BKgb18.out hb); have n19_ := Aside0.mk (blk_below (g := gb22) BKgb22.out hb); have n20_ := Aside0.mk (Nat.lt_of_lt_of_le GUgb1.out hb.size); have n21_ := Aside0.mk (Nat.lt_of_lt_of_le GUgb2.out hb.size); have n22_ := Aside0.mk (Nat.lt_of_lt_of_le GUgb18.out hb.size); have n23_ := Aside0.mk (Nat.lt_of_lt_of_le GUgb22.out hb.size); have n24_ := Aside0.mk (below_step HB.out hb); have n25_ := Aside0.mk (below_step HBM.out hb); clear HOR7; clear HOR10; clear HOR14; clear HOR17; clear HOR21; clear HOR26; clear HOR30; clear HOR34; clear UPR7; clear UPR10; clear UPR14; clear UPR17; clear UPR21; clear UPR26; clear UPR30; clear UPR34; clear BKgb1; clear BKgb2; clear BKgb18; clear BKgb22; clear GUgb1; clear GUgb2; clear GUgb18; clear GUgb22; clear HB; clear HBM; have HOR7 := n0_; have HOR10 := n1_; have HOR14 := n2_; have HOR17 := n3_; have HOR21 := n4_; have HOR26 := n5_; have HOR30 := n6_; have HOR34 := n7_; have UPR7 := n8_; have UPR10 := n9_; have UPR14 := n10_; have UPR17 := n11_; have UPR21 := n12_; have UPR26 := n13_; have UPR30 := n14_; have UPR34 := n15_; have BKgb1 := n16_; have BKgb2 := n17_; have BKgb18 := n18_; have BKgb22 := n19_; have GUgb1 := n20_; have GUgb2 := n21_; have GUgb18 := n22_; have GUgb22 := n23_; have HB := n24_; have HBM := n25_; clear n0_ n1_ n2_ n3_ n4_ n5_ n6_ n7_ n8_ n9_ n10_ n11_ n12_ n13_ n14_ n15_ n16_ n17_ n18_ n19_ n20_ n21_ n22_ n23_ n24_ n25_; clear hb; clear hd; (try clear hczgb1_0); (try clear hfzgb1_0); (try clear hczgb1_1); (try clear hfzgb1_1); (try clear hczgb2_0); (try clear hfzgb2_0); (try clear hczgb2_1); (try clear hfzgb2_1); (try clear hczgb18_0); (try clear hfzgb18_0); (try clear hczgb18_1); (try clear hfzgb18_1); (try clear hczgb22_0); (try clear hfzgb22_0); (try clear hczgb22_1); (try clear hfzgb22_1); have hczgb1_0 : w_25.cell? ⟨gb1, 0, none⟩ = some (.int .i64 a0_0) := (blk_cell BKgb1.out 0).trans rfl; have hfzgb1_0 := blk_frozen BKgb1.out 0; have hczgb1_1 : w_25.cell? ⟨gb1, 1, none⟩ = some (.slice A0_1 l0_1.length c0_1) := (blk_cell BKgb1.out 1).trans rfl; have hfzgb1_1 := blk_frozen BKgb1.out 1; have hczgb2_0 : w_25.cell? ⟨gb2, 0, none⟩ = some (.int .i64 a1_0) := (blk_cell BKgb2.out 0).trans rfl; have hfzgb2_0 := blk_frozen BKgb2.out 0; have hczgb2_1 : w_25.cell? ⟨gb2, 1, none⟩ = some (.slice A1_1 l1_1.length c1_1) := (blk_cell BKgb2.out 1).trans rfl; have hfzgb2_1 := blk_frozen BKgb2.out 1; have hczgb18_0 : w_25.cell? ⟨gb18, 0, none⟩ = some (.int .i64 t15) := (blk_cell BKgb18.out 0).trans rfl; have hfzgb18_0 := blk_frozen BKgb18.out 0; have hczgb18_1 : w_25.cell? ⟨gb18, 1, none⟩ = some (.slice AR17 t16.length cR17) := (blk_cell BKgb18.out 1).trans rfl; have hfzgb18_1 := blk_frozen BKgb18.out 1; have hczgb22_0 : w_25.cell? ⟨gb22, 0, none⟩ = some (.int .i64 t19) := (blk_cell BKgb22.out 0).trans rfl; have hfzgb22_0 := blk_frozen BKgb22.out 0; have hczgb22_1 : w_25.cell? ⟨gb22, 1, none⟩ = some (.slice AR21 t20.length cR21) := (blk_cell BKgb22.out 1).trans rfl; have hfzgb22_1 := blk_frozen BKgb22.out 1) | ((with_reducible refine gate_callee (f := 19) rfl ?_); refine goesL_ (some 100) rfl rfl Try.func19 (by kernel_rfl) rfl #[.slice AR26 t23.length cR26, .int .i64 1] rfl (by (try simp only [List.map_toArray, List.map_cons, List.map_nil]); first | done | rfl) ?_; (with_reducible refine (laws_markInt64S.calls k (fun k_ => loR26 ≤ k_ ∧ k_ < hiR26) _ t23 1 t55 t42 w_8 _ ?side1 ?side2 E26.out).mono ?_); (case side1 => exact HBM.out); (case side2 => exact HOR26.out); rintro e w_26 ⟨rfl, hy, hb, hkp⟩; refine ⟨_, rfl, ?_⟩; have n0_ := Aside0.mk (Kd.R_kept HOR7.out hkp NRR7_R26.out); have n1_ := Aside0.mk (Nat.le_trans UPR7.out hkp.1); have n2_ := Aside0.mk (Kd.R_kept HOR10.out hkp NRR10_R26.out); have n3_ := Aside0.mk (Nat.le_trans UPR10.out hkp.1); have n4_ := Aside0.mk (Kd.R_kept HOR14.out hkp NRR14_R26.out); have n5_ := Aside0.mk (Nat.le_trans UPR14.out hkp.1); have n6_ := Aside0.mk (Kd.R_kept HOR17.out hkp NRR17_R26.out); have n7_ := Aside0.mk (Nat.le_trans UPR17.out hkp.1); have n8_ := Aside0.mk (Kd.R_kept HOR21.out hkp NRR21_R26.out); have n9_ := Aside0.mk (Nat.le_trans UPR21.out hkp.1); have n10_ := Aside0.mk (Kd.R_reok rfl hy (fun k_ e_ => HOR26.out.1 k_ e_)); have n11_ := Aside0.mk (Nat.le_trans UPR26.out hkp.1); have n12_ := Aside0.mk (Kd.R_kept HOR30.out hkp NRR30_R26.out); have n13_ := Aside0.mk (Nat.le_trans UPR30.out hkp.1); have n14_ := Aside0.mk (Kd.R_kept HOR34.out hkp NRR34_R26.out); have n15_ := Aside0.mk (Nat.le_trans UPR34.out hkp.1); have n16_ := Aside0.mk (blk_kept (g := gb1) BKgb1.out hkp (fun h_ => NER26_gb1.out _ h_ rfl)); have n17_ := Aside0.mk (Nat.lt_of_lt_of_le GUgb1.out hkp.1); have n18_ := Aside0.mk (blk_kept (g := gb2) BKgb2.out hkp (fun h_ => NER26_gb2.out _ h_ rfl)); have n19_ := Aside0.mk (Nat.lt_of_lt_of_le GUgb2.out hkp.1); have n20_ := Aside0.mk (blk_kept (g := gb18) BKgb18.out hkp (fun h_ => NER26_gb18.out _ h_ rfl)); have n21_ := Aside0.mk (Nat.lt_of_lt_of_le GUgb18.out hkp.1); have n22_ := Aside0.mk (blk_kept (g := gb22) BKgb22.out hkp (fun h_ => NER26_gb22.out _ h_ rfl)); have n23_ := Aside0.mk (Nat.lt_of_lt_of_le GUgb22.out hkp.1); have n24_ := Aside0.mk (below_step HWM.out hb); have n25_ := Aside0.mk (hb); clear HOR7; clear UPR7; clear HOR10; clear UPR10; clear HOR14; clear UPR14; clear HOR17; clear UPR17; clear HOR21; clear UPR21; clear HOR26; clear UPR26; clear HOR30; clear UPR30; clear HOR34; clear UPR34; clear BKgb1; clear GUgb1; clear BKgb2; clear GUgb2; clear BKgb18; clear GUgb18; clear BKgb22; clear GUgb22; clear HB; clear HBM; have HOR7 := n0_; have UPR7 := n1_; have HOR10 := n2_; have UPR10 := n3_; have HOR14 := n4_; have UPR14 := n5_; have HOR17 := n6_; have UPR17 := n7_; have HOR21 := n8_; have UPR21 := n9_; have HOR26 := n10_; have UPR26 := n11_; have HOR30 := n12_; have UPR30 := n13_; have HOR34 := n14_; have UPR34 := n15_; have BKgb1 := n16_; have GUgb1 := n17_; have BKgb2 := n18_; have GUgb2 := n19_; have BKgb18 := n20_; have GUgb18 := n21_; have BKgb22 := n22_; have GUgb22 := n23_; have HB := n24_; have HBM := n25_; clear n0_ n1_ n2_ n3_ n4_ n5_ n6_ n7_ n8_ n9_ n10_ n11_ n12_ n13_ n14_ n15_ n16_ n17_ n18_ n19_ n20_ n21_ n22_ n23_ n24_ n25_; clear hy hb hkp; (try clear hczgb1_0); (try clear hfzgb1_0); (try clear hczgb1_1); (try clear hfzgb1_1); (try clear hczgb2_0); (try clear hfzgb2_0); (try clear hczgb2_1); (try clear hfzgb2_1); (try clear hczgb18_0); (try clear hfzgb18_0); (try clear hczgb18_1); (try clear hfzgb18_1); (try clear hczgb22_0); (try clear hfzgb22_0); (try clear hczgb22_1); (try clear hfzgb22_1); have hczgb1_0 : w_26.cell? ⟨gb1, 0, none⟩ = some (.int .i64 a0_0) := (blk_cell BKgb1.out 0).trans rfl; have hfzgb1_0 := blk_frozen BKgb1.out 0; have hczgb1_1 : w_26.cell? ⟨gb1, 1, none⟩ = some (.slice A0_1 l0_1.length c0_1) := (blk_cell BKgb1.out 1).trans rfl; have hfzgb1_1 := blk_frozen BKgb1.out 1; have hczgb2_0 : w_26.cell? ⟨gb2, 0, none⟩ = some (.int .i64 a1_0) := (blk_cell BKgb2.out 0).trans rfl; have hfzgb2_0 := blk_frozen BKgb2.out 0; have hczgb2_1 : w_26.cell? ⟨gb2, 1, none⟩ = some (.slice A1_1 l1_1.length c1_1) := (blk_cell BKgb2.out 1).trans rfl; have hfzgb2_1 := blk_frozen BKgb2.out 1; have hczgb18_0 : w_26.cell? ⟨gb18, 0, none⟩ = some (.int .i64 t15) := (blk_cell BKgb18.out 0).trans rfl; have hfzgb18_0 := blk_frozen BKgb18.out 0; have hczgb18_1 : w_26.cell? ⟨gb18, 1, none⟩ = some (.slice AR17 t16.length cR17) := (blk_cell BKgb18.out 1).trans rfl; have hfzgb18_1 := blk_frozen BKgb18.out 1; have hczgb22_0 : w_26.cell? ⟨gb22, 0, none⟩ = some (.int .i64 t19) := (blk_cell BKgb22.out 0).trans rfl; have hfzgb22_0 := blk_frozen BKgb22.out 0; have hczgb22_1 : w_26.cell? ⟨gb22, 1, none⟩ = some (.slice AR21 t20.length cR21) := (blk_cell BKgb22.out 1).trans rfl; have hfzgb22_1 := blk_frozen BKgb22.out 1) | ((with_reducible refine gate_callee (f := 20) rfl ?_); refine goesL_ (some 103) rfl rfl Try.func20 (by kernel_rfl) rfl #[.slice AR26 t42.length cR26, .int .i64 1] rfl (by (try simp only [List.map_toArray, List.map_cons, List.map_nil]); first | done | rfl | (simp only [show t42.length = t23.length from (Kd.R_reads' HOR26.out).1.symm]; rfl)) ?_; (with_reducible refine (laws_heldInt64S.calls k _ _ t42 1 t55 _ ?side1 ?side2 E27.out).mono ?_); (case side1 => exact (Kd.R_reads' HOR26.out).2.2); (case side2 => exact (fun h_ => h_.1 ▸ h_.2.1) (Kd.R_reads' HOR26.out)); rintro e w_27 ⟨rfl, hd⟩; have hb := Drawn0.below hd; refine ⟨_, rfl, ?_⟩; have n0_ := Aside0.mk (Kd.R_below HOR7.out hb); have n1_ := Aside0.mk (Kd.R_below HOR10.out hb); have n2_ := Aside0.mk (Kd.R_below HOR14.out hb); have n3_ := Aside0.mk (Kd.R_below HOR17.out hb); have n4_ := Aside0.mk (Kd.R_below HOR21.out hb); have n5_ := Aside0.mk (Kd.R_below HOR26.out hb); have n6_ := Aside0.mk (Kd.R_below HOR30.out hb); have n7_ := Aside0.mk (Kd.R_below HOR34.out hb); have n8_ := Aside0.mk (Nat.le_trans UPR7.out hb.size); have n9_ := Aside0.mk (Nat.le_trans UPR10.out hb.size); have n10_ := Aside0.mk (Nat.le_trans UPR14.out hb.size); have n11_ := Aside0.mk (Nat.le_trans UPR17.out hb.size); have n12_ := Aside0.mk (Nat.le_trans UPR21.out hb.size); have n13_ := Aside0.mk (Nat.le_trans UPR26.out hb.size); have n14_ := Aside0.mk (Nat.le_trans UPR30.out hb.size); have n15_ := Aside0.mk (Nat.le_trans UPR34.out hb.size); have n16_ := Aside0.mk (blk_below (g := gb1) BKgb1.out hb); have n17_ := Aside0.mk (blk_below (g := gb2) BKgb2.out hb); have n18_ := Aside0.mk (blk_below (g := gb18) BKgb18.out hb); have n19_ := Aside0.mk (blk_below (g := gb22) BKgb22.out hb); have n20_ := Aside0.mk (Nat.lt_of_lt_of_le GUgb1.out hb.size); have n21_ := Aside0.mk (Nat.lt_of_lt_of_le GUgb2.out hb.size); have n22_ := Aside0.mk (Nat.lt_of_lt_of_le GUgb18.out hb.size); have n23_ := Aside0.mk (Nat.lt_of_lt_of_le GUgb22.out hb.size); have n24_ := Aside0.mk (below_step HB.out hb); have n25_ := Aside0.mk (below_step HBM.out hb); clear HOR7; clear HOR10; clear HOR14; clear HOR17; clear HOR21; clear HOR26; clear HOR30; clear HOR34; clear UPR7; clear UPR10; clear UPR14; clear UPR17; clear UPR21; clear UPR26; clear UPR30; clear UPR34; clear BKgb1; clear BKgb2; clear BKgb18; clear BKgb22; clear GUgb1; clear GUgb2; clear GUgb18; clear GUgb22; clear HB; clear HBM; have HOR7 := n0_; have HOR10 := n1_; have HOR14 := n2_; have HOR17 := n3_; have HOR21 := n4_; have HOR26 := n5_; have HOR30 := n6_; have HOR34 := n7_; have UPR7 := n8_; have UPR10 := n9_; have UPR14 := n10_; have UPR17 := n11_; have UPR21 := n12_; have UPR26 := n13_; have UPR30 := n14_; have UPR34 := n15_; have BKgb1 := n16_; have BKgb2 := n17_; have BKgb18 := n18_; have BKgb22 := n19_; have GUgb1 := n20_; have GUgb2 := n21_; have GUgb18 := n22_; have GUgb22 := n23_; have HB := n24_; have HBM := n25_; clear n0_ n1_ n2_ n3_ n4_ n5_ n6_ n7_ n8_ n9_ n10_ n11_ n12_ n13_ n14_ n15_ n16_ n17_ n18_ n19_ n20_ n21_ n22_ n23_ n24_ n25_; clear hb; clear hd; (try clear hczgb1_0); (try clear hfzgb1_0); (try clear hczgb1_1); (try clear hfzgb1_1); (try clear hczgb2_0); (try clear hfzgb2_0); (try clear hczgb2_1); (try clear hfzgb2_1); (try clear hczgb18_0); (try clear hfzgb18_0); (try clear hczgb18_1); (try clear hfzgb18_1); (try clear hczgb22_0); (try clear hfzgb22_0); (try clear hczgb22_1); (try clear hfzgb22_1); have hczgb1_0 : w_27.cell? ⟨gb1, 0, none⟩ = some (.int .i64 a0_0) := (blk_cell BKgb1.out 0).trans rfl; have hfzgb1_0 := blk_frozen BKgb1.out 0; have hczgb1_1 : w_27.cell? ⟨gb1, 1, none⟩ = some (.slice A0_1 l0_1.length c0_1) := (blk_cell BKgb1.out 1).trans rfl; have hfzgb1_1 := blk_frozen BKgb1.out 1; have hczgb2_0 : w_27.cell? ⟨gb2, 0, none⟩ = some (.int .i64 a1_0) := (blk_cell BKgb2.out 0).trans rfl; have hfzgb2_0 := blk_frozen BKgb2.out 0; have hczgb2_1 : w_27.cell? ⟨gb2, 1, none⟩ = some (.slice A1_1 l1_1.length c1_1) := (blk_cell BKgb2.out 1).trans rfl; have hfzgb2_1 := blk_frozen BKgb2.out 1; have hczgb18_0 : w_27.cell? ⟨gb18, 0, none⟩ = some (.int .i64 t15) := (blk_cell BKgb18.out 0).trans rfl; have hfzgb18_0 := blk_frozen BKgb18.out 0; have hczgb18_1 : w_27.cell? ⟨gb18, 1, none⟩ = some (.slice AR17 t16.length cR17) := (blk_cell BKgb18.out 1).trans rfl; have hfzgb18_1 := blk_frozen BKgb18.out 1; have hczgb22_0 : w_27.cell? ⟨gb22, 0, none⟩ = some (.int .i64 t19) := (blk_cell BKgb22.out 0).trans rfl; have hfzgb22_0 := blk_frozen BKgb22.out 0; have hczgb22_1 : w_27.cell? ⟨gb22, 1, none⟩ = some (.slice AR21 t20.length cR21) := (blk_cell BKgb22.out 1).trans rfl; have hfzgb22_1 := blk_frozen BKgb22.out 1))
 have n0_ := Aside0.mk (Kd.R_drew HOR7.out)
 have n1_ := Aside0.mk (Kd.R_drew HOR10.out)
 have n2_ := Aside0.mk (Kd.R_drew HOR14.out)
 have n3_ := Aside0.mk (Kd.R_drew HOR17.out)
 have n4_ := Aside0.mk (Kd.R_drew HOR21.out)
 have n5_ := Aside0.mk (Kd.R_drew HOR26.out)
 have n6_ := Aside0.mk (Kd.R_drew HOR30.out)
 have n7_ := Aside0.mk (Kd.R_drew HOR34.out)
 have n8_ := Aside0.mk (show hiR7 ≤ w_27.drew.heap.size from UPR7.out)
 have n9_ := Aside0.mk (show hiR10 ≤ w_27.drew.heap.size from UPR10.out)
 have n10_ := Aside0.mk (show hiR14 ≤ w_27.drew.heap.size from UPR14.out)
 have n11_ := Aside0.mk (show hiR17 ≤ w_27.drew.heap.size from UPR17.out)
 have n12_ := Aside0.mk (show hiR21 ≤ w_27.drew.heap.size from UPR21.out)
 have n13_ := Aside0.mk (show hiR26 ≤ w_27.drew.heap.size from UPR26.out)
 have n14_ := Aside0.mk (show hiR30 ≤ w_27.drew.heap.size from UPR30.out)
 have n15_ := Aside0.mk (show hiR34 ≤ w_27.drew.heap.size from UPR34.out)
 have n16_ := Aside0.mk (blk_drew BKgb1.out)
 have n17_ := Aside0.mk (blk_drew BKgb2.out)
 have n18_ := Aside0.mk (blk_drew BKgb18.out)
 have n19_ := Aside0.mk (blk_drew BKgb22.out)
 have n20_ := Aside0.mk (show gb1 < w_27.drew.heap.size from GUgb1.out)
 have n21_ := Aside0.mk (show gb2 < w_27.drew.heap.size from GUgb2.out)
 have n22_ := Aside0.mk (show gb18 < w_27.drew.heap.size from GUgb18.out)
 have n23_ := Aside0.mk (show gb22 < w_27.drew.heap.size from GUgb22.out)
 have n24_ := Aside0.mk (below_drew1 HB.out)
 have n25_ := Aside0.mk (below_drew1 HBM.out)
 clear HOR7
 clear HOR10
 clear HOR14
 clear HOR17
 clear HOR21
 clear HOR26
 clear HOR30
 clear HOR34
 clear UPR7
 clear UPR10
 clear UPR14
 clear UPR17
 clear UPR21
 clear UPR26
 clear UPR30
 clear UPR34
 clear BKgb1
 clear BKgb2
 clear BKgb18
 clear BKgb22
 clear GUgb1
 clear GUgb2
 clear GUgb18
 clear GUgb22
 clear HB
 clear HBM
 have HOR7 := n0_
 have HOR10 := n1_
 have HOR14 := n2_
 have HOR17 := n3_
 have HOR21 := n4_
 have HOR26 := n5_
 have HOR30 := n6_
 have HOR34 := n7_
 have UPR7 := n8_
 have UPR10 := n9_
 have UPR14 := n10_
 have UPR17 := n11_
 have UPR21 := n12_
 have UPR26 := n13_
 have UPR30 := n14_
 have UPR34 := n15_
 have BKgb1 := n16_
 have BKgb2 := n17_
 have BKgb18 := n18_
 have BKgb22 := n19_
 have GUgb1 := n20_
 have GUgb2 := n21_
 have GUgb18 := n22_
 have GUgb22 := n23_
 have HB := n24_
 have HBM := n25_
 clear n0_ n1_ n2_ n3_ n4_ n5_ n6_ n7_ n8_ n9_ n10_ n11_ n12_ n13_ n14_ n15_ n16_ n17_ n18_ n19_ n20_ n21_ n22_ n23_ n24_ n25_
 (try clear hczgb1_0); (try clear hfzgb1_0)
 (try clear hczgb1_1); (try clear hfzgb1_1)
 (try clear hczgb2_0); (try clear hfzgb2_0)
 (try clear hczgb2_1); (try clear hfzgb2_1)
 (try clear hczgb18_0); (try clear hfzgb18_0)
 (try clear hczgb18_1); (try clear hfzgb18_1)
 (try clear hczgb22_0); (try clear hfzgb22_0)
 (try clear hczgb22_1); (try clear hfzgb22_1)
 refine start_ (n := 12) (S := fun w' => w'.cell? ⟨gb1, 0, none⟩ = some (.int .i64 a0_0) ∧ w'.cell? ⟨gb1, 1, none⟩ = some (.slice A0_1 l0_1.length c0_1) ∧ w'.cell? ⟨gb2, 0, none⟩ = some (.int .i64 a1_0) ∧ w'.cell? ⟨gb2, 1, none⟩ = some (.slice A1_1 l1_1.length c1_1)) (ds := []) #[false, false, false, false, false, false, false, false, false, false, false, false] (by kernel_rfl) rfl rfl ⟨(blk_cell BKgb1.out 0).trans rfl, (blk_cell BKgb1.out 1).trans rfl, (blk_cell BKgb2.out 0).trans rfl, (blk_cell BKgb2.out 1).trans rfl⟩ (fun hHeld => ?_)
 generalize w_27.drew = w_28 at HOR7 HOR10 HOR14 HOR17 HOR21 HOR26 HOR30 HOR34 UPR7 UPR10 UPR14 UPR17 UPR21 UPR26 UPR30 UPR34 BKgb1 BKgb2 BKgb18 BKgb22 GUgb1 GUgb2 GUgb18 GUgb22 HB HBM hHeld ⊢
 refine take_ (i := 0) (N := some 110) (v := ?_) (a' := ?_) #[true, false, false, false, false, false, false, false, false, false, false, false] rfl rfl (by kernel_rfl) (fun _ _ _ h => h) (Or.inl ⟨by rfl, ?_⟩) hHeld ?_ ?_
 rotate_left
 ·rintro w' ⟨s0, s1, s2, s3⟩
  go_simp
  with_reducible rfl
 rotate_left
 ·simp only [Act.put, List.setIfInBounds_toArray, List.set_cons_zero, List.set_cons_succ, i64_w, i32_w]
  rfl
 refine take_ (i := 2) (N := some 112) (v := ?_) (a' := ?_) #[true, false, true, false, false, false, false, false, false, false, false, false] rfl rfl (by kernel_rfl) (fun _ _ _ h => h) (Or.inl ⟨by rfl, ?_⟩) hHeld ?_ ?_
 rotate_left
 ·rintro w' ⟨s0, s1, s2, s3⟩
  go_simp
  with_reducible rfl
 rotate_left
 ·simp only [Act.put, List.setIfInBounds_toArray, List.set_cons_zero, List.set_cons_succ, i64_w, i32_w]
  rfl
 refine one_ (i := 1) (N := some 111) #[true, true, true, false, false, false, false, false, false, false, false, false] rfl rfl (by kernel_rfl) (by decide) (fun K hK => ?_)
 refine goes_ Try.func11 (by kernel_rfl) rfl #[.agg #[.int .i64 a0_0, .slice A0_1 l0_1.length c0_1]] (by rfl) rfl rfl (by (try simp only [List.map_toArray, List.map_cons, List.map_nil]); first | done | rfl) ?_
 (with_reducible refine (laws_toSystem.calls k a0_0 _ _ l0_1 t44 t45 _ ?side1 ?side2 E30.out).mono ?_)
 (case side1 => exact Kd.C_below HR0_1.out HB.out)
 (case side2 => exact HC0_1.out)
 rintro e w_29 ⟨vR46, rfl, hoR46, hb⟩
 refine ⟨_, rfl, ?_⟩
 obtain ⟨loR46, hloR46⟩ : ∃ n_ : Nat, n_ = w_28.heap.size := ⟨_, rfl⟩
 obtain ⟨hiR46, hhiR46⟩ : ∃ n_ : Nat, n_ = w_29.heap.size := ⟨_, rfl⟩
 have n0_ := Aside0.mk (Kd.R_below HOR7.out hb)
 have n1_ := Aside0.mk (Kd.R_below HOR10.out hb)
 have n2_ := Aside0.mk (Kd.R_below HOR14.out hb)
 have n3_ := Aside0.mk (Kd.R_below HOR17.out hb)
 have n4_ := Aside0.mk (Kd.R_below HOR21.out hb)
 have n5_ := Aside0.mk (Kd.R_below HOR26.out hb)
 have n6_ := Aside0.mk (Kd.R_below HOR30.out hb)
 have n7_ := Aside0.mk (Kd.R_below HOR34.out hb)
 have n8_ := Aside0.mk (Nat.le_trans UPR7.out hb.size)
 have n9_ := Aside0.mk (Nat.le_trans UPR10.out hb.size)
 have n10_ := Aside0.mk (Nat.le_trans UPR14.out hb.size)
 have n11_ := Aside0.mk (Nat.le_trans UPR17.out hb.size)
 have n12_ := Aside0.mk (Nat.le_trans UPR21.out hb.size)
 have n13_ := Aside0.mk (Nat.le_trans UPR26.out hb.size)
 have n14_ := Aside0.mk (Nat.le_trans UPR30.out hb.size)
 have n15_ := Aside0.mk (Nat.le_trans UPR34.out hb.size)
 have n16_ := Aside0.mk (blk_below (g := gb1) BKgb1.out hb)
 have n17_ := Aside0.mk (blk_below (g := gb2) BKgb2.out hb)
 have n18_ := Aside0.mk (blk_below (g := gb18) BKgb18.out hb)
 have n19_ := Aside0.mk (blk_below (g := gb22) BKgb22.out hb)
 have n20_ := Aside0.mk (Nat.lt_of_lt_of_le GUgb1.out hb.size)
 have n21_ := Aside0.mk (Nat.lt_of_lt_of_le GUgb2.out hb.size)
 have n22_ := Aside0.mk (Nat.lt_of_lt_of_le GUgb18.out hb.size)
 have n23_ := Aside0.mk (Nat.lt_of_lt_of_le GUgb22.out hb.size)
 have n24_ := Aside0.mk (below_step HB.out hb)
 have n25_ := Aside0.mk (below_step HBM.out hb)
 have n26_ := Aside0.mk (Kd.R_lower (Kd.R_mono (ok' := fun k_ => loR46 ≤ k_ ∧ k_ < hiR46) (Kd.R_bound hoR46) (fun k_ hk_ => ⟨by rw [hloR46]; exact hk_.2.1, by rw [hhiR46]; exact hk_.2.2.1⟩)) (below_size HBM.out))
 have n27_ := Aside0.mk (by rw [hhiR46]; exact Nat.le_refl _ : hiR46 ≤ w_29.heap.size)
 have n28_ := Aside0.mk (fun k_ h1_ h2_ => by have := UPR7.out; rw [← hloR46] at this; omega : ∀ k_, loR7 ≤ k_ ∧ k_ < hiR7 → ¬ (loR46 ≤ k_ ∧ k_ < hiR46))
 have n29_ := Aside0.mk (fun k_ h1_ h2_ => by have := UPR7.out; rw [← hloR46] at this; omega : ∀ k_, loR46 ≤ k_ ∧ k_ < hiR46 → ¬ (loR7 ≤ k_ ∧ k_ < hiR7))
 have n30_ := Aside0.mk (fun k_ h1_ h2_ => by have := UPR10.out; rw [← hloR46] at this; omega : ∀ k_, loR10 ≤ k_ ∧ k_ < hiR10 → ¬ (loR46 ≤ k_ ∧ k_ < hiR46))
 have n31_ := Aside0.mk (fun k_ h1_ h2_ => by have := UPR10.out; rw [← hloR46] at this; omega : ∀ k_, loR46 ≤ k_ ∧ k_ < hiR46 → ¬ (loR10 ≤ k_ ∧ k_ < hiR10))
 have n32_ := Aside0.mk (fun k_ h1_ h2_ => by have := UPR14.out; rw [← hloR46] at this; omega : ∀ k_, loR14 ≤ k_ ∧ k_ < hiR14 → ¬ (loR46 ≤ k_ ∧ k_ < hiR46))
 have n33_ := Aside0.mk (fun k_ h1_ h2_ => by have := UPR14.out; rw [← hloR46] at this; omega : ∀ k_, loR46 ≤ k_ ∧ k_ < hiR46 → ¬ (loR14 ≤ k_ ∧ k_ < hiR14))
 have n34_ := Aside0.mk (fun k_ h1_ h2_ => by have := UPR17.out; rw [← hloR46] at this; omega : ∀ k_, loR17 ≤ k_ ∧ k_ < hiR17 → ¬ (loR46 ≤ k_ ∧ k_ < hiR46))
 have n35_ := Aside0.mk (fun k_ h1_ h2_ => by have := UPR17.out; rw [← hloR46] at this; omega : ∀ k_, loR46 ≤ k_ ∧ k_ < hiR46 → ¬ (loR17 ≤ k_ ∧ k_ < hiR17))
 have n36_ := Aside0.mk (fun k_ h1_ h2_ => by have := UPR21.out; rw [← hloR46] at this; omega : ∀ k_, loR21 ≤ k_ ∧ k_ < hiR21 → ¬ (loR46 ≤ k_ ∧ k_ < hiR46))
 have n37_ := Aside0.mk (fun k_ h1_ h2_ => by have := UPR21.out; rw [← hloR46] at this; omega : ∀ k_, loR46 ≤ k_ ∧ k_ < hiR46 → ¬ (loR21 ≤ k_ ∧ k_ < hiR21))
 have n38_ := Aside0.mk (fun k_ h1_ h2_ => by have := UPR26.out; rw [← hloR46] at this; omega : ∀ k_, loR26 ≤ k_ ∧ k_ < hiR26 → ¬ (loR46 ≤ k_ ∧ k_ < hiR46))
 have n39_ := Aside0.mk (fun k_ h1_ h2_ => by have := UPR26.out; rw [← hloR46] at this; omega : ∀ k_, loR46 ≤ k_ ∧ k_ < hiR46 → ¬ (loR26 ≤ k_ ∧ k_ < hiR26))
 have n40_ := Aside0.mk (fun k_ h1_ h2_ => by have := UPR30.out; rw [← hloR46] at this; omega : ∀ k_, loR30 ≤ k_ ∧ k_ < hiR30 → ¬ (loR46 ≤ k_ ∧ k_ < hiR46))
 have n41_ := Aside0.mk (fun k_ h1_ h2_ => by have := UPR30.out; rw [← hloR46] at this; omega : ∀ k_, loR46 ≤ k_ ∧ k_ < hiR46 → ¬ (loR30 ≤ k_ ∧ k_ < hiR30))
 have n42_ := Aside0.mk (fun k_ h1_ h2_ => by have := UPR34.out; rw [← hloR46] at this; omega : ∀ k_, loR34 ≤ k_ ∧ k_ < hiR34 → ¬ (loR46 ≤ k_ ∧ k_ < hiR46))
 have n43_ := Aside0.mk (fun k_ h1_ h2_ => by have := UPR34.out; rw [← hloR46] at this; omega : ∀ k_, loR46 ≤ k_ ∧ k_ < hiR46 → ¬ (loR34 ≤ k_ ∧ k_ < hiR34))
 have n44_ := Aside0.mk (fun k_ hk_ => by have := GUgb1.out; rw [← hloR46] at this; omega : ∀ k_, loR46 ≤ k_ ∧ k_ < hiR46 → k_ ≠ gb1)
 have n45_ := Aside0.mk (fun k_ hk_ => by have := GUgb2.out; rw [← hloR46] at this; omega : ∀ k_, loR46 ≤ k_ ∧ k_ < hiR46 → k_ ≠ gb2)
 have n46_ := Aside0.mk (fun k_ hk_ => by have := GUgb18.out; rw [← hloR46] at this; omega : ∀ k_, loR46 ≤ k_ ∧ k_ < hiR46 → k_ ≠ gb18)
 have n47_ := Aside0.mk (fun k_ hk_ => by have := GUgb22.out; rw [← hloR46] at this; omega : ∀ k_, loR46 ≤ k_ ∧ k_ < hiR46 → k_ ≠ gb22)
 clear HOR7
 clear HOR10
 clear HOR14
 clear HOR17
 clear HOR21
 clear HOR26
 clear HOR30
 clear HOR34
 clear UPR7
 clear UPR10
 clear UPR14
 clear UPR17
 clear UPR21
 clear UPR26
 clear UPR30
 clear UPR34
 clear BKgb1
 clear BKgb2
 clear BKgb18
 clear BKgb22
 clear GUgb1
 clear GUgb2
 clear GUgb18
 clear GUgb22
 clear HB
 clear HBM
 have HOR7 := n0_
 have HOR10 := n1_
 have HOR14 := n2_
 have HOR17 := n3_
 have HOR21 := n4_
 have HOR26 := n5_
 have HOR30 := n6_
 have HOR34 := n7_
 have UPR7 := n8_
 have UPR10 := n9_
 have UPR14 := n10_
 have UPR17 := n11_
 have UPR21 := n12_
 have UPR26 := n13_
 have UPR30 := n14_
 have UPR34 := n15_
 have BKgb1 := n16_
 have BKgb2 := n17_
 have BKgb18 := n18_
 have BKgb22 := n19_
 have GUgb1 := n20_
 have GUgb2 := n21_
 have GUgb18 := n22_
 have GUgb22 := n23_
 have HB := n24_
 have HBM := n25_
 have HOR46 := n26_
 have UPR46 := n27_
 have NRR7_R46 := n28_
 have NRR46_R7 := n29_
 have NRR10_R46 := n30_
 have NRR46_R10 := n31_
 have NRR14_R46 := n32_
 have NRR46_R14 := n33_
 have NRR17_R46 := n34_
 have NRR46_R17 := n35_
 have NRR21_R46 := n36_
 have NRR46_R21 := n37_
 have NRR26_R46 := n38_
 have NRR46_R26 := n39_
 have NRR30_R46 := n40_
 have NRR46_R30 := n41_
 have NRR34_R46 := n42_
 have NRR46_R34 := n43_
 have NER46_gb1 := n44_
 have NER46_gb2 := n45_
 have NER46_gb18 := n46_
 have NER46_gb22 := n47_
 clear n0_ n1_ n2_ n3_ n4_ n5_ n6_ n7_ n8_ n9_ n10_ n11_ n12_ n13_ n14_ n15_ n16_ n17_ n18_ n19_ n20_ n21_ n22_ n23_ n24_ n25_ n26_ n27_ n28_ n29_ n30_ n31_ n32_ n33_ n34_ n35_ n36_ n37_ n38_ n39_ n40_ n41_ n42_ n43_ n44_ n45_ n46_ n47_
 clear hb
 clear hoR46 hloR46 hhiR46
 obtain ⟨AR46, cR46, eqR46⟩ := Kd.R_slice HOR46.out
 subst eqR46
 refine hK.out _ _ ⟨(blk_cell BKgb1.out 0).trans rfl, (blk_cell BKgb1.out 1).trans rfl, (blk_cell BKgb2.out 0).trans rfl, (blk_cell BKgb2.out 1).trans rfl⟩ (fun hHeld => ?_)
 clear hK K
 refine norm_ (a' := ?_) ?_ ?_
 rotate_left
 ·show Act.put _ (some 111) _ = _
  simp only [Act.put, List.setIfInBounds_toArray, List.set_cons_zero, List.set_cons_succ, i64_w, i32_w]
  rfl
 refine one_ (i := 3) (N := some 113) #[true, true, true, true, false, false, false, false, false, false, false, false] rfl rfl (by kernel_rfl) (by decide) (fun K hK => ?_)
 refine goes_ Try.func12 (by kernel_rfl) rfl #[.agg #[.int .i64 a1_0, .slice A1_1 l1_1.length c1_1]] (by rfl) rfl rfl (by (try simp only [List.map_toArray, List.map_cons, List.map_nil]); first | done | rfl) ?_
 (with_reducible refine (laws_toValues.calls k a1_0 _ _ l1_1 t47 t48 _ ?side1 ?side2 E31.out).mono ?_)
 (case side1 => exact Kd.C_below HR1_1.out HB.out)
 (case side2 => exact HC1_1.out)
 rintro e w_30 ⟨vR49, rfl, hoR49, hb⟩
 refine ⟨_, rfl, ?_⟩
 obtain ⟨loR49, hloR49⟩ : ∃ n_ : Nat, n_ = w_29.heap.size := ⟨_, rfl⟩
 obtain ⟨hiR49, hhiR49⟩ : ∃ n_ : Nat, n_ = w_30.heap.size := ⟨_, rfl⟩
 have n0_ := Aside0.mk (Kd.R_below HOR7.out hb)
 have n1_ := Aside0.mk (Kd.R_below HOR10.out hb)
 have n2_ := Aside0.mk (Kd.R_below HOR14.out hb)
 have n3_ := Aside0.mk (Kd.R_below HOR17.out hb)
 have n4_ := Aside0.mk (Kd.R_below HOR21.out hb)
 have n5_ := Aside0.mk (Kd.R_below HOR26.out hb)
 have n6_ := Aside0.mk (Kd.R_below HOR30.out hb)
 have n7_ := Aside0.mk (Kd.R_below HOR34.out hb)
 have n8_ := Aside0.mk (Kd.R_below HOR46.out hb)
 have n9_ := Aside0.mk (Nat.le_trans UPR7.out hb.size)
 have n10_ := Aside0.mk (Nat.le_trans UPR10.out hb.size)
 have n11_ := Aside0.mk (Nat.le_trans UPR14.out hb.size)
 have n12_ := Aside0.mk (Nat.le_trans UPR17.out hb.size)
 have n13_ := Aside0.mk (Nat.le_trans UPR21.out hb.size)
 have n14_ := Aside0.mk (Nat.le_trans UPR26.out hb.size)
 have n15_ := Aside0.mk (Nat.le_trans UPR30.out hb.size)
 have n16_ := Aside0.mk (Nat.le_trans UPR34.out hb.size)
 have n17_ := Aside0.mk (Nat.le_trans UPR46.out hb.size)
 have n18_ := Aside0.mk (blk_below (g := gb1) BKgb1.out hb)
 have n19_ := Aside0.mk (blk_below (g := gb2) BKgb2.out hb)
 have n20_ := Aside0.mk (blk_below (g := gb18) BKgb18.out hb)
 have n21_ := Aside0.mk (blk_below (g := gb22) BKgb22.out hb)
 have n22_ := Aside0.mk (Nat.lt_of_lt_of_le GUgb1.out hb.size)
 have n23_ := Aside0.mk (Nat.lt_of_lt_of_le GUgb2.out hb.size)
 have n24_ := Aside0.mk (Nat.lt_of_lt_of_le GUgb18.out hb.size)
 have n25_ := Aside0.mk (Nat.lt_of_lt_of_le GUgb22.out hb.size)
 have n26_ := Aside0.mk (below_step HB.out hb)
 have n27_ := Aside0.mk (below_step HBM.out hb)
 have n28_ := Aside0.mk (Kd.R_lower (Kd.R_mono (ok' := fun k_ => loR49 ≤ k_ ∧ k_ < hiR49) (Kd.R_bound hoR49) (fun k_ hk_ => ⟨by rw [hloR49]; exact hk_.2.1, by rw [hhiR49]; exact hk_.2.2.1⟩)) (below_size HBM.out))
 have n29_ := Aside0.mk (by rw [hhiR49]; exact Nat.le_refl _ : hiR49 ≤ w_30.heap.size)
 have n30_ := Aside0.mk (fun k_ h1_ h2_ => by have := UPR7.out; rw [← hloR49] at this; omega : ∀ k_, loR7 ≤ k_ ∧ k_ < hiR7 → ¬ (loR49 ≤ k_ ∧ k_ < hiR49))
 have n31_ := Aside0.mk (fun k_ h1_ h2_ => by have := UPR7.out; rw [← hloR49] at this; omega : ∀ k_, loR49 ≤ k_ ∧ k_ < hiR49 → ¬ (loR7 ≤ k_ ∧ k_ < hiR7))
 have n32_ := Aside0.mk (fun k_ h1_ h2_ => by have := UPR10.out; rw [← hloR49] at this; omega : ∀ k_, loR10 ≤ k_ ∧ k_ < hiR10 → ¬ (loR49 ≤ k_ ∧ k_ < hiR49))
 have n33_ := Aside0.mk (fun k_ h1_ h2_ => by have := UPR10.out; rw [← hloR49] at this; omega : ∀ k_, loR49 ≤ k_ ∧ k_ < hiR49 → ¬ (loR10 ≤ k_ ∧ k_ < hiR10))
 have n34_ := Aside0.mk (fun k_ h1_ h2_ => by have := UPR14.out; rw [← hloR49] at this; omega : ∀ k_, loR14 ≤ k_ ∧ k_ < hiR14 → ¬ (loR49 ≤ k_ ∧ k_ < hiR49))
 have n35_ := Aside0.mk (fun k_ h1_ h2_ => by have := UPR14.out; rw [← hloR49] at this; omega : ∀ k_, loR49 ≤ k_ ∧ k_ < hiR49 → ¬ (loR14 ≤ k_ ∧ k_ < hiR14))
 have n36_ := Aside0.mk (fun k_ h1_ h2_ => by have := UPR17.out; rw [← hloR49] at this; omega : ∀ k_, loR17 ≤ k_ ∧ k_ < hiR17 → ¬ (loR49 ≤ k_ ∧ k_ < hiR49))
 have n37_ := Aside0.mk (fun k_ h1_ h2_ => by have := UPR17.out; rw [← hloR49] at this; omega : ∀ k_, loR49 ≤ k_ ∧ k_ < hiR49 → ¬ (loR17 ≤ k_ ∧ k_ < hiR17))
 have n38_ := Aside0.mk (fun k_ h1_ h2_ => by have := UPR21.out; rw [← hloR49] at this; omega : ∀ k_, loR21 ≤ k_ ∧ k_ < hiR21 → ¬ (loR49 ≤ k_ ∧ k_ < hiR49))
 have n39_ := Aside0.mk (fun k_ h1_ h2_ => by have := UPR21.out; rw [← hloR49] at this; omega : ∀ k_, loR49 ≤ k_ ∧ k_ < hiR49 → ¬ (loR21 ≤ k_ ∧ k_ < hiR21))
 have n40_ := Aside0.mk (fun k_ h1_ h2_ => by have := UPR26.out; rw [← hloR49] at this; omega : ∀ k_, loR26 ≤ k_ ∧ k_ < hiR26 → ¬ (loR49 ≤ k_ ∧ k_ < hiR49))
 have n41_ := Aside0.mk (fun k_ h1_ h2_ => by have := UPR26.out; rw [← hloR49] at this; omega : ∀ k_, loR49 ≤ k_ ∧ k_ < hiR49 → ¬ (loR26 ≤ k_ ∧ k_ < hiR26))
 have n42_ := Aside0.mk (fun k_ h1_ h2_ => by have := UPR30.out; rw [← hloR49] at this; omega : ∀ k_, loR30 ≤ k_ ∧ k_ < hiR30 → ¬ (loR49 ≤ k_ ∧ k_ < hiR49))
 have n43_ := Aside0.mk (fun k_ h1_ h2_ => by have := UPR30.out; rw [← hloR49] at this; omega : ∀ k_, loR49 ≤ k_ ∧ k_ < hiR49 → ¬ (loR30 ≤ k_ ∧ k_ < hiR30))
 have n44_ := Aside0.mk (fun k_ h1_ h2_ => by have := UPR34.out; rw [← hloR49] at this; omega : ∀ k_, loR34 ≤ k_ ∧ k_ < hiR34 → ¬ (loR49 ≤ k_ ∧ k_ < hiR49))
 have n45_ := Aside0.mk (fun k_ h1_ h2_ => by have := UPR34.out; rw [← hloR49] at this; omega : ∀ k_, loR49 ≤ k_ ∧ k_ < hiR49 → ¬ (loR34 ≤ k_ ∧ k_ < hiR34))
 have n46_ := Aside0.mk (fun k_ h1_ h2_ => by have := UPR46.out; rw [← hloR49] at this; omega : ∀ k_, loR46 ≤ k_ ∧ k_ < hiR46 → ¬ (loR49 ≤ k_ ∧ k_ < hiR49))
 have n47_ := Aside0.mk (fun k_ h1_ h2_ => by have := UPR46.out; rw [← hloR49] at this; omega : ∀ k_, loR49 ≤ k_ ∧ k_ < hiR49 → ¬ (loR46 ≤ k_ ∧ k_ < hiR46))
 have n48_ := Aside0.mk (fun k_ hk_ => by have := GUgb1.out; rw [← hloR49] at this; omega : ∀ k_, loR49 ≤ k_ ∧ k_ < hiR49 → k_ ≠ gb1)
 have n49_ := Aside0.mk (fun k_ hk_ => by have := GUgb2.out; rw [← hloR49] at this; omega : ∀ k_, loR49 ≤ k_ ∧ k_ < hiR49 → k_ ≠ gb2)
 have n50_ := Aside0.mk (fun k_ hk_ => by have := GUgb18.out; rw [← hloR49] at this; omega : ∀ k_, loR49 ≤ k_ ∧ k_ < hiR49 → k_ ≠ gb18)
 have n51_ := Aside0.mk (fun k_ hk_ => by have := GUgb22.out; rw [← hloR49] at this; omega : ∀ k_, loR49 ≤ k_ ∧ k_ < hiR49 → k_ ≠ gb22)
 clear HOR7
 clear HOR10
 clear HOR14
 clear HOR17
 clear HOR21
 clear HOR26
 clear HOR30
 clear HOR34
 clear HOR46
 clear UPR7
 clear UPR10
 clear UPR14
 clear UPR17
 clear UPR21
 clear UPR26
 clear UPR30
 clear UPR34
 clear UPR46
 clear BKgb1
 clear BKgb2
 clear BKgb18
 clear BKgb22
 clear GUgb1
 clear GUgb2
 clear GUgb18
 clear GUgb22
 clear HB
 clear HBM
 have HOR7 := n0_
 have HOR10 := n1_
 have HOR14 := n2_
 have HOR17 := n3_
 have HOR21 := n4_
 have HOR26 := n5_
 have HOR30 := n6_
 have HOR34 := n7_
 have HOR46 := n8_
 have UPR7 := n9_
 have UPR10 := n10_
 have UPR14 := n11_
 have UPR17 := n12_
 have UPR21 := n13_
 have UPR26 := n14_
 have UPR30 := n15_
 have UPR34 := n16_
 have UPR46 := n17_
 have BKgb1 := n18_
 have BKgb2 := n19_
 have BKgb18 := n20_
 have BKgb22 := n21_
 have GUgb1 := n22_
 have GUgb2 := n23_
 have GUgb18 := n24_
 have GUgb22 := n25_
 have HB := n26_
 have HBM := n27_
 have HOR49 := n28_
 have UPR49 := n29_
 have NRR7_R49 := n30_
 have NRR49_R7 := n31_
 have NRR10_R49 := n32_
 have NRR49_R10 := n33_
 have NRR14_R49 := n34_
 have NRR49_R14 := n35_
 have NRR17_R49 := n36_
 have NRR49_R17 := n37_
 have NRR21_R49 := n38_
 have NRR49_R21 := n39_
 have NRR26_R49 := n40_
 have NRR49_R26 := n41_
 have NRR30_R49 := n42_
 have NRR49_R30 := n43_
 have NRR34_R49 := n44_
 have NRR49_R34 := n45_
 have NRR46_R49 := n46_
 have NRR49_R46 := n47_
 have NER49_gb1 := n48_
 have NER49_gb2 := n49_
 have NER49_gb18 := n50_
 have NER49_gb22 := n51_
 clear n0_ n1_ n2_ n3_ n4_ n5_ n6_ n7_ n8_ n9_ n10_ n11_ n12_ n13_ n14_ n15_ n16_ n17_ n18_ n19_ n20_ n21_ n22_ n23_ n24_ n25_ n26_ n27_ n28_ n29_ n30_ n31_ n32_ n33_ n34_ n35_ n36_ n37_ n38_ n39_ n40_ n41_ n42_ n43_ n44_ n45_ n46_ n47_ n48_ n49_ n50_ n51_
 clear hb
 clear hoR49 hloR49 hhiR49
 obtain ⟨AR49, cR49, eqR49⟩ := Kd.R_slice HOR49.out
 subst eqR49
 refine hK.out _ _ ⟨(blk_cell BKgb1.out 0).trans rfl, (blk_cell BKgb1.out 1).trans rfl, (blk_cell BKgb2.out 0).trans rfl, (blk_cell BKgb2.out 1).trans rfl⟩ (fun hHeld => ?_)
 clear hK K
 refine norm_ (a' := ?_) ?_ ?_
 rotate_left
 ·show Act.put _ (some 113) _ = _
  simp only [Act.put, List.setIfInBounds_toArray, List.set_cons_zero, List.set_cons_succ, i64_w, i32_w]
  rfl
 refine one_ (i := 4) (N := some 114) #[true, true, true, true, true, false, false, false, false, false, false, false] rfl rfl (by kernel_rfl) (by decide) (fun K hK => ?_)
 refine goes_ Try.func13 (by kernel_rfl) rfl #[.agg #[.int .i64 t44, .slice AR46 t45.length cR46], .agg #[.int .i64 t47, .slice AR49 t48.length cR49]] (by rfl) rfl rfl (by (try simp only [List.map_toArray, List.map_cons, List.map_nil]); first | done | rfl) ?_
 (with_reducible refine (impl_SystemRounding.calls k t44 _ _ t45 t47 _ _ t48 t50 t51 t52 _ ?side1 ?side2 ?side3 ?side4 E32.out).mono ?_)
 (case side1 => exact (Kd.R_reads' HOR46.out).2.2)
 (case side2 => exact (Kd.R_reads' HOR46.out).2.1)
 (case side3 => exact (Kd.R_reads' HOR49.out).2.2)
 (case side4 => exact (Kd.R_reads' HOR49.out).2.1)
 rintro e w_31 ⟨vR53, rfl, hoR53, hb⟩
 refine ⟨_, rfl, ?_⟩
 obtain ⟨loR53, hloR53⟩ : ∃ n_ : Nat, n_ = w_30.heap.size := ⟨_, rfl⟩
 obtain ⟨hiR53, hhiR53⟩ : ∃ n_ : Nat, n_ = w_31.heap.size := ⟨_, rfl⟩
 have n0_ := Aside0.mk (Kd.R_below HOR7.out hb)
 have n1_ := Aside0.mk (Kd.R_below HOR10.out hb)
 have n2_ := Aside0.mk (Kd.R_below HOR14.out hb)
 have n3_ := Aside0.mk (Kd.R_below HOR17.out hb)
 have n4_ := Aside0.mk (Kd.R_below HOR21.out hb)
 have n5_ := Aside0.mk (Kd.R_below HOR26.out hb)
 have n6_ := Aside0.mk (Kd.R_below HOR30.out hb)
 have n7_ := Aside0.mk (Kd.R_below HOR34.out hb)
 have n8_ := Aside0.mk (Kd.R_below HOR46.out hb)
 have n9_ := Aside0.mk (Kd.R_below HOR49.out hb)
 have n10_ := Aside0.mk (Nat.le_trans UPR7.out hb.size)
 have n11_ := Aside0.mk (Nat.le_trans UPR10.out hb.size)
 have n12_ := Aside0.mk (Nat.le_trans UPR14.out hb.size)
 have n13_ := Aside0.mk (Nat.le_trans UPR17.out hb.size)
 have n14_ := Aside0.mk (Nat.le_trans UPR21.out hb.size)
 have n15_ := Aside0.mk (Nat.le_trans UPR26.out hb.size)
 have n16_ := Aside0.mk (Nat.le_trans UPR30.out hb.size)
 have n17_ := Aside0.mk (Nat.le_trans UPR34.out hb.size)
 have n18_ := Aside0.mk (Nat.le_trans UPR46.out hb.size)
 have n19_ := Aside0.mk (Nat.le_trans UPR49.out hb.size)
 have n20_ := Aside0.mk (blk_below (g := gb1) BKgb1.out hb)
 have n21_ := Aside0.mk (blk_below (g := gb2) BKgb2.out hb)
 have n22_ := Aside0.mk (blk_below (g := gb18) BKgb18.out hb)
 have n23_ := Aside0.mk (blk_below (g := gb22) BKgb22.out hb)
 have n24_ := Aside0.mk (Nat.lt_of_lt_of_le GUgb1.out hb.size)
 have n25_ := Aside0.mk (Nat.lt_of_lt_of_le GUgb2.out hb.size)
 have n26_ := Aside0.mk (Nat.lt_of_lt_of_le GUgb18.out hb.size)
 have n27_ := Aside0.mk (Nat.lt_of_lt_of_le GUgb22.out hb.size)
 have n28_ := Aside0.mk (below_step HB.out hb)
 have n29_ := Aside0.mk (below_step HBM.out hb)
 have n30_ := Aside0.mk (Kd.R_lower (Kd.R_mono (ok' := fun k_ => loR53 ≤ k_ ∧ k_ < hiR53) (Kd.R_bound hoR53) (fun k_ hk_ => ⟨by rw [hloR53]; exact hk_.2.1, by rw [hhiR53]; exact hk_.2.2.1⟩)) (below_size HBM.out))
 have n31_ := Aside0.mk (by rw [hhiR53]; exact Nat.le_refl _ : hiR53 ≤ w_31.heap.size)
 have n32_ := Aside0.mk (fun k_ h1_ h2_ => by have := UPR7.out; rw [← hloR53] at this; omega : ∀ k_, loR7 ≤ k_ ∧ k_ < hiR7 → ¬ (loR53 ≤ k_ ∧ k_ < hiR53))
 have n33_ := Aside0.mk (fun k_ h1_ h2_ => by have := UPR7.out; rw [← hloR53] at this; omega : ∀ k_, loR53 ≤ k_ ∧ k_ < hiR53 → ¬ (loR7 ≤ k_ ∧ k_ < hiR7))
 have n34_ := Aside0.mk (fun k_ h1_ h2_ => by have := UPR10.out; rw [← hloR53] at this; omega : ∀ k_, loR10 ≤ k_ ∧ k_ < hiR10 → ¬ (loR53 ≤ k_ ∧ k_ < hiR53))
 have n35_ := Aside0.mk (fun k_ h1_ h2_ => by have := UPR10.out; rw [← hloR53] at this; omega : ∀ k_, loR53 ≤ k_ ∧ k_ < hiR53 → ¬ (loR10 ≤ k_ ∧ k_ < hiR10))
 have n36_ := Aside0.mk (fun k_ h1_ h2_ => by have := UPR14.out; rw [← hloR53] at this; omega : ∀ k_, loR14 ≤ k_ ∧ k_ < hiR14 → ¬ (loR53 ≤ k_ ∧ k_ < hiR53))
 have n37_ := Aside0.mk (fun k_ h1_ h2_ => by have := UPR14.out; rw [← hloR53] at this; omega : ∀ k_, loR53 ≤ k_ ∧ k_ < hiR53 → ¬ (loR14 ≤ k_ ∧ k_ < hiR14))
 have n38_ := Aside0.mk (fun k_ h1_ h2_ => by have := UPR17.out; rw [← hloR53] at this; omega : ∀ k_, loR17 ≤ k_ ∧ k_ < hiR17 → ¬ (loR53 ≤ k_ ∧ k_ < hiR53))
 have n39_ := Aside0.mk (fun k_ h1_ h2_ => by have := UPR17.out; rw [← hloR53] at this; omega : ∀ k_, loR53 ≤ k_ ∧ k_ < hiR53 → ¬ (loR17 ≤ k_ ∧ k_ < hiR17))
 have n40_ := Aside0.mk (fun k_ h1_ h2_ => by have := UPR21.out; rw [← hloR53] at this; omega : ∀ k_, loR21 ≤ k_ ∧ k_ < hiR21 → ¬ (loR53 ≤ k_ ∧ k_ < hiR53))
 have n41_ := Aside0.mk (fun k_ h1_ h2_ => by have := UPR21.out; rw [← hloR53] at this; omega : ∀ k_, loR53 ≤ k_ ∧ k_ < hiR53 → ¬ (loR21 ≤ k_ ∧ k_ < hiR21))
 have n42_ := Aside0.mk (fun k_ h1_ h2_ => by have := UPR26.out; rw [← hloR53] at this; omega : ∀ k_, loR26 ≤ k_ ∧ k_ < hiR26 → ¬ (loR53 ≤ k_ ∧ k_ < hiR53))
 have n43_ := Aside0.mk (fun k_ h1_ h2_ => by have := UPR26.out; rw [← hloR53] at this; omega : ∀ k_, loR53 ≤ k_ ∧ k_ < hiR53 → ¬ (loR26 ≤ k_ ∧ k_ < hiR26))
 have n44_ := Aside0.mk (fun k_ h1_ h2_ => by have := UPR30.out; rw [← hloR53] at this; omega : ∀ k_, loR30 ≤ k_ ∧ k_ < hiR30 → ¬ (loR53 ≤ k_ ∧ k_ < hiR53))
 have n45_ := Aside0.mk (fun k_ h1_ h2_ => by have := UPR30.out; rw [← hloR53] at this; omega : ∀ k_, loR53 ≤ k_ ∧ k_ < hiR53 → ¬ (loR30 ≤ k_ ∧ k_ < hiR30))
 have n46_ := Aside0.mk (fun k_ h1_ h2_ => by have := UPR34.out; rw [← hloR53] at this; omega : ∀ k_, loR34 ≤ k_ ∧ k_ < hiR34 → ¬ (loR53 ≤ k_ ∧ k_ < hiR53))
 have n47_ := Aside0.mk (fun k_ h1_ h2_ => by have := UPR34.out; rw [← hloR53] at this; omega : ∀ k_, loR53 ≤ k_ ∧ k_ < hiR53 → ¬ (loR34 ≤ k_ ∧ k_ < hiR34))
 have n48_ := Aside0.mk (fun k_ h1_ h2_ => by have := UPR46.out; rw [← hloR53] at this; omega : ∀ k_, loR46 ≤ k_ ∧ k_ < hiR46 → ¬ (loR53 ≤ k_ ∧ k_ < hiR53))
 have n49_ := Aside0.mk (fun k_ h1_ h2_ => by have := UPR46.out; rw [← hloR53] at this; omega : ∀ k_, loR53 ≤ k_ ∧ k_ < hiR53 → ¬ (loR46 ≤ k_ ∧ k_ < hiR46))
 have n50_ := Aside0.mk (fun k_ h1_ h2_ => by have := UPR49.out; rw [← hloR53] at this; omega : ∀ k_, loR49 ≤ k_ ∧ k_ < hiR49 → ¬ (loR53 ≤ k_ ∧ k_ < hiR53))
 have n51_ := Aside0.mk (fun k_ h1_ h2_ => by have := UPR49.out; rw [← hloR53] at this; omega : ∀ k_, loR53 ≤ k_ ∧ k_ < hiR53 → ¬ (loR49 ≤ k_ ∧ k_ < hiR49))
 have n52_ := Aside0.mk (fun k_ hk_ => by have := GUgb1.out; rw [← hloR53] at this; omega : ∀ k_, loR53 ≤ k_ ∧ k_ < hiR53 → k_ ≠ gb1)
 have n53_ := Aside0.mk (fun k_ hk_ => by have := GUgb2.out; rw [← hloR53] at this; omega : ∀ k_, loR53 ≤ k_ ∧ k_ < hiR53 → k_ ≠ gb2)
 have n54_ := Aside0.mk (fun k_ hk_ => by have := GUgb18.out; rw [← hloR53] at this; omega : ∀ k_, loR53 ≤ k_ ∧ k_ < hiR53 → k_ ≠ gb18)
 have n55_ := Aside0.mk (fun k_ hk_ => by have := GUgb22.out; rw [← hloR53] at this; omega : ∀ k_, loR53 ≤ k_ ∧ k_ < hiR53 → k_ ≠ gb22)
 clear HOR7
 clear HOR10
 clear HOR14
 clear HOR17
 clear HOR21
 clear HOR26
 clear HOR30
 clear HOR34
 clear HOR46
 clear HOR49
 clear UPR7
 clear UPR10
 clear UPR14
 clear UPR17
 clear UPR21
 clear UPR26
 clear UPR30
 clear UPR34
 clear UPR46
 clear UPR49
 clear BKgb1
 clear BKgb2
 clear BKgb18
 clear BKgb22
 clear GUgb1
 clear GUgb2
 clear GUgb18
 clear GUgb22
 clear HB
 clear HBM
 have HOR7 := n0_
 have HOR10 := n1_
 have HOR14 := n2_
 have HOR17 := n3_
 have HOR21 := n4_
 have HOR26 := n5_
 have HOR30 := n6_
 have HOR34 := n7_
 have HOR46 := n8_
 have HOR49 := n9_
 have UPR7 := n10_
 have UPR10 := n11_
 have UPR14 := n12_
 have UPR17 := n13_
 have UPR21 := n14_
 have UPR26 := n15_
 have UPR30 := n16_
 have UPR34 := n17_
 have UPR46 := n18_
 have UPR49 := n19_
 have BKgb1 := n20_
 have BKgb2 := n21_
 have BKgb18 := n22_
 have BKgb22 := n23_
 have GUgb1 := n24_
 have GUgb2 := n25_
 have GUgb18 := n26_
 have GUgb22 := n27_
 have HB := n28_
 have HBM := n29_
 have HOR53 := n30_
 have UPR53 := n31_
 have NRR7_R53 := n32_
 have NRR53_R7 := n33_
 have NRR10_R53 := n34_
 have NRR53_R10 := n35_
 have NRR14_R53 := n36_
 have NRR53_R14 := n37_
 have NRR17_R53 := n38_
 have NRR53_R17 := n39_
 have NRR21_R53 := n40_
 have NRR53_R21 := n41_
 have NRR26_R53 := n42_
 have NRR53_R26 := n43_
 have NRR30_R53 := n44_
 have NRR53_R30 := n45_
 have NRR34_R53 := n46_
 have NRR53_R34 := n47_
 have NRR46_R53 := n48_
 have NRR53_R46 := n49_
 have NRR49_R53 := n50_
 have NRR53_R49 := n51_
 have NER53_gb1 := n52_
 have NER53_gb2 := n53_
 have NER53_gb18 := n54_
 have NER53_gb22 := n55_
 clear n0_ n1_ n2_ n3_ n4_ n5_ n6_ n7_ n8_ n9_ n10_ n11_ n12_ n13_ n14_ n15_ n16_ n17_ n18_ n19_ n20_ n21_ n22_ n23_ n24_ n25_ n26_ n27_ n28_ n29_ n30_ n31_ n32_ n33_ n34_ n35_ n36_ n37_ n38_ n39_ n40_ n41_ n42_ n43_ n44_ n45_ n46_ n47_ n48_ n49_ n50_ n51_ n52_ n53_ n54_ n55_
 clear hb
 clear hoR53 hloR53 hhiR53
 obtain ⟨AR53, cR53, eqR53⟩ := Kd.R_slice HOR53.out
 subst eqR53
 refine hK.out _ _ ⟨(blk_cell BKgb1.out 0).trans rfl, (blk_cell BKgb1.out 1).trans rfl, (blk_cell BKgb2.out 0).trans rfl, (blk_cell BKgb2.out 1).trans rfl⟩ (fun hHeld => ?_)
 clear hK K
 refine norm_ (a' := ?_) ?_ ?_
 rotate_left
 ·show Act.put _ (some 114) _ = _
  simp only [Act.put, List.setIfInBounds_toArray, List.set_cons_zero, List.set_cons_succ, i64_w, i32_w]
  rfl
 refine pure_ (i := 5) (N := some 109) (v := ?_) (a' := ?_) #[true, true, true, true, true, true, false, false, false, false, false, false] rfl rfl (by kernel_rfl) (fun _ _ _ h => h) (Or.inl ⟨by rfl, ?_⟩) ?_ ?_
 rotate_left
 ·intro w'
  go_simp
  with_reducible rfl
 rotate_left
 ·simp only [Act.put, List.setIfInBounds_toArray, List.set_cons_zero, List.set_cons_succ, i64_w, i32_w]
  rfl
 refine pure_ (i := 6) (N := some 115) (v := ?_) (a' := ?_) #[true, true, true, true, true, true, true, false, false, false, false, false] rfl rfl (by kernel_rfl) (fun _ _ _ h => h) (Or.inl ⟨by rfl, ?_⟩) ?_ ?_
 rotate_left
 ·intro w'
  go_simp
  with_reducible rfl
 rotate_left
 ·simp only [Act.put, List.setIfInBounds_toArray, List.set_cons_zero, List.set_cons_succ, i64_w, i32_w]
  rfl
 refine pure_ (i := 7) (N := some 116) (v := ?_) (a' := ?_) #[true, true, true, true, true, true, true, true, false, false, false, false] rfl rfl (by kernel_rfl) (fun _ _ _ h => h) (Or.inl ⟨by rfl, ?_⟩) ?_ ?_
 rotate_left
 ·intro w'
  go_simp
  with_reducible rfl
 rotate_left
 ·simp only [Act.put, List.setIfInBounds_toArray, List.set_cons_zero, List.set_cons_succ, i64_w, i32_w]
  rfl
 refine pure_ (i := 8) (N := some 117) (v := ?_) (a' := ?_) #[true, true, true, true, true, true, true, true, true, false, false, false] rfl rfl (by kernel_rfl) (fun _ _ _ h => h) (Or.inl ⟨by rfl, ?_⟩) ?_ ?_
 rotate_left
 ·intro w'
  go_simp
  with_reducible rfl
 rotate_left
 ·simp only [Act.put, List.setIfInBounds_toArray, List.set_cons_zero, List.set_cons_succ, i64_w, i32_w]
  rfl
 refine pure_ (i := 9) (N := some 17) (v := ?_) (a' := ?_) #[true, true, true, true, true, true, true, true, true, true, false, false] rfl rfl (by kernel_rfl) (fun _ _ _ h => h) (Or.inl ⟨by rfl, ?_⟩) ?_ ?_
 rotate_left
 ·intro w'
  go_simp
  with_reducible rfl
 rotate_left
 ·simp only [Act.put, List.setIfInBounds_toArray, List.set_cons_zero, List.set_cons_succ, i64_w, i32_w]
  rfl
 refine pure_ (i := 10) (N := some 18) (v := ?_) (a' := ?_) #[true, true, true, true, true, true, true, true, true, true, true, false] rfl rfl (by kernel_rfl) (fun _ _ _ h => h) (Or.inl ⟨by rfl, ?_⟩) ?_ ?_
 rotate_left
 ·intro w'
  go_simp
  with_reducible rfl
 rotate_left
 ·simp only [Act.put, List.setIfInBounds_toArray, List.set_cons_zero, List.set_cons_succ, i64_w, i32_w]
  rfl
 refine pure_ (i := 11) (N := some 19) (v := ?_) (a' := ?_) #[true, true, true, true, true, true, true, true, true, true, true, true] rfl rfl (by kernel_rfl) (fun _ _ _ h => h) (Or.inl ⟨by rfl, ?_⟩) ?_ ?_
 rotate_left
 ·intro w'
  go_simp
  with_reducible rfl
 rotate_left
 ·simp only [Act.put, List.setIfInBounds_toArray, List.set_cons_zero, List.set_cons_succ, i64_w, i32_w]
  rfl
 refine done_ (by kernel_rfl) ?_
 (try clear hczgb1_0)
 (try clear hfzgb1_0)
 (try clear hczgb1_1)
 (try clear hfzgb1_1)
 (try clear hczgb2_0)
 (try clear hfzgb2_0)
 (try clear hczgb2_1)
 (try clear hfzgb2_1)
 (try clear hczgb18_0)
 (try clear hfzgb18_0)
 (try clear hczgb18_1)
 (try clear hfzgb18_1)
 (try clear hczgb22_0)
 (try clear hfzgb22_0)
 (try clear hczgb22_1)
 (try clear hfzgb22_1)
 have hczgb1_0 : w_31.cell? ⟨gb1, 0, none⟩ = some (.int .i64 a0_0) := (blk_cell BKgb1.out 0).trans rfl
 have hfzgb1_0 := blk_frozen BKgb1.out 0
 have hczgb1_1 : w_31.cell? ⟨gb1, 1, none⟩ = some (.slice A0_1 l0_1.length c0_1) := (blk_cell BKgb1.out 1).trans rfl
 have hfzgb1_1 := blk_frozen BKgb1.out 1
 have hczgb2_0 : w_31.cell? ⟨gb2, 0, none⟩ = some (.int .i64 a1_0) := (blk_cell BKgb2.out 0).trans rfl
 have hfzgb2_0 := blk_frozen BKgb2.out 0
 have hczgb2_1 : w_31.cell? ⟨gb2, 1, none⟩ = some (.slice A1_1 l1_1.length c1_1) := (blk_cell BKgb2.out 1).trans rfl
 have hfzgb2_1 := blk_frozen BKgb2.out 1
 have hczgb18_0 : w_31.cell? ⟨gb18, 0, none⟩ = some (.int .i64 t15) := (blk_cell BKgb18.out 0).trans rfl
 have hfzgb18_0 := blk_frozen BKgb18.out 0
 have hczgb18_1 : w_31.cell? ⟨gb18, 1, none⟩ = some (.slice AR17 t16.length cR17) := (blk_cell BKgb18.out 1).trans rfl
 have hfzgb18_1 := blk_frozen BKgb18.out 1
 have hczgb22_0 : w_31.cell? ⟨gb22, 0, none⟩ = some (.int .i64 t19) := (blk_cell BKgb22.out 0).trans rfl
 have hfzgb22_0 := blk_frozen BKgb22.out 0
 have hczgb22_1 : w_31.cell? ⟨gb22, 1, none⟩ = some (.slice AR21 t20.length cR21) := (blk_cell BKgb22.out 1).trans rfl
 have hfzgb22_1 := blk_frozen BKgb22.out 1
 go_wp2_with (first | ((with_reducible refine gate_callee (f := 14) rfl ?_); refine goesL_ (some 120) rfl rfl Try.func14 (by kernel_rfl) rfl #[.slice AR53 t50.length cR53, .slice AR14 t11.length cR14] rfl (by (try simp only [List.map_toArray, List.map_cons, List.map_nil]); first | done | rfl) ?_; (with_reducible refine (laws_eqInt64S.calls k _ _ t50 _ _ t11 true _ ?side1 ?side2 ?side3 ?side4 E33.out).mono ?_); (case side1 => exact (Kd.R_reads' HOR53.out).2.2); (case side2 => exact (Kd.R_reads' HOR53.out).2.1); (case side3 => exact (Kd.R_reads' HOR14.out).2.2); (case side4 => exact (Kd.R_reads' HOR14.out).2.1); rintro e w_32 ⟨rfl, hd⟩; have hb := Drawn0.below hd; refine ⟨_, rfl, ?_⟩; have n0_ := Aside0.mk (Kd.R_below HOR7.out hb); have n1_ := Aside0.mk (Kd.R_below HOR10.out hb); have n2_ := Aside0.mk (Kd.R_below HOR14.out hb); have n3_ := Aside0.mk (Kd.R_below HOR17.out hb); have n4_ := Aside0.mk (Kd.R_below HOR21.out hb); have n5_ := Aside0.mk (Kd.R_below HOR26.out hb); have n6_ := Aside0.mk (Kd.R_below HOR30.out hb); have n7_ := Aside0.mk (Kd.R_below HOR34.out hb); have n8_ := Aside0.mk (Kd.R_below HOR46.out hb); have n9_ := Aside0.mk (Kd.R_below HOR49.out hb); have n10_ := Aside0.mk (Kd.R_below HOR53.out hb); have n11_ := Aside0.mk (Nat.le_trans UPR7.out hb.size); have n12_ := Aside0.mk (Nat.le_trans UPR10.out hb.size); have n13_ := Aside0.mk (Nat.le_trans UPR14.out hb.size); have n14_ := Aside0.mk (Nat.le_trans UPR17.out hb.size); have n15_ := Aside0.mk (Nat.le_trans UPR21.out hb.size); have n16_ := Aside0.mk (Nat.le_trans UPR26.out hb.size); have n17_ := Aside0.mk (Nat.le_trans UPR30.out hb.size); have n18_ := Aside0.mk (Nat.le_trans UPR34.out hb.size); have n19_ := Aside0.mk (Nat.le_trans UPR46.out hb.size); have n20_ := Aside0.mk (Nat.le_trans UPR49.out hb.size); have n21_ := Aside0.mk (Nat.le_trans UPR53.out hb.size); have n22_ := Aside0.mk (blk_below (g := gb1) BKgb1.out hb); have n23_ := Aside0.mk (blk_below (g := gb2) BKgb2.out hb); have n24_ := Aside0.mk (blk_below (g := gb18) BKgb18.out hb); have n25_ := Aside0.mk (blk_below (g := gb22) BKgb22.out hb); have n26_ := Aside0.mk (Nat.lt_of_lt_of_le GUgb1.out hb.size); have n27_ := Aside0.mk (Nat.lt_of_lt_of_le GUgb2.out hb.size); have n28_ := Aside0.mk (Nat.lt_of_lt_of_le GUgb18.out hb.size); have n29_ := Aside0.mk (Nat.lt_of_lt_of_le GUgb22.out hb.size); have n30_ := Aside0.mk (below_step HB.out hb); have n31_ := Aside0.mk (below_step HBM.out hb); clear HOR7; clear HOR10; clear HOR14; clear HOR17; clear HOR21; clear HOR26; clear HOR30; clear HOR34; clear HOR46; clear HOR49; clear HOR53; clear UPR7; clear UPR10; clear UPR14; clear UPR17; clear UPR21; clear UPR26; clear UPR30; clear UPR34; clear UPR46; clear UPR49; clear UPR53; clear BKgb1; clear BKgb2; clear BKgb18; clear BKgb22; clear GUgb1; clear GUgb2; clear GUgb18; clear GUgb22; clear HB; clear HBM; have HOR7 := n0_; have HOR10 := n1_; have HOR14 := n2_; have HOR17 := n3_; have HOR21 := n4_; have HOR26 := n5_; have HOR30 := n6_; have HOR34 := n7_; have HOR46 := n8_; have HOR49 := n9_; have HOR53 := n10_; have UPR7 := n11_; have UPR10 := n12_; have UPR14 := n13_; have UPR17 := n14_; have UPR21 := n15_; have UPR26 := n16_; have UPR30 := n17_; have UPR34 := n18_; have UPR46 := n19_; have UPR49 := n20_; have UPR53 := n21_; have BKgb1 := n22_; have BKgb2 := n23_; have BKgb18 := n24_; have BKgb22 := n25_; have GUgb1 := n26_; have GUgb2 := n27_; have GUgb18 := n28_; have GUgb22 := n29_; have HB := n30_; have HBM := n31_; clear n0_ n1_ n2_ n3_ n4_ n5_ n6_ n7_ n8_ n9_ n10_ n11_ n12_ n13_ n14_ n15_ n16_ n17_ n18_ n19_ n20_ n21_ n22_ n23_ n24_ n25_ n26_ n27_ n28_ n29_ n30_ n31_; clear hb; clear hd; (try clear hczgb1_0); (try clear hfzgb1_0); (try clear hczgb1_1); (try clear hfzgb1_1); (try clear hczgb2_0); (try clear hfzgb2_0); (try clear hczgb2_1); (try clear hfzgb2_1); (try clear hczgb18_0); (try clear hfzgb18_0); (try clear hczgb18_1); (try clear hfzgb18_1); (try clear hczgb22_0); (try clear hfzgb22_0); (try clear hczgb22_1); (try clear hfzgb22_1); have hczgb1_0 : w_32.cell? ⟨gb1, 0, none⟩ = some (.int .i64 a0_0) := (blk_cell BKgb1.out 0).trans rfl; have hfzgb1_0 := blk_frozen BKgb1.out 0; have hczgb1_1 : w_32.cell? ⟨gb1, 1, none⟩ = some (.slice A0_1 l0_1.length c0_1) := (blk_cell BKgb1.out 1).trans rfl; have hfzgb1_1 := blk_frozen BKgb1.out 1; have hczgb2_0 : w_32.cell? ⟨gb2, 0, none⟩ = some (.int .i64 a1_0) := (blk_cell BKgb2.out 0).trans rfl; have hfzgb2_0 := blk_frozen BKgb2.out 0; have hczgb2_1 : w_32.cell? ⟨gb2, 1, none⟩ = some (.slice A1_1 l1_1.length c1_1) := (blk_cell BKgb2.out 1).trans rfl; have hfzgb2_1 := blk_frozen BKgb2.out 1; have hczgb18_0 : w_32.cell? ⟨gb18, 0, none⟩ = some (.int .i64 t15) := (blk_cell BKgb18.out 0).trans rfl; have hfzgb18_0 := blk_frozen BKgb18.out 0; have hczgb18_1 : w_32.cell? ⟨gb18, 1, none⟩ = some (.slice AR17 t16.length cR17) := (blk_cell BKgb18.out 1).trans rfl; have hfzgb18_1 := blk_frozen BKgb18.out 1; have hczgb22_0 : w_32.cell? ⟨gb22, 0, none⟩ = some (.int .i64 t19) := (blk_cell BKgb22.out 0).trans rfl; have hfzgb22_0 := blk_frozen BKgb22.out 0; have hczgb22_1 : w_32.cell? ⟨gb22, 1, none⟩ = some (.slice AR21 t20.length cR21) := (blk_cell BKgb22.out 1).trans rfl; have hfzgb22_1 := blk_frozen BKgb22.out 1) | ((with_reducible refine gate_callee (f := 20) rfl ?_); refine goesL_ (some 134) rfl rfl Try.func20 (by kernel_rfl) rfl #[.slice AR26 t42.length cR26, .int .i64 1] rfl (by (try simp only [List.map_toArray, List.map_cons, List.map_nil]); first | done | rfl | (simp only [show t42.length = t23.length from (Kd.R_reads' HOR26.out).1.symm]; rfl)) ?_; (with_reducible refine (laws_heldInt64S.calls k _ _ t42 1 t55 _ ?side1 ?side2 E37.out).mono ?_); (case side1 => exact (Kd.R_reads' HOR26.out).2.2); (case side2 => exact (fun h_ => h_.1 ▸ h_.2.1) (Kd.R_reads' HOR26.out)); rintro e w_33 ⟨rfl, hd⟩; have hb := Drawn0.below hd; refine ⟨_, rfl, ?_⟩; have n0_ := Aside0.mk (Kd.R_below HOR7.out hb); have n1_ := Aside0.mk (Kd.R_below HOR10.out hb); have n2_ := Aside0.mk (Kd.R_below HOR14.out hb); have n3_ := Aside0.mk (Kd.R_below HOR17.out hb); have n4_ := Aside0.mk (Kd.R_below HOR21.out hb); have n5_ := Aside0.mk (Kd.R_below HOR26.out hb); have n6_ := Aside0.mk (Kd.R_below HOR30.out hb); have n7_ := Aside0.mk (Kd.R_below HOR34.out hb); have n8_ := Aside0.mk (Kd.R_below HOR46.out hb); have n9_ := Aside0.mk (Kd.R_below HOR49.out hb); have n10_ := Aside0.mk (Kd.R_below HOR53.out hb); have n11_ := Aside0.mk (Nat.le_trans UPR7.out hb.size); have n12_ := Aside0.mk (Nat.le_trans UPR10.out hb.size); have n13_ := Aside0.mk (Nat.le_trans UPR14.out hb.size); have n14_ := Aside0.mk (Nat.le_trans UPR17.out hb.size); have n15_ := Aside0.mk (Nat.le_trans UPR21.out hb.size); have n16_ := Aside0.mk (Nat.le_trans UPR26.out hb.size); have n17_ := Aside0.mk (Nat.le_trans UPR30.out hb.size); have n18_ := Aside0.mk (Nat.le_trans UPR34.out hb.size); have n19_ := Aside0.mk (Nat.le_trans UPR46.out hb.size); have n20_ := Aside0.mk (Nat.le_trans UPR49.out hb.size); have n21_ := Aside0.mk (Nat.le_trans UPR53.out hb.size); have n22_ := Aside0.mk (blk_below (g := gb1) BKgb1.out hb); have n23_ := Aside0.mk (blk_below (g := gb2) BKgb2.out hb); have n24_ := Aside0.mk (blk_below (g := gb18) BKgb18.out hb); have n25_ := Aside0.mk (blk_below (g := gb22) BKgb22.out hb); have n26_ := Aside0.mk (Nat.lt_of_lt_of_le GUgb1.out hb.size); have n27_ := Aside0.mk (Nat.lt_of_lt_of_le GUgb2.out hb.size); have n28_ := Aside0.mk (Nat.lt_of_lt_of_le GUgb18.out hb.size); have n29_ := Aside0.mk (Nat.lt_of_lt_of_le GUgb22.out hb.size); have n30_ := Aside0.mk (below_step HB.out hb); have n31_ := Aside0.mk (below_step HBM.out hb); clear HOR7; clear HOR10; clear HOR14; clear HOR17; clear HOR21; clear HOR26; clear HOR30; clear HOR34; clear HOR46; clear HOR49; clear HOR53; clear UPR7; clear UPR10; clear UPR14; clear UPR17; clear UPR21; clear UPR26; clear UPR30; clear UPR34; clear UPR46; clear UPR49; clear UPR53; clear BKgb1; clear BKgb2; clear BKgb18; clear BKgb22; clear GUgb1; clear GUgb2; clear GUgb18; clear GUgb22; clear HB; clear HBM; have HOR7 := n0_; have HOR10 := n1_; have HOR14 := n2_; have HOR17 := n3_; have HOR21 := n4_; have HOR26 := n5_; have HOR30 := n6_; have HOR34 := n7_; have HOR46 := n8_; have HOR49 := n9_; have HOR53 := n10_; have UPR7 := n11_; have UPR10 := n12_; have UPR14 := n13_; have UPR17 := n14_; have UPR21 := n15_; have UPR26 := n16_; have UPR30 := n17_; have UPR34 := n18_; have UPR46 := n19_; have UPR49 := n20_; have UPR53 := n21_; have BKgb1 := n22_; have BKgb2 := n23_; have BKgb18 := n24_; have BKgb22 := n25_; have GUgb1 := n26_; have GUgb2 := n27_; have GUgb18 := n28_; have GUgb22 := n29_; have HB := n30_; have HBM := n31_; clear n0_ n1_ n2_ n3_ n4_ n5_ n6_ n7_ n8_ n9_ n10_ n11_ n12_ n13_ n14_ n15_ n16_ n17_ n18_ n19_ n20_ n21_ n22_ n23_ n24_ n25_ n26_ n27_ n28_ n29_ n30_ n31_; clear hb; clear hd; (try clear hczgb1_0); (try clear hfzgb1_0); (try clear hczgb1_1); (try clear hfzgb1_1); (try clear hczgb2_0); (try clear hfzgb2_0); (try clear hczgb2_1); (try clear hfzgb2_1); (try clear hczgb18_0); (try clear hfzgb18_0); (try clear hczgb18_1); (try clear hfzgb18_1); (try clear hczgb22_0); (try clear hfzgb22_0); (try clear hczgb22_1); (try clear hfzgb22_1); have hczgb1_0 : w_33.cell? ⟨gb1, 0, none⟩ = some (.int .i64 a0_0) := (blk_cell BKgb1.out 0).trans rfl; have hfzgb1_0 := blk_frozen BKgb1.out 0; have hczgb1_1 : w_33.cell? ⟨gb1, 1, none⟩ = some (.slice A0_1 l0_1.length c0_1) := (blk_cell BKgb1.out 1).trans rfl; have hfzgb1_1 := blk_frozen BKgb1.out 1; have hczgb2_0 : w_33.cell? ⟨gb2, 0, none⟩ = some (.int .i64 a1_0) := (blk_cell BKgb2.out 0).trans rfl; have hfzgb2_0 := blk_frozen BKgb2.out 0; have hczgb2_1 : w_33.cell? ⟨gb2, 1, none⟩ = some (.slice A1_1 l1_1.length c1_1) := (blk_cell BKgb2.out 1).trans rfl; have hfzgb2_1 := blk_frozen BKgb2.out 1; have hczgb18_0 : w_33.cell? ⟨gb18, 0, none⟩ = some (.int .i64 t15) := (blk_cell BKgb18.out 0).trans rfl; have hfzgb18_0 := blk_frozen BKgb18.out 0; have hczgb18_1 : w_33.cell? ⟨gb18, 1, none⟩ = some (.slice AR17 t16.length cR17) := (blk_cell BKgb18.out 1).trans rfl; have hfzgb18_1 := blk_frozen BKgb18.out 1; have hczgb22_0 : w_33.cell? ⟨gb22, 0, none⟩ = some (.int .i64 t19) := (blk_cell BKgb22.out 0).trans rfl; have hfzgb22_0 := blk_frozen BKgb22.out 0; have hczgb22_1 : w_33.cell? ⟨gb22, 1, none⟩ = some (.slice AR21 t20.length cR21) := (blk_cell BKgb22.out 1).trans rfl; have hfzgb22_1 := blk_frozen BKgb22.out 1))
 go_ret
 exact ⟨by first | rfl | (simp; done) | (simp [*]; done), HB.out⟩
theorem laws_FnExactSystemRounding.walk (P : laws_FnExactSystemRounding.Pure) (a0_0 : Int) (A0_1 : Option Addr) (c0_1 : Nat) (l0_1 : List Int) (a1_0 : Int) (A1_1 : Option Addr) (c1_1 : Nat) (l1_1 : List Int) (w : World) (hr0_1 : Kd.C (Kd.int .i64) w A0_1 l0_1.length l0_1) (hc0_1 : l0_1.length ≤ c0_1) (hr1_1 : Kd.C (Kd.int .i64) w A1_1 l1_1.length l1_1) (hc1_1 : l1_1.length ≤ c1_1) (w0_0 : (Lit.int .i64 a0_0).wf = true) (w0_1 : (l0_1.length ≤ maxLen ∧ ∀ y ∈ l0_1, (Lit.int .i64 y).wf = true)) (w1_0 : (Lit.int .i64 a1_0).wf = true) (w1_1 : (l1_1.length ≤ maxLen ∧ ∀ y ∈ l1_1, (Lit.int .i64 y).wf = true)) :
  Calls Try.prog 3 #[.agg #[.int .i64 a0_0, .slice A0_1 l0_1.length c0_1], .agg #[.int .i64 a1_0, .slice A1_1 l1_1.length c1_1]] w fun e w' => e = .returned (.bool true) ∧ Below w.heap.size w w' := by
 obtain ⟨k, h⟩ := P a0_0 l0_1 a1_0 l1_1 w0_0 w0_1 w1_0 w1_1
 exact laws_FnExactSystemRounding.calls k a0_0 A0_1 c0_1 l0_1 a1_0 A1_1 c1_1 l1_1 w hr0_1 hc0_1 hr1_1 hc1_1 h
end Go.Proofs.Ytdlnhddpgopghaa.Q
