/- The statement FnExactIsPath, with all that its proof stands on: functions of the program as plain functions, the program's walks, and the plain law. Conditions: none beyond the statement's own. -/
import Derived.ArgAppend
import Derived.Below
import Derived.BigQuiet
import Derived.Deep.AppendLies
import Derived.Deep.CutBlock
import Derived.Deep.DeepCutAuto
import Derived.Deep.Draws
import Derived.Deep.LoopGhost
import Derived.Deep.OwnRows
import Derived.Deep.QuietTactic
import Derived.Deep.RegionHeld3
import Derived.KernelRfl
import Derived.Laws.BitsLemmas
import Derived.Laws.BytesArg
import Derived.Laws.IdiomCopy
import Derived.Laws.MakeOwn
import Derived.Laws.OwnMore
import Derived.Laws.Rows
import Derived.Laws.Slices
import Derived.Lib.AppendStr
import Derived.Lib.ConvBytes
import Derived.Maps.AppendAt
import Derived.OrdersHeld
import Derived.OwnWalk
import Derived.RowKit
import Derived.RowKit3
import Derived.Tactics
import Derived.Test.YtgndemjphjhahaaProg
import Derived.WalkKit
import Derived.WideLaws
import Derived.Test.YtgndemjphjhahaaBFnExactIsPath0
import Derived.Test.YtgndemjphjhahaaBFnExactIsPath1
import Derived.Test.YtgndemjphjhahaaBFnExactIsPath2
import Derived.Test.YtgndemjphjhahaaBFnExactIsPath3
import Derived.Test.YtgndemjphjhahaaBFnExactIsPath4
import Derived.Test.YtgndemjphjhahaaBFnExactIsPath5
import Derived.Test.YtgndemjphjhahaaBFnExactIsPath6
import Derived.Test.YtgndemjphjhahaaBFnExactIsPath7
set_option linter.unusedVariables false
set_option linter.unusedSimpArgs false
namespace Go.Proofs.Ytgndemjphjhahaa.Q
open Go.RowKit Go.Proofs.YtgndemjphjhahaaW.PrintWords Go.Proofs.YtgndemjphjhahaaW.PrintLast Go.Proofs.YtgndemjphjhahaaW.PrintMore
attribute [local go_sem] max2_int min2_int max_two min_two max_three min_three max_four min_four   -- for this text's walks alone
set_option linter.unusedVariables false
set_option linter.unusedSimpArgs false
def laws_FnExactIsPath.f (k : Nat) (l0_0 : List (List Int)) (l1 : List (List Int)) : Option (Bool) := (laws_szPicture.f k l0_0 1048576).bind fun t481 => (if t481 < 0 then (some true) else ((laws_szInt64SS.f k l1 t481).bind fun t482 => (if t482 < 0 then (some true) else ((laws_toPicture.f k l0_0).bind fun t483 => ((laws_toInt64SS.f k l1).bind fun t486 => ((spec_IsPath.f k t483 t486).bind fun t489 => ((laws_toPicture.f k l0_0).bind fun t490 => ((laws_toInt64SS.f k l1).bind fun t494 => ((impl_IsPath.f k t490 t494).bind fun t497 => (if (t497 != t489) = true then (some false) else ((laws_toPicture.f k l0_0).bind fun t498 => ((laws_eqPicture.f k t490 t498).bind fun t501 => (if t501 = true then ((laws_toInt64SS.f k l1).bind fun t502 => ((laws_eqInt64SS.f k t494 t502).bind fun t505 => (if t505 = true then (some true) else (some false)))) else (some false))))))))))))))
theorem laws_FnExactIsPath.mono : ∀ a0 a1 k, LeO (laws_FnExactIsPath.f k a0 a1) (laws_FnExactIsPath.f (k + 1) a0 a1) := by
 intro a0 a1 k
 unfold laws_FnExactIsPath.f
 repeat' first
   | (with_reducible exact impl_IsPath.mono _ _ _)
   | (with_reducible exact laws_eqInt64SS.mono _ _ _)
   | (with_reducible exact laws_eqPicture.mono _ _ _)
   | (with_reducible exact laws_szInt64SS.mono _ _ _)
   | (with_reducible exact laws_szPicture.mono _ _ _)
   | (with_reducible exact laws_toInt64SS.mono _ _)
   | (with_reducible exact laws_toPicture.mono _ _)
   | (with_reducible exact spec_IsPath.mono _ _ _)
   | (with_reducible exact LeO.refl _)
   | (with_reducible exact LeO.none _)
   | (with_reducible refine LeO.ite ?_ ?_)
   | (with_reducible refine LeO.bind ?_ (fun _ => ?_))
   | exact impl_IsPath.mono _ _ _
   | exact laws_eqInt64SS.mono _ _ _
   | exact laws_eqPicture.mono _ _ _
   | exact laws_szInt64SS.mono _ _ _
   | exact laws_szPicture.mono _ _ _
   | exact laws_toInt64SS.mono _ _
   | exact laws_toPicture.mono _ _
   | exact spec_IsPath.mono _ _ _
   | exact LeO.none _
   | refine LeO.ite ?_ ?_
   | refine LeO.bind ?_ (fun _ => ?_)
set_option maxHeartbeats 8000000 in
set_option maxRecDepth 100000 in
theorem laws_FnExactIsPath.calls (k : Nat) (A0_0 : Option Addr) (c0_0 : Nat) (l0_0 : List (List Int)) (A1 : Option Addr) (c1 : Nat) (l1 : List (List Int)) (r : Bool) (w : World) (hr0_0 : Kd.C (Kd.slice 2 (Kd.int .i64)) w A0_0 l0_0.length l0_0) (hc0_0 : l0_0.length ≤ c0_0) (hr1 : Kd.C (Kd.slice 2 (Kd.int .i64)) w A1 l1.length l1) (hc1 : l1.length ≤ c1) (h : laws_FnExactIsPath.f k l0_0 l1 = some r) :
  Calls Try.prog 9 #[.agg #[.slice A0_0 l0_0.length c0_0], .slice A1 l1.length c1] w fun e w' => e = .returned (.bool r) ∧ Below w.heap.size w w' := by
 have hu43 := Try.underlying43
 have hu46 := Try.underlying46
 have HR0_0 := Aside0.mk hr0_0
 have HC0_0 := Aside0.mk hc0_0
 clear hr0_0 hc0_0
 have HR1 := Aside0.mk hr1
 have HC1 := Aside0.mk hc1
 clear hr1 hc1
 have HB := Aside0.mk (Below.refl w.heap.size w)
 have H : ((laws_szPicture.f k l0_0 1048576).bind fun t481 => (if t481 < 0 then (some true) else ((laws_szInt64SS.f k l1 t481).bind fun t482 => (if t482 < 0 then (some true) else ((laws_toPicture.f k l0_0).bind fun t483 => ((laws_toInt64SS.f k l1).bind fun t486 => ((spec_IsPath.f k t483 t486).bind fun t489 => ((laws_toPicture.f k l0_0).bind fun t490 => ((laws_toInt64SS.f k l1).bind fun t494 => ((impl_IsPath.f k t490 t494).bind fun t497 => (if (t497 != t489) = true then (some false) else ((laws_toPicture.f k l0_0).bind fun t498 => ((laws_eqPicture.f k t490 t498).bind fun t501 => (if t501 = true then ((laws_toInt64SS.f k l1).bind fun t502 => ((laws_eqInt64SS.f k t494 t502).bind fun t505 => (if t505 = true then (some true) else (some false)))) else (some false))))))))))))))) = some r := h
 clear h
 replace H := Option.bind_eq_some_iff.mp H
 obtain ⟨t481, A30, H⟩ := H
 replace H : (if t481 < 0 then (some true) else ((laws_szInt64SS.f k l1 t481).bind fun t482 => (if t482 < 0 then (some true) else ((laws_toPicture.f k l0_0).bind fun t483 => ((laws_toInt64SS.f k l1).bind fun t486 => ((spec_IsPath.f k t483 t486).bind fun t489 => ((laws_toPicture.f k l0_0).bind fun t490 => ((laws_toInt64SS.f k l1).bind fun t494 => ((impl_IsPath.f k t490 t494).bind fun t497 => (if (t497 != t489) = true then (some false) else ((laws_toPicture.f k l0_0).bind fun t498 => ((laws_eqPicture.f k t490 t498).bind fun t501 => (if t501 = true then ((laws_toInt64SS.f k l1).bind fun t502 => ((laws_eqInt64SS.f k t494 t502).bind fun t505 => (if t505 = true then (some true) else (some false)))) else (some false)))))))))))))) = some r := H
 have A3 := Aside0.mk A30
 clear A30
 by_cases c4 : t481 < 0
 ·rw [if_pos c4] at H
  have c4b0 : decide (t481 < 0) = true := decide_eq_true c4
  clear c4
  obtain rfl := Option.some.inj H
  go_enter Try.func9, Try.ntmps9
  go_wp2_with (first | ((with_reducible refine gate_dst (N := 2) rfl ?_); refine box_event ?hg (N := 2) ?hd (cs := #[.slice A0_0 l0_0.length c0_0]) (t := 43) ?hr ?_; (case hd => rfl); (case hg => rfl); (case hr => first | (go_simp; done) | (go_simp; rfl)); intro gb480 hg w5 hbox hb; have n0_ := Aside0.mk (below_step (by repeat (first | (with_reducible first | exact HB.out | apply below_alloc | apply pw_below_drewN | apply below_drew1) | exact HB.out)) hb); have n1_ := Aside0.mk (hbox); have n2_ := Aside0.mk ((by rw [hg]; exact (below_size (by repeat (first | (with_reducible first | exact HB.out | apply below_alloc | apply pw_below_drewN | apply below_drew1) | exact HB.out))) : w.heap.size ≤ gb480)); have n3_ := Aside0.mk ((by rw [hg]; exact (below_size (by repeat (first | (with_reducible first | exact HB.out | apply below_alloc | apply pw_below_drewN | apply below_drew1) | exact HB.out))) : w.heap.size ≤ gb480)); clear HB; have HB := n0_; have BK480 := n1_; have GW480 := n2_; have GE480 := n3_; clear n0_ n1_ n2_ n3_; clear hb hbox hg; have hcz6_0 : w5.cell? ⟨gb480, 0, none⟩ = some (.slice A0_0 l0_0.length c0_0) := (blk_cell BK480.out 0).trans rfl; have hfz6_0 := blk_frozen BK480.out 0) | ((with_reducible refine gate_callee (f := 29) rfl ?_); refine goesL_ (some 12) rfl rfl Try.func29 (by kernel_rfl) rfl #[.agg #[.slice A0_0 l0_0.length c0_0], .int .i64 1048576] rfl (by (try simp only [List.map_toArray, List.map_cons, List.map_nil]); first | done | rfl | (simp only [List.length_drop, List.length_take]; rfl) | (simp only [show ∀ (n_ : Nat) (b_ : Int), Int.tdiv (n_ : Int) b_ = (n_ : Int) / b_ from fun n_ b_ => Int.tdiv_eq_ediv_of_nonneg (Int.natCast_nonneg n_)]; rfl)) ?_; (with_reducible refine (laws_szPicture.calls k _ _ l0_0 1048576 t481 _ ?side1 ?side2 A3.out).mono ?_); (case side1 => repeat (first | exact (Kd.C_below HR0_0.out HB.out) | (with_reducible refine Kd.C_alloc ?_ _) | (with_reducible refine Kd.C_drewN ?_ _) | (with_reducible refine Kd.C_drew ?_))); (case side2 => exact HC0_0.out); rintro e w7 ⟨rfl, hb⟩; refine ⟨_, rfl, ?_⟩; have n0_ := Aside0.mk (blk_below (g := gb480) (o := .cells #[.slice A0_0 l0_0.length c0_0] 43 (0, 0)) (by (with_reducible repeat (first | refine blk_drewN ?_ _ | refine blk_drew ?_ | refine blk_alloc ?_ _)); exact BK480.out) hb); have n1_ := Aside0.mk (below_step (by repeat (first | (with_reducible first | exact HB.out | apply below_alloc | apply pw_below_drewN | apply below_drew1 | refine below_set ?_ GE480.out) | exact HB.out)) hb); clear BK480; clear HB; have BK480 := n0_; have HB := n1_; clear n0_ n1_; (try clear hb); (try clear hb2); (try clear hk); (try clear hi)))
  go_ret
  exact ⟨by first | rfl | (simp [errW_none, errW_some] <;> rfl) | (simp [*, errW_none, errW_some] <;> rfl), by repeat (first | (with_reducible first | exact HB.out | apply below_alloc | apply pw_below_drewN | apply below_drew1 | refine below_set ?_ GE480.out) | exact HB.out)⟩
 ·rw [if_neg c4] at H
  have c4b0 : decide (t481 < 0) = false := decide_eq_false c4
  clear c4
  replace H := Option.bind_eq_some_iff.mp H
  obtain ⟨t482, A80, H⟩ := H
  replace H : (if t482 < 0 then (some true) else ((laws_toPicture.f k l0_0).bind fun t483 => ((laws_toInt64SS.f k l1).bind fun t486 => ((spec_IsPath.f k t483 t486).bind fun t489 => ((laws_toPicture.f k l0_0).bind fun t490 => ((laws_toInt64SS.f k l1).bind fun t494 => ((impl_IsPath.f k t490 t494).bind fun t497 => (if (t497 != t489) = true then (some false) else ((laws_toPicture.f k l0_0).bind fun t498 => ((laws_eqPicture.f k t490 t498).bind fun t501 => (if t501 = true then ((laws_toInt64SS.f k l1).bind fun t502 => ((laws_eqInt64SS.f k t494 t502).bind fun t505 => (if t505 = true then (some true) else (some false)))) else (some false)))))))))))) = some r := H
  have A8 := Aside0.mk A80
  clear A80
  by_cases c9 : t482 < 0
  ·rw [if_pos c9] at H
   have c9b0 : decide (t482 < 0) = true := decide_eq_true c9
   clear c9
   obtain rfl := Option.some.inj H
   go_enter Try.func9, Try.ntmps9
   go_wp2_with (first | ((with_reducible refine gate_dst (N := 2) rfl ?_); refine box_event ?hg (N := 2) ?hd (cs := #[.slice A0_0 l0_0.length c0_0]) (t := 43) ?hr ?_; (case hd => rfl); (case hg => rfl); (case hr => first | (go_simp; done) | (go_simp; rfl)); intro gb480 hg w10 hbox hb; have n0_ := Aside0.mk (below_step (by repeat (first | (with_reducible first | exact HB.out | apply below_alloc | apply pw_below_drewN | apply below_drew1) | exact HB.out)) hb); have n1_ := Aside0.mk (hbox); have n2_ := Aside0.mk ((by rw [hg]; exact (below_size (by repeat (first | (with_reducible first | exact HB.out | apply below_alloc | apply pw_below_drewN | apply below_drew1) | exact HB.out))) : w.heap.size ≤ gb480)); have n3_ := Aside0.mk ((by rw [hg]; exact (below_size (by repeat (first | (with_reducible first | exact HB.out | apply below_alloc | apply pw_below_drewN | apply below_drew1) | exact HB.out))) : w.heap.size ≤ gb480)); clear HB; have HB := n0_; have BK480 := n1_; have GW480 := n2_; have GE480 := n3_; clear n0_ n1_ n2_ n3_; clear hb hbox hg; have hcz11_0 : w10.cell? ⟨gb480, 0, none⟩ = some (.slice A0_0 l0_0.length c0_0) := (blk_cell BK480.out 0).trans rfl; have hfz11_0 := blk_frozen BK480.out 0) | ((with_reducible refine gate_callee (f := 29) rfl ?_); refine goesL_ (some 12) rfl rfl Try.func29 (by kernel_rfl) rfl #[.agg #[.slice A0_0 l0_0.length c0_0], .int .i64 1048576] rfl (by (try simp only [List.map_toArray, List.map_cons, List.map_nil]); first | done | rfl | (simp only [List.length_drop, List.length_take]; rfl) | (simp only [show ∀ (n_ : Nat) (b_ : Int), Int.tdiv (n_ : Int) b_ = (n_ : Int) / b_ from fun n_ b_ => Int.tdiv_eq_ediv_of_nonneg (Int.natCast_nonneg n_)]; rfl)) ?_; (with_reducible refine (laws_szPicture.calls k _ _ l0_0 1048576 t481 _ ?side1 ?side2 A3.out).mono ?_); (case side1 => repeat (first | exact (Kd.C_below HR0_0.out HB.out) | (with_reducible refine Kd.C_alloc ?_ _) | (with_reducible refine Kd.C_drewN ?_ _) | (with_reducible refine Kd.C_drew ?_))); (case side2 => exact HC0_0.out); rintro e w12 ⟨rfl, hb⟩; refine ⟨_, rfl, ?_⟩; have n0_ := Aside0.mk (blk_below (g := gb480) (o := .cells #[.slice A0_0 l0_0.length c0_0] 43 (0, 0)) (by (with_reducible repeat (first | refine blk_drewN ?_ _ | refine blk_drew ?_ | refine blk_alloc ?_ _)); exact BK480.out) hb); have n1_ := Aside0.mk (below_step (by repeat (first | (with_reducible first | exact HB.out | apply below_alloc | apply pw_below_drewN | apply below_drew1 | refine below_set ?_ GE480.out) | exact HB.out)) hb); clear BK480; clear HB; have BK480 := n0_; have HB := n1_; clear n0_ n1_; (try clear hb); (try clear hb2); (try clear hk); (try clear hi)) | ((with_reducible refine gate_callee (f := 34) rfl ?_); refine goesL_ (some 17) rfl rfl Try.func34 (by kernel_rfl) rfl #[.slice A1 l1.length c1, .int .i64 t481] rfl (by (try simp only [List.map_toArray, List.map_cons, List.map_nil]); first | done | rfl | (simp only [List.length_drop, List.length_take]; rfl) | (simp only [show ∀ (n_ : Nat) (b_ : Int), Int.tdiv (n_ : Int) b_ = (n_ : Int) / b_ from fun n_ b_ => Int.tdiv_eq_ediv_of_nonneg (Int.natCast_nonneg n_)]; rfl)) ?_; (with_reducible refine (laws_szInt64SS.calls k _ _ l1 t481 t482 _ ?side1 ?side2 A8.out).mono ?_); (case side1 => repeat (first | exact (Kd.C_below HR1.out HB.out) | (with_reducible refine Kd.C_alloc ?_ _) | (with_reducible refine Kd.C_drewN ?_ _) | (with_reducible refine Kd.C_drew ?_))); (case side2 => exact HC1.out); rintro e w' ⟨rfl, ⟨nd, rfl⟩⟩; refine ⟨_, rfl, ?_⟩))
   go_ret
   exact ⟨by first | rfl | (simp [errW_none, errW_some] <;> rfl) | (simp [*, errW_none, errW_some] <;> rfl), by repeat (first | (with_reducible first | exact HB.out | apply below_alloc | apply pw_below_drewN | apply below_drew1 | refine below_set ?_ GE480.out) | exact HB.out)⟩
  ·rw [if_neg c9] at H
   have c9b0 : decide (t482 < 0) = false := decide_eq_false c9
   clear c9
   replace H := Option.bind_eq_some_iff.mp H
   obtain ⟨t483, A130, H⟩ := H
   replace H : ((laws_toInt64SS.f k l1).bind fun t486 => ((spec_IsPath.f k t483 t486).bind fun t489 => ((laws_toPicture.f k l0_0).bind fun t490 => ((laws_toInt64SS.f k l1).bind fun t494 => ((impl_IsPath.f k t490 t494).bind fun t497 => (if (t497 != t489) = true then (some false) else ((laws_toPicture.f k l0_0).bind fun t498 => ((laws_eqPicture.f k t490 t498).bind fun t501 => (if t501 = true then ((laws_toInt64SS.f k l1).bind fun t502 => ((laws_eqInt64SS.f k t494 t502).bind fun t505 => (if t505 = true then (some true) else (some false)))) else (some false)))))))))) = some r := H
   have A13 := Aside0.mk A130
   clear A130
   replace H := Option.bind_eq_some_iff.mp H
   obtain ⟨t486, A140, H⟩ := H
   replace H : ((spec_IsPath.f k t483 t486).bind fun t489 => ((laws_toPicture.f k l0_0).bind fun t490 => ((laws_toInt64SS.f k l1).bind fun t494 => ((impl_IsPath.f k t490 t494).bind fun t497 => (if (t497 != t489) = true then (some false) else ((laws_toPicture.f k l0_0).bind fun t498 => ((laws_eqPicture.f k t490 t498).bind fun t501 => (if t501 = true then ((laws_toInt64SS.f k l1).bind fun t502 => ((laws_eqInt64SS.f k t494 t502).bind fun t505 => (if t505 = true then (some true) else (some false)))) else (some false))))))))) = some r := H
   have A14 := Aside0.mk A140
   clear A140
   replace H := Option.bind_eq_some_iff.mp H
   obtain ⟨t489, A150, H⟩ := H
   replace H : ((laws_toPicture.f k l0_0).bind fun t490 => ((laws_toInt64SS.f k l1).bind fun t494 => ((impl_IsPath.f k t490 t494).bind fun t497 => (if (t497 != t489) = true then (some false) else ((laws_toPicture.f k l0_0).bind fun t498 => ((laws_eqPicture.f k t490 t498).bind fun t501 => (if t501 = true then ((laws_toInt64SS.f k l1).bind fun t502 => ((laws_eqInt64SS.f k t494 t502).bind fun t505 => (if t505 = true then (some true) else (some false)))) else (some false)))))))) = some r := H
   have A15 := Aside0.mk A150
   clear A150
   replace H := Option.bind_eq_some_iff.mp H
   obtain ⟨t490, A160, H⟩ := H
   replace H : ((laws_toInt64SS.f k l1).bind fun t494 => ((impl_IsPath.f k t490 t494).bind fun t497 => (if (t497 != t489) = true then (some false) else ((laws_toPicture.f k l0_0).bind fun t498 => ((laws_eqPicture.f k t490 t498).bind fun t501 => (if t501 = true then ((laws_toInt64SS.f k l1).bind fun t502 => ((laws_eqInt64SS.f k t494 t502).bind fun t505 => (if t505 = true then (some true) else (some false)))) else (some false))))))) = some r := H
   have A16 := Aside0.mk A160
   clear A160
   replace H := Option.bind_eq_some_iff.mp H
   obtain ⟨t494, A170, H⟩ := H
   replace H : ((impl_IsPath.f k t490 t494).bind fun t497 => (if (t497 != t489) = true then (some false) else ((laws_toPicture.f k l0_0).bind fun t498 => ((laws_eqPicture.f k t490 t498).bind fun t501 => (if t501 = true then ((laws_toInt64SS.f k l1).bind fun t502 => ((laws_eqInt64SS.f k t494 t502).bind fun t505 => (if t505 = true then (some true) else (some false)))) else (some false)))))) = some r := H
   have A17 := Aside0.mk A170
   clear A170
   replace H := Option.bind_eq_some_iff.mp H
   obtain ⟨t497, A180, H⟩ := H
   replace H : (if (t497 != t489) = true then (some false) else ((laws_toPicture.f k l0_0).bind fun t498 => ((laws_eqPicture.f k t490 t498).bind fun t501 => (if t501 = true then ((laws_toInt64SS.f k l1).bind fun t502 => ((laws_eqInt64SS.f k t494 t502).bind fun t505 => (if t505 = true then (some true) else (some false)))) else (some false))))) = some r := H
   have A18 := Aside0.mk A180
   clear A180
   by_cases c19 : (t497 != t489) = true
   ·rw [if_pos c19] at H
    have c19b0 : (t497 != t489) = true := c19
    (try (have c19b1 : decide (t497 = t489) = false := by simpa using c19))
    (try (have c19b2 : (t497 == t489) = false := by simpa using c19))
    (try (have c19b3 : ¬ (t497 = t489) := by simpa using c19))
    clear c19
    obtain rfl := Option.some.inj H
    go_enter Try.func9, Try.ntmps9
    go_wp2_with (first | ((with_reducible refine gate_dst (N := 2) rfl ?_); refine box_event ?hg (N := 2) ?hd (cs := #[.slice A0_0 l0_0.length c0_0]) (t := 43) ?hr ?_; (case hd => rfl); (case hg => rfl); (case hr => first | (go_simp; done) | (go_simp; rfl)); intro gb480 hg w20 hbox hb; have n0_ := Aside0.mk (below_step (by repeat (first | (with_reducible first | exact HB.out | apply below_alloc | apply pw_below_drewN | apply below_drew1) | exact HB.out)) hb); have n1_ := Aside0.mk (hbox); have n2_ := Aside0.mk ((by rw [hg]; exact (below_size (by repeat (first | (with_reducible first | exact HB.out | apply below_alloc | apply pw_below_drewN | apply below_drew1) | exact HB.out))) : w.heap.size ≤ gb480)); have n3_ := Aside0.mk ((by rw [hg]; exact (below_size (by repeat (first | (with_reducible first | exact HB.out | apply below_alloc | apply pw_below_drewN | apply below_drew1) | exact HB.out))) : w.heap.size ≤ gb480)); clear HB; have HB := n0_; have BK480 := n1_; have GW480 := n2_; have GE480 := n3_; clear n0_ n1_ n2_ n3_; clear hb hbox hg; have hcz21_0 : w20.cell? ⟨gb480, 0, none⟩ = some (.slice A0_0 l0_0.length c0_0) := (blk_cell BK480.out 0).trans rfl; have hfz21_0 := blk_frozen BK480.out 0) | ((with_reducible refine gate_callee (f := 29) rfl ?_); refine goesL_ (some 12) rfl rfl Try.func29 (by kernel_rfl) rfl #[.agg #[.slice A0_0 l0_0.length c0_0], .int .i64 1048576] rfl (by (try simp only [List.map_toArray, List.map_cons, List.map_nil]); first | done | rfl | (simp only [List.length_drop, List.length_take]; rfl) | (simp only [show ∀ (n_ : Nat) (b_ : Int), Int.tdiv (n_ : Int) b_ = (n_ : Int) / b_ from fun n_ b_ => Int.tdiv_eq_ediv_of_nonneg (Int.natCast_nonneg n_)]; rfl)) ?_; (with_reducible refine (laws_szPicture.calls k _ _ l0_0 1048576 t481 _ ?side1 ?side2 A3.out).mono ?_); (case side1 => repeat (first | exact (Kd.C_below HR0_0.out HB.out) | (with_reducible refine Kd.C_alloc ?_ _) | (with_reducible refine Kd.C_drewN ?_ _) | (with_reducible refine Kd.C_drew ?_))); (case side2 => exact HC0_0.out); rintro e w22 ⟨rfl, hb⟩; refine ⟨_, rfl, ?_⟩; have n0_ := Aside0.mk (blk_below (g := gb480) (o := .cells #[.slice A0_0 l0_0.length c0_0] 43 (0, 0)) (by (with_reducible repeat (first | refine blk_drewN ?_ _ | refine blk_drew ?_ | refine blk_alloc ?_ _)); exact BK480.out) hb); have n1_ := Aside0.mk (below_step (by repeat (first | (with_reducible first | exact HB.out | apply below_alloc | apply pw_below_drewN | apply below_drew1 | refine below_set ?_ GE480.out) | exact HB.out)) hb); clear BK480; clear HB; have BK480 := n0_; have HB := n1_; clear n0_ n1_; (try clear hb); (try clear hb2); (try clear hk); (try clear hi)) | ((with_reducible refine gate_callee (f := 34) rfl ?_); refine goesL_ (some 17) rfl rfl Try.func34 (by kernel_rfl) rfl #[.slice A1 l1.length c1, .int .i64 t481] rfl (by (try simp only [List.map_toArray, List.map_cons, List.map_nil]); first | done | rfl | (simp only [List.length_drop, List.length_take]; rfl) | (simp only [show ∀ (n_ : Nat) (b_ : Int), Int.tdiv (n_ : Int) b_ = (n_ : Int) / b_ from fun n_ b_ => Int.tdiv_eq_ediv_of_nonneg (Int.natCast_nonneg n_)]; rfl)) ?_; (with_reducible refine (laws_szInt64SS.calls k _ _ l1 t481 t482 _ ?side1 ?side2 A8.out).mono ?_); (case side1 => repeat (first | exact (Kd.C_below HR1.out HB.out) | (with_reducible refine Kd.C_alloc ?_ _) | (with_reducible refine Kd.C_drewN ?_ _) | (with_reducible refine Kd.C_drew ?_))); (case side2 => exact HC1.out); rintro e w' ⟨rfl, ⟨nd, rfl⟩⟩; refine ⟨_, rfl, ?_⟩; (try (rw [drewN_self w22]; generalize hq_ : World.drewN w22 _ = w22; have n0_ : Aside0 (w22.heap[gb480]? = some (.cells #[.slice A0_0 l0_0.length c0_0] 43 (0, 0))) := ⟨by rw [← hq_]; exact (by (with_reducible repeat (first | refine blk_drewN ?_ _ | refine blk_drew ?_ | refine blk_alloc ?_ _)); exact BK480.out)⟩; have n1_ : Aside0 (Below w.heap.size w w22) := ⟨by rw [← hq_]; exact (by repeat (first | (with_reducible first | exact HB.out | apply below_alloc | apply pw_below_drewN | apply below_drew1 | refine below_set ?_ GE480.out) | exact HB.out))⟩; clear BK480 HB hq_; have BK480 := n0_; have HB := n1_; clear n0_ n1_)); have hcz23_0 : w22.cell? ⟨gb480, 0, none⟩ = some (.slice A0_0 l0_0.length c0_0) := (blk_cell BK480.out 0).trans rfl; have hfz23_0 := blk_frozen BK480.out 0) | ((with_reducible refine gate_callee (f := 31) rfl ?_); refine goesL_ (some 21) rfl rfl Try.func31 (by kernel_rfl) rfl #[.agg #[.slice A0_0 l0_0.length c0_0]] rfl (by (try simp only [List.map_toArray, List.map_cons, List.map_nil]); first | done | rfl | (simp only [List.length_drop, List.length_take]; rfl) | (simp only [show ∀ (n_ : Nat) (b_ : Int), Int.tdiv (n_ : Int) b_ = (n_ : Int) / b_ from fun n_ b_ => Int.tdiv_eq_ediv_of_nonneg (Int.natCast_nonneg n_)]; rfl)) ?_; (with_reducible refine (laws_toPicture.calls k _ _ l0_0 t483 _ ?side1 ?side2 A13.out).mono ?_); (case side1 => repeat (first | exact (Kd.C_below HR0_0.out HB.out) | (with_reducible refine Kd.C_alloc ?_ _) | (with_reducible refine Kd.C_drewN ?_ _) | (with_reducible refine Kd.C_drew ?_))); (case side2 => exact HC0_0.out); rintro e w24 ⟨v484, rfl, ho0, hb⟩; refine ⟨_, rfl, ?_⟩; have n0_ := Aside0.mk (Kd.S_lower ho0 (below_size (by repeat (first | (with_reducible first | exact HB.out | apply below_alloc | apply pw_below_drewN | apply below_drew1 | refine below_set ?_ GE480.out) | exact HB.out)))); have n1_ := Aside0.mk (blk_below (g := gb480) (o := .cells #[.slice A0_0 l0_0.length c0_0] 43 (0, 0)) (by (with_reducible repeat (first | refine blk_drewN ?_ _ | refine blk_drew ?_ | refine blk_alloc ?_ _)); exact BK480.out) hb); have n2_ := Aside0.mk (below_step (by repeat (first | (with_reducible first | exact HB.out | apply below_alloc | apply pw_below_drewN | apply below_drew1 | refine below_set ?_ GE480.out) | exact HB.out)) hb); clear BK480; clear HB; have HO485 := n0_; have BK480 := n1_; have HB := n2_; clear n0_ n1_ n2_; (try clear hb); (try clear hb2); (try clear hk); (try clear hi); (try clear ho0)) | ((with_reducible refine gate_callee (f := 36) rfl ?_); refine goesL_ (some 23) rfl rfl Try.func36 (by kernel_rfl) rfl #[.slice A1 l1.length c1] rfl (by (try simp only [List.map_toArray, List.map_cons, List.map_nil]); first | done | rfl | (simp only [List.length_drop, List.length_take]; rfl) | (simp only [show ∀ (n_ : Nat) (b_ : Int), Int.tdiv (n_ : Int) b_ = (n_ : Int) / b_ from fun n_ b_ => Int.tdiv_eq_ediv_of_nonneg (Int.natCast_nonneg n_)]; rfl)) ?_; (with_reducible refine (laws_toInt64SS.calls k _ _ l1 t486 _ ?side1 ?side2 A14.out).mono ?_); (case side1 => repeat (first | exact (Kd.C_below HR1.out HB.out) | (with_reducible refine Kd.C_alloc ?_ _) | (with_reducible refine Kd.C_drewN ?_ _) | (with_reducible refine Kd.C_drew ?_))); (case side2 => exact HC1.out); rintro e w25 ⟨v487, rfl, ho0, hb⟩; refine ⟨_, rfl, ?_⟩; have n0_ := Aside0.mk (Kd.S_elder' (by (with_reducible repeat (first | apply Kd.S_alloc | apply Kd.S_drewN | apply Kd.S_drew)); exact HO485.out) (Kd.S_base ho0) hb); have n1_ := Aside0.mk (Kd.S_lower (Kd.S_new' ho0 (Kd.S_lt (by (with_reducible repeat (first | apply Kd.S_alloc | apply Kd.S_drewN | apply Kd.S_drew)); exact HO485.out))) (below_size (by repeat (first | (with_reducible first | exact HB.out | apply below_alloc | apply pw_below_drewN | apply below_drew1 | refine below_set ?_ GE480.out) | exact HB.out)))); have n2_ := Aside0.mk (blk_below (g := gb480) (o := .cells #[.slice A0_0 l0_0.length c0_0] 43 (0, 0)) (by (with_reducible repeat (first | refine blk_drewN ?_ _ | refine blk_drew ?_ | refine blk_alloc ?_ _)); exact BK480.out) hb); have n3_ := Aside0.mk (below_step (by repeat (first | (with_reducible first | exact HB.out | apply below_alloc | apply pw_below_drewN | apply below_drew1 | refine below_set ?_ GE480.out) | exact HB.out)) hb); clear HO485; clear BK480; clear HB; have HO485 := n0_; have HO488 := n1_; have BK480 := n2_; have HB := n3_; clear n0_ n1_ n2_ n3_; (try clear hb); (try clear hb2); (try clear hk); (try clear hi); (try clear ho0); obtain ⟨Ao26, co26, eo26⟩ := Kd.S_slice HO485.out; subst eo26; obtain ⟨Ao27, co27, eo27⟩ := Kd.S_slice HO488.out; subst eo27) | ((with_reducible refine gate_callee (f := 40) rfl ?_); refine goesL_ (some 24) rfl rfl Try.func40 (by kernel_rfl) rfl #[.agg #[.slice Ao26 t483.length co26], .slice Ao27 t486.length co27] rfl (by (try simp only [List.map_toArray, List.map_cons, List.map_nil]); first | done | rfl | (simp only [List.length_drop, List.length_take]; rfl) | (simp only [show ∀ (n_ : Nat) (b_ : Int), Int.tdiv (n_ : Int) b_ = (n_ : Int) / b_ from fun n_ b_ => Int.tdiv_eq_ediv_of_nonneg (Int.natCast_nonneg n_)]; rfl)) ?_; (with_reducible refine (spec_IsPath.calls k _ _ t483 _ _ t486 t489 _ ?side1 ?side2 ?side3 ?side4 A15.out).mono ?_); (case side1 => repeat (first | exact (Kd.S_reads' HO485.out).2.2 | (with_reducible refine Kd.C_alloc ?_ _) | (with_reducible refine Kd.C_drewN ?_ _) | (with_reducible refine Kd.C_drew ?_))); (case side2 => exact (Kd.S_reads' HO485.out).2.1); (case side3 => repeat (first | exact (Kd.S_reads' HO488.out).2.2 | (with_reducible refine Kd.C_alloc ?_ _) | (with_reducible refine Kd.C_drewN ?_ _) | (with_reducible refine Kd.C_drew ?_))); (case side4 => exact (Kd.S_reads' HO488.out).2.1); rintro e w28 ⟨rfl, hb⟩; refine ⟨_, rfl, ?_⟩; have n0_ := Aside0.mk (Kd.S_below (by (with_reducible repeat (first | apply Kd.S_alloc | apply Kd.S_drewN | apply Kd.S_drew)); exact HO485.out) hb); have n1_ := Aside0.mk (Kd.S_below (by (with_reducible repeat (first | apply Kd.S_alloc | apply Kd.S_drewN | apply Kd.S_drew)); exact HO488.out) hb); have n2_ := Aside0.mk (blk_below (g := gb480) (o := .cells #[.slice A0_0 l0_0.length c0_0] 43 (0, 0)) (by (with_reducible repeat (first | refine blk_drewN ?_ _ | refine blk_drew ?_ | refine blk_alloc ?_ _)); exact BK480.out) hb); have n3_ := Aside0.mk (below_step (by repeat (first | (with_reducible first | exact HB.out | apply below_alloc | apply pw_below_drewN | apply below_drew1 | refine below_set ?_ GE480.out) | exact HB.out)) hb); clear HO485; clear HO488; clear BK480; clear HB; have HO485 := n0_; have HO488 := n1_; have BK480 := n2_; have HB := n3_; clear n0_ n1_ n2_ n3_; (try clear hb); (try clear hb2); (try clear hk); (try clear hi); have hcz29_0 : w28.cell? ⟨gb480, 0, none⟩ = some (.slice A0_0 l0_0.length c0_0) := (blk_cell BK480.out 0).trans rfl; have hfz29_0 := blk_frozen BK480.out 0) | ((with_reducible refine gate_callee (f := 31) rfl ?_); refine goesL_ (some 26) rfl rfl Try.func31 (by kernel_rfl) rfl #[.agg #[.slice A0_0 l0_0.length c0_0]] rfl (by (try simp only [List.map_toArray, List.map_cons, List.map_nil]); first | done | rfl | (simp only [List.length_drop, List.length_take]; rfl) | (simp only [show ∀ (n_ : Nat) (b_ : Int), Int.tdiv (n_ : Int) b_ = (n_ : Int) / b_ from fun n_ b_ => Int.tdiv_eq_ediv_of_nonneg (Int.natCast_nonneg n_)]; rfl)) ?_; (with_reducible refine (laws_toPicture.calls k _ _ l0_0 t490 _ ?side1 ?side2 A16.out).mono ?_); (case side1 => repeat (first | exact (Kd.C_below HR0_0.out HB.out) | (with_reducible refine Kd.C_alloc ?_ _) | (with_reducible refine Kd.C_drewN ?_ _) | (with_reducible refine Kd.C_drew ?_))); (case side2 => exact HC0_0.out); rintro e w30 ⟨v491, rfl, ho0, hb⟩; refine ⟨_, rfl, ?_⟩; have n0_ := Aside0.mk (Kd.S_elder' (by (with_reducible repeat (first | apply Kd.S_alloc | apply Kd.S_drewN | apply Kd.S_drew)); exact HO485.out) (Kd.S_base ho0) hb); have n1_ := Aside0.mk (Kd.S_elder' (by (with_reducible repeat (first | apply Kd.S_alloc | apply Kd.S_drewN | apply Kd.S_drew)); exact HO488.out) (Kd.S_base ho0) hb); have n2_ := Aside0.mk (Kd.S_lower (Kd.S_new' (Kd.S_new' ho0 (Kd.S_lt (by (with_reducible repeat (first | apply Kd.S_alloc | apply Kd.S_drewN | apply Kd.S_drew)); exact HO485.out))) (Kd.S_lt (by (with_reducible repeat (first | apply Kd.S_alloc | apply Kd.S_drewN | apply Kd.S_drew)); exact HO488.out))) (below_size (by repeat (first | (with_reducible first | exact HB.out | apply below_alloc | apply pw_below_drewN | apply below_drew1 | refine below_set ?_ GE480.out) | exact HB.out)))); have n3_ := Aside0.mk (blk_below (g := gb480) (o := .cells #[.slice A0_0 l0_0.length c0_0] 43 (0, 0)) (by (with_reducible repeat (first | refine blk_drewN ?_ _ | refine blk_drew ?_ | refine blk_alloc ?_ _)); exact BK480.out) hb); have n4_ := Aside0.mk (below_step (by repeat (first | (with_reducible first | exact HB.out | apply below_alloc | apply pw_below_drewN | apply below_drew1 | refine below_set ?_ GE480.out) | exact HB.out)) hb); clear HO485; clear HO488; clear BK480; clear HB; have HO485 := n0_; have HO488 := n1_; have HO492 := n2_; have BK480 := n3_; have HB := n4_; clear n0_ n1_ n2_ n3_ n4_; (try clear hb); (try clear hb2); (try clear hk); (try clear hi); (try clear ho0)) | ((with_reducible refine gate_dst (N := 7) rfl ?_); refine box_event ?hg (N := 7) ?hd (cs := #[.slice none 0 0]) (t := 46) ?hr ?_; (case hd => rfl); (case hg => rfl); (case hr => first | (go_simp; done) | (go_simp; rfl)); intro gb493 hg w31 hbox hb; have n0_ := Aside0.mk (Kd.S_below (by (with_reducible repeat (first | apply Kd.S_alloc | apply Kd.S_drewN | apply Kd.S_drew)); exact HO485.out) hb); have n1_ := Aside0.mk (Kd.S_below (by (with_reducible repeat (first | apply Kd.S_alloc | apply Kd.S_drewN | apply Kd.S_drew)); exact HO488.out) hb); have n2_ := Aside0.mk (Kd.S_below (by (with_reducible repeat (first | apply Kd.S_alloc | apply Kd.S_drewN | apply Kd.S_drew)); exact HO492.out) hb); have n3_ := Aside0.mk (blk_below (g := gb480) (o := .cells #[.slice A0_0 l0_0.length c0_0] 43 (0, 0)) (by (with_reducible repeat (first | refine blk_drewN ?_ _ | refine blk_drew ?_ | refine blk_alloc ?_ _)); exact BK480.out) hb); have n4_ := Aside0.mk (below_step (by repeat (first | (with_reducible first | exact HB.out | apply below_alloc | apply pw_below_drewN | apply below_drew1 | refine below_set ?_ GE480.out) | exact HB.out)) hb); have n5_ := Aside0.mk (hbox); have n6_ := Aside0.mk ((by rw [hg]; exact (below_size (by repeat (first | (with_reducible first | exact HB.out | apply below_alloc | apply pw_below_drewN | apply below_drew1 | refine below_set ?_ GE480.out) | exact HB.out))) : w.heap.size ≤ gb493)); have n7_ := Aside0.mk ((by rw [hg]; exact (below_size (by repeat (first | (with_reducible first | exact HB.out | apply below_alloc | apply pw_below_drewN | apply below_drew1 | refine below_set ?_ GE480.out) | exact HB.out))) : w.heap.size ≤ gb493)); have n8_ := Aside0.mk ((by rw [hg]; exact Nat.ne_of_lt (blk_lt (g := gb480) (o := .cells #[.slice A0_0 l0_0.length c0_0] 43 (0, 0)) (by (with_reducible repeat (first | refine blk_drewN ?_ _ | refine blk_drew ?_ | refine blk_alloc ?_ _)); exact BK480.out)) : gb480 ≠ gb493)); have n9_ := Aside0.mk ((by rw [hg]; exact Nat.ne_of_gt (blk_lt (g := gb480) (o := .cells #[.slice A0_0 l0_0.length c0_0] 43 (0, 0)) (by (with_reducible repeat (first | refine blk_drewN ?_ _ | refine blk_drew ?_ | refine blk_alloc ?_ _)); exact BK480.out)) : gb493 ≠ gb480)); clear HO485; clear HO488; clear HO492; clear BK480; clear HB; have HO485 := n0_; have HO488 := n1_; have HO492 := n2_; have BK480 := n3_; have HB := n4_; have BK493 := n5_; have GW493 := n6_; have GE493 := n7_; have NB480_493 := n8_; have NB493_480 := n9_; clear n0_ n1_ n2_ n3_ n4_ n5_ n6_ n7_ n8_ n9_; clear hb hbox hg; obtain ⟨Ao32, co32, eo32⟩ := Kd.S_slice HO492.out; subst eo32; have hnb33 := NB493_480.out; have hnc33 := NB480_493.out; have hcz34_0 : w31.cell? ⟨gb493, 0, none⟩ = some (.slice none 0 0) := (blk_cell BK493.out 0).trans rfl; have hfz34_0 := blk_frozen BK493.out 0) | ((with_reducible refine gate_callee (f := 36) rfl ?_); refine goesL_ (some 28) rfl rfl Try.func36 (by kernel_rfl) rfl #[.slice A1 l1.length c1] rfl (by (try simp only [List.map_toArray, List.map_cons, List.map_nil]); first | done | rfl | (simp only [List.length_drop, List.length_take]; rfl) | (simp only [show ∀ (n_ : Nat) (b_ : Int), Int.tdiv (n_ : Int) b_ = (n_ : Int) / b_ from fun n_ b_ => Int.tdiv_eq_ediv_of_nonneg (Int.natCast_nonneg n_)]; rfl)) ?_; (with_reducible refine (laws_toInt64SS.calls k _ _ l1 t494 _ ?side1 ?side2 A17.out).mono ?_); (case side1 => exact Kd.C_below HR1.out (by repeat (first | (with_reducible first | exact HB.out | apply below_alloc | apply pw_below_drewN | apply below_drew1 | refine below_set ?_ GE480.out | refine below_set ?_ GE493.out) | exact HB.out))); (case side2 => exact HC1.out); rintro e w35 ⟨v495, rfl, ho0, hb⟩; refine ⟨_, rfl, ?_⟩; have n0_ := Aside0.mk (Kd.S_elder' (by (with_reducible repeat (first | apply Kd.S_alloc | apply Kd.S_drewN | apply Kd.S_drew)); exact (Kd.S_mono (Kd.S_far (p := ⟨gb493, 0, none⟩) (Kd.S_types HO485.out BK493.out (by decide)) (fun _ hk => hk.2) (.slice Ao32 t490.length co32)) (fun _ h_ => h_.1))) (Kd.S_base ho0) hb); have n1_ := Aside0.mk (Kd.S_elder' (by (with_reducible repeat (first | apply Kd.S_alloc | apply Kd.S_drewN | apply Kd.S_drew)); exact (Kd.S_mono (Kd.S_far (p := ⟨gb493, 0, none⟩) (Kd.S_types HO488.out BK493.out (by decide)) (fun _ hk => hk.2) (.slice Ao32 t490.length co32)) (fun _ h_ => h_.1))) (Kd.S_base ho0) hb); have n2_ := Aside0.mk (Kd.S_elder' (by (with_reducible repeat (first | apply Kd.S_alloc | apply Kd.S_drewN | apply Kd.S_drew)); exact (Kd.S_mono (Kd.S_far (p := ⟨gb493, 0, none⟩) (Kd.S_types HO492.out BK493.out (by decide)) (fun _ hk => hk.2) (.slice Ao32 t490.length co32)) (fun _ h_ => h_.1))) (Kd.S_base ho0) hb); have n3_ := Aside0.mk (Kd.S_lower (Kd.S_new' (Kd.S_new' (Kd.S_new' ho0 (Kd.S_lt (by (with_reducible repeat (first | apply Kd.S_alloc | apply Kd.S_drewN | apply Kd.S_drew)); exact (Kd.S_mono (Kd.S_far (p := ⟨gb493, 0, none⟩) (Kd.S_types HO485.out BK493.out (by decide)) (fun _ hk => hk.2) (.slice Ao32 t490.length co32)) (fun _ h_ => h_.1))))) (Kd.S_lt (by (with_reducible repeat (first | apply Kd.S_alloc | apply Kd.S_drewN | apply Kd.S_drew)); exact (Kd.S_mono (Kd.S_far (p := ⟨gb493, 0, none⟩) (Kd.S_types HO488.out BK493.out (by decide)) (fun _ hk => hk.2) (.slice Ao32 t490.length co32)) (fun _ h_ => h_.1))))) (Kd.S_lt (by (with_reducible repeat (first | apply Kd.S_alloc | apply Kd.S_drewN | apply Kd.S_drew)); exact (Kd.S_mono (Kd.S_far (p := ⟨gb493, 0, none⟩) (Kd.S_types HO492.out BK493.out (by decide)) (fun _ hk => hk.2) (.slice Ao32 t490.length co32)) (fun _ h_ => h_.1))))) (below_size (by repeat (first | (with_reducible first | exact HB.out | apply below_alloc | apply pw_below_drewN | apply below_drew1 | refine below_set ?_ GE480.out | refine below_set ?_ GE493.out) | exact HB.out)))); have n4_ := Aside0.mk (blk_below (g := gb480) (o := .cells #[.slice A0_0 l0_0.length c0_0] 43 (0, 0)) (by (with_reducible repeat (first | refine blk_drewN ?_ _ | refine blk_drew ?_ | refine blk_alloc ?_ _)); refine blk_far ?_ NB480_493.out _; (with_reducible repeat (first | refine blk_drewN ?_ _ | refine blk_drew ?_ | refine blk_alloc ?_ _)); exact BK480.out) hb); have n5_ := Aside0.mk (blk_below (g := gb493) (o := .cells #[.slice Ao32 t490.length co32] 46 (0, 0)) (by (with_reducible repeat (first | refine blk_drewN ?_ _ | refine blk_drew ?_ | refine blk_alloc ?_ _)); refine blk_put (cs := #[.slice none 0 0]) ?_ 0 _ rfl; (with_reducible repeat (first | refine blk_drewN ?_ _ | refine blk_drew ?_ | refine blk_alloc ?_ _)); exact BK493.out) hb); have n6_ := Aside0.mk (below_step (by repeat (first | (with_reducible first | exact HB.out | apply below_alloc | apply pw_below_drewN | apply below_drew1 | refine below_set ?_ GE480.out | refine below_set ?_ GE493.out) | exact HB.out)) hb); clear HO485; clear HO488; clear HO492; clear BK480; clear BK493; clear HB; have HO485 := n0_; have HO488 := n1_; have HO492 := n2_; have HO496 := n3_; have BK480 := n4_; have BK493 := n5_; have HB := n6_; clear n0_ n1_ n2_ n3_ n4_ n5_ n6_; (try clear hb); (try clear hb2); (try clear hk); (try clear hi); (try clear ho0); have hcz36_0 : w35.cell? ⟨gb493, 0, none⟩ = some (.slice Ao32 t490.length co32) := (blk_cell BK493.out 0).trans rfl; have hfz36_0 := blk_frozen BK493.out 0; obtain ⟨Ao37, co37, eo37⟩ := Kd.S_slice HO496.out; subst eo37) | ((with_reducible refine gate_callee (f := 41) rfl ?_); refine goesL_ (some 31) rfl rfl Try.func41 (by kernel_rfl) rfl #[.agg #[.slice Ao32 t490.length co32], .slice Ao37 t494.length co37] rfl (by (try simp only [List.map_toArray, List.map_cons, List.map_nil]); first | done | rfl | (simp only [List.length_drop, List.length_take]; rfl) | (simp only [show ∀ (n_ : Nat) (b_ : Int), Int.tdiv (n_ : Int) b_ = (n_ : Int) / b_ from fun n_ b_ => Int.tdiv_eq_ediv_of_nonneg (Int.natCast_nonneg n_)]; rfl)) ?_; (with_reducible refine (impl_IsPath.calls k _ _ t490 _ _ t494 t497 _ ?side1 ?side2 ?side3 ?side4 A18.out).mono ?_); (case side1 => repeat (first | exact (Kd.S_reads' HO492.out).2.2 | (with_reducible refine Kd.C_alloc ?_ _) | (with_reducible refine Kd.C_drewN ?_ _) | (with_reducible refine Kd.C_drew ?_))); (case side2 => exact (Kd.S_reads' HO492.out).2.1); (case side3 => repeat (first | exact (Kd.S_reads' HO496.out).2.2 | (with_reducible refine Kd.C_alloc ?_ _) | (with_reducible refine Kd.C_drewN ?_ _) | (with_reducible refine Kd.C_drew ?_))); (case side4 => exact (Kd.S_reads' HO496.out).2.1); rintro e w38 ⟨rfl, hb⟩; refine ⟨_, rfl, ?_⟩; have n0_ := Aside0.mk (Kd.S_below (by (with_reducible repeat (first | apply Kd.S_alloc | apply Kd.S_drewN | apply Kd.S_drew)); exact HO485.out) hb); have n1_ := Aside0.mk (Kd.S_below (by (with_reducible repeat (first | apply Kd.S_alloc | apply Kd.S_drewN | apply Kd.S_drew)); exact HO488.out) hb); have n2_ := Aside0.mk (Kd.S_below (by (with_reducible repeat (first | apply Kd.S_alloc | apply Kd.S_drewN | apply Kd.S_drew)); exact HO492.out) hb); have n3_ := Aside0.mk (Kd.S_below (by (with_reducible repeat (first | apply Kd.S_alloc | apply Kd.S_drewN | apply Kd.S_drew)); exact HO496.out) hb); have n4_ := Aside0.mk (blk_below (g := gb480) (o := .cells #[.slice A0_0 l0_0.length c0_0] 43 (0, 0)) (by (with_reducible repeat (first | refine blk_drewN ?_ _ | refine blk_drew ?_ | refine blk_alloc ?_ _)); exact BK480.out) hb); have n5_ := Aside0.mk (blk_below (g := gb493) (o := .cells #[.slice Ao32 t490.length co32] 46 (0, 0)) (by (with_reducible repeat (first | refine blk_drewN ?_ _ | refine blk_drew ?_ | refine blk_alloc ?_ _)); exact BK493.out) hb); have n6_ := Aside0.mk (below_step (by repeat (first | (with_reducible first | exact HB.out | apply below_alloc | apply pw_below_drewN | apply below_drew1 | refine below_set ?_ GE480.out | refine below_set ?_ GE493.out) | exact HB.out)) hb); clear HO485; clear HO488; clear HO492; clear HO496; clear BK480; clear BK493; clear HB; have HO485 := n0_; have HO488 := n1_; have HO492 := n2_; have HO496 := n3_; have BK480 := n4_; have BK493 := n5_; have HB := n6_; clear n0_ n1_ n2_ n3_ n4_ n5_ n6_; (try clear hb); (try clear hb2); (try clear hk); (try clear hi)))
    go_ret
    exact ⟨by first | rfl | (simp [errW_none, errW_some] <;> rfl) | (simp [*, errW_none, errW_some] <;> rfl), by repeat (first | (with_reducible first | exact HB.out | apply below_alloc | apply pw_below_drewN | apply below_drew1 | refine below_set ?_ GE480.out | refine below_set ?_ GE493.out) | exact HB.out)⟩
   ·rw [if_neg c19] at H
    have c19b0 : (t497 != t489) = false := by simpa using c19
    (try (have c19b1 : decide (t497 = t489) = true := by simpa using c19))
    (try (have c19b2 : (t497 == t489) = true := by simpa using c19))
    clear c19
    replace H := Option.bind_eq_some_iff.mp H
    obtain ⟨t498, A390, H⟩ := H
    replace H : ((laws_eqPicture.f k t490 t498).bind fun t501 => (if t501 = true then ((laws_toInt64SS.f k l1).bind fun t502 => ((laws_eqInt64SS.f k t494 t502).bind fun t505 => (if t505 = true then (some true) else (some false)))) else (some false))) = some r := H
    have A39 := Aside0.mk A390
    clear A390
    replace H := Option.bind_eq_some_iff.mp H
    obtain ⟨t501, A400, H⟩ := H
    replace H : (if t501 = true then ((laws_toInt64SS.f k l1).bind fun t502 => ((laws_eqInt64SS.f k t494 t502).bind fun t505 => (if t505 = true then (some true) else (some false)))) else (some false)) = some r := H
    have A40 := Aside0.mk A400
    clear A400
    by_cases c41 : t501 = true
    ·subst c41
     have H1 : ((laws_toInt64SS.f k l1).bind fun t502 => ((laws_eqInt64SS.f k t494 t502).bind fun t505 => (if t505 = true then (some true) else (some false)))) = some r := by rw [if_pos rfl] at H; exact H
     clear H
     have H := H1
     clear H1
     replace H := Option.bind_eq_some_iff.mp H
     obtain ⟨t502, A420, H⟩ := H
     replace H : ((laws_eqInt64SS.f k t494 t502).bind fun t505 => (if t505 = true then (some true) else (some false))) = some r := H
     have A42 := Aside0.mk A420
     clear A420
     replace H := Option.bind_eq_some_iff.mp H
     obtain ⟨t505, A430, H⟩ := H
     replace H : (if t505 = true then (some true) else (some false)) = some r := H
     have A43 := Aside0.mk A430
     clear A430
     by_cases c44 : t505 = true
     ·subst c44
      have H1 : (some true) = some r := by rw [if_pos rfl] at H; exact H
      clear H
      have H := H1
      clear H1
      obtain rfl := Option.some.inj H
      go_enter Try.func9, Try.ntmps9
      try go_wp2_with (first | ((with_reducible refine gate_dst (N := 2) rfl ?_); refine box_event ?hg (N := 2) ?hd (cs := #[.slice A0_0 l0_0.length c0_0]) (t := 43) ?hr ?_; (case hd => rfl); (case hg => rfl); (case hr => first | (go_simp; done) | (go_simp; rfl)); intro gb480 hg w45 hbox hb; have n0_ := Aside0.mk (below_step (by repeat (first | (with_reducible first | exact HB.out | apply below_alloc | apply pw_below_drewN | apply below_drew1) | exact HB.out)) hb); have n1_ := Aside0.mk (hbox); have n2_ := Aside0.mk ((by rw [hg]; exact (below_size (by repeat (first | (with_reducible first | exact HB.out | apply below_alloc | apply pw_below_drewN | apply below_drew1) | exact HB.out))) : w.heap.size ≤ gb480)); have n3_ := Aside0.mk ((by rw [hg]; exact (below_size (by repeat (first | (with_reducible first | exact HB.out | apply below_alloc | apply pw_below_drewN | apply below_drew1) | exact HB.out))) : w.heap.size ≤ gb480)); clear HB; have HB := n0_; have BK480 := n1_; have GW480 := n2_; have GE480 := n3_; clear n0_ n1_ n2_ n3_; clear hb hbox hg; have hcz46_0 : w45.cell? ⟨gb480, 0, none⟩ = some (.slice A0_0 l0_0.length c0_0) := (blk_cell BK480.out 0).trans rfl; have hfz46_0 := blk_frozen BK480.out 0) | ((with_reducible refine gate_callee (f := 29) rfl ?_); refine goesL_ (some 12) rfl rfl Try.func29 (by kernel_rfl) rfl #[.agg #[.slice A0_0 l0_0.length c0_0], .int .i64 1048576] rfl (by (try simp only [List.map_toArray, List.map_cons, List.map_nil]); first | done | rfl | (simp only [List.length_drop, List.length_take]; rfl) | (simp only [show ∀ (n_ : Nat) (b_ : Int), Int.tdiv (n_ : Int) b_ = (n_ : Int) / b_ from fun n_ b_ => Int.tdiv_eq_ediv_of_nonneg (Int.natCast_nonneg n_)]; rfl)) ?_; (with_reducible refine (laws_szPicture.calls k _ _ l0_0 1048576 t481 _ ?side1 ?side2 A3.out).mono ?_); (case side1 => repeat (first | exact (Kd.C_below HR0_0.out HB.out) | (with_reducible refine Kd.C_alloc ?_ _) | (with_reducible refine Kd.C_drewN ?_ _) | (with_reducible refine Kd.C_drew ?_))); (case side2 => exact HC0_0.out); rintro e w47 ⟨rfl, hb⟩; refine ⟨_, rfl, ?_⟩; have n0_ := Aside0.mk (blk_below (g := gb480) (o := .cells #[.slice A0_0 l0_0.length c0_0] 43 (0, 0)) (by (with_reducible repeat (first | refine blk_drewN ?_ _ | refine blk_drew ?_ | refine blk_alloc ?_ _)); exact BK480.out) hb); have n1_ := Aside0.mk (below_step (by repeat (first | (with_reducible first | exact HB.out | apply below_alloc | apply pw_below_drewN | apply below_drew1 | refine below_set ?_ GE480.out) | exact HB.out)) hb); clear BK480; clear HB; have BK480 := n0_; have HB := n1_; clear n0_ n1_; (try clear hb); (try clear hb2); (try clear hk); (try clear hi)) | ((with_reducible refine gate_callee (f := 34) rfl ?_); refine goesL_ (some 17) rfl rfl Try.func34 (by kernel_rfl) rfl #[.slice A1 l1.length c1, .int .i64 t481] rfl (by (try simp only [List.map_toArray, List.map_cons, List.map_nil]); first | done | rfl | (simp only [List.length_drop, List.length_take]; rfl) | (simp only [show ∀ (n_ : Nat) (b_ : Int), Int.tdiv (n_ : Int) b_ = (n_ : Int) / b_ from fun n_ b_ => Int.tdiv_eq_ediv_of_nonneg (Int.natCast_nonneg n_)]; rfl)) ?_; (with_reducible refine (laws_szInt64SS.calls k _ _ l1 t481 t482 _ ?side1 ?side2 A8.out).mono ?_); (case side1 => repeat (first | exact (Kd.C_below HR1.out HB.out) | (with_reducible refine Kd.C_alloc ?_ _) | (with_reducible refine Kd.C_drewN ?_ _) | (with_reducible refine Kd.C_drew ?_))); (case side2 => exact HC1.out); rintro e w' ⟨rfl, ⟨nd, rfl⟩⟩; refine ⟨_, rfl, ?_⟩; (try (rw [drewN_self w47]; generalize hq_ : World.drewN w47 _ = w47; have n0_ : Aside0 (w47.heap[gb480]? = some (.cells #[.slice A0_0 l0_0.length c0_0] 43 (0, 0))) := ⟨by rw [← hq_]; exact (by (with_reducible repeat (first | refine blk_drewN ?_ _ | refine blk_drew ?_ | refine blk_alloc ?_ _)); exact BK480.out)⟩; have n1_ : Aside0 (Below w.heap.size w w47) := ⟨by rw [← hq_]; exact (by repeat (first | (with_reducible first | exact HB.out | apply below_alloc | apply pw_below_drewN | apply below_drew1 | refine below_set ?_ GE480.out) | exact HB.out))⟩; clear BK480 HB hq_; have BK480 := n0_; have HB := n1_; clear n0_ n1_)); have hcz48_0 : w47.cell? ⟨gb480, 0, none⟩ = some (.slice A0_0 l0_0.length c0_0) := (blk_cell BK480.out 0).trans rfl; have hfz48_0 := blk_frozen BK480.out 0) | ((with_reducible refine gate_callee (f := 31) rfl ?_); refine goesL_ (some 21) rfl rfl Try.func31 (by kernel_rfl) rfl #[.agg #[.slice A0_0 l0_0.length c0_0]] rfl (by (try simp only [List.map_toArray, List.map_cons, List.map_nil]); first | done | rfl | (simp only [List.length_drop, List.length_take]; rfl) | (simp only [show ∀ (n_ : Nat) (b_ : Int), Int.tdiv (n_ : Int) b_ = (n_ : Int) / b_ from fun n_ b_ => Int.tdiv_eq_ediv_of_nonneg (Int.natCast_nonneg n_)]; rfl)) ?_; (with_reducible refine (laws_toPicture.calls k _ _ l0_0 t483 _ ?side1 ?side2 A13.out).mono ?_); (case side1 => repeat (first | exact (Kd.C_below HR0_0.out HB.out) | (with_reducible refine Kd.C_alloc ?_ _) | (with_reducible refine Kd.C_drewN ?_ _) | (with_reducible refine Kd.C_drew ?_))); (case side2 => exact HC0_0.out); rintro e w49 ⟨v484, rfl, ho0, hb⟩; refine ⟨_, rfl, ?_⟩; have n0_ := Aside0.mk (Kd.S_lower ho0 (below_size (by repeat (first | (with_reducible first | exact HB.out | apply below_alloc | apply pw_below_drewN | apply below_drew1 | refine below_set ?_ GE480.out) | exact HB.out)))); have n1_ := Aside0.mk (blk_below (g := gb480) (o := .cells #[.slice A0_0 l0_0.length c0_0] 43 (0, 0)) (by (with_reducible repeat (first | refine blk_drewN ?_ _ | refine blk_drew ?_ | refine blk_alloc ?_ _)); exact BK480.out) hb); have n2_ := Aside0.mk (below_step (by repeat (first | (with_reducible first | exact HB.out | apply below_alloc | apply pw_below_drewN | apply below_drew1 | refine below_set ?_ GE480.out) | exact HB.out)) hb); clear BK480; clear HB; have HO485 := n0_; have BK480 := n1_; have HB := n2_; clear n0_ n1_ n2_; (try clear hb); (try clear hb2); (try clear hk); (try clear hi); (try clear ho0)) | ((with_reducible refine gate_callee (f := 36) rfl ?_); refine goesL_ (some 23) rfl rfl Try.func36 (by kernel_rfl) rfl #[.slice A1 l1.length c1] rfl (by (try simp only [List.map_toArray, List.map_cons, List.map_nil]); first | done | rfl | (simp only [List.length_drop, List.length_take]; rfl) | (simp only [show ∀ (n_ : Nat) (b_ : Int), Int.tdiv (n_ : Int) b_ = (n_ : Int) / b_ from fun n_ b_ => Int.tdiv_eq_ediv_of_nonneg (Int.natCast_nonneg n_)]; rfl)) ?_; (with_reducible refine (laws_toInt64SS.calls k _ _ l1 t486 _ ?side1 ?side2 A14.out).mono ?_); (case side1 => repeat (first | exact (Kd.C_below HR1.out HB.out) | (with_reducible refine Kd.C_alloc ?_ _) | (with_reducible refine Kd.C_drewN ?_ _) | (with_reducible refine Kd.C_drew ?_))); (case side2 => exact HC1.out); rintro e w50 ⟨v487, rfl, ho0, hb⟩; refine ⟨_, rfl, ?_⟩; have n0_ := Aside0.mk (Kd.S_elder' (by (with_reducible repeat (first | apply Kd.S_alloc | apply Kd.S_drewN | apply Kd.S_drew)); exact HO485.out) (Kd.S_base ho0) hb); have n1_ := Aside0.mk (Kd.S_lower (Kd.S_new' ho0 (Kd.S_lt (by (with_reducible repeat (first | apply Kd.S_alloc | apply Kd.S_drewN | apply Kd.S_drew)); exact HO485.out))) (below_size (by repeat (first | (with_reducible first | exact HB.out | apply below_alloc | apply pw_below_drewN | apply below_drew1 | refine below_set ?_ GE480.out) | exact HB.out)))); have n2_ := Aside0.mk (blk_below (g := gb480) (o := .cells #[.slice A0_0 l0_0.length c0_0] 43 (0, 0)) (by (with_reducible repeat (first | refine blk_drewN ?_ _ | refine blk_drew ?_ | refine blk_alloc ?_ _)); exact BK480.out) hb); have n3_ := Aside0.mk (below_step (by repeat (first | (with_reducible first | exact HB.out | apply below_alloc | apply pw_below_drewN | apply below_drew1 | refine below_set ?_ GE480.out) | exact HB.out)) hb); clear HO485; clear BK480; clear HB; have HO485 := n0_; have HO488 := n1_; have BK480 := n2_; have HB := n3_; clear n0_ n1_ n2_ n3_; (try clear hb); (try clear hb2); (try clear hk); (try clear hi); (try clear ho0); obtain ⟨Ao51, co51, eo51⟩ := Kd.S_slice HO485.out; subst eo51; obtain ⟨Ao52, co52, eo52⟩ := Kd.S_slice HO488.out; subst eo52) | ((with_reducible refine gate_callee (f := 40) rfl ?_); refine goesL_ (some 24) rfl rfl Try.func40 (by kernel_rfl) rfl #[.agg #[.slice Ao51 t483.length co51], .slice Ao52 t486.length co52] rfl (by (try simp only [List.map_toArray, List.map_cons, List.map_nil]); first | done | rfl | (simp only [List.length_drop, List.length_take]; rfl) | (simp only [show ∀ (n_ : Nat) (b_ : Int), Int.tdiv (n_ : Int) b_ = (n_ : Int) / b_ from fun n_ b_ => Int.tdiv_eq_ediv_of_nonneg (Int.natCast_nonneg n_)]; rfl)) ?_; (with_reducible refine (spec_IsPath.calls k _ _ t483 _ _ t486 t489 _ ?side1 ?side2 ?side3 ?side4 A15.out).mono ?_); (case side1 => repeat (first | exact (Kd.S_reads' HO485.out).2.2 | (with_reducible refine Kd.C_alloc ?_ _) | (with_reducible refine Kd.C_drewN ?_ _) | (with_reducible refine Kd.C_drew ?_))); (case side2 => exact (Kd.S_reads' HO485.out).2.1); (case side3 => repeat (first | exact (Kd.S_reads' HO488.out).2.2 | (with_reducible refine Kd.C_alloc ?_ _) | (with_reducible refine Kd.C_drewN ?_ _) | (with_reducible refine Kd.C_drew ?_))); (case side4 => exact (Kd.S_reads' HO488.out).2.1); rintro e w53 ⟨rfl, hb⟩; refine ⟨_, rfl, ?_⟩; have n0_ := Aside0.mk (Kd.S_below (by (with_reducible repeat (first | apply Kd.S_alloc | apply Kd.S_drewN | apply Kd.S_drew)); exact HO485.out) hb); have n1_ := Aside0.mk (Kd.S_below (by (with_reducible repeat (first | apply Kd.S_alloc | apply Kd.S_drewN | apply Kd.S_drew)); exact HO488.out) hb); have n2_ := Aside0.mk (blk_below (g := gb480) (o := .cells #[.slice A0_0 l0_0.length c0_0] 43 (0, 0)) (by (with_reducible repeat (first | refine blk_drewN ?_ _ | refine blk_drew ?_ | refine blk_alloc ?_ _)); exact BK480.out) hb); have n3_ := Aside0.mk (below_step (by repeat (first | (with_reducible first | exact HB.out | apply below_alloc | apply pw_below_drewN | apply below_drew1 | refine below_set ?_ GE480.out) | exact HB.out)) hb); clear HO485; clear HO488; clear BK480; clear HB; have HO485 := n0_; have HO488 := n1_; have BK480 := n2_; have HB := n3_; clear n0_ n1_ n2_ n3_; (try clear hb); (try clear hb2); (try clear hk); (try clear hi); have hcz54_0 : w53.cell? ⟨gb480, 0, none⟩ = some (.slice A0_0 l0_0.length c0_0) := (blk_cell BK480.out 0).trans rfl; have hfz54_0 := blk_frozen BK480.out 0) | ((with_reducible refine gate_callee (f := 31) rfl ?_); refine goesL_ (some 26) rfl rfl Try.func31 (by kernel_rfl) rfl #[.agg #[.slice A0_0 l0_0.length c0_0]] rfl (by (try simp only [List.map_toArray, List.map_cons, List.map_nil]); first | done | rfl | (simp only [List.length_drop, List.length_take]; rfl) | (simp only [show ∀ (n_ : Nat) (b_ : Int), Int.tdiv (n_ : Int) b_ = (n_ : Int) / b_ from fun n_ b_ => Int.tdiv_eq_ediv_of_nonneg (Int.natCast_nonneg n_)]; rfl)) ?_; (with_reducible refine (laws_toPicture.calls k _ _ l0_0 t490 _ ?side1 ?side2 A16.out).mono ?_); (case side1 => repeat (first | exact (Kd.C_below HR0_0.out HB.out) | (with_reducible refine Kd.C_alloc ?_ _) | (with_reducible refine Kd.C_drewN ?_ _) | (with_reducible refine Kd.C_drew ?_))); (case side2 => exact HC0_0.out); rintro e w55 ⟨v491, rfl, ho0, hb⟩; refine ⟨_, rfl, ?_⟩; have n0_ := Aside0.mk (Kd.S_elder' (by (with_reducible repeat (first | apply Kd.S_alloc | apply Kd.S_drewN | apply Kd.S_drew)); exact HO485.out) (Kd.S_base ho0) hb); have n1_ := Aside0.mk (Kd.S_elder' (by (with_reducible repeat (first | apply Kd.S_alloc | apply Kd.S_drewN | apply Kd.S_drew)); exact HO488.out) (Kd.S_base ho0) hb); have n2_ := Aside0.mk (Kd.S_lower (Kd.S_new' (Kd.S_new' ho0 (Kd.S_lt (by (with_reducible repeat (first | apply Kd.S_alloc | apply Kd.S_drewN | apply Kd.S_drew)); exact HO485.out))) (Kd.S_lt (by (with_reducible repeat (first | apply Kd.S_alloc | apply Kd.S_drewN | apply Kd.S_drew)); exact HO488.out))) (below_size (by repeat (first | (with_reducible first | exact HB.out | apply below_alloc | apply pw_below_drewN | apply below_drew1 | refine below_set ?_ GE480.out) | exact HB.out)))); have n3_ := Aside0.mk (blk_below (g := gb480) (o := .cells #[.slice A0_0 l0_0.length c0_0] 43 (0, 0)) (by (with_reducible repeat (first | refine blk_drewN ?_ _ | refine blk_drew ?_ | refine blk_alloc ?_ _)); exact BK480.out) hb); have n4_ := Aside0.mk (below_step (by repeat (first | (with_reducible first | exact HB.out | apply below_alloc | apply pw_below_drewN | apply below_drew1 | refine below_set ?_ GE480.out) | exact HB.out)) hb); clear HO485; clear HO488; clear BK480; clear HB; have HO485 := n0_; have HO488 := n1_; have HO492 := n2_; have BK480 := n3_; have HB := n4_; clear n0_ n1_ n2_ n3_ n4_; (try clear hb); (try clear hb2); (try clear hk); (try clear hi); (try clear ho0)) | ((with_reducible refine gate_dst (N := 7) rfl ?_); refine box_event ?hg (N := 7) ?hd (cs := #[.slice none 0 0]) (t := 46) ?hr ?_; (case hd => rfl); (case hg => rfl); (case hr => first | (go_simp; done) | (go_simp; rfl)); intro gb493 hg w56 hbox hb; have n0_ := Aside0.mk (Kd.S_below (by (with_reducible repeat (first | apply Kd.S_alloc | apply Kd.S_drewN | apply Kd.S_drew)); exact HO485.out) hb); have n1_ := Aside0.mk (Kd.S_below (by (with_reducible repeat (first | apply Kd.S_alloc | apply Kd.S_drewN | apply Kd.S_drew)); exact HO488.out) hb); have n2_ := Aside0.mk (Kd.S_below (by (with_reducible repeat (first | apply Kd.S_alloc | apply Kd.S_drewN | apply Kd.S_drew)); exact HO492.out) hb); have n3_ := Aside0.mk (blk_below (g := gb480) (o := .cells #[.slice A0_0 l0_0.length c0_0] 43 (0, 0)) (by (with_reducible repeat (first | refine blk_drewN ?_ _ | refine blk_drew ?_ | refine blk_alloc ?_ _)); exact BK480.out) hb); have n4_ := Aside0.mk (below_step (by repeat (first | (with_reducible first | exact HB.out | apply below_alloc | apply pw_below_drewN | apply below_drew1 | refine below_set ?_ GE480.out) | exact HB.out)) hb); have n5_ := Aside0.mk (hbox); have n6_ := Aside0.mk ((by rw [hg]; exact (below_size (by repeat (first | (with_reducible first | exact HB.out | apply below_alloc | apply pw_below_drewN | apply below_drew1 | refine below_set ?_ GE480.out) | exact HB.out))) : w.heap.size ≤ gb493)); have n7_ := Aside0.mk ((by rw [hg]; exact (below_size (by repeat (first | (with_reducible first | exact HB.out | apply below_alloc | apply pw_below_drewN | apply below_drew1 | refine below_set ?_ GE480.out) | exact HB.out))) : w.heap.size ≤ gb493)); have n8_ := Aside0.mk ((by rw [hg]; exact Nat.ne_of_lt (blk_lt (g := gb480) (o := .cells #[.slice A0_0 l0_0.length c0_0] 43 (0, 0)) (by (with_reducible repeat (first | refine blk_drewN ?_ _ | refine blk_drew ?_ | refine blk_alloc ?_ _)); exact BK480.out)) : gb480 ≠ gb493)); have n9_ := Aside0.mk ((by rw [hg]; exact Nat.ne_of_gt (blk_lt (g := gb480) (o := .cells #[.slice A0_0 l0_0.length c0_0] 43 (0, 0)) (by (with_reducible repeat (first | refine blk_drewN ?_ _ | refine blk_drew ?_ | refine blk_alloc ?_ _)); exact BK480.out)) : gb493 ≠ gb480)); clear HO485; clear HO488; clear HO492; clear BK480; clear HB; have HO485 := n0_; have HO488 := n1_; have HO492 := n2_; have BK480 := n3_; have HB := n4_; have BK493 := n5_; have GW493 := n6_; have GE493 := n7_; have NB480_493 := n8_; have NB493_480 := n9_; clear n0_ n1_ n2_ n3_ n4_ n5_ n6_ n7_ n8_ n9_; clear hb hbox hg; obtain ⟨Ao57, co57, eo57⟩ := Kd.S_slice HO492.out; subst eo57; have hnb58 := NB493_480.out; have hnc58 := NB480_493.out; have hcz59_0 : w56.cell? ⟨gb493, 0, none⟩ = some (.slice none 0 0) := (blk_cell BK493.out 0).trans rfl; have hfz59_0 := blk_frozen BK493.out 0) | ((with_reducible refine gate_callee (f := 36) rfl ?_); refine goesL_ (some 28) rfl rfl Try.func36 (by kernel_rfl) rfl #[.slice A1 l1.length c1] rfl (by (try simp only [List.map_toArray, List.map_cons, List.map_nil]); first | done | rfl | (simp only [List.length_drop, List.length_take]; rfl) | (simp only [show ∀ (n_ : Nat) (b_ : Int), Int.tdiv (n_ : Int) b_ = (n_ : Int) / b_ from fun n_ b_ => Int.tdiv_eq_ediv_of_nonneg (Int.natCast_nonneg n_)]; rfl)) ?_; (with_reducible refine (laws_toInt64SS.calls k _ _ l1 t494 _ ?side1 ?side2 A17.out).mono ?_); (case side1 => exact Kd.C_below HR1.out (by repeat (first | (with_reducible first | exact HB.out | apply below_alloc | apply pw_below_drewN | apply below_drew1 | refine below_set ?_ GE480.out | refine below_set ?_ GE493.out) | exact HB.out))); (case side2 => exact HC1.out); rintro e w60 ⟨v495, rfl, ho0, hb⟩; refine ⟨_, rfl, ?_⟩; have n0_ := Aside0.mk (Kd.S_elder' (by (with_reducible repeat (first | apply Kd.S_alloc | apply Kd.S_drewN | apply Kd.S_drew)); exact (Kd.S_mono (Kd.S_far (p := ⟨gb493, 0, none⟩) (Kd.S_types HO485.out BK493.out (by decide)) (fun _ hk => hk.2) (.slice Ao57 t490.length co57)) (fun _ h_ => h_.1))) (Kd.S_base ho0) hb); have n1_ := Aside0.mk (Kd.S_elder' (by (with_reducible repeat (first | apply Kd.S_alloc | apply Kd.S_drewN | apply Kd.S_drew)); exact (Kd.S_mono (Kd.S_far (p := ⟨gb493, 0, none⟩) (Kd.S_types HO488.out BK493.out (by decide)) (fun _ hk => hk.2) (.slice Ao57 t490.length co57)) (fun _ h_ => h_.1))) (Kd.S_base ho0) hb); have n2_ := Aside0.mk (Kd.S_elder' (by (with_reducible repeat (first | apply Kd.S_alloc | apply Kd.S_drewN | apply Kd.S_drew)); exact (Kd.S_mono (Kd.S_far (p := ⟨gb493, 0, none⟩) (Kd.S_types HO492.out BK493.out (by decide)) (fun _ hk => hk.2) (.slice Ao57 t490.length co57)) (fun _ h_ => h_.1))) (Kd.S_base ho0) hb); have n3_ := Aside0.mk (Kd.S_lower (Kd.S_new' (Kd.S_new' (Kd.S_new' ho0 (Kd.S_lt (by (with_reducible repeat (first | apply Kd.S_alloc | apply Kd.S_drewN | apply Kd.S_drew)); exact (Kd.S_mono (Kd.S_far (p := ⟨gb493, 0, none⟩) (Kd.S_types HO485.out BK493.out (by decide)) (fun _ hk => hk.2) (.slice Ao57 t490.length co57)) (fun _ h_ => h_.1))))) (Kd.S_lt (by (with_reducible repeat (first | apply Kd.S_alloc | apply Kd.S_drewN | apply Kd.S_drew)); exact (Kd.S_mono (Kd.S_far (p := ⟨gb493, 0, none⟩) (Kd.S_types HO488.out BK493.out (by decide)) (fun _ hk => hk.2) (.slice Ao57 t490.length co57)) (fun _ h_ => h_.1))))) (Kd.S_lt (by (with_reducible repeat (first | apply Kd.S_alloc | apply Kd.S_drewN | apply Kd.S_drew)); exact (Kd.S_mono (Kd.S_far (p := ⟨gb493, 0, none⟩) (Kd.S_types HO492.out BK493.out (by decide)) (fun _ hk => hk.2) (.slice Ao57 t490.length co57)) (fun _ h_ => h_.1))))) (below_size (by repeat (first | (with_reducible first | exact HB.out | apply below_alloc | apply pw_below_drewN | apply below_drew1 | refine below_set ?_ GE480.out | refine below_set ?_ GE493.out) | exact HB.out)))); have n4_ := Aside0.mk (blk_below (g := gb480) (o := .cells #[.slice A0_0 l0_0.length c0_0] 43 (0, 0)) (by (with_reducible repeat (first | refine blk_drewN ?_ _ | refine blk_drew ?_ | refine blk_alloc ?_ _)); refine blk_far ?_ NB480_493.out _; (with_reducible repeat (first | refine blk_drewN ?_ _ | refine blk_drew ?_ | refine blk_alloc ?_ _)); exact BK480.out) hb); have n5_ := Aside0.mk (blk_below (g := gb493) (o := .cells #[.slice Ao57 t490.length co57] 46 (0, 0)) (by (with_reducible repeat (first | refine blk_drewN ?_ _ | refine blk_drew ?_ | refine blk_alloc ?_ _)); refine blk_put (cs := #[.slice none 0 0]) ?_ 0 _ rfl; (with_reducible repeat (first | refine blk_drewN ?_ _ | refine blk_drew ?_ | refine blk_alloc ?_ _)); exact BK493.out) hb); have n6_ := Aside0.mk (below_step (by repeat (first | (with_reducible first | exact HB.out | apply below_alloc | apply pw_below_drewN | apply below_drew1 | refine below_set ?_ GE480.out | refine below_set ?_ GE493.out) | exact HB.out)) hb); clear HO485; clear HO488; clear HO492; clear BK480; clear BK493; clear HB; have HO485 := n0_; have HO488 := n1_; have HO492 := n2_; have HO496 := n3_; have BK480 := n4_; have BK493 := n5_; have HB := n6_; clear n0_ n1_ n2_ n3_ n4_ n5_ n6_; (try clear hb); (try clear hb2); (try clear hk); (try clear hi); (try clear ho0); have hcz61_0 : w60.cell? ⟨gb493, 0, none⟩ = some (.slice Ao57 t490.length co57) := (blk_cell BK493.out 0).trans rfl; have hfz61_0 := blk_frozen BK493.out 0; obtain ⟨Ao62, co62, eo62⟩ := Kd.S_slice HO496.out; subst eo62) | ((with_reducible refine gate_callee (f := 41) rfl ?_); refine goesL_ (some 31) rfl rfl Try.func41 (by kernel_rfl) rfl #[.agg #[.slice Ao57 t490.length co57], .slice Ao62 t494.length co62] rfl (by (try simp only [List.map_toArray, List.map_cons, List.map_nil]); first | done | rfl | (simp only [List.length_drop, List.length_take]; rfl) | (simp only [show ∀ (n_ : Nat) (b_ : Int), Int.tdiv (n_ : Int) b_ = (n_ : Int) / b_ from fun n_ b_ => Int.tdiv_eq_ediv_of_nonneg (Int.natCast_nonneg n_)]; rfl)) ?_; (with_reducible refine (impl_IsPath.calls k _ _ t490 _ _ t494 t497 _ ?side1 ?side2 ?side3 ?side4 A18.out).mono ?_); (case side1 => repeat (first | exact (Kd.S_reads' HO492.out).2.2 | (with_reducible refine Kd.C_alloc ?_ _) | (with_reducible refine Kd.C_drewN ?_ _) | (with_reducible refine Kd.C_drew ?_))); (case side2 => exact (Kd.S_reads' HO492.out).2.1); (case side3 => repeat (first | exact (Kd.S_reads' HO496.out).2.2 | (with_reducible refine Kd.C_alloc ?_ _) | (with_reducible refine Kd.C_drewN ?_ _) | (with_reducible refine Kd.C_drew ?_))); (case side4 => exact (Kd.S_reads' HO496.out).2.1); rintro e w63 ⟨rfl, hb⟩; refine ⟨_, rfl, ?_⟩; have n0_ := Aside0.mk (Kd.S_below (by (with_reducible repeat (first | apply Kd.S_alloc | apply Kd.S_drewN | apply Kd.S_drew)); exact HO485.out) hb); have n1_ := Aside0.mk (Kd.S_below (by (with_reducible repeat (first | apply Kd.S_alloc | apply Kd.S_drewN | apply Kd.S_drew)); exact HO488.out) hb); have n2_ := Aside0.mk (Kd.S_below (by (with_reducible repeat (first | apply Kd.S_alloc | apply Kd.S_drewN | apply Kd.S_drew)); exact HO492.out) hb); have n3_ := Aside0.mk (Kd.S_below (by (with_reducible repeat (first | apply Kd.S_alloc | apply Kd.S_drewN | apply Kd.S_drew)); exact HO496.out) hb); have n4_ := Aside0.mk (blk_below (g := gb480) (o := .cells #[.slice A0_0 l0_0.length c0_0] 43 (0, 0)) (by (with_reducible repeat (first | refine blk_drewN ?_ _ | refine blk_drew ?_ | refine blk_alloc ?_ _)); exact BK480.out) hb); have n5_ := Aside0.mk (blk_below (g := gb493) (o := .cells #[.slice Ao57 t490.length co57] 46 (0, 0)) (by (with_reducible repeat (first | refine blk_drewN ?_ _ | refine blk_drew ?_ | refine blk_alloc ?_ _)); exact BK493.out) hb); have n6_ := Aside0.mk (below_step (by repeat (first | (with_reducible first | exact HB.out | apply below_alloc | apply pw_below_drewN | apply below_drew1 | refine below_set ?_ GE480.out | refine below_set ?_ GE493.out) | exact HB.out)) hb); clear HO485; clear HO488; clear HO492; clear HO496; clear BK480; clear BK493; clear HB; have HO485 := n0_; have HO488 := n1_; have HO492 := n2_; have HO496 := n3_; have BK480 := n4_; have BK493 := n5_; have HB := n6_; clear n0_ n1_ n2_ n3_ n4_ n5_ n6_; (try clear hb); (try clear hb2); (try clear hk); (try clear hi)))
      have n0_ := Aside0.mk (Kd.S_drew HO485.out)
      have n1_ := Aside0.mk (Kd.S_drew HO488.out)
      have n2_ := Aside0.mk (Kd.S_drew HO492.out)
      have n3_ := Aside0.mk (Kd.S_drew HO496.out)
      have n4_ := Aside0.mk (blk_drew BK480.out)
      have n5_ := Aside0.mk (blk_drew BK493.out)
      have n6_ := Aside0.mk (below_drew1 HB.out)
      clear HO485
      clear HO488
      clear HO492
      clear HO496
      clear BK480
      clear BK493
      clear HB
      have HO485 := n0_
      have HO488 := n1_
      have HO492 := n2_
      have HO496 := n3_
      have BK480 := n4_
      have BK493 := n5_
      have HB := n6_
      clear n0_ n1_ n2_ n3_ n4_ n5_ n6_
      refine start_ (n := 5) (S := fun w' => w'.cell? ⟨gb493, 0, none⟩ = some (.slice Ao57 t490.length co57) ∧ w'.cell? ⟨gb480, 0, none⟩ = some (.slice A0_0 l0_0.length c0_0)) (ds := []) #[false, false, false, false, false] (by kernel_rfl) rfl rfl ⟨(blk_cell BK493.out 0).trans rfl, (blk_cell BK480.out 0).trans rfl⟩ (fun hHeld => ?_)
      generalize w63.drew = w64 at HO485 HO488 HO492 HO496 BK480 BK493 HB hHeld ⊢
      refine take_ (i := 0) (N := some 35) (v := ?_) (a' := ?_) #[true, false, false, false, false] rfl rfl (by kernel_rfl) (fun _ _ _ h => h) (Or.inl ⟨by rfl, ?_⟩) hHeld ?_ ?_
      rotate_left
      ·rintro w' ⟨s0, s1⟩
       go_simp
       with_reducible rfl
      rotate_left
      ·simp only [Act.put, List.setIfInBounds_toArray, List.set_cons_zero, List.set_cons_succ, i64_w, i32_w]
       rfl
      refine take_ (i := 1) (N := some 36) (v := ?_) (a' := ?_) #[true, true, false, false, false] rfl rfl (by kernel_rfl) (fun _ _ _ h => h) (Or.inl ⟨by rfl, ?_⟩) hHeld ?_ ?_
      rotate_left
      ·rintro w' ⟨s0, s1⟩
       go_simp
       with_reducible rfl
      rotate_left
      ·simp only [Act.put, List.setIfInBounds_toArray, List.set_cons_zero, List.set_cons_succ, i64_w, i32_w]
       rfl
      refine one_ (i := 2) (N := some 37) #[true, true, true, false, false] rfl rfl (by kernel_rfl) (by decide) (fun K hK => ?_)
      refine goes_ Try.func31 (by kernel_rfl) rfl #[.agg #[.slice A0_0 l0_0.length c0_0]] (by rfl) rfl rfl (by (try simp only [List.map_toArray, List.map_cons, List.map_nil]); first | done | rfl | (simp only [List.length_drop, List.length_take]; rfl) | (simp only [show ∀ (n_ : Nat) (b_ : Int), Int.tdiv (n_ : Int) b_ = (n_ : Int) / b_ from fun n_ b_ => Int.tdiv_eq_ediv_of_nonneg (Int.natCast_nonneg n_)]; rfl)) ?_
      with_reducible refine (laws_toPicture.calls k _ _ l0_0 t498 _ ?side1 ?side2 A39.out).mono ?_
      (case side1 => repeat (first | exact (Kd.C_below HR0_0.out HB.out) | (with_reducible refine Kd.C_alloc ?_ _) | (with_reducible refine Kd.C_drewN ?_ _) | (with_reducible refine Kd.C_drew ?_)))
      (case side2 => exact HC0_0.out)
      rintro e w65 ⟨v499, rfl, ho0, hb⟩
      refine ⟨_, rfl, ?_⟩
      have n0_ := Aside0.mk (Kd.S_elder' (by (with_reducible repeat (first | apply Kd.S_alloc | apply Kd.S_drewN | apply Kd.S_drew)); exact HO485.out) (Kd.S_base ho0) hb)
      have n1_ := Aside0.mk (Kd.S_elder' (by (with_reducible repeat (first | apply Kd.S_alloc | apply Kd.S_drewN | apply Kd.S_drew)); exact HO488.out) (Kd.S_base ho0) hb)
      have n2_ := Aside0.mk (Kd.S_elder' (by (with_reducible repeat (first | apply Kd.S_alloc | apply Kd.S_drewN | apply Kd.S_drew)); exact HO492.out) (Kd.S_base ho0) hb)
      have n3_ := Aside0.mk (Kd.S_elder' (by (with_reducible repeat (first | apply Kd.S_alloc | apply Kd.S_drewN | apply Kd.S_drew)); exact HO496.out) (Kd.S_base ho0) hb)
      have n4_ := Aside0.mk (Kd.S_lower (Kd.S_new' (Kd.S_new' (Kd.S_new' (Kd.S_new' ho0 (Kd.S_lt (by (with_reducible repeat (first | apply Kd.S_alloc | apply Kd.S_drewN | apply Kd.S_drew)); exact HO485.out))) (Kd.S_lt (by (with_reducible repeat (first | apply Kd.S_alloc | apply Kd.S_drewN | apply Kd.S_drew)); exact HO488.out))) (Kd.S_lt (by (with_reducible repeat (first | apply Kd.S_alloc | apply Kd.S_drewN | apply Kd.S_drew)); exact HO492.out))) (Kd.S_lt (by (with_reducible repeat (first | apply Kd.S_alloc | apply Kd.S_drewN | apply Kd.S_drew)); exact HO496.out))) (below_size (by repeat (first | (with_reducible first | exact HB.out | apply below_alloc | apply pw_below_drewN | apply below_drew1 | refine below_set ?_ GE480.out | refine below_set ?_ GE493.out) | exact HB.out))))
      have n5_ := Aside0.mk (blk_below (g := gb480) (o := .cells #[.slice A0_0 l0_0.length c0_0] 43 (0, 0)) (by (with_reducible repeat (first | refine blk_drewN ?_ _ | refine blk_drew ?_ | refine blk_alloc ?_ _)); exact BK480.out) hb)
      have n6_ := Aside0.mk (blk_below (g := gb493) (o := .cells #[.slice Ao57 t490.length co57] 46 (0, 0)) (by (with_reducible repeat (first | refine blk_drewN ?_ _ | refine blk_drew ?_ | refine blk_alloc ?_ _)); exact BK493.out) hb)
      have n7_ := Aside0.mk (below_step (by repeat (first | (with_reducible first | exact HB.out | apply below_alloc | apply pw_below_drewN | apply below_drew1 | refine below_set ?_ GE480.out | refine below_set ?_ GE493.out) | exact HB.out)) hb)
      clear HO485
      clear HO488
      clear HO492
      clear HO496
      clear BK480
      clear BK493
      clear HB
      have HO485 := n0_
      have HO488 := n1_
      have HO492 := n2_
      have HO496 := n3_
      have HO500 := n4_
      have BK480 := n5_
      have BK493 := n6_
      have HB := n7_
      clear n0_ n1_ n2_ n3_ n4_ n5_ n6_ n7_
      (try clear hb)
      (try clear hb2)
      (try clear hk)
      (try clear hi)
      (try clear ho0)
      obtain ⟨Ao66, co66, eo66⟩ := Kd.S_slice HO500.out
      (first | subst eo66 | (injection eo66 with f1_ f2_ f3_; have f4_ := f1_.symm; have f5_ := f3_.symm; clear f1_ f2_ f3_; subst f4_; subst f5_))
      refine hK.out _ _ ⟨(blk_cell BK493.out 0).trans rfl, (blk_cell BK480.out 0).trans rfl⟩ (fun hHeld => ?_)
      clear hK K
      refine norm_ (a' := ?_) ?_ ?_
      rotate_left
      ·show Act.put _ (some 37) _ = _
       simp only [Act.put, List.setIfInBounds_toArray, List.set_cons_zero, List.set_cons_succ, i64_w, i32_w]
       rfl
      refine one_ (i := 3) (N := some 38) #[true, true, true, true, false] rfl rfl (by kernel_rfl) (by decide) (fun K hK => ?_)
      refine goes_ Try.func33 (by kernel_rfl) rfl #[.agg #[.slice Ao57 t490.length co57], .agg #[.slice Ao66 t498.length co66]] (by rfl) rfl rfl (by (try simp only [List.map_toArray, List.map_cons, List.map_nil]); first | done | rfl | (simp only [List.length_drop, List.length_take]; rfl) | (simp only [show ∀ (n_ : Nat) (b_ : Int), Int.tdiv (n_ : Int) b_ = (n_ : Int) / b_ from fun n_ b_ => Int.tdiv_eq_ediv_of_nonneg (Int.natCast_nonneg n_)]; rfl)) ?_
      with_reducible refine (laws_eqPicture.calls k _ _ t490 _ _ t498 true _ ?side1 ?side2 ?side3 ?side4 A40.out).mono ?_
      (case side1 => repeat (first | exact (Kd.S_reads' HO492.out).2.2 | (with_reducible refine Kd.C_alloc ?_ _) | (with_reducible refine Kd.C_drewN ?_ _) | (with_reducible refine Kd.C_drew ?_)))
      (case side2 => exact (Kd.S_reads' HO492.out).2.1)
      (case side3 => repeat (first | exact (Kd.S_reads' HO500.out).2.2 | (with_reducible refine Kd.C_alloc ?_ _) | (with_reducible refine Kd.C_drewN ?_ _) | (with_reducible refine Kd.C_drew ?_)))
      (case side4 => exact (Kd.S_reads' HO500.out).2.1)
      rintro e w67 ⟨rfl, hb⟩
      refine ⟨_, rfl, ?_⟩
      have n0_ := Aside0.mk (Kd.S_below (by (with_reducible repeat (first | apply Kd.S_alloc | apply Kd.S_drewN | apply Kd.S_drew)); exact HO485.out) hb)
      have n1_ := Aside0.mk (Kd.S_below (by (with_reducible repeat (first | apply Kd.S_alloc | apply Kd.S_drewN | apply Kd.S_drew)); exact HO488.out) hb)
      have n2_ := Aside0.mk (Kd.S_below (by (with_reducible repeat (first | apply Kd.S_alloc | apply Kd.S_drewN | apply Kd.S_drew)); exact HO492.out) hb)
      have n3_ := Aside0.mk (Kd.S_below (by (with_reducible repeat (first | apply Kd.S_alloc | apply Kd.S_drewN | apply Kd.S_drew)); exact HO496.out) hb)
      have n4_ := Aside0.mk (Kd.S_below (by (with_reducible repeat (first | apply Kd.S_alloc | apply Kd.S_drewN | apply Kd.S_drew)); exact HO500.out) hb)
      have n5_ := Aside0.mk (blk_below (g := gb480) (o := .cells #[.slice A0_0 l0_0.length c0_0] 43 (0, 0)) (by (with_reducible repeat (first | refine blk_drewN ?_ _ | refine blk_drew ?_ | refine blk_alloc ?_ _)); exact BK480.out) hb)
      have n6_ := Aside0.mk (blk_below (g := gb493) (o := .cells #[.slice Ao57 t490.length co57] 46 (0, 0)) (by (with_reducible repeat (first | refine blk_drewN ?_ _ | refine blk_drew ?_ | refine blk_alloc ?_ _)); exact BK493.out) hb)
      have n7_ := Aside0.mk (below_step (by repeat (first | (with_reducible first | exact HB.out | apply below_alloc | apply pw_below_drewN | apply below_drew1 | refine below_set ?_ GE480.out | refine below_set ?_ GE493.out) | exact HB.out)) hb)
      clear HO485
      clear HO488
      clear HO492
      clear HO496
      clear HO500
      clear BK480
      clear BK493
      clear HB
      have HO485 := n0_
      have HO488 := n1_
      have HO492 := n2_
      have HO496 := n3_
      have HO500 := n4_
      have BK480 := n5_
      have BK493 := n6_
      have HB := n7_
      clear n0_ n1_ n2_ n3_ n4_ n5_ n6_ n7_
      (try clear hb)
      (try clear hb2)
      (try clear hk)
      (try clear hi)
      refine hK.out _ _ ⟨(blk_cell BK493.out 0).trans rfl, (blk_cell BK480.out 0).trans rfl⟩ (fun hHeld => ?_)
      clear hK K
      refine norm_ (a' := ?_) ?_ ?_
      rotate_left
      ·show Act.put _ (some 38) _ = _
       simp only [Act.put, List.setIfInBounds_toArray, List.set_cons_zero, List.set_cons_succ, i64_w, i32_w]
       rfl
      refine pure_ (i := 4) (N := some 39) (v := ?_) (a' := ?_) #[true, true, true, true, true] rfl rfl (by kernel_rfl) (fun _ _ _ h => h) (Or.inl ⟨by rfl, ?_⟩) ?_ ?_
      rotate_left
      ·intro w'
       go_simp
       with_reducible rfl
      rotate_left
      ·simp only [Act.put, List.setIfInBounds_toArray, List.set_cons_zero, List.set_cons_succ, i64_w, i32_w]
       rfl
      refine done_ (by kernel_rfl) ?_
      try go_wp2_with (first | ((with_reducible refine gate_callee (f := 36) rfl ?_); refine goesL_ (some 42) rfl rfl Try.func36 (by kernel_rfl) rfl #[.slice A1 l1.length c1] rfl (by (try simp only [List.map_toArray, List.map_cons, List.map_nil]); first | done | rfl | (simp only [List.length_drop, List.length_take]; rfl) | (simp only [show ∀ (n_ : Nat) (b_ : Int), Int.tdiv (n_ : Int) b_ = (n_ : Int) / b_ from fun n_ b_ => Int.tdiv_eq_ediv_of_nonneg (Int.natCast_nonneg n_)]; rfl)) ?_; (with_reducible refine (laws_toInt64SS.calls k _ _ l1 t502 _ ?side1 ?side2 A42.out).mono ?_); (case side1 => repeat (first | exact (Kd.C_below HR1.out HB.out) | (with_reducible refine Kd.C_alloc ?_ _) | (with_reducible refine Kd.C_drewN ?_ _) | (with_reducible refine Kd.C_drew ?_))); (case side2 => exact HC1.out); rintro e w68 ⟨v503, rfl, ho0, hb⟩; refine ⟨_, rfl, ?_⟩; have n0_ := Aside0.mk (Kd.S_elder' (by (with_reducible repeat (first | apply Kd.S_alloc | apply Kd.S_drewN | apply Kd.S_drew)); exact HO485.out) (Kd.S_base ho0) hb); have n1_ := Aside0.mk (Kd.S_elder' (by (with_reducible repeat (first | apply Kd.S_alloc | apply Kd.S_drewN | apply Kd.S_drew)); exact HO488.out) (Kd.S_base ho0) hb); have n2_ := Aside0.mk (Kd.S_elder' (by (with_reducible repeat (first | apply Kd.S_alloc | apply Kd.S_drewN | apply Kd.S_drew)); exact HO492.out) (Kd.S_base ho0) hb); have n3_ := Aside0.mk (Kd.S_elder' (by (with_reducible repeat (first | apply Kd.S_alloc | apply Kd.S_drewN | apply Kd.S_drew)); exact HO496.out) (Kd.S_base ho0) hb); have n4_ := Aside0.mk (Kd.S_elder' (by (with_reducible repeat (first | apply Kd.S_alloc | apply Kd.S_drewN | apply Kd.S_drew)); exact HO500.out) (Kd.S_base ho0) hb); have n5_ := Aside0.mk (Kd.S_lower (Kd.S_new' (Kd.S_new' (Kd.S_new' (Kd.S_new' (Kd.S_new' ho0 (Kd.S_lt (by (with_reducible repeat (first | apply Kd.S_alloc | apply Kd.S_drewN | apply Kd.S_drew)); exact HO485.out))) (Kd.S_lt (by (with_reducible repeat (first | apply Kd.S_alloc | apply Kd.S_drewN | apply Kd.S_drew)); exact HO488.out))) (Kd.S_lt (by (with_reducible repeat (first | apply Kd.S_alloc | apply Kd.S_drewN | apply Kd.S_drew)); exact HO492.out))) (Kd.S_lt (by (with_reducible repeat (first | apply Kd.S_alloc | apply Kd.S_drewN | apply Kd.S_drew)); exact HO496.out))) (Kd.S_lt (by (with_reducible repeat (first | apply Kd.S_alloc | apply Kd.S_drewN | apply Kd.S_drew)); exact HO500.out))) (below_size (by repeat (first | (with_reducible first | exact HB.out | apply below_alloc | apply pw_below_drewN | apply below_drew1 | refine below_set ?_ GE480.out | refine below_set ?_ GE493.out) | exact HB.out)))); have n6_ := Aside0.mk (blk_below (g := gb480) (o := .cells #[.slice A0_0 l0_0.length c0_0] 43 (0, 0)) (by (with_reducible repeat (first | refine blk_drewN ?_ _ | refine blk_drew ?_ | refine blk_alloc ?_ _)); exact BK480.out) hb); have n7_ := Aside0.mk (blk_below (g := gb493) (o := .cells #[.slice Ao57 t490.length co57] 46 (0, 0)) (by (with_reducible repeat (first | refine blk_drewN ?_ _ | refine blk_drew ?_ | refine blk_alloc ?_ _)); exact BK493.out) hb); have n8_ := Aside0.mk (below_step (by repeat (first | (with_reducible first | exact HB.out | apply below_alloc | apply pw_below_drewN | apply below_drew1 | refine below_set ?_ GE480.out | refine below_set ?_ GE493.out) | exact HB.out)) hb); clear HO485; clear HO488; clear HO492; clear HO496; clear HO500; clear BK480; clear BK493; clear HB; have HO485 := n0_; have HO488 := n1_; have HO492 := n2_; have HO496 := n3_; have HO500 := n4_; have HO504 := n5_; have BK480 := n6_; have BK493 := n7_; have HB := n8_; clear n0_ n1_ n2_ n3_ n4_ n5_ n6_ n7_ n8_; (try clear hb); (try clear hb2); (try clear hk); (try clear hi); (try clear ho0); obtain ⟨Ao69, co69, eo69⟩ := Kd.S_slice HO504.out; subst eo69) | ((with_reducible refine gate_callee (f := 26) rfl ?_); refine goesL_ (some 43) rfl rfl Try.func26 (by kernel_rfl) rfl #[.slice Ao62 t494.length co62, .slice Ao69 t502.length co69] rfl (by (try simp only [List.map_toArray, List.map_cons, List.map_nil]); first | done | rfl | (simp only [List.length_drop, List.length_take]; rfl) | (simp only [show ∀ (n_ : Nat) (b_ : Int), Int.tdiv (n_ : Int) b_ = (n_ : Int) / b_ from fun n_ b_ => Int.tdiv_eq_ediv_of_nonneg (Int.natCast_nonneg n_)]; rfl)) ?_; (with_reducible refine (laws_eqInt64SS.calls k _ _ t494 _ _ t502 true _ ?side1 ?side2 ?side3 ?side4 A43.out).mono ?_); (case side1 => repeat (first | exact (Kd.S_reads' HO496.out).2.2 | (with_reducible refine Kd.C_alloc ?_ _) | (with_reducible refine Kd.C_drewN ?_ _) | (with_reducible refine Kd.C_drew ?_))); (case side2 => exact (Kd.S_reads' HO496.out).2.1); (case side3 => repeat (first | exact (Kd.S_reads' HO504.out).2.2 | (with_reducible refine Kd.C_alloc ?_ _) | (with_reducible refine Kd.C_drewN ?_ _) | (with_reducible refine Kd.C_drew ?_))); (case side4 => exact (Kd.S_reads' HO504.out).2.1); rintro e w' ⟨rfl, ⟨nd, rfl⟩⟩; refine ⟨_, rfl, ?_⟩))
      go_ret
      exact ⟨by first | rfl | (simp [errW_none, errW_some] <;> rfl) | (simp [*, errW_none, errW_some] <;> rfl), by repeat (first | (with_reducible first | exact HB.out | apply below_alloc | apply pw_below_drewN | apply below_drew1 | refine below_set ?_ GE480.out | refine below_set ?_ GE493.out) | exact HB.out)⟩
     ·replace c44 := Bool.eq_false_iff.mpr c44
      subst c44
      have H1 : (some false) = some r := by rw [if_neg (show ¬ (false = true) by decide)] at H; exact H
      clear H
      have H := H1
      clear H1
      obtain rfl := Option.some.inj H
      go_enter Try.func9, Try.ntmps9
      try go_wp2_with (first | ((with_reducible refine gate_dst (N := 2) rfl ?_); refine box_event ?hg (N := 2) ?hd (cs := #[.slice A0_0 l0_0.length c0_0]) (t := 43) ?hr ?_; (case hd => rfl); (case hg => rfl); (case hr => first | (go_simp; done) | (go_simp; rfl)); intro gb480 hg w70 hbox hb; have n0_ := Aside0.mk (below_step (by repeat (first | (with_reducible first | exact HB.out | apply below_alloc | apply pw_below_drewN | apply below_drew1) | exact HB.out)) hb); have n1_ := Aside0.mk (hbox); have n2_ := Aside0.mk ((by rw [hg]; exact (below_size (by repeat (first | (with_reducible first | exact HB.out | apply below_alloc | apply pw_below_drewN | apply below_drew1) | exact HB.out))) : w.heap.size ≤ gb480)); have n3_ := Aside0.mk ((by rw [hg]; exact (below_size (by repeat (first | (with_reducible first | exact HB.out | apply below_alloc | apply pw_below_drewN | apply below_drew1) | exact HB.out))) : w.heap.size ≤ gb480)); clear HB; have HB := n0_; have BK480 := n1_; have GW480 := n2_; have GE480 := n3_; clear n0_ n1_ n2_ n3_; clear hb hbox hg; have hcz71_0 : w70.cell? ⟨gb480, 0, none⟩ = some (.slice A0_0 l0_0.length c0_0) := (blk_cell BK480.out 0).trans rfl; have hfz71_0 := blk_frozen BK480.out 0) | ((with_reducible refine gate_callee (f := 29) rfl ?_); refine goesL_ (some 12) rfl rfl Try.func29 (by kernel_rfl) rfl #[.agg #[.slice A0_0 l0_0.length c0_0], .int .i64 1048576] rfl (by (try simp only [List.map_toArray, List.map_cons, List.map_nil]); first | done | rfl | (simp only [List.length_drop, List.length_take]; rfl) | (simp only [show ∀ (n_ : Nat) (b_ : Int), Int.tdiv (n_ : Int) b_ = (n_ : Int) / b_ from fun n_ b_ => Int.tdiv_eq_ediv_of_nonneg (Int.natCast_nonneg n_)]; rfl)) ?_; (with_reducible refine (laws_szPicture.calls k _ _ l0_0 1048576 t481 _ ?side1 ?side2 A3.out).mono ?_); (case side1 => repeat (first | exact (Kd.C_below HR0_0.out HB.out) | (with_reducible refine Kd.C_alloc ?_ _) | (with_reducible refine Kd.C_drewN ?_ _) | (with_reducible refine Kd.C_drew ?_))); (case side2 => exact HC0_0.out); rintro e w72 ⟨rfl, hb⟩; refine ⟨_, rfl, ?_⟩; have n0_ := Aside0.mk (blk_below (g := gb480) (o := .cells #[.slice A0_0 l0_0.length c0_0] 43 (0, 0)) (by (with_reducible repeat (first | refine blk_drewN ?_ _ | refine blk_drew ?_ | refine blk_alloc ?_ _)); exact BK480.out) hb); have n1_ := Aside0.mk (below_step (by repeat (first | (with_reducible first | exact HB.out | apply below_alloc | apply pw_below_drewN | apply below_drew1 | refine below_set ?_ GE480.out) | exact HB.out)) hb); clear BK480; clear HB; have BK480 := n0_; have HB := n1_; clear n0_ n1_; (try clear hb); (try clear hb2); (try clear hk); (try clear hi)) | ((with_reducible refine gate_callee (f := 34) rfl ?_); refine goesL_ (some 17) rfl rfl Try.func34 (by kernel_rfl) rfl #[.slice A1 l1.length c1, .int .i64 t481] rfl (by (try simp only [List.map_toArray, List.map_cons, List.map_nil]); first | done | rfl | (simp only [List.length_drop, List.length_take]; rfl) | (simp only [show ∀ (n_ : Nat) (b_ : Int), Int.tdiv (n_ : Int) b_ = (n_ : Int) / b_ from fun n_ b_ => Int.tdiv_eq_ediv_of_nonneg (Int.natCast_nonneg n_)]; rfl)) ?_; (with_reducible refine (laws_szInt64SS.calls k _ _ l1 t481 t482 _ ?side1 ?side2 A8.out).mono ?_); (case side1 => repeat (first | exact (Kd.C_below HR1.out HB.out) | (with_reducible refine Kd.C_alloc ?_ _) | (with_reducible refine Kd.C_drewN ?_ _) | (with_reducible refine Kd.C_drew ?_))); (case side2 => exact HC1.out); rintro e w' ⟨rfl, ⟨nd, rfl⟩⟩; refine ⟨_, rfl, ?_⟩; (try (rw [drewN_self w72]; generalize hq_ : World.drewN w72 _ = w72; have n0_ : Aside0 (w72.heap[gb480]? = some (.cells #[.slice A0_0 l0_0.length c0_0] 43 (0, 0))) := ⟨by rw [← hq_]; exact (by (with_reducible repeat (first | refine blk_drewN ?_ _ | refine blk_drew ?_ | refine blk_alloc ?_ _)); exact BK480.out)⟩; have n1_ : Aside0 (Below w.heap.size w w72) := ⟨by rw [← hq_]; exact (by repeat (first | (with_reducible first | exact HB.out | apply below_alloc | apply pw_below_drewN | apply below_drew1 | refine below_set ?_ GE480.out) | exact HB.out))⟩; clear BK480 HB hq_; have BK480 := n0_; have HB := n1_; clear n0_ n1_)); have hcz73_0 : w72.cell? ⟨gb480, 0, none⟩ = some (.slice A0_0 l0_0.length c0_0) := (blk_cell BK480.out 0).trans rfl; have hfz73_0 := blk_frozen BK480.out 0) | ((with_reducible refine gate_callee (f := 31) rfl ?_); refine goesL_ (some 21) rfl rfl Try.func31 (by kernel_rfl) rfl #[.agg #[.slice A0_0 l0_0.length c0_0]] rfl (by (try simp only [List.map_toArray, List.map_cons, List.map_nil]); first | done | rfl | (simp only [List.length_drop, List.length_take]; rfl) | (simp only [show ∀ (n_ : Nat) (b_ : Int), Int.tdiv (n_ : Int) b_ = (n_ : Int) / b_ from fun n_ b_ => Int.tdiv_eq_ediv_of_nonneg (Int.natCast_nonneg n_)]; rfl)) ?_; (with_reducible refine (laws_toPicture.calls k _ _ l0_0 t483 _ ?side1 ?side2 A13.out).mono ?_); (case side1 => repeat (first | exact (Kd.C_below HR0_0.out HB.out) | (with_reducible refine Kd.C_alloc ?_ _) | (with_reducible refine Kd.C_drewN ?_ _) | (with_reducible refine Kd.C_drew ?_))); (case side2 => exact HC0_0.out); rintro e w74 ⟨v484, rfl, ho0, hb⟩; refine ⟨_, rfl, ?_⟩; have n0_ := Aside0.mk (Kd.S_lower ho0 (below_size (by repeat (first | (with_reducible first | exact HB.out | apply below_alloc | apply pw_below_drewN | apply below_drew1 | refine below_set ?_ GE480.out) | exact HB.out)))); have n1_ := Aside0.mk (blk_below (g := gb480) (o := .cells #[.slice A0_0 l0_0.length c0_0] 43 (0, 0)) (by (with_reducible repeat (first | refine blk_drewN ?_ _ | refine blk_drew ?_ | refine blk_alloc ?_ _)); exact BK480.out) hb); have n2_ := Aside0.mk (below_step (by repeat (first | (with_reducible first | exact HB.out | apply below_alloc | apply pw_below_drewN | apply below_drew1 | refine below_set ?_ GE480.out) | exact HB.out)) hb); clear BK480; clear HB; have HO485 := n0_; have BK480 := n1_; have HB := n2_; clear n0_ n1_ n2_; (try clear hb); (try clear hb2); (try clear hk); (try clear hi); (try clear ho0)) | ((with_reducible refine gate_callee (f := 36) rfl ?_); refine goesL_ (some 23) rfl rfl Try.func36 (by kernel_rfl) rfl #[.slice A1 l1.length c1] rfl (by (try simp only [List.map_toArray, List.map_cons, List.map_nil]); first | done | rfl | (simp only [List.length_drop, List.length_take]; rfl) | (simp only [show ∀ (n_ : Nat) (b_ : Int), Int.tdiv (n_ : Int) b_ = (n_ : Int) / b_ from fun n_ b_ => Int.tdiv_eq_ediv_of_nonneg (Int.natCast_nonneg n_)]; rfl)) ?_; (with_reducible refine (laws_toInt64SS.calls k _ _ l1 t486 _ ?side1 ?side2 A14.out).mono ?_); (case side1 => repeat (first | exact (Kd.C_below HR1.out HB.out) | (with_reducible refine Kd.C_alloc ?_ _) | (with_reducible refine Kd.C_drewN ?_ _) | (with_reducible refine Kd.C_drew ?_))); (case side2 => exact HC1.out); rintro e w75 ⟨v487, rfl, ho0, hb⟩; refine ⟨_, rfl, ?_⟩; have n0_ := Aside0.mk (Kd.S_elder' (by (with_reducible repeat (first | apply Kd.S_alloc | apply Kd.S_drewN | apply Kd.S_drew)); exact HO485.out) (Kd.S_base ho0) hb); have n1_ := Aside0.mk (Kd.S_lower (Kd.S_new' ho0 (Kd.S_lt (by (with_reducible repeat (first | apply Kd.S_alloc | apply Kd.S_drewN | apply Kd.S_drew)); exact HO485.out))) (below_size (by repeat (first | (with_reducible first | exact HB.out | apply below_alloc | apply pw_below_drewN | apply below_drew1 | refine below_set ?_ GE480.out) | exact HB.out)))); have n2_ := Aside0.mk (blk_below (g := gb480) (o := .cells #[.slice A0_0 l0_0.length c0_0] 43 (0, 0)) (by (with_reducible repeat (first | refine blk_drewN ?_ _ | refine blk_drew ?_ | refine blk_alloc ?_ _)); exact BK480.out) hb); have n3_ := Aside0.mk (below_step (by repeat (first | (with_reducible first | exact HB.out | apply below_alloc | apply pw_below_drewN | apply below_drew1 | refine below_set ?_ GE480.out) | exact HB.out)) hb); clear HO485; clear BK480; clear HB; have HO485 := n0_; have HO488 := n1_; have BK480 := n2_; have HB := n3_; clear n0_ n1_ n2_ n3_; (try clear hb); (try clear hb2); (try clear hk); (try clear hi); (try clear ho0); obtain ⟨Ao76, co76, eo76⟩ := Kd.S_slice HO485.out; subst eo76; obtain ⟨Ao77, co77, eo77⟩ := Kd.S_slice HO488.out; subst eo77) | ((with_reducible refine gate_callee (f := 40) rfl ?_); refine goesL_ (some 24) rfl rfl Try.func40 (by kernel_rfl) rfl #[.agg #[.slice Ao76 t483.length co76], .slice Ao77 t486.length co77] rfl (by (try simp only [List.map_toArray, List.map_cons, List.map_nil]); first | done | rfl | (simp only [List.length_drop, List.length_take]; rfl) | (simp only [show ∀ (n_ : Nat) (b_ : Int), Int.tdiv (n_ : Int) b_ = (n_ : Int) / b_ from fun n_ b_ => Int.tdiv_eq_ediv_of_nonneg (Int.natCast_nonneg n_)]; rfl)) ?_; (with_reducible refine (spec_IsPath.calls k _ _ t483 _ _ t486 t489 _ ?side1 ?side2 ?side3 ?side4 A15.out).mono ?_); (case side1 => repeat (first | exact (Kd.S_reads' HO485.out).2.2 | (with_reducible refine Kd.C_alloc ?_ _) | (with_reducible refine Kd.C_drewN ?_ _) | (with_reducible refine Kd.C_drew ?_))); (case side2 => exact (Kd.S_reads' HO485.out).2.1); (case side3 => repeat (first | exact (Kd.S_reads' HO488.out).2.2 | (with_reducible refine Kd.C_alloc ?_ _) | (with_reducible refine Kd.C_drewN ?_ _) | (with_reducible refine Kd.C_drew ?_))); (case side4 => exact (Kd.S_reads' HO488.out).2.1); rintro e w78 ⟨rfl, hb⟩; refine ⟨_, rfl, ?_⟩; have n0_ := Aside0.mk (Kd.S_below (by (with_reducible repeat (first | apply Kd.S_alloc | apply Kd.S_drewN | apply Kd.S_drew)); exact HO485.out) hb); have n1_ := Aside0.mk (Kd.S_below (by (with_reducible repeat (first | apply Kd.S_alloc | apply Kd.S_drewN | apply Kd.S_drew)); exact HO488.out) hb); have n2_ := Aside0.mk (blk_below (g := gb480) (o := .cells #[.slice A0_0 l0_0.length c0_0] 43 (0, 0)) (by (with_reducible repeat (first | refine blk_drewN ?_ _ | refine blk_drew ?_ | refine blk_alloc ?_ _)); exact BK480.out) hb); have n3_ := Aside0.mk (below_step (by repeat (first | (with_reducible first | exact HB.out | apply below_alloc | apply pw_below_drewN | apply below_drew1 | refine below_set ?_ GE480.out) | exact HB.out)) hb); clear HO485; clear HO488; clear BK480; clear HB; have HO485 := n0_; have HO488 := n1_; have BK480 := n2_; have HB := n3_; clear n0_ n1_ n2_ n3_; (try clear hb); (try clear hb2); (try clear hk); (try clear hi); have hcz79_0 : w78.cell? ⟨gb480, 0, none⟩ = some (.slice A0_0 l0_0.length c0_0) := (blk_cell BK480.out 0).trans rfl; have hfz79_0 := blk_frozen BK480.out 0) | ((with_reducible refine gate_callee (f := 31) rfl ?_); refine goesL_ (some 26) rfl rfl Try.func31 (by kernel_rfl) rfl #[.agg #[.slice A0_0 l0_0.length c0_0]] rfl (by (try simp only [List.map_toArray, List.map_cons, List.map_nil]); first | done | rfl | (simp only [List.length_drop, List.length_take]; rfl) | (simp only [show ∀ (n_ : Nat) (b_ : Int), Int.tdiv (n_ : Int) b_ = (n_ : Int) / b_ from fun n_ b_ => Int.tdiv_eq_ediv_of_nonneg (Int.natCast_nonneg n_)]; rfl)) ?_; (with_reducible refine (laws_toPicture.calls k _ _ l0_0 t490 _ ?side1 ?side2 A16.out).mono ?_); (case side1 => repeat (first | exact (Kd.C_below HR0_0.out HB.out) | (with_reducible refine Kd.C_alloc ?_ _) | (with_reducible refine Kd.C_drewN ?_ _) | (with_reducible refine Kd.C_drew ?_))); (case side2 => exact HC0_0.out); rintro e w80 ⟨v491, rfl, ho0, hb⟩; refine ⟨_, rfl, ?_⟩; have n0_ := Aside0.mk (Kd.S_elder' (by (with_reducible repeat (first | apply Kd.S_alloc | apply Kd.S_drewN | apply Kd.S_drew)); exact HO485.out) (Kd.S_base ho0) hb); have n1_ := Aside0.mk (Kd.S_elder' (by (with_reducible repeat (first | apply Kd.S_alloc | apply Kd.S_drewN | apply Kd.S_drew)); exact HO488.out) (Kd.S_base ho0) hb); have n2_ := Aside0.mk (Kd.S_lower (Kd.S_new' (Kd.S_new' ho0 (Kd.S_lt (by (with_reducible repeat (first | apply Kd.S_alloc | apply Kd.S_drewN | apply Kd.S_drew)); exact HO485.out))) (Kd.S_lt (by (with_reducible repeat (first | apply Kd.S_alloc | apply Kd.S_drewN | apply Kd.S_drew)); exact HO488.out))) (below_size (by repeat (first | (with_reducible first | exact HB.out | apply below_alloc | apply pw_below_drewN | apply below_drew1 | refine below_set ?_ GE480.out) | exact HB.out)))); have n3_ := Aside0.mk (blk_below (g := gb480) (o := .cells #[.slice A0_0 l0_0.length c0_0] 43 (0, 0)) (by (with_reducible repeat (first | refine blk_drewN ?_ _ | refine blk_drew ?_ | refine blk_alloc ?_ _)); exact BK480.out) hb); have n4_ := Aside0.mk (below_step (by repeat (first | (with_reducible first | exact HB.out | apply below_alloc | apply pw_below_drewN | apply below_drew1 | refine below_set ?_ GE480.out) | exact HB.out)) hb); clear HO485; clear HO488; clear BK480; clear HB; have HO485 := n0_; have HO488 := n1_; have HO492 := n2_; have BK480 := n3_; have HB := n4_; clear n0_ n1_ n2_ n3_ n4_; (try clear hb); (try clear hb2); (try clear hk); (try clear hi); (try clear ho0)) | ((with_reducible refine gate_dst (N := 7) rfl ?_); refine box_event ?hg (N := 7) ?hd (cs := #[.slice none 0 0]) (t := 46) ?hr ?_; (case hd => rfl); (case hg => rfl); (case hr => first | (go_simp; done) | (go_simp; rfl)); intro gb493 hg w81 hbox hb; have n0_ := Aside0.mk (Kd.S_below (by (with_reducible repeat (first | apply Kd.S_alloc | apply Kd.S_drewN | apply Kd.S_drew)); exact HO485.out) hb); have n1_ := Aside0.mk (Kd.S_below (by (with_reducible repeat (first | apply Kd.S_alloc | apply Kd.S_drewN | apply Kd.S_drew)); exact HO488.out) hb); have n2_ := Aside0.mk (Kd.S_below (by (with_reducible repeat (first | apply Kd.S_alloc | apply Kd.S_drewN | apply Kd.S_drew)); exact HO492.out) hb); have n3_ := Aside0.mk (blk_below (g := gb480) (o := .cells #[.slice A0_0 l0_0.length c0_0] 43 (0, 0)) (by (with_reducible repeat (first | refine blk_drewN ?_ _ | refine blk_drew ?_ | refine blk_alloc ?_ _)); exact BK480.out) hb); have n4_ := Aside0.mk (below_step (by repeat (first | (with_reducible first | exact HB.out | apply below_alloc | apply pw_below_drewN | apply below_drew1 | refine below_set ?_ GE480.out) | exact HB.out)) hb); have n5_ := Aside0.mk (hbox); have n6_ := Aside0.mk ((by rw [hg]; exact (below_size (by repeat (first | (with_reducible first | exact HB.out | apply below_alloc | apply pw_below_drewN | apply below_drew1 | refine below_set ?_ GE480.out) | exact HB.out))) : w.heap.size ≤ gb493)); have n7_ := Aside0.mk ((by rw [hg]; exact (below_size (by repeat (first | (with_reducible first | exact HB.out | apply below_alloc | apply pw_below_drewN | apply below_drew1 | refine below_set ?_ GE480.out) | exact HB.out))) : w.heap.size ≤ gb493)); have n8_ := Aside0.mk ((by rw [hg]; exact Nat.ne_of_lt (blk_lt (g := gb480) (o := .cells #[.slice A0_0 l0_0.length c0_0] 43 (0, 0)) (by (with_reducible repeat (first | refine blk_drewN ?_ _ | refine blk_drew ?_ | refine blk_alloc ?_ _)); exact BK480.out)) : gb480 ≠ gb493)); have n9_ := Aside0.mk ((by rw [hg]; exact Nat.ne_of_gt (blk_lt (g := gb480) (o := .cells #[.slice A0_0 l0_0.length c0_0] 43 (0, 0)) (by (with_reducible repeat (first | refine blk_drewN ?_ _ | refine blk_drew ?_ | refine blk_alloc ?_ _)); exact BK480.out)) : gb493 ≠ gb480)); clear HO485; clear HO488; clear HO492; clear BK480; clear HB; have HO485 := n0_; have HO488 := n1_; have HO492 := n2_; have BK480 := n3_; have HB := n4_; have BK493 := n5_; have GW493 := n6_; have GE493 := n7_; have NB480_493 := n8_; have NB493_480 := n9_; clear n0_ n1_ n2_ n3_ n4_ n5_ n6_ n7_ n8_ n9_; clear hb hbox hg; obtain ⟨Ao82, co82, eo82⟩ := Kd.S_slice HO492.out; subst eo82; have hnb83 := NB493_480.out; have hnc83 := NB480_493.out; have hcz84_0 : w81.cell? ⟨gb493, 0, none⟩ = some (.slice none 0 0) := (blk_cell BK493.out 0).trans rfl; have hfz84_0 := blk_frozen BK493.out 0) | ((with_reducible refine gate_callee (f := 36) rfl ?_); refine goesL_ (some 28) rfl rfl Try.func36 (by kernel_rfl) rfl #[.slice A1 l1.length c1] rfl (by (try simp only [List.map_toArray, List.map_cons, List.map_nil]); first | done | rfl | (simp only [List.length_drop, List.length_take]; rfl) | (simp only [show ∀ (n_ : Nat) (b_ : Int), Int.tdiv (n_ : Int) b_ = (n_ : Int) / b_ from fun n_ b_ => Int.tdiv_eq_ediv_of_nonneg (Int.natCast_nonneg n_)]; rfl)) ?_; (with_reducible refine (laws_toInt64SS.calls k _ _ l1 t494 _ ?side1 ?side2 A17.out).mono ?_); (case side1 => exact Kd.C_below HR1.out (by repeat (first | (with_reducible first | exact HB.out | apply below_alloc | apply pw_below_drewN | apply below_drew1 | refine below_set ?_ GE480.out | refine below_set ?_ GE493.out) | exact HB.out))); (case side2 => exact HC1.out); rintro e w85 ⟨v495, rfl, ho0, hb⟩; refine ⟨_, rfl, ?_⟩; have n0_ := Aside0.mk (Kd.S_elder' (by (with_reducible repeat (first | apply Kd.S_alloc | apply Kd.S_drewN | apply Kd.S_drew)); exact (Kd.S_mono (Kd.S_far (p := ⟨gb493, 0, none⟩) (Kd.S_types HO485.out BK493.out (by decide)) (fun _ hk => hk.2) (.slice Ao82 t490.length co82)) (fun _ h_ => h_.1))) (Kd.S_base ho0) hb); have n1_ := Aside0.mk (Kd.S_elder' (by (with_reducible repeat (first | apply Kd.S_alloc | apply Kd.S_drewN | apply Kd.S_drew)); exact (Kd.S_mono (Kd.S_far (p := ⟨gb493, 0, none⟩) (Kd.S_types HO488.out BK493.out (by decide)) (fun _ hk => hk.2) (.slice Ao82 t490.length co82)) (fun _ h_ => h_.1))) (Kd.S_base ho0) hb); have n2_ := Aside0.mk (Kd.S_elder' (by (with_reducible repeat (first | apply Kd.S_alloc | apply Kd.S_drewN | apply Kd.S_drew)); exact (Kd.S_mono (Kd.S_far (p := ⟨gb493, 0, none⟩) (Kd.S_types HO492.out BK493.out (by decide)) (fun _ hk => hk.2) (.slice Ao82 t490.length co82)) (fun _ h_ => h_.1))) (Kd.S_base ho0) hb); have n3_ := Aside0.mk (Kd.S_lower (Kd.S_new' (Kd.S_new' (Kd.S_new' ho0 (Kd.S_lt (by (with_reducible repeat (first | apply Kd.S_alloc | apply Kd.S_drewN | apply Kd.S_drew)); exact (Kd.S_mono (Kd.S_far (p := ⟨gb493, 0, none⟩) (Kd.S_types HO485.out BK493.out (by decide)) (fun _ hk => hk.2) (.slice Ao82 t490.length co82)) (fun _ h_ => h_.1))))) (Kd.S_lt (by (with_reducible repeat (first | apply Kd.S_alloc | apply Kd.S_drewN | apply Kd.S_drew)); exact (Kd.S_mono (Kd.S_far (p := ⟨gb493, 0, none⟩) (Kd.S_types HO488.out BK493.out (by decide)) (fun _ hk => hk.2) (.slice Ao82 t490.length co82)) (fun _ h_ => h_.1))))) (Kd.S_lt (by (with_reducible repeat (first | apply Kd.S_alloc | apply Kd.S_drewN | apply Kd.S_drew)); exact (Kd.S_mono (Kd.S_far (p := ⟨gb493, 0, none⟩) (Kd.S_types HO492.out BK493.out (by decide)) (fun _ hk => hk.2) (.slice Ao82 t490.length co82)) (fun _ h_ => h_.1))))) (below_size (by repeat (first | (with_reducible first | exact HB.out | apply below_alloc | apply pw_below_drewN | apply below_drew1 | refine below_set ?_ GE480.out | refine below_set ?_ GE493.out) | exact HB.out)))); have n4_ := Aside0.mk (blk_below (g := gb480) (o := .cells #[.slice A0_0 l0_0.length c0_0] 43 (0, 0)) (by (with_reducible repeat (first | refine blk_drewN ?_ _ | refine blk_drew ?_ | refine blk_alloc ?_ _)); refine blk_far ?_ NB480_493.out _; (with_reducible repeat (first | refine blk_drewN ?_ _ | refine blk_drew ?_ | refine blk_alloc ?_ _)); exact BK480.out) hb); have n5_ := Aside0.mk (blk_below (g := gb493) (o := .cells #[.slice Ao82 t490.length co82] 46 (0, 0)) (by (with_reducible repeat (first | refine blk_drewN ?_ _ | refine blk_drew ?_ | refine blk_alloc ?_ _)); refine blk_put (cs := #[.slice none 0 0]) ?_ 0 _ rfl; (with_reducible repeat (first | refine blk_drewN ?_ _ | refine blk_drew ?_ | refine blk_alloc ?_ _)); exact BK493.out) hb); have n6_ := Aside0.mk (below_step (by repeat (first | (with_reducible first | exact HB.out | apply below_alloc | apply pw_below_drewN | apply below_drew1 | refine below_set ?_ GE480.out | refine below_set ?_ GE493.out) | exact HB.out)) hb); clear HO485; clear HO488; clear HO492; clear BK480; clear BK493; clear HB; have HO485 := n0_; have HO488 := n1_; have HO492 := n2_; have HO496 := n3_; have BK480 := n4_; have BK493 := n5_; have HB := n6_; clear n0_ n1_ n2_ n3_ n4_ n5_ n6_; (try clear hb); (try clear hb2); (try clear hk); (try clear hi); (try clear ho0); have hcz86_0 : w85.cell? ⟨gb493, 0, none⟩ = some (.slice Ao82 t490.length co82) := (blk_cell BK493.out 0).trans rfl; have hfz86_0 := blk_frozen BK493.out 0; obtain ⟨Ao87, co87, eo87⟩ := Kd.S_slice HO496.out; subst eo87) | ((with_reducible refine gate_callee (f := 41) rfl ?_); refine goesL_ (some 31) rfl rfl Try.func41 (by kernel_rfl) rfl #[.agg #[.slice Ao82 t490.length co82], .slice Ao87 t494.length co87] rfl (by (try simp only [List.map_toArray, List.map_cons, List.map_nil]); first | done | rfl | (simp only [List.length_drop, List.length_take]; rfl) | (simp only [show ∀ (n_ : Nat) (b_ : Int), Int.tdiv (n_ : Int) b_ = (n_ : Int) / b_ from fun n_ b_ => Int.tdiv_eq_ediv_of_nonneg (Int.natCast_nonneg n_)]; rfl)) ?_; (with_reducible refine (impl_IsPath.calls k _ _ t490 _ _ t494 t497 _ ?side1 ?side2 ?side3 ?side4 A18.out).mono ?_); (case side1 => repeat (first | exact (Kd.S_reads' HO492.out).2.2 | (with_reducible refine Kd.C_alloc ?_ _) | (with_reducible refine Kd.C_drewN ?_ _) | (with_reducible refine Kd.C_drew ?_))); (case side2 => exact (Kd.S_reads' HO492.out).2.1); (case side3 => repeat (first | exact (Kd.S_reads' HO496.out).2.2 | (with_reducible refine Kd.C_alloc ?_ _) | (with_reducible refine Kd.C_drewN ?_ _) | (with_reducible refine Kd.C_drew ?_))); (case side4 => exact (Kd.S_reads' HO496.out).2.1); rintro e w88 ⟨rfl, hb⟩; refine ⟨_, rfl, ?_⟩; have n0_ := Aside0.mk (Kd.S_below (by (with_reducible repeat (first | apply Kd.S_alloc | apply Kd.S_drewN | apply Kd.S_drew)); exact HO485.out) hb); have n1_ := Aside0.mk (Kd.S_below (by (with_reducible repeat (first | apply Kd.S_alloc | apply Kd.S_drewN | apply Kd.S_drew)); exact HO488.out) hb); have n2_ := Aside0.mk (Kd.S_below (by (with_reducible repeat (first | apply Kd.S_alloc | apply Kd.S_drewN | apply Kd.S_drew)); exact HO492.out) hb); have n3_ := Aside0.mk (Kd.S_below (by (with_reducible repeat (first | apply Kd.S_alloc | apply Kd.S_drewN | apply Kd.S_drew)); exact HO496.out) hb); have n4_ := Aside0.mk (blk_below (g := gb480) (o := .cells #[.slice A0_0 l0_0.length c0_0] 43 (0, 0)) (by (with_reducible repeat (first | refine blk_drewN ?_ _ | refine blk_drew ?_ | refine blk_alloc ?_ _)); exact BK480.out) hb); have n5_ := Aside0.mk (blk_below (g := gb493) (o := .cells #[.slice Ao82 t490.length co82] 46 (0, 0)) (by (with_reducible repeat (first | refine blk_drewN ?_ _ | refine blk_drew ?_ | refine blk_alloc ?_ _)); exact BK493.out) hb); have n6_ := Aside0.mk (below_step (by repeat (first | (with_reducible first | exact HB.out | apply below_alloc | apply pw_below_drewN | apply below_drew1 | refine below_set ?_ GE480.out | refine below_set ?_ GE493.out) | exact HB.out)) hb); clear HO485; clear HO488; clear HO492; clear HO496; clear BK480; clear BK493; clear HB; have HO485 := n0_; have HO488 := n1_; have HO492 := n2_; have HO496 := n3_; have BK480 := n4_; have BK493 := n5_; have HB := n6_; clear n0_ n1_ n2_ n3_ n4_ n5_ n6_; (try clear hb); (try clear hb2); (try clear hk); (try clear hi)))
      have n0_ := Aside0.mk (Kd.S_drew HO485.out)
      have n1_ := Aside0.mk (Kd.S_drew HO488.out)
      have n2_ := Aside0.mk (Kd.S_drew HO492.out)
      have n3_ := Aside0.mk (Kd.S_drew HO496.out)
      have n4_ := Aside0.mk (blk_drew BK480.out)
      have n5_ := Aside0.mk (blk_drew BK493.out)
      have n6_ := Aside0.mk (below_drew1 HB.out)
      clear HO485
      clear HO488
      clear HO492
      clear HO496
      clear BK480
      clear BK493
      clear HB
      have HO485 := n0_
      have HO488 := n1_
      have HO492 := n2_
      have HO496 := n3_
      have BK480 := n4_
      have BK493 := n5_
      have HB := n6_
      clear n0_ n1_ n2_ n3_ n4_ n5_ n6_
      refine start_ (n := 5) (S := fun w' => w'.cell? ⟨gb493, 0, none⟩ = some (.slice Ao82 t490.length co82) ∧ w'.cell? ⟨gb480, 0, none⟩ = some (.slice A0_0 l0_0.length c0_0)) (ds := []) #[false, false, false, false, false] (by kernel_rfl) rfl rfl ⟨(blk_cell BK493.out 0).trans rfl, (blk_cell BK480.out 0).trans rfl⟩ (fun hHeld => ?_)
      generalize w88.drew = w89 at HO485 HO488 HO492 HO496 BK480 BK493 HB hHeld ⊢
      refine take_ (i := 0) (N := some 35) (v := ?_) (a' := ?_) #[true, false, false, false, false] rfl rfl (by kernel_rfl) (fun _ _ _ h => h) (Or.inl ⟨by rfl, ?_⟩) hHeld ?_ ?_
      rotate_left
      ·rintro w' ⟨s0, s1⟩
       go_simp
       with_reducible rfl
      rotate_left
      ·simp only [Act.put, List.setIfInBounds_toArray, List.set_cons_zero, List.set_cons_succ, i64_w, i32_w]
       rfl
      refine take_ (i := 1) (N := some 36) (v := ?_) (a' := ?_) #[true, true, false, false, false] rfl rfl (by kernel_rfl) (fun _ _ _ h => h) (Or.inl ⟨by rfl, ?_⟩) hHeld ?_ ?_
      rotate_left
      ·rintro w' ⟨s0, s1⟩
       go_simp
       with_reducible rfl
      rotate_left
      ·simp only [Act.put, List.setIfInBounds_toArray, List.set_cons_zero, List.set_cons_succ, i64_w, i32_w]
       rfl
      refine one_ (i := 2) (N := some 37) #[true, true, true, false, false] rfl rfl (by kernel_rfl) (by decide) (fun K hK => ?_)
      refine goes_ Try.func31 (by kernel_rfl) rfl #[.agg #[.slice A0_0 l0_0.length c0_0]] (by rfl) rfl rfl (by (try simp only [List.map_toArray, List.map_cons, List.map_nil]); first | done | rfl | (simp only [List.length_drop, List.length_take]; rfl) | (simp only [show ∀ (n_ : Nat) (b_ : Int), Int.tdiv (n_ : Int) b_ = (n_ : Int) / b_ from fun n_ b_ => Int.tdiv_eq_ediv_of_nonneg (Int.natCast_nonneg n_)]; rfl)) ?_
      with_reducible refine (laws_toPicture.calls k _ _ l0_0 t498 _ ?side1 ?side2 A39.out).mono ?_
      (case side1 => repeat (first | exact (Kd.C_below HR0_0.out HB.out) | (with_reducible refine Kd.C_alloc ?_ _) | (with_reducible refine Kd.C_drewN ?_ _) | (with_reducible refine Kd.C_drew ?_)))
      (case side2 => exact HC0_0.out)
      rintro e w90 ⟨v499, rfl, ho0, hb⟩
      refine ⟨_, rfl, ?_⟩
      have n0_ := Aside0.mk (Kd.S_elder' (by (with_reducible repeat (first | apply Kd.S_alloc | apply Kd.S_drewN | apply Kd.S_drew)); exact HO485.out) (Kd.S_base ho0) hb)
      have n1_ := Aside0.mk (Kd.S_elder' (by (with_reducible repeat (first | apply Kd.S_alloc | apply Kd.S_drewN | apply Kd.S_drew)); exact HO488.out) (Kd.S_base ho0) hb)
      have n2_ := Aside0.mk (Kd.S_elder' (by (with_reducible repeat (first | apply Kd.S_alloc | apply Kd.S_drewN | apply Kd.S_drew)); exact HO492.out) (Kd.S_base ho0) hb)
      have n3_ := Aside0.mk (Kd.S_elder' (by (with_reducible repeat (first | apply Kd.S_alloc | apply Kd.S_drewN | apply Kd.S_drew)); exact HO496.out) (Kd.S_base ho0) hb)
      have n4_ := Aside0.mk (Kd.S_lower (Kd.S_new' (Kd.S_new' (Kd.S_new' (Kd.S_new' ho0 (Kd.S_lt (by (with_reducible repeat (first | apply Kd.S_alloc | apply Kd.S_drewN | apply Kd.S_drew)); exact HO485.out))) (Kd.S_lt (by (with_reducible repeat (first | apply Kd.S_alloc | apply Kd.S_drewN | apply Kd.S_drew)); exact HO488.out))) (Kd.S_lt (by (with_reducible repeat (first | apply Kd.S_alloc | apply Kd.S_drewN | apply Kd.S_drew)); exact HO492.out))) (Kd.S_lt (by (with_reducible repeat (first | apply Kd.S_alloc | apply Kd.S_drewN | apply Kd.S_drew)); exact HO496.out))) (below_size (by repeat (first | (with_reducible first | exact HB.out | apply below_alloc | apply pw_below_drewN | apply below_drew1 | refine below_set ?_ GE480.out | refine below_set ?_ GE493.out) | exact HB.out))))
      have n5_ := Aside0.mk (blk_below (g := gb480) (o := .cells #[.slice A0_0 l0_0.length c0_0] 43 (0, 0)) (by (with_reducible repeat (first | refine blk_drewN ?_ _ | refine blk_drew ?_ | refine blk_alloc ?_ _)); exact BK480.out) hb)
      have n6_ := Aside0.mk (blk_below (g := gb493) (o := .cells #[.slice Ao82 t490.length co82] 46 (0, 0)) (by (with_reducible repeat (first | refine blk_drewN ?_ _ | refine blk_drew ?_ | refine blk_alloc ?_ _)); exact BK493.out) hb)
      have n7_ := Aside0.mk (below_step (by repeat (first | (with_reducible first | exact HB.out | apply below_alloc | apply pw_below_drewN | apply below_drew1 | refine below_set ?_ GE480.out | refine below_set ?_ GE493.out) | exact HB.out)) hb)
      clear HO485
      clear HO488
      clear HO492
      clear HO496
      clear BK480
      clear BK493
      clear HB
      have HO485 := n0_
      have HO488 := n1_
      have HO492 := n2_
      have HO496 := n3_
      have HO500 := n4_
      have BK480 := n5_
      have BK493 := n6_
      have HB := n7_
      clear n0_ n1_ n2_ n3_ n4_ n5_ n6_ n7_
      (try clear hb)
      (try clear hb2)
      (try clear hk)
      (try clear hi)
      (try clear ho0)
      obtain ⟨Ao91, co91, eo91⟩ := Kd.S_slice HO500.out
      (first | subst eo91 | (injection eo91 with f1_ f2_ f3_; have f4_ := f1_.symm; have f5_ := f3_.symm; clear f1_ f2_ f3_; subst f4_; subst f5_))
      refine hK.out _ _ ⟨(blk_cell BK493.out 0).trans rfl, (blk_cell BK480.out 0).trans rfl⟩ (fun hHeld => ?_)
      clear hK K
      refine norm_ (a' := ?_) ?_ ?_
      rotate_left
      ·show Act.put _ (some 37) _ = _
       simp only [Act.put, List.setIfInBounds_toArray, List.set_cons_zero, List.set_cons_succ, i64_w, i32_w]
       rfl
      refine one_ (i := 3) (N := some 38) #[true, true, true, true, false] rfl rfl (by kernel_rfl) (by decide) (fun K hK => ?_)
      refine goes_ Try.func33 (by kernel_rfl) rfl #[.agg #[.slice Ao82 t490.length co82], .agg #[.slice Ao91 t498.length co91]] (by rfl) rfl rfl (by (try simp only [List.map_toArray, List.map_cons, List.map_nil]); first | done | rfl | (simp only [List.length_drop, List.length_take]; rfl) | (simp only [show ∀ (n_ : Nat) (b_ : Int), Int.tdiv (n_ : Int) b_ = (n_ : Int) / b_ from fun n_ b_ => Int.tdiv_eq_ediv_of_nonneg (Int.natCast_nonneg n_)]; rfl)) ?_
      with_reducible refine (laws_eqPicture.calls k _ _ t490 _ _ t498 true _ ?side1 ?side2 ?side3 ?side4 A40.out).mono ?_
      (case side1 => repeat (first | exact (Kd.S_reads' HO492.out).2.2 | (with_reducible refine Kd.C_alloc ?_ _) | (with_reducible refine Kd.C_drewN ?_ _) | (with_reducible refine Kd.C_drew ?_)))
      (case side2 => exact (Kd.S_reads' HO492.out).2.1)
      (case side3 => repeat (first | exact (Kd.S_reads' HO500.out).2.2 | (with_reducible refine Kd.C_alloc ?_ _) | (with_reducible refine Kd.C_drewN ?_ _) | (with_reducible refine Kd.C_drew ?_)))
      (case side4 => exact (Kd.S_reads' HO500.out).2.1)
      rintro e w92 ⟨rfl, hb⟩
      refine ⟨_, rfl, ?_⟩
      have n0_ := Aside0.mk (Kd.S_below (by (with_reducible repeat (first | apply Kd.S_alloc | apply Kd.S_drewN | apply Kd.S_drew)); exact HO485.out) hb)
      have n1_ := Aside0.mk (Kd.S_below (by (with_reducible repeat (first | apply Kd.S_alloc | apply Kd.S_drewN | apply Kd.S_drew)); exact HO488.out) hb)
      have n2_ := Aside0.mk (Kd.S_below (by (with_reducible repeat (first | apply Kd.S_alloc | apply Kd.S_drewN | apply Kd.S_drew)); exact HO492.out) hb)
      have n3_ := Aside0.mk (Kd.S_below (by (with_reducible repeat (first | apply Kd.S_alloc | apply Kd.S_drewN | apply Kd.S_drew)); exact HO496.out) hb)
      have n4_ := Aside0.mk (Kd.S_below (by (with_reducible repeat (first | apply Kd.S_alloc | apply Kd.S_drewN | apply Kd.S_drew)); exact HO500.out) hb)
      have n5_ := Aside0.mk (blk_below (g := gb480) (o := .cells #[.slice A0_0 l0_0.length c0_0] 43 (0, 0)) (by (with_reducible repeat (first | refine blk_drewN ?_ _ | refine blk_drew ?_ | refine blk_alloc ?_ _)); exact BK480.out) hb)
      have n6_ := Aside0.mk (blk_below (g := gb493) (o := .cells #[.slice Ao82 t490.length co82] 46 (0, 0)) (by (with_reducible repeat (first | refine blk_drewN ?_ _ | refine blk_drew ?_ | refine blk_alloc ?_ _)); exact BK493.out) hb)
      have n7_ := Aside0.mk (below_step (by repeat (first | (with_reducible first | exact HB.out | apply below_alloc | apply pw_below_drewN | apply below_drew1 | refine below_set ?_ GE480.out | refine below_set ?_ GE493.out) | exact HB.out)) hb)
      clear HO485
      clear HO488
      clear HO492
      clear HO496
      clear HO500
      clear BK480
      clear BK493
      clear HB
      have HO485 := n0_
      have HO488 := n1_
      have HO492 := n2_
      have HO496 := n3_
      have HO500 := n4_
      have BK480 := n5_
      have BK493 := n6_
      have HB := n7_
      clear n0_ n1_ n2_ n3_ n4_ n5_ n6_ n7_
      (try clear hb)
      (try clear hb2)
      (try clear hk)
      (try clear hi)
      refine hK.out _ _ ⟨(blk_cell BK493.out 0).trans rfl, (blk_cell BK480.out 0).trans rfl⟩ (fun hHeld => ?_)
      clear hK K
      refine norm_ (a' := ?_) ?_ ?_
      rotate_left
      ·show Act.put _ (some 38) _ = _
       simp only [Act.put, List.setIfInBounds_toArray, List.set_cons_zero, List.set_cons_succ, i64_w, i32_w]
       rfl
      refine pure_ (i := 4) (N := some 39) (v := ?_) (a' := ?_) #[true, true, true, true, true] rfl rfl (by kernel_rfl) (fun _ _ _ h => h) (Or.inl ⟨by rfl, ?_⟩) ?_ ?_
      rotate_left
      ·intro w'
       go_simp
       with_reducible rfl
      rotate_left
      ·simp only [Act.put, List.setIfInBounds_toArray, List.set_cons_zero, List.set_cons_succ, i64_w, i32_w]
       rfl
      refine done_ (by kernel_rfl) ?_
      try go_wp2_with (first | ((with_reducible refine gate_callee (f := 36) rfl ?_); refine goesL_ (some 42) rfl rfl Try.func36 (by kernel_rfl) rfl #[.slice A1 l1.length c1] rfl (by (try simp only [List.map_toArray, List.map_cons, List.map_nil]); first | done | rfl | (simp only [List.length_drop, List.length_take]; rfl) | (simp only [show ∀ (n_ : Nat) (b_ : Int), Int.tdiv (n_ : Int) b_ = (n_ : Int) / b_ from fun n_ b_ => Int.tdiv_eq_ediv_of_nonneg (Int.natCast_nonneg n_)]; rfl)) ?_; (with_reducible refine (laws_toInt64SS.calls k _ _ l1 t502 _ ?side1 ?side2 A42.out).mono ?_); (case side1 => repeat (first | exact (Kd.C_below HR1.out HB.out) | (with_reducible refine Kd.C_alloc ?_ _) | (with_reducible refine Kd.C_drewN ?_ _) | (with_reducible refine Kd.C_drew ?_))); (case side2 => exact HC1.out); rintro e w93 ⟨v503, rfl, ho0, hb⟩; refine ⟨_, rfl, ?_⟩; have n0_ := Aside0.mk (Kd.S_elder' (by (with_reducible repeat (first | apply Kd.S_alloc | apply Kd.S_drewN | apply Kd.S_drew)); exact HO485.out) (Kd.S_base ho0) hb); have n1_ := Aside0.mk (Kd.S_elder' (by (with_reducible repeat (first | apply Kd.S_alloc | apply Kd.S_drewN | apply Kd.S_drew)); exact HO488.out) (Kd.S_base ho0) hb); have n2_ := Aside0.mk (Kd.S_elder' (by (with_reducible repeat (first | apply Kd.S_alloc | apply Kd.S_drewN | apply Kd.S_drew)); exact HO492.out) (Kd.S_base ho0) hb); have n3_ := Aside0.mk (Kd.S_elder' (by (with_reducible repeat (first | apply Kd.S_alloc | apply Kd.S_drewN | apply Kd.S_drew)); exact HO496.out) (Kd.S_base ho0) hb); have n4_ := Aside0.mk (Kd.S_elder' (by (with_reducible repeat (first | apply Kd.S_alloc | apply Kd.S_drewN | apply Kd.S_drew)); exact HO500.out) (Kd.S_base ho0) hb); have n5_ := Aside0.mk (Kd.S_lower (Kd.S_new' (Kd.S_new' (Kd.S_new' (Kd.S_new' (Kd.S_new' ho0 (Kd.S_lt (by (with_reducible repeat (first | apply Kd.S_alloc | apply Kd.S_drewN | apply Kd.S_drew)); exact HO485.out))) (Kd.S_lt (by (with_reducible repeat (first | apply Kd.S_alloc | apply Kd.S_drewN | apply Kd.S_drew)); exact HO488.out))) (Kd.S_lt (by (with_reducible repeat (first | apply Kd.S_alloc | apply Kd.S_drewN | apply Kd.S_drew)); exact HO492.out))) (Kd.S_lt (by (with_reducible repeat (first | apply Kd.S_alloc | apply Kd.S_drewN | apply Kd.S_drew)); exact HO496.out))) (Kd.S_lt (by (with_reducible repeat (first | apply Kd.S_alloc | apply Kd.S_drewN | apply Kd.S_drew)); exact HO500.out))) (below_size (by repeat (first | (with_reducible first | exact HB.out | apply below_alloc | apply pw_below_drewN | apply below_drew1 | refine below_set ?_ GE480.out | refine below_set ?_ GE493.out) | exact HB.out)))); have n6_ := Aside0.mk (blk_below (g := gb480) (o := .cells #[.slice A0_0 l0_0.length c0_0] 43 (0, 0)) (by (with_reducible repeat (first | refine blk_drewN ?_ _ | refine blk_drew ?_ | refine blk_alloc ?_ _)); exact BK480.out) hb); have n7_ := Aside0.mk (blk_below (g := gb493) (o := .cells #[.slice Ao82 t490.length co82] 46 (0, 0)) (by (with_reducible repeat (first | refine blk_drewN ?_ _ | refine blk_drew ?_ | refine blk_alloc ?_ _)); exact BK493.out) hb); have n8_ := Aside0.mk (below_step (by repeat (first | (with_reducible first | exact HB.out | apply below_alloc | apply pw_below_drewN | apply below_drew1 | refine below_set ?_ GE480.out | refine below_set ?_ GE493.out) | exact HB.out)) hb); clear HO485; clear HO488; clear HO492; clear HO496; clear HO500; clear BK480; clear BK493; clear HB; have HO485 := n0_; have HO488 := n1_; have HO492 := n2_; have HO496 := n3_; have HO500 := n4_; have HO504 := n5_; have BK480 := n6_; have BK493 := n7_; have HB := n8_; clear n0_ n1_ n2_ n3_ n4_ n5_ n6_ n7_ n8_; (try clear hb); (try clear hb2); (try clear hk); (try clear hi); (try clear ho0); obtain ⟨Ao94, co94, eo94⟩ := Kd.S_slice HO504.out; subst eo94) | ((with_reducible refine gate_callee (f := 26) rfl ?_); refine goesL_ (some 43) rfl rfl Try.func26 (by kernel_rfl) rfl #[.slice Ao87 t494.length co87, .slice Ao94 t502.length co94] rfl (by (try simp only [List.map_toArray, List.map_cons, List.map_nil]); first | done | rfl | (simp only [List.length_drop, List.length_take]; rfl) | (simp only [show ∀ (n_ : Nat) (b_ : Int), Int.tdiv (n_ : Int) b_ = (n_ : Int) / b_ from fun n_ b_ => Int.tdiv_eq_ediv_of_nonneg (Int.natCast_nonneg n_)]; rfl)) ?_; (with_reducible refine (laws_eqInt64SS.calls k _ _ t494 _ _ t502 false _ ?side1 ?side2 ?side3 ?side4 A43.out).mono ?_); (case side1 => repeat (first | exact (Kd.S_reads' HO496.out).2.2 | (with_reducible refine Kd.C_alloc ?_ _) | (with_reducible refine Kd.C_drewN ?_ _) | (with_reducible refine Kd.C_drew ?_))); (case side2 => exact (Kd.S_reads' HO496.out).2.1); (case side3 => repeat (first | exact (Kd.S_reads' HO504.out).2.2 | (with_reducible refine Kd.C_alloc ?_ _) | (with_reducible refine Kd.C_drewN ?_ _) | (with_reducible refine Kd.C_drew ?_))); (case side4 => exact (Kd.S_reads' HO504.out).2.1); rintro e w' ⟨rfl, ⟨nd, rfl⟩⟩; refine ⟨_, rfl, ?_⟩))
      go_ret
      exact ⟨by first | rfl | (simp [errW_none, errW_some] <;> rfl) | (simp [*, errW_none, errW_some] <;> rfl), by repeat (first | (with_reducible first | exact HB.out | apply below_alloc | apply pw_below_drewN | apply below_drew1 | refine below_set ?_ GE480.out | refine below_set ?_ GE493.out) | exact HB.out)⟩
    ·replace c41 := Bool.eq_false_iff.mpr c41
     subst c41
     have H1 : (some false) = some r := by rw [if_neg (show ¬ (false = true) by decide)] at H; exact H
     clear H
     have H := H1
     clear H1
     obtain rfl := Option.some.inj H
     go_enter Try.func9, Try.ntmps9
     try go_wp2_with (first | ((with_reducible refine gate_dst (N := 2) rfl ?_); refine box_event ?hg (N := 2) ?hd (cs := #[.slice A0_0 l0_0.length c0_0]) (t := 43) ?hr ?_; (case hd => rfl); (case hg => rfl); (case hr => first | (go_simp; done) | (go_simp; rfl)); intro gb480 hg w95 hbox hb; have n0_ := Aside0.mk (below_step (by repeat (first | (with_reducible first | exact HB.out | apply below_alloc | apply pw_below_drewN | apply below_drew1) | exact HB.out)) hb); have n1_ := Aside0.mk (hbox); have n2_ := Aside0.mk ((by rw [hg]; exact (below_size (by repeat (first | (with_reducible first | exact HB.out | apply below_alloc | apply pw_below_drewN | apply below_drew1) | exact HB.out))) : w.heap.size ≤ gb480)); have n3_ := Aside0.mk ((by rw [hg]; exact (below_size (by repeat (first | (with_reducible first | exact HB.out | apply below_alloc | apply pw_below_drewN | apply below_drew1) | exact HB.out))) : w.heap.size ≤ gb480)); clear HB; have HB := n0_; have BK480 := n1_; have GW480 := n2_; have GE480 := n3_; clear n0_ n1_ n2_ n3_; clear hb hbox hg; have hcz96_0 : w95.cell? ⟨gb480, 0, none⟩ = some (.slice A0_0 l0_0.length c0_0) := (blk_cell BK480.out 0).trans rfl; have hfz96_0 := blk_frozen BK480.out 0) | ((with_reducible refine gate_callee (f := 29) rfl ?_); refine goesL_ (some 12) rfl rfl Try.func29 (by kernel_rfl) rfl #[.agg #[.slice A0_0 l0_0.length c0_0], .int .i64 1048576] rfl (by (try simp only [List.map_toArray, List.map_cons, List.map_nil]); first | done | rfl | (simp only [List.length_drop, List.length_take]; rfl) | (simp only [show ∀ (n_ : Nat) (b_ : Int), Int.tdiv (n_ : Int) b_ = (n_ : Int) / b_ from fun n_ b_ => Int.tdiv_eq_ediv_of_nonneg (Int.natCast_nonneg n_)]; rfl)) ?_; (with_reducible refine (laws_szPicture.calls k _ _ l0_0 1048576 t481 _ ?side1 ?side2 A3.out).mono ?_); (case side1 => repeat (first | exact (Kd.C_below HR0_0.out HB.out) | (with_reducible refine Kd.C_alloc ?_ _) | (with_reducible refine Kd.C_drewN ?_ _) | (with_reducible refine Kd.C_drew ?_))); (case side2 => exact HC0_0.out); rintro e w97 ⟨rfl, hb⟩; refine ⟨_, rfl, ?_⟩; have n0_ := Aside0.mk (blk_below (g := gb480) (o := .cells #[.slice A0_0 l0_0.length c0_0] 43 (0, 0)) (by (with_reducible repeat (first | refine blk_drewN ?_ _ | refine blk_drew ?_ | refine blk_alloc ?_ _)); exact BK480.out) hb); have n1_ := Aside0.mk (below_step (by repeat (first | (with_reducible first | exact HB.out | apply below_alloc | apply pw_below_drewN | apply below_drew1 | refine below_set ?_ GE480.out) | exact HB.out)) hb); clear BK480; clear HB; have BK480 := n0_; have HB := n1_; clear n0_ n1_; (try clear hb); (try clear hb2); (try clear hk); (try clear hi)) | ((with_reducible refine gate_callee (f := 34) rfl ?_); refine goesL_ (some 17) rfl rfl Try.func34 (by kernel_rfl) rfl #[.slice A1 l1.length c1, .int .i64 t481] rfl (by (try simp only [List.map_toArray, List.map_cons, List.map_nil]); first | done | rfl | (simp only [List.length_drop, List.length_take]; rfl) | (simp only [show ∀ (n_ : Nat) (b_ : Int), Int.tdiv (n_ : Int) b_ = (n_ : Int) / b_ from fun n_ b_ => Int.tdiv_eq_ediv_of_nonneg (Int.natCast_nonneg n_)]; rfl)) ?_; (with_reducible refine (laws_szInt64SS.calls k _ _ l1 t481 t482 _ ?side1 ?side2 A8.out).mono ?_); (case side1 => repeat (first | exact (Kd.C_below HR1.out HB.out) | (with_reducible refine Kd.C_alloc ?_ _) | (with_reducible refine Kd.C_drewN ?_ _) | (with_reducible refine Kd.C_drew ?_))); (case side2 => exact HC1.out); rintro e w' ⟨rfl, ⟨nd, rfl⟩⟩; refine ⟨_, rfl, ?_⟩; (try (rw [drewN_self w97]; generalize hq_ : World.drewN w97 _ = w97; have n0_ : Aside0 (w97.heap[gb480]? = some (.cells #[.slice A0_0 l0_0.length c0_0] 43 (0, 0))) := ⟨by rw [← hq_]; exact (by (with_reducible repeat (first | refine blk_drewN ?_ _ | refine blk_drew ?_ | refine blk_alloc ?_ _)); exact BK480.out)⟩; have n1_ : Aside0 (Below w.heap.size w w97) := ⟨by rw [← hq_]; exact (by repeat (first | (with_reducible first | exact HB.out | apply below_alloc | apply pw_below_drewN | apply below_drew1 | refine below_set ?_ GE480.out) | exact HB.out))⟩; clear BK480 HB hq_; have BK480 := n0_; have HB := n1_; clear n0_ n1_)); have hcz98_0 : w97.cell? ⟨gb480, 0, none⟩ = some (.slice A0_0 l0_0.length c0_0) := (blk_cell BK480.out 0).trans rfl; have hfz98_0 := blk_frozen BK480.out 0) | ((with_reducible refine gate_callee (f := 31) rfl ?_); refine goesL_ (some 21) rfl rfl Try.func31 (by kernel_rfl) rfl #[.agg #[.slice A0_0 l0_0.length c0_0]] rfl (by (try simp only [List.map_toArray, List.map_cons, List.map_nil]); first | done | rfl | (simp only [List.length_drop, List.length_take]; rfl) | (simp only [show ∀ (n_ : Nat) (b_ : Int), Int.tdiv (n_ : Int) b_ = (n_ : Int) / b_ from fun n_ b_ => Int.tdiv_eq_ediv_of_nonneg (Int.natCast_nonneg n_)]; rfl)) ?_; (with_reducible refine (laws_toPicture.calls k _ _ l0_0 t483 _ ?side1 ?side2 A13.out).mono ?_); (case side1 => repeat (first | exact (Kd.C_below HR0_0.out HB.out) | (with_reducible refine Kd.C_alloc ?_ _) | (with_reducible refine Kd.C_drewN ?_ _) | (with_reducible refine Kd.C_drew ?_))); (case side2 => exact HC0_0.out); rintro e w99 ⟨v484, rfl, ho0, hb⟩; refine ⟨_, rfl, ?_⟩; have n0_ := Aside0.mk (Kd.S_lower ho0 (below_size (by repeat (first | (with_reducible first | exact HB.out | apply below_alloc | apply pw_below_drewN | apply below_drew1 | refine below_set ?_ GE480.out) | exact HB.out)))); have n1_ := Aside0.mk (blk_below (g := gb480) (o := .cells #[.slice A0_0 l0_0.length c0_0] 43 (0, 0)) (by (with_reducible repeat (first | refine blk_drewN ?_ _ | refine blk_drew ?_ | refine blk_alloc ?_ _)); exact BK480.out) hb); have n2_ := Aside0.mk (below_step (by repeat (first | (with_reducible first | exact HB.out | apply below_alloc | apply pw_below_drewN | apply below_drew1 | refine below_set ?_ GE480.out) | exact HB.out)) hb); clear BK480; clear HB; have HO485 := n0_; have BK480 := n1_; have HB := n2_; clear n0_ n1_ n2_; (try clear hb); (try clear hb2); (try clear hk); (try clear hi); (try clear ho0)) | ((with_reducible refine gate_callee (f := 36) rfl ?_); refine goesL_ (some 23) rfl rfl Try.func36 (by kernel_rfl) rfl #[.slice A1 l1.length c1] rfl (by (try simp only [List.map_toArray, List.map_cons, List.map_nil]); first | done | rfl | (simp only [List.length_drop, List.length_take]; rfl) | (simp only [show ∀ (n_ : Nat) (b_ : Int), Int.tdiv (n_ : Int) b_ = (n_ : Int) / b_ from fun n_ b_ => Int.tdiv_eq_ediv_of_nonneg (Int.natCast_nonneg n_)]; rfl)) ?_; (with_reducible refine (laws_toInt64SS.calls k _ _ l1 t486 _ ?side1 ?side2 A14.out).mono ?_); (case side1 => repeat (first | exact (Kd.C_below HR1.out HB.out) | (with_reducible refine Kd.C_alloc ?_ _) | (with_reducible refine Kd.C_drewN ?_ _) | (with_reducible refine Kd.C_drew ?_))); (case side2 => exact HC1.out); rintro e w100 ⟨v487, rfl, ho0, hb⟩; refine ⟨_, rfl, ?_⟩; have n0_ := Aside0.mk (Kd.S_elder' (by (with_reducible repeat (first | apply Kd.S_alloc | apply Kd.S_drewN | apply Kd.S_drew)); exact HO485.out) (Kd.S_base ho0) hb); have n1_ := Aside0.mk (Kd.S_lower (Kd.S_new' ho0 (Kd.S_lt (by (with_reducible repeat (first | apply Kd.S_alloc | apply Kd.S_drewN | apply Kd.S_drew)); exact HO485.out))) (below_size (by repeat (first | (with_reducible first | exact HB.out | apply below_alloc | apply pw_below_drewN | apply below_drew1 | refine below_set ?_ GE480.out) | exact HB.out)))); have n2_ := Aside0.mk (blk_below (g := gb480) (o := .cells #[.slice A0_0 l0_0.length c0_0] 43 (0, 0)) (by (with_reducible repeat (first | refine blk_drewN ?_ _ | refine blk_drew ?_ | refine blk_alloc ?_ _)); exact BK480.out) hb); have n3_ := Aside0.mk (below_step (by repeat (first | (with_reducible first | exact HB.out | apply below_alloc | apply pw_below_drewN | apply below_drew1 | refine below_set ?_ GE480.out) | exact HB.out)) hb); clear HO485; clear BK480; clear HB; have HO485 := n0_; have HO488 := n1_; have BK480 := n2_; have HB := n3_; clear n0_ n1_ n2_ n3_; (try clear hb); (try clear hb2); (try clear hk); (try clear hi); (try clear ho0); obtain ⟨Ao101, co101, eo101⟩ := Kd.S_slice HO485.out; subst eo101; obtain ⟨Ao102, co102, eo102⟩ := Kd.S_slice HO488.out; subst eo102) | ((with_reducible refine gate_callee (f := 40) rfl ?_); refine goesL_ (some 24) rfl rfl Try.func40 (by kernel_rfl) rfl #[.agg #[.slice Ao101 t483.length co101], .slice Ao102 t486.length co102] rfl (by (try simp only [List.map_toArray, List.map_cons, List.map_nil]); first | done | rfl | (simp only [List.length_drop, List.length_take]; rfl) | (simp only [show ∀ (n_ : Nat) (b_ : Int), Int.tdiv (n_ : Int) b_ = (n_ : Int) / b_ from fun n_ b_ => Int.tdiv_eq_ediv_of_nonneg (Int.natCast_nonneg n_)]; rfl)) ?_; (with_reducible refine (spec_IsPath.calls k _ _ t483 _ _ t486 t489 _ ?side1 ?side2 ?side3 ?side4 A15.out).mono ?_); (case side1 => repeat (first | exact (Kd.S_reads' HO485.out).2.2 | (with_reducible refine Kd.C_alloc ?_ _) | (with_reducible refine Kd.C_drewN ?_ _) | (with_reducible refine Kd.C_drew ?_))); (case side2 => exact (Kd.S_reads' HO485.out).2.1); (case side3 => repeat (first | exact (Kd.S_reads' HO488.out).2.2 | (with_reducible refine Kd.C_alloc ?_ _) | (with_reducible refine Kd.C_drewN ?_ _) | (with_reducible refine Kd.C_drew ?_))); (case side4 => exact (Kd.S_reads' HO488.out).2.1); rintro e w103 ⟨rfl, hb⟩; refine ⟨_, rfl, ?_⟩; have n0_ := Aside0.mk (Kd.S_below (by (with_reducible repeat (first | apply Kd.S_alloc | apply Kd.S_drewN | apply Kd.S_drew)); exact HO485.out) hb); have n1_ := Aside0.mk (Kd.S_below (by (with_reducible repeat (first | apply Kd.S_alloc | apply Kd.S_drewN | apply Kd.S_drew)); exact HO488.out) hb); have n2_ := Aside0.mk (blk_below (g := gb480) (o := .cells #[.slice A0_0 l0_0.length c0_0] 43 (0, 0)) (by (with_reducible repeat (first | refine blk_drewN ?_ _ | refine blk_drew ?_ | refine blk_alloc ?_ _)); exact BK480.out) hb); have n3_ := Aside0.mk (below_step (by repeat (first | (with_reducible first | exact HB.out | apply below_alloc | apply pw_below_drewN | apply below_drew1 | refine below_set ?_ GE480.out) | exact HB.out)) hb); clear HO485; clear HO488; clear BK480; clear HB; have HO485 := n0_; have HO488 := n1_; have BK480 := n2_; have HB := n3_; clear n0_ n1_ n2_ n3_; (try clear hb); (try clear hb2); (try clear hk); (try clear hi); have hcz104_0 : w103.cell? ⟨gb480, 0, none⟩ = some (.slice A0_0 l0_0.length c0_0) := (blk_cell BK480.out 0).trans rfl; have hfz104_0 := blk_frozen BK480.out 0) | ((with_reducible refine gate_callee (f := 31) rfl ?_); refine goesL_ (some 26) rfl rfl Try.func31 (by kernel_rfl) rfl #[.agg #[.slice A0_0 l0_0.length c0_0]] rfl (by (try simp only [List.map_toArray, List.map_cons, List.map_nil]); first | done | rfl | (simp only [List.length_drop, List.length_take]; rfl) | (simp only [show ∀ (n_ : Nat) (b_ : Int), Int.tdiv (n_ : Int) b_ = (n_ : Int) / b_ from fun n_ b_ => Int.tdiv_eq_ediv_of_nonneg (Int.natCast_nonneg n_)]; rfl)) ?_; (with_reducible refine (laws_toPicture.calls k _ _ l0_0 t490 _ ?side1 ?side2 A16.out).mono ?_); (case side1 => repeat (first | exact (Kd.C_below HR0_0.out HB.out) | (with_reducible refine Kd.C_alloc ?_ _) | (with_reducible refine Kd.C_drewN ?_ _) | (with_reducible refine Kd.C_drew ?_))); (case side2 => exact HC0_0.out); rintro e w105 ⟨v491, rfl, ho0, hb⟩; refine ⟨_, rfl, ?_⟩; have n0_ := Aside0.mk (Kd.S_elder' (by (with_reducible repeat (first | apply Kd.S_alloc | apply Kd.S_drewN | apply Kd.S_drew)); exact HO485.out) (Kd.S_base ho0) hb); have n1_ := Aside0.mk (Kd.S_elder' (by (with_reducible repeat (first | apply Kd.S_alloc | apply Kd.S_drewN | apply Kd.S_drew)); exact HO488.out) (Kd.S_base ho0) hb); have n2_ := Aside0.mk (Kd.S_lower (Kd.S_new' (Kd.S_new' ho0 (Kd.S_lt (by (with_reducible repeat (first | apply Kd.S_alloc | apply Kd.S_drewN | apply Kd.S_drew)); exact HO485.out))) (Kd.S_lt (by (with_reducible repeat (first | apply Kd.S_alloc | apply Kd.S_drewN | apply Kd.S_drew)); exact HO488.out))) (below_size (by repeat (first | (with_reducible first | exact HB.out | apply below_alloc | apply pw_below_drewN | apply below_drew1 | refine below_set ?_ GE480.out) | exact HB.out)))); have n3_ := Aside0.mk (blk_below (g := gb480) (o := .cells #[.slice A0_0 l0_0.length c0_0] 43 (0, 0)) (by (with_reducible repeat (first | refine blk_drewN ?_ _ | refine blk_drew ?_ | refine blk_alloc ?_ _)); exact BK480.out) hb); have n4_ := Aside0.mk (below_step (by repeat (first | (with_reducible first | exact HB.out | apply below_alloc | apply pw_below_drewN | apply below_drew1 | refine below_set ?_ GE480.out) | exact HB.out)) hb); clear HO485; clear HO488; clear BK480; clear HB; have HO485 := n0_; have HO488 := n1_; have HO492 := n2_; have BK480 := n3_; have HB := n4_; clear n0_ n1_ n2_ n3_ n4_; (try clear hb); (try clear hb2); (try clear hk); (try clear hi); (try clear ho0)) | ((with_reducible refine gate_dst (N := 7) rfl ?_); refine box_event ?hg (N := 7) ?hd (cs := #[.slice none 0 0]) (t := 46) ?hr ?_; (case hd => rfl); (case hg => rfl); (case hr => first | (go_simp; done) | (go_simp; rfl)); intro gb493 hg w106 hbox hb; have n0_ := Aside0.mk (Kd.S_below (by (with_reducible repeat (first | apply Kd.S_alloc | apply Kd.S_drewN | apply Kd.S_drew)); exact HO485.out) hb); have n1_ := Aside0.mk (Kd.S_below (by (with_reducible repeat (first | apply Kd.S_alloc | apply Kd.S_drewN | apply Kd.S_drew)); exact HO488.out) hb); have n2_ := Aside0.mk (Kd.S_below (by (with_reducible repeat (first | apply Kd.S_alloc | apply Kd.S_drewN | apply Kd.S_drew)); exact HO492.out) hb); have n3_ := Aside0.mk (blk_below (g := gb480) (o := .cells #[.slice A0_0 l0_0.length c0_0] 43 (0, 0)) (by (with_reducible repeat (first | refine blk_drewN ?_ _ | refine blk_drew ?_ | refine blk_alloc ?_ _)); exact BK480.out) hb); have n4_ := Aside0.mk (below_step (by repeat (first | (with_reducible first | exact HB.out | apply below_alloc | apply pw_below_drewN | apply below_drew1 | refine below_set ?_ GE480.out) | exact HB.out)) hb); have n5_ := Aside0.mk (hbox); have n6_ := Aside0.mk ((by rw [hg]; exact (below_size (by repeat (first | (with_reducible first | exact HB.out | apply below_alloc | apply pw_below_drewN | apply below_drew1 | refine below_set ?_ GE480.out) | exact HB.out))) : w.heap.size ≤ gb493)); have n7_ := Aside0.mk ((by rw [hg]; exact (below_size (by repeat (first | (with_reducible first | exact HB.out | apply below_alloc | apply pw_below_drewN | apply below_drew1 | refine below_set ?_ GE480.out) | exact HB.out))) : w.heap.size ≤ gb493)); have n8_ := Aside0.mk ((by rw [hg]; exact Nat.ne_of_lt (blk_lt (g := gb480) (o := .cells #[.slice A0_0 l0_0.length c0_0] 43 (0, 0)) (by (with_reducible repeat (first | refine blk_drewN ?_ _ | refine blk_drew ?_ | refine blk_alloc ?_ _)); exact BK480.out)) : gb480 ≠ gb493)); have n9_ := Aside0.mk ((by rw [hg]; exact Nat.ne_of_gt (blk_lt (g := gb480) (o := .cells #[.slice A0_0 l0_0.length c0_0] 43 (0, 0)) (by (with_reducible repeat (first | refine blk_drewN ?_ _ | refine blk_drew ?_ | refine blk_alloc ?_ _)); exact BK480.out)) : gb493 ≠ gb480)); clear HO485; clear HO488; clear HO492; clear BK480; clear HB; have HO485 := n0_; have HO488 := n1_; have HO492 := n2_; have BK480 := n3_; have HB := n4_; have BK493 := n5_; have GW493 := n6_; have GE493 := n7_; have NB480_493 := n8_; have NB493_480 := n9_; clear n0_ n1_ n2_ n3_ n4_ n5_ n6_ n7_ n8_ n9_; clear hb hbox hg; obtain ⟨Ao107, co107, eo107⟩ := Kd.S_slice HO492.out; subst eo107; have hnb108 := NB493_480.out; have hnc108 := NB480_493.out; have hcz109_0 : w106.cell? ⟨gb493, 0, none⟩ = some (.slice none 0 0) := (blk_cell BK493.out 0).trans rfl; have hfz109_0 := blk_frozen BK493.out 0) | ((with_reducible refine gate_callee (f := 36) rfl ?_); refine goesL_ (some 28) rfl rfl Try.func36 (by kernel_rfl) rfl #[.slice A1 l1.length c1] rfl (by (try simp only [List.map_toArray, List.map_cons, List.map_nil]); first | done | rfl | (simp only [List.length_drop, List.length_take]; rfl) | (simp only [show ∀ (n_ : Nat) (b_ : Int), Int.tdiv (n_ : Int) b_ = (n_ : Int) / b_ from fun n_ b_ => Int.tdiv_eq_ediv_of_nonneg (Int.natCast_nonneg n_)]; rfl)) ?_; (with_reducible refine (laws_toInt64SS.calls k _ _ l1 t494 _ ?side1 ?side2 A17.out).mono ?_); (case side1 => exact Kd.C_below HR1.out (by repeat (first | (with_reducible first | exact HB.out | apply below_alloc | apply pw_below_drewN | apply below_drew1 | refine below_set ?_ GE480.out | refine below_set ?_ GE493.out) | exact HB.out))); (case side2 => exact HC1.out); rintro e w110 ⟨v495, rfl, ho0, hb⟩; refine ⟨_, rfl, ?_⟩; have n0_ := Aside0.mk (Kd.S_elder' (by (with_reducible repeat (first | apply Kd.S_alloc | apply Kd.S_drewN | apply Kd.S_drew)); exact (Kd.S_mono (Kd.S_far (p := ⟨gb493, 0, none⟩) (Kd.S_types HO485.out BK493.out (by decide)) (fun _ hk => hk.2) (.slice Ao107 t490.length co107)) (fun _ h_ => h_.1))) (Kd.S_base ho0) hb); have n1_ := Aside0.mk (Kd.S_elder' (by (with_reducible repeat (first | apply Kd.S_alloc | apply Kd.S_drewN | apply Kd.S_drew)); exact (Kd.S_mono (Kd.S_far (p := ⟨gb493, 0, none⟩) (Kd.S_types HO488.out BK493.out (by decide)) (fun _ hk => hk.2) (.slice Ao107 t490.length co107)) (fun _ h_ => h_.1))) (Kd.S_base ho0) hb); have n2_ := Aside0.mk (Kd.S_elder' (by (with_reducible repeat (first | apply Kd.S_alloc | apply Kd.S_drewN | apply Kd.S_drew)); exact (Kd.S_mono (Kd.S_far (p := ⟨gb493, 0, none⟩) (Kd.S_types HO492.out BK493.out (by decide)) (fun _ hk => hk.2) (.slice Ao107 t490.length co107)) (fun _ h_ => h_.1))) (Kd.S_base ho0) hb); have n3_ := Aside0.mk (Kd.S_lower (Kd.S_new' (Kd.S_new' (Kd.S_new' ho0 (Kd.S_lt (by (with_reducible repeat (first | apply Kd.S_alloc | apply Kd.S_drewN | apply Kd.S_drew)); exact (Kd.S_mono (Kd.S_far (p := ⟨gb493, 0, none⟩) (Kd.S_types HO485.out BK493.out (by decide)) (fun _ hk => hk.2) (.slice Ao107 t490.length co107)) (fun _ h_ => h_.1))))) (Kd.S_lt (by (with_reducible repeat (first | apply Kd.S_alloc | apply Kd.S_drewN | apply Kd.S_drew)); exact (Kd.S_mono (Kd.S_far (p := ⟨gb493, 0, none⟩) (Kd.S_types HO488.out BK493.out (by decide)) (fun _ hk => hk.2) (.slice Ao107 t490.length co107)) (fun _ h_ => h_.1))))) (Kd.S_lt (by (with_reducible repeat (first | apply Kd.S_alloc | apply Kd.S_drewN | apply Kd.S_drew)); exact (Kd.S_mono (Kd.S_far (p := ⟨gb493, 0, none⟩) (Kd.S_types HO492.out BK493.out (by decide)) (fun _ hk => hk.2) (.slice Ao107 t490.length co107)) (fun _ h_ => h_.1))))) (below_size (by repeat (first | (with_reducible first | exact HB.out | apply below_alloc | apply pw_below_drewN | apply below_drew1 | refine below_set ?_ GE480.out | refine below_set ?_ GE493.out) | exact HB.out)))); have n4_ := Aside0.mk (blk_below (g := gb480) (o := .cells #[.slice A0_0 l0_0.length c0_0] 43 (0, 0)) (by (with_reducible repeat (first | refine blk_drewN ?_ _ | refine blk_drew ?_ | refine blk_alloc ?_ _)); refine blk_far ?_ NB480_493.out _; (with_reducible repeat (first | refine blk_drewN ?_ _ | refine blk_drew ?_ | refine blk_alloc ?_ _)); exact BK480.out) hb); have n5_ := Aside0.mk (blk_below (g := gb493) (o := .cells #[.slice Ao107 t490.length co107] 46 (0, 0)) (by (with_reducible repeat (first | refine blk_drewN ?_ _ | refine blk_drew ?_ | refine blk_alloc ?_ _)); refine blk_put (cs := #[.slice none 0 0]) ?_ 0 _ rfl; (with_reducible repeat (first | refine blk_drewN ?_ _ | refine blk_drew ?_ | refine blk_alloc ?_ _)); exact BK493.out) hb); have n6_ := Aside0.mk (below_step (by repeat (first | (with_reducible first | exact HB.out | apply below_alloc | apply pw_below_drewN | apply below_drew1 | refine below_set ?_ GE480.out | refine below_set ?_ GE493.out) | exact HB.out)) hb); clear HO485; clear HO488; clear HO492; clear BK480; clear BK493; clear HB; have HO485 := n0_; have HO488 := n1_; have HO492 := n2_; have HO496 := n3_; have BK480 := n4_; have BK493 := n5_; have HB := n6_; clear n0_ n1_ n2_ n3_ n4_ n5_ n6_; (try clear hb); (try clear hb2); (try clear hk); (try clear hi); (try clear ho0); have hcz111_0 : w110.cell? ⟨gb493, 0, none⟩ = some (.slice Ao107 t490.length co107) := (blk_cell BK493.out 0).trans rfl; have hfz111_0 := blk_frozen BK493.out 0; obtain ⟨Ao112, co112, eo112⟩ := Kd.S_slice HO496.out; subst eo112) | ((with_reducible refine gate_callee (f := 41) rfl ?_); refine goesL_ (some 31) rfl rfl Try.func41 (by kernel_rfl) rfl #[.agg #[.slice Ao107 t490.length co107], .slice Ao112 t494.length co112] rfl (by (try simp only [List.map_toArray, List.map_cons, List.map_nil]); first | done | rfl | (simp only [List.length_drop, List.length_take]; rfl) | (simp only [show ∀ (n_ : Nat) (b_ : Int), Int.tdiv (n_ : Int) b_ = (n_ : Int) / b_ from fun n_ b_ => Int.tdiv_eq_ediv_of_nonneg (Int.natCast_nonneg n_)]; rfl)) ?_; (with_reducible refine (impl_IsPath.calls k _ _ t490 _ _ t494 t497 _ ?side1 ?side2 ?side3 ?side4 A18.out).mono ?_); (case side1 => repeat (first | exact (Kd.S_reads' HO492.out).2.2 | (with_reducible refine Kd.C_alloc ?_ _) | (with_reducible refine Kd.C_drewN ?_ _) | (with_reducible refine Kd.C_drew ?_))); (case side2 => exact (Kd.S_reads' HO492.out).2.1); (case side3 => repeat (first | exact (Kd.S_reads' HO496.out).2.2 | (with_reducible refine Kd.C_alloc ?_ _) | (with_reducible refine Kd.C_drewN ?_ _) | (with_reducible refine Kd.C_drew ?_))); (case side4 => exact (Kd.S_reads' HO496.out).2.1); rintro e w113 ⟨rfl, hb⟩; refine ⟨_, rfl, ?_⟩; have n0_ := Aside0.mk (Kd.S_below (by (with_reducible repeat (first | apply Kd.S_alloc | apply Kd.S_drewN | apply Kd.S_drew)); exact HO485.out) hb); have n1_ := Aside0.mk (Kd.S_below (by (with_reducible repeat (first | apply Kd.S_alloc | apply Kd.S_drewN | apply Kd.S_drew)); exact HO488.out) hb); have n2_ := Aside0.mk (Kd.S_below (by (with_reducible repeat (first | apply Kd.S_alloc | apply Kd.S_drewN | apply Kd.S_drew)); exact HO492.out) hb); have n3_ := Aside0.mk (Kd.S_below (by (with_reducible repeat (first | apply Kd.S_alloc | apply Kd.S_drewN | apply Kd.S_drew)); exact HO496.out) hb); have n4_ := Aside0.mk (blk_below (g := gb480) (o := .cells #[.slice A0_0 l0_0.length c0_0] 43 (0, 0)) (by (with_reducible repeat (first | refine blk_drewN ?_ _ | refine blk_drew ?_ | refine blk_alloc ?_ _)); exact BK480.out) hb); have n5_ := Aside0.mk (blk_below (g := gb493) (o := .cells #[.slice Ao107 t490.length co107] 46 (0, 0)) (by (with_reducible repeat (first | refine blk_drewN ?_ _ | refine blk_drew ?_ | refine blk_alloc ?_ _)); exact BK493.out) hb); have n6_ := Aside0.mk (below_step (by repeat (first | (with_reducible first | exact HB.out | apply below_alloc | apply pw_below_drewN | apply below_drew1 | refine below_set ?_ GE480.out | refine below_set ?_ GE493.out) | exact HB.out)) hb); clear HO485; clear HO488; clear HO492; clear HO496; clear BK480; clear BK493; clear HB; have HO485 := n0_; have HO488 := n1_; have HO492 := n2_; have HO496 := n3_; have BK480 := n4_; have BK493 := n5_; have HB := n6_; clear n0_ n1_ n2_ n3_ n4_ n5_ n6_; (try clear hb); (try clear hb2); (try clear hk); (try clear hi)))
     have n0_ := Aside0.mk (Kd.S_drew HO485.out)
     have n1_ := Aside0.mk (Kd.S_drew HO488.out)
     have n2_ := Aside0.mk (Kd.S_drew HO492.out)
     have n3_ := Aside0.mk (Kd.S_drew HO496.out)
     have n4_ := Aside0.mk (blk_drew BK480.out)
     have n5_ := Aside0.mk (blk_drew BK493.out)
     have n6_ := Aside0.mk (below_drew1 HB.out)
     clear HO485
     clear HO488
     clear HO492
     clear HO496
     clear BK480
     clear BK493
     clear HB
     have HO485 := n0_
     have HO488 := n1_
     have HO492 := n2_
     have HO496 := n3_
     have BK480 := n4_
     have BK493 := n5_
     have HB := n6_
     clear n0_ n1_ n2_ n3_ n4_ n5_ n6_
     refine start_ (n := 5) (S := fun w' => w'.cell? ⟨gb493, 0, none⟩ = some (.slice Ao107 t490.length co107) ∧ w'.cell? ⟨gb480, 0, none⟩ = some (.slice A0_0 l0_0.length c0_0)) (ds := []) #[false, false, false, false, false] (by kernel_rfl) rfl rfl ⟨(blk_cell BK493.out 0).trans rfl, (blk_cell BK480.out 0).trans rfl⟩ (fun hHeld => ?_)
     generalize w113.drew = w114 at HO485 HO488 HO492 HO496 BK480 BK493 HB hHeld ⊢
     refine take_ (i := 0) (N := some 35) (v := ?_) (a' := ?_) #[true, false, false, false, false] rfl rfl (by kernel_rfl) (fun _ _ _ h => h) (Or.inl ⟨by rfl, ?_⟩) hHeld ?_ ?_
     rotate_left
     ·rintro w' ⟨s0, s1⟩
      go_simp
      with_reducible rfl
     rotate_left
     ·simp only [Act.put, List.setIfInBounds_toArray, List.set_cons_zero, List.set_cons_succ, i64_w, i32_w]
      rfl
     refine take_ (i := 1) (N := some 36) (v := ?_) (a' := ?_) #[true, true, false, false, false] rfl rfl (by kernel_rfl) (fun _ _ _ h => h) (Or.inl ⟨by rfl, ?_⟩) hHeld ?_ ?_
     rotate_left
     ·rintro w' ⟨s0, s1⟩
      go_simp
      with_reducible rfl
     rotate_left
     ·simp only [Act.put, List.setIfInBounds_toArray, List.set_cons_zero, List.set_cons_succ, i64_w, i32_w]
      rfl
     refine one_ (i := 2) (N := some 37) #[true, true, true, false, false] rfl rfl (by kernel_rfl) (by decide) (fun K hK => ?_)
     refine goes_ Try.func31 (by kernel_rfl) rfl #[.agg #[.slice A0_0 l0_0.length c0_0]] (by rfl) rfl rfl (by (try simp only [List.map_toArray, List.map_cons, List.map_nil]); first | done | rfl | (simp only [List.length_drop, List.length_take]; rfl) | (simp only [show ∀ (n_ : Nat) (b_ : Int), Int.tdiv (n_ : Int) b_ = (n_ : Int) / b_ from fun n_ b_ => Int.tdiv_eq_ediv_of_nonneg (Int.natCast_nonneg n_)]; rfl)) ?_
     with_reducible refine (laws_toPicture.calls k _ _ l0_0 t498 _ ?side1 ?side2 A39.out).mono ?_
     (case side1 => repeat (first | exact (Kd.C_below HR0_0.out HB.out) | (with_reducible refine Kd.C_alloc ?_ _) | (with_reducible refine Kd.C_drewN ?_ _) | (with_reducible refine Kd.C_drew ?_)))
     (case side2 => exact HC0_0.out)
     rintro e w115 ⟨v499, rfl, ho0, hb⟩
     refine ⟨_, rfl, ?_⟩
     have n0_ := Aside0.mk (Kd.S_elder' (by (with_reducible repeat (first | apply Kd.S_alloc | apply Kd.S_drewN | apply Kd.S_drew)); exact HO485.out) (Kd.S_base ho0) hb)
     have n1_ := Aside0.mk (Kd.S_elder' (by (with_reducible repeat (first | apply Kd.S_alloc | apply Kd.S_drewN | apply Kd.S_drew)); exact HO488.out) (Kd.S_base ho0) hb)
     have n2_ := Aside0.mk (Kd.S_elder' (by (with_reducible repeat (first | apply Kd.S_alloc | apply Kd.S_drewN | apply Kd.S_drew)); exact HO492.out) (Kd.S_base ho0) hb)
     have n3_ := Aside0.mk (Kd.S_elder' (by (with_reducible repeat (first | apply Kd.S_alloc | apply Kd.S_drewN | apply Kd.S_drew)); exact HO496.out) (Kd.S_base ho0) hb)
     have n4_ := Aside0.mk (Kd.S_lower (Kd.S_new' (Kd.S_new' (Kd.S_new' (Kd.S_new' ho0 (Kd.S_lt (by (with_reducible repeat (first | apply Kd.S_alloc | apply Kd.S_drewN | apply Kd.S_drew)); exact HO485.out))) (Kd.S_lt (by (with_reducible repeat (first | apply Kd.S_alloc | apply Kd.S_drewN | apply Kd.S_drew)); exact HO488.out))) (Kd.S_lt (by (with_reducible repeat (first | apply Kd.S_alloc | apply Kd.S_drewN | apply Kd.S_drew)); exact HO492.out))) (Kd.S_lt (by (with_reducible repeat (first | apply Kd.S_alloc | apply Kd.S_drewN | apply Kd.S_drew)); exact HO496.out))) (below_size (by repeat (first | (with_reducible first | exact HB.out | apply below_alloc | apply pw_below_drewN | apply below_drew1 | refine below_set ?_ GE480.out | refine below_set ?_ GE493.out) | exact HB.out))))
     have n5_ := Aside0.mk (blk_below (g := gb480) (o := .cells #[.slice A0_0 l0_0.length c0_0] 43 (0, 0)) (by (with_reducible repeat (first | refine blk_drewN ?_ _ | refine blk_drew ?_ | refine blk_alloc ?_ _)); exact BK480.out) hb)
     have n6_ := Aside0.mk (blk_below (g := gb493) (o := .cells #[.slice Ao107 t490.length co107] 46 (0, 0)) (by (with_reducible repeat (first | refine blk_drewN ?_ _ | refine blk_drew ?_ | refine blk_alloc ?_ _)); exact BK493.out) hb)
     have n7_ := Aside0.mk (below_step (by repeat (first | (with_reducible first | exact HB.out | apply below_alloc | apply pw_below_drewN | apply below_drew1 | refine below_set ?_ GE480.out | refine below_set ?_ GE493.out) | exact HB.out)) hb)
     clear HO485
     clear HO488
     clear HO492
     clear HO496
     clear BK480
     clear BK493
     clear HB
     have HO485 := n0_
     have HO488 := n1_
     have HO492 := n2_
     have HO496 := n3_
     have HO500 := n4_
     have BK480 := n5_
     have BK493 := n6_
     have HB := n7_
     clear n0_ n1_ n2_ n3_ n4_ n5_ n6_ n7_
     (try clear hb)
     (try clear hb2)
     (try clear hk)
     (try clear hi)
     (try clear ho0)
     obtain ⟨Ao116, co116, eo116⟩ := Kd.S_slice HO500.out
     (first | subst eo116 | (injection eo116 with f1_ f2_ f3_; have f4_ := f1_.symm; have f5_ := f3_.symm; clear f1_ f2_ f3_; subst f4_; subst f5_))
     refine hK.out _ _ ⟨(blk_cell BK493.out 0).trans rfl, (blk_cell BK480.out 0).trans rfl⟩ (fun hHeld => ?_)
     clear hK K
     refine norm_ (a' := ?_) ?_ ?_
     rotate_left
     ·show Act.put _ (some 37) _ = _
      simp only [Act.put, List.setIfInBounds_toArray, List.set_cons_zero, List.set_cons_succ, i64_w, i32_w]
      rfl
     refine one_ (i := 3) (N := some 38) #[true, true, true, true, false] rfl rfl (by kernel_rfl) (by decide) (fun K hK => ?_)
     refine goes_ Try.func33 (by kernel_rfl) rfl #[.agg #[.slice Ao107 t490.length co107], .agg #[.slice Ao116 t498.length co116]] (by rfl) rfl rfl (by (try simp only [List.map_toArray, List.map_cons, List.map_nil]); first | done | rfl | (simp only [List.length_drop, List.length_take]; rfl) | (simp only [show ∀ (n_ : Nat) (b_ : Int), Int.tdiv (n_ : Int) b_ = (n_ : Int) / b_ from fun n_ b_ => Int.tdiv_eq_ediv_of_nonneg (Int.natCast_nonneg n_)]; rfl)) ?_
     with_reducible refine (laws_eqPicture.calls k _ _ t490 _ _ t498 false _ ?side1 ?side2 ?side3 ?side4 A40.out).mono ?_
     (case side1 => repeat (first | exact (Kd.S_reads' HO492.out).2.2 | (with_reducible refine Kd.C_alloc ?_ _) | (with_reducible refine Kd.C_drewN ?_ _) | (with_reducible refine Kd.C_drew ?_)))
     (case side2 => exact (Kd.S_reads' HO492.out).2.1)
     (case side3 => repeat (first | exact (Kd.S_reads' HO500.out).2.2 | (with_reducible refine Kd.C_alloc ?_ _) | (with_reducible refine Kd.C_drewN ?_ _) | (with_reducible refine Kd.C_drew ?_)))
     (case side4 => exact (Kd.S_reads' HO500.out).2.1)
     rintro e w117 ⟨rfl, hb⟩
     refine ⟨_, rfl, ?_⟩
     have n0_ := Aside0.mk (Kd.S_below (by (with_reducible repeat (first | apply Kd.S_alloc | apply Kd.S_drewN | apply Kd.S_drew)); exact HO485.out) hb)
     have n1_ := Aside0.mk (Kd.S_below (by (with_reducible repeat (first | apply Kd.S_alloc | apply Kd.S_drewN | apply Kd.S_drew)); exact HO488.out) hb)
     have n2_ := Aside0.mk (Kd.S_below (by (with_reducible repeat (first | apply Kd.S_alloc | apply Kd.S_drewN | apply Kd.S_drew)); exact HO492.out) hb)
     have n3_ := Aside0.mk (Kd.S_below (by (with_reducible repeat (first | apply Kd.S_alloc | apply Kd.S_drewN | apply Kd.S_drew)); exact HO496.out) hb)
     have n4_ := Aside0.mk (Kd.S_below (by (with_reducible repeat (first | apply Kd.S_alloc | apply Kd.S_drewN | apply Kd.S_drew)); exact HO500.out) hb)
     have n5_ := Aside0.mk (blk_below (g := gb480) (o := .cells #[.slice A0_0 l0_0.length c0_0] 43 (0, 0)) (by (with_reducible repeat (first | refine blk_drewN ?_ _ | refine blk_drew ?_ | refine blk_alloc ?_ _)); exact BK480.out) hb)
     have n6_ := Aside0.mk (blk_below (g := gb493) (o := .cells #[.slice Ao107 t490.length co107] 46 (0, 0)) (by (with_reducible repeat (first | refine blk_drewN ?_ _ | refine blk_drew ?_ | refine blk_alloc ?_ _)); exact BK493.out) hb)
     have n7_ := Aside0.mk (below_step (by repeat (first | (with_reducible first | exact HB.out | apply below_alloc | apply pw_below_drewN | apply below_drew1 | refine below_set ?_ GE480.out | refine below_set ?_ GE493.out) | exact HB.out)) hb)
     clear HO485
     clear HO488
     clear HO492
     clear HO496
     clear HO500
     clear BK480
     clear BK493
     clear HB
     have HO485 := n0_
     have HO488 := n1_
     have HO492 := n2_
     have HO496 := n3_
     have HO500 := n4_
     have BK480 := n5_
     have BK493 := n6_
     have HB := n7_
     clear n0_ n1_ n2_ n3_ n4_ n5_ n6_ n7_
     (try clear hb)
     (try clear hb2)
     (try clear hk)
     (try clear hi)
     refine hK.out _ _ ⟨(blk_cell BK493.out 0).trans rfl, (blk_cell BK480.out 0).trans rfl⟩ (fun hHeld => ?_)
     clear hK K
     refine norm_ (a' := ?_) ?_ ?_
     rotate_left
     ·show Act.put _ (some 38) _ = _
      simp only [Act.put, List.setIfInBounds_toArray, List.set_cons_zero, List.set_cons_succ, i64_w, i32_w]
      rfl
     refine pure_ (i := 4) (N := some 39) (v := ?_) (a' := ?_) #[true, true, true, true, true] rfl rfl (by kernel_rfl) (fun _ _ _ h => h) (Or.inl ⟨by rfl, ?_⟩) ?_ ?_
     rotate_left
     ·intro w'
      go_simp
      with_reducible rfl
     rotate_left
     ·simp only [Act.put, List.setIfInBounds_toArray, List.set_cons_zero, List.set_cons_succ, i64_w, i32_w]
      rfl
     refine done_ (by kernel_rfl) ?_
     try go_wp2
     go_ret
     exact ⟨by first | rfl | (simp [errW_none, errW_some] <;> rfl) | (simp [*, errW_none, errW_some] <;> rfl), by repeat (first | (with_reducible first | exact HB.out | apply below_alloc | apply pw_below_drewN | apply below_drew1 | refine below_set ?_ GE480.out | refine below_set ?_ GE493.out) | exact HB.out)⟩
def laws_FnExactIsPath.Pure : Prop := ∀ (l0_0 : List (List Int)) (l1 : List (List Int)), (l0_0.length ≤ maxLen ∧ ∀ y ∈ l0_0, (y.length ≤ maxLen ∧ ∀ y_ ∈ y, (Lit.int .i64 y_).wf = true)) → (l1.length ≤ maxLen ∧ ∀ y ∈ l1, (y.length ≤ maxLen ∧ ∀ y_ ∈ y, (Lit.int .i64 y_).wf = true)) → ∃ k, laws_FnExactIsPath.f k l0_0 l1 = some true
theorem laws_FnExactIsPath.walk (P : laws_FnExactIsPath.Pure) (A0_0 : Option Addr) (c0_0 : Nat) (l0_0 : List (List Int)) (A1 : Option Addr) (c1 : Nat) (l1 : List (List Int)) (w : World) (hr0_0 : Kd.C (Kd.slice 2 (Kd.int .i64)) w A0_0 l0_0.length l0_0) (hc0_0 : l0_0.length ≤ c0_0) (hr1 : Kd.C (Kd.slice 2 (Kd.int .i64)) w A1 l1.length l1) (hc1 : l1.length ≤ c1) (w0_0 : (l0_0.length ≤ maxLen ∧ ∀ y ∈ l0_0, (y.length ≤ maxLen ∧ ∀ y_ ∈ y, (Lit.int .i64 y_).wf = true))) (w1 : (l1.length ≤ maxLen ∧ ∀ y ∈ l1, (y.length ≤ maxLen ∧ ∀ y_ ∈ y, (Lit.int .i64 y_).wf = true))) :
  Calls Try.prog 9 #[.agg #[.slice A0_0 l0_0.length c0_0], .slice A1 l1.length c1] w fun e w' => e = .returned (.bool true) ∧ Below w.heap.size w w' := by
 obtain ⟨k, h⟩ := P l0_0 l1 w0_0 w1
 refine (laws_FnExactIsPath.calls k A0_0 c0_0 l0_0 A1 c1 l1 true w hr0_0 hc0_0 hr1 hc1 h).mono ?_
 rintro e w' ⟨rfl, hd⟩
 exact ⟨rfl, hd⟩
end Go.Proofs.Ytgndemjphjhahaa.Q
namespace Go.Proofs.Ytgndemjphjhahaa.Com
open Go.RowKit Go.Proofs.YtgndemjphjhahaaW.PrintWords
theorem w64 {x : Int} (h1 : -9223372036854775808 ≤ x) (h2 : x ≤ 9223372036854775807) : wrap64 x = x := by
 unfold wrap64
 omega
theorem mul_bd {a b A B : Int} (h0 : 0 ≤ a) (h1 : a ≤ A) (h2 : 0 ≤ b) (h3 : b ≤ B) : 0 ≤ a * b ∧ a * b ≤ A * B :=
 ⟨Int.mul_nonneg h0 h2, Int.mul_le_mul h1 h3 h2 (Int.le_trans h0 h1)⟩
theorem ev_of {α : Type} {g : Nat → Option α} {r : α} (h : Ev g r) : ∃ k, g k = some r := h.rounds
theorem ev_bind' {α β : Type} {o : Option α} {f : Nat → α → Option β} {a : α} {r : β} (h : o = some a) (k : Ev (fun n => f n a) r) : Ev (fun n => o.bind (f n)) r := by
 subst h
 exact k
end Go.Proofs.Ytgndemjphjhahaa.Com
namespace Go.Proofs.Ytgndemjphjhahaa.Com
set_option linter.unusedSimpArgs false
set_option linter.unusedVariables false
open Go.RowKit Go.Proofs.YtgndemjphjhahaaW.PrintWords
theorem ev_fold {α σ ρ : Type} (xs : List α) (g : Nat → σ → Nat → Option ρ) (F : List α → σ → ρ) (Inv : Nat → σ → Prop)
  (h0 : ∀ s, Inv xs.length s → Ev (g xs.length s) (F [] s))
  (hs : ∀ m (h : m < xs.length) s, Inv m s → (∀ s', Inv (m + 1) s' → Ev (g (m + 1) s') (F (xs.drop (m + 1)) s')) → Ev (g m s) (F (xs[m] :: xs.drop (m + 1)) s)) :
  ∀ m s, m ≤ xs.length → Inv m s → Ev (g m s) (F (xs.drop m) s) := by
 have key : ∀ d m s, m + d = xs.length → Inv m s → Ev (g m s) (F (xs.drop m) s) := by
  intro d
  induction d with
  | zero =>
   intro m s e hi
   obtain rfl : m = xs.length := by omega
   rw [List.drop_length]
   exact h0 s hi
  | succ d ih =>
   intro m s e hi
   have h : m < xs.length := by omega
   rw [List.drop_eq_getElem_cons h]
   exact hs m h s hi (fun s' hi' => ih (m + 1) s' (by omega) hi')
 intro m s hm hi
 exact key (xs.length - m) m s (by omega) hi
theorem ev_list {α ρ : Type} (xs : List α) (g : Nat → Nat → Option ρ) (F : List α → ρ) (h0 : Ev (g xs.length) (F []))
  (hs : ∀ m (h : m < xs.length), Ev (g (m + 1)) (F (xs.drop (m + 1))) → Ev (g m) (F (xs[m] :: xs.drop (m + 1)))) (m : Nat) (hm : m ≤ xs.length) : Ev (g m) (F (xs.drop m)) :=
 ev_fold xs (fun m (_ : Unit) => g m) (fun l _ => F l) (fun _ _ => True) (fun _ _ => h0) (fun m h _ _ ih => hs m h (ih () trivial)) m () hm trivial
theorem ev_count {σ ρ : Type} (n : Nat) (g : Nat → σ → Nat → Option ρ) (r : ρ) (Inv : Nat → σ → Prop) (h0 : ∀ s, Inv n s → Ev (g n s) r)
  (hs : ∀ m s, m < n → Inv m s → ∃ s', Inv (m + 1) s' ∧ (Ev (g (m + 1) s') r → Ev (g m s) r)) : ∀ m s, m ≤ n → Inv m s → Ev (g m s) r := by
 have key : ∀ d m s, m + d = n → Inv m s → Ev (g m s) r := by
  intro d
  induction d with
  | zero =>
   intro m s e hi
   obtain rfl : m = n := by omega
   exact h0 s hi
  | succ d ih =>
   intro m s e hi
   obtain ⟨s', hi', k⟩ := hs m s (by omega) hi
   exact k (ih (m + 1) s' (by omega) hi')
 intro m s hm hi
 exact key (n - m) m s (by omega) hi
theorem rd_nat {xs : List Int} {m : Nat} (h : m < xs.length) : rd xs (m : Int) = xs[m] := by
 unfold rd
 rw [Int.toNat_natCast, List.getD_eq_getElem?_getD, List.getElem?_eq_getElem h]
 rfl
theorem w_succ {m : Nat} (h : m < 9223372036854775807) : wrap64 ((m : Int) + 1) = ((m + 1 : Nat) : Int) := by
 rw [w64 (by omega) (by omega)]
 omega
end Go.Proofs.Ytgndemjphjhahaa.Com
namespace Go.Proofs.Ytgndemjphjhahaa.Com
set_option linter.unusedSimpArgs false
set_option linter.unusedVariables false
open Go.RowKit Go.Proofs.YtgndemjphjhahaaW.PrintWords Go.Proofs.Ytgndemjphjhahaa.Q
theorem set_take (xs : List Int) (m : Nat) (h : m < xs.length) : (xs.take m ++ List.replicate (xs.length - m) 0).set m xs[m] = xs.take (m + 1) ++ List.replicate (xs.length - (m + 1)) 0 := by
 have hl : (xs.take m).length = m := by rw [List.length_take]; omega
 rw [List.set_append_right _ _ (by omega), hl, Nat.sub_self]
 obtain ⟨q, hq⟩ : ∃ q, xs.length - m = q + 1 := ⟨xs.length - m - 1, by omega⟩
 rw [hq, List.replicate_succ, List.set_cons_zero, show xs.length - (m + 1) = q by omega, List.take_succ_eq_append_getElem h, List.append_assoc]
 rfl
theorem toInt64S_ev (xs : List Int) (hx : xs.length ≤ 1048576) : Ev (fun k => laws_toInt64S.f k xs) xs := by
 unfold laws_toInt64S.f
 simp only [if_pos (show 0 ≤ (xs.length : Int) by omega), if_pos (show ((xs.length : Int)).toNat ≤ 35184372088832 by omega)]
 have := ev_count xs.length (fun m s k => laws_toInt64S.l0 k xs s (m : Int)) xs (fun m s => s = xs.take m ++ List.replicate (xs.length - m) 0) (fun s hs => ?_) (fun m s hm hs => ⟨xs.take (m + 1) ++ List.replicate (xs.length - (m + 1)) 0, rfl, fun ih => ?_⟩) 0 (List.replicate xs.length 0) (by omega) (by simp)
 ·simpa using this
 ·refine Ev.step (fun k => by rw [laws_toInt64S.l0]) ?_
  simp only [if_neg (show ¬ (xs.length : Int) < (xs.length : Int) by omega)]
  subst hs
  simp
  exact Ev.now _
 ·refine Ev.step (fun k => by rw [laws_toInt64S.l0]) ?_
  subst hs
  have hl : (xs.take m ++ List.replicate (xs.length - m) 0).length = xs.length := by simp; omega
  simp only [if_pos (show (m : Int) < (xs.length : Int) by omega), if_pos (show 0 ≤ (m : Int) by omega), hl, rd_nat hm, Int.toNat_natCast, set_take xs m hm, w_succ (m := m) (by omega)]
  exact ih
theorem eqInt64S_ev (xs ys : List Int) (hx : xs.length ≤ 1048576) : Ev (fun k => laws_eqInt64S.f k xs ys) (decide (xs = ys)) := by
 unfold laws_eqInt64S.f
 by_cases hl : (xs.length : Int) = (ys.length : Int)
 ·simp only [if_pos hl]
  have key : ∀ m, m ≤ xs.length → Ev (fun k => laws_eqInt64S.l0 k xs ys (m : Int)) (decide (xs.drop m = ys.drop m)) := by
   have gen := ev_list xs (fun m k => laws_eqInt64S.l0 k xs ys (m : Int)) (fun l => decide (l = ys.drop (xs.length - l.length))) ?_ ?_
   ·intro m hm
    have := gen m hm
    rwa [List.length_drop, show xs.length - (xs.length - m) = m by omega] at this
   ·refine Ev.step (fun k => by rw [laws_eqInt64S.l0]) ?_
    simp only [if_neg (show ¬ (xs.length : Int) < (xs.length : Int) by omega)]
    have : ys.drop (xs.length - ([] : List Int).length) = [] := by simp; omega
    rw [this]
    exact Ev.now _
   ·intro m hm ih
    refine Ev.step (fun k => by rw [laws_eqInt64S.l0]) ?_
    have hy : m < ys.length := by omega
    simp only [if_pos (show (m : Int) < (xs.length : Int) by omega), if_pos (show 0 ≤ (m : Int) by omega), if_pos (show (m : Int) < (ys.length : Int) by omega), rd_nat hm, rd_nat hy, w_succ (m := m) (by omega)]
    rw [List.length_drop, show xs.length - (xs.length - (m + 1)) = m + 1 by omega] at ih
    have e : xs.length - (xs[m] :: xs.drop (m + 1)).length = m := by simp; omega
    rw [e, List.drop_eq_getElem_cons hy]
    by_cases c : xs[m] = ys[m]
    ·simp only [if_pos c]
     rw [show decide (xs[m] :: xs.drop (m + 1) = ys[m] :: ys.drop (m + 1)) = decide (xs.drop (m + 1) = ys.drop (m + 1)) from decide_eq_decide.2 (by rw [c]; exact ⟨fun h => (List.cons.inj h).2, fun h => by rw [h]⟩)]
     exact ih
    ·simp only [if_neg c]
     rw [decide_eq_false (show ¬ xs[m] :: xs.drop (m + 1) = ys[m] :: ys.drop (m + 1) from fun h => c (List.cons.inj h).1)]
     exact Ev.now _
  have := key 0 (by omega)
  simpa using this
 ·simp only [if_neg hl]
  have : xs ≠ ys := fun e => hl (by rw [e])
  rw [decide_eq_false this]
  exact Ev.now _
theorem sz_tells (xs : List Int) (a : Int) (hx : xs.length ≤ maxLen) (ha : -1 ≤ a ∧ a ≤ 1048576) : laws_szInt64S.f xs a = some (if a - xs.length < 0 then -1 else a - xs.length) := by
 unfold laws_szInt64S.f
 unfold maxLen at hx
 rw [w64 (by omega) (by omega)]
 split <;> rfl
end Go.Proofs.Ytgndemjphjhahaa.Com
namespace Go.Proofs.Ytgndemjphjhahaa.Com
set_option linter.unusedSimpArgs false
set_option linter.unusedVariables false
open Go.RowKit Go.Proofs.YtgndemjphjhahaaW.PrintWords Go.Proofs.Ytgndemjphjhahaa.Q
theorem within_tells (x a b : Int) : impl_within.f x a b = some (decide (a ≤ x ∧ x ≤ b)) := by
 unfold impl_within.f
 split <;> simp [*]
theorem in_tells (x a b : Int) : spec_l00In.f x a b = some (decide (a ≤ x ∧ x ≤ b)) := by
 unfold spec_l00In.f
 by_cases h : x ≥ a
 ·have h' : a ≤ x := h
  simp [h, h']
 ·have h' : ¬ a ≤ x := h
  simp [h, h']
end Go.Proofs.Ytgndemjphjhahaa.Com
namespace Go.Proofs.Ytgndemjphjhahaa.Com
set_option linter.unusedSimpArgs false
set_option linter.unusedVariables false
set_option linter.unusedSectionVars false
open Go.RowKit Go.Proofs.YtgndemjphjhahaaW.PrintWords Go.Proofs.YtgndemjphjhahaaW.PrintMore Go.Proofs.Ytgndemjphjhahaa.Q
theorem rdr_nat {xs : List (List Int)} {m : Nat} (h : m < xs.length) : rd_L3 xs (m : Int) = xs[m] := by
 unfold rd_L3
 rw [Int.toNat_natCast, List.getD_eq_getElem?_getD, List.getElem?_eq_getElem h]
 rfl
theorem setr_take (xs : List (List Int)) (m : Nat) (h : m < xs.length) : (xs.take m ++ List.replicate (xs.length - m) []).set m xs[m] = xs.take (m + 1) ++ List.replicate (xs.length - (m + 1)) [] := by
 have hl : (xs.take m).length = m := by rw [List.length_take]; omega
 rw [List.set_append_right _ _ (by omega), hl, Nat.sub_self]
 obtain ⟨q, hq⟩ : ∃ q, xs.length - m = q + 1 := ⟨xs.length - m - 1, by omega⟩
 rw [hq, List.replicate_succ, List.set_cons_zero, show xs.length - (m + 1) = q by omega, List.take_succ_eq_append_getElem h, List.append_assoc]
 rfl
theorem toInt64SS_ev (xs : List (List Int)) (hx : xs.length ≤ 1048576) (hr : ∀ x ∈ xs, x.length ≤ 1048576) : Ev (fun k => laws_toInt64SS.f k xs) xs := by
 unfold laws_toInt64SS.f
 simp only [if_pos (show 0 ≤ (xs.length : Int) by omega), if_pos (show ((xs.length : Int)).toNat ≤ 11728124029610 by omega)]
 have := ev_count xs.length (fun m s k => laws_toInt64SS.l0 k xs s (m : Int)) xs (fun m s => s = xs.take m ++ List.replicate (xs.length - m) []) (fun s hs => ?_) (fun m s hm hs => ⟨xs.take (m + 1) ++ List.replicate (xs.length - (m + 1)) [], rfl, fun ih => ?_⟩) 0 (List.replicate xs.length []) (by omega) (by simp)
 ·simpa using this
 ·refine Ev.step (fun k => by rw [laws_toInt64SS.l0]) ?_
  simp only [if_neg (show ¬ (xs.length : Int) < (xs.length : Int) by omega)]
  subst hs
  simp
  exact Ev.now _
 ·refine Ev.step (fun k => by rw [laws_toInt64SS.l0]) ?_
  subst hs
  have hl : (xs.take m ++ List.replicate (xs.length - m) []).length = xs.length := by simp; omega
  simp only [if_pos (show (m : Int) < (xs.length : Int) by omega), if_pos (show 0 ≤ (m : Int) by omega), hl, rdr_nat hm, w_succ (m := m) (by omega)]
  refine Ev.bind (toInt64S_ev xs[m] (hr _ (List.getElem_mem hm))) ?_
  simp only [Int.toNat_natCast, setr_take xs m hm]
  exact ih
theorem eqInt64SS_ev (xs : List (List Int)) (hx : xs.length ≤ 1048576) (hr : ∀ x ∈ xs, x.length ≤ 1048576) : Ev (fun k => laws_eqInt64SS.f k xs xs) true := by
 unfold laws_eqInt64SS.f
 simp only [if_true]
 have gen := ev_list xs (fun m k => laws_eqInt64SS.l0 k xs xs (m : Int)) (fun _ => true) ?_ ?_ 0 (by omega)
 ·exact gen
 ·refine Ev.step (fun k => by rw [laws_eqInt64SS.l0]) ?_
  simp only [if_neg (show ¬ (xs.length : Int) < (xs.length : Int) by omega)]
  exact Ev.now _
 ·intro m hm ih
  refine Ev.step (fun k => by rw [laws_eqInt64SS.l0]) ?_
  simp only [if_pos (show (m : Int) < (xs.length : Int) by omega), if_pos (show 0 ≤ (m : Int) by omega), rdr_nat hm, w_succ (m := m) (by omega)]
  refine Ev.bind (eqInt64S_ev xs[m] xs[m] (hr _ (List.getElem_mem hm))) ?_
  simp only [decide_true, if_true]
  exact ih
def szr (a : Int) : List (List Int) → Int
 | [] => a
 | x :: r => if a - x.length < 0 then -1 else szr (a - x.length) r
theorem szr_tells (l : List (List Int)) : ∀ a, a ≤ 1048576 → 0 ≤ szr a l → ∀ x ∈ l, x.length ≤ 1048576 := by
 induction l with
 | nil => intro a _ _ x hx; simp at hx
 | cons y r ih =>
  intro a ha h x hx
  unfold szr at h
  split at h
  ·omega
  ·rcases List.mem_cons.1 hx with rfl | hx
   ·omega
   ·exact ih _ (by omega) h x hx
theorem szr_ge (l : List (List Int)) : ∀ a, 0 ≤ a → -1 ≤ szr a l := by
 induction l with
 | nil => intro a h; unfold szr; omega
 | cons y r ih =>
  intro a h
  unfold szr
  split
  ·omega
  ·exact ih _ (by omega)
def rowOk (n : Nat) (b : Int) (x : List Int) : Bool := decide (x.length = n) && x.all fun z => decide (0 ≤ z ∧ z ≤ b)
def rowsForm (b : Int) (l : List (List Int)) : Bool := match l with
 | [] => false
 | y :: _ => decide (l.length ≤ 12) && decide (1 ≤ y.length ∧ y.length ≤ 12) && l.all (rowOk y.length b)
theorem areRows_tells (l : List (List Int)) (b : Int) : impl_areRows.f l b = some (rowsForm b l) := by
 cases l with
 | nil => rfl
 | cons y r =>
  unfold impl_areRows.f rowsForm
  simp only
  congr 1
  rw [List.not_any_eq_all_not]
  congr 2
  funext x
  unfold impl_areRows.p rowOk
  by_cases h : x.length = y.length <;> simp [h]
theorem form_ev (l : List (List Int)) (b : Int) (hx : l.length ≤ 1048576) (hr : ∀ x ∈ l, x.length ≤ 1048576) : Ev (fun k => spec_l09Form.f k l b) (rowsForm b l) := by
 have jf : Ev (fun k => spec_l09Form.j0 k l b true) false := Ev.step (fun k => by rw [spec_l09Form.j0]) (by simp only [if_true]; exact Ev.now _)
 unfold spec_l09Form.f
 cases l with
 | nil =>
  simp only [if_pos (show (([] : List (List Int)).length : Int) < 1 by decide)]
  exact jf
 | cons y r =>
  have e0 : rd_L3 (y :: r) 0 = y := rdr_nat (xs := y :: r) (m := 0) (by rw [List.length_cons]; omega)
  have hl : (y :: r).length = r.length + 1 := rfl
  simp only [if_neg (show ¬ ((y :: r).length : Int) < 1 by omega), if_pos (show 0 < ((y :: r).length : Int) by omega), e0]
  have ef : rowsForm b (y :: r) = (decide ((y :: r).length ≤ 12) && decide (1 ≤ y.length ∧ y.length ≤ 12) && (y :: r).all (rowOk y.length b)) := rfl
  by_cases h1 : ((y :: r).length : Int) > 12
  ·simp only [if_pos h1]
   rw [ef, decide_eq_false (show ¬ (y :: r).length ≤ 12 by omega), Bool.false_and, Bool.false_and]
   exact jf
  ·simp only [if_neg h1]
   rw [ef, decide_eq_true (show (y :: r).length ≤ 12 by omega), Bool.true_and]
   by_cases h2 : (y.length : Int) < 1
   ·simp only [if_pos h2]
    rw [decide_eq_false (show ¬ (1 ≤ y.length ∧ y.length ≤ 12) by omega), Bool.false_and]
    exact jf
   ·simp only [if_neg h2]
    by_cases h3 : (y.length : Int) > 12
    ·rw [decide_eq_true h3, decide_eq_false (show ¬ (1 ≤ y.length ∧ y.length ≤ 12) by omega), Bool.false_and]
     exact jf
    ·rw [decide_eq_false h3, decide_eq_true (show 1 ≤ y.length ∧ y.length ≤ 12 by omega), Bool.true_and]
     refine Ev.step (fun k => by rw [spec_l09Form.j0]) ?_
     simp only [Bool.false_eq_true, if_false]
     generalize y :: r = l at hx hr e0 hl h1
     have gen := ev_list l (fun m k => spec_l09Form.l0 k l b (m : Int)) (fun d => d.all (rowOk y.length b)) ?_ ?_ 0 (by omega)
     ·exact gen
     ·refine Ev.step (fun k => by rw [spec_l09Form.l0]) ?_
      simp only [if_neg (show ¬ (l.length : Int) < (l.length : Int) by omega), List.all_nil]
      exact Ev.now _
     ·intro m hm ih
      have hrm := hr _ (List.getElem_mem hm)
      refine Ev.step (fun k => by rw [spec_l09Form.l0]) ?_
      simp only [if_pos (show (m : Int) < (l.length : Int) by omega), if_pos (show 0 ≤ (m : Int) by omega), if_pos (show 0 < (l.length : Int) by omega), rdr_nat hm, e0]
      rw [List.all_cons]
      by_cases q : l[m].length = y.length
      ·simp only [if_pos (show (l[m].length : Int) = (y.length : Int) by omega)]
       have er : rowOk y.length b l[m] = l[m].all fun z => decide (0 ≤ z ∧ z ≤ b) := by unfold rowOk; rw [decide_eq_true q, Bool.true_and]
       rw [er]
       have gen := ev_list l[m] (fun j k => spec_l09Form.l1 k l b (m : Int) (j : Int)) (fun d => (d.all fun z => decide (0 ≤ z ∧ z ≤ b)) && (l.drop (m + 1)).all (rowOk y.length b)) ?_ ?_ 0 (by omega)
       ·exact gen
       ·refine Ev.step (fun k => by rw [spec_l09Form.l1]) ?_
        simp only [if_pos (show (m : Int) < (l.length : Int) by omega), if_pos (show 0 ≤ (m : Int) by omega), rdr_nat hm, if_neg (show ¬ (l[m].length : Int) < (l[m].length : Int) by omega), w_succ (m := m) (by omega), List.all_nil, Bool.true_and]
        exact ih
       ·intro j hj ih2
        refine Ev.step (fun k => by rw [spec_l09Form.l1]) ?_
        simp only [if_pos (show (m : Int) < (l.length : Int) by omega), if_pos (show 0 ≤ (m : Int) by omega), rdr_nat hm, if_pos (show (j : Int) < (l[m].length : Int) by omega), if_pos (show 0 ≤ (j : Int) by omega), rd_nat hj, in_tells, Option.bind_some, decide_eq_true_eq, w_succ (m := j) (by omega)]
        rw [List.all_cons]
        by_cases c : 0 ≤ l[m][j] ∧ l[m][j] ≤ b
        ·simp only [if_pos c]
         rw [decide_eq_true c, Bool.true_and]
         exact ih2
        ·simp only [if_neg c]
         rw [decide_eq_false c, Bool.false_and, Bool.false_and]
         exact Ev.now _
      ·simp only [if_neg (show ¬ (l[m].length : Int) = (y.length : Int) by omega)]
       have er : rowOk y.length b l[m] = false := by unfold rowOk; rw [decide_eq_false q, Bool.false_and]
       rw [er, Bool.false_and]
       exact Ev.now _
end Go.Proofs.Ytgndemjphjhahaa.Com
namespace Go.Proofs.Ytgndemjphjhahaa.Com
set_option linter.unusedSimpArgs false
set_option linter.unusedVariables false
set_option linter.unusedSectionVars false
open Go.RowKit Go.Proofs.YtgndemjphjhahaaW.PrintWords Go.Proofs.YtgndemjphjhahaaW.PrintMore Go.Proofs.Ytgndemjphjhahaa.Q
def tot : List (List Int) → Int
 | [] => 0
 | x :: r => (x.length : Int) + tot r
theorem tot_nn (l : List (List Int)) : 0 ≤ tot l := by
 induction l with
 | nil => exact Int.le_refl _
 | cons x r ih => unfold tot; omega
theorem szr_tot (l : List (List Int)) : ∀ a, 0 ≤ szr a l → szr a l = a - tot l := by
 induction l with
 | nil => intro a _; simp [szr, tot]
 | cons y r ih =>
  intro a h
  unfold szr at h ⊢
  unfold tot
  split at h
  ·omega
  ·rename_i c
   rw [if_neg c, ih _ h]
   omega
theorem szSS_ev (l : List (List Int)) (a : Int) (ha : 0 ≤ a ∧ a ≤ 1048576) (hl : l.length ≤ maxLen) (hr : ∀ x ∈ l, x.length ≤ maxLen) :
  ∃ t, Ev (fun k => laws_szInt64SS.f k l a) t ∧ (t = -1 ∨ (0 ≤ t ∧ t ≤ a ∧ l.length ≤ 1048576 ∧ (∀ x ∈ l, x.length ≤ 1048576) ∧ tot l ≤ 1048576)) := by
 unfold laws_szInt64SS.f
 have hm : maxLen ≤ 9223372036854775807 := by decide
 rw [w64 (x := a - (l.length : Int)) (by omega) (by omega)]
 by_cases h : a - (l.length : Int) < 0
 ·refine ⟨-1, ?_, .inl rfl⟩
  simp only [if_pos h]
  exact Ev.now _
 ·refine ⟨szr (a - l.length) l, ?_, ?_⟩
  ·simp only [if_neg h]
   have gen := ev_fold l (fun m (s : Int) k => laws_szInt64SS.l0 k l s (m : Int)) (fun d s => szr s d) (fun m s => 0 ≤ s ∧ s ≤ 1048576) ?_ ?_ 0 (a - (l.length : Int)) (by omega) ⟨by omega, by omega⟩
   ·exact gen
   ·intro s _
    refine Ev.step (fun k => by rw [laws_szInt64SS.l0]) ?_
    simp only [if_neg (show ¬ (l.length : Int) < (l.length : Int) by omega)]
    exact Ev.now _
   ·rintro m hm s ⟨s0, s1⟩ k
    refine Ev.step (fun k => by rw [laws_szInt64SS.l0]) ?_
    simp only [if_pos (show (m : Int) < (l.length : Int) by omega), if_pos (show 0 ≤ (m : Int) by omega), rdr_nat hm, w_succ (m := m) (by omega), sz_tells l[m] s (hr _ (List.getElem_mem hm)) (by omega), Option.bind_some]
    unfold szr
    by_cases c : s - (l[m].length : Int) < 0
    ·simp only [if_pos c, if_pos (show (-1 : Int) < 0 by omega)]
     exact Ev.now _
    ·simp only [if_neg c]
     exact k _ ⟨by omega, by omega⟩
  ·by_cases c : szr (a - l.length) l < 0
   ·have := szr_ge l (a - l.length) (by omega)
    exact .inl (by omega)
   ·have e := szr_tot l (a - l.length) (by omega)
    have := tot_nn l
    exact .inr ⟨by omega, by omega, by omega, szr_tells l (a - (l.length : Int)) (by omega) (by omega), by omega⟩
def grid0 (R C : Nat) : List (List Int) := List.replicate R (List.replicate C 0)
theorem square_ev (R C : Nat) (hR : R ≤ 1000000) (hC : C ≤ 1000000) : Ev (fun k => spec_l09Square.f k (R : Int) (C : Int)) (grid0 R C) := by
 unfold spec_l09Square.f
 refine ev_count R (fun m (s : List (List Int)) k => spec_l09Square.l0 k (R : Int) (C : Int) s (m : Int)) _ (fun m s => s = List.replicate m (List.replicate C 0)) ?_ ?_ 0 [] (by omega) rfl
 ·rintro _ rfl
  refine Ev.step (fun k => by rw [spec_l09Square.l0]) ?_
  simp only [if_neg (show ¬ (R : Int) < (R : Int) by omega)]
  exact Ev.now _
 ·rintro m _ hm rfl
  refine ⟨_, rfl, fun ih => ?_⟩
  refine Ev.step (fun k => by rw [spec_l09Square.l0]) ?_
  simp only [if_pos (show (m : Int) < (R : Int) by omega), if_pos (show 0 ≤ (C : Int) by omega), Int.toNat_natCast, if_pos (show C ≤ 35184372088832 by omega), List.length_replicate, if_pos (show m < 5864062014805 by omega), w_succ (m := m) (by omega)]
  rw [← List.replicate_succ']
  exact ih
theorem noughts_ev (R C : Nat) (hR : R ≤ 1000000) (hC : C ≤ 1000000) : Ev (fun k => impl_noughts.f k (R : Int) (C : Int)) (grid0 R C) := by
 unfold impl_noughts.f
 simp only [if_pos (show 0 ≤ (R : Int) by omega), Int.toNat_natCast, if_pos (show R ≤ 11728124029610 by omega), Option.bind_some, List.length_replicate]
 refine ev_count R (fun m (s : List (List Int)) k => impl_noughts.l0 k (C : Int) s (R : Int) (m : Int)) _ (fun m s => s = List.replicate m (List.replicate C 0) ++ List.replicate (R - m) []) ?_ ?_ 0 _ (by omega) (by simp)
 ·rintro _ rfl
  refine Ev.step (fun k => by rw [impl_noughts.l0]) ?_
  simp only [if_neg (show ¬ (R : Int) < (R : Int) by omega), Nat.sub_self, List.replicate_zero, List.append_nil]
  exact Ev.now _
 ·rintro m _ hm rfl
  refine ⟨_, rfl, fun ih => ?_⟩
  refine Ev.step (fun k => by rw [impl_noughts.l0]) ?_
  have hl : (List.replicate m (List.replicate C (0 : Int)) ++ List.replicate (R - m) []).length = R := by simp; omega
  simp only [hl, if_pos (show (m : Int) < (R : Int) by omega), if_pos (show 0 ≤ (C : Int) by omega), Int.toNat_natCast, if_pos (show C ≤ 35184372088832 by omega), if_pos (show 0 ≤ (m : Int) by omega), w_succ (m := m) (by omega)]
  have es : (List.replicate m (List.replicate C (0 : Int)) ++ List.replicate (R - m) []).set m (List.replicate C 0) = List.replicate (m + 1) (List.replicate C 0) ++ List.replicate (R - (m + 1)) [] := by
   obtain ⟨q, hq⟩ : ∃ q, R - m = q + 1 := ⟨R - m - 1, by omega⟩
   rw [List.set_append_right _ _ (by simp), List.length_replicate, Nat.sub_self, hq, List.replicate_succ, List.set_cons_zero, List.replicate_succ', show R - (m + 1) = q by omega, List.append_assoc]
   rfl
  rw [es]
  exact ih
def Grid (R C : Nat) (g : List (List Int)) : Prop := g.length = R ∧ ∀ x ∈ g, x.length = C
theorem grid0_is (R C : Nat) : Grid R C (grid0 R C) := ⟨by simp [grid0], fun x hx => by unfold grid0 at hx; rw [List.eq_of_mem_replicate hx, List.length_replicate]⟩
theorem Grid.row {R C : Nat} {g : List (List Int)} (h : Grid R C g) {i : Nat} (hi : i < R) : i < g.length ∧ ∀ (h' : i < g.length), g[i].length = C := ⟨by rw [h.1]; exact hi, fun h' => h.2 _ (List.getElem_mem h')⟩
theorem Grid.rd {R C : Nat} {g : List (List Int)} (h : Grid R C g) {i : Nat} (hi : i < R) : (rd_L3 g (i : Int)).length = C := by
 rw [rdr_nat (h.row hi).1]
 exact (h.row hi).2 _
theorem Grid.put {R C : Nat} {g : List (List Int)} (h : Grid R C g) {i : Nat} (j : Nat) (v : Int) (hi : i < R) : Grid R C (g.set i ((rd_L3 g (i : Int)).set j v)) := by
 refine ⟨by rw [List.length_set]; exact h.1, fun x hx => ?_⟩
 rcases List.mem_or_eq_of_mem_set hx with hx | hx
 ·exact h.2 x hx
 ·rw [hx, List.length_set]; exact h.rd hi
end Go.Proofs.Ytgndemjphjhahaa.Com
namespace Go.Proofs.Ytgndemjphjhahaa.Com
set_option linter.unusedSimpArgs false
set_option linter.unusedVariables false
set_option linter.unusedSectionVars false
open Go.RowKit Go.Proofs.YtgndemjphjhahaaW.PrintWords Go.Proofs.YtgndemjphjhahaaW.PrintMore Go.Proofs.Ytgndemjphjhahaa.Q
theorem rowsForm_is {b : Int} {l : List (List Int)} (h : rowsForm b l = true) :
  ∃ R C : Nat, 1 ≤ R ∧ R ≤ 12 ∧ 1 ≤ C ∧ C ≤ 12 ∧ Grid R C l ∧ (rd_L3 l 0).length = C ∧ ∀ x ∈ l, ∀ z ∈ x, 0 ≤ z ∧ z ≤ b := by
 cases l with
 | nil => simp [rowsForm] at h
 | cons y r =>
  have ef : rowsForm b (y :: r) = (decide ((y :: r).length ≤ 12) && decide (1 ≤ y.length ∧ y.length ≤ 12) && (y :: r).all (rowOk y.length b)) := rfl
  rw [ef] at h
  simp only [Bool.and_eq_true, decide_eq_true_eq, List.all_eq_true] at h
  obtain ⟨⟨h1, h2⟩, h3⟩ := h
  have e0 : rd_L3 (y :: r) 0 = y := rdr_nat (xs := y :: r) (m := 0) (by rw [List.length_cons]; omega)
  refine ⟨(y :: r).length, y.length, by rw [List.length_cons]; omega, h1, h2.1, h2.2, ⟨rfl, fun x hx => ?_⟩, by rw [e0], fun x hx z hz => ?_⟩
  ·have := h3 x hx
   unfold rowOk at this
   simp only [Bool.and_eq_true, decide_eq_true_eq] at this
   exact this.1
  ·have := h3 x hx
   unfold rowOk at this
   simp only [Bool.and_eq_true, decide_eq_true_eq, List.all_eq_true] at this
   exact this.2 z hz
end Go.Proofs.Ytgndemjphjhahaa.Com
namespace Go.Proofs.Ytgndemjphjhahaa.Com
set_option linter.unusedSimpArgs false
set_option linter.unusedVariables false
set_option linter.unusedSectionVars false
open Go.RowKit Go.Proofs.YtgndemjphjhahaaW.PrintWords Go.Proofs.YtgndemjphjhahaaW.PrintMore Go.Proofs.Ytgndemjphjhahaa.Q
theorem toPicture_ev (xs : List (List Int)) (hx : xs.length ≤ 1048576) (hr : ∀ x ∈ xs, x.length ≤ 1048576) : Ev (fun k => laws_toPicture.f k xs) xs := by
 unfold laws_toPicture.f
 exact Ev.bind (toInt64SS_ev xs hx hr) (Ev.now _)
theorem eqPicture_ev (xs : List (List Int)) (hx : xs.length ≤ 1048576) (hr : ∀ x ∈ xs, x.length ≤ 1048576) : Ev (fun k => laws_eqPicture.f k xs xs) true := by
 unfold laws_eqPicture.f
 refine Ev.bind (eqInt64SS_ev xs hx hr) ?_
 simp only [if_true]
 exact Ev.now _
theorem szPic_ev (l : List (List Int)) (a : Int) (ha : 0 ≤ a ∧ a ≤ 1048576) (hl : l.length ≤ maxLen) (hr : ∀ x ∈ l, x.length ≤ maxLen) :
  ∃ t, Ev (fun k => laws_szPicture.f k l a) t ∧ (t = -1 ∨ (0 ≤ t ∧ t ≤ a ∧ l.length ≤ 1048576 ∧ (∀ x ∈ l, x.length ≤ 1048576) ∧ tot l ≤ 1048576)) := by
 obtain ⟨t, e, h⟩ := szSS_ev l a ha hl hr
 unfold laws_szPicture.f
 rcases h with rfl | h
 ·refine ⟨-1, Ev.bind e ?_, .inl rfl⟩
  simp only [if_pos (show (-1 : Int) < 0 by omega)]
  exact Ev.now _
 ·refine ⟨t, Ev.bind e ?_, .inr h⟩
  simp only [if_neg (show ¬ t < 0 by omega)]
  exact Ev.now _
end Go.Proofs.Ytgndemjphjhahaa.Com
namespace Go.Proofs.Ytgndemjphjhahaa.Com
set_option linter.unusedSimpArgs false
set_option linter.unusedVariables false
set_option linter.unusedSectionVars false
open Go.RowKit Go.Proofs.YtgndemjphjhahaaW.PrintWords Go.Proofs.YtgndemjphjhahaaW.PrintMore Go.Proofs.Ytgndemjphjhahaa.Q
def ptOk (R C : Nat) (x : List Int) : Prop := x.length = 2 ∧ (0 ≤ rd x 0 ∧ rd x 0 ≤ (R : Int) - 1) ∧ (0 ≤ rd x 1 ∧ rd x 1 ≤ (C : Int) - 1)
instance (R C : Nat) (x : List Int) : Decidable (ptOk R C x) := inferInstanceAs (Decidable (_ ∧ _ ∧ _))
def setAt (g : List (List Int)) (x : List Int) (v : Int) : List (List Int) := g.set (rd x 0).toNat ((rd_L3 g (rd x 0)).set (rd x 1).toNat v)
def pathRun (R C : Nat) : List (List Int) → List (List Int) → Bool
 | [], _ => true
 | x :: r, g => if ptOk R C x then (if rd (rd_L3 g (rd x 0)) (rd x 1) = 1 then false else pathRun R C r (setAt g x 1)) else false
theorem ptOk_nat {R C : Nat} {x : List Int} (h : ptOk R C x) : ∃ i j : Nat, rd x 0 = (i : Int) ∧ rd x 1 = (j : Int) ∧ i < R ∧ j < C ∧ x.length = 2 := by
 obtain ⟨h1, ⟨a, b⟩, ⟨c, d⟩⟩ := h
 exact ⟨(rd x 0).toNat, (rd x 1).toNat, by omega, by omega, by omega, by omega, h1⟩
theorem setAt_is {R C : Nat} {g : List (List Int)} {x : List Int} (v : Int) (h : Grid R C g) (hx : ptOk R C x) : Grid R C (setAt g x v) := by
 obtain ⟨i, j, e1, e2, hi, hj, _⟩ := ptOk_nat hx
 unfold setAt
 rw [e1, e2, Int.toNat_natCast, Int.toNat_natCast]
 exact h.put j v hi
section
variable {p l : List (List Int)} {R C : Nat} (hR : 1 ≤ R ∧ R ≤ 12) (hC : 1 ≤ C ∧ C ≤ 12) (hp : Grid R C p) (cp : (rd_L3 p 0).length = C) (hx : l.length ≤ 1048576)
include hR hC hp cp hx
theorem specPath_ev : Ev (fun k => spec_l09Path.l0 k l (grid0 R C) 0 p) (pathRun R C l (grid0 R C)) := by
 refine ev_fold l (fun m (s : List (List Int)) k => spec_l09Path.l0 k l s (m : Int) p) (fun d s => pathRun R C d s) (fun m s => Grid R C s) ?_ ?_ 0 (grid0 R C) (by omega) (grid0_is R C)
 ·intro s hs
  refine Ev.step (fun k => by rw [spec_l09Path.l0]) ?_
  simp only [if_neg (show ¬ (l.length : Int) < (l.length : Int) by omega)]
  exact Ev.now _
 ·intro m hm s hs ih
  have jt : Ev (fun k => spec_l09Path.j1 k l s (m : Int) true p) false := Ev.step (fun k => by rw [spec_l09Path.j1]) (by simp only [if_true]; exact Ev.now _)
  refine Ev.step (fun k => by rw [spec_l09Path.l0]) ?_
  simp only [if_pos (show (m : Int) < (l.length : Int) by omega), if_pos (show 0 ≤ (m : Int) by omega), rdr_nat hm]
  generalize hy : l[m] = y
  by_cases q0 : y.length = 2
  ·simp only [if_pos (show (y.length : Int) = 2 by omega), if_pos (show 0 < (y.length : Int) by omega), if_pos (show 1 < (y.length : Int) by omega), in_tells, Option.bind_some, hp.1, cp, if_pos (show 0 < (R : Int) by omega)]
   rw [w64 (x := (R : Int) - 1) (by omega) (by omega), w64 (x := (C : Int) - 1) (by omega) (by omega)]
   by_cases q1 : 0 ≤ rd y 0 ∧ rd y 0 ≤ (R : Int) - 1
   ·simp only [decide_eq_true q1, if_true]
    by_cases q2 : 0 ≤ rd y 1 ∧ rd y 1 ≤ (C : Int) - 1
    ·have ok : ptOk R C y := ⟨q0, q1, q2⟩
     obtain ⟨i, j, e1, e2, hi, hj, _⟩ := ptOk_nat ok
     simp only [decide_eq_true q2, Bool.not_true]
     refine Ev.step (fun k => by rw [spec_l09Path.j1]) ?_
     have is := setAt_is 1 hs ok
     have ih' := ih _ is
     unfold pathRun
     rw [if_pos ok]
     unfold setAt at ih' ⊢
     rw [e1, e2] at ih' ⊢
     simp only [Bool.false_eq_true, if_false, if_pos (show 0 ≤ (m : Int) by omega), if_pos (show (m : Int) < (l.length : Int) by omega), rdr_nat hm, hy, if_pos (show 0 < (y.length : Int) by omega), if_pos (show 1 < (y.length : Int) by omega), e1, e2, if_pos (show 0 ≤ (i : Int) by omega), if_pos (show 0 ≤ (j : Int) by omega), hs.1, hs.rd hi, if_pos (show (i : Int) < (R : Int) by omega), if_pos (show (j : Int) < (C : Int) by omega), w_succ (m := m) (by omega)]
     by_cases q3 : rd (rd_L3 s (i : Int)) (j : Int) = 1
     ·simp only [if_pos q3]
      exact Ev.now _
     ·simp only [if_neg q3]
      exact ih'
    ·simp only [decide_eq_false q2, Bool.not_false]
     rw [show pathRun R C (y :: l.drop (m + 1)) s = false from by unfold pathRun; exact if_neg (fun h => q2 h.2.2)]
     exact jt
   ·simp only [decide_eq_false q1, Bool.false_eq_true, if_false]
    rw [show pathRun R C (y :: l.drop (m + 1)) s = false from by unfold pathRun; exact if_neg (fun h => q1 h.2.1)]
    exact jt
  ·simp only [if_neg (show ¬ (y.length : Int) = 2 by omega)]
   rw [show pathRun R C (y :: l.drop (m + 1)) s = false from by unfold pathRun; exact if_neg (fun h => q0 h.1)]
   exact jt
theorem implPath_ev : Ev (fun k => impl_IsPath.l0 k (grid0 R C) l (l.length : Int) 0 p) (pathRun R C l (grid0 R C)) := by
 refine ev_fold l (fun m (s : List (List Int)) k => impl_IsPath.l0 k s l (l.length : Int) (m : Int) p) (fun d s => pathRun R C d s) (fun m s => Grid R C s) ?_ ?_ 0 (grid0 R C) (by omega) (grid0_is R C)
 ·intro s hs
  refine Ev.step (fun k => by rw [impl_IsPath.l0]) ?_
  simp only [if_neg (show ¬ (l.length : Int) < (l.length : Int) by omega)]
  exact Ev.now _
 ·intro m hm s hs ih
  refine Ev.step (fun k => by rw [impl_IsPath.l0]) ?_
  simp only [if_pos (show (m : Int) < (l.length : Int) by omega), if_pos (show 0 ≤ (m : Int) by omega), rdr_nat hm]
  generalize hy : l[m] = y
  have nope : ∀ (h : ¬ ptOk R C y), pathRun R C (y :: l.drop (m + 1)) s = false := fun h => by unfold pathRun; exact if_neg h
  by_cases q0 : y.length = 2
  ·simp only [if_pos (show (y.length : Int) = 2 by omega), if_pos (show 0 < (y.length : Int) by omega), if_pos (show 1 < (y.length : Int) by omega)]
   refine ev_bind' (show impl_size_int64_83.f p = some (R : Int) from by unfold impl_size_int64_83.f; rw [hp.1]) ?_
   rw [w64 (x := (R : Int) - 1) (by omega) (by omega)]
   refine ev_bind' (within_tells _ _ _) ?_
   by_cases q1 : 0 ≤ rd y 0 ∧ rd y 0 ≤ (R : Int) - 1
   ·simp only [decide_eq_true q1, if_true, hp.1, if_pos (show 0 < (R : Int) by omega)]
    refine ev_bind' (show impl_size_int64_84.f (rd_L3 p 0) = some (C : Int) from by unfold impl_size_int64_84.f; rw [cp]) ?_
    rw [w64 (x := (C : Int) - 1) (by omega) (by omega)]
    refine ev_bind' (within_tells _ _ _) ?_
    by_cases q2 : 0 ≤ rd y 1 ∧ rd y 1 ≤ (C : Int) - 1
    ·have ok : ptOk R C y := ⟨q0, q1, q2⟩
     obtain ⟨i, j, e1, e2, hi, hj, _⟩ := ptOk_nat ok
     simp only [decide_eq_true q2, if_true]
     have is := setAt_is 1 hs ok
     have ih' := ih _ is
     unfold pathRun
     rw [if_pos ok]
     unfold setAt at ih' ⊢
     rw [e1, e2] at ih' ⊢
     simp only [e1, e2, if_pos (show 0 ≤ (i : Int) by omega), if_pos (show 0 ≤ (j : Int) by omega), hs.1, hs.rd hi, if_pos (show (i : Int) < (R : Int) by omega), if_pos (show (j : Int) < (C : Int) by omega), w_succ (m := m) (by omega)]
     by_cases q3 : rd (rd_L3 s (i : Int)) (j : Int) = 1
     ·simp only [if_pos q3]
      exact Ev.now _
     ·simp only [if_neg q3]
      exact ih'
    ·simp only [decide_eq_false q2, Bool.false_eq_true, if_false]
     rw [nope (fun h => q2 h.2.2)]
     exact Ev.now _
   ·simp only [decide_eq_false q1, Bool.false_eq_true, if_false]
    rw [nope (fun h => q1 h.2.1)]
    exact Ev.now _
  ·simp only [if_neg (show ¬ (y.length : Int) = 2 by omega)]
   rw [nope (fun h => q0 h.1)]
   exact Ev.now _
end
def isPath (p l : List (List Int)) : Bool := rowsForm 255 p && (decide ((l.length : Int) = (p.length : Int) * ((rd_L3 p 0).length : Int)) && pathRun p.length (rd_L3 p 0).length l (grid0 p.length (rd_L3 p 0).length))
section
variable {p l : List (List Int)} (hp : p.length ≤ 1048576) (hp' : ∀ x ∈ p, x.length ≤ 1048576) (hx : l.length ≤ 1048576)
include hp hp' hx
theorem l09Path_ev (v : rowsForm 255 p = true) : Ev (fun k => spec_l09Path.f k p l) (isPath p l) := by
 obtain ⟨R, C, R1, R2, C1, C2, gp, cp, _⟩ := rowsForm_is v
 unfold spec_l09Path.f isPath
 rw [v, Bool.true_and, gp.1, cp]
 have b := mul_bd (a := (R : Int)) (b := (C : Int)) (by omega) (show (R : Int) ≤ 12 by omega) (by omega) (show (C : Int) ≤ 12 by omega)
 simp only [if_pos (show 0 < (R : Int) by omega), w64 (x := (R : Int) * (C : Int)) (by omega) (by omega)]
 by_cases q : (l.length : Int) = (R : Int) * (C : Int)
 ·simp only [if_pos q, decide_eq_true q, Bool.true_and]
  exact Ev.bind (square_ev R C (by omega) (by omega)) (specPath_ev ⟨R1, R2⟩ ⟨C1, C2⟩ gp cp hx)
 ·simp only [if_neg q, decide_eq_false q, Bool.false_and]
  exact Ev.now _
theorem specIsPath_ev : Ev (fun k => spec_IsPath.f k p l) (isPath p l) := by
 unfold spec_IsPath.f
 have S0 : Ev (fun k => spec_l09Is.f k p) (rowsForm 255 p) := by unfold spec_l09Is.f; exact Ev.bind (form_ev p 255 hp hp') (Ev.now _)
 refine Ev.bind S0 ?_
 by_cases v : rowsForm 255 p = true
 ·simp only [v, if_true]
  exact Ev.bind (l09Path_ev hp hp' hx v) (Ev.now _)
 ·rw [show isPath p l = false from by unfold isPath; rw [show rowsForm 255 p = false from by simpa using v]; rfl]
  simp only [if_neg v]
  exact Ev.now _
theorem implIsPath_ev : Ev (fun k => impl_IsPath.f k p l) (isPath p l) := by
 unfold impl_IsPath.f
 have no : Ev (fun k => impl_IsPath.j0 k l true p) false := Ev.step (fun k => by rw [impl_IsPath.j0]) (by simp only [if_true]; exact Ev.now _)
 refine ev_bind' (show impl_ValidPicture.f p = some (rowsForm 255 p) from by unfold impl_ValidPicture.f; rw [areRows_tells]; rfl) ?_
 by_cases v : rowsForm 255 p = true
 ·obtain ⟨R, C, R1, R2, C1, C2, gp, cp, _⟩ := rowsForm_is v
  have b := mul_bd (a := (R : Int)) (b := (C : Int)) (by omega) (show (R : Int) ≤ 12 by omega) (by omega) (show (C : Int) ≤ 12 by omega)
  unfold isPath
  rw [v, Bool.true_and, gp.1, cp]
  simp only [if_true, if_pos (show 0 < (R : Int) by omega), w64 (x := (R : Int) * (C : Int)) (by omega) (by omega)]
  by_cases q : (l.length : Int) = (R : Int) * (C : Int)
  ·rw [decide_eq_true q, Bool.true_and, show ((l.length : Int) != (R : Int) * (C : Int)) = false from by rw [q]; exact bne_self_eq_false _]
   refine Ev.step (fun k => by rw [impl_IsPath.j0]) ?_
   simp only [Bool.false_eq_true, if_false, gp.1, cp, if_pos (show 0 < (R : Int) by omega)]
   exact Ev.bind (noughts_ev R C (by omega) (by omega)) (implPath_ev ⟨R1, R2⟩ ⟨C1, C2⟩ gp cp hx)
  ·rw [decide_eq_false q, Bool.false_and, show ((l.length : Int) != (R : Int) * (C : Int)) = true from by simpa using q]
   exact no
 ·rw [show isPath p l = false from by unfold isPath; rw [show rowsForm 255 p = false from by simpa using v]; rfl]
  simp only [if_neg v]
  exact no
end
end Go.Proofs.Ytgndemjphjhahaa.Com
namespace Go.Proofs.Ytgndemjphjhahaa.Pure
set_option linter.unusedSimpArgs false
set_option linter.unusedVariables false
set_option linter.unusedSectionVars false
open Go.RowKit Go.Proofs.Ytgndemjphjhahaa.Q Go.Proofs.YtgndemjphjhahaaW.PrintWords Go.Proofs.YtgndemjphjhahaaW.PrintLast Go.Proofs.Ytgndemjphjhahaa.Com
theorem FnExactIsPath : laws_FnExactIsPath.Pure := by
 intro p d hp hd
 apply ev_of
 unfold laws_FnExactIsPath.f
 obtain ⟨t1, e1, h1⟩ := szPic_ev p 1048576 (by omega) hp.1 (fun x hx => (hp.2 x hx).1)
 refine Ev.bind e1 ?_
 rcases h1 with rfl | ⟨a0, a1, p1, p2, p3⟩
 ·simp only [if_pos (show (-1 : Int) < 0 by omega)]
  exact Ev.now _
 simp only [if_neg (show ¬ t1 < 0 by omega)]
 obtain ⟨t2, e2, h2⟩ := szSS_ev d t1 (by omega) hd.1 (fun x hx => (hd.2 x hx).1)
 refine Ev.bind e2 ?_
 rcases h2 with rfl | ⟨b0, b1, d1, d2, d3⟩
 ·simp only [if_pos (show (-1 : Int) < 0 by omega)]
  exact Ev.now _
 simp only [if_neg (show ¬ t2 < 0 by omega)]
 refine Ev.bind (toPicture_ev p p1 p2) (Ev.bind (toInt64SS_ev d d1 d2) (Ev.bind (specIsPath_ev p1 p2 d1) (Ev.bind (toPicture_ev p p1 p2) (Ev.bind (toInt64SS_ev d d1 d2) (Ev.bind (implIsPath_ev p1 p2 d1) ?_)))))
 simp only [bne_self_eq_false, Bool.false_eq_true, if_false]
 refine Ev.bind (toPicture_ev p p1 p2) (Ev.bind (eqPicture_ev p p1 p2) ?_)
 simp only [if_true]
 refine Ev.bind (toInt64SS_ev d d1 d2) (Ev.bind (eqInt64SS_ev d d1 d2) ?_)
 simp only [if_true]
 exact Ev.now _
end Go.Proofs.Ytgndemjphjhahaa.Pure
