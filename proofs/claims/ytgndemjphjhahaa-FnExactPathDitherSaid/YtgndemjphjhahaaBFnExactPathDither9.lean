/- The statement FnExactPathDither, with all that its proof stands on: functions of the program as plain functions, the program's walks, and the plain law. Conditions: none beyond the statement's own. -/
import Derived.ArgAppend
import Derived.Below
import Derived.BigQuiet
import Derived.Deep.AppendLies
import Derived.Deep.CutBlock
import Derived.Deep.DeepCutAuto
import Derived.Deep.Draws
import Derived.Deep.LoopGhost
import Derived.Deep.OwnRows
import Derived.Deep.QuietTactic
import Derived.Deep.RegionHeld3
import Derived.KernelRfl
import Derived.Laws.BitsLemmas
import Derived.Laws.BytesArg
import Derived.Laws.IdiomCopy
import Derived.Laws.MakeOwn
import Derived.Laws.OwnMore
import Derived.Laws.Rows
import Derived.Laws.Slices
import Derived.Lib.AppendStr
import Derived.Lib.ConvBytes
import Derived.Maps.AppendAt
import Derived.OrdersHeld
import Derived.OwnWalk
import Derived.RowKit
import Derived.RowKit3
import Derived.Tactics
import Derived.Test.YtgndemjphjhahaaProg
import Derived.WalkKit
import Derived.WideLaws
import Derived.Test.YtgndemjphjhahaaBFnExactPathDither0
import Derived.Test.YtgndemjphjhahaaBFnExactPathDither1
import Derived.Test.YtgndemjphjhahaaBFnExactPathDither2
import Derived.Test.YtgndemjphjhahaaBFnExactPathDither3
import Derived.Test.YtgndemjphjhahaaBFnExactPathDither4
import Derived.Test.YtgndemjphjhahaaBFnExactPathDither5
import Derived.Test.YtgndemjphjhahaaBFnExactPathDither6
import Derived.Test.YtgndemjphjhahaaBFnExactPathDither7
import Derived.Test.YtgndemjphjhahaaBFnExactPathDither8
set_option linter.unusedVariables false
set_option linter.unusedSimpArgs false
namespace Go.Proofs.Ytgndemjphjhahaa.Q
open Go.RowKit Go.Proofs.YtgndemjphjhahaaW.PrintWords Go.Proofs.YtgndemjphjhahaaW.PrintLast Go.Proofs.YtgndemjphjhahaaW.PrintMore
set_option linter.unusedVariables false
set_option linter.unusedSimpArgs false
def laws_FnExactPathDither.f (k : Nat) (l0_0 : List (List Int)) (l1 : List (List Int)) : Option Bool := (laws_szPicture.f k l0_0 1048576).bind fun bt2 => (if bt2 < 0 then some true else ((laws_szInt64SS.f k l1 bt2).bind fun bt3 => (if bt3 < 0 then some true else ((laws_toPicture.f k l0_0).bind fun bt4 => ((laws_toInt64SS.f k l1).bind fun bt6 => ((spec_PathDither.f k bt4 bt6).bind fun bt8 => ((laws_toPicture.f k l0_0).bind fun bt12 => ((laws_toInt64SS.f k l1).bind fun bt15 => ((impl_PathDither.f k bt12 bt15).bind fun bt17 => ((laws_eqInt64SS.f k bt17.1 bt8.1).bind fun bt21 => (if bt21 = true then (if bt17.2.1 = bt8.2.1 then (if bt17.2.2 = bt8.2.2 then ((laws_toPicture.f k l0_0).bind fun bt22 => ((laws_eqPicture.f k bt12 bt22).bind fun bt24 => (if bt24 = true then ((laws_toInt64SS.f k l1).bind fun bt25 => ((laws_eqInt64SS.f k bt15 bt25).bind fun bt27 => (if bt27 = true then ((laws_markPicture.f k bt12 1).bind fun bt28 => ((laws_markInt64SS.f k bt15 bt28.1).bind fun bt30 => (if bt30.1 < 0 then some false else ((laws_eqInt64SS.f k bt17.1 bt8.1).bind fun bt32 => (if bt32 = true then ((laws_markInt64SS.f k bt17.1 1).bind fun bt33 => ((laws_heldInt64SS.f k bt33.2 1).bind fun bt35 => (if bt35 < 0 then some false else (if bt35 = bt33.1 then ((laws_toPicture.f k l0_0).bind fun bt36 => ((laws_toInt64SS.f k l1).bind fun bt38 => ((impl_PathDither.f k bt36 bt38).bind fun bt40 => ((laws_eqInt64SS.f k bt40.1 bt8.1).bind fun bt44 => (if bt44 = true then (if bt40.2.1 = bt17.2.1 then (if bt40.2.2 = bt17.2.2 then ((laws_heldInt64SS.f k bt33.2 1).bind fun bt45 => (if bt45 < 0 then some false else (if bt45 = bt35 then (some true) else some false))) else some false) else some false) else some false))))) else some false)))) else some false))))) else some false))) else some false))) else some false) else some false) else some false)))))))))))
def laws_FnExactPathDither.Pure : Prop := ∀ (l0_0 : List (List Int)) (l1 : List (List Int)), (l0_0.length ≤ maxLen ∧ ∀ y ∈ l0_0, (y.length ≤ maxLen ∧ ∀ y_ ∈ y, (Lit.int .i64 y_).wf = true)) → (l1.length ≤ maxLen ∧ ∀ y ∈ l1, (y.length ≤ maxLen ∧ ∀ y_ ∈ y, (Lit.int .i64 y_).wf = true)) → ∃ k, laws_FnExactPathDither.f k l0_0 l1 = some true
set_option maxHeartbeats 16000000 in
set_option maxRecDepth 100000 in
theorem laws_FnExactPathDither.calls (k : Nat) (A0_0 : Option Addr) (c0_0 : Nat) (l0_0 : List (List Int)) (A1 : Option Addr) (c1 : Nat) (l1 : List (List Int)) (w : World) (hr0_0 : Kd.C (Kd.slice 2 (Kd.int .i64)) w A0_0 l0_0.length l0_0) (hc0_0 : l0_0.length ≤ c0_0) (hr1 : Kd.C (Kd.slice 2 (Kd.int .i64)) w A1 l1.length l1) (hc1 : l1.length ≤ c1) (h : laws_FnExactPathDither.f k l0_0 l1 = some true) :
  Calls Try.prog 13 #[.agg #[.slice A0_0 l0_0.length c0_0], .slice A1 l1.length c1] w fun e w' => e = .returned (.bool true) ∧ Below w.heap.size w w' := by
 have HR0_0 := Aside0.mk hr0_0
 have HC0_0 := Aside0.mk hc0_0
 clear hr0_0 hc0_0
 have HR1 := Aside0.mk hr1
 have HC1 := Aside0.mk hc1
 clear hr1 hc1
 have HB := Aside0.mk (Below.refl w.heap.size w)
 have H := h
 clear h
 unfold laws_FnExactPathDither.f at H
 replace H := Option.bind_eq_some_iff.mp H
 obtain ⟨t2, E10, H⟩ := H
 (try dsimp only at H)
 have E1 := Aside0.mk E10
 clear E10
 by_cases c1 : t2 < 0
 ·clear H
  have c1b : decide (t2 < 0) = true := decide_eq_true c1
  clear c1
  go_enter Try.func13, Try.ntmps13
  go_wp2_with (first | ((with_reducible refine gate_dst (N := 2) rfl ?_); refine box_event ?hg (N := 2) ?hd (cs := #[.slice A0_0 l0_0.length c0_0]) (t := 43) ?hr ?_; (case hd => rfl); (case hg => rfl); (case hr => first | (go_simp; done) | (go_simp; rfl)); intro gb1 hg w_1 hbox hb; have n0_ := Aside0.mk (below_step HB.out hb); have n1_ := Aside0.mk (hbox); have n2_ := Aside0.mk (blk_lt hbox); have n3_ := Aside0.mk (by rw [hg]; exact below_size HB.out : w.heap.size ≤ gb1); clear HB; have HB := n0_; have BKgb1 := n1_; have GUgb1 := n2_; have GEgb1 := n3_; clear n0_ n1_ n2_ n3_; clear hb hbox hg; (try clear hczgb1_0); (try clear hfzgb1_0); have hczgb1_0 : w_1.cell? ⟨gb1, 0, none⟩ = some (.slice A0_0 l0_0.length c0_0) := (blk_cell BKgb1.out 0).trans rfl; have hfzgb1_0 := blk_frozen BKgb1.out 0) | ((with_reducible refine gate_callee (f := 29) rfl ?_); refine goesL_ (some 22) rfl rfl Try.func29 (by kernel_rfl) rfl #[.agg #[.slice A0_0 l0_0.length c0_0], .int .i64 1048576] rfl (by (try simp only [List.map_toArray, List.map_cons, List.map_nil]); first | done | rfl) ?_; (with_reducible refine (laws_szPicture.calls k _ _ l0_0 1048576 t2 _ ?side1 ?side2 E1.out).mono ?_); (case side1 => exact Kd.C_below HR0_0.out HB.out); (case side2 => exact HC0_0.out); rintro e w_2 ⟨rfl, hb⟩; refine ⟨_, rfl, ?_⟩; have n0_ := Aside0.mk (blk_below (g := gb1) BKgb1.out hb); have n1_ := Aside0.mk (Nat.lt_of_lt_of_le GUgb1.out hb.size); have n2_ := Aside0.mk (below_step HB.out hb); clear BKgb1; clear GUgb1; clear HB; have BKgb1 := n0_; have GUgb1 := n1_; have HB := n2_; clear n0_ n1_ n2_; clear hb; (try clear hczgb1_0); (try clear hfzgb1_0); have hczgb1_0 : w_2.cell? ⟨gb1, 0, none⟩ = some (.slice A0_0 l0_0.length c0_0) := (blk_cell BKgb1.out 0).trans rfl; have hfzgb1_0 := blk_frozen BKgb1.out 0))
  go_ret
  exact ⟨by first | rfl | (simp; done) | (simp [*]; done), HB.out⟩
 rw [if_neg c1] at H
 have c1b : decide (t2 < 0) = false := decide_eq_false c1
 clear c1
 replace H := Option.bind_eq_some_iff.mp H
 obtain ⟨t3, E30, H⟩ := H
 (try dsimp only at H)
 have E3 := Aside0.mk E30
 clear E30
 by_cases c3 : t3 < 0
 ·clear H
  have c3b : decide (t3 < 0) = true := decide_eq_true c3
  clear c3
  go_enter Try.func13, Try.ntmps13
  go_wp2_with (first | ((with_reducible refine gate_dst (N := 2) rfl ?_); refine box_event ?hg (N := 2) ?hd (cs := #[.slice A0_0 l0_0.length c0_0]) (t := 43) ?hr ?_; (case hd => rfl); (case hg => rfl); (case hr => first | (go_simp; done) | (go_simp; rfl)); intro gb1 hg w_1 hbox hb; have n0_ := Aside0.mk (below_step HB.out hb); have n1_ := Aside0.mk (hbox); have n2_ := Aside0.mk (blk_lt hbox); have n3_ := Aside0.mk (by rw [hg]; exact below_size HB.out : w.heap.size ≤ gb1); clear HB; have HB := n0_; have BKgb1 := n1_; have GUgb1 := n2_; have GEgb1 := n3_; clear n0_ n1_ n2_ n3_; clear hb hbox hg; (try clear hczgb1_0); (try clear hfzgb1_0); have hczgb1_0 : w_1.cell? ⟨gb1, 0, none⟩ = some (.slice A0_0 l0_0.length c0_0) := (blk_cell BKgb1.out 0).trans rfl; have hfzgb1_0 := blk_frozen BKgb1.out 0) | ((with_reducible refine gate_callee (f := 29) rfl ?_); refine goesL_ (some 22) rfl rfl Try.func29 (by kernel_rfl) rfl #[.agg #[.slice A0_0 l0_0.length c0_0], .int .i64 1048576] rfl (by (try simp only [List.map_toArray, List.map_cons, List.map_nil]); first | done | rfl) ?_; (with_reducible refine (laws_szPicture.calls k _ _ l0_0 1048576 t2 _ ?side1 ?side2 E1.out).mono ?_); (case side1 => exact Kd.C_below HR0_0.out HB.out); (case side2 => exact HC0_0.out); rintro e w_2 ⟨rfl, hb⟩; refine ⟨_, rfl, ?_⟩; have n0_ := Aside0.mk (blk_below (g := gb1) BKgb1.out hb); have n1_ := Aside0.mk (Nat.lt_of_lt_of_le GUgb1.out hb.size); have n2_ := Aside0.mk (below_step HB.out hb); clear BKgb1; clear GUgb1; clear HB; have BKgb1 := n0_; have GUgb1 := n1_; have HB := n2_; clear n0_ n1_ n2_; clear hb; (try clear hczgb1_0); (try clear hfzgb1_0); have hczgb1_0 : w_2.cell? ⟨gb1, 0, none⟩ = some (.slice A0_0 l0_0.length c0_0) := (blk_cell BKgb1.out 0).trans rfl; have hfzgb1_0 := blk_frozen BKgb1.out 0) | ((with_reducible refine gate_callee (f := 34) rfl ?_); refine goesL_ (some 27) rfl rfl Try.func34 (by kernel_rfl) rfl #[.slice A1 l1.length c1, .int .i64 t2] rfl (by (try simp only [List.map_toArray, List.map_cons, List.map_nil]); first | done | rfl) ?_; (with_reducible refine (laws_szInt64SS.calls k _ _ l1 t2 t3 _ ?side1 ?side2 E3.out).mono ?_); (case side1 => exact Kd.C_below HR1.out HB.out); (case side2 => exact HC1.out); rintro e w_3 ⟨rfl, hd⟩; have hb := Drawn0.below hd; refine ⟨_, rfl, ?_⟩; have n0_ := Aside0.mk (blk_below (g := gb1) BKgb1.out hb); have n1_ := Aside0.mk (Nat.lt_of_lt_of_le GUgb1.out hb.size); have n2_ := Aside0.mk (below_step HB.out hb); clear BKgb1; clear GUgb1; clear HB; have BKgb1 := n0_; have GUgb1 := n1_; have HB := n2_; clear n0_ n1_ n2_; clear hb; clear hd; (try clear hczgb1_0); (try clear hfzgb1_0); have hczgb1_0 : w_3.cell? ⟨gb1, 0, none⟩ = some (.slice A0_0 l0_0.length c0_0) := (blk_cell BKgb1.out 0).trans rfl; have hfzgb1_0 := blk_frozen BKgb1.out 0))
  go_ret
  exact ⟨by first | rfl | (simp; done) | (simp [*]; done), HB.out⟩
 rw [if_neg c3] at H
 have c3b : decide (t3 < 0) = false := decide_eq_false c3
 clear c3
 replace H := Option.bind_eq_some_iff.mp H
 obtain ⟨t4, E50, H⟩ := H
 (try dsimp only at H)
 have E5 := Aside0.mk E50
 clear E50
 replace H := Option.bind_eq_some_iff.mp H
 obtain ⟨t6, E60, H⟩ := H
 (try dsimp only at H)
 have E6 := Aside0.mk E60
 clear E60
 replace H := Option.bind_eq_some_iff.mp H
 obtain ⟨⟨t8, t9, t10⟩, E70, H⟩ := H
 (try dsimp only at H)
 have E7 := Aside0.mk E70
 clear E70
 replace H := Option.bind_eq_some_iff.mp H
 obtain ⟨t12, E80, H⟩ := H
 (try dsimp only at H)
 have E8 := Aside0.mk E80
 clear E80
 replace H := Option.bind_eq_some_iff.mp H
 obtain ⟨t15, E90, H⟩ := H
 (try dsimp only at H)
 have E9 := Aside0.mk E90
 clear E90
 replace H := Option.bind_eq_some_iff.mp H
 obtain ⟨⟨t17, t18, t19⟩, E100, H⟩ := H
 (try dsimp only at H)
 have E10 := Aside0.mk E100
 clear E100
 replace H := Option.bind_eq_some_iff.mp H
 obtain ⟨t21, E110, H⟩ := H
 (try dsimp only at H)
 have E11 := Aside0.mk E110
 clear E110
 by_cases c11 : t21 = true
 rotate_left
 ·rw [if_neg c11] at H; exact absurd H (by simp)
 rw [if_pos c11] at H
 subst c11
 by_cases c12 : t18 = t9
 rotate_left
 ·rw [if_neg c12] at H; exact absurd H (by simp)
 rw [if_pos c12] at H
 subst c12
 by_cases c13 : t19 = t10
 rotate_left
 ·rw [if_neg c13] at H; exact absurd H (by simp)
 rw [if_pos c13] at H
 subst c13
 replace H := Option.bind_eq_some_iff.mp H
 obtain ⟨t22, E150, H⟩ := H
 (try dsimp only at H)
 have E15 := Aside0.mk E150
 clear E150
 replace H := Option.bind_eq_some_iff.mp H
 obtain ⟨t24, E160, H⟩ := H
 (try dsimp only at H)
 have E16 := Aside0.mk E160
 clear E160
 by_cases c16 : t24 = true
 rotate_left
 ·rw [if_neg c16] at H; exact absurd H (by simp)
 rw [if_pos c16] at H
 subst c16
 replace H := Option.bind_eq_some_iff.mp H
 obtain ⟨t25, E180, H⟩ := H
 (try dsimp only at H)
 have E18 := Aside0.mk E180
 clear E180
 replace H := Option.bind_eq_some_iff.mp H
 obtain ⟨t27, E190, H⟩ := H
 (try dsimp only at H)
 have E19 := Aside0.mk E190
 clear E190
 by_cases c19 : t27 = true
 rotate_left
 ·rw [if_neg c19] at H; exact absurd H (by simp)
 rw [if_pos c19] at H
 subst c19
 replace H := Option.bind_eq_some_iff.mp H
 obtain ⟨⟨t28, t29⟩, E210, H⟩ := H
 (try dsimp only at H)
 have E21 := Aside0.mk E210
 clear E210
 replace H := Option.bind_eq_some_iff.mp H
 obtain ⟨⟨t30, t31⟩, E220, H⟩ := H
 (try dsimp only at H)
 have E22 := Aside0.mk E220
 clear E220
 by_cases c22 : t30 < 0
 ·rw [if_pos c22] at H; exact absurd H (by simp)
 rw [if_neg c22] at H
 have c22b : decide (t30 < 0) = false := decide_eq_false c22
 clear c22
 replace H := Option.bind_eq_some_iff.mp H
 obtain ⟨t32, E240, H⟩ := H
 (try dsimp only at H)
 have E24 := Aside0.mk E240
 clear E240
 by_cases c24 : t32 = true
 rotate_left
 ·rw [if_neg c24] at H; exact absurd H (by simp)
 rw [if_pos c24] at H
 subst c24
 replace H := Option.bind_eq_some_iff.mp H
 obtain ⟨⟨t33, t34⟩, E260, H⟩ := H
 (try dsimp only at H)
 have E26 := Aside0.mk E260
 clear E260
 replace H := Option.bind_eq_some_iff.mp H
 obtain ⟨t35, E270, H⟩ := H
 (try dsimp only at H)
 have E27 := Aside0.mk E270
 clear E270
 by_cases c27 : t35 < 0
 ·rw [if_pos c27] at H; exact absurd H (by simp)
 rw [if_neg c27] at H
 have c27b : decide (t35 < 0) = false := decide_eq_false c27
 clear c27
 by_cases c28 : t35 = t33
 rotate_left
 ·rw [if_neg c28] at H; exact absurd H (by simp)
 rw [if_pos c28] at H
 subst c28
 replace H := Option.bind_eq_some_iff.mp H
 obtain ⟨t36, E300, H⟩ := H
 (try dsimp only at H)
 have E30 := Aside0.mk E300
 clear E300
 replace H := Option.bind_eq_some_iff.mp H
 obtain ⟨t38, E310, H⟩ := H
 (try dsimp only at H)
 have E31 := Aside0.mk E310
 clear E310
 replace H := Option.bind_eq_some_iff.mp H
 obtain ⟨⟨t40, t41, t42⟩, E320, H⟩ := H
 (try dsimp only at H)
 have E32 := Aside0.mk E320
 clear E320
 replace H := Option.bind_eq_some_iff.mp H
 obtain ⟨t44, E330, H⟩ := H
 (try dsimp only at H)
 have E33 := Aside0.mk E330
 clear E330
 by_cases c33 : t44 = true
 rotate_left
 ·rw [if_neg c33] at H; exact absurd H (by simp)
 rw [if_pos c33] at H
 subst c33
 by_cases c34 : t41 = t18
 rotate_left
 ·rw [if_neg c34] at H; exact absurd H (by simp)
 rw [if_pos c34] at H
 subst c34
 by_cases c35 : t42 = t19
 rotate_left
 ·rw [if_neg c35] at H; exact absurd H (by simp)
 rw [if_pos c35] at H
 subst c35
 replace H := Option.bind_eq_some_iff.mp H
 obtain ⟨t45, E370, H⟩ := H
 (try dsimp only at H)
 have E37 := Aside0.mk E370
 clear E370
 by_cases c37 : t45 < 0
 ·rw [if_pos c37] at H; exact absurd H (by simp)
 rw [if_neg c37] at H
 have c37b : decide (t45 < 0) = false := decide_eq_false c37
 clear c37
 by_cases c38 : t45 = t35
 rotate_left
 ·rw [if_neg c38] at H; exact absurd H (by simp)
 rw [if_pos c38] at H
 subst c38
 clear H
 go_enter Try.func13, Try.ntmps13
 go_wp2_with (first | ((with_reducible refine gate_dst (N := 2) rfl ?_); refine box_event ?hg (N := 2) ?hd (cs := #[.slice A0_0 l0_0.length c0_0]) (t := 43) ?hr ?_; (case hd => rfl); (case hg => rfl); (case hr => first | (go_simp; done) | (go_simp; rfl)); intro gb1 hg w_1 hbox hb; have n0_ := Aside0.mk (below_step HB.out hb); have n1_ := Aside0.mk (hbox); have n2_ := Aside0.mk (blk_lt hbox); have n3_ := Aside0.mk (by rw [hg]; exact below_size HB.out : w.heap.size ≤ gb1); clear HB; have HB := n0_; have BKgb1 := n1_; have GUgb1 := n2_; have GEgb1 := n3_; clear n0_ n1_ n2_ n3_; clear hb hbox hg; (try clear hczgb1_0); (try clear hfzgb1_0); have hczgb1_0 : w_1.cell? ⟨gb1, 0, none⟩ = some (.slice A0_0 l0_0.length c0_0) := (blk_cell BKgb1.out 0).trans rfl; have hfzgb1_0 := blk_frozen BKgb1.out 0) | ((with_reducible refine gate_callee (f := 29) rfl ?_); refine goesL_ (some 22) rfl rfl Try.func29 (by kernel_rfl) rfl #[.agg #[.slice A0_0 l0_0.length c0_0], .int .i64 1048576] rfl (by (try simp only [List.map_toArray, List.map_cons, List.map_nil]); first | done | rfl) ?_; (with_reducible refine (laws_szPicture.calls k _ _ l0_0 1048576 t2 _ ?side1 ?side2 E1.out).mono ?_); (case side1 => exact Kd.C_below HR0_0.out HB.out); (case side2 => exact HC0_0.out); rintro e w_2 ⟨rfl, hb⟩; refine ⟨_, rfl, ?_⟩; have n0_ := Aside0.mk (blk_below (g := gb1) BKgb1.out hb); have n1_ := Aside0.mk (Nat.lt_of_lt_of_le GUgb1.out hb.size); have n2_ := Aside0.mk (below_step HB.out hb); clear BKgb1; clear GUgb1; clear HB; have BKgb1 := n0_; have GUgb1 := n1_; have HB := n2_; clear n0_ n1_ n2_; clear hb; (try clear hczgb1_0); (try clear hfzgb1_0); have hczgb1_0 : w_2.cell? ⟨gb1, 0, none⟩ = some (.slice A0_0 l0_0.length c0_0) := (blk_cell BKgb1.out 0).trans rfl; have hfzgb1_0 := blk_frozen BKgb1.out 0) | ((with_reducible refine gate_callee (f := 34) rfl ?_); refine goesL_ (some 27) rfl rfl Try.func34 (by kernel_rfl) rfl #[.slice A1 l1.length c1, .int .i64 t2] rfl (by (try simp only [List.map_toArray, List.map_cons, List.map_nil]); first | done | rfl) ?_; (with_reducible refine (laws_szInt64SS.calls k _ _ l1 t2 t3 _ ?side1 ?side2 E3.out).mono ?_); (case side1 => exact Kd.C_below HR1.out HB.out); (case side2 => exact HC1.out); rintro e w_3 ⟨rfl, hd⟩; have hb := Drawn0.below hd; refine ⟨_, rfl, ?_⟩; have n0_ := Aside0.mk (blk_below (g := gb1) BKgb1.out hb); have n1_ := Aside0.mk (Nat.lt_of_lt_of_le GUgb1.out hb.size); have n2_ := Aside0.mk (below_step HB.out hb); clear BKgb1; clear GUgb1; clear HB; have BKgb1 := n0_; have GUgb1 := n1_; have HB := n2_; clear n0_ n1_ n2_; clear hb; clear hd; (try clear hczgb1_0); (try clear hfzgb1_0); have hczgb1_0 : w_3.cell? ⟨gb1, 0, none⟩ = some (.slice A0_0 l0_0.length c0_0) := (blk_cell BKgb1.out 0).trans rfl; have hfzgb1_0 := blk_frozen BKgb1.out 0) | ((with_reducible refine gate_callee (f := 31) rfl ?_); refine goesL_ (some 32) rfl rfl Try.func31 (by kernel_rfl) rfl #[.agg #[.slice A0_0 l0_0.length c0_0]] rfl (by (try simp only [List.map_toArray, List.map_cons, List.map_nil]); first | done | rfl) ?_; (with_reducible refine (laws_toPicture.calls k _ _ l0_0 t4 _ ?side1 ?side2 E5.out).mono ?_); (case side1 => exact Kd.C_below HR0_0.out HB.out); (case side2 => exact HC0_0.out); rintro e w_4 ⟨vR5, rfl, hoR5, hb⟩; refine ⟨_, rfl, ?_⟩; obtain ⟨loR5, hloR5⟩ : ∃ n_ : Nat, n_ = w_3.heap.size := ⟨_, rfl⟩; obtain ⟨hiR5, hhiR5⟩ : ∃ n_ : Nat, n_ = w_4.heap.size := ⟨_, rfl⟩; have n0_ := Aside0.mk (blk_below (g := gb1) BKgb1.out hb); have n1_ := Aside0.mk (Nat.lt_of_lt_of_le GUgb1.out hb.size); have n2_ := Aside0.mk (below_step HB.out hb); have n3_ := Aside0.mk (Kd.S_lower (Kd.S_mono (ok' := fun k_ => loR5 ≤ k_ ∧ k_ < hiR5) (Kd.S_bound hoR5) (fun k_ hk_ => ⟨by rw [hloR5]; exact hk_.2.1, by rw [hhiR5]; exact hk_.2.2.1⟩)) (below_size HB.out)); have n4_ := Aside0.mk (by rw [hhiR5]; exact Nat.le_refl _ : hiR5 ≤ w_4.heap.size); have n5_ := Aside0.mk (fun k_ hk_ => by have := GUgb1.out; rw [← hloR5] at this; omega : ∀ k_, loR5 ≤ k_ ∧ k_ < hiR5 → k_ ≠ gb1); clear BKgb1; clear GUgb1; clear HB; have BKgb1 := n0_; have GUgb1 := n1_; have HB := n2_; have HOR5 := n3_; have UPR5 := n4_; have NER5_gb1 := n5_; clear n0_ n1_ n2_ n3_ n4_ n5_; clear hb; clear hoR5 hloR5 hhiR5; obtain ⟨AR5, cR5, eqR5⟩ := Kd.S_slice HOR5.out; subst eqR5; (try clear hczgb1_0); (try clear hfzgb1_0); have hczgb1_0 : w_4.cell? ⟨gb1, 0, none⟩ = some (.slice A0_0 l0_0.length c0_0) := (blk_cell BKgb1.out 0).trans rfl; have hfzgb1_0 := blk_frozen BKgb1.out 0) | ((with_reducible refine gate_callee (f := 36) rfl ?_); refine goesL_ (some 34) rfl rfl Try.func36 (by kernel_rfl) rfl #[.slice A1 l1.length c1] rfl (by (try simp only [List.map_toArray, List.map_cons, List.map_nil]); first | done | rfl) ?_; (with_reducible refine (laws_toInt64SS.calls k _ _ l1 t6 _ ?side1 ?side2 E6.out).mono ?_); (case side1 => exact Kd.C_below HR1.out HB.out); (case side2 => exact HC1.out); rintro e w_5 ⟨vR7, rfl, hoR7, hb⟩; refine ⟨_, rfl, ?_⟩; obtain ⟨loR7, hloR7⟩ : ∃ n_ : Nat, n_ = w_4.heap.size := ⟨_, rfl⟩; obtain ⟨hiR7, hhiR7⟩ : ∃ n_ : Nat, n_ = w_5.heap.size := ⟨_, rfl⟩; have n0_ := Aside0.mk (Kd.S_below HOR5.out hb); have n1_ := Aside0.mk (Nat.le_trans UPR5.out hb.size); have n2_ := Aside0.mk (blk_below (g := gb1) BKgb1.out hb); have n3_ := Aside0.mk (Nat.lt_of_lt_of_le GUgb1.out hb.size); have n4_ := Aside0.mk (below_step HB.out hb); have n5_ := Aside0.mk (Kd.S_lower (Kd.S_mono (ok' := fun k_ => loR7 ≤ k_ ∧ k_ < hiR7) (Kd.S_bound hoR7) (fun k_ hk_ => ⟨by rw [hloR7]; exact hk_.2.1, by rw [hhiR7]; exact hk_.2.2.1⟩)) (below_size HB.out)); have n6_ := Aside0.mk (by rw [hhiR7]; exact Nat.le_refl _ : hiR7 ≤ w_5.heap.size); have n7_ := Aside0.mk (fun k_ h1_ h2_ => by have := UPR5.out; rw [← hloR7] at this; omega : ∀ k_, loR5 ≤ k_ ∧ k_ < hiR5 → ¬ (loR7 ≤ k_ ∧ k_ < hiR7)); have n8_ := Aside0.mk (fun k_ h1_ h2_ => by have := UPR5.out; rw [← hloR7] at this; omega : ∀ k_, loR7 ≤ k_ ∧ k_ < hiR7 → ¬ (loR5 ≤ k_ ∧ k_ < hiR5)); have n9_ := Aside0.mk (fun k_ hk_ => by have := GUgb1.out; rw [← hloR7] at this; omega : ∀ k_, loR7 ≤ k_ ∧ k_ < hiR7 → k_ ≠ gb1); clear HOR5; clear UPR5; clear BKgb1; clear GUgb1; clear HB; have HOR5 := n0_; have UPR5 := n1_; have BKgb1 := n2_; have GUgb1 := n3_; have HB := n4_; have HOR7 := n5_; have UPR7 := n6_; have NRR5_R7 := n7_; have NRR7_R5 := n8_; have NER7_gb1 := n9_; clear n0_ n1_ n2_ n3_ n4_ n5_ n6_ n7_ n8_ n9_; clear hb; clear hoR7 hloR7 hhiR7; obtain ⟨AR7, cR7, eqR7⟩ := Kd.S_slice HOR7.out; subst eqR7; (try clear hczgb1_0); (try clear hfzgb1_0); have hczgb1_0 : w_5.cell? ⟨gb1, 0, none⟩ = some (.slice A0_0 l0_0.length c0_0) := (blk_cell BKgb1.out 0).trans rfl; have hfzgb1_0 := blk_frozen BKgb1.out 0) | ((with_reducible refine gate_callee (f := 54) rfl ?_); refine goesL_ (some 35) rfl rfl Try.func54 (by kernel_rfl) rfl #[.agg #[.slice AR5 t4.length cR5], .slice AR7 t6.length cR7] rfl (by (try simp only [List.map_toArray, List.map_cons, List.map_nil]); first | done | rfl) ?_; (with_reducible refine (spec_PathDither.calls k _ _ t4 _ _ t6 t8 t41 t42 _ ?side1 ?side2 ?side3 ?side4 E7.out).mono ?_); (case side1 => exact (Kd.S_reads' HOR5.out).2.2); (case side2 => exact (Kd.S_reads' HOR5.out).2.1); (case side3 => exact (Kd.S_reads' HOR7.out).2.2); (case side4 => exact (Kd.S_reads' HOR7.out).2.1); rintro e w_6 ⟨vR11, rfl, hoR11, hb⟩; refine ⟨_, rfl, ?_⟩; obtain ⟨loR11, hloR11⟩ : ∃ n_ : Nat, n_ = w_5.heap.size := ⟨_, rfl⟩; obtain ⟨hiR11, hhiR11⟩ : ∃ n_ : Nat, n_ = w_6.heap.size := ⟨_, rfl⟩; have n0_ := Aside0.mk (Kd.S_below HOR5.out hb); have n1_ := Aside0.mk (Kd.S_below HOR7.out hb); have n2_ := Aside0.mk (Nat.le_trans UPR5.out hb.size); have n3_ := Aside0.mk (Nat.le_trans UPR7.out hb.size); have n4_ := Aside0.mk (blk_below (g := gb1) BKgb1.out hb); have n5_ := Aside0.mk (Nat.lt_of_lt_of_le GUgb1.out hb.size); have n6_ := Aside0.mk (below_step HB.out hb); have n7_ := Aside0.mk (Kd.S_lower (Kd.S_mono (ok' := fun k_ => loR11 ≤ k_ ∧ k_ < hiR11) (Kd.S_bound hoR11) (fun k_ hk_ => ⟨by rw [hloR11]; exact hk_.2.1, by rw [hhiR11]; exact hk_.2.2.1⟩)) (below_size HB.out)); have n8_ := Aside0.mk (by rw [hhiR11]; exact Nat.le_refl _ : hiR11 ≤ w_6.heap.size); have n9_ := Aside0.mk (fun k_ h1_ h2_ => by have := UPR5.out; rw [← hloR11] at this; omega : ∀ k_, loR5 ≤ k_ ∧ k_ < hiR5 → ¬ (loR11 ≤ k_ ∧ k_ < hiR11)); have n10_ := Aside0.mk (fun k_ h1_ h2_ => by have := UPR5.out; rw [← hloR11] at this; omega : ∀ k_, loR11 ≤ k_ ∧ k_ < hiR11 → ¬ (loR5 ≤ k_ ∧ k_ < hiR5)); have n11_ := Aside0.mk (fun k_ h1_ h2_ => by have := UPR7.out; rw [← hloR11] at this; omega : ∀ k_, loR7 ≤ k_ ∧ k_ < hiR7 → ¬ (loR11 ≤ k_ ∧ k_ < hiR11)); have n12_ := Aside0.mk (fun k_ h1_ h2_ => by have := UPR7.out; rw [← hloR11] at this; omega : ∀ k_, loR11 ≤ k_ ∧ k_ < hiR11 → ¬ (loR7 ≤ k_ ∧ k_ < hiR7)); have n13_ := Aside0.mk (fun k_ hk_ => by have := GUgb1.out; rw [← hloR11] at this; omega : ∀ k_, loR11 ≤ k_ ∧ k_ < hiR11 → k_ ≠ gb1); clear HOR5; clear HOR7; clear UPR5; clear UPR7; clear BKgb1; clear GUgb1; clear HB; have HOR5 := n0_; have HOR7 := n1_; have UPR5 := n2_; have UPR7 := n3_; have BKgb1 := n4_; have GUgb1 := n5_; have HB := n6_; have HOR11 := n7_; have UPR11 := n8_; have NRR5_R11 := n9_; have NRR11_R5 := n10_; have NRR7_R11 := n11_; have NRR11_R7 := n12_; have NER11_gb1 := n13_; clear n0_ n1_ n2_ n3_ n4_ n5_ n6_ n7_ n8_ n9_ n10_ n11_ n12_ n13_; clear hb; clear hoR11 hloR11 hhiR11; obtain ⟨AR11, cR11, eqR11⟩ := Kd.S_slice HOR11.out; subst eqR11; (try clear hczgb1_0); (try clear hfzgb1_0); have hczgb1_0 : w_6.cell? ⟨gb1, 0, none⟩ = some (.slice A0_0 l0_0.length c0_0) := (blk_cell BKgb1.out 0).trans rfl; have hfzgb1_0 := blk_frozen BKgb1.out 0) | ((with_reducible refine gate_callee (f := 31) rfl ?_); refine goesL_ (some 40) rfl rfl Try.func31 (by kernel_rfl) rfl #[.agg #[.slice A0_0 l0_0.length c0_0]] rfl (by (try simp only [List.map_toArray, List.map_cons, List.map_nil]); first | done | rfl) ?_; have HWM := HB; have HBM := Aside0.mk (Below.refl w_6.heap.size w_6); (with_reducible refine (laws_toPicture.calls k _ _ l0_0 t12 _ ?side1 ?side2 E8.out).mono ?_); (case side1 => exact Kd.C_below HR0_0.out HB.out); (case side2 => exact HC0_0.out); rintro e w_7 ⟨vR13, rfl, hoR13, hb⟩; refine ⟨_, rfl, ?_⟩; obtain ⟨loR13, hloR13⟩ : ∃ n_ : Nat, n_ = w_6.heap.size := ⟨_, rfl⟩; obtain ⟨hiR13, hhiR13⟩ : ∃ n_ : Nat, n_ = w_7.heap.size := ⟨_, rfl⟩; have n0_ := Aside0.mk (Kd.S_below HOR5.out hb); have n1_ := Aside0.mk (Kd.S_below HOR7.out hb); have n2_ := Aside0.mk (Kd.S_below HOR11.out hb); have n3_ := Aside0.mk (Nat.le_trans UPR5.out hb.size); have n4_ := Aside0.mk (Nat.le_trans UPR7.out hb.size); have n5_ := Aside0.mk (Nat.le_trans UPR11.out hb.size); have n6_ := Aside0.mk (blk_below (g := gb1) BKgb1.out hb); have n7_ := Aside0.mk (Nat.lt_of_lt_of_le GUgb1.out hb.size); have n8_ := Aside0.mk (below_step HB.out hb); have n9_ := Aside0.mk (below_step HBM.out hb); have n10_ := Aside0.mk (Kd.S_lower (Kd.S_mono (ok' := fun k_ => loR13 ≤ k_ ∧ k_ < hiR13) (Kd.S_bound hoR13) (fun k_ hk_ => ⟨by rw [hloR13]; exact hk_.2.1, by rw [hhiR13]; exact hk_.2.2.1⟩)) (below_size HBM.out)); have n11_ := Aside0.mk (by rw [hhiR13]; exact Nat.le_refl _ : hiR13 ≤ w_7.heap.size); have n12_ := Aside0.mk (fun k_ h1_ h2_ => by have := UPR5.out; rw [← hloR13] at this; omega : ∀ k_, loR5 ≤ k_ ∧ k_ < hiR5 → ¬ (loR13 ≤ k_ ∧ k_ < hiR13)); have n13_ := Aside0.mk (fun k_ h1_ h2_ => by have := UPR5.out; rw [← hloR13] at this; omega : ∀ k_, loR13 ≤ k_ ∧ k_ < hiR13 → ¬ (loR5 ≤ k_ ∧ k_ < hiR5)); have n14_ := Aside0.mk (fun k_ h1_ h2_ => by have := UPR7.out; rw [← hloR13] at this; omega : ∀ k_, loR7 ≤ k_ ∧ k_ < hiR7 → ¬ (loR13 ≤ k_ ∧ k_ < hiR13)); have n15_ := Aside0.mk (fun k_ h1_ h2_ => by have := UPR7.out; rw [← hloR13] at this; omega : ∀ k_, loR13 ≤ k_ ∧ k_ < hiR13 → ¬ (loR7 ≤ k_ ∧ k_ < hiR7)); have n16_ := Aside0.mk (fun k_ h1_ h2_ => by have := UPR11.out; rw [← hloR13] at this; omega : ∀ k_, loR11 ≤ k_ ∧ k_ < hiR11 → ¬ (loR13 ≤ k_ ∧ k_ < hiR13)); have n17_ := Aside0.mk (fun k_ h1_ h2_ => by have := UPR11.out; rw [← hloR13] at this; omega : ∀ k_, loR13 ≤ k_ ∧ k_ < hiR13 → ¬ (loR11 ≤ k_ ∧ k_ < hiR11)); have n18_ := Aside0.mk (fun k_ hk_ => by have := GUgb1.out; rw [← hloR13] at this; omega : ∀ k_, loR13 ≤ k_ ∧ k_ < hiR13 → k_ ≠ gb1); clear HOR5; clear HOR7; clear HOR11; clear UPR5; clear UPR7; clear UPR11; clear BKgb1; clear GUgb1; clear HB; clear HBM; have HOR5 := n0_; have HOR7 := n1_; have HOR11 := n2_; have UPR5 := n3_; have UPR7 := n4_; have UPR11 := n5_; have BKgb1 := n6_; have GUgb1 := n7_; have HB := n8_; have HBM := n9_; have HOR13 := n10_; have UPR13 := n11_; have NRR5_R13 := n12_; have NRR13_R5 := n13_; have NRR7_R13 := n14_; have NRR13_R7 := n15_; have NRR11_R13 := n16_; have NRR13_R11 := n17_; have NER13_gb1 := n18_; clear n0_ n1_ n2_ n3_ n4_ n5_ n6_ n7_ n8_ n9_ n10_ n11_ n12_ n13_ n14_ n15_ n16_ n17_ n18_; clear hb; clear hoR13 hloR13 hhiR13; obtain ⟨AR13, cR13, eqR13⟩ := Kd.S_slice HOR13.out; subst eqR13; (try clear hczgb1_0); (try clear hfzgb1_0); have hczgb1_0 : w_7.cell? ⟨gb1, 0, none⟩ = some (.slice A0_0 l0_0.length c0_0) := (blk_cell BKgb1.out 0).trans rfl; have hfzgb1_0 := blk_frozen BKgb1.out 0) | ((with_reducible refine gate_dst (N := 9) rfl ?_); refine box_event ?hg (N := 9) ?hd (cs := #[.slice none 0 0]) (t := 46) ?hr ?_; (case hd => rfl); (case hg => rfl); (case hr => first | (go_simp; done) | (go_simp; rfl)); intro gb14 hg w_8 hbox hb; have n0_ := Aside0.mk (Kd.S_below HOR5.out hb); have n1_ := Aside0.mk (Kd.S_below HOR7.out hb); have n2_ := Aside0.mk (Kd.S_below HOR11.out hb); have n3_ := Aside0.mk (Kd.S_below HOR13.out hb); have n4_ := Aside0.mk (Nat.le_trans UPR5.out hb.size); have n5_ := Aside0.mk (Nat.le_trans UPR7.out hb.size); have n6_ := Aside0.mk (Nat.le_trans UPR11.out hb.size); have n7_ := Aside0.mk (Nat.le_trans UPR13.out hb.size); have n8_ := Aside0.mk (blk_below (g := gb1) BKgb1.out hb); have n9_ := Aside0.mk (Nat.lt_of_lt_of_le GUgb1.out hb.size); have n10_ := Aside0.mk (below_step HB.out hb); have n11_ := Aside0.mk (below_step HBM.out hb); have n12_ := Aside0.mk (hbox); have n13_ := Aside0.mk (blk_lt hbox); have n14_ := Aside0.mk (by rw [hg]; exact below_size HB.out : w.heap.size ≤ gb14); have n15_ := Aside0.mk (by rw [hg]; exact below_size HBM.out : w_6.heap.size ≤ gb14); have n16_ := Aside0.mk (fun k_ hk_ => by have := UPR5.out; rw [← hg] at this; omega : ∀ k_, loR5 ≤ k_ ∧ k_ < hiR5 → k_ ≠ gb14); have n17_ := Aside0.mk (fun k_ hk_ => by have := UPR7.out; rw [← hg] at this; omega : ∀ k_, loR7 ≤ k_ ∧ k_ < hiR7 → k_ ≠ gb14); have n18_ := Aside0.mk (fun k_ hk_ => by have := UPR11.out; rw [← hg] at this; omega : ∀ k_, loR11 ≤ k_ ∧ k_ < hiR11 → k_ ≠ gb14); have n19_ := Aside0.mk (fun k_ hk_ => by have := UPR13.out; rw [← hg] at this; omega : ∀ k_, loR13 ≤ k_ ∧ k_ < hiR13 → k_ ≠ gb14); have n20_ := Aside0.mk (by have := GUgb1.out; rw [← hg] at this; omega : gb1 ≠ gb14); have n21_ := Aside0.mk (by have := GUgb1.out; rw [← hg] at this; omega : gb14 ≠ gb1); clear HOR5; clear HOR7; clear HOR11; clear HOR13; clear UPR5; clear UPR7; clear UPR11; clear UPR13; clear BKgb1; clear GUgb1; clear HB; clear HBM; have HOR5 := n0_; have HOR7 := n1_; have HOR11 := n2_; have HOR13 := n3_; have UPR5 := n4_; have UPR7 := n5_; have UPR11 := n6_; have UPR13 := n7_; have BKgb1 := n8_; have GUgb1 := n9_; have HB := n10_; have HBM := n11_; have BKgb14 := n12_; have GUgb14 := n13_; have GEgb14 := n14_; have GMgb14 := n15_; have NER5_gb14 := n16_; have NER7_gb14 := n17_; have NER11_gb14 := n18_; have NER13_gb14 := n19_; have NBgb1_gb14 := n20_; have NBgb14_gb1 := n21_; clear n0_ n1_ n2_ n3_ n4_ n5_ n6_ n7_ n8_ n9_ n10_ n11_ n12_ n13_ n14_ n15_ n16_ n17_ n18_ n19_ n20_ n21_; clear hb hbox hg; (try clear hczgb1_0); (try clear hfzgb1_0); (try clear hczgb14_0); (try clear hfzgb14_0); have hczgb1_0 : w_8.cell? ⟨gb1, 0, none⟩ = some (.slice A0_0 l0_0.length c0_0) := (blk_cell BKgb1.out 0).trans rfl; have hfzgb1_0 := blk_frozen BKgb1.out 0; have hczgb14_0 : w_8.cell? ⟨gb14, 0, none⟩ = some (.slice none 0 0) := (blk_cell BKgb14.out 0).trans rfl; have hfzgb14_0 := blk_frozen BKgb14.out 0) | ((with_reducible refine gate_store (t := 46) (p := 9) rfl ?_); refine store_event (t := 46) (p := 9) (v := ?vow_9) (w1 := (w_8.setCell ⟨gb14, 0, none⟩ (.slice AR13 t12.length cR13))) ?hg ?ho ?hn ?hr ?_; (case ho => rfl); (case hg => rfl); (case hn => rfl); (case hr => first | (go_simp; done) | (go_simp; rfl)); intro w_9 hw; have n0_ := Aside0.mk (by rw [hw]; exact (Kd.S_far (p := ⟨gb14, 0, none⟩) HOR5.out NER5_gb14.out (.slice AR13 t12.length cR13)) : Kd.S (Kd.slice 2 (Kd.int .i64)) 65 w_9 w.heap.size (fun k_ => loR5 ≤ k_ ∧ k_ < hiR5) (.slice AR5 t4.length cR5) t4); have n1_ := Aside0.mk (by rw [hw]; simp only [World.size_setCell]; exact UPR5.out : hiR5 ≤ w_9.heap.size); have n2_ := Aside0.mk (by rw [hw]; exact (Kd.S_far (p := ⟨gb14, 0, none⟩) HOR7.out NER7_gb14.out (.slice AR13 t12.length cR13)) : Kd.S (Kd.slice 2 (Kd.int .i64)) 65 w_9 w.heap.size (fun k_ => loR7 ≤ k_ ∧ k_ < hiR7) (.slice AR7 t6.length cR7) t6); have n3_ := Aside0.mk (by rw [hw]; simp only [World.size_setCell]; exact UPR7.out : hiR7 ≤ w_9.heap.size); have n4_ := Aside0.mk (by rw [hw]; exact (Kd.S_far (p := ⟨gb14, 0, none⟩) HOR11.out NER11_gb14.out (.slice AR13 t12.length cR13)) : Kd.S (Kd.slice 2 (Kd.int .i64)) 65 w_9 w.heap.size (fun k_ => loR11 ≤ k_ ∧ k_ < hiR11) (.slice AR11 t8.length cR11) t8); have n5_ := Aside0.mk (by rw [hw]; simp only [World.size_setCell]; exact UPR11.out : hiR11 ≤ w_9.heap.size); have n6_ := Aside0.mk (by rw [hw]; exact (Kd.S_far (p := ⟨gb14, 0, none⟩) HOR13.out NER13_gb14.out (.slice AR13 t12.length cR13)) : Kd.S (Kd.slice 2 (Kd.int .i64)) 65 w_9 w_6.heap.size (fun k_ => loR13 ≤ k_ ∧ k_ < hiR13) (.slice AR13 t12.length cR13) t12); have n7_ := Aside0.mk (by rw [hw]; simp only [World.size_setCell]; exact UPR13.out : hiR13 ≤ w_9.heap.size); have n8_ := Aside0.mk (by rw [hw]; exact (blk_far BKgb1.out NBgb1_gb14.out (.slice AR13 t12.length cR13)) : w_9.heap[gb1]? = some (.cells #[.slice A0_0 l0_0.length c0_0] 43 (0, 0))); have n9_ := Aside0.mk (by rw [hw]; simp only [World.size_setCell]; exact GUgb1.out : gb1 < w_9.heap.size); have n10_ := Aside0.mk (by rw [hw]; exact (blk_put (cs' := #[.slice AR13 t12.length cR13]) BKgb14.out 0 (.slice AR13 t12.length cR13) rfl) : w_9.heap[gb14]? = some (.cells #[.slice AR13 t12.length cR13] 46 (0, 0))); have n11_ := Aside0.mk (by rw [hw]; simp only [World.size_setCell]; exact GUgb14.out : gb14 < w_9.heap.size); have n12_ := Aside0.mk (by rw [hw]; exact (below_set HB.out GEgb14.out) : Below w.heap.size w w_9); have n13_ := Aside0.mk (by rw [hw]; exact (below_set HBM.out GMgb14.out) : Below w_6.heap.size w_6 w_9); clear HOR5; clear UPR5; clear HOR7; clear UPR7; clear HOR11; clear UPR11; clear HOR13; clear UPR13; clear BKgb1; clear GUgb1; clear BKgb14; clear GUgb14; clear HB; clear HBM; have HOR5 := n0_; have UPR5 := n1_; have HOR7 := n2_; have UPR7 := n3_; have HOR11 := n4_; have UPR11 := n5_; have HOR13 := n6_; have UPR13 := n7_; have BKgb1 := n8_; have GUgb1 := n9_; have BKgb14 := n10_; have GUgb14 := n11_; have HB := n12_; have HBM := n13_; clear n0_ n1_ n2_ n3_ n4_ n5_ n6_ n7_ n8_ n9_ n10_ n11_ n12_ n13_; clear hw; (try clear hczgb1_0); (try clear hfzgb1_0); (try clear hczgb14_0); (try clear hfzgb14_0); have hczgb1_0 : w_9.cell? ⟨gb1, 0, none⟩ = some (.slice A0_0 l0_0.length c0_0) := (blk_cell BKgb1.out 0).trans rfl; have hfzgb1_0 := blk_frozen BKgb1.out 0; have hczgb14_0 : w_9.cell? ⟨gb14, 0, none⟩ = some (.slice AR13 t12.length cR13) := (blk_cell BKgb14.out 0).trans rfl; have hfzgb14_0 := blk_frozen BKgb14.out 0) | ((with_reducible refine gate_callee (f := 36) rfl ?_); refine goesL_ (some 42) rfl rfl Try.func36 (by kernel_rfl) rfl #[.slice A1 l1.length c1] rfl (by (try simp only [List.map_toArray, List.map_cons, List.map_nil]); first | done | rfl) ?_; (with_reducible refine (laws_toInt64SS.calls k _ _ l1 t15 _ ?side1 ?side2 E9.out).mono ?_); (case side1 => exact Kd.C_below HR1.out HB.out); (case side2 => exact HC1.out); rintro e w_10 ⟨vR16, rfl, hoR16, hb⟩; refine ⟨_, rfl, ?_⟩; obtain ⟨loR16, hloR16⟩ : ∃ n_ : Nat, n_ = w_9.heap.size := ⟨_, rfl⟩; obtain ⟨hiR16, hhiR16⟩ : ∃ n_ : Nat, n_ = w_10.heap.size := ⟨_, rfl⟩; have n0_ := Aside0.mk (Kd.S_below HOR5.out hb); have n1_ := Aside0.mk (Kd.S_below HOR7.out hb); have n2_ := Aside0.mk (Kd.S_below HOR11.out hb); have n3_ := Aside0.mk (Kd.S_below HOR13.out hb); have n4_ := Aside0.mk (Nat.le_trans UPR5.out hb.size); have n5_ := Aside0.mk (Nat.le_trans UPR7.out hb.size); have n6_ := Aside0.mk (Nat.le_trans UPR11.out hb.size); have n7_ := Aside0.mk (Nat.le_trans UPR13.out hb.size); have n8_ := Aside0.mk (blk_below (g := gb1) BKgb1.out hb); have n9_ := Aside0.mk (blk_below (g := gb14) BKgb14.out hb); have n10_ := Aside0.mk (Nat.lt_of_lt_of_le GUgb1.out hb.size); have n11_ := Aside0.mk (Nat.lt_of_lt_of_le GUgb14.out hb.size); have n12_ := Aside0.mk (below_step HB.out hb); have n13_ := Aside0.mk (below_step HBM.out hb); have n14_ := Aside0.mk (Kd.S_lower (Kd.S_mono (ok' := fun k_ => loR16 ≤ k_ ∧ k_ < hiR16) (Kd.S_bound hoR16) (fun k_ hk_ => ⟨by rw [hloR16]; exact hk_.2.1, by rw [hhiR16]; exact hk_.2.2.1⟩)) (below_size HBM.out)); have n15_ := Aside0.mk (by rw [hhiR16]; exact Nat.le_refl _ : hiR16 ≤ w_10.heap.size); have n16_ := Aside0.mk (fun k_ h1_ h2_ => by have := UPR5.out; rw [← hloR16] at this; omega : ∀ k_, loR5 ≤ k_ ∧ k_ < hiR5 → ¬ (loR16 ≤ k_ ∧ k_ < hiR16)); have n17_ := Aside0.mk (fun k_ h1_ h2_ => by have := UPR5.out; rw [← hloR16] at this; omega : ∀ k_, loR16 ≤ k_ ∧ k_ < hiR16 → ¬ (loR5 ≤ k_ ∧ k_ < hiR5)); have n18_ := Aside0.mk (fun k_ h1_ h2_ => by have := UPR7.out; rw [← hloR16] at this; omega : ∀ k_, loR7 ≤ k_ ∧ k_ < hiR7 → ¬ (loR16 ≤ k_ ∧ k_ < hiR16)); have n19_ := Aside0.mk (fun k_ h1_ h2_ => by have := UPR7.out; rw [← hloR16] at this; omega : ∀ k_, loR16 ≤ k_ ∧ k_ < hiR16 → ¬ (loR7 ≤ k_ ∧ k_ < hiR7)); have n20_ := Aside0.mk (fun k_ h1_ h2_ => by have := UPR11.out; rw [← hloR16] at this; omega : ∀ k_, loR11 ≤ k_ ∧ k_ < hiR11 → ¬ (loR16 ≤ k_ ∧ k_ < hiR16)); have n21_ := Aside0.mk (fun k_ h1_ h2_ => by have := UPR11.out; rw [← hloR16] at this; omega : ∀ k_, loR16 ≤ k_ ∧ k_ < hiR16 → ¬ (loR11 ≤ k_ ∧ k_ < hiR11)); have n22_ := Aside0.mk (fun k_ h1_ h2_ => by have := UPR13.out; rw [← hloR16] at this; omega : ∀ k_, loR13 ≤ k_ ∧ k_ < hiR13 → ¬ (loR16 ≤ k_ ∧ k_ < hiR16)); have n23_ := Aside0.mk (fun k_ h1_ h2_ => by have := UPR13.out; rw [← hloR16] at this; omega : ∀ k_, loR16 ≤ k_ ∧ k_ < hiR16 → ¬ (loR13 ≤ k_ ∧ k_ < hiR13)); have n24_ := Aside0.mk (fun k_ hk_ => by have := GUgb1.out; rw [← hloR16] at this; omega : ∀ k_, loR16 ≤ k_ ∧ k_ < hiR16 → k_ ≠ gb1); have n25_ := Aside0.mk (fun k_ hk_ => by have := GUgb14.out; rw [← hloR16] at this; omega : ∀ k_, loR16 ≤ k_ ∧ k_ < hiR16 → k_ ≠ gb14); clear HOR5; clear HOR7; clear HOR11; clear HOR13; clear UPR5; clear UPR7; clear UPR11; clear UPR13; clear BKgb1; clear BKgb14; clear GUgb1; clear GUgb14; clear HB; clear HBM; have HOR5 := n0_; have HOR7 := n1_; have HOR11 := n2_; have HOR13 := n3_; have UPR5 := n4_; have UPR7 := n5_; have UPR11 := n6_; have UPR13 := n7_; have BKgb1 := n8_; have BKgb14 := n9_; have GUgb1 := n10_; have GUgb14 := n11_; have HB := n12_; have HBM := n13_; have HOR16 := n14_; have UPR16 := n15_; have NRR5_R16 := n16_; have NRR16_R5 := n17_; have NRR7_R16 := n18_; have NRR16_R7 := n19_; have NRR11_R16 := n20_; have NRR16_R11 := n21_; have NRR13_R16 := n22_; have NRR16_R13 := n23_; have NER16_gb1 := n24_; have NER16_gb14 := n25_; clear n0_ n1_ n2_ n3_ n4_ n5_ n6_ n7_ n8_ n9_ n10_ n11_ n12_ n13_ n14_ n15_ n16_ n17_ n18_ n19_ n20_ n21_ n22_ n23_ n24_ n25_; clear hb; clear hoR16 hloR16 hhiR16; obtain ⟨AR16, cR16, eqR16⟩ := Kd.S_slice HOR16.out; subst eqR16; (try clear hczgb1_0); (try clear hfzgb1_0); (try clear hczgb14_0); (try clear hfzgb14_0); have hczgb1_0 : w_10.cell? ⟨gb1, 0, none⟩ = some (.slice A0_0 l0_0.length c0_0) := (blk_cell BKgb1.out 0).trans rfl; have hfzgb1_0 := blk_frozen BKgb1.out 0; have hczgb14_0 : w_10.cell? ⟨gb14, 0, none⟩ = some (.slice AR13 t12.length cR13) := (blk_cell BKgb14.out 0).trans rfl; have hfzgb14_0 := blk_frozen BKgb14.out 0) | ((with_reducible refine gate_callee (f := 52) rfl ?_); refine goesL_ (some 46) rfl rfl Try.func52 (by kernel_rfl) rfl #[.agg #[.slice AR13 t12.length cR13], .slice AR16 t15.length cR16] rfl (by (try simp only [List.map_toArray, List.map_cons, List.map_nil]); first | done | rfl) ?_; (with_reducible refine (impl_PathDither.calls k _ _ t12 _ _ t15 t17 t41 t42 _ ?side1 ?side2 ?side3 ?side4 E10.out).mono ?_); (case side1 => exact (Kd.S_reads' HOR13.out).2.2); (case side2 => exact (Kd.S_reads' HOR13.out).2.1); (case side3 => exact (Kd.S_reads' HOR16.out).2.2); (case side4 => exact (Kd.S_reads' HOR16.out).2.1); rintro e w_11 ⟨vR20, rfl, hoR20, hb⟩; refine ⟨_, rfl, ?_⟩; obtain ⟨loR20, hloR20⟩ : ∃ n_ : Nat, n_ = w_10.heap.size := ⟨_, rfl⟩; obtain ⟨hiR20, hhiR20⟩ : ∃ n_ : Nat, n_ = w_11.heap.size := ⟨_, rfl⟩; have n0_ := Aside0.mk (Kd.S_below HOR5.out hb); have n1_ := Aside0.mk (Kd.S_below HOR7.out hb); have n2_ := Aside0.mk (Kd.S_below HOR11.out hb); have n3_ := Aside0.mk (Kd.S_below HOR13.out hb); have n4_ := Aside0.mk (Kd.S_below HOR16.out hb); have n5_ := Aside0.mk (Nat.le_trans UPR5.out hb.size); have n6_ := Aside0.mk (Nat.le_trans UPR7.out hb.size); have n7_ := Aside0.mk (Nat.le_trans UPR11.out hb.size); have n8_ := Aside0.mk (Nat.le_trans UPR13.out hb.size); have n9_ := Aside0.mk (Nat.le_trans UPR16.out hb.size); have n10_ := Aside0.mk (blk_below (g := gb1) BKgb1.out hb); have n11_ := Aside0.mk (blk_below (g := gb14) BKgb14.out hb); have n12_ := Aside0.mk (Nat.lt_of_lt_of_le GUgb1.out hb.size); have n13_ := Aside0.mk (Nat.lt_of_lt_of_le GUgb14.out hb.size); have n14_ := Aside0.mk (below_step HB.out hb); have n15_ := Aside0.mk (below_step HBM.out hb); have n16_ := Aside0.mk (Kd.S_lower (Kd.S_mono (ok' := fun k_ => loR20 ≤ k_ ∧ k_ < hiR20) (Kd.S_bound hoR20) (fun k_ hk_ => ⟨by rw [hloR20]; exact hk_.2.1, by rw [hhiR20]; exact hk_.2.2.1⟩)) (below_size HBM.out)); have n17_ := Aside0.mk (by rw [hhiR20]; exact Nat.le_refl _ : hiR20 ≤ w_11.heap.size); have n18_ := Aside0.mk (fun k_ h1_ h2_ => by have := UPR5.out; rw [← hloR20] at this; omega : ∀ k_, loR5 ≤ k_ ∧ k_ < hiR5 → ¬ (loR20 ≤ k_ ∧ k_ < hiR20)); have n19_ := Aside0.mk (fun k_ h1_ h2_ => by have := UPR5.out; rw [← hloR20] at this; omega : ∀ k_, loR20 ≤ k_ ∧ k_ < hiR20 → ¬ (loR5 ≤ k_ ∧ k_ < hiR5)); have n20_ := Aside0.mk (fun k_ h1_ h2_ => by have := UPR7.out; rw [← hloR20] at this; omega : ∀ k_, loR7 ≤ k_ ∧ k_ < hiR7 → ¬ (loR20 ≤ k_ ∧ k_ < hiR20)); have n21_ := Aside0.mk (fun k_ h1_ h2_ => by have := UPR7.out; rw [← hloR20] at this; omega : ∀ k_, loR20 ≤ k_ ∧ k_ < hiR20 → ¬ (loR7 ≤ k_ ∧ k_ < hiR7)); have n22_ := Aside0.mk (fun k_ h1_ h2_ => by have := UPR11.out; rw [← hloR20] at this; omega : ∀ k_, loR11 ≤ k_ ∧ k_ < hiR11 → ¬ (loR20 ≤ k_ ∧ k_ < hiR20)); have n23_ := Aside0.mk (fun k_ h1_ h2_ => by have := UPR11.out; rw [← hloR20] at this; omega : ∀ k_, loR20 ≤ k_ ∧ k_ < hiR20 → ¬ (loR11 ≤ k_ ∧ k_ < hiR11)); have n24_ := Aside0.mk (fun k_ h1_ h2_ => by have := UPR13.out; rw [← hloR20] at this; omega : ∀ k_, loR13 ≤ k_ ∧ k_ < hiR13 → ¬ (loR20 ≤ k_ ∧ k_ < hiR20)); have n25_ := Aside0.mk (fun k_ h1_ h2_ => by have := UPR13.out; rw [← hloR20] at this; omega : ∀ k_, loR20 ≤ k_ ∧ k_ < hiR20 → ¬ (loR13 ≤ k_ ∧ k_ < hiR13)); have n26_ := Aside0.mk (fun k_ h1_ h2_ => by have := UPR16.out; rw [← hloR20] at this; omega : ∀ k_, loR16 ≤ k_ ∧ k_ < hiR16 → ¬ (loR20 ≤ k_ ∧ k_ < hiR20)); have n27_ := Aside0.mk (fun k_ h1_ h2_ => by have := UPR16.out; rw [← hloR20] at this; omega : ∀ k_, loR20 ≤ k_ ∧ k_ < hiR20 → ¬ (loR16 ≤ k_ ∧ k_ < hiR16)); have n28_ := Aside0.mk (fun k_ hk_ => by have := GUgb1.out; rw [← hloR20] at this; omega : ∀ k_, loR20 ≤ k_ ∧ k_ < hiR20 → k_ ≠ gb1); have n29_ := Aside0.mk (fun k_ hk_ => by have := GUgb14.out; rw [← hloR20] at this; omega : ∀ k_, loR20 ≤ k_ ∧ k_ < hiR20 → k_ ≠ gb14); clear HOR5; clear HOR7; clear HOR11; clear HOR13; clear HOR16; clear UPR5; clear UPR7; clear UPR11; clear UPR13; clear UPR16; clear BKgb1; clear BKgb14; clear GUgb1; clear GUgb14; clear HB; clear HBM; have HOR5 := n0_; have HOR7 := n1_; have HOR11 := n2_; have HOR13 := n3_; have HOR16 := n4_; have UPR5 := n5_; have UPR7 := n6_; have UPR11 := n7_; have UPR13 := n8_; have UPR16 := n9_; have BKgb1 := n10_; have BKgb14 := n11_; have GUgb1 := n12_; have GUgb14 := n13_; have HB := n14_; have HBM := n15_; have HOR20 := n16_; have UPR20 := n17_; have NRR5_R20 := n18_; have NRR20_R5 := n19_; have NRR7_R20 := n20_; have NRR20_R7 := n21_; have NRR11_R20 := n22_; have NRR20_R11 := n23_; have NRR13_R20 := n24_; have NRR20_R13 := n25_; have NRR16_R20 := n26_; have NRR20_R16 := n27_; have NER20_gb1 := n28_; have NER20_gb14 := n29_; clear n0_ n1_ n2_ n3_ n4_ n5_ n6_ n7_ n8_ n9_ n10_ n11_ n12_ n13_ n14_ n15_ n16_ n17_ n18_ n19_ n20_ n21_ n22_ n23_ n24_ n25_ n26_ n27_ n28_ n29_; clear hb; clear hoR20 hloR20 hhiR20; obtain ⟨AR20, cR20, eqR20⟩ := Kd.S_slice HOR20.out; subst eqR20; (try clear hczgb1_0); (try clear hfzgb1_0); (try clear hczgb14_0); (try clear hfzgb14_0); have hczgb1_0 : w_11.cell? ⟨gb1, 0, none⟩ = some (.slice A0_0 l0_0.length c0_0) := (blk_cell BKgb1.out 0).trans rfl; have hfzgb1_0 := blk_frozen BKgb1.out 0; have hczgb14_0 : w_11.cell? ⟨gb14, 0, none⟩ = some (.slice AR13 t12.length cR13) := (blk_cell BKgb14.out 0).trans rfl; have hfzgb14_0 := blk_frozen BKgb14.out 0) | ((with_reducible refine gate_callee (f := 26) rfl ?_); refine goesL_ (some 52) rfl rfl Try.func26 (by kernel_rfl) rfl #[.slice AR20 t17.length cR20, .slice AR11 t8.length cR11] rfl (by (try simp only [List.map_toArray, List.map_cons, List.map_nil]); first | done | rfl) ?_; (with_reducible refine (laws_eqInt64SS.calls k _ _ t17 _ _ t8 true _ ?side1 ?side2 ?side3 ?side4 E11.out).mono ?_); (case side1 => exact (Kd.S_reads' HOR20.out).2.2); (case side2 => exact (Kd.S_reads' HOR20.out).2.1); (case side3 => exact (Kd.S_reads' HOR11.out).2.2); (case side4 => exact (Kd.S_reads' HOR11.out).2.1); rintro e w_12 ⟨rfl, hd⟩; have hb := Drawn0.below hd; refine ⟨_, rfl, ?_⟩; have n0_ := Aside0.mk (Kd.S_below HOR5.out hb); have n1_ := Aside0.mk (Kd.S_below HOR7.out hb); have n2_ := Aside0.mk (Kd.S_below HOR11.out hb); have n3_ := Aside0.mk (Kd.S_below HOR13.out hb); have n4_ := Aside0.mk (Kd.S_below HOR16.out hb); have n5_ := Aside0.mk (Kd.S_below HOR20.out hb); have n6_ := Aside0.mk (Nat.le_trans UPR5.out hb.size); have n7_ := Aside0.mk (Nat.le_trans UPR7.out hb.size); have n8_ := Aside0.mk (Nat.le_trans UPR11.out hb.size); have n9_ := Aside0.mk (Nat.le_trans UPR13.out hb.size); have n10_ := Aside0.mk (Nat.le_trans UPR16.out hb.size); have n11_ := Aside0.mk (Nat.le_trans UPR20.out hb.size); have n12_ := Aside0.mk (blk_below (g := gb1) BKgb1.out hb); have n13_ := Aside0.mk (blk_below (g := gb14) BKgb14.out hb); have n14_ := Aside0.mk (Nat.lt_of_lt_of_le GUgb1.out hb.size); have n15_ := Aside0.mk (Nat.lt_of_lt_of_le GUgb14.out hb.size); have n16_ := Aside0.mk (below_step HB.out hb); have n17_ := Aside0.mk (below_step HBM.out hb); clear HOR5; clear HOR7; clear HOR11; clear HOR13; clear HOR16; clear HOR20; clear UPR5; clear UPR7; clear UPR11; clear UPR13; clear UPR16; clear UPR20; clear BKgb1; clear BKgb14; clear GUgb1; clear GUgb14; clear HB; clear HBM; have HOR5 := n0_; have HOR7 := n1_; have HOR11 := n2_; have HOR13 := n3_; have HOR16 := n4_; have HOR20 := n5_; have UPR5 := n6_; have UPR7 := n7_; have UPR11 := n8_; have UPR13 := n9_; have UPR16 := n10_; have UPR20 := n11_; have BKgb1 := n12_; have BKgb14 := n13_; have GUgb1 := n14_; have GUgb14 := n15_; have HB := n16_; have HBM := n17_; clear n0_ n1_ n2_ n3_ n4_ n5_ n6_ n7_ n8_ n9_ n10_ n11_ n12_ n13_ n14_ n15_ n16_ n17_; clear hb; clear hd; (try clear hczgb1_0); (try clear hfzgb1_0); (try clear hczgb14_0); (try clear hfzgb14_0); have hczgb1_0 : w_12.cell? ⟨gb1, 0, none⟩ = some (.slice A0_0 l0_0.length c0_0) := (blk_cell BKgb1.out 0).trans rfl; have hfzgb1_0 := blk_frozen BKgb1.out 0; have hczgb14_0 : w_12.cell? ⟨gb14, 0, none⟩ = some (.slice AR13 t12.length cR13) := (blk_cell BKgb14.out 0).trans rfl; have hfzgb14_0 := blk_frozen BKgb14.out 0))
 have n0_ := Aside0.mk (Kd.S_drew HOR5.out)
 have n1_ := Aside0.mk (Kd.S_drew HOR7.out)
 have n2_ := Aside0.mk (Kd.S_drew HOR11.out)
 have n3_ := Aside0.mk (Kd.S_drew HOR13.out)
 have n4_ := Aside0.mk (Kd.S_drew HOR16.out)
 have n5_ := Aside0.mk (Kd.S_drew HOR20.out)
 have n6_ := Aside0.mk (show hiR5 ≤ w_12.drew.heap.size from UPR5.out)
 have n7_ := Aside0.mk (show hiR7 ≤ w_12.drew.heap.size from UPR7.out)
 have n8_ := Aside0.mk (show hiR11 ≤ w_12.drew.heap.size from UPR11.out)
 have n9_ := Aside0.mk (show hiR13 ≤ w_12.drew.heap.size from UPR13.out)
 have n10_ := Aside0.mk (show hiR16 ≤ w_12.drew.heap.size from UPR16.out)
 have n11_ := Aside0.mk (show hiR20 ≤ w_12.drew.heap.size from UPR20.out)
 have n12_ := Aside0.mk (blk_drew BKgb1.out)
 have n13_ := Aside0.mk (blk_drew BKgb14.out)
 have n14_ := Aside0.mk (show gb1 < w_12.drew.heap.size from GUgb1.out)
 have n15_ := Aside0.mk (show gb14 < w_12.drew.heap.size from GUgb14.out)
 have n16_ := Aside0.mk (below_drew1 HB.out)
 have n17_ := Aside0.mk (below_drew1 HBM.out)
 clear HOR5
 clear HOR7
 clear HOR11
 clear HOR13
 clear HOR16
 clear HOR20
 clear UPR5
 clear UPR7
 clear UPR11
 clear UPR13
 clear UPR16
 clear UPR20
 clear BKgb1
 clear BKgb14
 clear GUgb1
 clear GUgb14
 clear HB
 clear HBM
 have HOR5 := n0_
 have HOR7 := n1_
 have HOR11 := n2_
 have HOR13 := n3_
 have HOR16 := n4_
 have HOR20 := n5_
 have UPR5 := n6_
 have UPR7 := n7_
 have UPR11 := n8_
 have UPR13 := n9_
 have UPR16 := n10_
 have UPR20 := n11_
 have BKgb1 := n12_
 have BKgb14 := n13_
 have GUgb1 := n14_
 have GUgb14 := n15_
 have HB := n16_
 have HBM := n17_
 clear n0_ n1_ n2_ n3_ n4_ n5_ n6_ n7_ n8_ n9_ n10_ n11_ n12_ n13_ n14_ n15_ n16_ n17_
 (try clear hczgb1_0); (try clear hfzgb1_0)
 (try clear hczgb14_0); (try clear hfzgb14_0)
 refine start_ (n := 5) (S := fun w' => w'.cell? ⟨gb14, 0, none⟩ = some (.slice AR13 t12.length cR13) ∧ w'.cell? ⟨gb1, 0, none⟩ = some (.slice A0_0 l0_0.length c0_0)) (ds := []) #[false, false, false, false, false] (by kernel_rfl) rfl rfl ⟨(blk_cell BKgb14.out 0).trans rfl, (blk_cell BKgb1.out 0).trans rfl⟩ (fun hHeld => ?_)
 generalize w_12.drew = w_13 at HOR5 HOR7 HOR11 HOR13 HOR16 HOR20 UPR5 UPR7 UPR11 UPR13 UPR16 UPR20 BKgb1 BKgb14 GUgb1 GUgb14 HB HBM hHeld ⊢
 refine take_ (i := 0) (N := some 64) (v := ?_) (a' := ?_) #[true, false, false, false, false] rfl rfl (by kernel_rfl) (fun _ _ _ h => h) (Or.inl ⟨by rfl, ?_⟩) hHeld ?_ ?_
 rotate_left
 ·rintro w' ⟨s0, s1⟩
  go_simp
  with_reducible rfl
 rotate_left
 ·simp only [Act.put, List.setIfInBounds_toArray, List.set_cons_zero, List.set_cons_succ, i64_w, i32_w]
  rfl
 refine take_ (i := 1) (N := some 65) (v := ?_) (a' := ?_) #[true, true, false, false, false] rfl rfl (by kernel_rfl) (fun _ _ _ h => h) (Or.inl ⟨by rfl, ?_⟩) hHeld ?_ ?_
 rotate_left
 ·rintro w' ⟨s0, s1⟩
  go_simp
  with_reducible rfl
 rotate_left
 ·simp only [Act.put, List.setIfInBounds_toArray, List.set_cons_zero, List.set_cons_succ, i64_w, i32_w]
  rfl
 refine one_ (i := 2) (N := some 66) #[true, true, true, false, false] rfl rfl (by kernel_rfl) (by decide) (fun K hK => ?_)
 refine goes_ Try.func31 (by kernel_rfl) rfl #[.agg #[.slice A0_0 l0_0.length c0_0]] (by rfl) rfl rfl (by (try simp only [List.map_toArray, List.map_cons, List.map_nil]); first | done | rfl) ?_
 (with_reducible refine (laws_toPicture.calls k _ _ l0_0 t22 _ ?side1 ?side2 E15.out).mono ?_)
 (case side1 => exact Kd.C_below HR0_0.out HB.out)
 (case side2 => exact HC0_0.out)
 rintro e w_14 ⟨vR23, rfl, hoR23, hb⟩
 refine ⟨_, rfl, ?_⟩
 obtain ⟨loR23, hloR23⟩ : ∃ n_ : Nat, n_ = w_13.heap.size := ⟨_, rfl⟩
 obtain ⟨hiR23, hhiR23⟩ : ∃ n_ : Nat, n_ = w_14.heap.size := ⟨_, rfl⟩
 have n0_ := Aside0.mk (Kd.S_below HOR5.out hb)
 have n1_ := Aside0.mk (Kd.S_below HOR7.out hb)
 have n2_ := Aside0.mk (Kd.S_below HOR11.out hb)
 have n3_ := Aside0.mk (Kd.S_below HOR13.out hb)
 have n4_ := Aside0.mk (Kd.S_below HOR16.out hb)
 have n5_ := Aside0.mk (Kd.S_below HOR20.out hb)
 have n6_ := Aside0.mk (Nat.le_trans UPR5.out hb.size)
 have n7_ := Aside0.mk (Nat.le_trans UPR7.out hb.size)
 have n8_ := Aside0.mk (Nat.le_trans UPR11.out hb.size)
 have n9_ := Aside0.mk (Nat.le_trans UPR13.out hb.size)
 have n10_ := Aside0.mk (Nat.le_trans UPR16.out hb.size)
 have n11_ := Aside0.mk (Nat.le_trans UPR20.out hb.size)
 have n12_ := Aside0.mk (blk_below (g := gb1) BKgb1.out hb)
 have n13_ := Aside0.mk (blk_below (g := gb14) BKgb14.out hb)
 have n14_ := Aside0.mk (Nat.lt_of_lt_of_le GUgb1.out hb.size)
 have n15_ := Aside0.mk (Nat.lt_of_lt_of_le GUgb14.out hb.size)
 have n16_ := Aside0.mk (below_step HB.out hb)
 have n17_ := Aside0.mk (below_step HBM.out hb)
 have n18_ := Aside0.mk (Kd.S_lower (Kd.S_mono (ok' := fun k_ => loR23 ≤ k_ ∧ k_ < hiR23) (Kd.S_bound hoR23) (fun k_ hk_ => ⟨by rw [hloR23]; exact hk_.2.1, by rw [hhiR23]; exact hk_.2.2.1⟩)) (below_size HBM.out))
 have n19_ := Aside0.mk (by rw [hhiR23]; exact Nat.le_refl _ : hiR23 ≤ w_14.heap.size)
 have n20_ := Aside0.mk (fun k_ h1_ h2_ => by have := UPR5.out; rw [← hloR23] at this; omega : ∀ k_, loR5 ≤ k_ ∧ k_ < hiR5 → ¬ (loR23 ≤ k_ ∧ k_ < hiR23))
 have n21_ := Aside0.mk (fun k_ h1_ h2_ => by have := UPR5.out; rw [← hloR23] at this; omega : ∀ k_, loR23 ≤ k_ ∧ k_ < hiR23 → ¬ (loR5 ≤ k_ ∧ k_ < hiR5))
 have n22_ := Aside0.mk (fun k_ h1_ h2_ => by have := UPR7.out; rw [← hloR23] at this; omega : ∀ k_, loR7 ≤ k_ ∧ k_ < hiR7 → ¬ (loR23 ≤ k_ ∧ k_ < hiR23))
 have n23_ := Aside0.mk (fun k_ h1_ h2_ => by have := UPR7.out; rw [← hloR23] at this; omega : ∀ k_, loR23 ≤ k_ ∧ k_ < hiR23 → ¬ (loR7 ≤ k_ ∧ k_ < hiR7))
 have n24_ := Aside0.mk (fun k_ h1_ h2_ => by have := UPR11.out; rw [← hloR23] at this; omega : ∀ k_, loR11 ≤ k_ ∧ k_ < hiR11 → ¬ (loR23 ≤ k_ ∧ k_ < hiR23))
 have n25_ := Aside0.mk (fun k_ h1_ h2_ => by have := UPR11.out; rw [← hloR23] at this; omega : ∀ k_, loR23 ≤ k_ ∧ k_ < hiR23 → ¬ (loR11 ≤ k_ ∧ k_ < hiR11))
 have n26_ := Aside0.mk (fun k_ h1_ h2_ => by have := UPR13.out; rw [← hloR23] at this; omega : ∀ k_, loR13 ≤ k_ ∧ k_ < hiR13 → ¬ (loR23 ≤ k_ ∧ k_ < hiR23))
 have n27_ := Aside0.mk (fun k_ h1_ h2_ => by have := UPR13.out; rw [← hloR23] at this; omega : ∀ k_, loR23 ≤ k_ ∧ k_ < hiR23 → ¬ (loR13 ≤ k_ ∧ k_ < hiR13))
 have n28_ := Aside0.mk (fun k_ h1_ h2_ => by have := UPR16.out; rw [← hloR23] at this; omega : ∀ k_, loR16 ≤ k_ ∧ k_ < hiR16 → ¬ (loR23 ≤ k_ ∧ k_ < hiR23))
 have n29_ := Aside0.mk (fun k_ h1_ h2_ => by have := UPR16.out; rw [← hloR23] at this; omega : ∀ k_, loR23 ≤ k_ ∧ k_ < hiR23 → ¬ (loR16 ≤ k_ ∧ k_ < hiR16))
 have n30_ := Aside0.mk (fun k_ h1_ h2_ => by have := UPR20.out; rw [← hloR23] at this; omega : ∀ k_, loR20 ≤ k_ ∧ k_ < hiR20 → ¬ (loR23 ≤ k_ ∧ k_ < hiR23))
 have n31_ := Aside0.mk (fun k_ h1_ h2_ => by have := UPR20.out; rw [← hloR23] at this; omega : ∀ k_, loR23 ≤ k_ ∧ k_ < hiR23 → ¬ (loR20 ≤ k_ ∧ k_ < hiR20))
 have n32_ := Aside0.mk (fun k_ hk_ => by have := GUgb1.out; rw [← hloR23] at this; omega : ∀ k_, loR23 ≤ k_ ∧ k_ < hiR23 → k_ ≠ gb1)
 have n33_ := Aside0.mk (fun k_ hk_ => by have := GUgb14.out; rw [← hloR23] at this; omega : ∀ k_, loR23 ≤ k_ ∧ k_ < hiR23 → k_ ≠ gb14)
 clear HOR5
 clear HOR7
 clear HOR11
 clear HOR13
 clear HOR16
 clear HOR20
 clear UPR5
 clear UPR7
 clear UPR11
 clear UPR13
 clear UPR16
 clear UPR20
 clear BKgb1
 clear BKgb14
 clear GUgb1
 clear GUgb14
 clear HB
 clear HBM
 have HOR5 := n0_
 have HOR7 := n1_
 have HOR11 := n2_
 have HOR13 := n3_
 have HOR16 := n4_
 have HOR20 := n5_
 have UPR5 := n6_
 have UPR7 := n7_
 have UPR11 := n8_
 have UPR13 := n9_
 have UPR16 := n10_
 have UPR20 := n11_
 have BKgb1 := n12_
 have BKgb14 := n13_
 have GUgb1 := n14_
 have GUgb14 := n15_
 have HB := n16_
 have HBM := n17_
 have HOR23 := n18_
 have UPR23 := n19_
 have NRR5_R23 := n20_
 have NRR23_R5 := n21_
 have NRR7_R23 := n22_
 have NRR23_R7 := n23_
 have NRR11_R23 := n24_
 have NRR23_R11 := n25_
 have NRR13_R23 := n26_
 have NRR23_R13 := n27_
 have NRR16_R23 := n28_
 have NRR23_R16 := n29_
 have NRR20_R23 := n30_
 have NRR23_R20 := n31_
 have NER23_gb1 := n32_
 have NER23_gb14 := n33_
 clear n0_ n1_ n2_ n3_ n4_ n5_ n6_ n7_ n8_ n9_ n10_ n11_ n12_ n13_ n14_ n15_ n16_ n17_ n18_ n19_ n20_ n21_ n22_ n23_ n24_ n25_ n26_ n27_ n28_ n29_ n30_ n31_ n32_ n33_
 clear hb
 clear hoR23 hloR23 hhiR23
 obtain ⟨AR23, cR23, eqR23⟩ := Kd.S_slice HOR23.out
 subst eqR23
 refine hK.out _ _ ⟨(blk_cell BKgb14.out 0).trans rfl, (blk_cell BKgb1.out 0).trans rfl⟩ (fun hHeld => ?_)
 clear hK K
 refine norm_ (a' := ?_) ?_ ?_
 rotate_left
 ·show Act.put _ (some 66) _ = _
  simp only [Act.put, List.setIfInBounds_toArray, List.set_cons_zero, List.set_cons_succ, i64_w, i32_w]
  rfl
 refine one_ (i := 3) (N := some 67) #[true, true, true, true, false] rfl rfl (by kernel_rfl) (by decide) (fun K hK => ?_)
 refine goes_ Try.func33 (by kernel_rfl) rfl #[.agg #[.slice AR13 t12.length cR13], .agg #[.slice AR23 t22.length cR23]] (by rfl) rfl rfl (by (try simp only [List.map_toArray, List.map_cons, List.map_nil]); first | done | rfl) ?_
 (with_reducible refine (laws_eqPicture.calls k _ _ t12 _ _ t22 true _ ?side1 ?side2 ?side3 ?side4 E16.out).mono ?_)
 (case side1 => exact (Kd.S_reads' HOR13.out).2.2)
 (case side2 => exact (Kd.S_reads' HOR13.out).2.1)
 (case side3 => exact (Kd.S_reads' HOR23.out).2.2)
 (case side4 => exact (Kd.S_reads' HOR23.out).2.1)
 rintro e w_15 ⟨rfl, hb⟩
 refine ⟨_, rfl, ?_⟩
 have n0_ := Aside0.mk (Kd.S_below HOR5.out hb)
 have n1_ := Aside0.mk (Kd.S_below HOR7.out hb)
 have n2_ := Aside0.mk (Kd.S_below HOR11.out hb)
 have n3_ := Aside0.mk (Kd.S_below HOR13.out hb)
 have n4_ := Aside0.mk (Kd.S_below HOR16.out hb)
 have n5_ := Aside0.mk (Kd.S_below HOR20.out hb)
 have n6_ := Aside0.mk (Kd.S_below HOR23.out hb)
 have n7_ := Aside0.mk (Nat.le_trans UPR5.out hb.size)
 have n8_ := Aside0.mk (Nat.le_trans UPR7.out hb.size)
 have n9_ := Aside0.mk (Nat.le_trans UPR11.out hb.size)
 have n10_ := Aside0.mk (Nat.le_trans UPR13.out hb.size)
 have n11_ := Aside0.mk (Nat.le_trans UPR16.out hb.size)
 have n12_ := Aside0.mk (Nat.le_trans UPR20.out hb.size)
 have n13_ := Aside0.mk (Nat.le_trans UPR23.out hb.size)
 have n14_ := Aside0.mk (blk_below (g := gb1) BKgb1.out hb)
 have n15_ := Aside0.mk (blk_below (g := gb14) BKgb14.out hb)
 have n16_ := Aside0.mk (Nat.lt_of_lt_of_le GUgb1.out hb.size)
 have n17_ := Aside0.mk (Nat.lt_of_lt_of_le GUgb14.out hb.size)
 have n18_ := Aside0.mk (below_step HB.out hb)
 have n19_ := Aside0.mk (below_step HBM.out hb)
 clear HOR5
 clear HOR7
 clear HOR11
 clear HOR13
 clear HOR16
 clear HOR20
 clear HOR23
 clear UPR5
 clear UPR7
 clear UPR11
 clear UPR13
 clear UPR16
 clear UPR20
 clear UPR23
 clear BKgb1
 clear BKgb14
 clear GUgb1
 clear GUgb14
 clear HB
 clear HBM
 have HOR5 := n0_
 have HOR7 := n1_
 have HOR11 := n2_
 have HOR13 := n3_
 have HOR16 := n4_
 have HOR20 := n5_
 have HOR23 := n6_
 have UPR5 := n7_
 have UPR7 := n8_
 have UPR11 := n9_
 have UPR13 := n10_
 have UPR16 := n11_
 have UPR20 := n12_
 have UPR23 := n13_
 have BKgb1 := n14_
 have BKgb14 := n15_
 have GUgb1 := n16_
 have GUgb14 := n17_
 have HB := n18_
 have HBM := n19_
 clear n0_ n1_ n2_ n3_ n4_ n5_ n6_ n7_ n8_ n9_ n10_ n11_ n12_ n13_ n14_ n15_ n16_ n17_ n18_ n19_
 clear hb
 refine hK.out _ _ ⟨(blk_cell BKgb14.out 0).trans rfl, (blk_cell BKgb1.out 0).trans rfl⟩ (fun hHeld => ?_)
 clear hK K
 refine norm_ (a' := ?_) ?_ ?_
 rotate_left
 ·show Act.put _ (some 67) _ = _
  simp only [Act.put, List.setIfInBounds_toArray, List.set_cons_zero, List.set_cons_succ, i64_w, i32_w]
  rfl
 refine pure_ (i := 4) (N := some 68) (v := ?_) (a' := ?_) #[true, true, true, true, true] rfl rfl (by kernel_rfl) (fun _ _ _ h => h) (Or.inl ⟨by rfl, ?_⟩) ?_ ?_
 rotate_left
 ·intro w'
  go_simp
  with_reducible rfl
 rotate_left
 ·simp only [Act.put, List.setIfInBounds_toArray, List.set_cons_zero, List.set_cons_succ, i64_w, i32_w]
  rfl
 refine done_ (by kernel_rfl) ?_
 (try clear hczgb1_0)
 (try clear hfzgb1_0)
 (try clear hczgb14_0)
 (try clear hfzgb14_0)
 have hczgb1_0 : w_15.cell? ⟨gb1, 0, none⟩ = some (.slice A0_0 l0_0.length c0_0) := (blk_cell BKgb1.out 0).trans rfl
 have hfzgb1_0 := blk_frozen BKgb1.out 0
 have hczgb14_0 : w_15.cell? ⟨gb14, 0, none⟩ = some (.slice AR13 t12.length cR13) := (blk_cell BKgb14.out 0).trans rfl
 have hfzgb14_0 := blk_frozen BKgb14.out 0
 go_wp2_with (first | ((with_reducible refine gate_callee (f := 36) rfl ?_); refine goesL_ (some 71) rfl rfl Try.func36 (by kernel_rfl) rfl #[.slice A1 l1.length c1] rfl (by (try simp only [List.map_toArray, List.map_cons, List.map_nil]); first | done | rfl) ?_; (with_reducible refine (laws_toInt64SS.calls k _ _ l1 t25 _ ?side1 ?side2 E18.out).mono ?_); (case side1 => exact Kd.C_below HR1.out HB.out); (case side2 => exact HC1.out); rintro e w_16 ⟨vR26, rfl, hoR26, hb⟩; refine ⟨_, rfl, ?_⟩; obtain ⟨loR26, hloR26⟩ : ∃ n_ : Nat, n_ = w_15.heap.size := ⟨_, rfl⟩; obtain ⟨hiR26, hhiR26⟩ : ∃ n_ : Nat, n_ = w_16.heap.size := ⟨_, rfl⟩; have n0_ := Aside0.mk (Kd.S_below HOR5.out hb); have n1_ := Aside0.mk (Kd.S_below HOR7.out hb); have n2_ := Aside0.mk (Kd.S_below HOR11.out hb); have n3_ := Aside0.mk (Kd.S_below HOR13.out hb); have n4_ := Aside0.mk (Kd.S_below HOR16.out hb); have n5_ := Aside0.mk (Kd.S_below HOR20.out hb); have n6_ := Aside0.mk (Kd.S_below HOR23.out hb); have n7_ := Aside0.mk (Nat.le_trans UPR5.out hb.size); have n8_ := Aside0.mk (Nat.le_trans UPR7.out hb.size); have n9_ := Aside0.mk (Nat.le_trans UPR11.out hb.size); have n10_ := Aside0.mk (Nat.le_trans UPR13.out hb.size); have n11_ := Aside0.mk (Nat.le_trans UPR16.out hb.size); have n12_ := Aside0.mk (Nat.le_trans UPR20.out hb.size); have n13_ := Aside0.mk (Nat.le_trans UPR23.out hb.size); have n14_ := Aside0.mk (blk_below (g := gb1) BKgb1.out hb); have n15_ := Aside0.mk (blk_below (g := gb14) BKgb14.out hb); have n16_ := Aside0.mk (Nat.lt_of_lt_of_le GUgb1.out hb.size); have n17_ := Aside0.mk (Nat.lt_of_lt_of_le GUgb14.out hb.size); have n18_ := Aside0.mk (below_step HB.out hb); have n19_ := Aside0.mk (below_step HBM.out hb); have n20_ := Aside0.mk (Kd.S_lower (Kd.S_mono (ok' := fun k_ => loR26 ≤ k_ ∧ k_ < hiR26) (Kd.S_bound hoR26) (fun k_ hk_ => ⟨by rw [hloR26]; exact hk_.2.1, by rw [hhiR26]; exact hk_.2.2.1⟩)) (below_size HBM.out)); have n21_ := Aside0.mk (by rw [hhiR26]; exact Nat.le_refl _ : hiR26 ≤ w_16.heap.size); have n22_ := Aside0.mk (fun k_ h1_ h2_ => by have := UPR5.out; rw [← hloR26] at this; omega : ∀ k_, loR5 ≤ k_ ∧ k_ < hiR5 → ¬ (loR26 ≤ k_ ∧ k_ < hiR26)); have n23_ := Aside0.mk (fun k_ h1_ h2_ => by have := UPR5.out; rw [← hloR26] at this; omega : ∀ k_, loR26 ≤ k_ ∧ k_ < hiR26 → ¬ (loR5 ≤ k_ ∧ k_ < hiR5)); have n24_ := Aside0.mk (fun k_ h1_ h2_ => by have := UPR7.out; rw [← hloR26] at this; omega : ∀ k_, loR7 ≤ k_ ∧ k_ < hiR7 → ¬ (loR26 ≤ k_ ∧ k_ < hiR26)); have n25_ := Aside0.mk (fun k_ h1_ h2_ => by have := UPR7.out; rw [← hloR26] at this; omega : ∀ k_, loR26 ≤ k_ ∧ k_ < hiR26 → ¬ (loR7 ≤ k_ ∧ k_ < hiR7)); have n26_ := Aside0.mk (fun k_ h1_ h2_ => by have := UPR11.out; rw [← hloR26] at this; omega : ∀ k_, loR11 ≤ k_ ∧ k_ < hiR11 → ¬ (loR26 ≤ k_ ∧ k_ < hiR26)); have n27_ := Aside0.mk (fun k_ h1_ h2_ => by have := UPR11.out; rw [← hloR26] at this; omega : ∀ k_, loR26 ≤ k_ ∧ k_ < hiR26 → ¬ (loR11 ≤ k_ ∧ k_ < hiR11)); have n28_ := Aside0.mk (fun k_ h1_ h2_ => by have := UPR13.out; rw [← hloR26] at this; omega : ∀ k_, loR13 ≤ k_ ∧ k_ < hiR13 → ¬ (loR26 ≤ k_ ∧ k_ < hiR26)); have n29_ := Aside0.mk (fun k_ h1_ h2_ => by have := UPR13.out; rw [← hloR26] at this; omega : ∀ k_, loR26 ≤ k_ ∧ k_ < hiR26 → ¬ (loR13 ≤ k_ ∧ k_ < hiR13)); have n30_ := Aside0.mk (fun k_ h1_ h2_ => by have := UPR16.out; rw [← hloR26] at this; omega : ∀ k_, loR16 ≤ k_ ∧ k_ < hiR16 → ¬ (loR26 ≤ k_ ∧ k_ < hiR26)); have n31_ := Aside0.mk (fun k_ h1_ h2_ => by have := UPR16.out; rw [← hloR26] at this; omega : ∀ k_, loR26 ≤ k_ ∧ k_ < hiR26 → ¬ (loR16 ≤ k_ ∧ k_ < hiR16)); have n32_ := Aside0.mk (fun k_ h1_ h2_ => by have := UPR20.out; rw [← hloR26] at this; omega : ∀ k_, loR20 ≤ k_ ∧ k_ < hiR20 → ¬ (loR26 ≤ k_ ∧ k_ < hiR26)); have n33_ := Aside0.mk (fun k_ h1_ h2_ => by have := UPR20.out; rw [← hloR26] at this; omega : ∀ k_, loR26 ≤ k_ ∧ k_ < hiR26 → ¬ (loR20 ≤ k_ ∧ k_ < hiR20)); have n34_ := Aside0.mk (fun k_ h1_ h2_ => by have := UPR23.out; rw [← hloR26] at this; omega : ∀ k_, loR23 ≤ k_ ∧ k_ < hiR23 → ¬ (loR26 ≤ k_ ∧ k_ < hiR26)); have n35_ := Aside0.mk (fun k_ h1_ h2_ => by have := UPR23.out; rw [← hloR26] at this; omega : ∀ k_, loR26 ≤ k_ ∧ k_ < hiR26 → ¬ (loR23 ≤ k_ ∧ k_ < hiR23)); have n36_ := Aside0.mk (fun k_ hk_ => by have := GUgb1.out; rw [← hloR26] at this; omega : ∀ k_, loR26 ≤ k_ ∧ k_ < hiR26 → k_ ≠ gb1); have n37_ := Aside0.mk (fun k_ hk_ => by have := GUgb14.out; rw [← hloR26] at this; omega : ∀ k_, loR26 ≤ k_ ∧ k_ < hiR26 → k_ ≠ gb14); clear HOR5; clear HOR7; clear HOR11; clear HOR13; clear HOR16; clear HOR20; clear HOR23; clear UPR5; clear UPR7; clear UPR11; clear UPR13; clear UPR16; clear UPR20; clear UPR23; clear BKgb1; clear BKgb14; clear GUgb1; clear GUgb14; clear HB; clear HBM; have HOR5 := n0_; have HOR7 := n1_; have HOR11 := n2_; have HOR13 := n3_; have HOR16 := n4_; have HOR20 := n5_; have HOR23 := n6_; have UPR5 := n7_; have UPR7 := n8_; have UPR11 := n9_; have UPR13 := n10_; have UPR16 := n11_; have UPR20 := n12_; have UPR23 := n13_; have BKgb1 := n14_; have BKgb14 := n15_; have GUgb1 := n16_; have GUgb14 := n17_; have HB := n18_; have HBM := n19_; have HOR26 := n20_; have UPR26 := n21_; have NRR5_R26 := n22_; have NRR26_R5 := n23_; have NRR7_R26 := n24_; have NRR26_R7 := n25_; have NRR11_R26 := n26_; have NRR26_R11 := n27_; have NRR13_R26 := n28_; have NRR26_R13 := n29_; have NRR16_R26 := n30_; have NRR26_R16 := n31_; have NRR20_R26 := n32_; have NRR26_R20 := n33_; have NRR23_R26 := n34_; have NRR26_R23 := n35_; have NER26_gb1 := n36_; have NER26_gb14 := n37_; clear n0_ n1_ n2_ n3_ n4_ n5_ n6_ n7_ n8_ n9_ n10_ n11_ n12_ n13_ n14_ n15_ n16_ n17_ n18_ n19_ n20_ n21_ n22_ n23_ n24_ n25_ n26_ n27_ n28_ n29_ n30_ n31_ n32_ n33_ n34_ n35_ n36_ n37_; clear hb; clear hoR26 hloR26 hhiR26; obtain ⟨AR26, cR26, eqR26⟩ := Kd.S_slice HOR26.out; subst eqR26; (try clear hczgb1_0); (try clear hfzgb1_0); (try clear hczgb14_0); (try clear hfzgb14_0); have hczgb1_0 : w_16.cell? ⟨gb1, 0, none⟩ = some (.slice A0_0 l0_0.length c0_0) := (blk_cell BKgb1.out 0).trans rfl; have hfzgb1_0 := blk_frozen BKgb1.out 0; have hczgb14_0 : w_16.cell? ⟨gb14, 0, none⟩ = some (.slice AR13 t12.length cR13) := (blk_cell BKgb14.out 0).trans rfl; have hfzgb14_0 := blk_frozen BKgb14.out 0) | ((with_reducible refine gate_callee (f := 26) rfl ?_); refine goesL_ (some 72) rfl rfl Try.func26 (by kernel_rfl) rfl #[.slice AR16 t15.length cR16, .slice AR26 t25.length cR26] rfl (by (try simp only [List.map_toArray, List.map_cons, List.map_nil]); first | done | rfl) ?_; (with_reducible refine (laws_eqInt64SS.calls k _ _ t15 _ _ t25 true _ ?side1 ?side2 ?side3 ?side4 E19.out).mono ?_); (case side1 => exact (Kd.S_reads' HOR16.out).2.2); (case side2 => exact (Kd.S_reads' HOR16.out).2.1); (case side3 => exact (Kd.S_reads' HOR26.out).2.2); (case side4 => exact (Kd.S_reads' HOR26.out).2.1); rintro e w_17 ⟨rfl, hd⟩; have hb := Drawn0.below hd; refine ⟨_, rfl, ?_⟩; have n0_ := Aside0.mk (Kd.S_below HOR5.out hb); have n1_ := Aside0.mk (Kd.S_below HOR7.out hb); have n2_ := Aside0.mk (Kd.S_below HOR11.out hb); have n3_ := Aside0.mk (Kd.S_below HOR13.out hb); have n4_ := Aside0.mk (Kd.S_below HOR16.out hb); have n5_ := Aside0.mk (Kd.S_below HOR20.out hb); have n6_ := Aside0.mk (Kd.S_below HOR23.out hb); have n7_ := Aside0.mk (Kd.S_below HOR26.out hb); have n8_ := Aside0.mk (Nat.le_trans UPR5.out hb.size); have n9_ := Aside0.mk (Nat.le_trans UPR7.out hb.size); have n10_ := Aside0.mk (Nat.le_trans UPR11.out hb.size); have n11_ := Aside0.mk (Nat.le_trans UPR13.out hb.size); have n12_ := Aside0.mk (Nat.le_trans UPR16.out hb.size); have n13_ := Aside0.mk (Nat.le_trans UPR20.out hb.size); have n14_ := Aside0.mk (Nat.le_trans UPR23.out hb.size); have n15_ := Aside0.mk (Nat.le_trans UPR26.out hb.size); have n16_ := Aside0.mk (blk_below (g := gb1) BKgb1.out hb); have n17_ := Aside0.mk (blk_below (g := gb14) BKgb14.out hb); have n18_ := Aside0.mk (Nat.lt_of_lt_of_le GUgb1.out hb.size); have n19_ := Aside0.mk (Nat.lt_of_lt_of_le GUgb14.out hb.size); have n20_ := Aside0.mk (below_step HB.out hb); have n21_ := Aside0.mk (below_step HBM.out hb); clear HOR5; clear HOR7; clear HOR11; clear HOR13; clear HOR16; clear HOR20; clear HOR23; clear HOR26; clear UPR5; clear UPR7; clear UPR11; clear UPR13; clear UPR16; clear UPR20; clear UPR23; clear UPR26; clear BKgb1; clear BKgb14; clear GUgb1; clear GUgb14; clear HB; clear HBM; have HOR5 := n0_; have HOR7 := n1_; have HOR11 := n2_; have HOR13 := n3_; have HOR16 := n4_; have HOR20 := n5_; have HOR23 := n6_; have HOR26 := n7_; have UPR5 := n8_; have UPR7 := n9_; have UPR11 := n10_; have UPR13 := n11_; have UPR16 := n12_; have UPR20 := n13_; have UPR23 := n14_; have UPR26 := n15_; have BKgb1 := n16_; have BKgb14 := n17_; have GUgb1 := n18_; have GUgb14 := n19_; have HB := n20_; have HBM := n21_; clear n0_ n1_ n2_ n3_ n4_ n5_ n6_ n7_ n8_ n9_ n10_ n11_ n12_ n13_ n14_ n15_ n16_ n17_ n18_ n19_ n20_ n21_; clear hb; clear hd; (try clear hczgb1_0); (try clear hfzgb1_0); (try clear hczgb14_0); (try clear hfzgb14_0); have hczgb1_0 : w_17.cell? ⟨gb1, 0, none⟩ = some (.slice A0_0 l0_0.length c0_0) := (blk_cell BKgb1.out 0).trans rfl; have hfzgb1_0 := blk_frozen BKgb1.out 0; have hczgb14_0 : w_17.cell? ⟨gb14, 0, none⟩ = some (.slice AR13 t12.length cR13) := (blk_cell BKgb14.out 0).trans rfl; have hfzgb14_0 := blk_frozen BKgb14.out 0) | ((with_reducible refine gate_callee (f := 46) rfl ?_); refine goesL_ (some 76) rfl rfl Try.func46 (by kernel_rfl) rfl #[.agg #[.slice AR13 t12.length cR13], .int .i64 1] rfl (by (try simp only [List.map_toArray, List.map_cons, List.map_nil]); first | done | rfl) ?_; (with_reducible refine (laws_markPicture.calls k (fun k_ => loR13 ≤ k_ ∧ k_ < hiR13) _ t12 1 t28 t29 w_6 _ ?side1 ?side2 E21.out).mono ?_); (case side1 => exact HBM.out); (case side2 => exact HOR13.out); rintro e w_18 ⟨rfl, hy, hb, hkp⟩; refine ⟨_, rfl, ?_⟩; have n0_ := Aside0.mk (Kd.S_kept HOR5.out hkp NRR5_R13.out); have n1_ := Aside0.mk (Nat.le_trans UPR5.out hkp.1); have n2_ := Aside0.mk (Kd.S_kept HOR7.out hkp NRR7_R13.out); have n3_ := Aside0.mk (Nat.le_trans UPR7.out hkp.1); have n4_ := Aside0.mk (Kd.S_kept HOR11.out hkp NRR11_R13.out); have n5_ := Aside0.mk (Nat.le_trans UPR11.out hkp.1); have n6_ := Aside0.mk (hy); have n7_ := Aside0.mk (Nat.le_trans UPR13.out hkp.1); have n8_ := Aside0.mk (Kd.S_kept HOR16.out hkp NRR16_R13.out); have n9_ := Aside0.mk (Nat.le_trans UPR16.out hkp.1); have n10_ := Aside0.mk (Kd.S_kept HOR20.out hkp NRR20_R13.out); have n11_ := Aside0.mk (Nat.le_trans UPR20.out hkp.1); have n12_ := Aside0.mk (Kd.S_kept HOR23.out hkp NRR23_R13.out); have n13_ := Aside0.mk (Nat.le_trans UPR23.out hkp.1); have n14_ := Aside0.mk (Kd.S_kept HOR26.out hkp NRR26_R13.out); have n15_ := Aside0.mk (Nat.le_trans UPR26.out hkp.1); have n16_ := Aside0.mk (blk_kept (g := gb1) BKgb1.out hkp (fun h_ => NER13_gb1.out _ h_ rfl)); have n17_ := Aside0.mk (Nat.lt_of_lt_of_le GUgb1.out hkp.1); have n18_ := Aside0.mk (blk_kept (g := gb14) BKgb14.out hkp (fun h_ => NER13_gb14.out _ h_ rfl)); have n19_ := Aside0.mk (Nat.lt_of_lt_of_le GUgb14.out hkp.1); have n20_ := Aside0.mk (below_step HWM.out hb); have n21_ := Aside0.mk (hb); clear HOR5; clear UPR5; clear HOR7; clear UPR7; clear HOR11; clear UPR11; clear HOR13; clear UPR13; clear HOR16; clear UPR16; clear HOR20; clear UPR20; clear HOR23; clear UPR23; clear HOR26; clear UPR26; clear BKgb1; clear GUgb1; clear BKgb14; clear GUgb14; clear HB; clear HBM; have HOR5 := n0_; have UPR5 := n1_; have HOR7 := n2_; have UPR7 := n3_; have HOR11 := n4_; have UPR11 := n5_; have HOR13 := n6_; have UPR13 := n7_; have HOR16 := n8_; have UPR16 := n9_; have HOR20 := n10_; have UPR20 := n11_; have HOR23 := n12_; have UPR23 := n13_; have HOR26 := n14_; have UPR26 := n15_; have BKgb1 := n16_; have GUgb1 := n17_; have BKgb14 := n18_; have GUgb14 := n19_; have HB := n20_; have HBM := n21_; clear n0_ n1_ n2_ n3_ n4_ n5_ n6_ n7_ n8_ n9_ n10_ n11_ n12_ n13_ n14_ n15_ n16_ n17_ n18_ n19_ n20_ n21_; clear hy hb hkp; (try clear hczgb1_0); (try clear hfzgb1_0); (try clear hczgb14_0); (try clear hfzgb14_0); have hczgb1_0 : w_18.cell? ⟨gb1, 0, none⟩ = some (.slice A0_0 l0_0.length c0_0) := (blk_cell BKgb1.out 0).trans rfl; have hfzgb1_0 := blk_frozen BKgb1.out 0; have hczgb14_0 : w_18.cell? ⟨gb14, 0, none⟩ = some (.slice AR13 t12.length cR13) := (blk_cell BKgb14.out 0).trans rfl; have hfzgb14_0 := blk_frozen BKgb14.out 0) | ((with_reducible refine gate_callee (f := 27) rfl ?_); refine goesL_ (some 79) rfl rfl Try.func27 (by kernel_rfl) rfl #[.slice AR16 t15.length cR16, .int .i64 t28] rfl (by (try simp only [List.map_toArray, List.map_cons, List.map_nil]); first | done | rfl) ?_; (with_reducible refine (laws_markInt64SS.calls k (fun k_ => loR16 ≤ k_ ∧ k_ < hiR16) _ t15 t28 t30 t31 w_6 _ ?side1 ?side2 E22.out).mono ?_); (case side1 => exact HBM.out); (case side2 => exact HOR16.out); rintro e w_19 ⟨rfl, hy, hb, hkp⟩; refine ⟨_, rfl, ?_⟩; have n0_ := Aside0.mk (Kd.S_kept HOR5.out hkp NRR5_R16.out); have n1_ := Aside0.mk (Nat.le_trans UPR5.out hkp.1); have n2_ := Aside0.mk (Kd.S_kept HOR7.out hkp NRR7_R16.out); have n3_ := Aside0.mk (Nat.le_trans UPR7.out hkp.1); have n4_ := Aside0.mk (Kd.S_kept HOR11.out hkp NRR11_R16.out); have n5_ := Aside0.mk (Nat.le_trans UPR11.out hkp.1); have n6_ := Aside0.mk (Kd.S_kept HOR13.out hkp NRR13_R16.out); have n7_ := Aside0.mk (Nat.le_trans UPR13.out hkp.1); have n8_ := Aside0.mk (hy); have n9_ := Aside0.mk (Nat.le_trans UPR16.out hkp.1); have n10_ := Aside0.mk (Kd.S_kept HOR20.out hkp NRR20_R16.out); have n11_ := Aside0.mk (Nat.le_trans UPR20.out hkp.1); have n12_ := Aside0.mk (Kd.S_kept HOR23.out hkp NRR23_R16.out); have n13_ := Aside0.mk (Nat.le_trans UPR23.out hkp.1); have n14_ := Aside0.mk (Kd.S_kept HOR26.out hkp NRR26_R16.out); have n15_ := Aside0.mk (Nat.le_trans UPR26.out hkp.1); have n16_ := Aside0.mk (blk_kept (g := gb1) BKgb1.out hkp (fun h_ => NER16_gb1.out _ h_ rfl)); have n17_ := Aside0.mk (Nat.lt_of_lt_of_le GUgb1.out hkp.1); have n18_ := Aside0.mk (blk_kept (g := gb14) BKgb14.out hkp (fun h_ => NER16_gb14.out _ h_ rfl)); have n19_ := Aside0.mk (Nat.lt_of_lt_of_le GUgb14.out hkp.1); have n20_ := Aside0.mk (below_step HWM.out hb); have n21_ := Aside0.mk (hb); clear HOR5; clear UPR5; clear HOR7; clear UPR7; clear HOR11; clear UPR11; clear HOR13; clear UPR13; clear HOR16; clear UPR16; clear HOR20; clear UPR20; clear HOR23; clear UPR23; clear HOR26; clear UPR26; clear BKgb1; clear GUgb1; clear BKgb14; clear GUgb14; clear HB; clear HBM; have HOR5 := n0_; have UPR5 := n1_; have HOR7 := n2_; have UPR7 := n3_; have HOR11 := n4_; have UPR11 := n5_; have HOR13 := n6_; have UPR13 := n7_; have HOR16 := n8_; have UPR16 := n9_; have HOR20 := n10_; have UPR20 := n11_; have HOR23 := n12_; have UPR23 := n13_; have HOR26 := n14_; have UPR26 := n15_; have BKgb1 := n16_; have GUgb1 := n17_; have BKgb14 := n18_; have GUgb14 := n19_; have HB := n20_; have HBM := n21_; clear n0_ n1_ n2_ n3_ n4_ n5_ n6_ n7_ n8_ n9_ n10_ n11_ n12_ n13_ n14_ n15_ n16_ n17_ n18_ n19_ n20_ n21_; clear hy hb hkp; (try clear hczgb1_0); (try clear hfzgb1_0); (try clear hczgb14_0); (try clear hfzgb14_0); have hczgb1_0 : w_19.cell? ⟨gb1, 0, none⟩ = some (.slice A0_0 l0_0.length c0_0) := (blk_cell BKgb1.out 0).trans rfl; have hfzgb1_0 := blk_frozen BKgb1.out 0; have hczgb14_0 : w_19.cell? ⟨gb14, 0, none⟩ = some (.slice AR13 t12.length cR13) := (blk_cell BKgb14.out 0).trans rfl; have hfzgb14_0 := blk_frozen BKgb14.out 0) | (go_at_call 26; (with_reducible refine (laws_eqInt64SS.calls k _ _ t17 _ _ t8 true _ ?side1 ?side2 ?side3 ?side4 E24.out).mono ?_); (case side1 => exact (Kd.S_reads' HOR20.out).2.2); (case side2 => exact (Kd.S_reads' HOR20.out).2.1); (case side3 => exact (Kd.S_reads' HOR11.out).2.2); (case side4 => exact (Kd.S_reads' HOR11.out).2.1); rintro e w_20 ⟨rfl, hd⟩; have hb := Drawn0.below hd; have n0_ := Aside0.mk (Kd.S_below HOR5.out hb); have n1_ := Aside0.mk (Kd.S_below HOR7.out hb); have n2_ := Aside0.mk (Kd.S_below HOR11.out hb); have n3_ := Aside0.mk (Kd.S_below HOR13.out hb); have n4_ := Aside0.mk (Kd.S_below HOR16.out hb); have n5_ := Aside0.mk (Kd.S_below HOR20.out hb); have n6_ := Aside0.mk (Kd.S_below HOR23.out hb); have n7_ := Aside0.mk (Kd.S_below HOR26.out hb); have n8_ := Aside0.mk (Nat.le_trans UPR5.out hb.size); have n9_ := Aside0.mk (Nat.le_trans UPR7.out hb.size); have n10_ := Aside0.mk (Nat.le_trans UPR11.out hb.size); have n11_ := Aside0.mk (Nat.le_trans UPR13.out hb.size); have n12_ := Aside0.mk (Nat.le_trans UPR16.out hb.size); have n13_ := Aside0.mk (Nat.le_trans UPR20.out hb.size); have n14_ := Aside0.mk (Nat.le_trans UPR23.out hb.size); have n15_ := Aside0.mk (Nat.le_trans UPR26.out hb.size); have n16_ := Aside0.mk (blk_below (g := gb1) BKgb1.out hb); have n17_ := Aside0.mk (blk_below (g := gb14) BKgb14.out hb); have n18_ := Aside0.mk (Nat.lt_of_lt_of_le GUgb1.out hb.size); have n19_ := Aside0.mk (Nat.lt_of_lt_of_le GUgb14.out hb.size); have n20_ := Aside0.mk (below_step HB.out hb); have n21_ := Aside0.mk (below_step HBM.out hb); clear HOR5; clear HOR7; clear HOR11; clear HOR13; clear HOR16; clear HOR20; clear HOR23; clear HOR26; clear UPR5; clear UPR7; clear UPR11; clear UPR13; clear UPR16; clear UPR20; clear UPR23; clear UPR26; clear BKgb1; clear BKgb14; clear GUgb1; clear GUgb14; clear HB; clear HBM; have HOR5 := n0_; have HOR7 := n1_; have HOR11 := n2_; have HOR13 := n3_; have HOR16 := n4_; have HOR20 := n5_; have HOR23 := n6_; have HOR26 := n7_; have UPR5 := n8_; have UPR7 := n9_; have UPR11 := n10_; have UPR13 := n11_; have UPR16 := n12_; have UPR20 := n13_; have UPR23 := n14_; have UPR26 := n15_; have BKgb1 := n16_; have BKgb14 := n17_; have GUgb1 := n18_; have GUgb14 := n19_; have HB := n20_; have HBM := n21_; clear n0_ n1_ n2_ n3_ n4_ n5_ n6_ n7_ n8_ n9_ n10_ n11_ n12_ n13_ n14_ n15_ n16_ n17_ n18_ n19_ n20_ n21_; clear hb; clear hd; (try clear hczgb1_0); (try clear hfzgb1_0); (try clear hczgb14_0); (try clear hfzgb14_0); have hczgb1_0 : w_20.cell? ⟨gb1, 0, none⟩ = some (.slice A0_0 l0_0.length c0_0) := (blk_cell BKgb1.out 0).trans rfl; have hfzgb1_0 := blk_frozen BKgb1.out 0; have hczgb14_0 : w_20.cell? ⟨gb14, 0, none⟩ = some (.slice AR13 t12.length cR13) := (blk_cell BKgb14.out 0).trans rfl; have hfzgb14_0 := blk_frozen BKgb14.out 0) | ((with_reducible refine gate_callee (f := 27) rfl ?_); refine goesL_ (some 100) rfl rfl Try.func27 (by kernel_rfl) rfl #[.slice AR20 t17.length cR20, .int .i64 1] rfl (by (try simp only [List.map_toArray, List.map_cons, List.map_nil]); first | done | rfl) ?_; (with_reducible refine (laws_markInt64SS.calls k (fun k_ => loR20 ≤ k_ ∧ k_ < hiR20) _ t17 1 t45 t34 w_6 _ ?side1 ?side2 E26.out).mono ?_); (case side1 => exact HBM.out); (case side2 => exact HOR20.out); rintro e w_21 ⟨rfl, hy, hb, hkp⟩; refine ⟨_, rfl, ?_⟩; have n0_ := Aside0.mk (Kd.S_kept HOR5.out hkp NRR5_R20.out); have n1_ := Aside0.mk (Nat.le_trans UPR5.out hkp.1); have n2_ := Aside0.mk (Kd.S_kept HOR7.out hkp NRR7_R20.out); have n3_ := Aside0.mk (Nat.le_trans UPR7.out hkp.1); have n4_ := Aside0.mk (Kd.S_kept HOR11.out hkp NRR11_R20.out); have n5_ := Aside0.mk (Nat.le_trans UPR11.out hkp.1); have n6_ := Aside0.mk (Kd.S_kept HOR13.out hkp NRR13_R20.out); have n7_ := Aside0.mk (Nat.le_trans UPR13.out hkp.1); have n8_ := Aside0.mk (Kd.S_kept HOR16.out hkp NRR16_R20.out); have n9_ := Aside0.mk (Nat.le_trans UPR16.out hkp.1); have n10_ := Aside0.mk (hy); have n11_ := Aside0.mk (Nat.le_trans UPR20.out hkp.1); have n12_ := Aside0.mk (Kd.S_kept HOR23.out hkp NRR23_R20.out); have n13_ := Aside0.mk (Nat.le_trans UPR23.out hkp.1); have n14_ := Aside0.mk (Kd.S_kept HOR26.out hkp NRR26_R20.out); have n15_ := Aside0.mk (Nat.le_trans UPR26.out hkp.1); have n16_ := Aside0.mk (blk_kept (g := gb1) BKgb1.out hkp (fun h_ => NER20_gb1.out _ h_ rfl)); have n17_ := Aside0.mk (Nat.lt_of_lt_of_le GUgb1.out hkp.1); have n18_ := Aside0.mk (blk_kept (g := gb14) BKgb14.out hkp (fun h_ => NER20_gb14.out _ h_ rfl)); have n19_ := Aside0.mk (Nat.lt_of_lt_of_le GUgb14.out hkp.1); have n20_ := Aside0.mk (below_step HWM.out hb); have n21_ := Aside0.mk (hb); clear HOR5; clear UPR5; clear HOR7; clear UPR7; clear HOR11; clear UPR11; clear HOR13; clear UPR13; clear HOR16; clear UPR16; clear HOR20; clear UPR20; clear HOR23; clear UPR23; clear HOR26; clear UPR26; clear BKgb1; clear GUgb1; clear BKgb14; clear GUgb14; clear HB; clear HBM; have HOR5 := n0_; have UPR5 := n1_; have HOR7 := n2_; have UPR7 := n3_; have HOR11 := n4_; have UPR11 := n5_; have HOR13 := n6_; have UPR13 := n7_; have HOR16 := n8_; have UPR16 := n9_; have HOR20 := n10_; have UPR20 := n11_; have HOR23 := n12_; have UPR23 := n13_; have HOR26 := n14_; have UPR26 := n15_; have BKgb1 := n16_; have GUgb1 := n17_; have BKgb14 := n18_; have GUgb14 := n19_; have HB := n20_; have HBM := n21_; clear n0_ n1_ n2_ n3_ n4_ n5_ n6_ n7_ n8_ n9_ n10_ n11_ n12_ n13_ n14_ n15_ n16_ n17_ n18_ n19_ n20_ n21_; clear hy hb hkp; (try clear hczgb1_0); (try clear hfzgb1_0); (try clear hczgb14_0); (try clear hfzgb14_0); have hczgb1_0 : w_21.cell? ⟨gb1, 0, none⟩ = some (.slice A0_0 l0_0.length c0_0) := (blk_cell BKgb1.out 0).trans rfl; have hfzgb1_0 := blk_frozen BKgb1.out 0; have hczgb14_0 : w_21.cell? ⟨gb14, 0, none⟩ = some (.slice AR13 t12.length cR13) := (blk_cell BKgb14.out 0).trans rfl; have hfzgb14_0 := blk_frozen BKgb14.out 0) | ((with_reducible refine gate_callee (f := 28) rfl ?_); refine goesL_ (some 103) rfl rfl Try.func28 (by kernel_rfl) rfl #[.slice AR20 t34.length cR20, .int .i64 1] rfl (by (try simp only [List.map_toArray, List.map_cons, List.map_nil]); first | done | rfl | (simp only [show t34.length = t17.length from (Kd.S_reads' HOR20.out).1.symm]; rfl)) ?_; (with_reducible refine (laws_heldInt64SS.calls k _ _ t34 1 t45 _ ?side1 ?side2 E27.out).mono ?_); (case side1 => exact (Kd.S_reads' HOR20.out).2.2); (case side2 => exact (fun h_ => h_.1 ▸ h_.2.1) (Kd.S_reads' HOR20.out)); rintro e w_22 ⟨rfl, hd⟩; have hb := Drawn0.below hd; refine ⟨_, rfl, ?_⟩; have n0_ := Aside0.mk (Kd.S_below HOR5.out hb); have n1_ := Aside0.mk (Kd.S_below HOR7.out hb); have n2_ := Aside0.mk (Kd.S_below HOR11.out hb); have n3_ := Aside0.mk (Kd.S_below HOR13.out hb); have n4_ := Aside0.mk (Kd.S_below HOR16.out hb); have n5_ := Aside0.mk (Kd.S_below HOR20.out hb); have n6_ := Aside0.mk (Kd.S_below HOR23.out hb); have n7_ := Aside0.mk (Kd.S_below HOR26.out hb); have n8_ := Aside0.mk (Nat.le_trans UPR5.out hb.size); have n9_ := Aside0.mk (Nat.le_trans UPR7.out hb.size); have n10_ := Aside0.mk (Nat.le_trans UPR11.out hb.size); have n11_ := Aside0.mk (Nat.le_trans UPR13.out hb.size); have n12_ := Aside0.mk (Nat.le_trans UPR16.out hb.size); have n13_ := Aside0.mk (Nat.le_trans UPR20.out hb.size); have n14_ := Aside0.mk (Nat.le_trans UPR23.out hb.size); have n15_ := Aside0.mk (Nat.le_trans UPR26.out hb.size); have n16_ := Aside0.mk (blk_below (g := gb1) BKgb1.out hb); have n17_ := Aside0.mk (blk_below (g := gb14) BKgb14.out hb); have n18_ := Aside0.mk (Nat.lt_of_lt_of_le GUgb1.out hb.size); have n19_ := Aside0.mk (Nat.lt_of_lt_of_le GUgb14.out hb.size); have n20_ := Aside0.mk (below_step HB.out hb); have n21_ := Aside0.mk (below_step HBM.out hb); clear HOR5; clear HOR7; clear HOR11; clear HOR13; clear HOR16; clear HOR20; clear HOR23; clear HOR26; clear UPR5; clear UPR7; clear UPR11; clear UPR13; clear UPR16; clear UPR20; clear UPR23; clear UPR26; clear BKgb1; clear BKgb14; clear GUgb1; clear GUgb14; clear HB; clear HBM; have HOR5 := n0_; have HOR7 := n1_; have HOR11 := n2_; have HOR13 := n3_; have HOR16 := n4_; have HOR20 := n5_; have HOR23 := n6_; have HOR26 := n7_; have UPR5 := n8_; have UPR7 := n9_; have UPR11 := n10_; have UPR13 := n11_; have UPR16 := n12_; have UPR20 := n13_; have UPR23 := n14_; have UPR26 := n15_; have BKgb1 := n16_; have BKgb14 := n17_; have GUgb1 := n18_; have GUgb14 := n19_; have HB := n20_; have HBM := n21_; clear n0_ n1_ n2_ n3_ n4_ n5_ n6_ n7_ n8_ n9_ n10_ n11_ n12_ n13_ n14_ n15_ n16_ n17_ n18_ n19_ n20_ n21_; clear hb; clear hd; (try clear hczgb1_0); (try clear hfzgb1_0); (try clear hczgb14_0); (try clear hfzgb14_0); have hczgb1_0 : w_22.cell? ⟨gb1, 0, none⟩ = some (.slice A0_0 l0_0.length c0_0) := (blk_cell BKgb1.out 0).trans rfl; have hfzgb1_0 := blk_frozen BKgb1.out 0; have hczgb14_0 : w_22.cell? ⟨gb14, 0, none⟩ = some (.slice AR13 t12.length cR13) := (blk_cell BKgb14.out 0).trans rfl; have hfzgb14_0 := blk_frozen BKgb14.out 0) | ((with_reducible refine gate_callee (f := 31) rfl ?_); refine goesL_ (some 111) rfl rfl Try.func31 (by kernel_rfl) rfl #[.agg #[.slice A0_0 l0_0.length c0_0]] rfl (by (try simp only [List.map_toArray, List.map_cons, List.map_nil]); first | done | rfl) ?_; (with_reducible refine (laws_toPicture.calls k _ _ l0_0 t36 _ ?side1 ?side2 E30.out).mono ?_); (case side1 => exact Kd.C_below HR0_0.out HB.out); (case side2 => exact HC0_0.out); rintro e w_23 ⟨vR37, rfl, hoR37, hb⟩; refine ⟨_, rfl, ?_⟩; obtain ⟨loR37, hloR37⟩ : ∃ n_ : Nat, n_ = w_22.heap.size := ⟨_, rfl⟩; obtain ⟨hiR37, hhiR37⟩ : ∃ n_ : Nat, n_ = w_23.heap.size := ⟨_, rfl⟩; have n0_ := Aside0.mk (Kd.S_below HOR5.out hb); have n1_ := Aside0.mk (Kd.S_below HOR7.out hb); have n2_ := Aside0.mk (Kd.S_below HOR11.out hb); have n3_ := Aside0.mk (Kd.S_below HOR13.out hb); have n4_ := Aside0.mk (Kd.S_below HOR16.out hb); have n5_ := Aside0.mk (Kd.S_below HOR20.out hb); have n6_ := Aside0.mk (Kd.S_below HOR23.out hb); have n7_ := Aside0.mk (Kd.S_below HOR26.out hb); have n8_ := Aside0.mk (Nat.le_trans UPR5.out hb.size); have n9_ := Aside0.mk (Nat.le_trans UPR7.out hb.size); have n10_ := Aside0.mk (Nat.le_trans UPR11.out hb.size); have n11_ := Aside0.mk (Nat.le_trans UPR13.out hb.size); have n12_ := Aside0.mk (Nat.le_trans UPR16.out hb.size); have n13_ := Aside0.mk (Nat.le_trans UPR20.out hb.size); have n14_ := Aside0.mk (Nat.le_trans UPR23.out hb.size); have n15_ := Aside0.mk (Nat.le_trans UPR26.out hb.size); have n16_ := Aside0.mk (blk_below (g := gb1) BKgb1.out hb); have n17_ := Aside0.mk (blk_below (g := gb14) BKgb14.out hb); have n18_ := Aside0.mk (Nat.lt_of_lt_of_le GUgb1.out hb.size); have n19_ := Aside0.mk (Nat.lt_of_lt_of_le GUgb14.out hb.size); have n20_ := Aside0.mk (below_step HB.out hb); have n21_ := Aside0.mk (below_step HBM.out hb); have n22_ := Aside0.mk (Kd.S_lower (Kd.S_mono (ok' := fun k_ => loR37 ≤ k_ ∧ k_ < hiR37) (Kd.S_bound hoR37) (fun k_ hk_ => ⟨by rw [hloR37]; exact hk_.2.1, by rw [hhiR37]; exact hk_.2.2.1⟩)) (below_size HBM.out)); have n23_ := Aside0.mk (by rw [hhiR37]; exact Nat.le_refl _ : hiR37 ≤ w_23.heap.size); have n24_ := Aside0.mk (fun k_ h1_ h2_ => by have := UPR5.out; rw [← hloR37] at this; omega : ∀ k_, loR5 ≤ k_ ∧ k_ < hiR5 → ¬ (loR37 ≤ k_ ∧ k_ < hiR37)); have n25_ := Aside0.mk (fun k_ h1_ h2_ => by have := UPR5.out; rw [← hloR37] at this; omega : ∀ k_, loR37 ≤ k_ ∧ k_ < hiR37 → ¬ (loR5 ≤ k_ ∧ k_ < hiR5)); have n26_ := Aside0.mk (fun k_ h1_ h2_ => by have := UPR7.out; rw [← hloR37] at this; omega : ∀ k_, loR7 ≤ k_ ∧ k_ < hiR7 → ¬ (loR37 ≤ k_ ∧ k_ < hiR37)); have n27_ := Aside0.mk (fun k_ h1_ h2_ => by have := UPR7.out; rw [← hloR37] at this; omega : ∀ k_, loR37 ≤ k_ ∧ k_ < hiR37 → ¬ (loR7 ≤ k_ ∧ k_ < hiR7)); have n28_ := Aside0.mk (fun k_ h1_ h2_ => by have := UPR11.out; rw [← hloR37] at this; omega : ∀ k_, loR11 ≤ k_ ∧ k_ < hiR11 → ¬ (loR37 ≤ k_ ∧ k_ < hiR37)); have n29_ := Aside0.mk (fun k_ h1_ h2_ => by have := UPR11.out; rw [← hloR37] at this; omega : ∀ k_, loR37 ≤ k_ ∧ k_ < hiR37 → ¬ (loR11 ≤ k_ ∧ k_ < hiR11)); have n30_ := Aside0.mk (fun k_ h1_ h2_ => by have := UPR13.out; rw [← hloR37] at this; omega : ∀ k_, loR13 ≤ k_ ∧ k_ < hiR13 → ¬ (loR37 ≤ k_ ∧ k_ < hiR37)); have n31_ := Aside0.mk (fun k_ h1_ h2_ => by have := UPR13.out; rw [← hloR37] at this; omega : ∀ k_, loR37 ≤ k_ ∧ k_ < hiR37 → ¬ (loR13 ≤ k_ ∧ k_ < hiR13)); have n32_ := Aside0.mk (fun k_ h1_ h2_ => by have := UPR16.out; rw [← hloR37] at this; omega : ∀ k_, loR16 ≤ k_ ∧ k_ < hiR16 → ¬ (loR37 ≤ k_ ∧ k_ < hiR37)); have n33_ := Aside0.mk (fun k_ h1_ h2_ => by have := UPR16.out; rw [← hloR37] at this; omega : ∀ k_, loR37 ≤ k_ ∧ k_ < hiR37 → ¬ (loR16 ≤ k_ ∧ k_ < hiR16)); have n34_ := Aside0.mk (fun k_ h1_ h2_ => by have := UPR20.out; rw [← hloR37] at this; omega : ∀ k_, loR20 ≤ k_ ∧ k_ < hiR20 → ¬ (loR37 ≤ k_ ∧ k_ < hiR37)); have n35_ := Aside0.mk (fun k_ h1_ h2_ => by have := UPR20.out; rw [← hloR37] at this; omega : ∀ k_, loR37 ≤ k_ ∧ k_ < hiR37 → ¬ (loR20 ≤ k_ ∧ k_ < hiR20)); have n36_ := Aside0.mk (fun k_ h1_ h2_ => by have := UPR23.out; rw [← hloR37] at this; omega : ∀ k_, loR23 ≤ k_ ∧ k_ < hiR23 → ¬ (loR37 ≤ k_ ∧ k_ < hiR37)); have n37_ := Aside0.mk (fun k_ h1_ h2_ => by have := UPR23.out; rw [← hloR37] at this; omega : ∀ k_, loR37 ≤ k_ ∧ k_ < hiR37 → ¬ (loR23 ≤ k_ ∧ k_ < hiR23)); have n38_ := Aside0.mk (fun k_ h1_ h2_ => by have := UPR26.out; rw [← hloR37] at this; omega : ∀ k_, loR26 ≤ k_ ∧ k_ < hiR26 → ¬ (loR37 ≤ k_ ∧ k_ < hiR37)); have n39_ := Aside0.mk (fun k_ h1_ h2_ => by have := UPR26.out; rw [← hloR37] at this; omega : ∀ k_, loR37 ≤ k_ ∧ k_ < hiR37 → ¬ (loR26 ≤ k_ ∧ k_ < hiR26)); have n40_ := Aside0.mk (fun k_ hk_ => by have := GUgb1.out; rw [← hloR37] at this; omega : ∀ k_, loR37 ≤ k_ ∧ k_ < hiR37 → k_ ≠ gb1); have n41_ := Aside0.mk (fun k_ hk_ => by have := GUgb14.out; rw [← hloR37] at this; omega : ∀ k_, loR37 ≤ k_ ∧ k_ < hiR37 → k_ ≠ gb14); clear HOR5; clear HOR7; clear HOR11; clear HOR13; clear HOR16; clear HOR20; clear HOR23; clear HOR26; clear UPR5; clear UPR7; clear UPR11; clear UPR13; clear UPR16; clear UPR20; clear UPR23; clear UPR26; clear BKgb1; clear BKgb14; clear GUgb1; clear GUgb14; clear HB; clear HBM; have HOR5 := n0_; have HOR7 := n1_; have HOR11 := n2_; have HOR13 := n3_; have HOR16 := n4_; have HOR20 := n5_; have HOR23 := n6_; have HOR26 := n7_; have UPR5 := n8_; have UPR7 := n9_; have UPR11 := n10_; have UPR13 := n11_; have UPR16 := n12_; have UPR20 := n13_; have UPR23 := n14_; have UPR26 := n15_; have BKgb1 := n16_; have BKgb14 := n17_; have GUgb1 := n18_; have GUgb14 := n19_; have HB := n20_; have HBM := n21_; have HOR37 := n22_; have UPR37 := n23_; have NRR5_R37 := n24_; have NRR37_R5 := n25_; have NRR7_R37 := n26_; have NRR37_R7 := n27_; have NRR11_R37 := n28_; have NRR37_R11 := n29_; have NRR13_R37 := n30_; have NRR37_R13 := n31_; have NRR16_R37 := n32_; have NRR37_R16 := n33_; have NRR20_R37 := n34_; have NRR37_R20 := n35_; have NRR23_R37 := n36_; have NRR37_R23 := n37_; have NRR26_R37 := n38_; have NRR37_R26 := n39_; have NER37_gb1 := n40_; have NER37_gb14 := n41_; clear n0_ n1_ n2_ n3_ n4_ n5_ n6_ n7_ n8_ n9_ n10_ n11_ n12_ n13_ n14_ n15_ n16_ n17_ n18_ n19_ n20_ n21_ n22_ n23_ n24_ n25_ n26_ n27_ n28_ n29_ n30_ n31_ n32_ n33_ n34_ n35_ n36_ n37_ n38_ n39_ n40_ n41_; clear hb; clear hoR37 hloR37 hhiR37; obtain ⟨AR37, cR37, eqR37⟩ := Kd.S_slice HOR37.out; subst eqR37; (try clear hczgb1_0); (try clear hfzgb1_0); (try clear hczgb14_0); (try clear hfzgb14_0); have hczgb1_0 : w_23.cell? ⟨gb1, 0, none⟩ = some (.slice A0_0 l0_0.length c0_0) := (blk_cell BKgb1.out 0).trans rfl; have hfzgb1_0 := blk_frozen BKgb1.out 0; have hczgb14_0 : w_23.cell? ⟨gb14, 0, none⟩ = some (.slice AR13 t12.length cR13) := (blk_cell BKgb14.out 0).trans rfl; have hfzgb14_0 := blk_frozen BKgb14.out 0) | ((with_reducible refine gate_callee (f := 36) rfl ?_); refine goesL_ (some 113) rfl rfl Try.func36 (by kernel_rfl) rfl #[.slice A1 l1.length c1] rfl (by (try simp only [List.map_toArray, List.map_cons, List.map_nil]); first | done | rfl) ?_; (with_reducible refine (laws_toInt64SS.calls k _ _ l1 t38 _ ?side1 ?side2 E31.out).mono ?_); (case side1 => exact Kd.C_below HR1.out HB.out); (case side2 => exact HC1.out); rintro e w_24 ⟨vR39, rfl, hoR39, hb⟩; refine ⟨_, rfl, ?_⟩; obtain ⟨loR39, hloR39⟩ : ∃ n_ : Nat, n_ = w_23.heap.size := ⟨_, rfl⟩; obtain ⟨hiR39, hhiR39⟩ : ∃ n_ : Nat, n_ = w_24.heap.size := ⟨_, rfl⟩; have n0_ := Aside0.mk (Kd.S_below HOR5.out hb); have n1_ := Aside0.mk (Kd.S_below HOR7.out hb); have n2_ := Aside0.mk (Kd.S_below HOR11.out hb); have n3_ := Aside0.mk (Kd.S_below HOR13.out hb); have n4_ := Aside0.mk (Kd.S_below HOR16.out hb); have n5_ := Aside0.mk (Kd.S_below HOR20.out hb); have n6_ := Aside0.mk (Kd.S_below HOR23.out hb); have n7_ := Aside0.mk (Kd.S_below HOR26.out hb); have n8_ := Aside0.mk (Kd.S_below HOR37.out hb); have n9_ := Aside0.mk (Nat.le_trans UPR5.out hb.size); have n10_ := Aside0.mk (Nat.le_trans UPR7.out hb.size); have n11_ := Aside0.mk (Nat.le_trans UPR11.out hb.size); have n12_ := Aside0.mk (Nat.le_trans UPR13.out hb.size); have n13_ := Aside0.mk (Nat.le_trans UPR16.out hb.size); have n14_ := Aside0.mk (Nat.le_trans UPR20.out hb.size); have n15_ := Aside0.mk (Nat.le_trans UPR23.out hb.size); have n16_ := Aside0.mk (Nat.le_trans UPR26.out hb.size); have n17_ := Aside0.mk (Nat.le_trans UPR37.out hb.size); have n18_ := Aside0.mk (blk_below (g := gb1) BKgb1.out hb); have n19_ := Aside0.mk (blk_below (g := gb14) BKgb14.out hb); have n20_ := Aside0.mk (Nat.lt_of_lt_of_le GUgb1.out hb.size); have n21_ := Aside0.mk (Nat.lt_of_lt_of_le GUgb14.out hb.size); have n22_ := Aside0.mk (below_step HB.out hb); have n23_ := Aside0.mk (below_step HBM.out hb); have n24_ := Aside0.mk (Kd.S_lower (Kd.S_mono (ok' := fun k_ => loR39 ≤ k_ ∧ k_ < hiR39) (Kd.S_bound hoR39) (fun k_ hk_ => ⟨by rw [hloR39]; exact hk_.2.1, by rw [hhiR39]; exact hk_.2.2.1⟩)) (below_size HBM.out)); have n25_ := Aside0.mk (by rw [hhiR39]; exact Nat.le_refl _ : hiR39 ≤ w_24.heap.size); have n26_ := Aside0.mk (fun k_ h1_ h2_ => by have := UPR5.out; rw [← hloR39] at this; omega : ∀ k_, loR5 ≤ k_ ∧ k_ < hiR5 → ¬ (loR39 ≤ k_ ∧ k_ < hiR39)); have n27_ := Aside0.mk (fun k_ h1_ h2_ => by have := UPR5.out; rw [← hloR39] at this; omega : ∀ k_, loR39 ≤ k_ ∧ k_ < hiR39 → ¬ (loR5 ≤ k_ ∧ k_ < hiR5)); have n28_ := Aside0.mk (fun k_ h1_ h2_ => by have := UPR7.out; rw [← hloR39] at this; omega : ∀ k_, loR7 ≤ k_ ∧ k_ < hiR7 → ¬ (loR39 ≤ k_ ∧ k_ < hiR39)); have n29_ := Aside0.mk (fun k_ h1_ h2_ => by have := UPR7.out; rw [← hloR39] at this; omega : ∀ k_, loR39 ≤ k_ ∧ k_ < hiR39 → ¬ (loR7 ≤ k_ ∧ k_ < hiR7)); have n30_ := Aside0.mk (fun k_ h1_ h2_ => by have := UPR11.out; rw [← hloR39] at this; omega : ∀ k_, loR11 ≤ k_ ∧ k_ < hiR11 → ¬ (loR39 ≤ k_ ∧ k_ < hiR39)); have n31_ := Aside0.mk (fun k_ h1_ h2_ => by have := UPR11.out; rw [← hloR39] at this; omega : ∀ k_, loR39 ≤ k_ ∧ k_ < hiR39 → ¬ (loR11 ≤ k_ ∧ k_ < hiR11)); have n32_ := Aside0.mk (fun k_ h1_ h2_ => by have := UPR13.out; rw [← hloR39] at this; omega : ∀ k_, loR13 ≤ k_ ∧ k_ < hiR13 → ¬ (loR39 ≤ k_ ∧ k_ < hiR39)); have n33_ := Aside0.mk (fun k_ h1_ h2_ => by have := UPR13.out; rw [← hloR39] at this; omega : ∀ k_, loR39 ≤ k_ ∧ k_ < hiR39 → ¬ (loR13 ≤ k_ ∧ k_ < hiR13)); have n34_ := Aside0.mk (fun k_ h1_ h2_ => by have := UPR16.out; rw [← hloR39] at this; omega : ∀ k_, loR16 ≤ k_ ∧ k_ < hiR16 → ¬ (loR39 ≤ k_ ∧ k_ < hiR39)); have n35_ := Aside0.mk (fun k_ h1_ h2_ => by have := UPR16.out; rw [← hloR39] at this; omega : ∀ k_, loR39 ≤ k_ ∧ k_ < hiR39 → ¬ (loR16 ≤ k_ ∧ k_ < hiR16)); have n36_ := Aside0.mk (fun k_ h1_ h2_ => by have := UPR20.out; rw [← hloR39] at this; omega : ∀ k_, loR20 ≤ k_ ∧ k_ < hiR20 → ¬ (loR39 ≤ k_ ∧ k_ < hiR39)); have n37_ := Aside0.mk (fun k_ h1_ h2_ => by have := UPR20.out; rw [← hloR39] at this; omega : ∀ k_, loR39 ≤ k_ ∧ k_ < hiR39 → ¬ (loR20 ≤ k_ ∧ k_ < hiR20)); have n38_ := Aside0.mk (fun k_ h1_ h2_ => by have := UPR23.out; rw [← hloR39] at this; omega : ∀ k_, loR23 ≤ k_ ∧ k_ < hiR23 → ¬ (loR39 ≤ k_ ∧ k_ < hiR39)); have n39_ := Aside0.mk (fun k_ h1_ h2_ => by have := UPR23.out; rw [← hloR39] at this; omega : ∀ k_, loR39 ≤ k_ ∧ k_ < hiR39 → ¬ (loR23 ≤ k_ ∧ k_ < hiR23)); have n40_ := Aside0.mk (fun k_ h1_ h2_ => by have := UPR26.out; rw [← hloR39] at this; omega : ∀ k_, loR26 ≤ k_ ∧ k_ < hiR26 → ¬ (loR39 ≤ k_ ∧ k_ < hiR39)); have n41_ := Aside0.mk (fun k_ h1_ h2_ => by have := UPR26.out; rw [← hloR39] at this; omega : ∀ k_, loR39 ≤ k_ ∧ k_ < hiR39 → ¬ (loR26 ≤ k_ ∧ k_ < hiR26)); have n42_ := Aside0.mk (fun k_ h1_ h2_ => by have := UPR37.out; rw [← hloR39] at this; omega : ∀ k_, loR37 ≤ k_ ∧ k_ < hiR37 → ¬ (loR39 ≤ k_ ∧ k_ < hiR39)); have n43_ := Aside0.mk (fun k_ h1_ h2_ => by have := UPR37.out; rw [← hloR39] at this; omega : ∀ k_, loR39 ≤ k_ ∧ k_ < hiR39 → ¬ (loR37 ≤ k_ ∧ k_ < hiR37)); have n44_ := Aside0.mk (fun k_ hk_ => by have := GUgb1.out; rw [← hloR39] at this; omega : ∀ k_, loR39 ≤ k_ ∧ k_ < hiR39 → k_ ≠ gb1); have n45_ := Aside0.mk (fun k_ hk_ => by have := GUgb14.out; rw [← hloR39] at this; omega : ∀ k_, loR39 ≤ k_ ∧ k_ < hiR39 → k_ ≠ gb14); clear HOR5; clear HOR7; clear HOR11; clear HOR13; clear HOR16; clear HOR20; clear HOR23; clear HOR26; clear HOR37; clear UPR5; clear UPR7; clear UPR11; clear UPR13; clear UPR16; clear UPR20; clear UPR23; clear UPR26; clear UPR37; clear BKgb1; clear BKgb14; clear GUgb1; clear GUgb14; clear HB; clear HBM; have HOR5 := n0_; have HOR7 := n1_; have HOR11 := n2_; have HOR13 := n3_; have HOR16 := n4_; have HOR20 := n5_; have HOR23 := n6_; have HOR26 := n7_; have HOR37 := n8_; have UPR5 := n9_; have UPR7 := n10_; have UPR11 := n11_; have UPR13 := n12_; have UPR16 := n13_; have UPR20 := n14_; have UPR23 := n15_; have UPR26 := n16_; have UPR37 := n17_; have BKgb1 := n18_; have BKgb14 := n19_; have GUgb1 := n20_; have GUgb14 := n21_; have HB := n22_; have HBM := n23_; have HOR39 := n24_; have UPR39 := n25_; have NRR5_R39 := n26_; have NRR39_R5 := n27_; have NRR7_R39 := n28_; have NRR39_R7 := n29_; have NRR11_R39 := n30_; have NRR39_R11 := n31_; have NRR13_R39 := n32_; have NRR39_R13 := n33_; have NRR16_R39 := n34_; have NRR39_R16 := n35_; have NRR20_R39 := n36_; have NRR39_R20 := n37_; have NRR23_R39 := n38_; have NRR39_R23 := n39_; have NRR26_R39 := n40_; have NRR39_R26 := n41_; have NRR37_R39 := n42_; have NRR39_R37 := n43_; have NER39_gb1 := n44_; have NER39_gb14 := n45_; clear n0_ n1_ n2_ n3_ n4_ n5_ n6_ n7_ n8_ n9_ n10_ n11_ n12_ n13_ n14_ n15_ n16_ n17_ n18_ n19_ n20_ n21_ n22_ n23_ n24_ n25_ n26_ n27_ n28_ n29_ n30_ n31_ n32_ n33_ n34_ n35_ n36_ n37_ n38_ n39_ n40_ n41_ n42_ n43_ n44_ n45_; clear hb; clear hoR39 hloR39 hhiR39; obtain ⟨AR39, cR39, eqR39⟩ := Kd.S_slice HOR39.out; subst eqR39; (try clear hczgb1_0); (try clear hfzgb1_0); (try clear hczgb14_0); (try clear hfzgb14_0); have hczgb1_0 : w_24.cell? ⟨gb1, 0, none⟩ = some (.slice A0_0 l0_0.length c0_0) := (blk_cell BKgb1.out 0).trans rfl; have hfzgb1_0 := blk_frozen BKgb1.out 0; have hczgb14_0 : w_24.cell? ⟨gb14, 0, none⟩ = some (.slice AR13 t12.length cR13) := (blk_cell BKgb14.out 0).trans rfl; have hfzgb14_0 := blk_frozen BKgb14.out 0) | ((with_reducible refine gate_callee (f := 52) rfl ?_); refine goesL_ (some 114) rfl rfl Try.func52 (by kernel_rfl) rfl #[.agg #[.slice AR37 t36.length cR37], .slice AR39 t38.length cR39] rfl (by (try simp only [List.map_toArray, List.map_cons, List.map_nil]); first | done | rfl) ?_; (with_reducible refine (impl_PathDither.calls k _ _ t36 _ _ t38 t40 t41 t42 _ ?side1 ?side2 ?side3 ?side4 E32.out).mono ?_); (case side1 => exact (Kd.S_reads' HOR37.out).2.2); (case side2 => exact (Kd.S_reads' HOR37.out).2.1); (case side3 => exact (Kd.S_reads' HOR39.out).2.2); (case side4 => exact (Kd.S_reads' HOR39.out).2.1); rintro e w_25 ⟨vR43, rfl, hoR43, hb⟩; refine ⟨_, rfl, ?_⟩; obtain ⟨loR43, hloR43⟩ : ∃ n_ : Nat, n_ = w_24.heap.size := ⟨_, rfl⟩; obtain ⟨hiR43, hhiR43⟩ : ∃ n_ : Nat, n_ = w_25.heap.size := ⟨_, rfl⟩; have n0_ := Aside0.mk (Kd.S_below HOR5.out hb); have n1_ := Aside0.mk (Kd.S_below HOR7.out hb); have n2_ := Aside0.mk (Kd.S_below HOR11.out hb); have n3_ := Aside0.mk (Kd.S_below HOR13.out hb); have n4_ := Aside0.mk (Kd.S_below HOR16.out hb); have n5_ := Aside0.mk (Kd.S_below HOR20.out hb); have n6_ := Aside0.mk (Kd.S_below HOR23.out hb); have n7_ := Aside0.mk (Kd.S_below HOR26.out hb); have n8_ := Aside0.mk (Kd.S_below HOR37.out hb); have n9_ := Aside0.mk (Kd.S_below HOR39.out hb); have n10_ := Aside0.mk (Nat.le_trans UPR5.out hb.size); have n11_ := Aside0.mk (Nat.le_trans UPR7.out hb.size); have n12_ := Aside0.mk (Nat.le_trans UPR11.out hb.size); have n13_ := Aside0.mk (Nat.le_trans UPR13.out hb.size); have n14_ := Aside0.mk (Nat.le_trans UPR16.out hb.size); have n15_ := Aside0.mk (Nat.le_trans UPR20.out hb.size); have n16_ := Aside0.mk (Nat.le_trans UPR23.out hb.size); have n17_ := Aside0.mk (Nat.le_trans UPR26.out hb.size); have n18_ := Aside0.mk (Nat.le_trans UPR37.out hb.size); have n19_ := Aside0.mk (Nat.le_trans UPR39.out hb.size); have n20_ := Aside0.mk (blk_below (g := gb1) BKgb1.out hb); have n21_ := Aside0.mk (blk_below (g := gb14) BKgb14.out hb); have n22_ := Aside0.mk (Nat.lt_of_lt_of_le GUgb1.out hb.size); have n23_ := Aside0.mk (Nat.lt_of_lt_of_le GUgb14.out hb.size); have n24_ := Aside0.mk (below_step HB.out hb); have n25_ := Aside0.mk (below_step HBM.out hb); have n26_ := Aside0.mk (Kd.S_lower (Kd.S_mono (ok' := fun k_ => loR43 ≤ k_ ∧ k_ < hiR43) (Kd.S_bound hoR43) (fun k_ hk_ => ⟨by rw [hloR43]; exact hk_.2.1, by rw [hhiR43]; exact hk_.2.2.1⟩)) (below_size HBM.out)); have n27_ := Aside0.mk (by rw [hhiR43]; exact Nat.le_refl _ : hiR43 ≤ w_25.heap.size); have n28_ := Aside0.mk (fun k_ h1_ h2_ => by have := UPR5.out; rw [← hloR43] at this; omega : ∀ k_, loR5 ≤ k_ ∧ k_ < hiR5 → ¬ (loR43 ≤ k_ ∧ k_ < hiR43)); have n29_ := Aside0.mk (fun k_ h1_ h2_ => by have := UPR5.out; rw [← hloR43] at this; omega : ∀ k_, loR43 ≤ k_ ∧ k_ < hiR43 → ¬ (loR5 ≤ k_ ∧ k_ < hiR5)); have n30_ := Aside0.mk (fun k_ h1_ h2_ => by have := UPR7.out; rw [← hloR43] at this; omega : ∀ k_, loR7 ≤ k_ ∧ k_ < hiR7 → ¬ (loR43 ≤ k_ ∧ k_ < hiR43)); have n31_ := Aside0.mk (fun k_ h1_ h2_ => by have := UPR7.out; rw [← hloR43] at this; omega : ∀ k_, loR43 ≤ k_ ∧ k_ < hiR43 → ¬ (loR7 ≤ k_ ∧ k_ < hiR7)); have n32_ := Aside0.mk (fun k_ h1_ h2_ => by have := UPR11.out; rw [← hloR43] at this; omega : ∀ k_, loR11 ≤ k_ ∧ k_ < hiR11 → ¬ (loR43 ≤ k_ ∧ k_ < hiR43)); have n33_ := Aside0.mk (fun k_ h1_ h2_ => by have := UPR11.out; rw [← hloR43] at this; omega : ∀ k_, loR43 ≤ k_ ∧ k_ < hiR43 → ¬ (loR11 ≤ k_ ∧ k_ < hiR11)); have n34_ := Aside0.mk (fun k_ h1_ h2_ => by have := UPR13.out; rw [← hloR43] at this; omega : ∀ k_, loR13 ≤ k_ ∧ k_ < hiR13 → ¬ (loR43 ≤ k_ ∧ k_ < hiR43)); have n35_ := Aside0.mk (fun k_ h1_ h2_ => by have := UPR13.out; rw [← hloR43] at this; omega : ∀ k_, loR43 ≤ k_ ∧ k_ < hiR43 → ¬ (loR13 ≤ k_ ∧ k_ < hiR13)); have n36_ := Aside0.mk (fun k_ h1_ h2_ => by have := UPR16.out; rw [← hloR43] at this; omega : ∀ k_, loR16 ≤ k_ ∧ k_ < hiR16 → ¬ (loR43 ≤ k_ ∧ k_ < hiR43)); have n37_ := Aside0.mk (fun k_ h1_ h2_ => by have := UPR16.out; rw [← hloR43] at this; omega : ∀ k_, loR43 ≤ k_ ∧ k_ < hiR43 → ¬ (loR16 ≤ k_ ∧ k_ < hiR16)); have n38_ := Aside0.mk (fun k_ h1_ h2_ => by have := UPR20.out; rw [← hloR43] at this; omega : ∀ k_, loR20 ≤ k_ ∧ k_ < hiR20 → ¬ (loR43 ≤ k_ ∧ k_ < hiR43)); have n39_ := Aside0.mk (fun k_ h1_ h2_ => by have := UPR20.out; rw [← hloR43] at this; omega : ∀ k_, loR43 ≤ k_ ∧ k_ < hiR43 → ¬ (loR20 ≤ k_ ∧ k_ < hiR20)); have n40_ := Aside0.mk (fun k_ h1_ h2_ => by have := UPR23.out; rw [← hloR43] at this; omega : ∀ k_, loR23 ≤ k_ ∧ k_ < hiR23 → ¬ (loR43 ≤ k_ ∧ k_ < hiR43)); have n41_ := Aside0.mk (fun k_ h1_ h2_ => by have := UPR23.out; rw [← hloR43] at this; omega : ∀ k_, loR43 ≤ k_ ∧ k_ < hiR43 → ¬ (loR23 ≤ k_ ∧ k_ < hiR23)); have n42_ := Aside0.mk (fun k_ h1_ h2_ => by have := UPR26.out; rw [← hloR43] at this; omega : ∀ k_, loR26 ≤ k_ ∧ k_ < hiR26 → ¬ (loR43 ≤ k_ ∧ k_ < hiR43)); have n43_ := Aside0.mk (fun k_ h1_ h2_ => by have := UPR26.out; rw [← hloR43] at this; omega : ∀ k_, loR43 ≤ k_ ∧ k_ < hiR43 → ¬ (loR26 ≤ k_ ∧ k_ < hiR26)); have n44_ := Aside0.mk (fun k_ h1_ h2_ => by have := UPR37.out; rw [← hloR43] at this; omega : ∀ k_, loR37 ≤ k_ ∧ k_ < hiR37 → ¬ (loR43 ≤ k_ ∧ k_ < hiR43)); have n45_ := Aside0.mk (fun k_ h1_ h2_ => by have := UPR37.out; rw [← hloR43] at this; omega : ∀ k_, loR43 ≤ k_ ∧ k_ < hiR43 → ¬ (loR37 ≤ k_ ∧ k_ < hiR37)); have n46_ := Aside0.mk (fun k_ h1_ h2_ => by have := UPR39.out; rw [← hloR43] at this; omega : ∀ k_, loR39 ≤ k_ ∧ k_ < hiR39 → ¬ (loR43 ≤ k_ ∧ k_ < hiR43)); have n47_ := Aside0.mk (fun k_ h1_ h2_ => by have := UPR39.out; rw [← hloR43] at this; omega : ∀ k_, loR43 ≤ k_ ∧ k_ < hiR43 → ¬ (loR39 ≤ k_ ∧ k_ < hiR39)); have n48_ := Aside0.mk (fun k_ hk_ => by have := GUgb1.out; rw [← hloR43] at this; omega : ∀ k_, loR43 ≤ k_ ∧ k_ < hiR43 → k_ ≠ gb1); have n49_ := Aside0.mk (fun k_ hk_ => by have := GUgb14.out; rw [← hloR43] at this; omega : ∀ k_, loR43 ≤ k_ ∧ k_ < hiR43 → k_ ≠ gb14); clear HOR5; clear HOR7; clear HOR11; clear HOR13; clear HOR16; clear HOR20; clear HOR23; clear HOR26; clear HOR37; clear HOR39; clear UPR5; clear UPR7; clear UPR11; clear UPR13; clear UPR16; clear UPR20; clear UPR23; clear UPR26; clear UPR37; clear UPR39; clear BKgb1; clear BKgb14; clear GUgb1; clear GUgb14; clear HB; clear HBM; have HOR5 := n0_; have HOR7 := n1_; have HOR11 := n2_; have HOR13 := n3_; have HOR16 := n4_; have HOR20 := n5_; have HOR23 := n6_; have HOR26 := n7_; have HOR37 := n8_; have HOR39 := n9_; have UPR5 := n10_; have UPR7 := n11_; have UPR11 := n12_; have UPR13 := n13_; have UPR16 := n14_; have UPR20 := n15_; have UPR23 := n16_; have UPR26 := n17_; have UPR37 := n18_; have UPR39 := n19_; have BKgb1 := n20_; have BKgb14 := n21_; have GUgb1 := n22_; have GUgb14 := n23_; have HB := n24_; have HBM := n25_; have HOR43 := n26_; have UPR43 := n27_; have NRR5_R43 := n28_; have NRR43_R5 := n29_; have NRR7_R43 := n30_; have NRR43_R7 := n31_; have NRR11_R43 := n32_; have NRR43_R11 := n33_; have NRR13_R43 := n34_; have NRR43_R13 := n35_; have NRR16_R43 := n36_; have NRR43_R16 := n37_; have NRR20_R43 := n38_; have NRR43_R20 := n39_; have NRR23_R43 := n40_; have NRR43_R23 := n41_; have NRR26_R43 := n42_; have NRR43_R26 := n43_; have NRR37_R43 := n44_; have NRR43_R37 := n45_; have NRR39_R43 := n46_; have NRR43_R39 := n47_; have NER43_gb1 := n48_; have NER43_gb14 := n49_; clear n0_ n1_ n2_ n3_ n4_ n5_ n6_ n7_ n8_ n9_ n10_ n11_ n12_ n13_ n14_ n15_ n16_ n17_ n18_ n19_ n20_ n21_ n22_ n23_ n24_ n25_ n26_ n27_ n28_ n29_ n30_ n31_ n32_ n33_ n34_ n35_ n36_ n37_ n38_ n39_ n40_ n41_ n42_ n43_ n44_ n45_ n46_ n47_ n48_ n49_; clear hb; clear hoR43 hloR43 hhiR43; obtain ⟨AR43, cR43, eqR43⟩ := Kd.S_slice HOR43.out; subst eqR43; (try clear hczgb1_0); (try clear hfzgb1_0); (try clear hczgb14_0); (try clear hfzgb14_0); have hczgb1_0 : w_25.cell? ⟨gb1, 0, none⟩ = some (.slice A0_0 l0_0.length c0_0) := (blk_cell BKgb1.out 0).trans rfl; have hfzgb1_0 := blk_frozen BKgb1.out 0; have hczgb14_0 : w_25.cell? ⟨gb14, 0, none⟩ = some (.slice AR13 t12.length cR13) := (blk_cell BKgb14.out 0).trans rfl; have hfzgb14_0 := blk_frozen BKgb14.out 0) | ((with_reducible refine gate_callee (f := 26) rfl ?_); refine goesL_ (some 120) rfl rfl Try.func26 (by kernel_rfl) rfl #[.slice AR43 t40.length cR43, .slice AR11 t8.length cR11] rfl (by (try simp only [List.map_toArray, List.map_cons, List.map_nil]); first | done | rfl) ?_; (with_reducible refine (laws_eqInt64SS.calls k _ _ t40 _ _ t8 true _ ?side1 ?side2 ?side3 ?side4 E33.out).mono ?_); (case side1 => exact (Kd.S_reads' HOR43.out).2.2); (case side2 => exact (Kd.S_reads' HOR43.out).2.1); (case side3 => exact (Kd.S_reads' HOR11.out).2.2); (case side4 => exact (Kd.S_reads' HOR11.out).2.1); rintro e w_26 ⟨rfl, hd⟩; have hb := Drawn0.below hd; refine ⟨_, rfl, ?_⟩; have n0_ := Aside0.mk (Kd.S_below HOR5.out hb); have n1_ := Aside0.mk (Kd.S_below HOR7.out hb); have n2_ := Aside0.mk (Kd.S_below HOR11.out hb); have n3_ := Aside0.mk (Kd.S_below HOR13.out hb); have n4_ := Aside0.mk (Kd.S_below HOR16.out hb); have n5_ := Aside0.mk (Kd.S_below HOR20.out hb); have n6_ := Aside0.mk (Kd.S_below HOR23.out hb); have n7_ := Aside0.mk (Kd.S_below HOR26.out hb); have n8_ := Aside0.mk (Kd.S_below HOR37.out hb); have n9_ := Aside0.mk (Kd.S_below HOR39.out hb); have n10_ := Aside0.mk (Kd.S_below HOR43.out hb); have n11_ := Aside0.mk (Nat.le_trans UPR5.out hb.size); have n12_ := Aside0.mk (Nat.le_trans UPR7.out hb.size); have n13_ := Aside0.mk (Nat.le_trans UPR11.out hb.size); have n14_ := Aside0.mk (Nat.le_trans UPR13.out hb.size); have n15_ := Aside0.mk (Nat.le_trans UPR16.out hb.size); have n16_ := Aside0.mk (Nat.le_trans UPR20.out hb.size); have n17_ := Aside0.mk (Nat.le_trans UPR23.out hb.size); have n18_ := Aside0.mk (Nat.le_trans UPR26.out hb.size); have n19_ := Aside0.mk (Nat.le_trans UPR37.out hb.size); have n20_ := Aside0.mk (Nat.le_trans UPR39.out hb.size); have n21_ := Aside0.mk (Nat.le_trans UPR43.out hb.size); have n22_ := Aside0.mk (blk_below (g := gb1) BKgb1.out hb); have n23_ := Aside0.mk (blk_below (g := gb14) BKgb14.out hb); have n24_ := Aside0.mk (Nat.lt_of_lt_of_le GUgb1.out hb.size); have n25_ := Aside0.mk (Nat.lt_of_lt_of_le GUgb14.out hb.size); have n26_ := Aside0.mk (below_step HB.out hb); have n27_ := Aside0.mk (below_step HBM.out hb); clear HOR5; clear HOR7; clear HOR11; clear HOR13; clear HOR16; clear HOR20; clear HOR23; clear HOR26; clear HOR37; clear HOR39; clear HOR43; clear UPR5; clear UPR7; clear UPR11; clear UPR13; clear UPR16; clear UPR20; clear UPR23; clear UPR26; clear UPR37; clear UPR39; clear UPR43; clear BKgb1; clear BKgb14; clear GUgb1; clear GUgb14; clear HB; clear HBM; have HOR5 := n0_; have HOR7 := n1_; have HOR11 := n2_; have HOR13 := n3_; have HOR16 := n4_; have HOR20 := n5_; have HOR23 := n6_; have HOR26 := n7_; have HOR37 := n8_; have HOR39 := n9_; have HOR43 := n10_; have UPR5 := n11_; have UPR7 := n12_; have UPR11 := n13_; have UPR13 := n14_; have UPR16 := n15_; have UPR20 := n16_; have UPR23 := n17_; have UPR26 := n18_; have UPR37 := n19_; have UPR39 := n20_; have UPR43 := n21_; have BKgb1 := n22_; have BKgb14 := n23_; have GUgb1 := n24_; have GUgb14 := n25_; have HB := n26_; have HBM := n27_; clear n0_ n1_ n2_ n3_ n4_ n5_ n6_ n7_ n8_ n9_ n10_ n11_ n12_ n13_ n14_ n15_ n16_ n17_ n18_ n19_ n20_ n21_ n22_ n23_ n24_ n25_ n26_ n27_; clear hb; clear hd; (try clear hczgb1_0); (try clear hfzgb1_0); (try clear hczgb14_0); (try clear hfzgb14_0); have hczgb1_0 : w_26.cell? ⟨gb1, 0, none⟩ = some (.slice A0_0 l0_0.length c0_0) := (blk_cell BKgb1.out 0).trans rfl; have hfzgb1_0 := blk_frozen BKgb1.out 0; have hczgb14_0 : w_26.cell? ⟨gb14, 0, none⟩ = some (.slice AR13 t12.length cR13) := (blk_cell BKgb14.out 0).trans rfl; have hfzgb14_0 := blk_frozen BKgb14.out 0) | ((with_reducible refine gate_callee (f := 28) rfl ?_); refine goesL_ (some 134) rfl rfl Try.func28 (by kernel_rfl) rfl #[.slice AR20 t34.length cR20, .int .i64 1] rfl (by (try simp only [List.map_toArray, List.map_cons, List.map_nil]); first | done | rfl | (simp only [show t34.length = t17.length from (Kd.S_reads' HOR20.out).1.symm]; rfl)) ?_; (with_reducible refine (laws_heldInt64SS.calls k _ _ t34 1 t45 _ ?side1 ?side2 E37.out).mono ?_); (case side1 => exact (Kd.S_reads' HOR20.out).2.2); (case side2 => exact (fun h_ => h_.1 ▸ h_.2.1) (Kd.S_reads' HOR20.out)); rintro e w_27 ⟨rfl, hd⟩; have hb := Drawn0.below hd; refine ⟨_, rfl, ?_⟩; have n0_ := Aside0.mk (Kd.S_below HOR5.out hb); have n1_ := Aside0.mk (Kd.S_below HOR7.out hb); have n2_ := Aside0.mk (Kd.S_below HOR11.out hb); have n3_ := Aside0.mk (Kd.S_below HOR13.out hb); have n4_ := Aside0.mk (Kd.S_below HOR16.out hb); have n5_ := Aside0.mk (Kd.S_below HOR20.out hb); have n6_ := Aside0.mk (Kd.S_below HOR23.out hb); have n7_ := Aside0.mk (Kd.S_below HOR26.out hb); have n8_ := Aside0.mk (Kd.S_below HOR37.out hb); have n9_ := Aside0.mk (Kd.S_below HOR39.out hb); have n10_ := Aside0.mk (Kd.S_below HOR43.out hb); have n11_ := Aside0.mk (Nat.le_trans UPR5.out hb.size); have n12_ := Aside0.mk (Nat.le_trans UPR7.out hb.size); have n13_ := Aside0.mk (Nat.le_trans UPR11.out hb.size); have n14_ := Aside0.mk (Nat.le_trans UPR13.out hb.size); have n15_ := Aside0.mk (Nat.le_trans UPR16.out hb.size); have n16_ := Aside0.mk (Nat.le_trans UPR20.out hb.size); have n17_ := Aside0.mk (Nat.le_trans UPR23.out hb.size); have n18_ := Aside0.mk (Nat.le_trans UPR26.out hb.size); have n19_ := Aside0.mk (Nat.le_trans UPR37.out hb.size); have n20_ := Aside0.mk (Nat.le_trans UPR39.out hb.size); have n21_ := Aside0.mk (Nat.le_trans UPR43.out hb.size); have n22_ := Aside0.mk (blk_below (g := gb1) BKgb1.out hb); have n23_ := Aside0.mk (blk_below (g := gb14) BKgb14.out hb); have n24_ := Aside0.mk (Nat.lt_of_lt_of_le GUgb1.out hb.size); have n25_ := Aside0.mk (Nat.lt_of_lt_of_le GUgb14.out hb.size); have n26_ := Aside0.mk (below_step HB.out hb); have n27_ := Aside0.mk (below_step HBM.out hb); clear HOR5; clear HOR7; clear HOR11; clear HOR13; clear HOR16; clear HOR20; clear HOR23; clear HOR26; clear HOR37; clear HOR39; clear HOR43; clear UPR5; clear UPR7; clear UPR11; clear UPR13; clear UPR16; clear UPR20; clear UPR23; clear UPR26; clear UPR37; clear UPR39; clear UPR43; clear BKgb1; clear BKgb14; clear GUgb1; clear GUgb14; clear HB; clear HBM; have HOR5 := n0_; have HOR7 := n1_; have HOR11 := n2_; have HOR13 := n3_; have HOR16 := n4_; have HOR20 := n5_; have HOR23 := n6_; have HOR26 := n7_; have HOR37 := n8_; have HOR39 := n9_; have HOR43 := n10_; have UPR5 := n11_; have UPR7 := n12_; have UPR11 := n13_; have UPR13 := n14_; have UPR16 := n15_; have UPR20 := n16_; have UPR23 := n17_; have UPR26 := n18_; have UPR37 := n19_; have UPR39 := n20_; have UPR43 := n21_; have BKgb1 := n22_; have BKgb14 := n23_; have GUgb1 := n24_; have GUgb14 := n25_; have HB := n26_; have HBM := n27_; clear n0_ n1_ n2_ n3_ n4_ n5_ n6_ n7_ n8_ n9_ n10_ n11_ n12_ n13_ n14_ n15_ n16_ n17_ n18_ n19_ n20_ n21_ n22_ n23_ n24_ n25_ n26_ n27_; clear hb; clear hd; (try clear hczgb1_0); (try clear hfzgb1_0); (try clear hczgb14_0); (try clear hfzgb14_0); have hczgb1_0 : w_27.cell? ⟨gb1, 0, none⟩ = some (.slice A0_0 l0_0.length c0_0) := (blk_cell BKgb1.out 0).trans rfl; have hfzgb1_0 := blk_frozen BKgb1.out 0; have hczgb14_0 : w_27.cell? ⟨gb14, 0, none⟩ = some (.slice AR13 t12.length cR13) := (blk_cell BKgb14.out 0).trans rfl; have hfzgb14_0 := blk_frozen BKgb14.out 0))
 go_ret
 exact ⟨by first | rfl | (simp; done) | (simp [*]; done), HB.out⟩
theorem laws_FnExactPathDither.walk (P : laws_FnExactPathDither.Pure) (A0_0 : Option Addr) (c0_0 : Nat) (l0_0 : List (List Int)) (A1 : Option Addr) (c1 : Nat) (l1 : List (List Int)) (w : World) (hr0_0 : Kd.C (Kd.slice 2 (Kd.int .i64)) w A0_0 l0_0.length l0_0) (hc0_0 : l0_0.length ≤ c0_0) (hr1 : Kd.C (Kd.slice 2 (Kd.int .i64)) w A1 l1.length l1) (hc1 : l1.length ≤ c1) (w0_0 : (l0_0.length ≤ maxLen ∧ ∀ y ∈ l0_0, (y.length ≤ maxLen ∧ ∀ y_ ∈ y, (Lit.int .i64 y_).wf = true))) (w1 : (l1.length ≤ maxLen ∧ ∀ y ∈ l1, (y.length ≤ maxLen ∧ ∀ y_ ∈ y, (Lit.int .i64 y_).wf = true))) :
  Calls Try.prog 13 #[.agg #[.slice A0_0 l0_0.length c0_0], .slice A1 l1.length c1] w fun e w' => e = .returned (.bool true) ∧ Below w.heap.size w w' := by
 obtain ⟨k, h⟩ := P l0_0 l1 w0_0 w1
 exact laws_FnExactPathDither.calls k A0_0 c0_0 l0_0 A1 c1 l1 w hr0_0 hc0_0 hr1 hc1 h
end Go.Proofs.Ytgndemjphjhahaa.Q
namespace Go.Proofs.Ytgndemjphjhahaa.Com
open Go.RowKit Go.Proofs.YtgndemjphjhahaaW.PrintWords
theorem w64 {x : Int} (h1 : -9223372036854775808 ≤ x) (h2 : x ≤ 9223372036854775807) : wrap64 x = x := by
 unfold wrap64
 omega
theorem mul_bd {a b A B : Int} (h0 : 0 ≤ a) (h1 : a ≤ A) (h2 : 0 ≤ b) (h3 : b ≤ B) : 0 ≤ a * b ∧ a * b ≤ A * B :=
 ⟨Int.mul_nonneg h0 h2, Int.mul_le_mul h1 h3 h2 (Int.le_trans h0 h1)⟩
theorem ev_of {α : Type} {g : Nat → Option α} {r : α} (h : Ev g r) : ∃ k, g k = some r := h.rounds
theorem ev_bind' {α β : Type} {o : Option α} {f : Nat → α → Option β} {a : α} {r : β} (h : o = some a) (k : Ev (fun n => f n a) r) : Ev (fun n => o.bind (f n)) r := by
 subst h
 exact k
end Go.Proofs.Ytgndemjphjhahaa.Com
namespace Go.Proofs.Ytgndemjphjhahaa.Com
set_option linter.unusedSimpArgs false
set_option linter.unusedVariables false
open Go.RowKit Go.Proofs.YtgndemjphjhahaaW.PrintWords
theorem ev_fold {α σ ρ : Type} (xs : List α) (g : Nat → σ → Nat → Option ρ) (F : List α → σ → ρ) (Inv : Nat → σ → Prop)
  (h0 : ∀ s, Inv xs.length s → Ev (g xs.length s) (F [] s))
  (hs : ∀ m (h : m < xs.length) s, Inv m s → (∀ s', Inv (m + 1) s' → Ev (g (m + 1) s') (F (xs.drop (m + 1)) s')) → Ev (g m s) (F (xs[m] :: xs.drop (m + 1)) s)) :
  ∀ m s, m ≤ xs.length → Inv m s → Ev (g m s) (F (xs.drop m) s) := by
 have key : ∀ d m s, m + d = xs.length → Inv m s → Ev (g m s) (F (xs.drop m) s) := by
  intro d
  induction d with
  | zero =>
   intro m s e hi
   obtain rfl : m = xs.length := by omega
   rw [List.drop_length]
   exact h0 s hi
  | succ d ih =>
   intro m s e hi
   have h : m < xs.length := by omega
   rw [List.drop_eq_getElem_cons h]
   exact hs m h s hi (fun s' hi' => ih (m + 1) s' (by omega) hi')
 intro m s hm hi
 exact key (xs.length - m) m s (by omega) hi
theorem ev_list {α ρ : Type} (xs : List α) (g : Nat → Nat → Option ρ) (F : List α → ρ) (h0 : Ev (g xs.length) (F []))
  (hs : ∀ m (h : m < xs.length), Ev (g (m + 1)) (F (xs.drop (m + 1))) → Ev (g m) (F (xs[m] :: xs.drop (m + 1)))) (m : Nat) (hm : m ≤ xs.length) : Ev (g m) (F (xs.drop m)) :=
 ev_fold xs (fun m (_ : Unit) => g m) (fun l _ => F l) (fun _ _ => True) (fun _ _ => h0) (fun m h _ _ ih => hs m h (ih () trivial)) m () hm trivial
theorem ev_count {σ ρ : Type} (n : Nat) (g : Nat → σ → Nat → Option ρ) (r : ρ) (Inv : Nat → σ → Prop) (h0 : ∀ s, Inv n s → Ev (g n s) r)
  (hs : ∀ m s, m < n → Inv m s → ∃ s', Inv (m + 1) s' ∧ (Ev (g (m + 1) s') r → Ev (g m s) r)) : ∀ m s, m ≤ n → Inv m s → Ev (g m s) r := by
 have key : ∀ d m s, m + d = n → Inv m s → Ev (g m s) r := by
  intro d
  induction d with
  | zero =>
   intro m s e hi
   obtain rfl : m = n := by omega
   exact h0 s hi
  | succ d ih =>
   intro m s e hi
   obtain ⟨s', hi', k⟩ := hs m s (by omega) hi
   exact k (ih (m + 1) s' (by omega) hi')
 intro m s hm hi
 exact key (n - m) m s (by omega) hi
theorem rd_nat {xs : List Int} {m : Nat} (h : m < xs.length) : rd xs (m : Int) = xs[m] := by
 unfold rd
 rw [Int.toNat_natCast, List.getD_eq_getElem?_getD, List.getElem?_eq_getElem h]
 rfl
theorem w_succ {m : Nat} (h : m < 9223372036854775807) : wrap64 ((m : Int) + 1) = ((m + 1 : Nat) : Int) := by
 rw [w64 (by omega) (by omega)]
 omega
end Go.Proofs.Ytgndemjphjhahaa.Com
namespace Go.Proofs.Ytgndemjphjhahaa.Com
set_option linter.unusedSimpArgs false
set_option linter.unusedVariables false
open Go.RowKit Go.Proofs.YtgndemjphjhahaaW.PrintWords Go.Proofs.Ytgndemjphjhahaa.Q
theorem set_take (xs : List Int) (m : Nat) (h : m < xs.length) : (xs.take m ++ List.replicate (xs.length - m) 0).set m xs[m] = xs.take (m + 1) ++ List.replicate (xs.length - (m + 1)) 0 := by
 have hl : (xs.take m).length = m := by rw [List.length_take]; omega
 rw [List.set_append_right _ _ (by omega), hl, Nat.sub_self]
 obtain ⟨q, hq⟩ : ∃ q, xs.length - m = q + 1 := ⟨xs.length - m - 1, by omega⟩
 rw [hq, List.replicate_succ, List.set_cons_zero, show xs.length - (m + 1) = q by omega, List.take_succ_eq_append_getElem h, List.append_assoc]
 rfl
theorem toInt64S_ev (xs : List Int) (hx : xs.length ≤ 1048576) : Ev (fun k => laws_toInt64S.f k xs) xs := by
 unfold laws_toInt64S.f
 simp only [if_pos (show 0 ≤ (xs.length : Int) by omega), if_pos (show ((xs.length : Int)).toNat ≤ 35184372088832 by omega)]
 have := ev_count xs.length (fun m s k => laws_toInt64S.l0 k xs s (m : Int)) xs (fun m s => s = xs.take m ++ List.replicate (xs.length - m) 0) (fun s hs => ?_) (fun m s hm hs => ⟨xs.take (m + 1) ++ List.replicate (xs.length - (m + 1)) 0, rfl, fun ih => ?_⟩) 0 (List.replicate xs.length 0) (by omega) (by simp)
 ·simpa using this
 ·refine Ev.step (fun k => by rw [laws_toInt64S.l0]) ?_
  simp only [if_neg (show ¬ (xs.length : Int) < (xs.length : Int) by omega)]
  subst hs
  simp
  exact Ev.now _
 ·refine Ev.step (fun k => by rw [laws_toInt64S.l0]) ?_
  subst hs
  have hl : (xs.take m ++ List.replicate (xs.length - m) 0).length = xs.length := by simp; omega
  simp only [if_pos (show (m : Int) < (xs.length : Int) by omega), if_pos (show 0 ≤ (m : Int) by omega), hl, rd_nat hm, Int.toNat_natCast, set_take xs m hm, w_succ (m := m) (by omega)]
  exact ih
theorem eqInt64S_ev (xs ys : List Int) (hx : xs.length ≤ 1048576) : Ev (fun k => laws_eqInt64S.f k xs ys) (decide (xs = ys)) := by
 unfold laws_eqInt64S.f
 by_cases hl : (xs.length : Int) = (ys.length : Int)
 ·simp only [if_pos hl]
  have key : ∀ m, m ≤ xs.length → Ev (fun k => laws_eqInt64S.l0 k xs ys (m : Int)) (decide (xs.drop m = ys.drop m)) := by
   have gen := ev_list xs (fun m k => laws_eqInt64S.l0 k xs ys (m : Int)) (fun l => decide (l = ys.drop (xs.length - l.length))) ?_ ?_
   ·intro m hm
    have := gen m hm
    rwa [List.length_drop, show xs.length - (xs.length - m) = m by omega] at this
   ·refine Ev.step (fun k => by rw [laws_eqInt64S.l0]) ?_
    simp only [if_neg (show ¬ (xs.length : Int) < (xs.length : Int) by omega)]
    have : ys.drop (xs.length - ([] : List Int).length) = [] := by simp; omega
    rw [this]
    exact Ev.now _
   ·intro m hm ih
    refine Ev.step (fun k => by rw [laws_eqInt64S.l0]) ?_
    have hy : m < ys.length := by omega
    simp only [if_pos (show (m : Int) < (xs.length : Int) by omega), if_pos (show 0 ≤ (m : Int) by omega), if_pos (show (m : Int) < (ys.length : Int) by omega), rd_nat hm, rd_nat hy, w_succ (m := m) (by omega)]
    rw [List.length_drop, show xs.length - (xs.length - (m + 1)) = m + 1 by omega] at ih
    have e : xs.length - (xs[m] :: xs.drop (m + 1)).length = m := by simp; omega
    rw [e, List.drop_eq_getElem_cons hy]
    by_cases c : xs[m] = ys[m]
    ·simp only [if_pos c]
     rw [show decide (xs[m] :: xs.drop (m + 1) = ys[m] :: ys.drop (m + 1)) = decide (xs.drop (m + 1) = ys.drop (m + 1)) from decide_eq_decide.2 (by rw [c]; exact ⟨fun h => (List.cons.inj h).2, fun h => by rw [h]⟩)]
     exact ih
    ·simp only [if_neg c]
     rw [decide_eq_false (show ¬ xs[m] :: xs.drop (m + 1) = ys[m] :: ys.drop (m + 1) from fun h => c (List.cons.inj h).1)]
     exact Ev.now _
  have := key 0 (by omega)
  simpa using this
 ·simp only [if_neg hl]
  have : xs ≠ ys := fun e => hl (by rw [e])
  rw [decide_eq_false this]
  exact Ev.now _
theorem sz_tells (xs : List Int) (a : Int) (hx : xs.length ≤ maxLen) (ha : -1 ≤ a ∧ a ≤ 1048576) : laws_szInt64S.f xs a = some (if a - xs.length < 0 then -1 else a - xs.length) := by
 unfold laws_szInt64S.f
 unfold maxLen at hx
 rw [w64 (by omega) (by omega)]
 split <;> rfl
end Go.Proofs.Ytgndemjphjhahaa.Com
namespace Go.Proofs.Ytgndemjphjhahaa.Com
set_option linter.unusedSimpArgs false
set_option linter.unusedVariables false
open Go.RowKit Go.Proofs.YtgndemjphjhahaaW.PrintWords Go.Proofs.Ytgndemjphjhahaa.Q
theorem within_tells (x a b : Int) : impl_within.f x a b = some (decide (a ≤ x ∧ x ≤ b)) := by
 unfold impl_within.f
 split <;> simp [*]
theorem in_tells (x a b : Int) : spec_l00In.f x a b = some (decide (a ≤ x ∧ x ≤ b)) := by
 unfold spec_l00In.f
 by_cases h : x ≥ a
 ·have h' : a ≤ x := h
  simp [h, h']
 ·have h' : ¬ a ≤ x := h
  simp [h, h']
end Go.Proofs.Ytgndemjphjhahaa.Com
namespace Go.Proofs.Ytgndemjphjhahaa.Com
set_option linter.unusedSimpArgs false
set_option linter.unusedVariables false
set_option linter.unusedSectionVars false
open Go.RowKit Go.Proofs.YtgndemjphjhahaaW.PrintWords Go.Proofs.YtgndemjphjhahaaW.PrintMore Go.Proofs.Ytgndemjphjhahaa.Q
theorem rdr_nat {xs : List (List Int)} {m : Nat} (h : m < xs.length) : rd_L3 xs (m : Int) = xs[m] := by
 unfold rd_L3
 rw [Int.toNat_natCast, List.getD_eq_getElem?_getD, List.getElem?_eq_getElem h]
 rfl
theorem setr_take (xs : List (List Int)) (m : Nat) (h : m < xs.length) : (xs.take m ++ List.replicate (xs.length - m) []).set m xs[m] = xs.take (m + 1) ++ List.replicate (xs.length - (m + 1)) [] := by
 have hl : (xs.take m).length = m := by rw [List.length_take]; omega
 rw [List.set_append_right _ _ (by omega), hl, Nat.sub_self]
 obtain ⟨q, hq⟩ : ∃ q, xs.length - m = q + 1 := ⟨xs.length - m - 1, by omega⟩
 rw [hq, List.replicate_succ, List.set_cons_zero, show xs.length - (m + 1) = q by omega, List.take_succ_eq_append_getElem h, List.append_assoc]
 rfl
theorem toInt64SS_ev (xs : List (List Int)) (hx : xs.length ≤ 1048576) (hr : ∀ x ∈ xs, x.length ≤ 1048576) : Ev (fun k => laws_toInt64SS.f k xs) xs := by
 unfold laws_toInt64SS.f
 simp only [if_pos (show 0 ≤ (xs.length : Int) by omega), if_pos (show ((xs.length : Int)).toNat ≤ 11728124029610 by omega)]
 have := ev_count xs.length (fun m s k => laws_toInt64SS.l0 k xs s (m : Int)) xs (fun m s => s = xs.take m ++ List.replicate (xs.length - m) []) (fun s hs => ?_) (fun m s hm hs => ⟨xs.take (m + 1) ++ List.replicate (xs.length - (m + 1)) [], rfl, fun ih => ?_⟩) 0 (List.replicate xs.length []) (by omega) (by simp)
 ·simpa using this
 ·refine Ev.step (fun k => by rw [laws_toInt64SS.l0]) ?_
  simp only [if_neg (show ¬ (xs.length : Int) < (xs.length : Int) by omega)]
  subst hs
  simp
  exact Ev.now _
 ·refine Ev.step (fun k => by rw [laws_toInt64SS.l0]) ?_
  subst hs
  have hl : (xs.take m ++ List.replicate (xs.length - m) []).length = xs.length := by simp; omega
  simp only [if_pos (show (m : Int) < (xs.length : Int) by omega), if_pos (show 0 ≤ (m : Int) by omega), hl, rdr_nat hm, w_succ (m := m) (by omega)]
  refine Ev.bind (toInt64S_ev xs[m] (hr _ (List.getElem_mem hm))) ?_
  simp only [Int.toNat_natCast, setr_take xs m hm]
  exact ih
theorem eqInt64SS_ev (xs : List (List Int)) (hx : xs.length ≤ 1048576) (hr : ∀ x ∈ xs, x.length ≤ 1048576) : Ev (fun k => laws_eqInt64SS.f k xs xs) true := by
 unfold laws_eqInt64SS.f
 simp only [if_true]
 have gen := ev_list xs (fun m k => laws_eqInt64SS.l0 k xs xs (m : Int)) (fun _ => true) ?_ ?_ 0 (by omega)
 ·exact gen
 ·refine Ev.step (fun k => by rw [laws_eqInt64SS.l0]) ?_
  simp only [if_neg (show ¬ (xs.length : Int) < (xs.length : Int) by omega)]
  exact Ev.now _
 ·intro m hm ih
  refine Ev.step (fun k => by rw [laws_eqInt64SS.l0]) ?_
  simp only [if_pos (show (m : Int) < (xs.length : Int) by omega), if_pos (show 0 ≤ (m : Int) by omega), rdr_nat hm, w_succ (m := m) (by omega)]
  refine Ev.bind (eqInt64S_ev xs[m] xs[m] (hr _ (List.getElem_mem hm))) ?_
  simp only [decide_true, if_true]
  exact ih
def szr (a : Int) : List (List Int) → Int
 | [] => a
 | x :: r => if a - x.length < 0 then -1 else szr (a - x.length) r
theorem szr_tells (l : List (List Int)) : ∀ a, a ≤ 1048576 → 0 ≤ szr a l → ∀ x ∈ l, x.length ≤ 1048576 := by
 induction l with
 | nil => intro a _ _ x hx; simp at hx
 | cons y r ih =>
  intro a ha h x hx
  unfold szr at h
  split at h
  ·omega
  ·rcases List.mem_cons.1 hx with rfl | hx
   ·omega
   ·exact ih _ (by omega) h x hx
theorem szr_ge (l : List (List Int)) : ∀ a, 0 ≤ a → -1 ≤ szr a l := by
 induction l with
 | nil => intro a h; unfold szr; omega
 | cons y r ih =>
  intro a h
  unfold szr
  split
  ·omega
  ·exact ih _ (by omega)
def rowOk (n : Nat) (b : Int) (x : List Int) : Bool := decide (x.length = n) && x.all fun z => decide (0 ≤ z ∧ z ≤ b)
def rowsForm (b : Int) (l : List (List Int)) : Bool := match l with
 | [] => false
 | y :: _ => decide (l.length ≤ 12) && decide (1 ≤ y.length ∧ y.length ≤ 12) && l.all (rowOk y.length b)
theorem areRows_tells (l : List (List Int)) (b : Int) : impl_areRows.f l b = some (rowsForm b l) := by
 cases l with
 | nil => rfl
 | cons y r =>
  unfold impl_areRows.f rowsForm
  simp only
  congr 1
  rw [List.not_any_eq_all_not]
  congr 2
  funext x
  unfold impl_areRows.p rowOk
  by_cases h : x.length = y.length <;> simp [h]
theorem form_ev (l : List (List Int)) (b : Int) (hx : l.length ≤ 1048576) (hr : ∀ x ∈ l, x.length ≤ 1048576) : Ev (fun k => spec_l09Form.f k l b) (rowsForm b l) := by
 have jf : Ev (fun k => spec_l09Form.j0 k l b true) false := Ev.step (fun k => by rw [spec_l09Form.j0]) (by simp only [if_true]; exact Ev.now _)
 unfold spec_l09Form.f
 cases l with
 | nil =>
  simp only [if_pos (show (([] : List (List Int)).length : Int) < 1 by decide)]
  exact jf
 | cons y r =>
  have e0 : rd_L3 (y :: r) 0 = y := rdr_nat (xs := y :: r) (m := 0) (by rw [List.length_cons]; omega)
  have hl : (y :: r).length = r.length + 1 := rfl
  simp only [if_neg (show ¬ ((y :: r).length : Int) < 1 by omega), if_pos (show 0 < ((y :: r).length : Int) by omega), e0]
  have ef : rowsForm b (y :: r) = (decide ((y :: r).length ≤ 12) && decide (1 ≤ y.length ∧ y.length ≤ 12) && (y :: r).all (rowOk y.length b)) := rfl
  by_cases h1 : ((y :: r).length : Int) > 12
  ·simp only [if_pos h1]
   rw [ef, decide_eq_false (show ¬ (y :: r).length ≤ 12 by omega), Bool.false_and, Bool.false_and]
   exact jf
  ·simp only [if_neg h1]
   rw [ef, decide_eq_true (show (y :: r).length ≤ 12 by omega), Bool.true_and]
   by_cases h2 : (y.length : Int) < 1
   ·simp only [if_pos h2]
    rw [decide_eq_false (show ¬ (1 ≤ y.length ∧ y.length ≤ 12) by omega), Bool.false_and]
    exact jf
   ·simp only [if_neg h2]
    by_cases h3 : (y.length : Int) > 12
    ·rw [decide_eq_true h3, decide_eq_false (show ¬ (1 ≤ y.length ∧ y.length ≤ 12) by omega), Bool.false_and]
     exact jf
    ·rw [decide_eq_false h3, decide_eq_true (show 1 ≤ y.length ∧ y.length ≤ 12 by omega), Bool.true_and]
     refine Ev.step (fun k => by rw [spec_l09Form.j0]) ?_
     simp only [Bool.false_eq_true, if_false]
     generalize y :: r = l at hx hr e0 hl h1
     have gen := ev_list l (fun m k => spec_l09Form.l0 k l b (m : Int)) (fun d => d.all (rowOk y.length b)) ?_ ?_ 0 (by omega)
     ·exact gen
     ·refine Ev.step (fun k => by rw [spec_l09Form.l0]) ?_
      simp only [if_neg (show ¬ (l.length : Int) < (l.length : Int) by omega), List.all_nil]
      exact Ev.now _
     ·intro m hm ih
      have hrm := hr _ (List.getElem_mem hm)
      refine Ev.step (fun k => by rw [spec_l09Form.l0]) ?_
      simp only [if_pos (show (m : Int) < (l.length : Int) by omega), if_pos (show 0 ≤ (m : Int) by omega), if_pos (show 0 < (l.length : Int) by omega), rdr_nat hm, e0]
      rw [List.all_cons]
      by_cases q : l[m].length = y.length
      ·simp only [if_pos (show (l[m].length : Int) = (y.length : Int) by omega)]
       have er : rowOk y.length b l[m] = l[m].all fun z => decide (0 ≤ z ∧ z ≤ b) := by unfold rowOk; rw [decide_eq_true q, Bool.true_and]
       rw [er]
       have gen := ev_list l[m] (fun j k => spec_l09Form.l1 k l b (m : Int) (j : Int)) (fun d => (d.all fun z => decide (0 ≤ z ∧ z ≤ b)) && (l.drop (m + 1)).all (rowOk y.length b)) ?_ ?_ 0 (by omega)
       ·exact gen
       ·refine Ev.step (fun k => by rw [spec_l09Form.l1]) ?_
        simp only [if_pos (show (m : Int) < (l.length : Int) by omega), if_pos (show 0 ≤ (m : Int) by omega), rdr_nat hm, if_neg (show ¬ (l[m].length : Int) < (l[m].length : Int) by omega), w_succ (m := m) (by omega), List.all_nil, Bool.true_and]
        exact ih
       ·intro j hj ih2
        refine Ev.step (fun k => by rw [spec_l09Form.l1]) ?_
        simp only [if_pos (show (m : Int) < (l.length : Int) by omega), if_pos (show 0 ≤ (m : Int) by omega), rdr_nat hm, if_pos (show (j : Int) < (l[m].length : Int) by omega), if_pos (show 0 ≤ (j : Int) by omega), rd_nat hj, in_tells, Option.bind_some, decide_eq_true_eq, w_succ (m := j) (by omega)]
        rw [List.all_cons]
        by_cases c : 0 ≤ l[m][j] ∧ l[m][j] ≤ b
        ·simp only [if_pos c]
         rw [decide_eq_true c, Bool.true_and]
         exact ih2
        ·simp only [if_neg c]
         rw [decide_eq_false c, Bool.false_and, Bool.false_and]
         exact Ev.now _
      ·simp only [if_neg (show ¬ (l[m].length : Int) = (y.length : Int) by omega)]
       have er : rowOk y.length b l[m] = false := by unfold rowOk; rw [decide_eq_false q, Bool.false_and]
       rw [er, Bool.false_and]
       exact Ev.now _
end Go.Proofs.Ytgndemjphjhahaa.Com
namespace Go.Proofs.Ytgndemjphjhahaa.Com
set_option linter.unusedSimpArgs false
set_option linter.unusedVariables false
open Go.RowKit Go.Proofs.YtgndemjphjhahaaW.PrintWords Go.Proofs.Ytgndemjphjhahaa.Q
def markL (n : Nat) (a : Int) : List Int := (List.range n).map fun (i : Nat) => a + (i : Int)
theorem markL_len (n : Nat) (a : Int) : (markL n a).length = n := by simp [markL]
theorem markL_at (n : Nat) (a : Int) (i : Nat) (h : i < (markL n a).length) : (markL n a)[i] = a + i := by simp [markL]
theorem markL_succ (n : Nat) (a : Int) : markL (n + 1) a = markL n a ++ [a + n] := by
 unfold markL
 rw [List.range_succ, List.map_append]
 rfl
theorem mark_set (xs : List Int) (m : Nat) (a : Int) (h : m < xs.length) : (markL m a ++ xs.drop m).set m (a + m) = markL (m + 1) a ++ xs.drop (m + 1) := by
 rw [List.set_append_right _ _ (by rw [markL_len]; omega), markL_len, Nat.sub_self, List.drop_eq_getElem_cons h, List.set_cons_zero, markL_succ, List.append_assoc]
 rfl
theorem markInt64S_ev (xs : List Int) (a : Int) (hx : xs.length ≤ 1048576) (ha : 0 ≤ a ∧ a ≤ 1000000000000) : Ev (fun k => laws_markInt64S.f k xs a) (a + xs.length, markL xs.length a) := by
 unfold laws_markInt64S.f
 have gen := ev_count xs.length (fun m (s : List Int × Int) k => laws_markInt64S.l0 k s.1 s.2 (m : Int)) (a + (xs.length : Int), markL xs.length a) (fun m s => s = (markL m a ++ xs.drop m, a + m)) ?_ ?_ 0 (xs, a) (by omega) (by simp [markL])
 ·exact gen
 ·rintro s rfl
  refine Ev.step (fun k => by rw [laws_markInt64S.l0]) ?_
  have hl : (markL xs.length a ++ xs.drop xs.length).length = xs.length := by rw [List.length_append, markL_len, List.length_drop]; omega
  rw [List.drop_length, List.append_nil] at hl ⊢
  simp only [hl, if_neg (show ¬ (xs.length : Int) < (xs.length : Int) by omega)]
  exact Ev.now _
 ·rintro m s hm rfl
  refine ⟨_, rfl, fun ih => ?_⟩
  refine Ev.step (fun k => by rw [laws_markInt64S.l0]) ?_
  have hl : (markL m a ++ xs.drop m).length = xs.length := by rw [List.length_append, markL_len, List.length_drop]; omega
  simp only [hl, if_pos (show (m : Int) < (xs.length : Int) by omega), if_pos (show 0 ≤ (m : Int) by omega), Int.toNat_natCast, mark_set xs m a hm, w_succ (m := m) (by omega)]
  rw [w64 (by omega) (by omega)]
  simp only at ih
  rwa [show a + ((m + 1 : Nat) : Int) = a + (m : Int) + 1 by omega] at ih
theorem heldInt64S_ev (n : Nat) (a : Int) (hx : n ≤ 1048576) (ha : 0 ≤ a ∧ a ≤ 1000000000000) : Ev (fun k => laws_heldInt64S.f k (markL n a) a) (a + n) := by
 unfold laws_heldInt64S.f
 have gen := ev_count n (fun m (s : Int) k => laws_heldInt64S.l0 k (markL n a) s (m : Int)) (a + (n : Int)) (fun m s => s = a + m) ?_ ?_ 0 a (by omega) (by simp)
 ·exact gen
 ·rintro s rfl
  refine Ev.step (fun k => by rw [laws_heldInt64S.l0]) ?_
  simp only [markL_len, if_neg (show ¬ (n : Int) < (n : Int) by omega)]
  exact Ev.now _
 ·rintro m s hm rfl
  refine ⟨_, rfl, fun ih => ?_⟩
  refine Ev.step (fun k => by rw [laws_heldInt64S.l0]) ?_
  have h : m < (markL n a).length := by rw [markL_len]; exact hm
  simp only [if_pos (show (m : Int) < ((markL n a).length : Int) by rw [markL_len]; omega), if_pos (show 0 ≤ (m : Int) by omega), rd_nat h, markL_at, if_true, w_succ (m := m) (by omega)]
  rw [w64 (by omega) (by omega)]
  rwa [show a + ((m + 1 : Nat) : Int) = a + (m : Int) + 1 by omega] at ih
end Go.Proofs.Ytgndemjphjhahaa.Com
namespace Go.Proofs.Ytgndemjphjhahaa.Com
set_option linter.unusedSimpArgs false
set_option linter.unusedVariables false
set_option linter.unusedSectionVars false
open Go.RowKit Go.Proofs.YtgndemjphjhahaaW.PrintWords Go.Proofs.YtgndemjphjhahaaW.PrintMore Go.Proofs.Ytgndemjphjhahaa.Q
def tot : List (List Int) → Int
 | [] => 0
 | x :: r => (x.length : Int) + tot r
theorem tot_nn (l : List (List Int)) : 0 ≤ tot l := by
 induction l with
 | nil => exact Int.le_refl _
 | cons x r ih => unfold tot; omega
theorem tot_le (l : List (List Int)) (c : Nat) (h : ∀ x ∈ l, x.length ≤ c) : tot l ≤ (l.length * c : Nat) := by
 induction l with
 | nil => simp [tot]
 | cons x r ih =>
  have h1 := h x (List.mem_cons_self ..)
  have h2 := ih (fun y hy => h y (List.mem_cons_of_mem _ hy))
  unfold tot
  rw [List.length_cons, Nat.add_mul, Nat.one_mul]
  omega
theorem tot_take (xs : List (List Int)) (m : Nat) (h : m < xs.length) : tot (xs.take (m + 1)) = tot (xs.take m) + xs[m].length := by
 induction xs generalizing m with
 | nil => simp at h
 | cons y r ih =>
  cases m with
  | zero => simp [tot]
  | succ m =>
   simp only [List.take_succ_cons, tot, List.getElem_cons_succ]
   rw [ih m (by simpa using h)]
   omega
theorem tot_take_le (xs : List (List Int)) (m : Nat) : tot (xs.take m) ≤ tot xs := by
 induction xs generalizing m with
 | nil => simp
 | cons y r ih =>
  cases m with
  | zero => simp [tot]; have := tot_nn r; omega
  | succ m => simp only [List.take_succ_cons, tot]; have := ih m; omega
theorem szr_tot (l : List (List Int)) : ∀ a, 0 ≤ szr a l → szr a l = a - tot l := by
 induction l with
 | nil => intro a _; simp [szr, tot]
 | cons y r ih =>
  intro a h
  unfold szr at h ⊢
  unfold tot
  split at h
  ·omega
  ·rename_i c
   rw [if_neg c, ih _ h]
   omega
theorem szSS_ev (l : List (List Int)) (a : Int) (ha : 0 ≤ a ∧ a ≤ 1048576) (hl : l.length ≤ maxLen) (hr : ∀ x ∈ l, x.length ≤ maxLen) :
  ∃ t, Ev (fun k => laws_szInt64SS.f k l a) t ∧ (t = -1 ∨ (0 ≤ t ∧ t ≤ a ∧ l.length ≤ 1048576 ∧ (∀ x ∈ l, x.length ≤ 1048576) ∧ tot l ≤ 1048576)) := by
 unfold laws_szInt64SS.f
 have hm : maxLen ≤ 9223372036854775807 := by decide
 rw [w64 (x := a - (l.length : Int)) (by omega) (by omega)]
 by_cases h : a - (l.length : Int) < 0
 ·refine ⟨-1, ?_, .inl rfl⟩
  simp only [if_pos h]
  exact Ev.now _
 ·refine ⟨szr (a - l.length) l, ?_, ?_⟩
  ·simp only [if_neg h]
   have gen := ev_fold l (fun m (s : Int) k => laws_szInt64SS.l0 k l s (m : Int)) (fun d s => szr s d) (fun m s => 0 ≤ s ∧ s ≤ 1048576) ?_ ?_ 0 (a - (l.length : Int)) (by omega) ⟨by omega, by omega⟩
   ·exact gen
   ·intro s _
    refine Ev.step (fun k => by rw [laws_szInt64SS.l0]) ?_
    simp only [if_neg (show ¬ (l.length : Int) < (l.length : Int) by omega)]
    exact Ev.now _
   ·rintro m hm s ⟨s0, s1⟩ k
    refine Ev.step (fun k => by rw [laws_szInt64SS.l0]) ?_
    simp only [if_pos (show (m : Int) < (l.length : Int) by omega), if_pos (show 0 ≤ (m : Int) by omega), rdr_nat hm, w_succ (m := m) (by omega), sz_tells l[m] s (hr _ (List.getElem_mem hm)) (by omega), Option.bind_some]
    unfold szr
    by_cases c : s - (l[m].length : Int) < 0
    ·simp only [if_pos c, if_pos (show (-1 : Int) < 0 by omega)]
     exact Ev.now _
    ·simp only [if_neg c]
     exact k _ ⟨by omega, by omega⟩
  ·by_cases c : szr (a - l.length) l < 0
   ·have := szr_ge l (a - l.length) (by omega)
    exact .inl (by omega)
   ·have e := szr_tot l (a - l.length) (by omega)
    have := tot_nn l
    exact .inr ⟨by omega, by omega, by omega, szr_tells l (a - (l.length : Int)) (by omega) (by omega), by omega⟩
def markLL : List (List Int) → Int → List (List Int)
 | [], _ => []
 | x :: r, a => markL x.length a :: markLL r (a + x.length)
theorem markLL_len (xs : List (List Int)) : ∀ a, (markLL xs a).length = xs.length := by
 induction xs with
 | nil => intro a; rfl
 | cons x r ih => intro a; simp [markLL, ih]
theorem markLL_snoc (xs : List (List Int)) (x : List Int) : ∀ a, markLL (xs ++ [x]) a = markLL xs a ++ [markL x.length (a + tot xs)] := by
 induction xs with
 | nil => intro a; simp [markLL, tot]
 | cons y r ih => intro a; simp only [List.cons_append, markLL, tot, ih]; rw [Int.add_assoc]
theorem markLL_at (xs : List (List Int)) : ∀ a (m : Nat) (h : m < (markLL xs a).length) (h' : m < xs.length), (markLL xs a)[m] = markL xs[m].length (a + tot (xs.take m)) := by
 induction xs with
 | nil => intro a m h h'; simp at h'
 | cons y r ih =>
  intro a m h h'
  cases m with
  | zero => simp [markLL, tot]
  | succ m =>
   simp only [markLL, List.getElem_cons_succ, List.take_succ_cons, tot]
   rw [ih _ m (by rw [markLL_len]; simpa using h') (by simpa using h'), Int.add_assoc]
theorem setll (A : List (List Int)) (xs : List (List Int)) (m : Nat) (h : m < xs.length) (hA : A.length = m) (y : List Int) : (A ++ xs.drop m).set m y = A ++ [y] ++ xs.drop (m + 1) := by
 rw [List.drop_eq_getElem_cons h, List.set_append_right _ _ (by omega), hA, Nat.sub_self, List.set_cons_zero, List.append_assoc]
 rfl
theorem markSS_ev (xs : List (List Int)) (a : Int) (hx : xs.length ≤ 1048576) (hr : ∀ x ∈ xs, x.length ≤ 1048576) (ha : 0 ≤ a) (hb : a + tot xs ≤ 1000000000000) : Ev (fun k => laws_markInt64SS.f k xs a) (a + tot xs, markLL xs a) := by
 unfold laws_markInt64SS.f
 refine ev_count xs.length (fun m (s : List (List Int) × Int) k => laws_markInt64SS.l0 k s.1 s.2 (m : Int)) _ (fun m s => s = (markLL (xs.take m) a ++ xs.drop m, a + tot (xs.take m))) ?_ ?_ 0 (xs, a) (by omega) (by simp [markLL, tot])
 ·rintro _ rfl
  refine Ev.step (fun k => by rw [laws_markInt64SS.l0]) ?_
  simp only [List.take_length, List.drop_length, List.append_nil, markLL_len, if_neg (show ¬ (xs.length : Int) < (xs.length : Int) by omega)]
  exact Ev.now _
 ·rintro m _ hm rfl
  refine ⟨_, rfl, fun ih => ?_⟩
  have hA : (markLL (xs.take m) a).length = m := by rw [markLL_len, List.length_take]; omega
  have hl : (markLL (xs.take m) a ++ xs.drop m).length = xs.length := by rw [List.length_append, hA, List.length_drop]; omega
  have e : rd_L3 (markLL (xs.take m) a ++ xs.drop m) (m : Int) = xs[m] := by
   rw [rdr_nat (by omega), List.getElem_append_right (by omega)]
   simp [hA]
  have t1 := tot_take xs m hm
  have t2 := tot_take_le xs (m + 1)
  have t3 := tot_nn (xs.take m)
  refine Ev.step (fun k => by rw [laws_markInt64SS.l0]) ?_
  simp only [hl, if_pos (show (m : Int) < (xs.length : Int) by omega), if_pos (show 0 ≤ (m : Int) by omega), e, w_succ (m := m) (by omega), Int.toNat_natCast]
  refine Ev.bind (markInt64S_ev xs[m] (a + tot (xs.take m)) (hr _ (List.getElem_mem hm)) (by omega)) ?_
  simp only
  rw [setll _ xs m hm hA, ← markLL_snoc, ← List.take_succ_eq_append_getElem hm, Int.add_assoc, ← t1]
  exact ih
theorem heldSS_ev (xs : List (List Int)) (a : Int) (hx : xs.length ≤ 1048576) (hr : ∀ x ∈ xs, x.length ≤ 1048576) (ha : 0 ≤ a) (hb : a + tot xs ≤ 1000000000000) : Ev (fun k => laws_heldInt64SS.f k (markLL xs a) a) (a + tot xs) := by
 unfold laws_heldInt64SS.f
 refine ev_count xs.length (fun m (s : Int) k => laws_heldInt64SS.l0 k (markLL xs a) s (m : Int)) _ (fun m s => s = a + tot (xs.take m)) ?_ ?_ 0 a (by omega) (by simp [tot])
 ·rintro _ rfl
  refine Ev.step (fun k => by rw [laws_heldInt64SS.l0]) ?_
  simp only [List.take_length, markLL_len, if_neg (show ¬ (xs.length : Int) < (xs.length : Int) by omega)]
  exact Ev.now _
 ·rintro m _ hm rfl
  refine ⟨_, rfl, fun ih => ?_⟩
  have e : rd_L3 (markLL xs a) (m : Int) = markL xs[m].length (a + tot (xs.take m)) := by
   rw [rdr_nat (by rw [markLL_len]; exact hm), markLL_at xs a m (by rw [markLL_len]; exact hm) hm]
  have t1 := tot_take xs m hm
  have t2 := tot_take_le xs (m + 1)
  have t3 := tot_nn (xs.take m)
  refine Ev.step (fun k => by rw [laws_heldInt64SS.l0]) ?_
  simp only [markLL_len, if_pos (show (m : Int) < (xs.length : Int) by omega), if_pos (show 0 ≤ (m : Int) by omega), e, w_succ (m := m) (by omega)]
  refine Ev.bind (heldInt64S_ev xs[m].length (a + tot (xs.take m)) (hr _ (List.getElem_mem hm)) (by omega)) ?_
  simp only [if_neg (show ¬ a + tot (xs.take m) + (xs[m].length : Int) < 0 by omega)]
  rw [Int.add_assoc, ← t1]
  exact ih
def grid0 (R C : Nat) : List (List Int) := List.replicate R (List.replicate C 0)
theorem square_ev (R C : Nat) (hR : R ≤ 1000000) (hC : C ≤ 1000000) : Ev (fun k => spec_l09Square.f k (R : Int) (C : Int)) (grid0 R C) := by
 unfold spec_l09Square.f
 refine ev_count R (fun m (s : List (List Int)) k => spec_l09Square.l0 k (R : Int) (C : Int) s (m : Int)) _ (fun m s => s = List.replicate m (List.replicate C 0)) ?_ ?_ 0 [] (by omega) rfl
 ·rintro _ rfl
  refine Ev.step (fun k => by rw [spec_l09Square.l0]) ?_
  simp only [if_neg (show ¬ (R : Int) < (R : Int) by omega)]
  exact Ev.now _
 ·rintro m _ hm rfl
  refine ⟨_, rfl, fun ih => ?_⟩
  refine Ev.step (fun k => by rw [spec_l09Square.l0]) ?_
  simp only [if_pos (show (m : Int) < (R : Int) by omega), if_pos (show 0 ≤ (C : Int) by omega), Int.toNat_natCast, if_pos (show C ≤ 35184372088832 by omega), List.length_replicate, if_pos (show m < 5864062014805 by omega), w_succ (m := m) (by omega)]
  rw [← List.replicate_succ']
  exact ih
theorem noughts_ev (R C : Nat) (hR : R ≤ 1000000) (hC : C ≤ 1000000) : Ev (fun k => impl_noughts.f k (R : Int) (C : Int)) (grid0 R C) := by
 unfold impl_noughts.f
 simp only [if_pos (show 0 ≤ (R : Int) by omega), Int.toNat_natCast, if_pos (show R ≤ 11728124029610 by omega), Option.bind_some, List.length_replicate]
 refine ev_count R (fun m (s : List (List Int)) k => impl_noughts.l0 k (C : Int) s (R : Int) (m : Int)) _ (fun m s => s = List.replicate m (List.replicate C 0) ++ List.replicate (R - m) []) ?_ ?_ 0 _ (by omega) (by simp)
 ·rintro _ rfl
  refine Ev.step (fun k => by rw [impl_noughts.l0]) ?_
  simp only [if_neg (show ¬ (R : Int) < (R : Int) by omega), Nat.sub_self, List.replicate_zero, List.append_nil]
  exact Ev.now _
 ·rintro m _ hm rfl
  refine ⟨_, rfl, fun ih => ?_⟩
  refine Ev.step (fun k => by rw [impl_noughts.l0]) ?_
  have hl : (List.replicate m (List.replicate C (0 : Int)) ++ List.replicate (R - m) []).length = R := by simp; omega
  simp only [hl, if_pos (show (m : Int) < (R : Int) by omega), if_pos (show 0 ≤ (C : Int) by omega), Int.toNat_natCast, if_pos (show C ≤ 35184372088832 by omega), if_pos (show 0 ≤ (m : Int) by omega), w_succ (m := m) (by omega)]
  have es : (List.replicate m (List.replicate C (0 : Int)) ++ List.replicate (R - m) []).set m (List.replicate C 0) = List.replicate (m + 1) (List.replicate C 0) ++ List.replicate (R - (m + 1)) [] := by
   obtain ⟨q, hq⟩ : ∃ q, R - m = q + 1 := ⟨R - m - 1, by omega⟩
   rw [List.set_append_right _ _ (by simp), List.length_replicate, Nat.sub_self, hq, List.replicate_succ, List.set_cons_zero, List.replicate_succ', show R - (m + 1) = q by omega, List.append_assoc]
   rfl
  rw [es]
  exact ih
def Grid (R C : Nat) (g : List (List Int)) : Prop := g.length = R ∧ ∀ x ∈ g, x.length = C
theorem grid0_is (R C : Nat) : Grid R C (grid0 R C) := ⟨by simp [grid0], fun x hx => by unfold grid0 at hx; rw [List.eq_of_mem_replicate hx, List.length_replicate]⟩
theorem Grid.row {R C : Nat} {g : List (List Int)} (h : Grid R C g) {i : Nat} (hi : i < R) : i < g.length ∧ ∀ (h' : i < g.length), g[i].length = C := ⟨by rw [h.1]; exact hi, fun h' => h.2 _ (List.getElem_mem h')⟩
theorem Grid.rd {R C : Nat} {g : List (List Int)} (h : Grid R C g) {i : Nat} (hi : i < R) : (rd_L3 g (i : Int)).length = C := by
 rw [rdr_nat (h.row hi).1]
 exact (h.row hi).2 _
theorem Grid.put {R C : Nat} {g : List (List Int)} (h : Grid R C g) {i : Nat} (j : Nat) (v : Int) (hi : i < R) : Grid R C (g.set i ((rd_L3 g (i : Int)).set j v)) := by
 refine ⟨by rw [List.length_set]; exact h.1, fun x hx => ?_⟩
 rcases List.mem_or_eq_of_mem_set hx with hx | hx
 ·exact h.2 x hx
 ·rw [hx, List.length_set]; exact h.rd hi
end Go.Proofs.Ytgndemjphjhahaa.Com
namespace Go.Proofs.Ytgndemjphjhahaa.Com
set_option linter.unusedSimpArgs false
set_option linter.unusedVariables false
set_option linter.unusedSectionVars false
open Go.RowKit Go.Proofs.YtgndemjphjhahaaW.PrintWords Go.Proofs.YtgndemjphjhahaaW.PrintMore Go.Proofs.Ytgndemjphjhahaa.Q
theorem rowsForm_is {b : Int} {l : List (List Int)} (h : rowsForm b l = true) :
  ∃ R C : Nat, 1 ≤ R ∧ R ≤ 12 ∧ 1 ≤ C ∧ C ≤ 12 ∧ Grid R C l ∧ (rd_L3 l 0).length = C ∧ ∀ x ∈ l, ∀ z ∈ x, 0 ≤ z ∧ z ≤ b := by
 cases l with
 | nil => simp [rowsForm] at h
 | cons y r =>
  have ef : rowsForm b (y :: r) = (decide ((y :: r).length ≤ 12) && decide (1 ≤ y.length ∧ y.length ≤ 12) && (y :: r).all (rowOk y.length b)) := rfl
  rw [ef] at h
  simp only [Bool.and_eq_true, decide_eq_true_eq, List.all_eq_true] at h
  obtain ⟨⟨h1, h2⟩, h3⟩ := h
  have e0 : rd_L3 (y :: r) 0 = y := rdr_nat (xs := y :: r) (m := 0) (by rw [List.length_cons]; omega)
  refine ⟨(y :: r).length, y.length, by rw [List.length_cons]; omega, h1, h2.1, h2.2, ⟨rfl, fun x hx => ?_⟩, by rw [e0], fun x hx z hz => ?_⟩
  ·have := h3 x hx
   unfold rowOk at this
   simp only [Bool.and_eq_true, decide_eq_true_eq] at this
   exact this.1
  ·have := h3 x hx
   unfold rowOk at this
   simp only [Bool.and_eq_true, decide_eq_true_eq, List.all_eq_true] at this
   exact this.2 z hz
end Go.Proofs.Ytgndemjphjhahaa.Com
namespace Go.Proofs.Ytgndemjphjhahaa.Com
set_option linter.unusedSimpArgs false
set_option linter.unusedVariables false
set_option linter.unusedSectionVars false
open Go.RowKit Go.Proofs.YtgndemjphjhahaaW.PrintWords Go.Proofs.YtgndemjphjhahaaW.PrintMore Go.Proofs.Ytgndemjphjhahaa.Q
theorem toPicture_ev (xs : List (List Int)) (hx : xs.length ≤ 1048576) (hr : ∀ x ∈ xs, x.length ≤ 1048576) : Ev (fun k => laws_toPicture.f k xs) xs := by
 unfold laws_toPicture.f
 exact Ev.bind (toInt64SS_ev xs hx hr) (Ev.now _)
theorem eqPicture_ev (xs : List (List Int)) (hx : xs.length ≤ 1048576) (hr : ∀ x ∈ xs, x.length ≤ 1048576) : Ev (fun k => laws_eqPicture.f k xs xs) true := by
 unfold laws_eqPicture.f
 refine Ev.bind (eqInt64SS_ev xs hx hr) ?_
 simp only [if_true]
 exact Ev.now _
theorem szPic_ev (l : List (List Int)) (a : Int) (ha : 0 ≤ a ∧ a ≤ 1048576) (hl : l.length ≤ maxLen) (hr : ∀ x ∈ l, x.length ≤ maxLen) :
  ∃ t, Ev (fun k => laws_szPicture.f k l a) t ∧ (t = -1 ∨ (0 ≤ t ∧ t ≤ a ∧ l.length ≤ 1048576 ∧ (∀ x ∈ l, x.length ≤ 1048576) ∧ tot l ≤ 1048576)) := by
 obtain ⟨t, e, h⟩ := szSS_ev l a ha hl hr
 unfold laws_szPicture.f
 rcases h with rfl | h
 ·refine ⟨-1, Ev.bind e ?_, .inl rfl⟩
  simp only [if_pos (show (-1 : Int) < 0 by omega)]
  exact Ev.now _
 ·refine ⟨t, Ev.bind e ?_, .inr h⟩
  simp only [if_neg (show ¬ t < 0 by omega)]
  exact Ev.now _
theorem markPic_ev (xs : List (List Int)) (a : Int) (hx : xs.length ≤ 1048576) (hr : ∀ x ∈ xs, x.length ≤ 1048576) (ha : 0 ≤ a) (hb : a + tot xs ≤ 1000000000000) : Ev (fun k => laws_markPicture.f k xs a) (a + tot xs, markLL xs a) := by
 unfold laws_markPicture.f
 exact Ev.bind (markSS_ev xs a hx hr ha hb) (Ev.now _)
end Go.Proofs.Ytgndemjphjhahaa.Com
namespace Go.Proofs.Ytgndemjphjhahaa.Com
set_option linter.unusedSimpArgs false
set_option linter.unusedVariables false
set_option linter.unusedSectionVars false
open Go.RowKit Go.Proofs.YtgndemjphjhahaaW.PrintWords Go.Proofs.YtgndemjphjhahaaW.PrintMore Go.Proofs.Ytgndemjphjhahaa.Q
def ptOk (R C : Nat) (x : List Int) : Prop := x.length = 2 ∧ (0 ≤ rd x 0 ∧ rd x 0 ≤ (R : Int) - 1) ∧ (0 ≤ rd x 1 ∧ rd x 1 ≤ (C : Int) - 1)
instance (R C : Nat) (x : List Int) : Decidable (ptOk R C x) := inferInstanceAs (Decidable (_ ∧ _ ∧ _))
def setAt (g : List (List Int)) (x : List Int) (v : Int) : List (List Int) := g.set (rd x 0).toNat ((rd_L3 g (rd x 0)).set (rd x 1).toNat v)
def pathRun (R C : Nat) : List (List Int) → List (List Int) → Bool
 | [], _ => true
 | x :: r, g => if ptOk R C x then (if rd (rd_L3 g (rd x 0)) (rd x 1) = 1 then false else pathRun R C r (setAt g x 1)) else false
theorem ptOk_nat {R C : Nat} {x : List Int} (h : ptOk R C x) : ∃ i j : Nat, rd x 0 = (i : Int) ∧ rd x 1 = (j : Int) ∧ i < R ∧ j < C ∧ x.length = 2 := by
 obtain ⟨h1, ⟨a, b⟩, ⟨c, d⟩⟩ := h
 exact ⟨(rd x 0).toNat, (rd x 1).toNat, by omega, by omega, by omega, by omega, h1⟩
theorem setAt_is {R C : Nat} {g : List (List Int)} {x : List Int} (v : Int) (h : Grid R C g) (hx : ptOk R C x) : Grid R C (setAt g x v) := by
 obtain ⟨i, j, e1, e2, hi, hj, _⟩ := ptOk_nat hx
 unfold setAt
 rw [e1, e2, Int.toNat_natCast, Int.toNat_natCast]
 exact h.put j v hi
section
variable {p l : List (List Int)} {R C : Nat} (hR : 1 ≤ R ∧ R ≤ 12) (hC : 1 ≤ C ∧ C ≤ 12) (hp : Grid R C p) (cp : (rd_L3 p 0).length = C) (hx : l.length ≤ 1048576)
include hR hC hp cp hx
theorem specPath_ev : Ev (fun k => spec_l09Path.l0 k l (grid0 R C) 0 p) (pathRun R C l (grid0 R C)) := by
 refine ev_fold l (fun m (s : List (List Int)) k => spec_l09Path.l0 k l s (m : Int) p) (fun d s => pathRun R C d s) (fun m s => Grid R C s) ?_ ?_ 0 (grid0 R C) (by omega) (grid0_is R C)
 ·intro s hs
  refine Ev.step (fun k => by rw [spec_l09Path.l0]) ?_
  simp only [if_neg (show ¬ (l.length : Int) < (l.length : Int) by omega)]
  exact Ev.now _
 ·intro m hm s hs ih
  have jt : Ev (fun k => spec_l09Path.j1 k l s (m : Int) true p) false := Ev.step (fun k => by rw [spec_l09Path.j1]) (by simp only [if_true]; exact Ev.now _)
  refine Ev.step (fun k => by rw [spec_l09Path.l0]) ?_
  simp only [if_pos (show (m : Int) < (l.length : Int) by omega), if_pos (show 0 ≤ (m : Int) by omega), rdr_nat hm]
  generalize hy : l[m] = y
  by_cases q0 : y.length = 2
  ·simp only [if_pos (show (y.length : Int) = 2 by omega), if_pos (show 0 < (y.length : Int) by omega), if_pos (show 1 < (y.length : Int) by omega), in_tells, Option.bind_some, hp.1, cp, if_pos (show 0 < (R : Int) by omega)]
   rw [w64 (x := (R : Int) - 1) (by omega) (by omega), w64 (x := (C : Int) - 1) (by omega) (by omega)]
   by_cases q1 : 0 ≤ rd y 0 ∧ rd y 0 ≤ (R : Int) - 1
   ·simp only [decide_eq_true q1, if_true]
    by_cases q2 : 0 ≤ rd y 1 ∧ rd y 1 ≤ (C : Int) - 1
    ·have ok : ptOk R C y := ⟨q0, q1, q2⟩
     obtain ⟨i, j, e1, e2, hi, hj, _⟩ := ptOk_nat ok
     simp only [decide_eq_true q2, Bool.not_true]
     refine Ev.step (fun k => by rw [spec_l09Path.j1]) ?_
     have is := setAt_is 1 hs ok
     have ih' := ih _ is
     unfold pathRun
     rw [if_pos ok]
     unfold setAt at ih' ⊢
     rw [e1, e2] at ih' ⊢
     simp only [Bool.false_eq_true, if_false, if_pos (show 0 ≤ (m : Int) by omega), if_pos (show (m : Int) < (l.length : Int) by omega), rdr_nat hm, hy, if_pos (show 0 < (y.length : Int) by omega), if_pos (show 1 < (y.length : Int) by omega), e1, e2, if_pos (show 0 ≤ (i : Int) by omega), if_pos (show 0 ≤ (j : Int) by omega), hs.1, hs.rd hi, if_pos (show (i : Int) < (R : Int) by omega), if_pos (show (j : Int) < (C : Int) by omega), w_succ (m := m) (by omega)]
     by_cases q3 : rd (rd_L3 s (i : Int)) (j : Int) = 1
     ·simp only [if_pos q3]
      exact Ev.now _
     ·simp only [if_neg q3]
      exact ih'
    ·simp only [decide_eq_false q2, Bool.not_false]
     rw [show pathRun R C (y :: l.drop (m + 1)) s = false from by unfold pathRun; exact if_neg (fun h => q2 h.2.2)]
     exact jt
   ·simp only [decide_eq_false q1, Bool.false_eq_true, if_false]
    rw [show pathRun R C (y :: l.drop (m + 1)) s = false from by unfold pathRun; exact if_neg (fun h => q1 h.2.1)]
    exact jt
  ·simp only [if_neg (show ¬ (y.length : Int) = 2 by omega)]
   rw [show pathRun R C (y :: l.drop (m + 1)) s = false from by unfold pathRun; exact if_neg (fun h => q0 h.1)]
   exact jt
theorem implPath_ev : Ev (fun k => impl_IsPath.l0 k (grid0 R C) l (l.length : Int) 0 p) (pathRun R C l (grid0 R C)) := by
 refine ev_fold l (fun m (s : List (List Int)) k => impl_IsPath.l0 k s l (l.length : Int) (m : Int) p) (fun d s => pathRun R C d s) (fun m s => Grid R C s) ?_ ?_ 0 (grid0 R C) (by omega) (grid0_is R C)
 ·intro s hs
  refine Ev.step (fun k => by rw [impl_IsPath.l0]) ?_
  simp only [if_neg (show ¬ (l.length : Int) < (l.length : Int) by omega)]
  exact Ev.now _
 ·intro m hm s hs ih
  refine Ev.step (fun k => by rw [impl_IsPath.l0]) ?_
  simp only [if_pos (show (m : Int) < (l.length : Int) by omega), if_pos (show 0 ≤ (m : Int) by omega), rdr_nat hm]
  generalize hy : l[m] = y
  have nope : ∀ (h : ¬ ptOk R C y), pathRun R C (y :: l.drop (m + 1)) s = false := fun h => by unfold pathRun; exact if_neg h
  by_cases q0 : y.length = 2
  ·simp only [if_pos (show (y.length : Int) = 2 by omega), if_pos (show 0 < (y.length : Int) by omega), if_pos (show 1 < (y.length : Int) by omega)]
   refine ev_bind' (show impl_size_int64_83.f p = some (R : Int) from by unfold impl_size_int64_83.f; rw [hp.1]) ?_
   rw [w64 (x := (R : Int) - 1) (by omega) (by omega)]
   refine ev_bind' (within_tells _ _ _) ?_
   by_cases q1 : 0 ≤ rd y 0 ∧ rd y 0 ≤ (R : Int) - 1
   ·simp only [decide_eq_true q1, if_true, hp.1, if_pos (show 0 < (R : Int) by omega)]
    refine ev_bind' (show impl_size_int64_84.f (rd_L3 p 0) = some (C : Int) from by unfold impl_size_int64_84.f; rw [cp]) ?_
    rw [w64 (x := (C : Int) - 1) (by omega) (by omega)]
    refine ev_bind' (within_tells _ _ _) ?_
    by_cases q2 : 0 ≤ rd y 1 ∧ rd y 1 ≤ (C : Int) - 1
    ·have ok : ptOk R C y := ⟨q0, q1, q2⟩
     obtain ⟨i, j, e1, e2, hi, hj, _⟩ := ptOk_nat ok
     simp only [decide_eq_true q2, if_true]
     have is := setAt_is 1 hs ok
     have ih' := ih _ is
     unfold pathRun
     rw [if_pos ok]
     unfold setAt at ih' ⊢
     rw [e1, e2] at ih' ⊢
     simp only [e1, e2, if_pos (show 0 ≤ (i : Int) by omega), if_pos (show 0 ≤ (j : Int) by omega), hs.1, hs.rd hi, if_pos (show (i : Int) < (R : Int) by omega), if_pos (show (j : Int) < (C : Int) by omega), w_succ (m := m) (by omega)]
     by_cases q3 : rd (rd_L3 s (i : Int)) (j : Int) = 1
     ·simp only [if_pos q3]
      exact Ev.now _
     ·simp only [if_neg q3]
      exact ih'
    ·simp only [decide_eq_false q2, Bool.false_eq_true, if_false]
     rw [nope (fun h => q2 h.2.2)]
     exact Ev.now _
   ·simp only [decide_eq_false q1, Bool.false_eq_true, if_false]
    rw [nope (fun h => q1 h.2.1)]
    exact Ev.now _
  ·simp only [if_neg (show ¬ (y.length : Int) = 2 by omega)]
   rw [nope (fun h => q0 h.1)]
   exact Ev.now _
end
def isPath (p l : List (List Int)) : Bool := rowsForm 255 p && (decide ((l.length : Int) = (p.length : Int) * ((rd_L3 p 0).length : Int)) && pathRun p.length (rd_L3 p 0).length l (grid0 p.length (rd_L3 p 0).length))
section
variable {p l : List (List Int)} (hp : p.length ≤ 1048576) (hp' : ∀ x ∈ p, x.length ≤ 1048576) (hx : l.length ≤ 1048576)
include hp hp' hx
theorem l09Path_ev (v : rowsForm 255 p = true) : Ev (fun k => spec_l09Path.f k p l) (isPath p l) := by
 obtain ⟨R, C, R1, R2, C1, C2, gp, cp, _⟩ := rowsForm_is v
 unfold spec_l09Path.f isPath
 rw [v, Bool.true_and, gp.1, cp]
 have b := mul_bd (a := (R : Int)) (b := (C : Int)) (by omega) (show (R : Int) ≤ 12 by omega) (by omega) (show (C : Int) ≤ 12 by omega)
 simp only [if_pos (show 0 < (R : Int) by omega), w64 (x := (R : Int) * (C : Int)) (by omega) (by omega)]
 by_cases q : (l.length : Int) = (R : Int) * (C : Int)
 ·simp only [if_pos q, decide_eq_true q, Bool.true_and]
  exact Ev.bind (square_ev R C (by omega) (by omega)) (specPath_ev ⟨R1, R2⟩ ⟨C1, C2⟩ gp cp hx)
 ·simp only [if_neg q, decide_eq_false q, Bool.false_and]
  exact Ev.now _
theorem implIsPath_ev : Ev (fun k => impl_IsPath.f k p l) (isPath p l) := by
 unfold impl_IsPath.f
 have no : Ev (fun k => impl_IsPath.j0 k l true p) false := Ev.step (fun k => by rw [impl_IsPath.j0]) (by simp only [if_true]; exact Ev.now _)
 refine ev_bind' (show impl_ValidPicture.f p = some (rowsForm 255 p) from by unfold impl_ValidPicture.f; rw [areRows_tells]; rfl) ?_
 by_cases v : rowsForm 255 p = true
 ·obtain ⟨R, C, R1, R2, C1, C2, gp, cp, _⟩ := rowsForm_is v
  have b := mul_bd (a := (R : Int)) (b := (C : Int)) (by omega) (show (R : Int) ≤ 12 by omega) (by omega) (show (C : Int) ≤ 12 by omega)
  unfold isPath
  rw [v, Bool.true_and, gp.1, cp]
  simp only [if_true, if_pos (show 0 < (R : Int) by omega), w64 (x := (R : Int) * (C : Int)) (by omega) (by omega)]
  by_cases q : (l.length : Int) = (R : Int) * (C : Int)
  ·rw [decide_eq_true q, Bool.true_and, show ((l.length : Int) != (R : Int) * (C : Int)) = false from by rw [q]; exact bne_self_eq_false _]
   refine Ev.step (fun k => by rw [impl_IsPath.j0]) ?_
   simp only [Bool.false_eq_true, if_false, gp.1, cp, if_pos (show 0 < (R : Int) by omega)]
   exact Ev.bind (noughts_ev R C (by omega) (by omega)) (implPath_ev ⟨R1, R2⟩ ⟨C1, C2⟩ gp cp hx)
  ·rw [decide_eq_false q, Bool.false_and, show ((l.length : Int) != (R : Int) * (C : Int)) = true from by simpa using q]
   exact no
 ·rw [show isPath p l = false from by unfold isPath; rw [show rowsForm 255 p = false from by simpa using v]; rfl]
  simp only [if_neg v]
  exact no
end
end Go.Proofs.Ytgndemjphjhahaa.Com
namespace Go.Proofs.Ytgndemjphjhahaa.Com
set_option linter.unusedSimpArgs false
set_option linter.unusedVariables false
set_option linter.unusedSectionVars false
open Go.RowKit Go.Proofs.YtgndemjphjhahaaW.PrintWords Go.Proofs.YtgndemjphjhahaaW.PrintMore Go.Proofs.Ytgndemjphjhahaa.Q
theorem pathRun_ok {R C : Nat} (l : List (List Int)) : ∀ g, pathRun R C l g = true → ∀ x ∈ l, ptOk R C x := by
 induction l with
 | nil => intro g _ x hx; simp at hx
 | cons y r ih =>
  intro g h x hx
  unfold pathRun at h
  by_cases ok : ptOk R C y
  ·rw [if_pos ok] at h
   by_cases q : rd (rd_L3 g (rd y 0)) (rd y 1) = 1
   ·rw [if_pos q] at h; cases h
   ·rw [if_neg q] at h
    rcases List.mem_cons.1 hx with rfl | hx
    ·exact ok
    ·exact ih _ h x hx
  ·rw [if_neg ok] at h; cases h
def dOne (z : Int) : Int := if 2 * z > 255 then 1 else 0
def dLeft (z : Int) : Int := if 2 * z > 255 then z - 255 else z
theorem specDot_tells (z : Int) (h : -1000 ≤ z ∧ z ≤ 1000) : spec_l09Dot.f z = some (dOne z, dLeft z) := by
 unfold spec_l09Dot.f dOne dLeft
 rw [w64 (x := 2 * z) (by omega) (by omega)]
 by_cases q : 2 * z > 255
 ·rw [if_pos q, if_pos q, if_pos q, w64 (by omega) (by omega)]
 ·rw [if_neg q, if_neg q, if_neg q]
theorem implDot_tells (z : Int) (h : -1000 ≤ z ∧ z ≤ 1000) : impl_dotOf.f z = some (dOne z, dLeft z) := by
 unfold impl_dotOf.f impl_bit.f dOne dLeft
 rw [w64 (x := 2 * z) (by omega) (by omega)]
 by_cases q : 2 * z > 255
 ·simp only [decide_eq_true q, if_true, Option.bind_some, if_pos q]
  rw [w64 (x := 1 * 255) (by omega) (by omega), w64 (by omega) (by omega)]
  rfl
 ·simp only [decide_eq_false q, Bool.false_eq_true, if_false, Option.bind_some, if_neg q]
  rw [w64 (x := 0 * 255) (by omega) (by omega), w64 (by omega) (by omega)]
  simp
def dStep (p : List (List Int)) (s : List (List Int) × Int) (x : List Int) : List (List Int) × Int :=
 (setAt s.1 x (dOne (rd (rd_L3 p (rd x 0)) (rd x 1) + s.2)), dLeft (rd (rd_L3 p (rd x 0)) (rd x 1) + s.2))
section
variable {p l : List (List Int)} {R C : Nat} (hR : 1 ≤ R ∧ R ≤ 12) (hC : 1 ≤ C ∧ C ≤ 12) (hp : Grid R C p) (hv : ∀ x ∈ p, ∀ z ∈ x, 0 ≤ z ∧ z ≤ 255) (hx : l.length ≤ 1048576) (hl : ∀ x ∈ l, ptOk R C x)
include hR hC hp hv hx hl
theorem specDith_ev : Ev (fun k => spec_PathDither.l0 k l (grid0 R C) 0 0 p) ((l.foldl (dStep p) (grid0 R C, 0)).1, (l.foldl (dStep p) (grid0 R C, 0)).2, true) := by
 refine ev_fold l (fun m (s : List (List Int) × Int) k => spec_PathDither.l0 k l s.1 s.2 (m : Int) p) (fun d s => ((d.foldl (dStep p) s).1, (d.foldl (dStep p) s).2, true)) (fun m s => Grid R C s.1 ∧ -127 ≤ s.2 ∧ s.2 ≤ 127) ?_ ?_ 0 (grid0 R C, 0) (by omega) ⟨grid0_is R C, by omega, by omega⟩
 ·intro s hs
  refine Ev.step (fun k => by rw [spec_PathDither.l0]) ?_
  simp only [if_neg (show ¬ (l.length : Int) < (l.length : Int) by omega)]
  exact Ev.now _
 ·rintro m hm ⟨g, e⟩ ⟨hs, s1, s2⟩ ih
  have ok := hl _ (List.getElem_mem hm)
  simp only at hs s1 s2
  refine Ev.step (fun k => by rw [spec_PathDither.l0]) ?_
  simp only [if_pos (show (m : Int) < (l.length : Int) by omega), if_pos (show 0 ≤ (m : Int) by omega), rdr_nat hm, w_succ (m := m) (by omega), List.foldl_cons]
  generalize l[m] = y at ok ⊢
  obtain ⟨i, j, e1, e2, hi, hj, q0⟩ := ptOk_nat ok
  have hpi : i < p.length := by rw [hp.1]; exact hi
  have hlen : p[i].length = C := hp.2 _ (List.getElem_mem hpi)
  have hval : 0 ≤ rd (rd_L3 p (i : Int)) (j : Int) ∧ rd (rd_L3 p (i : Int)) (j : Int) ≤ 255 := by
   rw [rdr_nat hpi, rd_nat (show j < p[i].length by omega)]
   exact hv _ (List.getElem_mem hpi) _ (List.getElem_mem _)
  have ih' := ih (dStep p (g, e) y) ⟨setAt_is _ hs ok, by unfold dStep dLeft; rw [e1, e2]; simp only; split <;> omega, by unfold dStep dLeft; rw [e1, e2]; simp only; split <;> omega⟩
  revert ih'
  generalize (List.drop (m + 1) l).foldl (dStep p) (dStep p (g, e) y) = F
  unfold dStep setAt
  simp only [e1, e2, if_pos (show 0 < (y.length : Int) by omega), if_pos (show 1 < (y.length : Int) by omega), if_pos (show 0 ≤ (i : Int) by omega), if_pos (show 0 ≤ (j : Int) by omega), hp.1, hs.1, if_pos (show (i : Int) < (R : Int) by omega), hp.rd hi, hs.rd hi, if_pos (show (j : Int) < (C : Int) by omega)]
  rw [w64 (x := rd (rd_L3 p (i : Int)) (j : Int) + e) (by omega) (by omega)]
  simp only [specDot_tells _ (show -1000 ≤ rd (rd_L3 p (i : Int)) (j : Int) + e ∧ rd (rd_L3 p (i : Int)) (j : Int) + e ≤ 1000 by omega), Option.bind_some]
  exact fun h => h
theorem implDith_ev : Ev (fun k => impl_PathDither.l0 k (grid0 R C) 0 l (l.length : Int) 0 p) ((l.foldl (dStep p) (grid0 R C, 0)).1, (l.foldl (dStep p) (grid0 R C, 0)).2, true) := by
 refine ev_fold l (fun m (s : List (List Int) × Int) k => impl_PathDither.l0 k s.1 s.2 l (l.length : Int) (m : Int) p) (fun d s => ((d.foldl (dStep p) s).1, (d.foldl (dStep p) s).2, true)) (fun m s => Grid R C s.1 ∧ -127 ≤ s.2 ∧ s.2 ≤ 127) ?_ ?_ 0 (grid0 R C, 0) (by omega) ⟨grid0_is R C, by omega, by omega⟩
 ·intro s hs
  refine Ev.step (fun k => by rw [impl_PathDither.l0]) ?_
  simp only [if_neg (show ¬ (l.length : Int) < (l.length : Int) by omega)]
  exact Ev.now _
 ·rintro m hm ⟨g, e⟩ ⟨hs, s1, s2⟩ ih
  have ok := hl _ (List.getElem_mem hm)
  simp only at hs s1 s2
  refine Ev.step (fun k => by rw [impl_PathDither.l0]) ?_
  simp only [if_pos (show (m : Int) < (l.length : Int) by omega), if_pos (show 0 ≤ (m : Int) by omega), rdr_nat hm, w_succ (m := m) (by omega), List.foldl_cons]
  generalize l[m] = y at ok ⊢
  obtain ⟨i, j, e1, e2, hi, hj, q0⟩ := ptOk_nat ok
  have hpi : i < p.length := by rw [hp.1]; exact hi
  have hlen : p[i].length = C := hp.2 _ (List.getElem_mem hpi)
  have hval : 0 ≤ rd (rd_L3 p (i : Int)) (j : Int) ∧ rd (rd_L3 p (i : Int)) (j : Int) ≤ 255 := by
   rw [rdr_nat hpi, rd_nat (show j < p[i].length by omega)]
   exact hv _ (List.getElem_mem hpi) _ (List.getElem_mem _)
  have ih' := ih (dStep p (g, e) y) ⟨setAt_is _ hs ok, by unfold dStep dLeft; rw [e1, e2]; simp only; split <;> omega, by unfold dStep dLeft; rw [e1, e2]; simp only; split <;> omega⟩
  revert ih'
  generalize (List.drop (m + 1) l).foldl (dStep p) (dStep p (g, e) y) = F
  unfold dStep setAt
  simp only [e1, e2, if_pos (show 0 < (y.length : Int) by omega), if_pos (show 1 < (y.length : Int) by omega), if_pos (show 0 ≤ (i : Int) by omega), if_pos (show 0 ≤ (j : Int) by omega), hp.1, hs.1, if_pos (show (i : Int) < (R : Int) by omega), hp.rd hi, hs.rd hi, if_pos (show (j : Int) < (C : Int) by omega)]
  rw [w64 (x := rd (rd_L3 p (i : Int)) (j : Int) + e) (by omega) (by omega)]
  simp only [implDot_tells _ (show -1000 ≤ rd (rd_L3 p (i : Int)) (j : Int) + e ∧ rd (rd_L3 p (i : Int)) (j : Int) + e ≤ 1000 by omega), Option.bind_some]
  exact fun h => h
theorem dith_grid : Grid R C (l.foldl (dStep p) (grid0 R C, 0)).1 := by
 have key : ∀ (d : List (List Int)) (s : List (List Int) × Int), (∀ x ∈ d, ptOk R C x) → Grid R C s.1 → Grid R C (d.foldl (dStep p) s).1 := by
  intro d
  induction d with
  | nil => intro s _ h; exact h
  | cons y r ih => intro s h1 h2; exact ih _ (fun x hx => h1 x (List.mem_cons_of_mem _ hx)) (setAt_is _ h2 (h1 y List.mem_cons_self))
 exact key l _ hl (grid0_is R C)
end
section
variable {p l : List (List Int)} (hp : p.length ≤ 1048576) (hp' : ∀ x ∈ p, x.length ≤ 1048576) (hx : l.length ≤ 1048576)
include hp hp' hx
theorem dith_both : ∃ r : List (List Int) × Int × Bool, Ev (fun k => spec_PathDither.f k p l) r ∧ Ev (fun k => impl_PathDither.f k p l) r ∧ r.1.length ≤ 12 ∧ ∀ x ∈ r.1, x.length ≤ 12 := by
 have S0 : Ev (fun k => spec_l09Is.f k p) (rowsForm 255 p) := by unfold spec_l09Is.f; exact Ev.bind (form_ev p 255 hp hp') (Ev.now _)
 have no : Ev (fun k => spec_PathDither.j0 k l true p) ([], 0, false) := Ev.step (fun k => by rw [spec_PathDither.j0]) (by simp only [if_true]; exact Ev.now _)
 have I0 := implIsPath_ev hp hp' hx
 by_cases h : isPath p l = true
 ·have h' := h
  unfold isPath at h'
  rw [Bool.and_eq_true, Bool.and_eq_true] at h'
  obtain ⟨v, q, run⟩ := h'
  obtain ⟨R, C, R1, R2, C1, C2, gp, cp, hv⟩ := rowsForm_is v
  rw [gp.1, cp] at run
  have hl := pathRun_ok l _ run
  have gd := dith_grid (p := p) (l := l) ⟨R1, R2⟩ ⟨C1, C2⟩ gp hv hx hl
  refine ⟨((l.foldl (dStep p) (grid0 R C, 0)).1, (l.foldl (dStep p) (grid0 R C, 0)).2, true), ?_, ?_, by rw [gd.1]; exact R2, fun x hx => by rw [gd.2 x hx]; exact C2⟩
  ·unfold spec_PathDither.f
   refine Ev.bind S0 ?_
   simp only [v, if_true]
   refine Ev.bind (l09Path_ev hp hp' hx v) ?_
   rw [h]
   refine Ev.step (fun k => by rw [spec_PathDither.j0]) ?_
   simp only [Bool.not_true, Bool.false_eq_true, if_false, gp.1, cp, if_pos (show 0 < (R : Int) by omega)]
   exact Ev.bind (square_ev R C (by omega) (by omega)) (specDith_ev ⟨R1, R2⟩ ⟨C1, C2⟩ gp hv hx hl)
  ·unfold impl_PathDither.f
   refine Ev.bind I0 ?_
   simp only [h, if_true, gp.1, cp, if_pos (show 0 < (R : Int) by omega)]
   exact Ev.bind (noughts_ev R C (by omega) (by omega)) (implDith_ev ⟨R1, R2⟩ ⟨C1, C2⟩ gp hv hx hl)
 ·have h0 : isPath p l = false := by simpa using h
  refine ⟨([], 0, false), ?_, ?_, by simp, by simp⟩
  ·unfold spec_PathDither.f
   refine Ev.bind S0 ?_
   by_cases v : rowsForm 255 p = true
   ·simp only [v, if_true]
    refine Ev.bind (l09Path_ev hp hp' hx v) ?_
    rw [h0]
    exact no
   ·simp only [if_neg v]
    exact no
  ·unfold impl_PathDither.f
   refine Ev.bind I0 ?_
   simp only [h0, Bool.false_eq_true, if_false]
   exact Ev.now _
end
end Go.Proofs.Ytgndemjphjhahaa.Com
namespace Go.Proofs.Ytgndemjphjhahaa.Pure
set_option linter.unusedSimpArgs false
set_option linter.unusedVariables false
set_option linter.unusedSectionVars false
open Go.RowKit Go.Proofs.Ytgndemjphjhahaa.Q Go.Proofs.YtgndemjphjhahaaW.PrintWords Go.Proofs.YtgndemjphjhahaaW.PrintLast Go.Proofs.Ytgndemjphjhahaa.Com
theorem FnExactPathDither : laws_FnExactPathDither.Pure := by
 intro p d hp hd
 apply ev_of
 unfold laws_FnExactPathDither.f
 obtain ⟨t1, e1, h1⟩ := szPic_ev p 1048576 (by omega) hp.1 (fun x hx => (hp.2 x hx).1)
 refine Ev.bind e1 ?_
 rcases h1 with rfl | ⟨a0, a1, p1, p2, p3⟩
 ·simp only [if_pos (show (-1 : Int) < 0 by omega)]
  exact Ev.now _
 simp only [if_neg (show ¬ t1 < 0 by omega)]
 obtain ⟨t2, e2, h2⟩ := szSS_ev d t1 (by omega) hd.1 (fun x hx => (hd.2 x hx).1)
 refine Ev.bind e2 ?_
 rcases h2 with rfl | ⟨b0, b1, d1, d2, d3⟩
 ·simp only [if_pos (show (-1 : Int) < 0 by omega)]
  exact Ev.now _
 simp only [if_neg (show ¬ t2 < 0 by omega)]
 obtain ⟨⟨g, le, b⟩, E1, E2, g1, g2⟩ := dith_both p1 p2 d1
 simp only at g1 g2
 have c1 : g.length ≤ 1048576 := by omega
 have c2 : ∀ x ∈ g, x.length ≤ 1048576 := fun x hx => by have := g2 x hx; omega
 have c3 := tot_le g 12 g2
 have c4 := tot_nn g
 have c5 : g.length * 12 ≤ 12 * 12 := Nat.mul_le_mul_right _ g1
 have n1 := tot_nn p
 have n2 := tot_nn d
 refine Ev.bind (toPicture_ev p p1 p2) (Ev.bind (toInt64SS_ev d d1 d2) (Ev.bind E1 (Ev.bind (toPicture_ev p p1 p2) (Ev.bind (toInt64SS_ev d d1 d2) (Ev.bind E2 (Ev.bind (eqInt64SS_ev g c1 c2) ?_))))))
 simp only [if_true]
 refine Ev.bind (toPicture_ev p p1 p2) (Ev.bind (eqPicture_ev p p1 p2) ?_)
 simp only [if_true]
 refine Ev.bind (toInt64SS_ev d d1 d2) (Ev.bind (eqInt64SS_ev d d1 d2) ?_)
 simp only [if_true]
 refine Ev.bind (markPic_ev p 1 p1 p2 (by omega) (by omega)) (Ev.bind (markSS_ev d (1 + tot p) d1 d2 (by omega) (by omega)) ?_)
 simp only [if_neg (show ¬ 1 + tot p + tot d < 0 by omega)]
 refine Ev.bind (eqInt64SS_ev g c1 c2) ?_
 simp only [if_true]
 refine Ev.bind (markSS_ev g 1 c1 c2 (by omega) (by omega)) (Ev.bind (heldSS_ev g 1 c1 c2 (by omega) (by omega)) ?_)
 simp only [if_neg (show ¬ 1 + tot g < 0 by omega), if_true]
 refine Ev.bind (toPicture_ev p p1 p2) (Ev.bind (toInt64SS_ev d d1 d2) (Ev.bind E2 (Ev.bind (eqInt64SS_ev g c1 c2) ?_)))
 simp only [if_true]
 refine Ev.bind (heldSS_ev g 1 c1 c2 (by omega) (by omega)) ?_
 simp only [if_neg (show ¬ 1 + tot g < 0 by omega), if_true]
 exact Ev.now _
end Go.Proofs.Ytgndemjphjhahaa.Pure
