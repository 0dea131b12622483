/- The statement FnExactBlockErrors, with all that its proof stands on: functions of the program as plain functions, the program's walks, and the plain law. Conditions: none beyond the statement's own. -/
import Derived.ArgAppend
import Derived.Below
import Derived.BigQuiet
import Derived.Deep.AppendLies
import Derived.Deep.CutBlock
import Derived.Deep.DeepCutAuto
import Derived.Deep.Draws
import Derived.Deep.LoopGhost
import Derived.Deep.OwnRows
import Derived.Deep.QuietTactic
import Derived.Deep.RegionHeld3
import Derived.KernelRfl
import Derived.Laws.BitsLemmas
import Derived.Laws.BytesArg
import Derived.Laws.IdiomCopy
import Derived.Laws.MakeOwn
import Derived.Laws.OwnMore
import Derived.Laws.Rows
import Derived.Laws.Slices
import Derived.Lib.AppendStr
import Derived.Lib.ConvBytes
import Derived.Maps.AppendAt
import Derived.OrdersHeld
import Derived.OwnWalk
import Derived.RowKit
import Derived.RowKit3
import Derived.Tactics
import Derived.Test.YtgndemjphjhahaaProg
import Derived.WalkKit
import Derived.WideLaws
import Derived.Test.YtgndemjphjhahaaBFnExactBlockErrors0
import Derived.Test.YtgndemjphjhahaaBFnExactBlockErrors1
import Derived.Test.YtgndemjphjhahaaBFnExactBlockErrors2
import Derived.Test.YtgndemjphjhahaaBFnExactBlockErrors3
import Derived.Test.YtgndemjphjhahaaBFnExactBlockErrors4
import Derived.Test.YtgndemjphjhahaaBFnExactBlockErrors5
import Derived.Test.YtgndemjphjhahaaBFnExactBlockErrors6
set_option linter.unusedVariables false
set_option linter.unusedSimpArgs false
namespace Go.Proofs.Ytgndemjphjhahaa.Q
open Go.RowKit Go.Proofs.YtgndemjphjhahaaW.PrintWords Go.Proofs.YtgndemjphjhahaaW.PrintLast Go.Proofs.YtgndemjphjhahaaW.PrintMore
set_option linter.unusedVariables false
set_option linter.unusedSimpArgs false
def laws_FnExactBlockErrors.f (k : Nat) (l0_0 : List (List Int)) (l1 : List (List Int)) (a2 : Int) : Option Bool := (laws_szPicture.f k l0_0 1048576).bind fun bt2 => (if bt2 < 0 then some true else ((laws_szInt64SS.f k l1 bt2).bind fun bt3 => (if bt3 < 0 then some true else ((laws_toPicture.f k l0_0).bind fun bt4 => ((laws_toInt64SS.f k l1).bind fun bt6 => ((spec_BlockErrors.f k bt4 bt6 a2).bind fun bt8 => ((laws_toPicture.f k l0_0).bind fun bt11 => ((laws_toInt64SS.f k l1).bind fun bt14 => ((impl_BlockErrors.f k bt11 bt14 a2).bind fun bt16 => ((laws_eqInt64SS.f k bt16.1 bt8.1).bind fun bt19 => (if bt19 = true then (if bt16.2 = bt8.2 then ((laws_toPicture.f k l0_0).bind fun bt20 => ((laws_eqPicture.f k bt11 bt20).bind fun bt22 => (if bt22 = true then ((laws_toInt64SS.f k l1).bind fun bt23 => ((laws_eqInt64SS.f k bt14 bt23).bind fun bt25 => (if bt25 = true then ((laws_markPicture.f k bt11 1).bind fun bt26 => ((laws_markInt64SS.f k bt14 bt26.1).bind fun bt28 => (if bt28.1 < 0 then some false else ((laws_eqInt64SS.f k bt16.1 bt8.1).bind fun bt30 => (if bt30 = true then ((laws_markInt64SS.f k bt16.1 1).bind fun bt31 => ((laws_heldInt64SS.f k bt31.2 1).bind fun bt33 => (if bt33 < 0 then some false else (if bt33 = bt31.1 then ((laws_toPicture.f k l0_0).bind fun bt34 => ((laws_toInt64SS.f k l1).bind fun bt36 => ((impl_BlockErrors.f k bt34 bt36 a2).bind fun bt38 => ((laws_eqInt64SS.f k bt38.1 bt8.1).bind fun bt41 => (if bt41 = true then (if bt38.2 = bt16.2 then ((laws_heldInt64SS.f k bt31.2 1).bind fun bt42 => (if bt42 < 0 then some false else (if bt42 = bt33 then (some true) else some false))) else some false) else some false))))) else some false)))) else some false))))) else some false))) else some false))) else some false) else some false)))))))))))
def laws_FnExactBlockErrors.Pure : Prop := ∀ (l0_0 : List (List Int)) (l1 : List (List Int)) (a2 : Int), (l0_0.length ≤ maxLen ∧ ∀ y ∈ l0_0, (y.length ≤ maxLen ∧ ∀ y_ ∈ y, (Lit.int .i64 y_).wf = true)) → (l1.length ≤ maxLen ∧ ∀ y ∈ l1, (y.length ≤ maxLen ∧ ∀ y_ ∈ y, (Lit.int .i64 y_).wf = true)) → (Lit.int .i64 a2).wf = true → ∃ k, laws_FnExactBlockErrors.f k l0_0 l1 a2 = some true
set_option maxHeartbeats 16000000 in
set_option maxRecDepth 100000 in
theorem laws_FnExactBlockErrors.calls (k : Nat) (A0_0 : Option Addr) (c0_0 : Nat) (l0_0 : List (List Int)) (A1 : Option Addr) (c1 : Nat) (l1 : List (List Int)) (a2 : Int) (w : World) (hr0_0 : Kd.C (Kd.slice 2 (Kd.int .i64)) w A0_0 l0_0.length l0_0) (hc0_0 : l0_0.length ≤ c0_0) (hr1 : Kd.C (Kd.slice 2 (Kd.int .i64)) w A1 l1.length l1) (hc1 : l1.length ≤ c1) (h : laws_FnExactBlockErrors.f k l0_0 l1 a2 = some true) :
  Calls Try.prog 11 #[.agg #[.slice A0_0 l0_0.length c0_0], .slice A1 l1.length c1, .int .i64 a2] w fun e w' => e = .returned (.bool true) ∧ Below w.heap.size w w' := by
 have HR0_0 := Aside0.mk hr0_0
 have HC0_0 := Aside0.mk hc0_0
 clear hr0_0 hc0_0
 have HR1 := Aside0.mk hr1
 have HC1 := Aside0.mk hc1
 clear hr1 hc1
 have HB := Aside0.mk (Below.refl w.heap.size w)
 have H := h
 clear h
 unfold laws_FnExactBlockErrors.f at H
 replace H := Option.bind_eq_some_iff.mp H
 obtain ⟨t2, E10, H⟩ := H
 (try dsimp only at H)
 have E1 := Aside0.mk E10
 clear E10
 by_cases c1 : t2 < 0
 ·clear H
  have c1b : decide (t2 < 0) = true := decide_eq_true c1
  clear c1
  go_enter Try.func11, Try.ntmps11
  go_wp2_with (first | ((with_reducible refine gate_dst (N := 3) rfl ?_); refine box_event ?hg (N := 3) ?hd (cs := #[.slice A0_0 l0_0.length c0_0]) (t := 43) ?hr ?_; (case hd => rfl); (case hg => rfl); (case hr => first | (go_simp; done) | (go_simp; rfl)); intro gb1 hg w_1 hbox hb; have n0_ := Aside0.mk (below_step HB.out hb); have n1_ := Aside0.mk (hbox); have n2_ := Aside0.mk (blk_lt hbox); have n3_ := Aside0.mk (by rw [hg]; exact below_size HB.out : w.heap.size ≤ gb1); clear HB; have HB := n0_; have BKgb1 := n1_; have GUgb1 := n2_; have GEgb1 := n3_; clear n0_ n1_ n2_ n3_; clear hb hbox hg; (try clear hczgb1_0); (try clear hfzgb1_0); have hczgb1_0 : w_1.cell? ⟨gb1, 0, none⟩ = some (.slice A0_0 l0_0.length c0_0) := (blk_cell BKgb1.out 0).trans rfl; have hfzgb1_0 := blk_frozen BKgb1.out 0) | ((with_reducible refine gate_callee (f := 29) rfl ?_); refine goesL_ (some 21) rfl rfl Try.func29 (by kernel_rfl) rfl #[.agg #[.slice A0_0 l0_0.length c0_0], .int .i64 1048576] rfl (by (try simp only [List.map_toArray, List.map_cons, List.map_nil]); first | done | rfl) ?_; (with_reducible refine (laws_szPicture.calls k _ _ l0_0 1048576 t2 _ ?side1 ?side2 E1.out).mono ?_); (case side1 => exact Kd.C_below HR0_0.out HB.out); (case side2 => exact HC0_0.out); rintro e w_2 ⟨rfl, hb⟩; refine ⟨_, rfl, ?_⟩; have n0_ := Aside0.mk (blk_below (g := gb1) BKgb1.out hb); have n1_ := Aside0.mk (Nat.lt_of_lt_of_le GUgb1.out hb.size); have n2_ := Aside0.mk (below_step HB.out hb); clear BKgb1; clear GUgb1; clear HB; have BKgb1 := n0_; have GUgb1 := n1_; have HB := n2_; clear n0_ n1_ n2_; clear hb; (try clear hczgb1_0); (try clear hfzgb1_0); have hczgb1_0 : w_2.cell? ⟨gb1, 0, none⟩ = some (.slice A0_0 l0_0.length c0_0) := (blk_cell BKgb1.out 0).trans rfl; have hfzgb1_0 := blk_frozen BKgb1.out 0))
  go_ret
  exact ⟨by first | rfl | (simp; done) | (simp [*]; done), HB.out⟩
 rw [if_neg c1] at H
 have c1b : decide (t2 < 0) = false := decide_eq_false c1
 clear c1
 replace H := Option.bind_eq_some_iff.mp H
 obtain ⟨t3, E30, H⟩ := H
 (try dsimp only at H)
 have E3 := Aside0.mk E30
 clear E30
 by_cases c3 : t3 < 0
 ·clear H
  have c3b : decide (t3 < 0) = true := decide_eq_true c3
  clear c3
  go_enter Try.func11, Try.ntmps11
  go_wp2_with (first | ((with_reducible refine gate_dst (N := 3) rfl ?_); refine box_event ?hg (N := 3) ?hd (cs := #[.slice A0_0 l0_0.length c0_0]) (t := 43) ?hr ?_; (case hd => rfl); (case hg => rfl); (case hr => first | (go_simp; done) | (go_simp; rfl)); intro gb1 hg w_1 hbox hb; have n0_ := Aside0.mk (below_step HB.out hb); have n1_ := Aside0.mk (hbox); have n2_ := Aside0.mk (blk_lt hbox); have n3_ := Aside0.mk (by rw [hg]; exact below_size HB.out : w.heap.size ≤ gb1); clear HB; have HB := n0_; have BKgb1 := n1_; have GUgb1 := n2_; have GEgb1 := n3_; clear n0_ n1_ n2_ n3_; clear hb hbox hg; (try clear hczgb1_0); (try clear hfzgb1_0); have hczgb1_0 : w_1.cell? ⟨gb1, 0, none⟩ = some (.slice A0_0 l0_0.length c0_0) := (blk_cell BKgb1.out 0).trans rfl; have hfzgb1_0 := blk_frozen BKgb1.out 0) | ((with_reducible refine gate_callee (f := 29) rfl ?_); refine goesL_ (some 21) rfl rfl Try.func29 (by kernel_rfl) rfl #[.agg #[.slice A0_0 l0_0.length c0_0], .int .i64 1048576] rfl (by (try simp only [List.map_toArray, List.map_cons, List.map_nil]); first | done | rfl) ?_; (with_reducible refine (laws_szPicture.calls k _ _ l0_0 1048576 t2 _ ?side1 ?side2 E1.out).mono ?_); (case side1 => exact Kd.C_below HR0_0.out HB.out); (case side2 => exact HC0_0.out); rintro e w_2 ⟨rfl, hb⟩; refine ⟨_, rfl, ?_⟩; have n0_ := Aside0.mk (blk_below (g := gb1) BKgb1.out hb); have n1_ := Aside0.mk (Nat.lt_of_lt_of_le GUgb1.out hb.size); have n2_ := Aside0.mk (below_step HB.out hb); clear BKgb1; clear GUgb1; clear HB; have BKgb1 := n0_; have GUgb1 := n1_; have HB := n2_; clear n0_ n1_ n2_; clear hb; (try clear hczgb1_0); (try clear hfzgb1_0); have hczgb1_0 : w_2.cell? ⟨gb1, 0, none⟩ = some (.slice A0_0 l0_0.length c0_0) := (blk_cell BKgb1.out 0).trans rfl; have hfzgb1_0 := blk_frozen BKgb1.out 0) | ((with_reducible refine gate_callee (f := 34) rfl ?_); refine goesL_ (some 26) rfl rfl Try.func34 (by kernel_rfl) rfl #[.slice A1 l1.length c1, .int .i64 t2] rfl (by (try simp only [List.map_toArray, List.map_cons, List.map_nil]); first | done | rfl) ?_; (with_reducible refine (laws_szInt64SS.calls k _ _ l1 t2 t3 _ ?side1 ?side2 E3.out).mono ?_); (case side1 => exact Kd.C_below HR1.out HB.out); (case side2 => exact HC1.out); rintro e w_3 ⟨rfl, hd⟩; have hb := Drawn0.below hd; refine ⟨_, rfl, ?_⟩; have n0_ := Aside0.mk (blk_below (g := gb1) BKgb1.out hb); have n1_ := Aside0.mk (Nat.lt_of_lt_of_le GUgb1.out hb.size); have n2_ := Aside0.mk (below_step HB.out hb); clear BKgb1; clear GUgb1; clear HB; have BKgb1 := n0_; have GUgb1 := n1_; have HB := n2_; clear n0_ n1_ n2_; clear hb; clear hd; (try clear hczgb1_0); (try clear hfzgb1_0); have hczgb1_0 : w_3.cell? ⟨gb1, 0, none⟩ = some (.slice A0_0 l0_0.length c0_0) := (blk_cell BKgb1.out 0).trans rfl; have hfzgb1_0 := blk_frozen BKgb1.out 0))
  go_ret
  exact ⟨by first | rfl | (simp; done) | (simp [*]; done), HB.out⟩
 rw [if_neg c3] at H
 have c3b : decide (t3 < 0) = false := decide_eq_false c3
 clear c3
 replace H := Option.bind_eq_some_iff.mp H
 obtain ⟨t4, E50, H⟩ := H
 (try dsimp only at H)
 have E5 := Aside0.mk E50
 clear E50
 replace H := Option.bind_eq_some_iff.mp H
 obtain ⟨t6, E60, H⟩ := H
 (try dsimp only at H)
 have E6 := Aside0.mk E60
 clear E60
 replace H := Option.bind_eq_some_iff.mp H
 obtain ⟨⟨t8, t9⟩, E70, H⟩ := H
 (try dsimp only at H)
 have E7 := Aside0.mk E70
 clear E70
 replace H := Option.bind_eq_some_iff.mp H
 obtain ⟨t11, E80, H⟩ := H
 (try dsimp only at H)
 have E8 := Aside0.mk E80
 clear E80
 replace H := Option.bind_eq_some_iff.mp H
 obtain ⟨t14, E90, H⟩ := H
 (try dsimp only at H)
 have E9 := Aside0.mk E90
 clear E90
 replace H := Option.bind_eq_some_iff.mp H
 obtain ⟨⟨t16, t17⟩, E100, H⟩ := H
 (try dsimp only at H)
 have E10 := Aside0.mk E100
 clear E100
 replace H := Option.bind_eq_some_iff.mp H
 obtain ⟨t19, E110, H⟩ := H
 (try dsimp only at H)
 have E11 := Aside0.mk E110
 clear E110
 by_cases c11 : t19 = true
 rotate_left
 ·rw [if_neg c11] at H; exact absurd H (by simp)
 rw [if_pos c11] at H
 subst c11
 by_cases c12 : t17 = t9
 rotate_left
 ·rw [if_neg c12] at H; exact absurd H (by simp)
 rw [if_pos c12] at H
 subst c12
 replace H := Option.bind_eq_some_iff.mp H
 obtain ⟨t20, E140, H⟩ := H
 (try dsimp only at H)
 have E14 := Aside0.mk E140
 clear E140
 replace H := Option.bind_eq_some_iff.mp H
 obtain ⟨t22, E150, H⟩ := H
 (try dsimp only at H)
 have E15 := Aside0.mk E150
 clear E150
 by_cases c15 : t22 = true
 rotate_left
 ·rw [if_neg c15] at H; exact absurd H (by simp)
 rw [if_pos c15] at H
 subst c15
 replace H := Option.bind_eq_some_iff.mp H
 obtain ⟨t23, E170, H⟩ := H
 (try dsimp only at H)
 have E17 := Aside0.mk E170
 clear E170
 replace H := Option.bind_eq_some_iff.mp H
 obtain ⟨t25, E180, H⟩ := H
 (try dsimp only at H)
 have E18 := Aside0.mk E180
 clear E180
 by_cases c18 : t25 = true
 rotate_left
 ·rw [if_neg c18] at H; exact absurd H (by simp)
 rw [if_pos c18] at H
 subst c18
 replace H := Option.bind_eq_some_iff.mp H
 obtain ⟨⟨t26, t27⟩, E200, H⟩ := H
 (try dsimp only at H)
 have E20 := Aside0.mk E200
 clear E200
 replace H := Option.bind_eq_some_iff.mp H
 obtain ⟨⟨t28, t29⟩, E210, H⟩ := H
 (try dsimp only at H)
 have E21 := Aside0.mk E210
 clear E210
 by_cases c21 : t28 < 0
 ·rw [if_pos c21] at H; exact absurd H (by simp)
 rw [if_neg c21] at H
 have c21b : decide (t28 < 0) = false := decide_eq_false c21
 clear c21
 replace H := Option.bind_eq_some_iff.mp H
 obtain ⟨t30, E230, H⟩ := H
 (try dsimp only at H)
 have E23 := Aside0.mk E230
 clear E230
 by_cases c23 : t30 = true
 rotate_left
 ·rw [if_neg c23] at H; exact absurd H (by simp)
 rw [if_pos c23] at H
 subst c23
 replace H := Option.bind_eq_some_iff.mp H
 obtain ⟨⟨t31, t32⟩, E250, H⟩ := H
 (try dsimp only at H)
 have E25 := Aside0.mk E250
 clear E250
 replace H := Option.bind_eq_some_iff.mp H
 obtain ⟨t33, E260, H⟩ := H
 (try dsimp only at H)
 have E26 := Aside0.mk E260
 clear E260
 by_cases c26 : t33 < 0
 ·rw [if_pos c26] at H; exact absurd H (by simp)
 rw [if_neg c26] at H
 have c26b : decide (t33 < 0) = false := decide_eq_false c26
 clear c26
 by_cases c27 : t33 = t31
 rotate_left
 ·rw [if_neg c27] at H; exact absurd H (by simp)
 rw [if_pos c27] at H
 subst c27
 replace H := Option.bind_eq_some_iff.mp H
 obtain ⟨t34, E290, H⟩ := H
 (try dsimp only at H)
 have E29 := Aside0.mk E290
 clear E290
 replace H := Option.bind_eq_some_iff.mp H
 obtain ⟨t36, E300, H⟩ := H
 (try dsimp only at H)
 have E30 := Aside0.mk E300
 clear E300
 replace H := Option.bind_eq_some_iff.mp H
 obtain ⟨⟨t38, t39⟩, E310, H⟩ := H
 (try dsimp only at H)
 have E31 := Aside0.mk E310
 clear E310
 replace H := Option.bind_eq_some_iff.mp H
 obtain ⟨t41, E320, H⟩ := H
 (try dsimp only at H)
 have E32 := Aside0.mk E320
 clear E320
 by_cases c32 : t41 = true
 rotate_left
 ·rw [if_neg c32] at H; exact absurd H (by simp)
 rw [if_pos c32] at H
 subst c32
 by_cases c33 : t39 = t17
 rotate_left
 ·rw [if_neg c33] at H; exact absurd H (by simp)
 rw [if_pos c33] at H
 subst c33
 replace H := Option.bind_eq_some_iff.mp H
 obtain ⟨t42, E350, H⟩ := H
 (try dsimp only at H)
 have E35 := Aside0.mk E350
 clear E350
 by_cases c35 : t42 < 0
 ·rw [if_pos c35] at H; exact absurd H (by simp)
 rw [if_neg c35] at H
 have c35b : decide (t42 < 0) = false := decide_eq_false c35
 clear c35
 by_cases c36 : t42 = t33
 rotate_left
 ·rw [if_neg c36] at H; exact absurd H (by simp)
 rw [if_pos c36] at H
 subst c36
 clear H
 go_enter Try.func11, Try.ntmps11
 go_wp2_with (first | ((with_reducible refine gate_dst (N := 3) rfl ?_); refine box_event ?hg (N := 3) ?hd (cs := #[.slice A0_0 l0_0.length c0_0]) (t := 43) ?hr ?_; (case hd => rfl); (case hg => rfl); (case hr => first | (go_simp; done) | (go_simp; rfl)); intro gb1 hg w_1 hbox hb; have n0_ := Aside0.mk (below_step HB.out hb); have n1_ := Aside0.mk (hbox); have n2_ := Aside0.mk (blk_lt hbox); have n3_ := Aside0.mk (by rw [hg]; exact below_size HB.out : w.heap.size ≤ gb1); clear HB; have HB := n0_; have BKgb1 := n1_; have GUgb1 := n2_; have GEgb1 := n3_; clear n0_ n1_ n2_ n3_; clear hb hbox hg; (try clear hczgb1_0); (try clear hfzgb1_0); have hczgb1_0 : w_1.cell? ⟨gb1, 0, none⟩ = some (.slice A0_0 l0_0.length c0_0) := (blk_cell BKgb1.out 0).trans rfl; have hfzgb1_0 := blk_frozen BKgb1.out 0) | ((with_reducible refine gate_callee (f := 29) rfl ?_); refine goesL_ (some 21) rfl rfl Try.func29 (by kernel_rfl) rfl #[.agg #[.slice A0_0 l0_0.length c0_0], .int .i64 1048576] rfl (by (try simp only [List.map_toArray, List.map_cons, List.map_nil]); first | done | rfl) ?_; (with_reducible refine (laws_szPicture.calls k _ _ l0_0 1048576 t2 _ ?side1 ?side2 E1.out).mono ?_); (case side1 => exact Kd.C_below HR0_0.out HB.out); (case side2 => exact HC0_0.out); rintro e w_2 ⟨rfl, hb⟩; refine ⟨_, rfl, ?_⟩; have n0_ := Aside0.mk (blk_below (g := gb1) BKgb1.out hb); have n1_ := Aside0.mk (Nat.lt_of_lt_of_le GUgb1.out hb.size); have n2_ := Aside0.mk (below_step HB.out hb); clear BKgb1; clear GUgb1; clear HB; have BKgb1 := n0_; have GUgb1 := n1_; have HB := n2_; clear n0_ n1_ n2_; clear hb; (try clear hczgb1_0); (try clear hfzgb1_0); have hczgb1_0 : w_2.cell? ⟨gb1, 0, none⟩ = some (.slice A0_0 l0_0.length c0_0) := (blk_cell BKgb1.out 0).trans rfl; have hfzgb1_0 := blk_frozen BKgb1.out 0) | ((with_reducible refine gate_callee (f := 34) rfl ?_); refine goesL_ (some 26) rfl rfl Try.func34 (by kernel_rfl) rfl #[.slice A1 l1.length c1, .int .i64 t2] rfl (by (try simp only [List.map_toArray, List.map_cons, List.map_nil]); first | done | rfl) ?_; (with_reducible refine (laws_szInt64SS.calls k _ _ l1 t2 t3 _ ?side1 ?side2 E3.out).mono ?_); (case side1 => exact Kd.C_below HR1.out HB.out); (case side2 => exact HC1.out); rintro e w_3 ⟨rfl, hd⟩; have hb := Drawn0.below hd; refine ⟨_, rfl, ?_⟩; have n0_ := Aside0.mk (blk_below (g := gb1) BKgb1.out hb); have n1_ := Aside0.mk (Nat.lt_of_lt_of_le GUgb1.out hb.size); have n2_ := Aside0.mk (below_step HB.out hb); clear BKgb1; clear GUgb1; clear HB; have BKgb1 := n0_; have GUgb1 := n1_; have HB := n2_; clear n0_ n1_ n2_; clear hb; clear hd; (try clear hczgb1_0); (try clear hfzgb1_0); have hczgb1_0 : w_3.cell? ⟨gb1, 0, none⟩ = some (.slice A0_0 l0_0.length c0_0) := (blk_cell BKgb1.out 0).trans rfl; have hfzgb1_0 := blk_frozen BKgb1.out 0) | ((with_reducible refine gate_callee (f := 31) rfl ?_); refine goesL_ (some 31) rfl rfl Try.func31 (by kernel_rfl) rfl #[.agg #[.slice A0_0 l0_0.length c0_0]] rfl (by (try simp only [List.map_toArray, List.map_cons, List.map_nil]); first | done | rfl) ?_; (with_reducible refine (laws_toPicture.calls k _ _ l0_0 t4 _ ?side1 ?side2 E5.out).mono ?_); (case side1 => exact Kd.C_below HR0_0.out HB.out); (case side2 => exact HC0_0.out); rintro e w_4 ⟨vR5, rfl, hoR5, hb⟩; refine ⟨_, rfl, ?_⟩; obtain ⟨loR5, hloR5⟩ : ∃ n_ : Nat, n_ = w_3.heap.size := ⟨_, rfl⟩; obtain ⟨hiR5, hhiR5⟩ : ∃ n_ : Nat, n_ = w_4.heap.size := ⟨_, rfl⟩; have n0_ := Aside0.mk (blk_below (g := gb1) BKgb1.out hb); have n1_ := Aside0.mk (Nat.lt_of_lt_of_le GUgb1.out hb.size); have n2_ := Aside0.mk (below_step HB.out hb); have n3_ := Aside0.mk (Kd.S_lower (Kd.S_mono (ok' := fun k_ => loR5 ≤ k_ ∧ k_ < hiR5) (Kd.S_bound hoR5) (fun k_ hk_ => ⟨by rw [hloR5]; exact hk_.2.1, by rw [hhiR5]; exact hk_.2.2.1⟩)) (below_size HB.out)); have n4_ := Aside0.mk (by rw [hhiR5]; exact Nat.le_refl _ : hiR5 ≤ w_4.heap.size); have n5_ := Aside0.mk (fun k_ hk_ => by have := GUgb1.out; rw [← hloR5] at this; omega : ∀ k_, loR5 ≤ k_ ∧ k_ < hiR5 → k_ ≠ gb1); clear BKgb1; clear GUgb1; clear HB; have BKgb1 := n0_; have GUgb1 := n1_; have HB := n2_; have HOR5 := n3_; have UPR5 := n4_; have NER5_gb1 := n5_; clear n0_ n1_ n2_ n3_ n4_ n5_; clear hb; clear hoR5 hloR5 hhiR5; obtain ⟨AR5, cR5, eqR5⟩ := Kd.S_slice HOR5.out; subst eqR5; (try clear hczgb1_0); (try clear hfzgb1_0); have hczgb1_0 : w_4.cell? ⟨gb1, 0, none⟩ = some (.slice A0_0 l0_0.length c0_0) := (blk_cell BKgb1.out 0).trans rfl; have hfzgb1_0 := blk_frozen BKgb1.out 0) | ((with_reducible refine gate_callee (f := 36) rfl ?_); refine goesL_ (some 33) rfl rfl Try.func36 (by kernel_rfl) rfl #[.slice A1 l1.length c1] rfl (by (try simp only [List.map_toArray, List.map_cons, List.map_nil]); first | done | rfl) ?_; (with_reducible refine (laws_toInt64SS.calls k _ _ l1 t6 _ ?side1 ?side2 E6.out).mono ?_); (case side1 => exact Kd.C_below HR1.out HB.out); (case side2 => exact HC1.out); rintro e w_5 ⟨vR7, rfl, hoR7, hb⟩; refine ⟨_, rfl, ?_⟩; obtain ⟨loR7, hloR7⟩ : ∃ n_ : Nat, n_ = w_4.heap.size := ⟨_, rfl⟩; obtain ⟨hiR7, hhiR7⟩ : ∃ n_ : Nat, n_ = w_5.heap.size := ⟨_, rfl⟩; have n0_ := Aside0.mk (Kd.S_below HOR5.out hb); have n1_ := Aside0.mk (Nat.le_trans UPR5.out hb.size); have n2_ := Aside0.mk (blk_below (g := gb1) BKgb1.out hb); have n3_ := Aside0.mk (Nat.lt_of_lt_of_le GUgb1.out hb.size); have n4_ := Aside0.mk (below_step HB.out hb); have n5_ := Aside0.mk (Kd.S_lower (Kd.S_mono (ok' := fun k_ => loR7 ≤ k_ ∧ k_ < hiR7) (Kd.S_bound hoR7) (fun k_ hk_ => ⟨by rw [hloR7]; exact hk_.2.1, by rw [hhiR7]; exact hk_.2.2.1⟩)) (below_size HB.out)); have n6_ := Aside0.mk (by rw [hhiR7]; exact Nat.le_refl _ : hiR7 ≤ w_5.heap.size); have n7_ := Aside0.mk (fun k_ h1_ h2_ => by have := UPR5.out; rw [← hloR7] at this; omega : ∀ k_, loR5 ≤ k_ ∧ k_ < hiR5 → ¬ (loR7 ≤ k_ ∧ k_ < hiR7)); have n8_ := Aside0.mk (fun k_ h1_ h2_ => by have := UPR5.out; rw [← hloR7] at this; omega : ∀ k_, loR7 ≤ k_ ∧ k_ < hiR7 → ¬ (loR5 ≤ k_ ∧ k_ < hiR5)); have n9_ := Aside0.mk (fun k_ hk_ => by have := GUgb1.out; rw [← hloR7] at this; omega : ∀ k_, loR7 ≤ k_ ∧ k_ < hiR7 → k_ ≠ gb1); clear HOR5; clear UPR5; clear BKgb1; clear GUgb1; clear HB; have HOR5 := n0_; have UPR5 := n1_; have BKgb1 := n2_; have GUgb1 := n3_; have HB := n4_; have HOR7 := n5_; have UPR7 := n6_; have NRR5_R7 := n7_; have NRR7_R5 := n8_; have NER7_gb1 := n9_; clear n0_ n1_ n2_ n3_ n4_ n5_ n6_ n7_ n8_ n9_; clear hb; clear hoR7 hloR7 hhiR7; obtain ⟨AR7, cR7, eqR7⟩ := Kd.S_slice HOR7.out; subst eqR7; (try clear hczgb1_0); (try clear hfzgb1_0); have hczgb1_0 : w_5.cell? ⟨gb1, 0, none⟩ = some (.slice A0_0 l0_0.length c0_0) := (blk_cell BKgb1.out 0).trans rfl; have hfzgb1_0 := blk_frozen BKgb1.out 0) | ((with_reducible refine gate_callee (f := 44) rfl ?_); refine goesL_ (some 35) rfl rfl Try.func44 (by kernel_rfl) rfl #[.agg #[.slice AR5 t4.length cR5], .slice AR7 t6.length cR7, .int .i64 a2] rfl (by (try simp only [List.map_toArray, List.map_cons, List.map_nil]); first | done | rfl) ?_; (with_reducible refine (spec_BlockErrors.calls k _ _ t4 _ _ t6 a2 t8 t39 _ ?side1 ?side2 ?side3 ?side4 E7.out).mono ?_); (case side1 => exact (Kd.S_reads' HOR5.out).2.2); (case side2 => exact (Kd.S_reads' HOR5.out).2.1); (case side3 => exact (Kd.S_reads' HOR7.out).2.2); (case side4 => exact (Kd.S_reads' HOR7.out).2.1); rintro e w_6 ⟨vR10, rfl, hoR10, hb⟩; refine ⟨_, rfl, ?_⟩; obtain ⟨loR10, hloR10⟩ : ∃ n_ : Nat, n_ = w_5.heap.size := ⟨_, rfl⟩; obtain ⟨hiR10, hhiR10⟩ : ∃ n_ : Nat, n_ = w_6.heap.size := ⟨_, rfl⟩; have n0_ := Aside0.mk (Kd.S_below HOR5.out hb); have n1_ := Aside0.mk (Kd.S_below HOR7.out hb); have n2_ := Aside0.mk (Nat.le_trans UPR5.out hb.size); have n3_ := Aside0.mk (Nat.le_trans UPR7.out hb.size); have n4_ := Aside0.mk (blk_below (g := gb1) BKgb1.out hb); have n5_ := Aside0.mk (Nat.lt_of_lt_of_le GUgb1.out hb.size); have n6_ := Aside0.mk (below_step HB.out hb); have n7_ := Aside0.mk (Kd.S_lower (Kd.S_mono (ok' := fun k_ => loR10 ≤ k_ ∧ k_ < hiR10) (Kd.S_bound hoR10) (fun k_ hk_ => ⟨by rw [hloR10]; exact hk_.2.1, by rw [hhiR10]; exact hk_.2.2.1⟩)) (below_size HB.out)); have n8_ := Aside0.mk (by rw [hhiR10]; exact Nat.le_refl _ : hiR10 ≤ w_6.heap.size); have n9_ := Aside0.mk (fun k_ h1_ h2_ => by have := UPR5.out; rw [← hloR10] at this; omega : ∀ k_, loR5 ≤ k_ ∧ k_ < hiR5 → ¬ (loR10 ≤ k_ ∧ k_ < hiR10)); have n10_ := Aside0.mk (fun k_ h1_ h2_ => by have := UPR5.out; rw [← hloR10] at this; omega : ∀ k_, loR10 ≤ k_ ∧ k_ < hiR10 → ¬ (loR5 ≤ k_ ∧ k_ < hiR5)); have n11_ := Aside0.mk (fun k_ h1_ h2_ => by have := UPR7.out; rw [← hloR10] at this; omega : ∀ k_, loR7 ≤ k_ ∧ k_ < hiR7 → ¬ (loR10 ≤ k_ ∧ k_ < hiR10)); have n12_ := Aside0.mk (fun k_ h1_ h2_ => by have := UPR7.out; rw [← hloR10] at this; omega : ∀ k_, loR10 ≤ k_ ∧ k_ < hiR10 → ¬ (loR7 ≤ k_ ∧ k_ < hiR7)); have n13_ := Aside0.mk (fun k_ hk_ => by have := GUgb1.out; rw [← hloR10] at this; omega : ∀ k_, loR10 ≤ k_ ∧ k_ < hiR10 → k_ ≠ gb1); clear HOR5; clear HOR7; clear UPR5; clear UPR7; clear BKgb1; clear GUgb1; clear HB; have HOR5 := n0_; have HOR7 := n1_; have UPR5 := n2_; have UPR7 := n3_; have BKgb1 := n4_; have GUgb1 := n5_; have HB := n6_; have HOR10 := n7_; have UPR10 := n8_; have NRR5_R10 := n9_; have NRR10_R5 := n10_; have NRR7_R10 := n11_; have NRR10_R7 := n12_; have NER10_gb1 := n13_; clear n0_ n1_ n2_ n3_ n4_ n5_ n6_ n7_ n8_ n9_ n10_ n11_ n12_ n13_; clear hb; clear hoR10 hloR10 hhiR10; obtain ⟨AR10, cR10, eqR10⟩ := Kd.S_slice HOR10.out; subst eqR10; (try clear hczgb1_0); (try clear hfzgb1_0); have hczgb1_0 : w_6.cell? ⟨gb1, 0, none⟩ = some (.slice A0_0 l0_0.length c0_0) := (blk_cell BKgb1.out 0).trans rfl; have hfzgb1_0 := blk_frozen BKgb1.out 0) | ((with_reducible refine gate_callee (f := 31) rfl ?_); refine goesL_ (some 39) rfl rfl Try.func31 (by kernel_rfl) rfl #[.agg #[.slice A0_0 l0_0.length c0_0]] rfl (by (try simp only [List.map_toArray, List.map_cons, List.map_nil]); first | done | rfl) ?_; have HWM := HB; have HBM := Aside0.mk (Below.refl w_6.heap.size w_6); (with_reducible refine (laws_toPicture.calls k _ _ l0_0 t11 _ ?side1 ?side2 E8.out).mono ?_); (case side1 => exact Kd.C_below HR0_0.out HB.out); (case side2 => exact HC0_0.out); rintro e w_7 ⟨vR12, rfl, hoR12, hb⟩; refine ⟨_, rfl, ?_⟩; obtain ⟨loR12, hloR12⟩ : ∃ n_ : Nat, n_ = w_6.heap.size := ⟨_, rfl⟩; obtain ⟨hiR12, hhiR12⟩ : ∃ n_ : Nat, n_ = w_7.heap.size := ⟨_, rfl⟩; have n0_ := Aside0.mk (Kd.S_below HOR5.out hb); have n1_ := Aside0.mk (Kd.S_below HOR7.out hb); have n2_ := Aside0.mk (Kd.S_below HOR10.out hb); have n3_ := Aside0.mk (Nat.le_trans UPR5.out hb.size); have n4_ := Aside0.mk (Nat.le_trans UPR7.out hb.size); have n5_ := Aside0.mk (Nat.le_trans UPR10.out hb.size); have n6_ := Aside0.mk (blk_below (g := gb1) BKgb1.out hb); have n7_ := Aside0.mk (Nat.lt_of_lt_of_le GUgb1.out hb.size); have n8_ := Aside0.mk (below_step HB.out hb); have n9_ := Aside0.mk (below_step HBM.out hb); have n10_ := Aside0.mk (Kd.S_lower (Kd.S_mono (ok' := fun k_ => loR12 ≤ k_ ∧ k_ < hiR12) (Kd.S_bound hoR12) (fun k_ hk_ => ⟨by rw [hloR12]; exact hk_.2.1, by rw [hhiR12]; exact hk_.2.2.1⟩)) (below_size HBM.out)); have n11_ := Aside0.mk (by rw [hhiR12]; exact Nat.le_refl _ : hiR12 ≤ w_7.heap.size); have n12_ := Aside0.mk (fun k_ h1_ h2_ => by have := UPR5.out; rw [← hloR12] at this; omega : ∀ k_, loR5 ≤ k_ ∧ k_ < hiR5 → ¬ (loR12 ≤ k_ ∧ k_ < hiR12)); have n13_ := Aside0.mk (fun k_ h1_ h2_ => by have := UPR5.out; rw [← hloR12] at this; omega : ∀ k_, loR12 ≤ k_ ∧ k_ < hiR12 → ¬ (loR5 ≤ k_ ∧ k_ < hiR5)); have n14_ := Aside0.mk (fun k_ h1_ h2_ => by have := UPR7.out; rw [← hloR12] at this; omega : ∀ k_, loR7 ≤ k_ ∧ k_ < hiR7 → ¬ (loR12 ≤ k_ ∧ k_ < hiR12)); have n15_ := Aside0.mk (fun k_ h1_ h2_ => by have := UPR7.out; rw [← hloR12] at this; omega : ∀ k_, loR12 ≤ k_ ∧ k_ < hiR12 → ¬ (loR7 ≤ k_ ∧ k_ < hiR7)); have n16_ := Aside0.mk (fun k_ h1_ h2_ => by have := UPR10.out; rw [← hloR12] at this; omega : ∀ k_, loR10 ≤ k_ ∧ k_ < hiR10 → ¬ (loR12 ≤ k_ ∧ k_ < hiR12)); have n17_ := Aside0.mk (fun k_ h1_ h2_ => by have := UPR10.out; rw [← hloR12] at this; omega : ∀ k_, loR12 ≤ k_ ∧ k_ < hiR12 → ¬ (loR10 ≤ k_ ∧ k_ < hiR10)); have n18_ := Aside0.mk (fun k_ hk_ => by have := GUgb1.out; rw [← hloR12] at this; omega : ∀ k_, loR12 ≤ k_ ∧ k_ < hiR12 → k_ ≠ gb1); clear HOR5; clear HOR7; clear HOR10; clear UPR5; clear UPR7; clear UPR10; clear BKgb1; clear GUgb1; clear HB; clear HBM; have HOR5 := n0_; have HOR7 := n1_; have HOR10 := n2_; have UPR5 := n3_; have UPR7 := n4_; have UPR10 := n5_; have BKgb1 := n6_; have GUgb1 := n7_; have HB := n8_; have HBM := n9_; have HOR12 := n10_; have UPR12 := n11_; have NRR5_R12 := n12_; have NRR12_R5 := n13_; have NRR7_R12 := n14_; have NRR12_R7 := n15_; have NRR10_R12 := n16_; have NRR12_R10 := n17_; have NER12_gb1 := n18_; clear n0_ n1_ n2_ n3_ n4_ n5_ n6_ n7_ n8_ n9_ n10_ n11_ n12_ n13_ n14_ n15_ n16_ n17_ n18_; clear hb; clear hoR12 hloR12 hhiR12; obtain ⟨AR12, cR12, eqR12⟩ := Kd.S_slice HOR12.out; subst eqR12; (try clear hczgb1_0); (try clear hfzgb1_0); have hczgb1_0 : w_7.cell? ⟨gb1, 0, none⟩ = some (.slice A0_0 l0_0.length c0_0) := (blk_cell BKgb1.out 0).trans rfl; have hfzgb1_0 := blk_frozen BKgb1.out 0) | ((with_reducible refine gate_dst (N := 10) rfl ?_); refine box_event ?hg (N := 10) ?hd (cs := #[.slice none 0 0]) (t := 46) ?hr ?_; (case hd => rfl); (case hg => rfl); (case hr => first | (go_simp; done) | (go_simp; rfl)); intro gb13 hg w_8 hbox hb; have n0_ := Aside0.mk (Kd.S_below HOR5.out hb); have n1_ := Aside0.mk (Kd.S_below HOR7.out hb); have n2_ := Aside0.mk (Kd.S_below HOR10.out hb); have n3_ := Aside0.mk (Kd.S_below HOR12.out hb); have n4_ := Aside0.mk (Nat.le_trans UPR5.out hb.size); have n5_ := Aside0.mk (Nat.le_trans UPR7.out hb.size); have n6_ := Aside0.mk (Nat.le_trans UPR10.out hb.size); have n7_ := Aside0.mk (Nat.le_trans UPR12.out hb.size); have n8_ := Aside0.mk (blk_below (g := gb1) BKgb1.out hb); have n9_ := Aside0.mk (Nat.lt_of_lt_of_le GUgb1.out hb.size); have n10_ := Aside0.mk (below_step HB.out hb); have n11_ := Aside0.mk (below_step HBM.out hb); have n12_ := Aside0.mk (hbox); have n13_ := Aside0.mk (blk_lt hbox); have n14_ := Aside0.mk (by rw [hg]; exact below_size HB.out : w.heap.size ≤ gb13); have n15_ := Aside0.mk (by rw [hg]; exact below_size HBM.out : w_6.heap.size ≤ gb13); have n16_ := Aside0.mk (fun k_ hk_ => by have := UPR5.out; rw [← hg] at this; omega : ∀ k_, loR5 ≤ k_ ∧ k_ < hiR5 → k_ ≠ gb13); have n17_ := Aside0.mk (fun k_ hk_ => by have := UPR7.out; rw [← hg] at this; omega : ∀ k_, loR7 ≤ k_ ∧ k_ < hiR7 → k_ ≠ gb13); have n18_ := Aside0.mk (fun k_ hk_ => by have := UPR10.out; rw [← hg] at this; omega : ∀ k_, loR10 ≤ k_ ∧ k_ < hiR10 → k_ ≠ gb13); have n19_ := Aside0.mk (fun k_ hk_ => by have := UPR12.out; rw [← hg] at this; omega : ∀ k_, loR12 ≤ k_ ∧ k_ < hiR12 → k_ ≠ gb13); have n20_ := Aside0.mk (by have := GUgb1.out; rw [← hg] at this; omega : gb1 ≠ gb13); have n21_ := Aside0.mk (by have := GUgb1.out; rw [← hg] at this; omega : gb13 ≠ gb1); clear HOR5; clear HOR7; clear HOR10; clear HOR12; clear UPR5; clear UPR7; clear UPR10; clear UPR12; clear BKgb1; clear GUgb1; clear HB; clear HBM; have HOR5 := n0_; have HOR7 := n1_; have HOR10 := n2_; have HOR12 := n3_; have UPR5 := n4_; have UPR7 := n5_; have UPR10 := n6_; have UPR12 := n7_; have BKgb1 := n8_; have GUgb1 := n9_; have HB := n10_; have HBM := n11_; have BKgb13 := n12_; have GUgb13 := n13_; have GEgb13 := n14_; have GMgb13 := n15_; have NER5_gb13 := n16_; have NER7_gb13 := n17_; have NER10_gb13 := n18_; have NER12_gb13 := n19_; have NBgb1_gb13 := n20_; have NBgb13_gb1 := n21_; clear n0_ n1_ n2_ n3_ n4_ n5_ n6_ n7_ n8_ n9_ n10_ n11_ n12_ n13_ n14_ n15_ n16_ n17_ n18_ n19_ n20_ n21_; clear hb hbox hg; (try clear hczgb1_0); (try clear hfzgb1_0); (try clear hczgb13_0); (try clear hfzgb13_0); have hczgb1_0 : w_8.cell? ⟨gb1, 0, none⟩ = some (.slice A0_0 l0_0.length c0_0) := (blk_cell BKgb1.out 0).trans rfl; have hfzgb1_0 := blk_frozen BKgb1.out 0; have hczgb13_0 : w_8.cell? ⟨gb13, 0, none⟩ = some (.slice none 0 0) := (blk_cell BKgb13.out 0).trans rfl; have hfzgb13_0 := blk_frozen BKgb13.out 0) | ((with_reducible refine gate_store (t := 46) (p := 10) rfl ?_); refine store_event (t := 46) (p := 10) (v := ?vo) (w1 := (w_8.setCell ⟨gb13, 0, none⟩ (.slice AR12 t11.length cR12))) ?hg ?ho ?hn ?hr ?_; (case ho => rfl); (case hg => rfl); (case hn => rfl); (case hr => first | (go_simp; done) | (go_simp; rfl)); intro w_9 hw; have n0_ := Aside0.mk (by rw [hw]; exact (Kd.S_far (p := ⟨gb13, 0, none⟩) HOR5.out NER5_gb13.out (.slice AR12 t11.length cR12)) : Kd.S (Kd.slice 2 (Kd.int .i64)) 65 w_9 w.heap.size (fun k_ => loR5 ≤ k_ ∧ k_ < hiR5) (.slice AR5 t4.length cR5) t4); have n1_ := Aside0.mk (by rw [hw]; simp only [World.size_setCell]; exact UPR5.out : hiR5 ≤ w_9.heap.size); have n2_ := Aside0.mk (by rw [hw]; exact (Kd.S_far (p := ⟨gb13, 0, none⟩) HOR7.out NER7_gb13.out (.slice AR12 t11.length cR12)) : Kd.S (Kd.slice 2 (Kd.int .i64)) 65 w_9 w.heap.size (fun k_ => loR7 ≤ k_ ∧ k_ < hiR7) (.slice AR7 t6.length cR7) t6); have n3_ := Aside0.mk (by rw [hw]; simp only [World.size_setCell]; exact UPR7.out : hiR7 ≤ w_9.heap.size); have n4_ := Aside0.mk (by rw [hw]; exact (Kd.S_far (p := ⟨gb13, 0, none⟩) HOR10.out NER10_gb13.out (.slice AR12 t11.length cR12)) : Kd.S (Kd.slice 2 (Kd.int .i64)) 65 w_9 w.heap.size (fun k_ => loR10 ≤ k_ ∧ k_ < hiR10) (.slice AR10 t8.length cR10) t8); have n5_ := Aside0.mk (by rw [hw]; simp only [World.size_setCell]; exact UPR10.out : hiR10 ≤ w_9.heap.size); have n6_ := Aside0.mk (by rw [hw]; exact (Kd.S_far (p := ⟨gb13, 0, none⟩) HOR12.out NER12_gb13.out (.slice AR12 t11.length cR12)) : Kd.S (Kd.slice 2 (Kd.int .i64)) 65 w_9 w_6.heap.size (fun k_ => loR12 ≤ k_ ∧ k_ < hiR12) (.slice AR12 t11.length cR12) t11); have n7_ := Aside0.mk (by rw [hw]; simp only [World.size_setCell]; exact UPR12.out : hiR12 ≤ w_9.heap.size); have n8_ := Aside0.mk (by rw [hw]; exact (blk_far BKgb1.out NBgb1_gb13.out (.slice AR12 t11.length cR12)) : w_9.heap[gb1]? = some (.cells #[.slice A0_0 l0_0.length c0_0] 43 (0, 0))); have n9_ := Aside0.mk (by rw [hw]; simp only [World.size_setCell]; exact GUgb1.out : gb1 < w_9.heap.size); have n10_ := Aside0.mk (by rw [hw]; exact (blk_put (cs' := #[.slice AR12 t11.length cR12]) BKgb13.out 0 (.slice AR12 t11.length cR12) rfl) : w_9.heap[gb13]? = some (.cells #[.slice AR12 t11.length cR12] 46 (0, 0))); have n11_ := Aside0.mk (by rw [hw]; simp only [World.size_setCell]; exact GUgb13.out : gb13 < w_9.heap.size); have n12_ := Aside0.mk (by rw [hw]; exact (below_set HB.out GEgb13.out) : Below w.heap.size w w_9); have n13_ := Aside0.mk (by rw [hw]; exact (below_set HBM.out GMgb13.out) : Below w_6.heap.size w_6 w_9); clear HOR5; clear UPR5; clear HOR7; clear UPR7; clear HOR10; clear UPR10; clear HOR12; clear UPR12; clear BKgb1; clear GUgb1; clear BKgb13; clear GUgb13; clear HB; clear HBM; have HOR5 := n0_; have UPR5 := n1_; have HOR7 := n2_; have UPR7 := n3_; have HOR10 := n4_; have UPR10 := n5_; have HOR12 := n6_; have UPR12 := n7_; have BKgb1 := n8_; have GUgb1 := n9_; have BKgb13 := n10_; have GUgb13 := n11_; have HB := n12_; have HBM := n13_; clear n0_ n1_ n2_ n3_ n4_ n5_ n6_ n7_ n8_ n9_ n10_ n11_ n12_ n13_; clear hw; (try clear hczgb1_0); (try clear hfzgb1_0); (try clear hczgb13_0); (try clear hfzgb13_0); have hczgb1_0 : w_9.cell? ⟨gb1, 0, none⟩ = some (.slice A0_0 l0_0.length c0_0) := (blk_cell BKgb1.out 0).trans rfl; have hfzgb1_0 := blk_frozen BKgb1.out 0; have hczgb13_0 : w_9.cell? ⟨gb13, 0, none⟩ = some (.slice AR12 t11.length cR12) := (blk_cell BKgb13.out 0).trans rfl; have hfzgb13_0 := blk_frozen BKgb13.out 0) | ((with_reducible refine gate_callee (f := 36) rfl ?_); refine goesL_ (some 41) rfl rfl Try.func36 (by kernel_rfl) rfl #[.slice A1 l1.length c1] rfl (by (try simp only [List.map_toArray, List.map_cons, List.map_nil]); first | done | rfl) ?_; (with_reducible refine (laws_toInt64SS.calls k _ _ l1 t14 _ ?side1 ?side2 E9.out).mono ?_); (case side1 => exact Kd.C_below HR1.out HB.out); (case side2 => exact HC1.out); rintro e w_10 ⟨vR15, rfl, hoR15, hb⟩; refine ⟨_, rfl, ?_⟩; obtain ⟨loR15, hloR15⟩ : ∃ n_ : Nat, n_ = w_9.heap.size := ⟨_, rfl⟩; obtain ⟨hiR15, hhiR15⟩ : ∃ n_ : Nat, n_ = w_10.heap.size := ⟨_, rfl⟩; have n0_ := Aside0.mk (Kd.S_below HOR5.out hb); have n1_ := Aside0.mk (Kd.S_below HOR7.out hb); have n2_ := Aside0.mk (Kd.S_below HOR10.out hb); have n3_ := Aside0.mk (Kd.S_below HOR12.out hb); have n4_ := Aside0.mk (Nat.le_trans UPR5.out hb.size); have n5_ := Aside0.mk (Nat.le_trans UPR7.out hb.size); have n6_ := Aside0.mk (Nat.le_trans UPR10.out hb.size); have n7_ := Aside0.mk (Nat.le_trans UPR12.out hb.size); have n8_ := Aside0.mk (blk_below (g := gb1) BKgb1.out hb); have n9_ := Aside0.mk (blk_below (g := gb13) BKgb13.out hb); have n10_ := Aside0.mk (Nat.lt_of_lt_of_le GUgb1.out hb.size); have n11_ := Aside0.mk (Nat.lt_of_lt_of_le GUgb13.out hb.size); have n12_ := Aside0.mk (below_step HB.out hb); have n13_ := Aside0.mk (below_step HBM.out hb); have n14_ := Aside0.mk (Kd.S_lower (Kd.S_mono (ok' := fun k_ => loR15 ≤ k_ ∧ k_ < hiR15) (Kd.S_bound hoR15) (fun k_ hk_ => ⟨by rw [hloR15]; exact hk_.2.1, by rw [hhiR15]; exact hk_.2.2.1⟩)) (below_size HBM.out)); have n15_ := Aside0.mk (by rw [hhiR15]; exact Nat.le_refl _ : hiR15 ≤ w_10.heap.size); have n16_ := Aside0.mk (fun k_ h1_ h2_ => by have := UPR5.out; rw [← hloR15] at this; omega : ∀ k_, loR5 ≤ k_ ∧ k_ < hiR5 → ¬ (loR15 ≤ k_ ∧ k_ < hiR15)); have n17_ := Aside0.mk (fun k_ h1_ h2_ => by have := UPR5.out; rw [← hloR15] at this; omega : ∀ k_, loR15 ≤ k_ ∧ k_ < hiR15 → ¬ (loR5 ≤ k_ ∧ k_ < hiR5)); have n18_ := Aside0.mk (fun k_ h1_ h2_ => by have := UPR7.out; rw [← hloR15] at this; omega : ∀ k_, loR7 ≤ k_ ∧ k_ < hiR7 → ¬ (loR15 ≤ k_ ∧ k_ < hiR15)); have n19_ := Aside0.mk (fun k_ h1_ h2_ => by have := UPR7.out; rw [← hloR15] at this; omega : ∀ k_, loR15 ≤ k_ ∧ k_ < hiR15 → ¬ (loR7 ≤ k_ ∧ k_ < hiR7)); have n20_ := Aside0.mk (fun k_ h1_ h2_ => by have := UPR10.out; rw [← hloR15] at this; omega : ∀ k_, loR10 ≤ k_ ∧ k_ < hiR10 → ¬ (loR15 ≤ k_ ∧ k_ < hiR15)); have n21_ := Aside0.mk (fun k_ h1_ h2_ => by have := UPR10.out; rw [← hloR15] at this; omega : ∀ k_, loR15 ≤ k_ ∧ k_ < hiR15 → ¬ (loR10 ≤ k_ ∧ k_ < hiR10)); have n22_ := Aside0.mk (fun k_ h1_ h2_ => by have := UPR12.out; rw [← hloR15] at this; omega : ∀ k_, loR12 ≤ k_ ∧ k_ < hiR12 → ¬ (loR15 ≤ k_ ∧ k_ < hiR15)); have n23_ := Aside0.mk (fun k_ h1_ h2_ => by have := UPR12.out; rw [← hloR15] at this; omega : ∀ k_, loR15 ≤ k_ ∧ k_ < hiR15 → ¬ (loR12 ≤ k_ ∧ k_ < hiR12)); have n24_ := Aside0.mk (fun k_ hk_ => by have := GUgb1.out; rw [← hloR15] at this; omega : ∀ k_, loR15 ≤ k_ ∧ k_ < hiR15 → k_ ≠ gb1); have n25_ := Aside0.mk (fun k_ hk_ => by have := GUgb13.out; rw [← hloR15] at this; omega : ∀ k_, loR15 ≤ k_ ∧ k_ < hiR15 → k_ ≠ gb13); clear HOR5; clear HOR7; clear HOR10; clear HOR12; clear UPR5; clear UPR7; clear UPR10; clear UPR12; clear BKgb1; clear BKgb13; clear GUgb1; clear GUgb13; clear HB; clear HBM; have HOR5 := n0_; have HOR7 := n1_; have HOR10 := n2_; have HOR12 := n3_; have UPR5 := n4_; have UPR7 := n5_; have UPR10 := n6_; have UPR12 := n7_; have BKgb1 := n8_; have BKgb13 := n9_; have GUgb1 := n10_; have GUgb13 := n11_; have HB := n12_; have HBM := n13_; have HOR15 := n14_; have UPR15 := n15_; have NRR5_R15 := n16_; have NRR15_R5 := n17_; have NRR7_R15 := n18_; have NRR15_R7 := n19_; have NRR10_R15 := n20_; have NRR15_R10 := n21_; have NRR12_R15 := n22_; have NRR15_R12 := n23_; have NER15_gb1 := n24_; have NER15_gb13 := n25_; clear n0_ n1_ n2_ n3_ n4_ n5_ n6_ n7_ n8_ n9_ n10_ n11_ n12_ n13_ n14_ n15_ n16_ n17_ n18_ n19_ n20_ n21_ n22_ n23_ n24_ n25_; clear hb; clear hoR15 hloR15 hhiR15; obtain ⟨AR15, cR15, eqR15⟩ := Kd.S_slice HOR15.out; subst eqR15; (try clear hczgb1_0); (try clear hfzgb1_0); (try clear hczgb13_0); (try clear hfzgb13_0); have hczgb1_0 : w_10.cell? ⟨gb1, 0, none⟩ = some (.slice A0_0 l0_0.length c0_0) := (blk_cell BKgb1.out 0).trans rfl; have hfzgb1_0 := blk_frozen BKgb1.out 0; have hczgb13_0 : w_10.cell? ⟨gb13, 0, none⟩ = some (.slice AR12 t11.length cR12) := (blk_cell BKgb13.out 0).trans rfl; have hfzgb13_0 := blk_frozen BKgb13.out 0) | ((with_reducible refine gate_callee (f := 45) rfl ?_); refine goesL_ (some 46) rfl rfl Try.func45 (by kernel_rfl) rfl #[.agg #[.slice AR12 t11.length cR12], .slice AR15 t14.length cR15, .int .i64 a2] rfl (by (try simp only [List.map_toArray, List.map_cons, List.map_nil]); first | done | rfl) ?_; (with_reducible refine (impl_BlockErrors.calls k _ _ t11 _ _ t14 a2 t16 t39 _ ?side1 ?side2 ?side3 ?side4 E10.out).mono ?_); (case side1 => exact (Kd.S_reads' HOR12.out).2.2); (case side2 => exact (Kd.S_reads' HOR12.out).2.1); (case side3 => exact (Kd.S_reads' HOR15.out).2.2); (case side4 => exact (Kd.S_reads' HOR15.out).2.1); rintro e w_11 ⟨vR18, rfl, hoR18, hb⟩; refine ⟨_, rfl, ?_⟩; obtain ⟨loR18, hloR18⟩ : ∃ n_ : Nat, n_ = w_10.heap.size := ⟨_, rfl⟩; obtain ⟨hiR18, hhiR18⟩ : ∃ n_ : Nat, n_ = w_11.heap.size := ⟨_, rfl⟩; have n0_ := Aside0.mk (Kd.S_below HOR5.out hb); have n1_ := Aside0.mk (Kd.S_below HOR7.out hb); have n2_ := Aside0.mk (Kd.S_below HOR10.out hb); have n3_ := Aside0.mk (Kd.S_below HOR12.out hb); have n4_ := Aside0.mk (Kd.S_below HOR15.out hb); have n5_ := Aside0.mk (Nat.le_trans UPR5.out hb.size); have n6_ := Aside0.mk (Nat.le_trans UPR7.out hb.size); have n7_ := Aside0.mk (Nat.le_trans UPR10.out hb.size); have n8_ := Aside0.mk (Nat.le_trans UPR12.out hb.size); have n9_ := Aside0.mk (Nat.le_trans UPR15.out hb.size); have n10_ := Aside0.mk (blk_below (g := gb1) BKgb1.out hb); have n11_ := Aside0.mk (blk_below (g := gb13) BKgb13.out hb); have n12_ := Aside0.mk (Nat.lt_of_lt_of_le GUgb1.out hb.size); have n13_ := Aside0.mk (Nat.lt_of_lt_of_le GUgb13.out hb.size); have n14_ := Aside0.mk (below_step HB.out hb); have n15_ := Aside0.mk (below_step HBM.out hb); have n16_ := Aside0.mk (Kd.S_lower (Kd.S_mono (ok' := fun k_ => loR18 ≤ k_ ∧ k_ < hiR18) (Kd.S_bound hoR18) (fun k_ hk_ => ⟨by rw [hloR18]; exact hk_.2.1, by rw [hhiR18]; exact hk_.2.2.1⟩)) (below_size HBM.out)); have n17_ := Aside0.mk (by rw [hhiR18]; exact Nat.le_refl _ : hiR18 ≤ w_11.heap.size); have n18_ := Aside0.mk (fun k_ h1_ h2_ => by have := UPR5.out; rw [← hloR18] at this; omega : ∀ k_, loR5 ≤ k_ ∧ k_ < hiR5 → ¬ (loR18 ≤ k_ ∧ k_ < hiR18)); have n19_ := Aside0.mk (fun k_ h1_ h2_ => by have := UPR5.out; rw [← hloR18] at this; omega : ∀ k_, loR18 ≤ k_ ∧ k_ < hiR18 → ¬ (loR5 ≤ k_ ∧ k_ < hiR5)); have n20_ := Aside0.mk (fun k_ h1_ h2_ => by have := UPR7.out; rw [← hloR18] at this; omega : ∀ k_, loR7 ≤ k_ ∧ k_ < hiR7 → ¬ (loR18 ≤ k_ ∧ k_ < hiR18)); have n21_ := Aside0.mk (fun k_ h1_ h2_ => by have := UPR7.out; rw [← hloR18] at this; omega : ∀ k_, loR18 ≤ k_ ∧ k_ < hiR18 → ¬ (loR7 ≤ k_ ∧ k_ < hiR7)); have n22_ := Aside0.mk (fun k_ h1_ h2_ => by have := UPR10.out; rw [← hloR18] at this; omega : ∀ k_, loR10 ≤ k_ ∧ k_ < hiR10 → ¬ (loR18 ≤ k_ ∧ k_ < hiR18)); have n23_ := Aside0.mk (fun k_ h1_ h2_ => by have := UPR10.out; rw [← hloR18] at this; omega : ∀ k_, loR18 ≤ k_ ∧ k_ < hiR18 → ¬ (loR10 ≤ k_ ∧ k_ < hiR10)); have n24_ := Aside0.mk (fun k_ h1_ h2_ => by have := UPR12.out; rw [← hloR18] at this; omega : ∀ k_, loR12 ≤ k_ ∧ k_ < hiR12 → ¬ (loR18 ≤ k_ ∧ k_ < hiR18)); have n25_ := Aside0.mk (fun k_ h1_ h2_ => by have := UPR12.out; rw [← hloR18] at this; omega : ∀ k_, loR18 ≤ k_ ∧ k_ < hiR18 → ¬ (loR12 ≤ k_ ∧ k_ < hiR12)); have n26_ := Aside0.mk (fun k_ h1_ h2_ => by have := UPR15.out; rw [← hloR18] at this; omega : ∀ k_, loR15 ≤ k_ ∧ k_ < hiR15 → ¬ (loR18 ≤ k_ ∧ k_ < hiR18)); have n27_ := Aside0.mk (fun k_ h1_ h2_ => by have := UPR15.out; rw [← hloR18] at this; omega : ∀ k_, loR18 ≤ k_ ∧ k_ < hiR18 → ¬ (loR15 ≤ k_ ∧ k_ < hiR15)); have n28_ := Aside0.mk (fun k_ hk_ => by have := GUgb1.out; rw [← hloR18] at this; omega : ∀ k_, loR18 ≤ k_ ∧ k_ < hiR18 → k_ ≠ gb1); have n29_ := Aside0.mk (fun k_ hk_ => by have := GUgb13.out; rw [← hloR18] at this; omega : ∀ k_, loR18 ≤ k_ ∧ k_ < hiR18 → k_ ≠ gb13); clear HOR5; clear HOR7; clear HOR10; clear HOR12; clear HOR15; clear UPR5; clear UPR7; clear UPR10; clear UPR12; clear UPR15; clear BKgb1; clear BKgb13; clear GUgb1; clear GUgb13; clear HB; clear HBM; have HOR5 := n0_; have HOR7 := n1_; have HOR10 := n2_; have HOR12 := n3_; have HOR15 := n4_; have UPR5 := n5_; have UPR7 := n6_; have UPR10 := n7_; have UPR12 := n8_; have UPR15 := n9_; have BKgb1 := n10_; have BKgb13 := n11_; have GUgb1 := n12_; have GUgb13 := n13_; have HB := n14_; have HBM := n15_; have HOR18 := n16_; have UPR18 := n17_; have NRR5_R18 := n18_; have NRR18_R5 := n19_; have NRR7_R18 := n20_; have NRR18_R7 := n21_; have NRR10_R18 := n22_; have NRR18_R10 := n23_; have NRR12_R18 := n24_; have NRR18_R12 := n25_; have NRR15_R18 := n26_; have NRR18_R15 := n27_; have NER18_gb1 := n28_; have NER18_gb13 := n29_; clear n0_ n1_ n2_ n3_ n4_ n5_ n6_ n7_ n8_ n9_ n10_ n11_ n12_ n13_ n14_ n15_ n16_ n17_ n18_ n19_ n20_ n21_ n22_ n23_ n24_ n25_ n26_ n27_ n28_ n29_; clear hb; clear hoR18 hloR18 hhiR18; obtain ⟨AR18, cR18, eqR18⟩ := Kd.S_slice HOR18.out; subst eqR18; (try clear hczgb1_0); (try clear hfzgb1_0); (try clear hczgb13_0); (try clear hfzgb13_0); have hczgb1_0 : w_11.cell? ⟨gb1, 0, none⟩ = some (.slice A0_0 l0_0.length c0_0) := (blk_cell BKgb1.out 0).trans rfl; have hfzgb1_0 := blk_frozen BKgb1.out 0; have hczgb13_0 : w_11.cell? ⟨gb13, 0, none⟩ = some (.slice AR12 t11.length cR12) := (blk_cell BKgb13.out 0).trans rfl; have hfzgb13_0 := blk_frozen BKgb13.out 0) | ((with_reducible refine gate_callee (f := 26) rfl ?_); refine goesL_ (some 51) rfl rfl Try.func26 (by kernel_rfl) rfl #[.slice AR18 t16.length cR18, .slice AR10 t8.length cR10] rfl (by (try simp only [List.map_toArray, List.map_cons, List.map_nil]); first | done | rfl) ?_; (with_reducible refine (laws_eqInt64SS.calls k _ _ t16 _ _ t8 true _ ?side1 ?side2 ?side3 ?side4 E11.out).mono ?_); (case side1 => exact (Kd.S_reads' HOR18.out).2.2); (case side2 => exact (Kd.S_reads' HOR18.out).2.1); (case side3 => exact (Kd.S_reads' HOR10.out).2.2); (case side4 => exact (Kd.S_reads' HOR10.out).2.1); rintro e w_12 ⟨rfl, hd⟩; have hb := Drawn0.below hd; refine ⟨_, rfl, ?_⟩; have n0_ := Aside0.mk (Kd.S_below HOR5.out hb); have n1_ := Aside0.mk (Kd.S_below HOR7.out hb); have n2_ := Aside0.mk (Kd.S_below HOR10.out hb); have n3_ := Aside0.mk (Kd.S_below HOR12.out hb); have n4_ := Aside0.mk (Kd.S_below HOR15.out hb); have n5_ := Aside0.mk (Kd.S_below HOR18.out hb); have n6_ := Aside0.mk (Nat.le_trans UPR5.out hb.size); have n7_ := Aside0.mk (Nat.le_trans UPR7.out hb.size); have n8_ := Aside0.mk (Nat.le_trans UPR10.out hb.size); have n9_ := Aside0.mk (Nat.le_trans UPR12.out hb.size); have n10_ := Aside0.mk (Nat.le_trans UPR15.out hb.size); have n11_ := Aside0.mk (Nat.le_trans UPR18.out hb.size); have n12_ := Aside0.mk (blk_below (g := gb1) BKgb1.out hb); have n13_ := Aside0.mk (blk_below (g := gb13) BKgb13.out hb); have n14_ := Aside0.mk (Nat.lt_of_lt_of_le GUgb1.out hb.size); have n15_ := Aside0.mk (Nat.lt_of_lt_of_le GUgb13.out hb.size); have n16_ := Aside0.mk (below_step HB.out hb); have n17_ := Aside0.mk (below_step HBM.out hb); clear HOR5; clear HOR7; clear HOR10; clear HOR12; clear HOR15; clear HOR18; clear UPR5; clear UPR7; clear UPR10; clear UPR12; clear UPR15; clear UPR18; clear BKgb1; clear BKgb13; clear GUgb1; clear GUgb13; clear HB; clear HBM; have HOR5 := n0_; have HOR7 := n1_; have HOR10 := n2_; have HOR12 := n3_; have HOR15 := n4_; have HOR18 := n5_; have UPR5 := n6_; have UPR7 := n7_; have UPR10 := n8_; have UPR12 := n9_; have UPR15 := n10_; have UPR18 := n11_; have BKgb1 := n12_; have BKgb13 := n13_; have GUgb1 := n14_; have GUgb13 := n15_; have HB := n16_; have HBM := n17_; clear n0_ n1_ n2_ n3_ n4_ n5_ n6_ n7_ n8_ n9_ n10_ n11_ n12_ n13_ n14_ n15_ n16_ n17_; clear hb; clear hd; (try clear hczgb1_0); (try clear hfzgb1_0); (try clear hczgb13_0); (try clear hfzgb13_0); have hczgb1_0 : w_12.cell? ⟨gb1, 0, none⟩ = some (.slice A0_0 l0_0.length c0_0) := (blk_cell BKgb1.out 0).trans rfl; have hfzgb1_0 := blk_frozen BKgb1.out 0; have hczgb13_0 : w_12.cell? ⟨gb13, 0, none⟩ = some (.slice AR12 t11.length cR12) := (blk_cell BKgb13.out 0).trans rfl; have hfzgb13_0 := blk_frozen BKgb13.out 0))
 have n0_ := Aside0.mk (Kd.S_drew HOR5.out)
 have n1_ := Aside0.mk (Kd.S_drew HOR7.out)
 have n2_ := Aside0.mk (Kd.S_drew HOR10.out)
 have n3_ := Aside0.mk (Kd.S_drew HOR12.out)
 have n4_ := Aside0.mk (Kd.S_drew HOR15.out)
 have n5_ := Aside0.mk (Kd.S_drew HOR18.out)
 have n6_ := Aside0.mk (show hiR5 ≤ w_12.drew.heap.size from UPR5.out)
 have n7_ := Aside0.mk (show hiR7 ≤ w_12.drew.heap.size from UPR7.out)
 have n8_ := Aside0.mk (show hiR10 ≤ w_12.drew.heap.size from UPR10.out)
 have n9_ := Aside0.mk (show hiR12 ≤ w_12.drew.heap.size from UPR12.out)
 have n10_ := Aside0.mk (show hiR15 ≤ w_12.drew.heap.size from UPR15.out)
 have n11_ := Aside0.mk (show hiR18 ≤ w_12.drew.heap.size from UPR18.out)
 have n12_ := Aside0.mk (blk_drew BKgb1.out)
 have n13_ := Aside0.mk (blk_drew BKgb13.out)
 have n14_ := Aside0.mk (show gb1 < w_12.drew.heap.size from GUgb1.out)
 have n15_ := Aside0.mk (show gb13 < w_12.drew.heap.size from GUgb13.out)
 have n16_ := Aside0.mk (below_drew1 HB.out)
 have n17_ := Aside0.mk (below_drew1 HBM.out)
 clear HOR5
 clear HOR7
 clear HOR10
 clear HOR12
 clear HOR15
 clear HOR18
 clear UPR5
 clear UPR7
 clear UPR10
 clear UPR12
 clear UPR15
 clear UPR18
 clear BKgb1
 clear BKgb13
 clear GUgb1
 clear GUgb13
 clear HB
 clear HBM
 have HOR5 := n0_
 have HOR7 := n1_
 have HOR10 := n2_
 have HOR12 := n3_
 have HOR15 := n4_
 have HOR18 := n5_
 have UPR5 := n6_
 have UPR7 := n7_
 have UPR10 := n8_
 have UPR12 := n9_
 have UPR15 := n10_
 have UPR18 := n11_
 have BKgb1 := n12_
 have BKgb13 := n13_
 have GUgb1 := n14_
 have GUgb13 := n15_
 have HB := n16_
 have HBM := n17_
 clear n0_ n1_ n2_ n3_ n4_ n5_ n6_ n7_ n8_ n9_ n10_ n11_ n12_ n13_ n14_ n15_ n16_ n17_
 (try clear hczgb1_0); (try clear hfzgb1_0)
 (try clear hczgb13_0); (try clear hfzgb13_0)
 refine start_ (n := 5) (S := fun w' => w'.cell? ⟨gb13, 0, none⟩ = some (.slice AR12 t11.length cR12) ∧ w'.cell? ⟨gb1, 0, none⟩ = some (.slice A0_0 l0_0.length c0_0)) (ds := []) #[false, false, false, false, false] (by kernel_rfl) rfl rfl ⟨(blk_cell BKgb13.out 0).trans rfl, (blk_cell BKgb1.out 0).trans rfl⟩ (fun hHeld => ?_)
 generalize w_12.drew = w_13 at HOR5 HOR7 HOR10 HOR12 HOR15 HOR18 UPR5 UPR7 UPR10 UPR12 UPR15 UPR18 BKgb1 BKgb13 GUgb1 GUgb13 HB HBM hHeld ⊢
 refine take_ (i := 0) (N := some 58) (v := ?_) (a' := ?_) #[true, false, false, false, false] rfl rfl (by kernel_rfl) (fun _ _ _ h => h) (Or.inl ⟨by rfl, ?_⟩) hHeld ?_ ?_
 rotate_left
 ·rintro w' ⟨s0, s1⟩
  go_simp
  with_reducible rfl
 rotate_left
 ·simp only [Act.put, List.setIfInBounds_toArray, List.set_cons_zero, List.set_cons_succ, i64_w, i32_w]
  rfl
 refine take_ (i := 1) (N := some 59) (v := ?_) (a' := ?_) #[true, true, false, false, false] rfl rfl (by kernel_rfl) (fun _ _ _ h => h) (Or.inl ⟨by rfl, ?_⟩) hHeld ?_ ?_
 rotate_left
 ·rintro w' ⟨s0, s1⟩
  go_simp
  with_reducible rfl
 rotate_left
 ·simp only [Act.put, List.setIfInBounds_toArray, List.set_cons_zero, List.set_cons_succ, i64_w, i32_w]
  rfl
 refine one_ (i := 2) (N := some 60) #[true, true, true, false, false] rfl rfl (by kernel_rfl) (by decide) (fun K hK => ?_)
 refine goes_ Try.func31 (by kernel_rfl) rfl #[.agg #[.slice A0_0 l0_0.length c0_0]] (by rfl) rfl rfl (by (try simp only [List.map_toArray, List.map_cons, List.map_nil]); first | done | rfl) ?_
 (with_reducible refine (laws_toPicture.calls k _ _ l0_0 t20 _ ?side1 ?side2 E14.out).mono ?_)
 (case side1 => exact Kd.C_below HR0_0.out HB.out)
 (case side2 => exact HC0_0.out)
 rintro e w_14 ⟨vR21, rfl, hoR21, hb⟩
 refine ⟨_, rfl, ?_⟩
 obtain ⟨loR21, hloR21⟩ : ∃ n_ : Nat, n_ = w_13.heap.size := ⟨_, rfl⟩
 obtain ⟨hiR21, hhiR21⟩ : ∃ n_ : Nat, n_ = w_14.heap.size := ⟨_, rfl⟩
 have n0_ := Aside0.mk (Kd.S_below HOR5.out hb)
 have n1_ := Aside0.mk (Kd.S_below HOR7.out hb)
 have n2_ := Aside0.mk (Kd.S_below HOR10.out hb)
 have n3_ := Aside0.mk (Kd.S_below HOR12.out hb)
 have n4_ := Aside0.mk (Kd.S_below HOR15.out hb)
 have n5_ := Aside0.mk (Kd.S_below HOR18.out hb)
 have n6_ := Aside0.mk (Nat.le_trans UPR5.out hb.size)
 have n7_ := Aside0.mk (Nat.le_trans UPR7.out hb.size)
 have n8_ := Aside0.mk (Nat.le_trans UPR10.out hb.size)
 have n9_ := Aside0.mk (Nat.le_trans UPR12.out hb.size)
 have n10_ := Aside0.mk (Nat.le_trans UPR15.out hb.size)
 have n11_ := Aside0.mk (Nat.le_trans UPR18.out hb.size)
 have n12_ := Aside0.mk (blk_below (g := gb1) BKgb1.out hb)
 have n13_ := Aside0.mk (blk_below (g := gb13) BKgb13.out hb)
 have n14_ := Aside0.mk (Nat.lt_of_lt_of_le GUgb1.out hb.size)
 have n15_ := Aside0.mk (Nat.lt_of_lt_of_le GUgb13.out hb.size)
 have n16_ := Aside0.mk (below_step HB.out hb)
 have n17_ := Aside0.mk (below_step HBM.out hb)
 have n18_ := Aside0.mk (Kd.S_lower (Kd.S_mono (ok' := fun k_ => loR21 ≤ k_ ∧ k_ < hiR21) (Kd.S_bound hoR21) (fun k_ hk_ => ⟨by rw [hloR21]; exact hk_.2.1, by rw [hhiR21]; exact hk_.2.2.1⟩)) (below_size HBM.out))
 have n19_ := Aside0.mk (by rw [hhiR21]; exact Nat.le_refl _ : hiR21 ≤ w_14.heap.size)
 have n20_ := Aside0.mk (fun k_ h1_ h2_ => by have := UPR5.out; rw [← hloR21] at this; omega : ∀ k_, loR5 ≤ k_ ∧ k_ < hiR5 → ¬ (loR21 ≤ k_ ∧ k_ < hiR21))
 have n21_ := Aside0.mk (fun k_ h1_ h2_ => by have := UPR5.out; rw [← hloR21] at this; omega : ∀ k_, loR21 ≤ k_ ∧ k_ < hiR21 → ¬ (loR5 ≤ k_ ∧ k_ < hiR5))
 have n22_ := Aside0.mk (fun k_ h1_ h2_ => by have := UPR7.out; rw [← hloR21] at this; omega : ∀ k_, loR7 ≤ k_ ∧ k_ < hiR7 → ¬ (loR21 ≤ k_ ∧ k_ < hiR21))
 have n23_ := Aside0.mk (fun k_ h1_ h2_ => by have := UPR7.out; rw [← hloR21] at this; omega : ∀ k_, loR21 ≤ k_ ∧ k_ < hiR21 → ¬ (loR7 ≤ k_ ∧ k_ < hiR7))
 have n24_ := Aside0.mk (fun k_ h1_ h2_ => by have := UPR10.out; rw [← hloR21] at this; omega : ∀ k_, loR10 ≤ k_ ∧ k_ < hiR10 → ¬ (loR21 ≤ k_ ∧ k_ < hiR21))
 have n25_ := Aside0.mk (fun k_ h1_ h2_ => by have := UPR10.out; rw [← hloR21] at this; omega : ∀ k_, loR21 ≤ k_ ∧ k_ < hiR21 → ¬ (loR10 ≤ k_ ∧ k_ < hiR10))
 have n26_ := Aside0.mk (fun k_ h1_ h2_ => by have := UPR12.out; rw [← hloR21] at this; omega : ∀ k_, loR12 ≤ k_ ∧ k_ < hiR12 → ¬ (loR21 ≤ k_ ∧ k_ < hiR21))
 have n27_ := Aside0.mk (fun k_ h1_ h2_ => by have := UPR12.out; rw [← hloR21] at this; omega : ∀ k_, loR21 ≤ k_ ∧ k_ < hiR21 → ¬ (loR12 ≤ k_ ∧ k_ < hiR12))
 have n28_ := Aside0.mk (fun k_ h1_ h2_ => by have := UPR15.out; rw [← hloR21] at this; omega : ∀ k_, loR15 ≤ k_ ∧ k_ < hiR15 → ¬ (loR21 ≤ k_ ∧ k_ < hiR21))
 have n29_ := Aside0.mk (fun k_ h1_ h2_ => by have := UPR15.out; rw [← hloR21] at this; omega : ∀ k_, loR21 ≤ k_ ∧ k_ < hiR21 → ¬ (loR15 ≤ k_ ∧ k_ < hiR15))
 have n30_ := Aside0.mk (fun k_ h1_ h2_ => by have := UPR18.out; rw [← hloR21] at this; omega : ∀ k_, loR18 ≤ k_ ∧ k_ < hiR18 → ¬ (loR21 ≤ k_ ∧ k_ < hiR21))
 have n31_ := Aside0.mk (fun k_ h1_ h2_ => by have := UPR18.out; rw [← hloR21] at this; omega : ∀ k_, loR21 ≤ k_ ∧ k_ < hiR21 → ¬ (loR18 ≤ k_ ∧ k_ < hiR18))
 have n32_ := Aside0.mk (fun k_ hk_ => by have := GUgb1.out; rw [← hloR21] at this; omega : ∀ k_, loR21 ≤ k_ ∧ k_ < hiR21 → k_ ≠ gb1)
 have n33_ := Aside0.mk (fun k_ hk_ => by have := GUgb13.out; rw [← hloR21] at this; omega : ∀ k_, loR21 ≤ k_ ∧ k_ < hiR21 → k_ ≠ gb13)
 clear HOR5
 clear HOR7
 clear HOR10
 clear HOR12
 clear HOR15
 clear HOR18
 clear UPR5
 clear UPR7
 clear UPR10
 clear UPR12
 clear UPR15
 clear UPR18
 clear BKgb1
 clear BKgb13
 clear GUgb1
 clear GUgb13
 clear HB
 clear HBM
 have HOR5 := n0_
 have HOR7 := n1_
 have HOR10 := n2_
 have HOR12 := n3_
 have HOR15 := n4_
 have HOR18 := n5_
 have UPR5 := n6_
 have UPR7 := n7_
 have UPR10 := n8_
 have UPR12 := n9_
 have UPR15 := n10_
 have UPR18 := n11_
 have BKgb1 := n12_
 have BKgb13 := n13_
 have GUgb1 := n14_
 have GUgb13 := n15_
 have HB := n16_
 have HBM := n17_
 have HOR21 := n18_
 have UPR21 := n19_
 have NRR5_R21 := n20_
 have NRR21_R5 := n21_
 have NRR7_R21 := n22_
 have NRR21_R7 := n23_
 have NRR10_R21 := n24_
 have NRR21_R10 := n25_
 have NRR12_R21 := n26_
 have NRR21_R12 := n27_
 have NRR15_R21 := n28_
 have NRR21_R15 := n29_
 have NRR18_R21 := n30_
 have NRR21_R18 := n31_
 have NER21_gb1 := n32_
 have NER21_gb13 := n33_
 clear n0_ n1_ n2_ n3_ n4_ n5_ n6_ n7_ n8_ n9_ n10_ n11_ n12_ n13_ n14_ n15_ n16_ n17_ n18_ n19_ n20_ n21_ n22_ n23_ n24_ n25_ n26_ n27_ n28_ n29_ n30_ n31_ n32_ n33_
 clear hb
 clear hoR21 hloR21 hhiR21
 obtain ⟨AR21, cR21, eqR21⟩ := Kd.S_slice HOR21.out
 subst eqR21
 refine hK.out _ _ ⟨(blk_cell BKgb13.out 0).trans rfl, (blk_cell BKgb1.out 0).trans rfl⟩ (fun hHeld => ?_)
 clear hK K
 refine norm_ (a' := ?_) ?_ ?_
 rotate_left
 ·show Act.put _ (some 60) _ = _
  simp only [Act.put, List.setIfInBounds_toArray, List.set_cons_zero, List.set_cons_succ, i64_w, i32_w]
  rfl
 refine one_ (i := 3) (N := some 61) #[true, true, true, true, false] rfl rfl (by kernel_rfl) (by decide) (fun K hK => ?_)
 refine goes_ Try.func33 (by kernel_rfl) rfl #[.agg #[.slice AR12 t11.length cR12], .agg #[.slice AR21 t20.length cR21]] (by rfl) rfl rfl (by (try simp only [List.map_toArray, List.map_cons, List.map_nil]); first | done | rfl) ?_
 (with_reducible refine (laws_eqPicture.calls k _ _ t11 _ _ t20 true _ ?side1 ?side2 ?side3 ?side4 E15.out).mono ?_)
 (case side1 => exact (Kd.S_reads' HOR12.out).2.2)
 (case side2 => exact (Kd.S_reads' HOR12.out).2.1)
 (case side3 => exact (Kd.S_reads' HOR21.out).2.2)
 (case side4 => exact (Kd.S_reads' HOR21.out).2.1)
 rintro e w_15 ⟨rfl, hb⟩
 refine ⟨_, rfl, ?_⟩
 have n0_ := Aside0.mk (Kd.S_below HOR5.out hb)
 have n1_ := Aside0.mk (Kd.S_below HOR7.out hb)
 have n2_ := Aside0.mk (Kd.S_below HOR10.out hb)
 have n3_ := Aside0.mk (Kd.S_below HOR12.out hb)
 have n4_ := Aside0.mk (Kd.S_below HOR15.out hb)
 have n5_ := Aside0.mk (Kd.S_below HOR18.out hb)
 have n6_ := Aside0.mk (Kd.S_below HOR21.out hb)
 have n7_ := Aside0.mk (Nat.le_trans UPR5.out hb.size)
 have n8_ := Aside0.mk (Nat.le_trans UPR7.out hb.size)
 have n9_ := Aside0.mk (Nat.le_trans UPR10.out hb.size)
 have n10_ := Aside0.mk (Nat.le_trans UPR12.out hb.size)
 have n11_ := Aside0.mk (Nat.le_trans UPR15.out hb.size)
 have n12_ := Aside0.mk (Nat.le_trans UPR18.out hb.size)
 have n13_ := Aside0.mk (Nat.le_trans UPR21.out hb.size)
 have n14_ := Aside0.mk (blk_below (g := gb1) BKgb1.out hb)
 have n15_ := Aside0.mk (blk_below (g := gb13) BKgb13.out hb)
 have n16_ := Aside0.mk (Nat.lt_of_lt_of_le GUgb1.out hb.size)
 have n17_ := Aside0.mk (Nat.lt_of_lt_of_le GUgb13.out hb.size)
 have n18_ := Aside0.mk (below_step HB.out hb)
 have n19_ := Aside0.mk (below_step HBM.out hb)
 clear HOR5
 clear HOR7
 clear HOR10
 clear HOR12
 clear HOR15
 clear HOR18
 clear HOR21
 clear UPR5
 clear UPR7
 clear UPR10
 clear UPR12
 clear UPR15
 clear UPR18
 clear UPR21
 clear BKgb1
 clear BKgb13
 clear GUgb1
 clear GUgb13
 clear HB
 clear HBM
 have HOR5 := n0_
 have HOR7 := n1_
 have HOR10 := n2_
 have HOR12 := n3_
 have HOR15 := n4_
 have HOR18 := n5_
 have HOR21 := n6_
 have UPR5 := n7_
 have UPR7 := n8_
 have UPR10 := n9_
 have UPR12 := n10_
 have UPR15 := n11_
 have UPR18 := n12_
 have UPR21 := n13_
 have BKgb1 := n14_
 have BKgb13 := n15_
 have GUgb1 := n16_
 have GUgb13 := n17_
 have HB := n18_
 have HBM := n19_
 clear n0_ n1_ n2_ n3_ n4_ n5_ n6_ n7_ n8_ n9_ n10_ n11_ n12_ n13_ n14_ n15_ n16_ n17_ n18_ n19_
 clear hb
 refine hK.out _ _ ⟨(blk_cell BKgb13.out 0).trans rfl, (blk_cell BKgb1.out 0).trans rfl⟩ (fun hHeld => ?_)
 clear hK K
 refine norm_ (a' := ?_) ?_ ?_
 rotate_left
 ·show Act.put _ (some 61) _ = _
  simp only [Act.put, List.setIfInBounds_toArray, List.set_cons_zero, List.set_cons_succ, i64_w, i32_w]
  rfl
 refine pure_ (i := 4) (N := some 62) (v := ?_) (a' := ?_) #[true, true, true, true, true] rfl rfl (by kernel_rfl) (fun _ _ _ h => h) (Or.inl ⟨by rfl, ?_⟩) ?_ ?_
 rotate_left
 ·intro w'
  go_simp
  with_reducible rfl
 rotate_left
 ·simp only [Act.put, List.setIfInBounds_toArray, List.set_cons_zero, List.set_cons_succ, i64_w, i32_w]
  rfl
 refine done_ (by kernel_rfl) ?_
 (try clear hczgb1_0)
 (try clear hfzgb1_0)
 (try clear hczgb13_0)
 (try clear hfzgb13_0)
 have hczgb1_0 : w_15.cell? ⟨gb1, 0, none⟩ = some (.slice A0_0 l0_0.length c0_0) := (blk_cell BKgb1.out 0).trans rfl
 have hfzgb1_0 := blk_frozen BKgb1.out 0
 have hczgb13_0 : w_15.cell? ⟨gb13, 0, none⟩ = some (.slice AR12 t11.length cR12) := (blk_cell BKgb13.out 0).trans rfl
 have hfzgb13_0 := blk_frozen BKgb13.out 0
 go_wp2_with (first | ((with_reducible refine gate_callee (f := 36) rfl ?_); refine goesL_ (some 65) rfl rfl Try.func36 (by kernel_rfl) rfl #[.slice A1 l1.length c1] rfl (by (try simp only [List.map_toArray, List.map_cons, List.map_nil]); first | done | rfl) ?_; (with_reducible refine (laws_toInt64SS.calls k _ _ l1 t23 _ ?side1 ?side2 E17.out).mono ?_); (case side1 => exact Kd.C_below HR1.out HB.out); (case side2 => exact HC1.out); rintro e w_16 ⟨vR24, rfl, hoR24, hb⟩; refine ⟨_, rfl, ?_⟩; obtain ⟨loR24, hloR24⟩ : ∃ n_ : Nat, n_ = w_15.heap.size := ⟨_, rfl⟩; obtain ⟨hiR24, hhiR24⟩ : ∃ n_ : Nat, n_ = w_16.heap.size := ⟨_, rfl⟩; have n0_ := Aside0.mk (Kd.S_below HOR5.out hb); have n1_ := Aside0.mk (Kd.S_below HOR7.out hb); have n2_ := Aside0.mk (Kd.S_below HOR10.out hb); have n3_ := Aside0.mk (Kd.S_below HOR12.out hb); have n4_ := Aside0.mk (Kd.S_below HOR15.out hb); have n5_ := Aside0.mk (Kd.S_below HOR18.out hb); have n6_ := Aside0.mk (Kd.S_below HOR21.out hb); have n7_ := Aside0.mk (Nat.le_trans UPR5.out hb.size); have n8_ := Aside0.mk (Nat.le_trans UPR7.out hb.size); have n9_ := Aside0.mk (Nat.le_trans UPR10.out hb.size); have n10_ := Aside0.mk (Nat.le_trans UPR12.out hb.size); have n11_ := Aside0.mk (Nat.le_trans UPR15.out hb.size); have n12_ := Aside0.mk (Nat.le_trans UPR18.out hb.size); have n13_ := Aside0.mk (Nat.le_trans UPR21.out hb.size); have n14_ := Aside0.mk (blk_below (g := gb1) BKgb1.out hb); have n15_ := Aside0.mk (blk_below (g := gb13) BKgb13.out hb); have n16_ := Aside0.mk (Nat.lt_of_lt_of_le GUgb1.out hb.size); have n17_ := Aside0.mk (Nat.lt_of_lt_of_le GUgb13.out hb.size); have n18_ := Aside0.mk (below_step HB.out hb); have n19_ := Aside0.mk (below_step HBM.out hb); have n20_ := Aside0.mk (Kd.S_lower (Kd.S_mono (ok' := fun k_ => loR24 ≤ k_ ∧ k_ < hiR24) (Kd.S_bound hoR24) (fun k_ hk_ => ⟨by rw [hloR24]; exact hk_.2.1, by rw [hhiR24]; exact hk_.2.2.1⟩)) (below_size HBM.out)); have n21_ := Aside0.mk (by rw [hhiR24]; exact Nat.le_refl _ : hiR24 ≤ w_16.heap.size); have n22_ := Aside0.mk (fun k_ h1_ h2_ => by have := UPR5.out; rw [← hloR24] at this; omega : ∀ k_, loR5 ≤ k_ ∧ k_ < hiR5 → ¬ (loR24 ≤ k_ ∧ k_ < hiR24)); have n23_ := Aside0.mk (fun k_ h1_ h2_ => by have := UPR5.out; rw [← hloR24] at this; omega : ∀ k_, loR24 ≤ k_ ∧ k_ < hiR24 → ¬ (loR5 ≤ k_ ∧ k_ < hiR5)); have n24_ := Aside0.mk (fun k_ h1_ h2_ => by have := UPR7.out; rw [← hloR24] at this; omega : ∀ k_, loR7 ≤ k_ ∧ k_ < hiR7 → ¬ (loR24 ≤ k_ ∧ k_ < hiR24)); have n25_ := Aside0.mk (fun k_ h1_ h2_ => by have := UPR7.out; rw [← hloR24] at this; omega : ∀ k_, loR24 ≤ k_ ∧ k_ < hiR24 → ¬ (loR7 ≤ k_ ∧ k_ < hiR7)); have n26_ := Aside0.mk (fun k_ h1_ h2_ => by have := UPR10.out; rw [← hloR24] at this; omega : ∀ k_, loR10 ≤ k_ ∧ k_ < hiR10 → ¬ (loR24 ≤ k_ ∧ k_ < hiR24)); have n27_ := Aside0.mk (fun k_ h1_ h2_ => by have := UPR10.out; rw [← hloR24] at this; omega : ∀ k_, loR24 ≤ k_ ∧ k_ < hiR24 → ¬ (loR10 ≤ k_ ∧ k_ < hiR10)); have n28_ := Aside0.mk (fun k_ h1_ h2_ => by have := UPR12.out; rw [← hloR24] at this; omega : ∀ k_, loR12 ≤ k_ ∧ k_ < hiR12 → ¬ (loR24 ≤ k_ ∧ k_ < hiR24)); have n29_ := Aside0.mk (fun k_ h1_ h2_ => by have := UPR12.out; rw [← hloR24] at this; omega : ∀ k_, loR24 ≤ k_ ∧ k_ < hiR24 → ¬ (loR12 ≤ k_ ∧ k_ < hiR12)); have n30_ := Aside0.mk (fun k_ h1_ h2_ => by have := UPR15.out; rw [← hloR24] at this; omega : ∀ k_, loR15 ≤ k_ ∧ k_ < hiR15 → ¬ (loR24 ≤ k_ ∧ k_ < hiR24)); have n31_ := Aside0.mk (fun k_ h1_ h2_ => by have := UPR15.out; rw [← hloR24] at this; omega : ∀ k_, loR24 ≤ k_ ∧ k_ < hiR24 → ¬ (loR15 ≤ k_ ∧ k_ < hiR15)); have n32_ := Aside0.mk (fun k_ h1_ h2_ => by have := UPR18.out; rw [← hloR24] at this; omega : ∀ k_, loR18 ≤ k_ ∧ k_ < hiR18 → ¬ (loR24 ≤ k_ ∧ k_ < hiR24)); have n33_ := Aside0.mk (fun k_ h1_ h2_ => by have := UPR18.out; rw [← hloR24] at this; omega : ∀ k_, loR24 ≤ k_ ∧ k_ < hiR24 → ¬ (loR18 ≤ k_ ∧ k_ < hiR18)); have n34_ := Aside0.mk (fun k_ h1_ h2_ => by have := UPR21.out; rw [← hloR24] at this; omega : ∀ k_, loR21 ≤ k_ ∧ k_ < hiR21 → ¬ (loR24 ≤ k_ ∧ k_ < hiR24)); have n35_ := Aside0.mk (fun k_ h1_ h2_ => by have := UPR21.out; rw [← hloR24] at this; omega : ∀ k_, loR24 ≤ k_ ∧ k_ < hiR24 → ¬ (loR21 ≤ k_ ∧ k_ < hiR21)); have n36_ := Aside0.mk (fun k_ hk_ => by have := GUgb1.out; rw [← hloR24] at this; omega : ∀ k_, loR24 ≤ k_ ∧ k_ < hiR24 → k_ ≠ gb1); have n37_ := Aside0.mk (fun k_ hk_ => by have := GUgb13.out; rw [← hloR24] at this; omega : ∀ k_, loR24 ≤ k_ ∧ k_ < hiR24 → k_ ≠ gb13); clear HOR5; clear HOR7; clear HOR10; clear HOR12; clear HOR15; clear HOR18; clear HOR21; clear UPR5; clear UPR7; clear UPR10; clear UPR12; clear UPR15; clear UPR18; clear UPR21; clear BKgb1; clear BKgb13; clear GUgb1; clear GUgb13; clear HB; clear HBM; have HOR5 := n0_; have HOR7 := n1_; have HOR10 := n2_; have HOR12 := n3_; have HOR15 := n4_; have HOR18 := n5_; have HOR21 := n6_; have UPR5 := n7_; have UPR7 := n8_; have UPR10 := n9_; have UPR12 := n10_; have UPR15 := n11_; have UPR18 := n12_; have UPR21 := n13_; have BKgb1 := n14_; have BKgb13 := n15_; have GUgb1 := n16_; have GUgb13 := n17_; have HB := n18_; have HBM := n19_; have HOR24 := n20_; have UPR24 := n21_; have NRR5_R24 := n22_; have NRR24_R5 := n23_; have NRR7_R24 := n24_; have NRR24_R7 := n25_; have NRR10_R24 := n26_; have NRR24_R10 := n27_; have NRR12_R24 := n28_; have NRR24_R12 := n29_; have NRR15_R24 := n30_; have NRR24_R15 := n31_; have NRR18_R24 := n32_; have NRR24_R18 := n33_; have NRR21_R24 := n34_; have NRR24_R21 := n35_; have NER24_gb1 := n36_; have NER24_gb13 := n37_; clear n0_ n1_ n2_ n3_ n4_ n5_ n6_ n7_ n8_ n9_ n10_ n11_ n12_ n13_ n14_ n15_ n16_ n17_ n18_ n19_ n20_ n21_ n22_ n23_ n24_ n25_ n26_ n27_ n28_ n29_ n30_ n31_ n32_ n33_ n34_ n35_ n36_ n37_; clear hb; clear hoR24 hloR24 hhiR24; obtain ⟨AR24, cR24, eqR24⟩ := Kd.S_slice HOR24.out; subst eqR24; (try clear hczgb1_0); (try clear hfzgb1_0); (try clear hczgb13_0); (try clear hfzgb13_0); have hczgb1_0 : w_16.cell? ⟨gb1, 0, none⟩ = some (.slice A0_0 l0_0.length c0_0) := (blk_cell BKgb1.out 0).trans rfl; have hfzgb1_0 := blk_frozen BKgb1.out 0; have hczgb13_0 : w_16.cell? ⟨gb13, 0, none⟩ = some (.slice AR12 t11.length cR12) := (blk_cell BKgb13.out 0).trans rfl; have hfzgb13_0 := blk_frozen BKgb13.out 0) | ((with_reducible refine gate_callee (f := 26) rfl ?_); refine goesL_ (some 66) rfl rfl Try.func26 (by kernel_rfl) rfl #[.slice AR15 t14.length cR15, .slice AR24 t23.length cR24] rfl (by (try simp only [List.map_toArray, List.map_cons, List.map_nil]); first | done | rfl) ?_; (with_reducible refine (laws_eqInt64SS.calls k _ _ t14 _ _ t23 true _ ?side1 ?side2 ?side3 ?side4 E18.out).mono ?_); (case side1 => exact (Kd.S_reads' HOR15.out).2.2); (case side2 => exact (Kd.S_reads' HOR15.out).2.1); (case side3 => exact (Kd.S_reads' HOR24.out).2.2); (case side4 => exact (Kd.S_reads' HOR24.out).2.1); rintro e w_17 ⟨rfl, hd⟩; have hb := Drawn0.below hd; refine ⟨_, rfl, ?_⟩; have n0_ := Aside0.mk (Kd.S_below HOR5.out hb); have n1_ := Aside0.mk (Kd.S_below HOR7.out hb); have n2_ := Aside0.mk (Kd.S_below HOR10.out hb); have n3_ := Aside0.mk (Kd.S_below HOR12.out hb); have n4_ := Aside0.mk (Kd.S_below HOR15.out hb); have n5_ := Aside0.mk (Kd.S_below HOR18.out hb); have n6_ := Aside0.mk (Kd.S_below HOR21.out hb); have n7_ := Aside0.mk (Kd.S_below HOR24.out hb); have n8_ := Aside0.mk (Nat.le_trans UPR5.out hb.size); have n9_ := Aside0.mk (Nat.le_trans UPR7.out hb.size); have n10_ := Aside0.mk (Nat.le_trans UPR10.out hb.size); have n11_ := Aside0.mk (Nat.le_trans UPR12.out hb.size); have n12_ := Aside0.mk (Nat.le_trans UPR15.out hb.size); have n13_ := Aside0.mk (Nat.le_trans UPR18.out hb.size); have n14_ := Aside0.mk (Nat.le_trans UPR21.out hb.size); have n15_ := Aside0.mk (Nat.le_trans UPR24.out hb.size); have n16_ := Aside0.mk (blk_below (g := gb1) BKgb1.out hb); have n17_ := Aside0.mk (blk_below (g := gb13) BKgb13.out hb); have n18_ := Aside0.mk (Nat.lt_of_lt_of_le GUgb1.out hb.size); have n19_ := Aside0.mk (Nat.lt_of_lt_of_le GUgb13.out hb.size); have n20_ := Aside0.mk (below_step HB.out hb); have n21_ := Aside0.mk (below_step HBM.out hb); clear HOR5; clear HOR7; clear HOR10; clear HOR12; clear HOR15; clear HOR18; clear HOR21; clear HOR24; clear UPR5; clear UPR7; clear UPR10; clear UPR12; clear UPR15; clear UPR18; clear UPR21; clear UPR24; clear BKgb1; clear BKgb13; clear GUgb1; clear GUgb13; clear HB; clear HBM; have HOR5 := n0_; have HOR7 := n1_; have HOR10 := n2_; have HOR12 := n3_; have HOR15 := n4_; have HOR18 := n5_; have HOR21 := n6_; have HOR24 := n7_; have UPR5 := n8_; have UPR7 := n9_; have UPR10 := n10_; have UPR12 := n11_; have UPR15 := n12_; have UPR18 := n13_; have UPR21 := n14_; have UPR24 := n15_; have BKgb1 := n16_; have BKgb13 := n17_; have GUgb1 := n18_; have GUgb13 := n19_; have HB := n20_; have HBM := n21_; clear n0_ n1_ n2_ n3_ n4_ n5_ n6_ n7_ n8_ n9_ n10_ n11_ n12_ n13_ n14_ n15_ n16_ n17_ n18_ n19_ n20_ n21_; clear hb; clear hd; (try clear hczgb1_0); (try clear hfzgb1_0); (try clear hczgb13_0); (try clear hfzgb13_0); have hczgb1_0 : w_17.cell? ⟨gb1, 0, none⟩ = some (.slice A0_0 l0_0.length c0_0) := (blk_cell BKgb1.out 0).trans rfl; have hfzgb1_0 := blk_frozen BKgb1.out 0; have hczgb13_0 : w_17.cell? ⟨gb13, 0, none⟩ = some (.slice AR12 t11.length cR12) := (blk_cell BKgb13.out 0).trans rfl; have hfzgb13_0 := blk_frozen BKgb13.out 0) | ((with_reducible refine gate_callee (f := 46) rfl ?_); refine goesL_ (some 70) rfl rfl Try.func46 (by kernel_rfl) rfl #[.agg #[.slice AR12 t11.length cR12], .int .i64 1] rfl (by (try simp only [List.map_toArray, List.map_cons, List.map_nil]); first | done | rfl) ?_; (with_reducible refine (laws_markPicture.calls k (fun k_ => loR12 ≤ k_ ∧ k_ < hiR12) _ t11 1 t26 t27 w_6 _ ?side1 ?side2 E20.out).mono ?_); (case side1 => exact HBM.out); (case side2 => exact HOR12.out); rintro e w_18 ⟨rfl, hy, hb, hkp⟩; refine ⟨_, rfl, ?_⟩; have n0_ := Aside0.mk (Kd.S_kept HOR5.out hkp NRR5_R12.out); have n1_ := Aside0.mk (Nat.le_trans UPR5.out hkp.1); have n2_ := Aside0.mk (Kd.S_kept HOR7.out hkp NRR7_R12.out); have n3_ := Aside0.mk (Nat.le_trans UPR7.out hkp.1); have n4_ := Aside0.mk (Kd.S_kept HOR10.out hkp NRR10_R12.out); have n5_ := Aside0.mk (Nat.le_trans UPR10.out hkp.1); have n6_ := Aside0.mk (hy); have n7_ := Aside0.mk (Nat.le_trans UPR12.out hkp.1); have n8_ := Aside0.mk (Kd.S_kept HOR15.out hkp NRR15_R12.out); have n9_ := Aside0.mk (Nat.le_trans UPR15.out hkp.1); have n10_ := Aside0.mk (Kd.S_kept HOR18.out hkp NRR18_R12.out); have n11_ := Aside0.mk (Nat.le_trans UPR18.out hkp.1); have n12_ := Aside0.mk (Kd.S_kept HOR21.out hkp NRR21_R12.out); have n13_ := Aside0.mk (Nat.le_trans UPR21.out hkp.1); have n14_ := Aside0.mk (Kd.S_kept HOR24.out hkp NRR24_R12.out); have n15_ := Aside0.mk (Nat.le_trans UPR24.out hkp.1); have n16_ := Aside0.mk (blk_kept (g := gb1) BKgb1.out hkp (fun h_ => NER12_gb1.out _ h_ rfl)); have n17_ := Aside0.mk (Nat.lt_of_lt_of_le GUgb1.out hkp.1); have n18_ := Aside0.mk (blk_kept (g := gb13) BKgb13.out hkp (fun h_ => NER12_gb13.out _ h_ rfl)); have n19_ := Aside0.mk (Nat.lt_of_lt_of_le GUgb13.out hkp.1); have n20_ := Aside0.mk (below_step HWM.out hb); have n21_ := Aside0.mk (hb); clear HOR5; clear UPR5; clear HOR7; clear UPR7; clear HOR10; clear UPR10; clear HOR12; clear UPR12; clear HOR15; clear UPR15; clear HOR18; clear UPR18; clear HOR21; clear UPR21; clear HOR24; clear UPR24; clear BKgb1; clear GUgb1; clear BKgb13; clear GUgb13; clear HB; clear HBM; have HOR5 := n0_; have UPR5 := n1_; have HOR7 := n2_; have UPR7 := n3_; have HOR10 := n4_; have UPR10 := n5_; have HOR12 := n6_; have UPR12 := n7_; have HOR15 := n8_; have UPR15 := n9_; have HOR18 := n10_; have UPR18 := n11_; have HOR21 := n12_; have UPR21 := n13_; have HOR24 := n14_; have UPR24 := n15_; have BKgb1 := n16_; have GUgb1 := n17_; have BKgb13 := n18_; have GUgb13 := n19_; have HB := n20_; have HBM := n21_; clear n0_ n1_ n2_ n3_ n4_ n5_ n6_ n7_ n8_ n9_ n10_ n11_ n12_ n13_ n14_ n15_ n16_ n17_ n18_ n19_ n20_ n21_; clear hy hb hkp; (try clear hczgb1_0); (try clear hfzgb1_0); (try clear hczgb13_0); (try clear hfzgb13_0); have hczgb1_0 : w_18.cell? ⟨gb1, 0, none⟩ = some (.slice A0_0 l0_0.length c0_0) := (blk_cell BKgb1.out 0).trans rfl; have hfzgb1_0 := blk_frozen BKgb1.out 0; have hczgb13_0 : w_18.cell? ⟨gb13, 0, none⟩ = some (.slice AR12 t11.length cR12) := (blk_cell BKgb13.out 0).trans rfl; have hfzgb13_0 := blk_frozen BKgb13.out 0) | ((with_reducible refine gate_callee (f := 27) rfl ?_); refine goesL_ (some 73) rfl rfl Try.func27 (by kernel_rfl) rfl #[.slice AR15 t14.length cR15, .int .i64 t26] rfl (by (try simp only [List.map_toArray, List.map_cons, List.map_nil]); first | done | rfl) ?_; (with_reducible refine (laws_markInt64SS.calls k (fun k_ => loR15 ≤ k_ ∧ k_ < hiR15) _ t14 t26 t28 t29 w_6 _ ?side1 ?side2 E21.out).mono ?_); (case side1 => exact HBM.out); (case side2 => exact HOR15.out); rintro e w_19 ⟨rfl, hy, hb, hkp⟩; refine ⟨_, rfl, ?_⟩; have n0_ := Aside0.mk (Kd.S_kept HOR5.out hkp NRR5_R15.out); have n1_ := Aside0.mk (Nat.le_trans UPR5.out hkp.1); have n2_ := Aside0.mk (Kd.S_kept HOR7.out hkp NRR7_R15.out); have n3_ := Aside0.mk (Nat.le_trans UPR7.out hkp.1); have n4_ := Aside0.mk (Kd.S_kept HOR10.out hkp NRR10_R15.out); have n5_ := Aside0.mk (Nat.le_trans UPR10.out hkp.1); have n6_ := Aside0.mk (Kd.S_kept HOR12.out hkp NRR12_R15.out); have n7_ := Aside0.mk (Nat.le_trans UPR12.out hkp.1); have n8_ := Aside0.mk (hy); have n9_ := Aside0.mk (Nat.le_trans UPR15.out hkp.1); have n10_ := Aside0.mk (Kd.S_kept HOR18.out hkp NRR18_R15.out); have n11_ := Aside0.mk (Nat.le_trans UPR18.out hkp.1); have n12_ := Aside0.mk (Kd.S_kept HOR21.out hkp NRR21_R15.out); have n13_ := Aside0.mk (Nat.le_trans UPR21.out hkp.1); have n14_ := Aside0.mk (Kd.S_kept HOR24.out hkp NRR24_R15.out); have n15_ := Aside0.mk (Nat.le_trans UPR24.out hkp.1); have n16_ := Aside0.mk (blk_kept (g := gb1) BKgb1.out hkp (fun h_ => NER15_gb1.out _ h_ rfl)); have n17_ := Aside0.mk (Nat.lt_of_lt_of_le GUgb1.out hkp.1); have n18_ := Aside0.mk (blk_kept (g := gb13) BKgb13.out hkp (fun h_ => NER15_gb13.out _ h_ rfl)); have n19_ := Aside0.mk (Nat.lt_of_lt_of_le GUgb13.out hkp.1); have n20_ := Aside0.mk (below_step HWM.out hb); have n21_ := Aside0.mk (hb); clear HOR5; clear UPR5; clear HOR7; clear UPR7; clear HOR10; clear UPR10; clear HOR12; clear UPR12; clear HOR15; clear UPR15; clear HOR18; clear UPR18; clear HOR21; clear UPR21; clear HOR24; clear UPR24; clear BKgb1; clear GUgb1; clear BKgb13; clear GUgb13; clear HB; clear HBM; have HOR5 := n0_; have UPR5 := n1_; have HOR7 := n2_; have UPR7 := n3_; have HOR10 := n4_; have UPR10 := n5_; have HOR12 := n6_; have UPR12 := n7_; have HOR15 := n8_; have UPR15 := n9_; have HOR18 := n10_; have UPR18 := n11_; have HOR21 := n12_; have UPR21 := n13_; have HOR24 := n14_; have UPR24 := n15_; have BKgb1 := n16_; have GUgb1 := n17_; have BKgb13 := n18_; have GUgb13 := n19_; have HB := n20_; have HBM := n21_; clear n0_ n1_ n2_ n3_ n4_ n5_ n6_ n7_ n8_ n9_ n10_ n11_ n12_ n13_ n14_ n15_ n16_ n17_ n18_ n19_ n20_ n21_; clear hy hb hkp; (try clear hczgb1_0); (try clear hfzgb1_0); (try clear hczgb13_0); (try clear hfzgb13_0); have hczgb1_0 : w_19.cell? ⟨gb1, 0, none⟩ = some (.slice A0_0 l0_0.length c0_0) := (blk_cell BKgb1.out 0).trans rfl; have hfzgb1_0 := blk_frozen BKgb1.out 0; have hczgb13_0 : w_19.cell? ⟨gb13, 0, none⟩ = some (.slice AR12 t11.length cR12) := (blk_cell BKgb13.out 0).trans rfl; have hfzgb13_0 := blk_frozen BKgb13.out 0) | (go_at_call 26; (with_reducible refine (laws_eqInt64SS.calls k _ _ t16 _ _ t8 true _ ?side1 ?side2 ?side3 ?side4 E23.out).mono ?_); (case side1 => exact (Kd.S_reads' HOR18.out).2.2); (case side2 => exact (Kd.S_reads' HOR18.out).2.1); (case side3 => exact (Kd.S_reads' HOR10.out).2.2); (case side4 => exact (Kd.S_reads' HOR10.out).2.1); rintro e w_20 ⟨rfl, hd⟩; have hb := Drawn0.below hd; have n0_ := Aside0.mk (Kd.S_below HOR5.out hb); have n1_ := Aside0.mk (Kd.S_below HOR7.out hb); have n2_ := Aside0.mk (Kd.S_below HOR10.out hb); have n3_ := Aside0.mk (Kd.S_below HOR12.out hb); have n4_ := Aside0.mk (Kd.S_below HOR15.out hb); have n5_ := Aside0.mk (Kd.S_below HOR18.out hb); have n6_ := Aside0.mk (Kd.S_below HOR21.out hb); have n7_ := Aside0.mk (Kd.S_below HOR24.out hb); have n8_ := Aside0.mk (Nat.le_trans UPR5.out hb.size); have n9_ := Aside0.mk (Nat.le_trans UPR7.out hb.size); have n10_ := Aside0.mk (Nat.le_trans UPR10.out hb.size); have n11_ := Aside0.mk (Nat.le_trans UPR12.out hb.size); have n12_ := Aside0.mk (Nat.le_trans UPR15.out hb.size); have n13_ := Aside0.mk (Nat.le_trans UPR18.out hb.size); have n14_ := Aside0.mk (Nat.le_trans UPR21.out hb.size); have n15_ := Aside0.mk (Nat.le_trans UPR24.out hb.size); have n16_ := Aside0.mk (blk_below (g := gb1) BKgb1.out hb); have n17_ := Aside0.mk (blk_below (g := gb13) BKgb13.out hb); have n18_ := Aside0.mk (Nat.lt_of_lt_of_le GUgb1.out hb.size); have n19_ := Aside0.mk (Nat.lt_of_lt_of_le GUgb13.out hb.size); have n20_ := Aside0.mk (below_step HB.out hb); have n21_ := Aside0.mk (below_step HBM.out hb); clear HOR5; clear HOR7; clear HOR10; clear HOR12; clear HOR15; clear HOR18; clear HOR21; clear HOR24; clear UPR5; clear UPR7; clear UPR10; clear UPR12; clear UPR15; clear UPR18; clear UPR21; clear UPR24; clear BKgb1; clear BKgb13; clear GUgb1; clear GUgb13; clear HB; clear HBM; have HOR5 := n0_; have HOR7 := n1_; have HOR10 := n2_; have HOR12 := n3_; have HOR15 := n4_; have HOR18 := n5_; have HOR21 := n6_; have HOR24 := n7_; have UPR5 := n8_; have UPR7 := n9_; have UPR10 := n10_; have UPR12 := n11_; have UPR15 := n12_; have UPR18 := n13_; have UPR21 := n14_; have UPR24 := n15_; have BKgb1 := n16_; have BKgb13 := n17_; have GUgb1 := n18_; have GUgb13 := n19_; have HB := n20_; have HBM := n21_; clear n0_ n1_ n2_ n3_ n4_ n5_ n6_ n7_ n8_ n9_ n10_ n11_ n12_ n13_ n14_ n15_ n16_ n17_ n18_ n19_ n20_ n21_; clear hb; clear hd; (try clear hczgb1_0); (try clear hfzgb1_0); (try clear hczgb13_0); (try clear hfzgb13_0); have hczgb1_0 : w_20.cell? ⟨gb1, 0, none⟩ = some (.slice A0_0 l0_0.length c0_0) := (blk_cell BKgb1.out 0).trans rfl; have hfzgb1_0 := blk_frozen BKgb1.out 0; have hczgb13_0 : w_20.cell? ⟨gb13, 0, none⟩ = some (.slice AR12 t11.length cR12) := (blk_cell BKgb13.out 0).trans rfl; have hfzgb13_0 := blk_frozen BKgb13.out 0) | ((with_reducible refine gate_callee (f := 27) rfl ?_); refine goesL_ (some 89) rfl rfl Try.func27 (by kernel_rfl) rfl #[.slice AR18 t16.length cR18, .int .i64 1] rfl (by (try simp only [List.map_toArray, List.map_cons, List.map_nil]); first | done | rfl) ?_; (with_reducible refine (laws_markInt64SS.calls k (fun k_ => loR18 ≤ k_ ∧ k_ < hiR18) _ t16 1 t42 t32 w_6 _ ?side1 ?side2 E25.out).mono ?_); (case side1 => exact HBM.out); (case side2 => exact HOR18.out); rintro e w_21 ⟨rfl, hy, hb, hkp⟩; refine ⟨_, rfl, ?_⟩; have n0_ := Aside0.mk (Kd.S_kept HOR5.out hkp NRR5_R18.out); have n1_ := Aside0.mk (Nat.le_trans UPR5.out hkp.1); have n2_ := Aside0.mk (Kd.S_kept HOR7.out hkp NRR7_R18.out); have n3_ := Aside0.mk (Nat.le_trans UPR7.out hkp.1); have n4_ := Aside0.mk (Kd.S_kept HOR10.out hkp NRR10_R18.out); have n5_ := Aside0.mk (Nat.le_trans UPR10.out hkp.1); have n6_ := Aside0.mk (Kd.S_kept HOR12.out hkp NRR12_R18.out); have n7_ := Aside0.mk (Nat.le_trans UPR12.out hkp.1); have n8_ := Aside0.mk (Kd.S_kept HOR15.out hkp NRR15_R18.out); have n9_ := Aside0.mk (Nat.le_trans UPR15.out hkp.1); have n10_ := Aside0.mk (hy); have n11_ := Aside0.mk (Nat.le_trans UPR18.out hkp.1); have n12_ := Aside0.mk (Kd.S_kept HOR21.out hkp NRR21_R18.out); have n13_ := Aside0.mk (Nat.le_trans UPR21.out hkp.1); have n14_ := Aside0.mk (Kd.S_kept HOR24.out hkp NRR24_R18.out); have n15_ := Aside0.mk (Nat.le_trans UPR24.out hkp.1); have n16_ := Aside0.mk (blk_kept (g := gb1) BKgb1.out hkp (fun h_ => NER18_gb1.out _ h_ rfl)); have n17_ := Aside0.mk (Nat.lt_of_lt_of_le GUgb1.out hkp.1); have n18_ := Aside0.mk (blk_kept (g := gb13) BKgb13.out hkp (fun h_ => NER18_gb13.out _ h_ rfl)); have n19_ := Aside0.mk (Nat.lt_of_lt_of_le GUgb13.out hkp.1); have n20_ := Aside0.mk (below_step HWM.out hb); have n21_ := Aside0.mk (hb); clear HOR5; clear UPR5; clear HOR7; clear UPR7; clear HOR10; clear UPR10; clear HOR12; clear UPR12; clear HOR15; clear UPR15; clear HOR18; clear UPR18; clear HOR21; clear UPR21; clear HOR24; clear UPR24; clear BKgb1; clear GUgb1; clear BKgb13; clear GUgb13; clear HB; clear HBM; have HOR5 := n0_; have UPR5 := n1_; have HOR7 := n2_; have UPR7 := n3_; have HOR10 := n4_; have UPR10 := n5_; have HOR12 := n6_; have UPR12 := n7_; have HOR15 := n8_; have UPR15 := n9_; have HOR18 := n10_; have UPR18 := n11_; have HOR21 := n12_; have UPR21 := n13_; have HOR24 := n14_; have UPR24 := n15_; have BKgb1 := n16_; have GUgb1 := n17_; have BKgb13 := n18_; have GUgb13 := n19_; have HB := n20_; have HBM := n21_; clear n0_ n1_ n2_ n3_ n4_ n5_ n6_ n7_ n8_ n9_ n10_ n11_ n12_ n13_ n14_ n15_ n16_ n17_ n18_ n19_ n20_ n21_; clear hy hb hkp; (try clear hczgb1_0); (try clear hfzgb1_0); (try clear hczgb13_0); (try clear hfzgb13_0); have hczgb1_0 : w_21.cell? ⟨gb1, 0, none⟩ = some (.slice A0_0 l0_0.length c0_0) := (blk_cell BKgb1.out 0).trans rfl; have hfzgb1_0 := blk_frozen BKgb1.out 0; have hczgb13_0 : w_21.cell? ⟨gb13, 0, none⟩ = some (.slice AR12 t11.length cR12) := (blk_cell BKgb13.out 0).trans rfl; have hfzgb13_0 := blk_frozen BKgb13.out 0) | ((with_reducible refine gate_callee (f := 28) rfl ?_); refine goesL_ (some 92) rfl rfl Try.func28 (by kernel_rfl) rfl #[.slice AR18 t32.length cR18, .int .i64 1] rfl (by (try simp only [List.map_toArray, List.map_cons, List.map_nil]); first | done | rfl | (simp only [show t32.length = t16.length from (Kd.S_reads' HOR18.out).1.symm]; rfl)) ?_; (with_reducible refine (laws_heldInt64SS.calls k _ _ t32 1 t42 _ ?side1 ?side2 E26.out).mono ?_); (case side1 => exact (Kd.S_reads' HOR18.out).2.2); (case side2 => exact (fun h_ => h_.1 ▸ h_.2.1) (Kd.S_reads' HOR18.out)); rintro e w_22 ⟨rfl, hd⟩; have hb := Drawn0.below hd; refine ⟨_, rfl, ?_⟩; have n0_ := Aside0.mk (Kd.S_below HOR5.out hb); have n1_ := Aside0.mk (Kd.S_below HOR7.out hb); have n2_ := Aside0.mk (Kd.S_below HOR10.out hb); have n3_ := Aside0.mk (Kd.S_below HOR12.out hb); have n4_ := Aside0.mk (Kd.S_below HOR15.out hb); have n5_ := Aside0.mk (Kd.S_below HOR18.out hb); have n6_ := Aside0.mk (Kd.S_below HOR21.out hb); have n7_ := Aside0.mk (Kd.S_below HOR24.out hb); have n8_ := Aside0.mk (Nat.le_trans UPR5.out hb.size); have n9_ := Aside0.mk (Nat.le_trans UPR7.out hb.size); have n10_ := Aside0.mk (Nat.le_trans UPR10.out hb.size); have n11_ := Aside0.mk (Nat.le_trans UPR12.out hb.size); have n12_ := Aside0.mk (Nat.le_trans UPR15.out hb.size); have n13_ := Aside0.mk (Nat.le_trans UPR18.out hb.size); have n14_ := Aside0.mk (Nat.le_trans UPR21.out hb.size); have n15_ := Aside0.mk (Nat.le_trans UPR24.out hb.size); have n16_ := Aside0.mk (blk_below (g := gb1) BKgb1.out hb); have n17_ := Aside0.mk (blk_below (g := gb13) BKgb13.out hb); have n18_ := Aside0.mk (Nat.lt_of_lt_of_le GUgb1.out hb.size); have n19_ := Aside0.mk (Nat.lt_of_lt_of_le GUgb13.out hb.size); have n20_ := Aside0.mk (below_step HB.out hb); have n21_ := Aside0.mk (below_step HBM.out hb); clear HOR5; clear HOR7; clear HOR10; clear HOR12; clear HOR15; clear HOR18; clear HOR21; clear HOR24; clear UPR5; clear UPR7; clear UPR10; clear UPR12; clear UPR15; clear UPR18; clear UPR21; clear UPR24; clear BKgb1; clear BKgb13; clear GUgb1; clear GUgb13; clear HB; clear HBM; have HOR5 := n0_; have HOR7 := n1_; have HOR10 := n2_; have HOR12 := n3_; have HOR15 := n4_; have HOR18 := n5_; have HOR21 := n6_; have HOR24 := n7_; have UPR5 := n8_; have UPR7 := n9_; have UPR10 := n10_; have UPR12 := n11_; have UPR15 := n12_; have UPR18 := n13_; have UPR21 := n14_; have UPR24 := n15_; have BKgb1 := n16_; have BKgb13 := n17_; have GUgb1 := n18_; have GUgb13 := n19_; have HB := n20_; have HBM := n21_; clear n0_ n1_ n2_ n3_ n4_ n5_ n6_ n7_ n8_ n9_ n10_ n11_ n12_ n13_ n14_ n15_ n16_ n17_ n18_ n19_ n20_ n21_; clear hb; clear hd; (try clear hczgb1_0); (try clear hfzgb1_0); (try clear hczgb13_0); (try clear hfzgb13_0); have hczgb1_0 : w_22.cell? ⟨gb1, 0, none⟩ = some (.slice A0_0 l0_0.length c0_0) := (blk_cell BKgb1.out 0).trans rfl; have hfzgb1_0 := blk_frozen BKgb1.out 0; have hczgb13_0 : w_22.cell? ⟨gb13, 0, none⟩ = some (.slice AR12 t11.length cR12) := (blk_cell BKgb13.out 0).trans rfl; have hfzgb13_0 := blk_frozen BKgb13.out 0) | ((with_reducible refine gate_callee (f := 31) rfl ?_); refine goesL_ (some 100) rfl rfl Try.func31 (by kernel_rfl) rfl #[.agg #[.slice A0_0 l0_0.length c0_0]] rfl (by (try simp only [List.map_toArray, List.map_cons, List.map_nil]); first | done | rfl) ?_; (with_reducible refine (laws_toPicture.calls k _ _ l0_0 t34 _ ?side1 ?side2 E29.out).mono ?_); (case side1 => exact Kd.C_below HR0_0.out HB.out); (case side2 => exact HC0_0.out); rintro e w_23 ⟨vR35, rfl, hoR35, hb⟩; refine ⟨_, rfl, ?_⟩; obtain ⟨loR35, hloR35⟩ : ∃ n_ : Nat, n_ = w_22.heap.size := ⟨_, rfl⟩; obtain ⟨hiR35, hhiR35⟩ : ∃ n_ : Nat, n_ = w_23.heap.size := ⟨_, rfl⟩; have n0_ := Aside0.mk (Kd.S_below HOR5.out hb); have n1_ := Aside0.mk (Kd.S_below HOR7.out hb); have n2_ := Aside0.mk (Kd.S_below HOR10.out hb); have n3_ := Aside0.mk (Kd.S_below HOR12.out hb); have n4_ := Aside0.mk (Kd.S_below HOR15.out hb); have n5_ := Aside0.mk (Kd.S_below HOR18.out hb); have n6_ := Aside0.mk (Kd.S_below HOR21.out hb); have n7_ := Aside0.mk (Kd.S_below HOR24.out hb); have n8_ := Aside0.mk (Nat.le_trans UPR5.out hb.size); have n9_ := Aside0.mk (Nat.le_trans UPR7.out hb.size); have n10_ := Aside0.mk (Nat.le_trans UPR10.out hb.size); have n11_ := Aside0.mk (Nat.le_trans UPR12.out hb.size); have n12_ := Aside0.mk (Nat.le_trans UPR15.out hb.size); have n13_ := Aside0.mk (Nat.le_trans UPR18.out hb.size); have n14_ := Aside0.mk (Nat.le_trans UPR21.out hb.size); have n15_ := Aside0.mk (Nat.le_trans UPR24.out hb.size); have n16_ := Aside0.mk (blk_below (g := gb1) BKgb1.out hb); have n17_ := Aside0.mk (blk_below (g := gb13) BKgb13.out hb); have n18_ := Aside0.mk (Nat.lt_of_lt_of_le GUgb1.out hb.size); have n19_ := Aside0.mk (Nat.lt_of_lt_of_le GUgb13.out hb.size); have n20_ := Aside0.mk (below_step HB.out hb); have n21_ := Aside0.mk (below_step HBM.out hb); have n22_ := Aside0.mk (Kd.S_lower (Kd.S_mono (ok' := fun k_ => loR35 ≤ k_ ∧ k_ < hiR35) (Kd.S_bound hoR35) (fun k_ hk_ => ⟨by rw [hloR35]; exact hk_.2.1, by rw [hhiR35]; exact hk_.2.2.1⟩)) (below_size HBM.out)); have n23_ := Aside0.mk (by rw [hhiR35]; exact Nat.le_refl _ : hiR35 ≤ w_23.heap.size); have n24_ := Aside0.mk (fun k_ h1_ h2_ => by have := UPR5.out; rw [← hloR35] at this; omega : ∀ k_, loR5 ≤ k_ ∧ k_ < hiR5 → ¬ (loR35 ≤ k_ ∧ k_ < hiR35)); have n25_ := Aside0.mk (fun k_ h1_ h2_ => by have := UPR5.out; rw [← hloR35] at this; omega : ∀ k_, loR35 ≤ k_ ∧ k_ < hiR35 → ¬ (loR5 ≤ k_ ∧ k_ < hiR5)); have n26_ := Aside0.mk (fun k_ h1_ h2_ => by have := UPR7.out; rw [← hloR35] at this; omega : ∀ k_, loR7 ≤ k_ ∧ k_ < hiR7 → ¬ (loR35 ≤ k_ ∧ k_ < hiR35)); have n27_ := Aside0.mk (fun k_ h1_ h2_ => by have := UPR7.out; rw [← hloR35] at this; omega : ∀ k_, loR35 ≤ k_ ∧ k_ < hiR35 → ¬ (loR7 ≤ k_ ∧ k_ < hiR7)); have n28_ := Aside0.mk (fun k_ h1_ h2_ => by have := UPR10.out; rw [← hloR35] at this; omega : ∀ k_, loR10 ≤ k_ ∧ k_ < hiR10 → ¬ (loR35 ≤ k_ ∧ k_ < hiR35)); have n29_ := Aside0.mk (fun k_ h1_ h2_ => by have := UPR10.out; rw [← hloR35] at this; omega : ∀ k_, loR35 ≤ k_ ∧ k_ < hiR35 → ¬ (loR10 ≤ k_ ∧ k_ < hiR10)); have n30_ := Aside0.mk (fun k_ h1_ h2_ => by have := UPR12.out; rw [← hloR35] at this; omega : ∀ k_, loR12 ≤ k_ ∧ k_ < hiR12 → ¬ (loR35 ≤ k_ ∧ k_ < hiR35)); have n31_ := Aside0.mk (fun k_ h1_ h2_ => by have := UPR12.out; rw [← hloR35] at this; omega : ∀ k_, loR35 ≤ k_ ∧ k_ < hiR35 → ¬ (loR12 ≤ k_ ∧ k_ < hiR12)); have n32_ := Aside0.mk (fun k_ h1_ h2_ => by have := UPR15.out; rw [← hloR35] at this; omega : ∀ k_, loR15 ≤ k_ ∧ k_ < hiR15 → ¬ (loR35 ≤ k_ ∧ k_ < hiR35)); have n33_ := Aside0.mk (fun k_ h1_ h2_ => by have := UPR15.out; rw [← hloR35] at this; omega : ∀ k_, loR35 ≤ k_ ∧ k_ < hiR35 → ¬ (loR15 ≤ k_ ∧ k_ < hiR15)); have n34_ := Aside0.mk (fun k_ h1_ h2_ => by have := UPR18.out; rw [← hloR35] at this; omega : ∀ k_, loR18 ≤ k_ ∧ k_ < hiR18 → ¬ (loR35 ≤ k_ ∧ k_ < hiR35)); have n35_ := Aside0.mk (fun k_ h1_ h2_ => by have := UPR18.out; rw [← hloR35] at this; omega : ∀ k_, loR35 ≤ k_ ∧ k_ < hiR35 → ¬ (loR18 ≤ k_ ∧ k_ < hiR18)); have n36_ := Aside0.mk (fun k_ h1_ h2_ => by have := UPR21.out; rw [← hloR35] at this; omega : ∀ k_, loR21 ≤ k_ ∧ k_ < hiR21 → ¬ (loR35 ≤ k_ ∧ k_ < hiR35)); have n37_ := Aside0.mk (fun k_ h1_ h2_ => by have := UPR21.out; rw [← hloR35] at this; omega : ∀ k_, loR35 ≤ k_ ∧ k_ < hiR35 → ¬ (loR21 ≤ k_ ∧ k_ < hiR21)); have n38_ := Aside0.mk (fun k_ h1_ h2_ => by have := UPR24.out; rw [← hloR35] at this; omega : ∀ k_, loR24 ≤ k_ ∧ k_ < hiR24 → ¬ (loR35 ≤ k_ ∧ k_ < hiR35)); have n39_ := Aside0.mk (fun k_ h1_ h2_ => by have := UPR24.out; rw [← hloR35] at this; omega : ∀ k_, loR35 ≤ k_ ∧ k_ < hiR35 → ¬ (loR24 ≤ k_ ∧ k_ < hiR24)); have n40_ := Aside0.mk (fun k_ hk_ => by have := GUgb1.out; rw [← hloR35] at this; omega : ∀ k_, loR35 ≤ k_ ∧ k_ < hiR35 → k_ ≠ gb1); have n41_ := Aside0.mk (fun k_ hk_ => by have := GUgb13.out; rw [← hloR35] at this; omega : ∀ k_, loR35 ≤ k_ ∧ k_ < hiR35 → k_ ≠ gb13); clear HOR5; clear HOR7; clear HOR10; clear HOR12; clear HOR15; clear HOR18; clear HOR21; clear HOR24; clear UPR5; clear UPR7; clear UPR10; clear UPR12; clear UPR15; clear UPR18; clear UPR21; clear UPR24; clear BKgb1; clear BKgb13; clear GUgb1; clear GUgb13; clear HB; clear HBM; have HOR5 := n0_; have HOR7 := n1_; have HOR10 := n2_; have HOR12 := n3_; have HOR15 := n4_; have HOR18 := n5_; have HOR21 := n6_; have HOR24 := n7_; have UPR5 := n8_; have UPR7 := n9_; have UPR10 := n10_; have UPR12 := n11_; have UPR15 := n12_; have UPR18 := n13_; have UPR21 := n14_; have UPR24 := n15_; have BKgb1 := n16_; have BKgb13 := n17_; have GUgb1 := n18_; have GUgb13 := n19_; have HB := n20_; have HBM := n21_; have HOR35 := n22_; have UPR35 := n23_; have NRR5_R35 := n24_; have NRR35_R5 := n25_; have NRR7_R35 := n26_; have NRR35_R7 := n27_; have NRR10_R35 := n28_; have NRR35_R10 := n29_; have NRR12_R35 := n30_; have NRR35_R12 := n31_; have NRR15_R35 := n32_; have NRR35_R15 := n33_; have NRR18_R35 := n34_; have NRR35_R18 := n35_; have NRR21_R35 := n36_; have NRR35_R21 := n37_; have NRR24_R35 := n38_; have NRR35_R24 := n39_; have NER35_gb1 := n40_; have NER35_gb13 := n41_; clear n0_ n1_ n2_ n3_ n4_ n5_ n6_ n7_ n8_ n9_ n10_ n11_ n12_ n13_ n14_ n15_ n16_ n17_ n18_ n19_ n20_ n21_ n22_ n23_ n24_ n25_ n26_ n27_ n28_ n29_ n30_ n31_ n32_ n33_ n34_ n35_ n36_ n37_ n38_ n39_ n40_ n41_; clear hb; clear hoR35 hloR35 hhiR35; obtain ⟨AR35, cR35, eqR35⟩ := Kd.S_slice HOR35.out; subst eqR35; (try clear hczgb1_0); (try clear hfzgb1_0); (try clear hczgb13_0); (try clear hfzgb13_0); have hczgb1_0 : w_23.cell? ⟨gb1, 0, none⟩ = some (.slice A0_0 l0_0.length c0_0) := (blk_cell BKgb1.out 0).trans rfl; have hfzgb1_0 := blk_frozen BKgb1.out 0; have hczgb13_0 : w_23.cell? ⟨gb13, 0, none⟩ = some (.slice AR12 t11.length cR12) := (blk_cell BKgb13.out 0).trans rfl; have hfzgb13_0 := blk_frozen BKgb13.out 0) | ((with_reducible refine gate_callee (f := 36) rfl ?_); refine goesL_ (some 102) rfl rfl Try.func36 (by kernel_rfl) rfl #[.slice A1 l1.length c1] rfl (by (try simp only [List.map_toArray, List.map_cons, List.map_nil]); first | done | rfl) ?_; (with_reducible refine (laws_toInt64SS.calls k _ _ l1 t36 _ ?side1 ?side2 E30.out).mono ?_); (case side1 => exact Kd.C_below HR1.out HB.out); (case side2 => exact HC1.out); rintro e w_24 ⟨vR37, rfl, hoR37, hb⟩; refine ⟨_, rfl, ?_⟩; obtain ⟨loR37, hloR37⟩ : ∃ n_ : Nat, n_ = w_23.heap.size := ⟨_, rfl⟩; obtain ⟨hiR37, hhiR37⟩ : ∃ n_ : Nat, n_ = w_24.heap.size := ⟨_, rfl⟩; have n0_ := Aside0.mk (Kd.S_below HOR5.out hb); have n1_ := Aside0.mk (Kd.S_below HOR7.out hb); have n2_ := Aside0.mk (Kd.S_below HOR10.out hb); have n3_ := Aside0.mk (Kd.S_below HOR12.out hb); have n4_ := Aside0.mk (Kd.S_below HOR15.out hb); have n5_ := Aside0.mk (Kd.S_below HOR18.out hb); have n6_ := Aside0.mk (Kd.S_below HOR21.out hb); have n7_ := Aside0.mk (Kd.S_below HOR24.out hb); have n8_ := Aside0.mk (Kd.S_below HOR35.out hb); have n9_ := Aside0.mk (Nat.le_trans UPR5.out hb.size); have n10_ := Aside0.mk (Nat.le_trans UPR7.out hb.size); have n11_ := Aside0.mk (Nat.le_trans UPR10.out hb.size); have n12_ := Aside0.mk (Nat.le_trans UPR12.out hb.size); have n13_ := Aside0.mk (Nat.le_trans UPR15.out hb.size); have n14_ := Aside0.mk (Nat.le_trans UPR18.out hb.size); have n15_ := Aside0.mk (Nat.le_trans UPR21.out hb.size); have n16_ := Aside0.mk (Nat.le_trans UPR24.out hb.size); have n17_ := Aside0.mk (Nat.le_trans UPR35.out hb.size); have n18_ := Aside0.mk (blk_below (g := gb1) BKgb1.out hb); have n19_ := Aside0.mk (blk_below (g := gb13) BKgb13.out hb); have n20_ := Aside0.mk (Nat.lt_of_lt_of_le GUgb1.out hb.size); have n21_ := Aside0.mk (Nat.lt_of_lt_of_le GUgb13.out hb.size); have n22_ := Aside0.mk (below_step HB.out hb); have n23_ := Aside0.mk (below_step HBM.out hb); have n24_ := Aside0.mk (Kd.S_lower (Kd.S_mono (ok' := fun k_ => loR37 ≤ k_ ∧ k_ < hiR37) (Kd.S_bound hoR37) (fun k_ hk_ => ⟨by rw [hloR37]; exact hk_.2.1, by rw [hhiR37]; exact hk_.2.2.1⟩)) (below_size HBM.out)); have n25_ := Aside0.mk (by rw [hhiR37]; exact Nat.le_refl _ : hiR37 ≤ w_24.heap.size); have n26_ := Aside0.mk (fun k_ h1_ h2_ => by have := UPR5.out; rw [← hloR37] at this; omega : ∀ k_, loR5 ≤ k_ ∧ k_ < hiR5 → ¬ (loR37 ≤ k_ ∧ k_ < hiR37)); have n27_ := Aside0.mk (fun k_ h1_ h2_ => by have := UPR5.out; rw [← hloR37] at this; omega : ∀ k_, loR37 ≤ k_ ∧ k_ < hiR37 → ¬ (loR5 ≤ k_ ∧ k_ < hiR5)); have n28_ := Aside0.mk (fun k_ h1_ h2_ => by have := UPR7.out; rw [← hloR37] at this; omega : ∀ k_, loR7 ≤ k_ ∧ k_ < hiR7 → ¬ (loR37 ≤ k_ ∧ k_ < hiR37)); have n29_ := Aside0.mk (fun k_ h1_ h2_ => by have := UPR7.out; rw [← hloR37] at this; omega : ∀ k_, loR37 ≤ k_ ∧ k_ < hiR37 → ¬ (loR7 ≤ k_ ∧ k_ < hiR7)); have n30_ := Aside0.mk (fun k_ h1_ h2_ => by have := UPR10.out; rw [← hloR37] at this; omega : ∀ k_, loR10 ≤ k_ ∧ k_ < hiR10 → ¬ (loR37 ≤ k_ ∧ k_ < hiR37)); have n31_ := Aside0.mk (fun k_ h1_ h2_ => by have := UPR10.out; rw [← hloR37] at this; omega : ∀ k_, loR37 ≤ k_ ∧ k_ < hiR37 → ¬ (loR10 ≤ k_ ∧ k_ < hiR10)); have n32_ := Aside0.mk (fun k_ h1_ h2_ => by have := UPR12.out; rw [← hloR37] at this; omega : ∀ k_, loR12 ≤ k_ ∧ k_ < hiR12 → ¬ (loR37 ≤ k_ ∧ k_ < hiR37)); have n33_ := Aside0.mk (fun k_ h1_ h2_ => by have := UPR12.out; rw [← hloR37] at this; omega : ∀ k_, loR37 ≤ k_ ∧ k_ < hiR37 → ¬ (loR12 ≤ k_ ∧ k_ < hiR12)); have n34_ := Aside0.mk (fun k_ h1_ h2_ => by have := UPR15.out; rw [← hloR37] at this; omega : ∀ k_, loR15 ≤ k_ ∧ k_ < hiR15 → ¬ (loR37 ≤ k_ ∧ k_ < hiR37)); have n35_ := Aside0.mk (fun k_ h1_ h2_ => by have := UPR15.out; rw [← hloR37] at this; omega : ∀ k_, loR37 ≤ k_ ∧ k_ < hiR37 → ¬ (loR15 ≤ k_ ∧ k_ < hiR15)); have n36_ := Aside0.mk (fun k_ h1_ h2_ => by have := UPR18.out; rw [← hloR37] at this; omega : ∀ k_, loR18 ≤ k_ ∧ k_ < hiR18 → ¬ (loR37 ≤ k_ ∧ k_ < hiR37)); have n37_ := Aside0.mk (fun k_ h1_ h2_ => by have := UPR18.out; rw [← hloR37] at this; omega : ∀ k_, loR37 ≤ k_ ∧ k_ < hiR37 → ¬ (loR18 ≤ k_ ∧ k_ < hiR18)); have n38_ := Aside0.mk (fun k_ h1_ h2_ => by have := UPR21.out; rw [← hloR37] at this; omega : ∀ k_, loR21 ≤ k_ ∧ k_ < hiR21 → ¬ (loR37 ≤ k_ ∧ k_ < hiR37)); have n39_ := Aside0.mk (fun k_ h1_ h2_ => by have := UPR21.out; rw [← hloR37] at this; omega : ∀ k_, loR37 ≤ k_ ∧ k_ < hiR37 → ¬ (loR21 ≤ k_ ∧ k_ < hiR21)); have n40_ := Aside0.mk (fun k_ h1_ h2_ => by have := UPR24.out; rw [← hloR37] at this; omega : ∀ k_, loR24 ≤ k_ ∧ k_ < hiR24 → ¬ (loR37 ≤ k_ ∧ k_ < hiR37)); have n41_ := Aside0.mk (fun k_ h1_ h2_ => by have := UPR24.out; rw [← hloR37] at this; omega : ∀ k_, loR37 ≤ k_ ∧ k_ < hiR37 → ¬ (loR24 ≤ k_ ∧ k_ < hiR24)); have n42_ := Aside0.mk (fun k_ h1_ h2_ => by have := UPR35.out; rw [← hloR37] at this; omega : ∀ k_, loR35 ≤ k_ ∧ k_ < hiR35 → ¬ (loR37 ≤ k_ ∧ k_ < hiR37)); have n43_ := Aside0.mk (fun k_ h1_ h2_ => by have := UPR35.out; rw [← hloR37] at this; omega : ∀ k_, loR37 ≤ k_ ∧ k_ < hiR37 → ¬ (loR35 ≤ k_ ∧ k_ < hiR35)); have n44_ := Aside0.mk (fun k_ hk_ => by have := GUgb1.out; rw [← hloR37] at this; omega : ∀ k_, loR37 ≤ k_ ∧ k_ < hiR37 → k_ ≠ gb1); have n45_ := Aside0.mk (fun k_ hk_ => by have := GUgb13.out; rw [← hloR37] at this; omega : ∀ k_, loR37 ≤ k_ ∧ k_ < hiR37 → k_ ≠ gb13); clear HOR5; clear HOR7; clear HOR10; clear HOR12; clear HOR15; clear HOR18; clear HOR21; clear HOR24; clear HOR35; clear UPR5; clear UPR7; clear UPR10; clear UPR12; clear UPR15; clear UPR18; clear UPR21; clear UPR24; clear UPR35; clear BKgb1; clear BKgb13; clear GUgb1; clear GUgb13; clear HB; clear HBM; have HOR5 := n0_; have HOR7 := n1_; have HOR10 := n2_; have HOR12 := n3_; have HOR15 := n4_; have HOR18 := n5_; have HOR21 := n6_; have HOR24 := n7_; have HOR35 := n8_; have UPR5 := n9_; have UPR7 := n10_; have UPR10 := n11_; have UPR12 := n12_; have UPR15 := n13_; have UPR18 := n14_; have UPR21 := n15_; have UPR24 := n16_; have UPR35 := n17_; have BKgb1 := n18_; have BKgb13 := n19_; have GUgb1 := n20_; have GUgb13 := n21_; have HB := n22_; have HBM := n23_; have HOR37 := n24_; have UPR37 := n25_; have NRR5_R37 := n26_; have NRR37_R5 := n27_; have NRR7_R37 := n28_; have NRR37_R7 := n29_; have NRR10_R37 := n30_; have NRR37_R10 := n31_; have NRR12_R37 := n32_; have NRR37_R12 := n33_; have NRR15_R37 := n34_; have NRR37_R15 := n35_; have NRR18_R37 := n36_; have NRR37_R18 := n37_; have NRR21_R37 := n38_; have NRR37_R21 := n39_; have NRR24_R37 := n40_; have NRR37_R24 := n41_; have NRR35_R37 := n42_; have NRR37_R35 := n43_; have NER37_gb1 := n44_; have NER37_gb13 := n45_; clear n0_ n1_ n2_ n3_ n4_ n5_ n6_ n7_ n8_ n9_ n10_ n11_ n12_ n13_ n14_ n15_ n16_ n17_ n18_ n19_ n20_ n21_ n22_ n23_ n24_ n25_ n26_ n27_ n28_ n29_ n30_ n31_ n32_ n33_ n34_ n35_ n36_ n37_ n38_ n39_ n40_ n41_ n42_ n43_ n44_ n45_; clear hb; clear hoR37 hloR37 hhiR37; obtain ⟨AR37, cR37, eqR37⟩ := Kd.S_slice HOR37.out; subst eqR37; (try clear hczgb1_0); (try clear hfzgb1_0); (try clear hczgb13_0); (try clear hfzgb13_0); have hczgb1_0 : w_24.cell? ⟨gb1, 0, none⟩ = some (.slice A0_0 l0_0.length c0_0) := (blk_cell BKgb1.out 0).trans rfl; have hfzgb1_0 := blk_frozen BKgb1.out 0; have hczgb13_0 : w_24.cell? ⟨gb13, 0, none⟩ = some (.slice AR12 t11.length cR12) := (blk_cell BKgb13.out 0).trans rfl; have hfzgb13_0 := blk_frozen BKgb13.out 0) | ((with_reducible refine gate_callee (f := 45) rfl ?_); refine goesL_ (some 104) rfl rfl Try.func45 (by kernel_rfl) rfl #[.agg #[.slice AR35 t34.length cR35], .slice AR37 t36.length cR37, .int .i64 a2] rfl (by (try simp only [List.map_toArray, List.map_cons, List.map_nil]); first | done | rfl) ?_; (with_reducible refine (impl_BlockErrors.calls k _ _ t34 _ _ t36 a2 t38 t39 _ ?side1 ?side2 ?side3 ?side4 E31.out).mono ?_); (case side1 => exact (Kd.S_reads' HOR35.out).2.2); (case side2 => exact (Kd.S_reads' HOR35.out).2.1); (case side3 => exact (Kd.S_reads' HOR37.out).2.2); (case side4 => exact (Kd.S_reads' HOR37.out).2.1); rintro e w_25 ⟨vR40, rfl, hoR40, hb⟩; refine ⟨_, rfl, ?_⟩; obtain ⟨loR40, hloR40⟩ : ∃ n_ : Nat, n_ = w_24.heap.size := ⟨_, rfl⟩; obtain ⟨hiR40, hhiR40⟩ : ∃ n_ : Nat, n_ = w_25.heap.size := ⟨_, rfl⟩; have n0_ := Aside0.mk (Kd.S_below HOR5.out hb); have n1_ := Aside0.mk (Kd.S_below HOR7.out hb); have n2_ := Aside0.mk (Kd.S_below HOR10.out hb); have n3_ := Aside0.mk (Kd.S_below HOR12.out hb); have n4_ := Aside0.mk (Kd.S_below HOR15.out hb); have n5_ := Aside0.mk (Kd.S_below HOR18.out hb); have n6_ := Aside0.mk (Kd.S_below HOR21.out hb); have n7_ := Aside0.mk (Kd.S_below HOR24.out hb); have n8_ := Aside0.mk (Kd.S_below HOR35.out hb); have n9_ := Aside0.mk (Kd.S_below HOR37.out hb); have n10_ := Aside0.mk (Nat.le_trans UPR5.out hb.size); have n11_ := Aside0.mk (Nat.le_trans UPR7.out hb.size); have n12_ := Aside0.mk (Nat.le_trans UPR10.out hb.size); have n13_ := Aside0.mk (Nat.le_trans UPR12.out hb.size); have n14_ := Aside0.mk (Nat.le_trans UPR15.out hb.size); have n15_ := Aside0.mk (Nat.le_trans UPR18.out hb.size); have n16_ := Aside0.mk (Nat.le_trans UPR21.out hb.size); have n17_ := Aside0.mk (Nat.le_trans UPR24.out hb.size); have n18_ := Aside0.mk (Nat.le_trans UPR35.out hb.size); have n19_ := Aside0.mk (Nat.le_trans UPR37.out hb.size); have n20_ := Aside0.mk (blk_below (g := gb1) BKgb1.out hb); have n21_ := Aside0.mk (blk_below (g := gb13) BKgb13.out hb); have n22_ := Aside0.mk (Nat.lt_of_lt_of_le GUgb1.out hb.size); have n23_ := Aside0.mk (Nat.lt_of_lt_of_le GUgb13.out hb.size); have n24_ := Aside0.mk (below_step HB.out hb); have n25_ := Aside0.mk (below_step HBM.out hb); have n26_ := Aside0.mk (Kd.S_lower (Kd.S_mono (ok' := fun k_ => loR40 ≤ k_ ∧ k_ < hiR40) (Kd.S_bound hoR40) (fun k_ hk_ => ⟨by rw [hloR40]; exact hk_.2.1, by rw [hhiR40]; exact hk_.2.2.1⟩)) (below_size HBM.out)); have n27_ := Aside0.mk (by rw [hhiR40]; exact Nat.le_refl _ : hiR40 ≤ w_25.heap.size); have n28_ := Aside0.mk (fun k_ h1_ h2_ => by have := UPR5.out; rw [← hloR40] at this; omega : ∀ k_, loR5 ≤ k_ ∧ k_ < hiR5 → ¬ (loR40 ≤ k_ ∧ k_ < hiR40)); have n29_ := Aside0.mk (fun k_ h1_ h2_ => by have := UPR5.out; rw [← hloR40] at this; omega : ∀ k_, loR40 ≤ k_ ∧ k_ < hiR40 → ¬ (loR5 ≤ k_ ∧ k_ < hiR5)); have n30_ := Aside0.mk (fun k_ h1_ h2_ => by have := UPR7.out; rw [← hloR40] at this; omega : ∀ k_, loR7 ≤ k_ ∧ k_ < hiR7 → ¬ (loR40 ≤ k_ ∧ k_ < hiR40)); have n31_ := Aside0.mk (fun k_ h1_ h2_ => by have := UPR7.out; rw [← hloR40] at this; omega : ∀ k_, loR40 ≤ k_ ∧ k_ < hiR40 → ¬ (loR7 ≤ k_ ∧ k_ < hiR7)); have n32_ := Aside0.mk (fun k_ h1_ h2_ => by have := UPR10.out; rw [← hloR40] at this; omega : ∀ k_, loR10 ≤ k_ ∧ k_ < hiR10 → ¬ (loR40 ≤ k_ ∧ k_ < hiR40)); have n33_ := Aside0.mk (fun k_ h1_ h2_ => by have := UPR10.out; rw [← hloR40] at this; omega : ∀ k_, loR40 ≤ k_ ∧ k_ < hiR40 → ¬ (loR10 ≤ k_ ∧ k_ < hiR10)); have n34_ := Aside0.mk (fun k_ h1_ h2_ => by have := UPR12.out; rw [← hloR40] at this; omega : ∀ k_, loR12 ≤ k_ ∧ k_ < hiR12 → ¬ (loR40 ≤ k_ ∧ k_ < hiR40)); have n35_ := Aside0.mk (fun k_ h1_ h2_ => by have := UPR12.out; rw [← hloR40] at this; omega : ∀ k_, loR40 ≤ k_ ∧ k_ < hiR40 → ¬ (loR12 ≤ k_ ∧ k_ < hiR12)); have n36_ := Aside0.mk (fun k_ h1_ h2_ => by have := UPR15.out; rw [← hloR40] at this; omega : ∀ k_, loR15 ≤ k_ ∧ k_ < hiR15 → ¬ (loR40 ≤ k_ ∧ k_ < hiR40)); have n37_ := Aside0.mk (fun k_ h1_ h2_ => by have := UPR15.out; rw [← hloR40] at this; omega : ∀ k_, loR40 ≤ k_ ∧ k_ < hiR40 → ¬ (loR15 ≤ k_ ∧ k_ < hiR15)); have n38_ := Aside0.mk (fun k_ h1_ h2_ => by have := UPR18.out; rw [← hloR40] at this; omega : ∀ k_, loR18 ≤ k_ ∧ k_ < hiR18 → ¬ (loR40 ≤ k_ ∧ k_ < hiR40)); have n39_ := Aside0.mk (fun k_ h1_ h2_ => by have := UPR18.out; rw [← hloR40] at this; omega : ∀ k_, loR40 ≤ k_ ∧ k_ < hiR40 → ¬ (loR18 ≤ k_ ∧ k_ < hiR18)); have n40_ := Aside0.mk (fun k_ h1_ h2_ => by have := UPR21.out; rw [← hloR40] at this; omega : ∀ k_, loR21 ≤ k_ ∧ k_ < hiR21 → ¬ (loR40 ≤ k_ ∧ k_ < hiR40)); have n41_ := Aside0.mk (fun k_ h1_ h2_ => by have := UPR21.out; rw [← hloR40] at this; omega : ∀ k_, loR40 ≤ k_ ∧ k_ < hiR40 → ¬ (loR21 ≤ k_ ∧ k_ < hiR21)); have n42_ := Aside0.mk (fun k_ h1_ h2_ => by have := UPR24.out; rw [← hloR40] at this; omega : ∀ k_, loR24 ≤ k_ ∧ k_ < hiR24 → ¬ (loR40 ≤ k_ ∧ k_ < hiR40)); have n43_ := Aside0.mk (fun k_ h1_ h2_ => by have := UPR24.out; rw [← hloR40] at this; omega : ∀ k_, loR40 ≤ k_ ∧ k_ < hiR40 → ¬ (loR24 ≤ k_ ∧ k_ < hiR24)); have n44_ := Aside0.mk (fun k_ h1_ h2_ => by have := UPR35.out; rw [← hloR40] at this; omega : ∀ k_, loR35 ≤ k_ ∧ k_ < hiR35 → ¬ (loR40 ≤ k_ ∧ k_ < hiR40)); have n45_ := Aside0.mk (fun k_ h1_ h2_ => by have := UPR35.out; rw [← hloR40] at this; omega : ∀ k_, loR40 ≤ k_ ∧ k_ < hiR40 → ¬ (loR35 ≤ k_ ∧ k_ < hiR35)); have n46_ := Aside0.mk (fun k_ h1_ h2_ => by have := UPR37.out; rw [← hloR40] at this; omega : ∀ k_, loR37 ≤ k_ ∧ k_ < hiR37 → ¬ (loR40 ≤ k_ ∧ k_ < hiR40)); have n47_ := Aside0.mk (fun k_ h1_ h2_ => by have := UPR37.out; rw [← hloR40] at this; omega : ∀ k_, loR40 ≤ k_ ∧ k_ < hiR40 → ¬ (loR37 ≤ k_ ∧ k_ < hiR37)); have n48_ := Aside0.mk (fun k_ hk_ => by have := GUgb1.out; rw [← hloR40] at this; omega : ∀ k_, loR40 ≤ k_ ∧ k_ < hiR40 → k_ ≠ gb1); have n49_ := Aside0.mk (fun k_ hk_ => by have := GUgb13.out; rw [← hloR40] at this; omega : ∀ k_, loR40 ≤ k_ ∧ k_ < hiR40 → k_ ≠ gb13); clear HOR5; clear HOR7; clear HOR10; clear HOR12; clear HOR15; clear HOR18; clear HOR21; clear HOR24; clear HOR35; clear HOR37; clear UPR5; clear UPR7; clear UPR10; clear UPR12; clear UPR15; clear UPR18; clear UPR21; clear UPR24; clear UPR35; clear UPR37; clear BKgb1; clear BKgb13; clear GUgb1; clear GUgb13; clear HB; clear HBM; have HOR5 := n0_; have HOR7 := n1_; have HOR10 := n2_; have HOR12 := n3_; have HOR15 := n4_; have HOR18 := n5_; have HOR21 := n6_; have HOR24 := n7_; have HOR35 := n8_; have HOR37 := n9_; have UPR5 := n10_; have UPR7 := n11_; have UPR10 := n12_; have UPR12 := n13_; have UPR15 := n14_; have UPR18 := n15_; have UPR21 := n16_; have UPR24 := n17_; have UPR35 := n18_; have UPR37 := n19_; have BKgb1 := n20_; have BKgb13 := n21_; have GUgb1 := n22_; have GUgb13 := n23_; have HB := n24_; have HBM := n25_; have HOR40 := n26_; have UPR40 := n27_; have NRR5_R40 := n28_; have NRR40_R5 := n29_; have NRR7_R40 := n30_; have NRR40_R7 := n31_; have NRR10_R40 := n32_; have NRR40_R10 := n33_; have NRR12_R40 := n34_; have NRR40_R12 := n35_; have NRR15_R40 := n36_; have NRR40_R15 := n37_; have NRR18_R40 := n38_; have NRR40_R18 := n39_; have NRR21_R40 := n40_; have NRR40_R21 := n41_; have NRR24_R40 := n42_; have NRR40_R24 := n43_; have NRR35_R40 := n44_; have NRR40_R35 := n45_; have NRR37_R40 := n46_; have NRR40_R37 := n47_; have NER40_gb1 := n48_; have NER40_gb13 := n49_; clear n0_ n1_ n2_ n3_ n4_ n5_ n6_ n7_ n8_ n9_ n10_ n11_ n12_ n13_ n14_ n15_ n16_ n17_ n18_ n19_ n20_ n21_ n22_ n23_ n24_ n25_ n26_ n27_ n28_ n29_ n30_ n31_ n32_ n33_ n34_ n35_ n36_ n37_ n38_ n39_ n40_ n41_ n42_ n43_ n44_ n45_ n46_ n47_ n48_ n49_; clear hb; clear hoR40 hloR40 hhiR40; obtain ⟨AR40, cR40, eqR40⟩ := Kd.S_slice HOR40.out; subst eqR40; (try clear hczgb1_0); (try clear hfzgb1_0); (try clear hczgb13_0); (try clear hfzgb13_0); have hczgb1_0 : w_25.cell? ⟨gb1, 0, none⟩ = some (.slice A0_0 l0_0.length c0_0) := (blk_cell BKgb1.out 0).trans rfl; have hfzgb1_0 := blk_frozen BKgb1.out 0; have hczgb13_0 : w_25.cell? ⟨gb13, 0, none⟩ = some (.slice AR12 t11.length cR12) := (blk_cell BKgb13.out 0).trans rfl; have hfzgb13_0 := blk_frozen BKgb13.out 0) | ((with_reducible refine gate_callee (f := 26) rfl ?_); refine goesL_ (some 109) rfl rfl Try.func26 (by kernel_rfl) rfl #[.slice AR40 t38.length cR40, .slice AR10 t8.length cR10] rfl (by (try simp only [List.map_toArray, List.map_cons, List.map_nil]); first | done | rfl) ?_; (with_reducible refine (laws_eqInt64SS.calls k _ _ t38 _ _ t8 true _ ?side1 ?side2 ?side3 ?side4 E32.out).mono ?_); (case side1 => exact (Kd.S_reads' HOR40.out).2.2); (case side2 => exact (Kd.S_reads' HOR40.out).2.1); (case side3 => exact (Kd.S_reads' HOR10.out).2.2); (case side4 => exact (Kd.S_reads' HOR10.out).2.1); rintro e w_26 ⟨rfl, hd⟩; have hb := Drawn0.below hd; refine ⟨_, rfl, ?_⟩; have n0_ := Aside0.mk (Kd.S_below HOR5.out hb); have n1_ := Aside0.mk (Kd.S_below HOR7.out hb); have n2_ := Aside0.mk (Kd.S_below HOR10.out hb); have n3_ := Aside0.mk (Kd.S_below HOR12.out hb); have n4_ := Aside0.mk (Kd.S_below HOR15.out hb); have n5_ := Aside0.mk (Kd.S_below HOR18.out hb); have n6_ := Aside0.mk (Kd.S_below HOR21.out hb); have n7_ := Aside0.mk (Kd.S_below HOR24.out hb); have n8_ := Aside0.mk (Kd.S_below HOR35.out hb); have n9_ := Aside0.mk (Kd.S_below HOR37.out hb); have n10_ := Aside0.mk (Kd.S_below HOR40.out hb); have n11_ := Aside0.mk (Nat.le_trans UPR5.out hb.size); have n12_ := Aside0.mk (Nat.le_trans UPR7.out hb.size); have n13_ := Aside0.mk (Nat.le_trans UPR10.out hb.size); have n14_ := Aside0.mk (Nat.le_trans UPR12.out hb.size); have n15_ := Aside0.mk (Nat.le_trans UPR15.out hb.size); have n16_ := Aside0.mk (Nat.le_trans UPR18.out hb.size); have n17_ := Aside0.mk (Nat.le_trans UPR21.out hb.size); have n18_ := Aside0.mk (Nat.le_trans UPR24.out hb.size); have n19_ := Aside0.mk (Nat.le_trans UPR35.out hb.size); have n20_ := Aside0.mk (Nat.le_trans UPR37.out hb.size); have n21_ := Aside0.mk (Nat.le_trans UPR40.out hb.size); have n22_ := Aside0.mk (blk_below (g := gb1) BKgb1.out hb); have n23_ := Aside0.mk (blk_below (g := gb13) BKgb13.out hb); have n24_ := Aside0.mk (Nat.lt_of_lt_of_le GUgb1.out hb.size); have n25_ := Aside0.mk (Nat.lt_of_lt_of_le GUgb13.out hb.size); have n26_ := Aside0.mk (below_step HB.out hb); have n27_ := Aside0.mk (below_step HBM.out hb); clear HOR5; clear HOR7; clear HOR10; clear HOR12; clear HOR15; clear HOR18; clear HOR21; clear HOR24; clear HOR35; clear HOR37; clear HOR40; clear UPR5; clear UPR7; clear UPR10; clear UPR12; clear UPR15; clear UPR18; clear UPR21; clear UPR24; clear UPR35; clear UPR37; clear UPR40; clear BKgb1; clear BKgb13; clear GUgb1; clear GUgb13; clear HB; clear HBM; have HOR5 := n0_; have HOR7 := n1_; have HOR10 := n2_; have HOR12 := n3_; have HOR15 := n4_; have HOR18 := n5_; have HOR21 := n6_; have HOR24 := n7_; have HOR35 := n8_; have HOR37 := n9_; have HOR40 := n10_; have UPR5 := n11_; have UPR7 := n12_; have UPR10 := n13_; have UPR12 := n14_; have UPR15 := n15_; have UPR18 := n16_; have UPR21 := n17_; have UPR24 := n18_; have UPR35 := n19_; have UPR37 := n20_; have UPR40 := n21_; have BKgb1 := n22_; have BKgb13 := n23_; have GUgb1 := n24_; have GUgb13 := n25_; have HB := n26_; have HBM := n27_; clear n0_ n1_ n2_ n3_ n4_ n5_ n6_ n7_ n8_ n9_ n10_ n11_ n12_ n13_ n14_ n15_ n16_ n17_ n18_ n19_ n20_ n21_ n22_ n23_ n24_ n25_ n26_ n27_; clear hb; clear hd; (try clear hczgb1_0); (try clear hfzgb1_0); (try clear hczgb13_0); (try clear hfzgb13_0); have hczgb1_0 : w_26.cell? ⟨gb1, 0, none⟩ = some (.slice A0_0 l0_0.length c0_0) := (blk_cell BKgb1.out 0).trans rfl; have hfzgb1_0 := blk_frozen BKgb1.out 0; have hczgb13_0 : w_26.cell? ⟨gb13, 0, none⟩ = some (.slice AR12 t11.length cR12) := (blk_cell BKgb13.out 0).trans rfl; have hfzgb13_0 := blk_frozen BKgb13.out 0) | ((with_reducible refine gate_callee (f := 28) rfl ?_); refine goesL_ (some 118) rfl rfl Try.func28 (by kernel_rfl) rfl #[.slice AR18 t32.length cR18, .int .i64 1] rfl (by (try simp only [List.map_toArray, List.map_cons, List.map_nil]); first | done | rfl | (simp only [show t32.length = t16.length from (Kd.S_reads' HOR18.out).1.symm]; rfl)) ?_; (with_reducible refine (laws_heldInt64SS.calls k _ _ t32 1 t42 _ ?side1 ?side2 E35.out).mono ?_); (case side1 => exact (Kd.S_reads' HOR18.out).2.2); (case side2 => exact (fun h_ => h_.1 ▸ h_.2.1) (Kd.S_reads' HOR18.out)); rintro e w_27 ⟨rfl, hd⟩; have hb := Drawn0.below hd; refine ⟨_, rfl, ?_⟩; have n0_ := Aside0.mk (Kd.S_below HOR5.out hb); have n1_ := Aside0.mk (Kd.S_below HOR7.out hb); have n2_ := Aside0.mk (Kd.S_below HOR10.out hb); have n3_ := Aside0.mk (Kd.S_below HOR12.out hb); have n4_ := Aside0.mk (Kd.S_below HOR15.out hb); have n5_ := Aside0.mk (Kd.S_below HOR18.out hb); have n6_ := Aside0.mk (Kd.S_below HOR21.out hb); have n7_ := Aside0.mk (Kd.S_below HOR24.out hb); have n8_ := Aside0.mk (Kd.S_below HOR35.out hb); have n9_ := Aside0.mk (Kd.S_below HOR37.out hb); have n10_ := Aside0.mk (Kd.S_below HOR40.out hb); have n11_ := Aside0.mk (Nat.le_trans UPR5.out hb.size); have n12_ := Aside0.mk (Nat.le_trans UPR7.out hb.size); have n13_ := Aside0.mk (Nat.le_trans UPR10.out hb.size); have n14_ := Aside0.mk (Nat.le_trans UPR12.out hb.size); have n15_ := Aside0.mk (Nat.le_trans UPR15.out hb.size); have n16_ := Aside0.mk (Nat.le_trans UPR18.out hb.size); have n17_ := Aside0.mk (Nat.le_trans UPR21.out hb.size); have n18_ := Aside0.mk (Nat.le_trans UPR24.out hb.size); have n19_ := Aside0.mk (Nat.le_trans UPR35.out hb.size); have n20_ := Aside0.mk (Nat.le_trans UPR37.out hb.size); have n21_ := Aside0.mk (Nat.le_trans UPR40.out hb.size); have n22_ := Aside0.mk (blk_below (g := gb1) BKgb1.out hb); have n23_ := Aside0.mk (blk_below (g := gb13) BKgb13.out hb); have n24_ := Aside0.mk (Nat.lt_of_lt_of_le GUgb1.out hb.size); have n25_ := Aside0.mk (Nat.lt_of_lt_of_le GUgb13.out hb.size); have n26_ := Aside0.mk (below_step HB.out hb); have n27_ := Aside0.mk (below_step HBM.out hb); clear HOR5; clear HOR7; clear HOR10; clear HOR12; clear HOR15; clear HOR18; clear HOR21; clear HOR24; clear HOR35; clear HOR37; clear HOR40; clear UPR5; clear UPR7; clear UPR10; clear UPR12; clear UPR15; clear UPR18; clear UPR21; clear UPR24; clear UPR35; clear UPR37; clear UPR40; clear BKgb1; clear BKgb13; clear GUgb1; clear GUgb13; clear HB; clear HBM; have HOR5 := n0_; have HOR7 := n1_; have HOR10 := n2_; have HOR12 := n3_; have HOR15 := n4_; have HOR18 := n5_; have HOR21 := n6_; have HOR24 := n7_; have HOR35 := n8_; have HOR37 := n9_; have HOR40 := n10_; have UPR5 := n11_; have UPR7 := n12_; have UPR10 := n13_; have UPR12 := n14_; have UPR15 := n15_; have UPR18 := n16_; have UPR21 := n17_; have UPR24 := n18_; have UPR35 := n19_; have UPR37 := n20_; have UPR40 := n21_; have BKgb1 := n22_; have BKgb13 := n23_; have GUgb1 := n24_; have GUgb13 := n25_; have HB := n26_; have HBM := n27_; clear n0_ n1_ n2_ n3_ n4_ n5_ n6_ n7_ n8_ n9_ n10_ n11_ n12_ n13_ n14_ n15_ n16_ n17_ n18_ n19_ n20_ n21_ n22_ n23_ n24_ n25_ n26_ n27_; clear hb; clear hd; (try clear hczgb1_0); (try clear hfzgb1_0); (try clear hczgb13_0); (try clear hfzgb13_0); have hczgb1_0 : w_27.cell? ⟨gb1, 0, none⟩ = some (.slice A0_0 l0_0.length c0_0) := (blk_cell BKgb1.out 0).trans rfl; have hfzgb1_0 := blk_frozen BKgb1.out 0; have hczgb13_0 : w_27.cell? ⟨gb13, 0, none⟩ = some (.slice AR12 t11.length cR12) := (blk_cell BKgb13.out 0).trans rfl; have hfzgb13_0 := blk_frozen BKgb13.out 0))
 go_ret
 exact ⟨by first | rfl | (simp; done) | (simp [*]; done), HB.out⟩
theorem laws_FnExactBlockErrors.walk (P : laws_FnExactBlockErrors.Pure) (A0_0 : Option Addr) (c0_0 : Nat) (l0_0 : List (List Int)) (A1 : Option Addr) (c1 : Nat) (l1 : List (List Int)) (a2 : Int) (w : World) (hr0_0 : Kd.C (Kd.slice 2 (Kd.int .i64)) w A0_0 l0_0.length l0_0) (hc0_0 : l0_0.length ≤ c0_0) (hr1 : Kd.C (Kd.slice 2 (Kd.int .i64)) w A1 l1.length l1) (hc1 : l1.length ≤ c1) (w0_0 : (l0_0.length ≤ maxLen ∧ ∀ y ∈ l0_0, (y.length ≤ maxLen ∧ ∀ y_ ∈ y, (Lit.int .i64 y_).wf = true))) (w1 : (l1.length ≤ maxLen ∧ ∀ y ∈ l1, (y.length ≤ maxLen ∧ ∀ y_ ∈ y, (Lit.int .i64 y_).wf = true))) (w2 : (Lit.int .i64 a2).wf = true) :
  Calls Try.prog 11 #[.agg #[.slice A0_0 l0_0.length c0_0], .slice A1 l1.length c1, .int .i64 a2] w fun e w' => e = .returned (.bool true) ∧ Below w.heap.size w w' := by
 obtain ⟨k, h⟩ := P l0_0 l1 a2 w0_0 w1 w2
 exact laws_FnExactBlockErrors.calls k A0_0 c0_0 l0_0 A1 c1 l1 a2 w hr0_0 hc0_0 hr1 hc1 h
end Go.Proofs.Ytgndemjphjhahaa.Q
namespace Go.Proofs.Ytgndemjphjhahaa.Com
open Go.RowKit Go.Proofs.YtgndemjphjhahaaW.PrintWords
theorem w64 {x : Int} (h1 : -9223372036854775808 ≤ x) (h2 : x ≤ 9223372036854775807) : wrap64 x = x := by
 unfold wrap64
 omega
theorem ev_of {α : Type} {g : Nat → Option α} {r : α} (h : Ev g r) : ∃ k, g k = some r := h.rounds
theorem ev_bind' {α β : Type} {o : Option α} {f : Nat → α → Option β} {a : α} {r : β} (h : o = some a) (k : Ev (fun n => f n a) r) : Ev (fun n => o.bind (f n)) r := by
 subst h
 exact k
theorem tdiv_nn {a b : Int} (h : 0 ≤ a) : Int.tdiv a b = a / b := Int.tdiv_eq_ediv_of_nonneg h
theorem tmod_nn {a b : Int} (h : 0 ≤ a) : Int.tmod a b = a % b := Int.tmod_eq_emod_of_nonneg h
end Go.Proofs.Ytgndemjphjhahaa.Com
namespace Go.Proofs.Ytgndemjphjhahaa.Com
set_option linter.unusedSimpArgs false
set_option linter.unusedVariables false
open Go.RowKit Go.Proofs.YtgndemjphjhahaaW.PrintWords
theorem ev_fold {α σ ρ : Type} (xs : List α) (g : Nat → σ → Nat → Option ρ) (F : List α → σ → ρ) (Inv : Nat → σ → Prop)
  (h0 : ∀ s, Inv xs.length s → Ev (g xs.length s) (F [] s))
  (hs : ∀ m (h : m < xs.length) s, Inv m s → (∀ s', Inv (m + 1) s' → Ev (g (m + 1) s') (F (xs.drop (m + 1)) s')) → Ev (g m s) (F (xs[m] :: xs.drop (m + 1)) s)) :
  ∀ m s, m ≤ xs.length → Inv m s → Ev (g m s) (F (xs.drop m) s) := by
 have key : ∀ d m s, m + d = xs.length → Inv m s → Ev (g m s) (F (xs.drop m) s) := by
  intro d
  induction d with
  | zero =>
   intro m s e hi
   obtain rfl : m = xs.length := by omega
   rw [List.drop_length]
   exact h0 s hi
  | succ d ih =>
   intro m s e hi
   have h : m < xs.length := by omega
   rw [List.drop_eq_getElem_cons h]
   exact hs m h s hi (fun s' hi' => ih (m + 1) s' (by omega) hi')
 intro m s hm hi
 exact key (xs.length - m) m s (by omega) hi
theorem ev_list {α ρ : Type} (xs : List α) (g : Nat → Nat → Option ρ) (F : List α → ρ) (h0 : Ev (g xs.length) (F []))
  (hs : ∀ m (h : m < xs.length), Ev (g (m + 1)) (F (xs.drop (m + 1))) → Ev (g m) (F (xs[m] :: xs.drop (m + 1)))) (m : Nat) (hm : m ≤ xs.length) : Ev (g m) (F (xs.drop m)) :=
 ev_fold xs (fun m (_ : Unit) => g m) (fun l _ => F l) (fun _ _ => True) (fun _ _ => h0) (fun m h _ _ ih => hs m h (ih () trivial)) m () hm trivial
theorem ev_count {σ ρ : Type} (n : Nat) (g : Nat → σ → Nat → Option ρ) (r : ρ) (Inv : Nat → σ → Prop) (h0 : ∀ s, Inv n s → Ev (g n s) r)
  (hs : ∀ m s, m < n → Inv m s → ∃ s', Inv (m + 1) s' ∧ (Ev (g (m + 1) s') r → Ev (g m s) r)) : ∀ m s, m ≤ n → Inv m s → Ev (g m s) r := by
 have key : ∀ d m s, m + d = n → Inv m s → Ev (g m s) r := by
  intro d
  induction d with
  | zero =>
   intro m s e hi
   obtain rfl : m = n := by omega
   exact h0 s hi
  | succ d ih =>
   intro m s e hi
   obtain ⟨s', hi', k⟩ := hs m s (by omega) hi
   exact k (ih (m + 1) s' (by omega) hi')
 intro m s hm hi
 exact key (n - m) m s (by omega) hi
theorem rd_nat {xs : List Int} {m : Nat} (h : m < xs.length) : rd xs (m : Int) = xs[m] := by
 unfold rd
 rw [Int.toNat_natCast, List.getD_eq_getElem?_getD, List.getElem?_eq_getElem h]
 rfl
theorem w_succ {m : Nat} (h : m < 9223372036854775807) : wrap64 ((m : Int) + 1) = ((m + 1 : Nat) : Int) := by
 rw [w64 (by omega) (by omega)]
 omega
end Go.Proofs.Ytgndemjphjhahaa.Com
namespace Go.Proofs.Ytgndemjphjhahaa.Com
set_option linter.unusedSimpArgs false
set_option linter.unusedVariables false
open Go.RowKit Go.Proofs.YtgndemjphjhahaaW.PrintWords Go.Proofs.Ytgndemjphjhahaa.Q
theorem set_take (xs : List Int) (m : Nat) (h : m < xs.length) : (xs.take m ++ List.replicate (xs.length - m) 0).set m xs[m] = xs.take (m + 1) ++ List.replicate (xs.length - (m + 1)) 0 := by
 have hl : (xs.take m).length = m := by rw [List.length_take]; omega
 rw [List.set_append_right _ _ (by omega), hl, Nat.sub_self]
 obtain ⟨q, hq⟩ : ∃ q, xs.length - m = q + 1 := ⟨xs.length - m - 1, by omega⟩
 rw [hq, List.replicate_succ, List.set_cons_zero, show xs.length - (m + 1) = q by omega, List.take_succ_eq_append_getElem h, List.append_assoc]
 rfl
theorem toInt64S_ev (xs : List Int) (hx : xs.length ≤ 1048576) : Ev (fun k => laws_toInt64S.f k xs) xs := by
 unfold laws_toInt64S.f
 simp only [if_pos (show 0 ≤ (xs.length : Int) by omega), if_pos (show ((xs.length : Int)).toNat ≤ 35184372088832 by omega)]
 have := ev_count xs.length (fun m s k => laws_toInt64S.l0 k xs s (m : Int)) xs (fun m s => s = xs.take m ++ List.replicate (xs.length - m) 0) (fun s hs => ?_) (fun m s hm hs => ⟨xs.take (m + 1) ++ List.replicate (xs.length - (m + 1)) 0, rfl, fun ih => ?_⟩) 0 (List.replicate xs.length 0) (by omega) (by simp)
 ·simpa using this
 ·refine Ev.step (fun k => by rw [laws_toInt64S.l0]) ?_
  simp only [if_neg (show ¬ (xs.length : Int) < (xs.length : Int) by omega)]
  subst hs
  simp
  exact Ev.now _
 ·refine Ev.step (fun k => by rw [laws_toInt64S.l0]) ?_
  subst hs
  have hl : (xs.take m ++ List.replicate (xs.length - m) 0).length = xs.length := by simp; omega
  simp only [if_pos (show (m : Int) < (xs.length : Int) by omega), if_pos (show 0 ≤ (m : Int) by omega), hl, rd_nat hm, Int.toNat_natCast, set_take xs m hm, w_succ (m := m) (by omega)]
  exact ih
theorem eqInt64S_ev (xs ys : List Int) (hx : xs.length ≤ 1048576) : Ev (fun k => laws_eqInt64S.f k xs ys) (decide (xs = ys)) := by
 unfold laws_eqInt64S.f
 by_cases hl : (xs.length : Int) = (ys.length : Int)
 ·simp only [if_pos hl]
  have key : ∀ m, m ≤ xs.length → Ev (fun k => laws_eqInt64S.l0 k xs ys (m : Int)) (decide (xs.drop m = ys.drop m)) := by
   have gen := ev_list xs (fun m k => laws_eqInt64S.l0 k xs ys (m : Int)) (fun l => decide (l = ys.drop (xs.length - l.length))) ?_ ?_
   ·intro m hm
    have := gen m hm
    rwa [List.length_drop, show xs.length - (xs.length - m) = m by omega] at this
   ·refine Ev.step (fun k => by rw [laws_eqInt64S.l0]) ?_
    simp only [if_neg (show ¬ (xs.length : Int) < (xs.length : Int) by omega)]
    have : ys.drop (xs.length - ([] : List Int).length) = [] := by simp; omega
    rw [this]
    exact Ev.now _
   ·intro m hm ih
    refine Ev.step (fun k => by rw [laws_eqInt64S.l0]) ?_
    have hy : m < ys.length := by omega
    simp only [if_pos (show (m : Int) < (xs.length : Int) by omega), if_pos (show 0 ≤ (m : Int) by omega), if_pos (show (m : Int) < (ys.length : Int) by omega), rd_nat hm, rd_nat hy, w_succ (m := m) (by omega)]
    rw [List.length_drop, show xs.length - (xs.length - (m + 1)) = m + 1 by omega] at ih
    have e : xs.length - (xs[m] :: xs.drop (m + 1)).length = m := by simp; omega
    rw [e, List.drop_eq_getElem_cons hy]
    by_cases c : xs[m] = ys[m]
    ·simp only [if_pos c]
     rw [show decide (xs[m] :: xs.drop (m + 1) = ys[m] :: ys.drop (m + 1)) = decide (xs.drop (m + 1) = ys.drop (m + 1)) from decide_eq_decide.2 (by rw [c]; exact ⟨fun h => (List.cons.inj h).2, fun h => by rw [h]⟩)]
     exact ih
    ·simp only [if_neg c]
     rw [decide_eq_false (show ¬ xs[m] :: xs.drop (m + 1) = ys[m] :: ys.drop (m + 1) from fun h => c (List.cons.inj h).1)]
     exact Ev.now _
  have := key 0 (by omega)
  simpa using this
 ·simp only [if_neg hl]
  have : xs ≠ ys := fun e => hl (by rw [e])
  rw [decide_eq_false this]
  exact Ev.now _
theorem sz_tells (xs : List Int) (a : Int) (hx : xs.length ≤ maxLen) (ha : -1 ≤ a ∧ a ≤ 1048576) : laws_szInt64S.f xs a = some (if a - xs.length < 0 then -1 else a - xs.length) := by
 unfold laws_szInt64S.f
 unfold maxLen at hx
 rw [w64 (by omega) (by omega)]
 split <;> rfl
end Go.Proofs.Ytgndemjphjhahaa.Com
namespace Go.Proofs.Ytgndemjphjhahaa.Com
set_option linter.unusedSimpArgs false
set_option linter.unusedVariables false
open Go.RowKit Go.Proofs.YtgndemjphjhahaaW.PrintWords Go.Proofs.Ytgndemjphjhahaa.Q
theorem in_tells (x a b : Int) : spec_l00In.f x a b = some (decide (a ≤ x ∧ x ≤ b)) := by
 unfold spec_l00In.f
 by_cases h : x ≥ a
 ·have h' : a ≤ x := h
  simp [h, h']
 ·have h' : ¬ a ≤ x := h
  simp [h, h']
end Go.Proofs.Ytgndemjphjhahaa.Com
namespace Go.Proofs.Ytgndemjphjhahaa.Com
set_option linter.unusedSimpArgs false
set_option linter.unusedVariables false
set_option linter.unusedSectionVars false
open Go.RowKit Go.Proofs.YtgndemjphjhahaaW.PrintWords Go.Proofs.YtgndemjphjhahaaW.PrintMore Go.Proofs.Ytgndemjphjhahaa.Q
theorem rdr_nat {xs : List (List Int)} {m : Nat} (h : m < xs.length) : rd_L3 xs (m : Int) = xs[m] := by
 unfold rd_L3
 rw [Int.toNat_natCast, List.getD_eq_getElem?_getD, List.getElem?_eq_getElem h]
 rfl
theorem setr_take (xs : List (List Int)) (m : Nat) (h : m < xs.length) : (xs.take m ++ List.replicate (xs.length - m) []).set m xs[m] = xs.take (m + 1) ++ List.replicate (xs.length - (m + 1)) [] := by
 have hl : (xs.take m).length = m := by rw [List.length_take]; omega
 rw [List.set_append_right _ _ (by omega), hl, Nat.sub_self]
 obtain ⟨q, hq⟩ : ∃ q, xs.length - m = q + 1 := ⟨xs.length - m - 1, by omega⟩
 rw [hq, List.replicate_succ, List.set_cons_zero, show xs.length - (m + 1) = q by omega, List.take_succ_eq_append_getElem h, List.append_assoc]
 rfl
theorem toInt64SS_ev (xs : List (List Int)) (hx : xs.length ≤ 1048576) (hr : ∀ x ∈ xs, x.length ≤ 1048576) : Ev (fun k => laws_toInt64SS.f k xs) xs := by
 unfold laws_toInt64SS.f
 simp only [if_pos (show 0 ≤ (xs.length : Int) by omega), if_pos (show ((xs.length : Int)).toNat ≤ 11728124029610 by omega)]
 have := ev_count xs.length (fun m s k => laws_toInt64SS.l0 k xs s (m : Int)) xs (fun m s => s = xs.take m ++ List.replicate (xs.length - m) []) (fun s hs => ?_) (fun m s hm hs => ⟨xs.take (m + 1) ++ List.replicate (xs.length - (m + 1)) [], rfl, fun ih => ?_⟩) 0 (List.replicate xs.length []) (by omega) (by simp)
 ·simpa using this
 ·refine Ev.step (fun k => by rw [laws_toInt64SS.l0]) ?_
  simp only [if_neg (show ¬ (xs.length : Int) < (xs.length : Int) by omega)]
  subst hs
  simp
  exact Ev.now _
 ·refine Ev.step (fun k => by rw [laws_toInt64SS.l0]) ?_
  subst hs
  have hl : (xs.take m ++ List.replicate (xs.length - m) []).length = xs.length := by simp; omega
  simp only [if_pos (show (m : Int) < (xs.length : Int) by omega), if_pos (show 0 ≤ (m : Int) by omega), hl, rdr_nat hm, w_succ (m := m) (by omega)]
  refine Ev.bind (toInt64S_ev xs[m] (hr _ (List.getElem_mem hm))) ?_
  simp only [Int.toNat_natCast, setr_take xs m hm]
  exact ih
theorem eqInt64SS_ev (xs : List (List Int)) (hx : xs.length ≤ 1048576) (hr : ∀ x ∈ xs, x.length ≤ 1048576) : Ev (fun k => laws_eqInt64SS.f k xs xs) true := by
 unfold laws_eqInt64SS.f
 simp only [if_true]
 have gen := ev_list xs (fun m k => laws_eqInt64SS.l0 k xs xs (m : Int)) (fun _ => true) ?_ ?_ 0 (by omega)
 ·exact gen
 ·refine Ev.step (fun k => by rw [laws_eqInt64SS.l0]) ?_
  simp only [if_neg (show ¬ (xs.length : Int) < (xs.length : Int) by omega)]
  exact Ev.now _
 ·intro m hm ih
  refine Ev.step (fun k => by rw [laws_eqInt64SS.l0]) ?_
  simp only [if_pos (show (m : Int) < (xs.length : Int) by omega), if_pos (show 0 ≤ (m : Int) by omega), rdr_nat hm, w_succ (m := m) (by omega)]
  refine Ev.bind (eqInt64S_ev xs[m] xs[m] (hr _ (List.getElem_mem hm))) ?_
  simp only [decide_true, if_true]
  exact ih
def szr (a : Int) : List (List Int) → Int
 | [] => a
 | x :: r => if a - x.length < 0 then -1 else szr (a - x.length) r
theorem szr_tells (l : List (List Int)) : ∀ a, a ≤ 1048576 → 0 ≤ szr a l → ∀ x ∈ l, x.length ≤ 1048576 := by
 induction l with
 | nil => intro a _ _ x hx; simp at hx
 | cons y r ih =>
  intro a ha h x hx
  unfold szr at h
  split at h
  ·omega
  ·rcases List.mem_cons.1 hx with rfl | hx
   ·omega
   ·exact ih _ (by omega) h x hx
theorem szr_ge (l : List (List Int)) : ∀ a, 0 ≤ a → -1 ≤ szr a l := by
 induction l with
 | nil => intro a h; unfold szr; omega
 | cons y r ih =>
  intro a h
  unfold szr
  split
  ·omega
  ·exact ih _ (by omega)
def rowOk (n : Nat) (b : Int) (x : List Int) : Bool := decide (x.length = n) && x.all fun z => decide (0 ≤ z ∧ z ≤ b)
def rowsForm (b : Int) (l : List (List Int)) : Bool := match l with
 | [] => false
 | y :: _ => decide (l.length ≤ 12) && decide (1 ≤ y.length ∧ y.length ≤ 12) && l.all (rowOk y.length b)
theorem areRows_tells (l : List (List Int)) (b : Int) : impl_areRows.f l b = some (rowsForm b l) := by
 cases l with
 | nil => rfl
 | cons y r =>
  unfold impl_areRows.f rowsForm
  simp only
  congr 1
  rw [List.not_any_eq_all_not]
  congr 2
  funext x
  unfold impl_areRows.p rowOk
  by_cases h : x.length = y.length <;> simp [h]
theorem form_ev (l : List (List Int)) (b : Int) (hx : l.length ≤ 1048576) (hr : ∀ x ∈ l, x.length ≤ 1048576) : Ev (fun k => spec_l09Form.f k l b) (rowsForm b l) := by
 have jf : Ev (fun k => spec_l09Form.j0 k l b true) false := Ev.step (fun k => by rw [spec_l09Form.j0]) (by simp only [if_true]; exact Ev.now _)
 unfold spec_l09Form.f
 cases l with
 | nil =>
  simp only [if_pos (show (([] : List (List Int)).length : Int) < 1 by decide)]
  exact jf
 | cons y r =>
  have e0 : rd_L3 (y :: r) 0 = y := rdr_nat (xs := y :: r) (m := 0) (by rw [List.length_cons]; omega)
  have hl : (y :: r).length = r.length + 1 := rfl
  simp only [if_neg (show ¬ ((y :: r).length : Int) < 1 by omega), if_pos (show 0 < ((y :: r).length : Int) by omega), e0]
  have ef : rowsForm b (y :: r) = (decide ((y :: r).length ≤ 12) && decide (1 ≤ y.length ∧ y.length ≤ 12) && (y :: r).all (rowOk y.length b)) := rfl
  by_cases h1 : ((y :: r).length : Int) > 12
  ·simp only [if_pos h1]
   rw [ef, decide_eq_false (show ¬ (y :: r).length ≤ 12 by omega), Bool.false_and, Bool.false_and]
   exact jf
  ·simp only [if_neg h1]
   rw [ef, decide_eq_true (show (y :: r).length ≤ 12 by omega), Bool.true_and]
   by_cases h2 : (y.length : Int) < 1
   ·simp only [if_pos h2]
    rw [decide_eq_false (show ¬ (1 ≤ y.length ∧ y.length ≤ 12) by omega), Bool.false_and]
    exact jf
   ·simp only [if_neg h2]
    by_cases h3 : (y.length : Int) > 12
    ·rw [decide_eq_true h3, decide_eq_false (show ¬ (1 ≤ y.length ∧ y.length ≤ 12) by omega), Bool.false_and]
     exact jf
    ·rw [decide_eq_false h3, decide_eq_true (show 1 ≤ y.length ∧ y.length ≤ 12 by omega), Bool.true_and]
     refine Ev.step (fun k => by rw [spec_l09Form.j0]) ?_
     simp only [Bool.false_eq_true, if_false]
     generalize y :: r = l at hx hr e0 hl h1
     have gen := ev_list l (fun m k => spec_l09Form.l0 k l b (m : Int)) (fun d => d.all (rowOk y.length b)) ?_ ?_ 0 (by omega)
     ·exact gen
     ·refine Ev.step (fun k => by rw [spec_l09Form.l0]) ?_
      simp only [if_neg (show ¬ (l.length : Int) < (l.length : Int) by omega), List.all_nil]
      exact Ev.now _
     ·intro m hm ih
      have hrm := hr _ (List.getElem_mem hm)
      refine Ev.step (fun k => by rw [spec_l09Form.l0]) ?_
      simp only [if_pos (show (m : Int) < (l.length : Int) by omega), if_pos (show 0 ≤ (m : Int) by omega), if_pos (show 0 < (l.length : Int) by omega), rdr_nat hm, e0]
      rw [List.all_cons]
      by_cases q : l[m].length = y.length
      ·simp only [if_pos (show (l[m].length : Int) = (y.length : Int) by omega)]
       have er : rowOk y.length b l[m] = l[m].all fun z => decide (0 ≤ z ∧ z ≤ b) := by unfold rowOk; rw [decide_eq_true q, Bool.true_and]
       rw [er]
       have gen := ev_list l[m] (fun j k => spec_l09Form.l1 k l b (m : Int) (j : Int)) (fun d => (d.all fun z => decide (0 ≤ z ∧ z ≤ b)) && (l.drop (m + 1)).all (rowOk y.length b)) ?_ ?_ 0 (by omega)
       ·exact gen
       ·refine Ev.step (fun k => by rw [spec_l09Form.l1]) ?_
        simp only [if_pos (show (m : Int) < (l.length : Int) by omega), if_pos (show 0 ≤ (m : Int) by omega), rdr_nat hm, if_neg (show ¬ (l[m].length : Int) < (l[m].length : Int) by omega), w_succ (m := m) (by omega), List.all_nil, Bool.true_and]
        exact ih
       ·intro j hj ih2
        refine Ev.step (fun k => by rw [spec_l09Form.l1]) ?_
        simp only [if_pos (show (m : Int) < (l.length : Int) by omega), if_pos (show 0 ≤ (m : Int) by omega), rdr_nat hm, if_pos (show (j : Int) < (l[m].length : Int) by omega), if_pos (show 0 ≤ (j : Int) by omega), rd_nat hj, in_tells, Option.bind_some, decide_eq_true_eq, w_succ (m := j) (by omega)]
        rw [List.all_cons]
        by_cases c : 0 ≤ l[m][j] ∧ l[m][j] ≤ b
        ·simp only [if_pos c]
         rw [decide_eq_true c, Bool.true_and]
         exact ih2
        ·simp only [if_neg c]
         rw [decide_eq_false c, Bool.false_and, Bool.false_and]
         exact Ev.now _
      ·simp only [if_neg (show ¬ (l[m].length : Int) = (y.length : Int) by omega)]
       have er : rowOk y.length b l[m] = false := by unfold rowOk; rw [decide_eq_false q, Bool.false_and]
       rw [er, Bool.false_and]
       exact Ev.now _
end Go.Proofs.Ytgndemjphjhahaa.Com
namespace Go.Proofs.Ytgndemjphjhahaa.Com
set_option linter.unusedSimpArgs false
set_option linter.unusedVariables false
open Go.RowKit Go.Proofs.YtgndemjphjhahaaW.PrintWords Go.Proofs.Ytgndemjphjhahaa.Q
def markL (n : Nat) (a : Int) : List Int := (List.range n).map fun (i : Nat) => a + (i : Int)
theorem markL_len (n : Nat) (a : Int) : (markL n a).length = n := by simp [markL]
theorem markL_at (n : Nat) (a : Int) (i : Nat) (h : i < (markL n a).length) : (markL n a)[i] = a + i := by simp [markL]
theorem markL_succ (n : Nat) (a : Int) : markL (n + 1) a = markL n a ++ [a + n] := by
 unfold markL
 rw [List.range_succ, List.map_append]
 rfl
theorem mark_set (xs : List Int) (m : Nat) (a : Int) (h : m < xs.length) : (markL m a ++ xs.drop m).set m (a + m) = markL (m + 1) a ++ xs.drop (m + 1) := by
 rw [List.set_append_right _ _ (by rw [markL_len]; omega), markL_len, Nat.sub_self, List.drop_eq_getElem_cons h, List.set_cons_zero, markL_succ, List.append_assoc]
 rfl
theorem markInt64S_ev (xs : List Int) (a : Int) (hx : xs.length ≤ 1048576) (ha : 0 ≤ a ∧ a ≤ 1000000000000) : Ev (fun k => laws_markInt64S.f k xs a) (a + xs.length, markL xs.length a) := by
 unfold laws_markInt64S.f
 have gen := ev_count xs.length (fun m (s : List Int × Int) k => laws_markInt64S.l0 k s.1 s.2 (m : Int)) (a + (xs.length : Int), markL xs.length a) (fun m s => s = (markL m a ++ xs.drop m, a + m)) ?_ ?_ 0 (xs, a) (by omega) (by simp [markL])
 ·exact gen
 ·rintro s rfl
  refine Ev.step (fun k => by rw [laws_markInt64S.l0]) ?_
  have hl : (markL xs.length a ++ xs.drop xs.length).length = xs.length := by rw [List.length_append, markL_len, List.length_drop]; omega
  rw [List.drop_length, List.append_nil] at hl ⊢
  simp only [hl, if_neg (show ¬ (xs.length : Int) < (xs.length : Int) by omega)]
  exact Ev.now _
 ·rintro m s hm rfl
  refine ⟨_, rfl, fun ih => ?_⟩
  refine Ev.step (fun k => by rw [laws_markInt64S.l0]) ?_
  have hl : (markL m a ++ xs.drop m).length = xs.length := by rw [List.length_append, markL_len, List.length_drop]; omega
  simp only [hl, if_pos (show (m : Int) < (xs.length : Int) by omega), if_pos (show 0 ≤ (m : Int) by omega), Int.toNat_natCast, mark_set xs m a hm, w_succ (m := m) (by omega)]
  rw [w64 (by omega) (by omega)]
  simp only at ih
  rwa [show a + ((m + 1 : Nat) : Int) = a + (m : Int) + 1 by omega] at ih
theorem heldInt64S_ev (n : Nat) (a : Int) (hx : n ≤ 1048576) (ha : 0 ≤ a ∧ a ≤ 1000000000000) : Ev (fun k => laws_heldInt64S.f k (markL n a) a) (a + n) := by
 unfold laws_heldInt64S.f
 have gen := ev_count n (fun m (s : Int) k => laws_heldInt64S.l0 k (markL n a) s (m : Int)) (a + (n : Int)) (fun m s => s = a + m) ?_ ?_ 0 a (by omega) (by simp)
 ·exact gen
 ·rintro s rfl
  refine Ev.step (fun k => by rw [laws_heldInt64S.l0]) ?_
  simp only [markL_len, if_neg (show ¬ (n : Int) < (n : Int) by omega)]
  exact Ev.now _
 ·rintro m s hm rfl
  refine ⟨_, rfl, fun ih => ?_⟩
  refine Ev.step (fun k => by rw [laws_heldInt64S.l0]) ?_
  have h : m < (markL n a).length := by rw [markL_len]; exact hm
  simp only [if_pos (show (m : Int) < ((markL n a).length : Int) by rw [markL_len]; omega), if_pos (show 0 ≤ (m : Int) by omega), rd_nat h, markL_at, if_true, w_succ (m := m) (by omega)]
  rw [w64 (by omega) (by omega)]
  rwa [show a + ((m + 1 : Nat) : Int) = a + (m : Int) + 1 by omega] at ih
end Go.Proofs.Ytgndemjphjhahaa.Com
namespace Go.Proofs.Ytgndemjphjhahaa.Com
set_option linter.unusedSimpArgs false
set_option linter.unusedVariables false
set_option linter.unusedSectionVars false
open Go.RowKit Go.Proofs.YtgndemjphjhahaaW.PrintWords Go.Proofs.YtgndemjphjhahaaW.PrintMore Go.Proofs.Ytgndemjphjhahaa.Q
def tot : List (List Int) → Int
 | [] => 0
 | x :: r => (x.length : Int) + tot r
theorem tot_nn (l : List (List Int)) : 0 ≤ tot l := by
 induction l with
 | nil => exact Int.le_refl _
 | cons x r ih => unfold tot; omega
theorem tot_le (l : List (List Int)) (c : Nat) (h : ∀ x ∈ l, x.length ≤ c) : tot l ≤ (l.length * c : Nat) := by
 induction l with
 | nil => simp [tot]
 | cons x r ih =>
  have h1 := h x (List.mem_cons_self ..)
  have h2 := ih (fun y hy => h y (List.mem_cons_of_mem _ hy))
  unfold tot
  rw [List.length_cons, Nat.add_mul, Nat.one_mul]
  omega
theorem tot_take (xs : List (List Int)) (m : Nat) (h : m < xs.length) : tot (xs.take (m + 1)) = tot (xs.take m) + xs[m].length := by
 induction xs generalizing m with
 | nil => simp at h
 | cons y r ih =>
  cases m with
  | zero => simp [tot]
  | succ m =>
   simp only [List.take_succ_cons, tot, List.getElem_cons_succ]
   rw [ih m (by simpa using h)]
   omega
theorem tot_take_le (xs : List (List Int)) (m : Nat) : tot (xs.take m) ≤ tot xs := by
 induction xs generalizing m with
 | nil => simp
 | cons y r ih =>
  cases m with
  | zero => simp [tot]; have := tot_nn r; omega
  | succ m => simp only [List.take_succ_cons, tot]; have := ih m; omega
theorem szr_tot (l : List (List Int)) : ∀ a, 0 ≤ szr a l → szr a l = a - tot l := by
 induction l with
 | nil => intro a _; simp [szr, tot]
 | cons y r ih =>
  intro a h
  unfold szr at h ⊢
  unfold tot
  split at h
  ·omega
  ·rename_i c
   rw [if_neg c, ih _ h]
   omega
theorem szSS_ev (l : List (List Int)) (a : Int) (ha : 0 ≤ a ∧ a ≤ 1048576) (hl : l.length ≤ maxLen) (hr : ∀ x ∈ l, x.length ≤ maxLen) :
  ∃ t, Ev (fun k => laws_szInt64SS.f k l a) t ∧ (t = -1 ∨ (0 ≤ t ∧ t ≤ a ∧ l.length ≤ 1048576 ∧ (∀ x ∈ l, x.length ≤ 1048576) ∧ tot l ≤ 1048576)) := by
 unfold laws_szInt64SS.f
 have hm : maxLen ≤ 9223372036854775807 := by decide
 rw [w64 (x := a - (l.length : Int)) (by omega) (by omega)]
 by_cases h : a - (l.length : Int) < 0
 ·refine ⟨-1, ?_, .inl rfl⟩
  simp only [if_pos h]
  exact Ev.now _
 ·refine ⟨szr (a - l.length) l, ?_, ?_⟩
  ·simp only [if_neg h]
   have gen := ev_fold l (fun m (s : Int) k => laws_szInt64SS.l0 k l s (m : Int)) (fun d s => szr s d) (fun m s => 0 ≤ s ∧ s ≤ 1048576) ?_ ?_ 0 (a - (l.length : Int)) (by omega) ⟨by omega, by omega⟩
   ·exact gen
   ·intro s _
    refine Ev.step (fun k => by rw [laws_szInt64SS.l0]) ?_
    simp only [if_neg (show ¬ (l.length : Int) < (l.length : Int) by omega)]
    exact Ev.now _
   ·rintro m hm s ⟨s0, s1⟩ k
    refine Ev.step (fun k => by rw [laws_szInt64SS.l0]) ?_
    simp only [if_pos (show (m : Int) < (l.length : Int) by omega), if_pos (show 0 ≤ (m : Int) by omega), rdr_nat hm, w_succ (m := m) (by omega), sz_tells l[m] s (hr _ (List.getElem_mem hm)) (by omega), Option.bind_some]
    unfold szr
    by_cases c : s - (l[m].length : Int) < 0
    ·simp only [if_pos c, if_pos (show (-1 : Int) < 0 by omega)]
     exact Ev.now _
    ·simp only [if_neg c]
     exact k _ ⟨by omega, by omega⟩
  ·by_cases c : szr (a - l.length) l < 0
   ·have := szr_ge l (a - l.length) (by omega)
    exact .inl (by omega)
   ·have e := szr_tot l (a - l.length) (by omega)
    have := tot_nn l
    exact .inr ⟨by omega, by omega, by omega, szr_tells l (a - (l.length : Int)) (by omega) (by omega), by omega⟩
def markLL : List (List Int) → Int → List (List Int)
 | [], _ => []
 | x :: r, a => markL x.length a :: markLL r (a + x.length)
theorem markLL_len (xs : List (List Int)) : ∀ a, (markLL xs a).length = xs.length := by
 induction xs with
 | nil => intro a; rfl
 | cons x r ih => intro a; simp [markLL, ih]
theorem markLL_snoc (xs : List (List Int)) (x : List Int) : ∀ a, markLL (xs ++ [x]) a = markLL xs a ++ [markL x.length (a + tot xs)] := by
 induction xs with
 | nil => intro a; simp [markLL, tot]
 | cons y r ih => intro a; simp only [List.cons_append, markLL, tot, ih]; rw [Int.add_assoc]
theorem markLL_at (xs : List (List Int)) : ∀ a (m : Nat) (h : m < (markLL xs a).length) (h' : m < xs.length), (markLL xs a)[m] = markL xs[m].length (a + tot (xs.take m)) := by
 induction xs with
 | nil => intro a m h h'; simp at h'
 | cons y r ih =>
  intro a m h h'
  cases m with
  | zero => simp [markLL, tot]
  | succ m =>
   simp only [markLL, List.getElem_cons_succ, List.take_succ_cons, tot]
   rw [ih _ m (by rw [markLL_len]; simpa using h') (by simpa using h'), Int.add_assoc]
theorem setll (A : List (List Int)) (xs : List (List Int)) (m : Nat) (h : m < xs.length) (hA : A.length = m) (y : List Int) : (A ++ xs.drop m).set m y = A ++ [y] ++ xs.drop (m + 1) := by
 rw [List.drop_eq_getElem_cons h, List.set_append_right _ _ (by omega), hA, Nat.sub_self, List.set_cons_zero, List.append_assoc]
 rfl
theorem markSS_ev (xs : List (List Int)) (a : Int) (hx : xs.length ≤ 1048576) (hr : ∀ x ∈ xs, x.length ≤ 1048576) (ha : 0 ≤ a) (hb : a + tot xs ≤ 1000000000000) : Ev (fun k => laws_markInt64SS.f k xs a) (a + tot xs, markLL xs a) := by
 unfold laws_markInt64SS.f
 refine ev_count xs.length (fun m (s : List (List Int) × Int) k => laws_markInt64SS.l0 k s.1 s.2 (m : Int)) _ (fun m s => s = (markLL (xs.take m) a ++ xs.drop m, a + tot (xs.take m))) ?_ ?_ 0 (xs, a) (by omega) (by simp [markLL, tot])
 ·rintro _ rfl
  refine Ev.step (fun k => by rw [laws_markInt64SS.l0]) ?_
  simp only [List.take_length, List.drop_length, List.append_nil, markLL_len, if_neg (show ¬ (xs.length : Int) < (xs.length : Int) by omega)]
  exact Ev.now _
 ·rintro m _ hm rfl
  refine ⟨_, rfl, fun ih => ?_⟩
  have hA : (markLL (xs.take m) a).length = m := by rw [markLL_len, List.length_take]; omega
  have hl : (markLL (xs.take m) a ++ xs.drop m).length = xs.length := by rw [List.length_append, hA, List.length_drop]; omega
  have e : rd_L3 (markLL (xs.take m) a ++ xs.drop m) (m : Int) = xs[m] := by
   rw [rdr_nat (by omega), List.getElem_append_right (by omega)]
   simp [hA]
  have t1 := tot_take xs m hm
  have t2 := tot_take_le xs (m + 1)
  have t3 := tot_nn (xs.take m)
  refine Ev.step (fun k => by rw [laws_markInt64SS.l0]) ?_
  simp only [hl, if_pos (show (m : Int) < (xs.length : Int) by omega), if_pos (show 0 ≤ (m : Int) by omega), e, w_succ (m := m) (by omega), Int.toNat_natCast]
  refine Ev.bind (markInt64S_ev xs[m] (a + tot (xs.take m)) (hr _ (List.getElem_mem hm)) (by omega)) ?_
  simp only
  rw [setll _ xs m hm hA, ← markLL_snoc, ← List.take_succ_eq_append_getElem hm, Int.add_assoc, ← t1]
  exact ih
theorem heldSS_ev (xs : List (List Int)) (a : Int) (hx : xs.length ≤ 1048576) (hr : ∀ x ∈ xs, x.length ≤ 1048576) (ha : 0 ≤ a) (hb : a + tot xs ≤ 1000000000000) : Ev (fun k => laws_heldInt64SS.f k (markLL xs a) a) (a + tot xs) := by
 unfold laws_heldInt64SS.f
 refine ev_count xs.length (fun m (s : Int) k => laws_heldInt64SS.l0 k (markLL xs a) s (m : Int)) _ (fun m s => s = a + tot (xs.take m)) ?_ ?_ 0 a (by omega) (by simp [tot])
 ·rintro _ rfl
  refine Ev.step (fun k => by rw [laws_heldInt64SS.l0]) ?_
  simp only [List.take_length, markLL_len, if_neg (show ¬ (xs.length : Int) < (xs.length : Int) by omega)]
  exact Ev.now _
 ·rintro m _ hm rfl
  refine ⟨_, rfl, fun ih => ?_⟩
  have e : rd_L3 (markLL xs a) (m : Int) = markL xs[m].length (a + tot (xs.take m)) := by
   rw [rdr_nat (by rw [markLL_len]; exact hm), markLL_at xs a m (by rw [markLL_len]; exact hm) hm]
  have t1 := tot_take xs m hm
  have t2 := tot_take_le xs (m + 1)
  have t3 := tot_nn (xs.take m)
  refine Ev.step (fun k => by rw [laws_heldInt64SS.l0]) ?_
  simp only [markLL_len, if_pos (show (m : Int) < (xs.length : Int) by omega), if_pos (show 0 ≤ (m : Int) by omega), e, w_succ (m := m) (by omega)]
  refine Ev.bind (heldInt64S_ev xs[m].length (a + tot (xs.take m)) (hr _ (List.getElem_mem hm)) (by omega)) ?_
  simp only [if_neg (show ¬ a + tot (xs.take m) + (xs[m].length : Int) < 0 by omega)]
  rw [Int.add_assoc, ← t1]
  exact ih
def grid0 (R C : Nat) : List (List Int) := List.replicate R (List.replicate C 0)
theorem square_ev (R C : Nat) (hR : R ≤ 1000000) (hC : C ≤ 1000000) : Ev (fun k => spec_l09Square.f k (R : Int) (C : Int)) (grid0 R C) := by
 unfold spec_l09Square.f
 refine ev_count R (fun m (s : List (List Int)) k => spec_l09Square.l0 k (R : Int) (C : Int) s (m : Int)) _ (fun m s => s = List.replicate m (List.replicate C 0)) ?_ ?_ 0 [] (by omega) rfl
 ·rintro _ rfl
  refine Ev.step (fun k => by rw [spec_l09Square.l0]) ?_
  simp only [if_neg (show ¬ (R : Int) < (R : Int) by omega)]
  exact Ev.now _
 ·rintro m _ hm rfl
  refine ⟨_, rfl, fun ih => ?_⟩
  refine Ev.step (fun k => by rw [spec_l09Square.l0]) ?_
  simp only [if_pos (show (m : Int) < (R : Int) by omega), if_pos (show 0 ≤ (C : Int) by omega), Int.toNat_natCast, if_pos (show C ≤ 35184372088832 by omega), List.length_replicate, if_pos (show m < 5864062014805 by omega), w_succ (m := m) (by omega)]
  rw [← List.replicate_succ']
  exact ih
theorem noughts_ev (R C : Nat) (hR : R ≤ 1000000) (hC : C ≤ 1000000) : Ev (fun k => impl_noughts.f k (R : Int) (C : Int)) (grid0 R C) := by
 unfold impl_noughts.f
 simp only [if_pos (show 0 ≤ (R : Int) by omega), Int.toNat_natCast, if_pos (show R ≤ 11728124029610 by omega), Option.bind_some, List.length_replicate]
 refine ev_count R (fun m (s : List (List Int)) k => impl_noughts.l0 k (C : Int) s (R : Int) (m : Int)) _ (fun m s => s = List.replicate m (List.replicate C 0) ++ List.replicate (R - m) []) ?_ ?_ 0 _ (by omega) (by simp)
 ·rintro _ rfl
  refine Ev.step (fun k => by rw [impl_noughts.l0]) ?_
  simp only [if_neg (show ¬ (R : Int) < (R : Int) by omega), Nat.sub_self, List.replicate_zero, List.append_nil]
  exact Ev.now _
 ·rintro m _ hm rfl
  refine ⟨_, rfl, fun ih => ?_⟩
  refine Ev.step (fun k => by rw [impl_noughts.l0]) ?_
  have hl : (List.replicate m (List.replicate C (0 : Int)) ++ List.replicate (R - m) []).length = R := by simp; omega
  simp only [hl, if_pos (show (m : Int) < (R : Int) by omega), if_pos (show 0 ≤ (C : Int) by omega), Int.toNat_natCast, if_pos (show C ≤ 35184372088832 by omega), if_pos (show 0 ≤ (m : Int) by omega), w_succ (m := m) (by omega)]
  have es : (List.replicate m (List.replicate C (0 : Int)) ++ List.replicate (R - m) []).set m (List.replicate C 0) = List.replicate (m + 1) (List.replicate C 0) ++ List.replicate (R - (m + 1)) [] := by
   obtain ⟨q, hq⟩ : ∃ q, R - m = q + 1 := ⟨R - m - 1, by omega⟩
   rw [List.set_append_right _ _ (by simp), List.length_replicate, Nat.sub_self, hq, List.replicate_succ, List.set_cons_zero, List.replicate_succ', show R - (m + 1) = q by omega, List.append_assoc]
   rfl
  rw [es]
  exact ih
def Grid (R C : Nat) (g : List (List Int)) : Prop := g.length = R ∧ ∀ x ∈ g, x.length = C
theorem grid0_is (R C : Nat) : Grid R C (grid0 R C) := ⟨by simp [grid0], fun x hx => by unfold grid0 at hx; rw [List.eq_of_mem_replicate hx, List.length_replicate]⟩
theorem Grid.row {R C : Nat} {g : List (List Int)} (h : Grid R C g) {i : Nat} (hi : i < R) : i < g.length ∧ ∀ (h' : i < g.length), g[i].length = C := ⟨by rw [h.1]; exact hi, fun h' => h.2 _ (List.getElem_mem h')⟩
theorem Grid.rd {R C : Nat} {g : List (List Int)} (h : Grid R C g) {i : Nat} (hi : i < R) : (rd_L3 g (i : Int)).length = C := by
 rw [rdr_nat (h.row hi).1]
 exact (h.row hi).2 _
theorem Grid.put {R C : Nat} {g : List (List Int)} (h : Grid R C g) {i : Nat} (j : Nat) (v : Int) (hi : i < R) : Grid R C (g.set i ((rd_L3 g (i : Int)).set j v)) := by
 refine ⟨by rw [List.length_set]; exact h.1, fun x hx => ?_⟩
 rcases List.mem_or_eq_of_mem_set hx with hx | hx
 ·exact h.2 x hx
 ·rw [hx, List.length_set]; exact h.rd hi
def forTo {σ : Type} (step : Nat → σ → σ) : Nat → Nat → σ → σ
 | _, 0, s => s
 | m, d + 1, s => forTo step (m + 1) d (step m s)
theorem ev_for {σ ρ : Type} (n : Nat) (g : Nat → σ → Nat → Option ρ) (step : Nat → σ → σ) (Inv : Nat → σ → Prop) (r : ρ)
  (hi : ∀ m s, m < n → Inv m s → Inv (m + 1) (step m s)) (hs : ∀ m s, m < n → Inv m s → Ev (g (m + 1) (step m s)) r → Ev (g m s) r) :
  ∀ d m s, m + d = n → Inv m s → Inv n (forTo step m d s) ∧ (Ev (g n (forTo step m d s)) r → Ev (g m s) r) := by
 intro d
 induction d with
 | zero =>
  intro m s e h
  obtain rfl : m = n := by omega
  exact ⟨h, id⟩
 | succ d ih =>
  intro m s e h
  have h' := hi m s (by omega) h
  obtain ⟨a, b⟩ := ih (m + 1) (step m s) (by omega) h'
  exact ⟨a, fun k => hs m s (by omega) h (b k)⟩
end Go.Proofs.Ytgndemjphjhahaa.Com
namespace Go.Proofs.Ytgndemjphjhahaa.Com
set_option linter.unusedSimpArgs false
set_option linter.unusedVariables false
set_option linter.unusedSectionVars false
open Go.RowKit Go.Proofs.YtgndemjphjhahaaW.PrintWords Go.Proofs.YtgndemjphjhahaaW.PrintMore Go.Proofs.Ytgndemjphjhahaa.Q
theorem rowsForm_is {b : Int} {l : List (List Int)} (h : rowsForm b l = true) :
  ∃ R C : Nat, 1 ≤ R ∧ R ≤ 12 ∧ 1 ≤ C ∧ C ≤ 12 ∧ Grid R C l ∧ (rd_L3 l 0).length = C ∧ ∀ x ∈ l, ∀ z ∈ x, 0 ≤ z ∧ z ≤ b := by
 cases l with
 | nil => simp [rowsForm] at h
 | cons y r =>
  have ef : rowsForm b (y :: r) = (decide ((y :: r).length ≤ 12) && decide (1 ≤ y.length ∧ y.length ≤ 12) && (y :: r).all (rowOk y.length b)) := rfl
  rw [ef] at h
  simp only [Bool.and_eq_true, decide_eq_true_eq, List.all_eq_true] at h
  obtain ⟨⟨h1, h2⟩, h3⟩ := h
  have e0 : rd_L3 (y :: r) 0 = y := rdr_nat (xs := y :: r) (m := 0) (by rw [List.length_cons]; omega)
  refine ⟨(y :: r).length, y.length, by rw [List.length_cons]; omega, h1, h2.1, h2.2, ⟨rfl, fun x hx => ?_⟩, by rw [e0], fun x hx z hz => ?_⟩
  ·have := h3 x hx
   unfold rowOk at this
   simp only [Bool.and_eq_true, decide_eq_true_eq] at this
   exact this.1
  ·have := h3 x hx
   unfold rowOk at this
   simp only [Bool.and_eq_true, decide_eq_true_eq, List.all_eq_true] at this
   exact this.2 z hz
theorem tdn (i n : Nat) (h : i ≤ 1000000) : wrap64 (Int.tdiv (i : Int) (n : Int)) = ((i / n : Nat) : Int) := by
 rw [tdiv_nn (by omega), ← Int.natCast_ediv]
 have := Nat.div_le_self i n
 generalize i / n = q at this ⊢
 exact w64 (by omega) (by omega)
def beStep (p d : List (List Int)) (n i j : Nat) (g : List (List Int)) : List (List Int) :=
 g.set (i / n) ((rd_L3 g ((i / n : Nat) : Int)).set (j / n) (wrap64 (rd (rd_L3 g ((i / n : Nat) : Int)) ((j / n : Nat) : Int) + wrap64 (rd (rd_L3 p (i : Int)) (j : Int) - wrap64 (255 * rd (rd_L3 d (i : Int)) (j : Int))))))
def beRow (p d : List (List Int)) (n C i : Nat) (g : List (List Int)) : List (List Int) := forTo (beStep p d n i) 0 C g
def beAll (p d : List (List Int)) (n R C : Nat) : List (List Int) := forTo (beRow p d n C) 0 R (grid0 (R / n) (C / n))
theorem div_lt_div {i R n : Nat} (hn : 0 < n) (hd : n ∣ R) (h : i < R) : i / n < R / n := (Nat.div_lt_iff_lt_mul hn).2 (by rw [Nat.div_mul_cancel hd]; exact h)
section
variable {p d : List (List Int)} {R C n : Nat} (hR : 1 ≤ R ∧ R ≤ 12) (hC : 1 ≤ C ∧ C ≤ 12) (hp : Grid R C p) (hd : Grid R C d) (hn : 0 < n) (dR : n ∣ R) (dC : n ∣ C)
include hR hC hp hd hn dR dC
theorem beStep_is {g : List (List Int)} {i : Nat} (j : Nat) (h : Grid (R / n) (C / n) g) (hi : i < R) : Grid (R / n) (C / n) (beStep p d n i j g) := h.put _ _ (div_lt_div hn dR hi)
theorem specInner_ev (r : List (List Int) × Bool) (i : Nat) (hi : i < R) (g : List (List Int)) (hg : Grid (R / n) (C / n) g) :
  Grid (R / n) (C / n) (beRow p d n C i g) ∧ (Ev (fun k => spec_BlockErrors.l0 k d (n : Int) (R : Int) (C : Int) (beRow p d n C i g) ((i + 1 : Nat) : Int) p) r → Ev (fun k => spec_BlockErrors.l1 k d (n : Int) (R : Int) (C : Int) g (i : Int) ((0 : Nat) : Int) p) r) := by
 have key := ev_for C (fun j s k => spec_BlockErrors.l1 k d (n : Int) (R : Int) (C : Int) s (i : Int) (j : Int) p) (beStep p d n i) (fun _ s => Grid (R / n) (C / n) s) r
  (fun j s hj hs => beStep_is hR hC hp hd hn dR dC j hs hi) (fun j s hj hs ih => ?_) C 0 g (by omega) hg
 ·refine ⟨key.1, fun h => key.2 ?_⟩
  refine Ev.step (fun k => by rw [spec_BlockErrors.l1]) ?_
  simp only [if_neg (show ¬ (C : Int) < (C : Int) by omega), w_succ (m := i) (by omega)]
  exact h
 ·have a1 := div_lt_div hn dR hi
  have a2 := div_lt_div hn dC hj
  refine Ev.step (fun k => by rw [spec_BlockErrors.l1]) ?_
  simp only [if_pos (show (j : Int) < (C : Int) by omega), if_neg (show ¬ (n : Int) = 0 by omega), tdn i n (by omega), tdn j n (by omega), if_pos (show 0 ≤ ((i / n : Nat) : Int) from Int.natCast_nonneg _), if_pos (show 0 ≤ ((j / n : Nat) : Int) from Int.natCast_nonneg _), hs.1, hs.rd a1, if_pos (show ((i / n : Nat) : Int) < ((R / n : Nat) : Int) from Int.ofNat_lt.2 a1), if_pos (show ((j / n : Nat) : Int) < ((C / n : Nat) : Int) from Int.ofNat_lt.2 a2), if_pos (show 0 ≤ (i : Int) by omega), if_pos (show 0 ≤ (j : Int) by omega), hp.1, hd.1, hp.rd hi, hd.rd hi, if_pos (show (i : Int) < (R : Int) by omega), w_succ (m := j) (by omega), Int.toNat_natCast]
  exact ih
theorem specBlock_ev : Ev (fun k => spec_BlockErrors.l0 k d (n : Int) (R : Int) (C : Int) (grid0 (R / n) (C / n)) 0 p) (beAll p d n R C, true) := by
 have key := ev_for R (fun i s k => spec_BlockErrors.l0 k d (n : Int) (R : Int) (C : Int) s (i : Int) p) (beRow p d n C) (fun _ s => Grid (R / n) (C / n) s) (beAll p d n R C, true)
  (fun i s hi hs => (specInner_ev hR hC hp hd hn dR dC ([], true) i hi s hs).1) (fun i s hi hs ih => ?_) R 0 (grid0 (R / n) (C / n)) (by omega) (grid0_is _ _)
 ·refine key.2 (Ev.step (fun k => by rw [spec_BlockErrors.l0]) ?_)
  simp only [if_neg (show ¬ (R : Int) < (R : Int) by omega)]
  exact Ev.now _
 ·refine Ev.step (fun k => by rw [spec_BlockErrors.l0]) ?_
  simp only [if_pos (show (i : Int) < (R : Int) by omega)]
  exact (specInner_ev hR hC hp hd hn dR dC _ i hi s hs).2 ih
theorem implInner_ev (r : List (List Int) × Bool) (i : Nat) (hi : i < R) (g : List (List Int)) (hg : Grid (R / n) (C / n) g) :
  Ev (fun k => impl_BlockErrors.l0 k d (n : Int) (beRow p d n C i g) p (R : Int) ((i + 1 : Nat) : Int)) r → Ev (fun k => impl_BlockErrors.l1 k d (n : Int) g (i : Int) p (R : Int) (i : Int) (rd_L3 p (i : Int)) (C : Int) ((0 : Nat) : Int)) r := by
 have key := ev_for C (fun j s k => impl_BlockErrors.l1 k d (n : Int) s (i : Int) p (R : Int) (i : Int) (rd_L3 p (i : Int)) (C : Int) (j : Int)) (beStep p d n i) (fun _ s => Grid (R / n) (C / n) s) r
  (fun j s hj hs => beStep_is hR hC hp hd hn dR dC j hs hi) (fun j s hj hs ih => ?_) C 0 g (by omega) hg
 ·refine fun h => key.2 ?_
  refine Ev.step (fun k => by rw [impl_BlockErrors.l1]) ?_
  simp only [if_neg (show ¬ (C : Int) < (C : Int) by omega), w_succ (m := i) (by omega)]
  exact h
 ·have a1 := div_lt_div hn dR hi
  have a2 := div_lt_div hn dC hj
  refine Ev.step (fun k => by rw [impl_BlockErrors.l1]) ?_
  simp only [if_pos (show (j : Int) < (C : Int) by omega), if_neg (show ¬ (n : Int) = 0 by omega), tdn i n (by omega), tdn j n (by omega), if_pos (show 0 ≤ ((i / n : Nat) : Int) from Int.natCast_nonneg _), if_pos (show 0 ≤ ((j / n : Nat) : Int) from Int.natCast_nonneg _), hs.1, hs.rd a1, if_pos (show ((i / n : Nat) : Int) < ((R / n : Nat) : Int) from Int.ofNat_lt.2 a1), if_pos (show ((j / n : Nat) : Int) < ((C / n : Nat) : Int) from Int.ofNat_lt.2 a2), if_pos (show 0 ≤ (i : Int) by omega), if_pos (show 0 ≤ (j : Int) by omega), hp.1, hd.1, hp.rd hi, hd.rd hi, if_pos (show (i : Int) < (R : Int) by omega), w_succ (m := j) (by omega), Int.toNat_natCast, Int.mul_comm _ 255]
  exact ih
theorem implBlock_ev : Ev (fun k => impl_BlockErrors.l0 k d (n : Int) (grid0 (R / n) (C / n)) p (R : Int) 0) (beAll p d n R C, true) := by
 have key := ev_for R (fun i s k => impl_BlockErrors.l0 k d (n : Int) s p (R : Int) (i : Int)) (beRow p d n C) (fun _ s => Grid (R / n) (C / n) s) (beAll p d n R C, true)
  (fun i s hi hs => (specInner_ev hR hC hp hd hn dR dC ([], true) i hi s hs).1) (fun i s hi hs ih => ?_) R 0 (grid0 (R / n) (C / n)) (by omega) (grid0_is _ _)
 ·refine key.2 (Ev.step (fun k => by rw [impl_BlockErrors.l0]) ?_)
  simp only [if_neg (show ¬ (R : Int) < (R : Int) by omega)]
  exact Ev.now _
 ·refine Ev.step (fun k => by rw [impl_BlockErrors.l0]) ?_
  simp only [if_pos (show (i : Int) < (R : Int) by omega), if_pos (show 0 ≤ (i : Int) by omega), hp.1, hp.rd hi]
  exact implInner_ev hR hC hp hd hn dR dC _ i hi s hs ih
theorem beAll_is : Grid (R / n) (C / n) (beAll p d n R C) :=
 (ev_for R (fun i s k => (none : Option Unit)) (beRow p d n C) (fun _ s => Grid (R / n) (C / n) s) ()
  (fun i s hi hs => (specInner_ev hR hC hp hd hn dR dC ([], true) i hi s hs).1) (fun i s hi hs ih => ih) R 0 (grid0 (R / n) (C / n)) (by omega) (grid0_is _ _)).1
end
def blockOk (p d : List (List Int)) (s : Int) : Prop := rowsForm 255 p = true ∧ rowsForm 1 d = true ∧ d.length = p.length ∧ (rd_L3 d 0).length = (rd_L3 p 0).length ∧ ¬ s < 1 ∧ (d.length : Int) % s = 0 ∧ ((rd_L3 d 0).length : Int) % s = 0
open Classical in
noncomputable def blockOf (p d : List (List Int)) (s : Int) : List (List Int) × Bool := if blockOk p d s then (beAll p d s.toNat p.length (rd_L3 p 0).length, true) else ([], false)
theorem blockOk_is {p d : List (List Int)} {s : Int} (h : blockOk p d s) : ∃ R C n : Nat, (1 ≤ R ∧ R ≤ 12) ∧ (1 ≤ C ∧ C ≤ 12) ∧ Grid R C p ∧ Grid R C d ∧ (rd_L3 p 0).length = C ∧ (rd_L3 d 0).length = C ∧ s = n ∧ 0 < n ∧ n ∣ R ∧ n ∣ C := by
 obtain ⟨v1, v2, q1, q2, q3, q4, q5⟩ := h
 obtain ⟨R, C, R1, R2, C1, C2, gp, cp, _⟩ := rowsForm_is v1
 obtain ⟨R', C', R1', R2', C1', C2', gd, cd, _⟩ := rowsForm_is v2
 obtain ⟨n, rfl⟩ := Int.eq_ofNat_of_zero_le (show 0 ≤ s by omega)
 have a1 := gp.1
 have a2 := gd.1
 obtain rfl : R' = R := by omega
 obtain rfl : C' = C := by omega
 refine ⟨R', C', n, ⟨R1, R2⟩, ⟨C1, C2⟩, gp, gd, cp, cd, rfl, by omega, ?_, ?_⟩
 ·rw [a2, ← Int.natCast_emod] at q4
  exact Nat.dvd_of_mod_eq_zero (by omega)
 ·rw [cd, ← Int.natCast_emod] at q5
  exact Nat.dvd_of_mod_eq_zero (by omega)
theorem specBlockNo (p d : List (List Int)) (s : Int) : Ev (fun k => spec_BlockErrors.j0 k d s true p) ([], false) := Ev.step (fun k => by rw [spec_BlockErrors.j0]) (by simp only [if_true]; exact Ev.now _)
theorem implBlockNo (p d : List (List Int)) (s : Int) : Ev (fun k => impl_BlockErrors.j0 k d s true p) ([], false) := Ev.step (fun k => by rw [impl_BlockErrors.j0]) (by simp only [if_true]; exact Ev.now _)
theorem specJ0 (p d : List (List Int)) (s : Int) (v1 : rowsForm 255 p = true) (v2 : rowsForm 1 d = true) (q1 : d.length = p.length) (q2 : (rd_L3 d 0).length = (rd_L3 p 0).length) : Ev (fun k => spec_BlockErrors.j0 k d s false p) (blockOf p d s) := by
 obtain ⟨R, C, R1, R2, C1, C2, gd, cd, _⟩ := rowsForm_is v2
 refine Ev.step (fun k => by rw [spec_BlockErrors.j0]) ?_
 simp only [Bool.false_eq_true, if_false, gd.1, cd, if_pos (show 0 < (R : Int) by omega)]
 have no3 : Ev (fun k => spec_BlockErrors.j1 k d s (R : Int) (C : Int) true p) ([], false) := Ev.step (fun k => by rw [spec_BlockErrors.j1]) (by simp only [if_true]; exact Ev.now _)
 by_cases q3 : s < 1
 ·rw [show blockOf p d s = ([], false) from if_neg (fun h => h.2.2.2.2.1 q3)]
  simp only [if_pos q3]
  exact no3
 ·simp only [if_neg q3, if_neg (show ¬ s = 0 by omega)]
  by_cases q4 : (R : Int) % s = 0
  ·simp only [if_pos q4]
   by_cases q5 : (C : Int) % s = 0
   ·have ok : blockOk p d s := ⟨v1, v2, q1, q2, q3, by rw [gd.1]; exact q4, by rw [cd]; exact q5⟩
    rw [show blockOf p d s = (beAll p d s.toNat p.length (rd_L3 p 0).length, true) from if_pos ok]
    obtain ⟨R', C', n, hR, hC, gp', gd', cp', cd', rfl, hn, dR, dC⟩ := blockOk_is ok
    have a1 := gd.1
    have a2 := gd'.1
    obtain rfl : R' = R := by omega
    obtain rfl : C' = C := by omega
    rw [gp'.1, cp', Int.toNat_natCast, show ((C' : Int) % (n : Int) != 0) = false from by rw [q5]; rfl]
    refine Ev.step (fun k => by rw [spec_BlockErrors.j1]) ?_
    simp only [Bool.false_eq_true, if_false, if_neg (show ¬ (n : Int) = 0 by omega), tdn R' n (by omega), tdn C' n (by omega)]
    have b1 := Nat.div_le_self R' n
    have b2 := Nat.div_le_self C' n
    exact Ev.bind (square_ev (R' / n) (C' / n) (by omega) (by omega)) (specBlock_ev hR hC gp' gd hn dR dC)
   ·rw [show blockOf p d s = ([], false) from if_neg (fun h => q5 (by have := h.2.2.2.2.2.2; rwa [cd] at this)), show ((C : Int) % s != 0) = true from by simpa using q5]
    exact no3
  ·rw [show blockOf p d s = ([], false) from if_neg (fun h => q4 (by have := h.2.2.2.2.2.1; rwa [gd.1] at this))]
   simp only [if_neg q4]
   exact no3
theorem implJ0 (p d : List (List Int)) (s : Int) (v1 : rowsForm 255 p = true) (v2 : rowsForm 1 d = true) (q1 : d.length = p.length) (q2 : (rd_L3 d 0).length = (rd_L3 p 0).length) : Ev (fun k => impl_BlockErrors.j0 k d s false p) (blockOf p d s) := by
 obtain ⟨R, C, R1, R2, C1, C2, gd, cd, _⟩ := rowsForm_is v2
 refine Ev.step (fun k => by rw [impl_BlockErrors.j0]) ?_
 have no4 : Ev (fun k => impl_BlockErrors.j1 k d s true p) ([], false) := Ev.step (fun k => by rw [impl_BlockErrors.j1]) (by simp only [if_true]; exact Ev.now _)
 simp only [Bool.false_eq_true, if_false]
 by_cases q3 : s < 1
 ·rw [show blockOf p d s = ([], false) from if_neg (fun h => h.2.2.2.2.1 q3)]
  simp only [if_pos q3]
  exact no4
 ·simp only [if_neg q3]
  refine ev_bind' (show impl_size_int64_83.f d = some (R : Int) from by unfold impl_size_int64_83.f; rw [gd.1]) ?_
  simp only [if_neg (show ¬ s = 0 by omega), tmod_nn (show 0 ≤ (R : Int) by omega), gd.1, if_pos (show 0 < (R : Int) by omega)]
  by_cases q4 : (R : Int) % s = 0
  ·simp only [if_pos q4]
   refine ev_bind' (show impl_size_int64_84.f (rd_L3 d 0) = some (C : Int) from by unfold impl_size_int64_84.f; rw [cd]) ?_
   simp only [tmod_nn (show 0 ≤ (C : Int) by omega)]
   by_cases q5 : (C : Int) % s = 0
   ·have ok : blockOk p d s := ⟨v1, v2, q1, q2, q3, by rw [gd.1]; exact q4, by rw [cd]; exact q5⟩
    rw [show blockOf p d s = (beAll p d s.toNat p.length (rd_L3 p 0).length, true) from if_pos ok]
    obtain ⟨R', C', n, hR, hC, gp', gd', cp', cd', rfl, hn, dR, dC⟩ := blockOk_is ok
    have a1 := gd.1
    have a2 := gd'.1
    obtain rfl : R' = R := by omega
    obtain rfl : C' = C := by omega
    rw [gp'.1, cp', Int.toNat_natCast, show ((C' : Int) % (n : Int) != 0) = false from by rw [q5]; rfl]
    refine Ev.step (fun k => by rw [impl_BlockErrors.j1]) ?_
    simp only [Bool.false_eq_true, if_false]
    refine ev_bind' (show impl_size_int64_83.f d = some (R' : Int) from by unfold impl_size_int64_83.f; rw [gd.1]) ?_
    simp only [if_neg (show ¬ (n : Int) = 0 by omega), gd.1, if_pos (show 0 < (R' : Int) by omega)]
    refine ev_bind' (show impl_size_int64_84.f (rd_L3 d 0) = some (C' : Int) from by unfold impl_size_int64_84.f; rw [cd]) ?_
    simp only [tdn R' n (by omega), tdn C' n (by omega), gp'.1]
    have b1 := Nat.div_le_self R' n
    have b2 := Nat.div_le_self C' n
    exact Ev.bind (noughts_ev (R' / n) (C' / n) (by omega) (by omega)) (implBlock_ev hR hC gp' gd hn dR dC)
   ·rw [show blockOf p d s = ([], false) from if_neg (fun h => q5 (by have := h.2.2.2.2.2.2; rwa [cd] at this)), show ((C : Int) % s != 0) = true from by simpa using q5]
    exact no4
  ·rw [show blockOf p d s = ([], false) from if_neg (fun h => q4 (by have := h.2.2.2.2.2.1; rwa [gd.1] at this))]
   simp only [if_neg q4]
   exact no4
theorem specBlockF (p d : List (List Int)) (s : Int) (hp : p.length ≤ 1048576) (hp' : ∀ x ∈ p, x.length ≤ 1048576) (hd : d.length ≤ 1048576) (hd' : ∀ x ∈ d, x.length ≤ 1048576) : Ev (fun k => spec_BlockErrors.f k p d s) (blockOf p d s) := by
 unfold spec_BlockErrors.f
 have no := specBlockNo p d s
 have S0 : Ev (fun k => spec_l09Is.f k p) (rowsForm 255 p) := by unfold spec_l09Is.f; exact Ev.bind (form_ev p 255 hp hp') (Ev.now _)
 refine Ev.bind S0 ?_
 by_cases v1 : rowsForm 255 p = true
 ·simp only [v1, if_true]
  refine Ev.bind (form_ev d 1 hd hd') ?_
  by_cases v2 : rowsForm 1 d = true
  ·simp only [v2, if_true]
   obtain ⟨R, C, R1, R2, C1, C2, gd, cd, _⟩ := rowsForm_is v2
   obtain ⟨R', C', R1', R2', C1', C2', gp, cp, _⟩ := rowsForm_is v1
   by_cases q1 : d.length = p.length
   ·simp only [if_pos (show (d.length : Int) = (p.length : Int) by omega), if_pos (show 0 < (d.length : Int) by rw [gd.1]; omega), if_pos (show 0 < (p.length : Int) by rw [gp.1]; omega)]
    by_cases q2 : (rd_L3 d 0).length = (rd_L3 p 0).length
    ·rw [show (((rd_L3 d 0).length : Int) != ((rd_L3 p 0).length : Int)) = false from by rw [q2]; exact bne_self_eq_false _]
     exact specJ0 p d s v1 v2 q1 q2
    ·rw [show (((rd_L3 d 0).length : Int) != ((rd_L3 p 0).length : Int)) = true from by simpa using fun h => q2 (by omega), show blockOf p d s = ([], false) from if_neg (fun h => q2 h.2.2.2.1)]
     exact no
   ·rw [show blockOf p d s = ([], false) from if_neg (fun h => q1 h.2.2.1)]
    simp only [if_neg (show ¬ (d.length : Int) = (p.length : Int) by omega)]
    exact no
  ·rw [show blockOf p d s = ([], false) from if_neg (fun h => v2 h.2.1)]
   simp only [if_neg v2]
   exact no
 ·rw [show blockOf p d s = ([], false) from if_neg (fun h => v1 h.1)]
  simp only [if_neg v1]
  exact no
theorem implBlockF (p d : List (List Int)) (s : Int) : Ev (fun k => impl_BlockErrors.f k p d s) (blockOf p d s) := by
 unfold impl_BlockErrors.f
 have no := implBlockNo p d s
 refine ev_bind' (show impl_ValidPicture.f p = some (rowsForm 255 p) from by unfold impl_ValidPicture.f; rw [areRows_tells]; rfl) ?_
 by_cases v1 : rowsForm 255 p = true
 ·simp only [v1, if_true]
  refine ev_bind' (areRows_tells d 1) ?_
  by_cases v2 : rowsForm 1 d = true
  ·simp only [v2, if_true]
   obtain ⟨R, C, R1, R2, C1, C2, gd, cd, _⟩ := rowsForm_is v2
   obtain ⟨R', C', R1', R2', C1', C2', gp, cp, _⟩ := rowsForm_is v1
   by_cases q1 : d.length = p.length
   ·simp only [if_pos (show (d.length : Int) = (p.length : Int) by omega), if_pos (show 0 < (d.length : Int) by rw [gd.1]; omega), if_pos (show 0 < (p.length : Int) by rw [gp.1]; omega)]
    by_cases q2 : (rd_L3 d 0).length = (rd_L3 p 0).length
    ·rw [show (((rd_L3 d 0).length : Int) != ((rd_L3 p 0).length : Int)) = false from by rw [q2]; exact bne_self_eq_false _]
     exact implJ0 p d s v1 v2 q1 q2
    ·rw [show (((rd_L3 d 0).length : Int) != ((rd_L3 p 0).length : Int)) = true from by simpa using fun h => q2 (by omega), show blockOf p d s = ([], false) from if_neg (fun h => q2 h.2.2.2.1)]
     exact no
   ·rw [show blockOf p d s = ([], false) from if_neg (fun h => q1 h.2.2.1)]
    simp only [if_neg (show ¬ (d.length : Int) = (p.length : Int) by omega)]
    exact no
  ·rw [show blockOf p d s = ([], false) from if_neg (fun h => v2 h.2.1)]
   simp only [if_neg v2]
   exact no
 ·rw [show blockOf p d s = ([], false) from if_neg (fun h => v1 h.1)]
  simp only [if_neg v1]
  exact no
theorem block_both (p d : List (List Int)) (s : Int) (hp : p.length ≤ 1048576) (hp' : ∀ x ∈ p, x.length ≤ 1048576) (hd : d.length ≤ 1048576) (hd' : ∀ x ∈ d, x.length ≤ 1048576) :
  ∃ r : List (List Int) × Bool, Ev (fun k => spec_BlockErrors.f k p d s) r ∧ Ev (fun k => impl_BlockErrors.f k p d s) r ∧ r.1.length ≤ 12 ∧ ∀ x ∈ r.1, x.length ≤ 12 := by
 refine ⟨blockOf p d s, specBlockF p d s hp hp' hd hd', implBlockF p d s, ?_⟩
 by_cases ok : blockOk p d s
 ·rw [show blockOf p d s = (beAll p d s.toNat p.length (rd_L3 p 0).length, true) from if_pos ok]
  obtain ⟨R, C, n, hR, hC, gp, gd, cp, cd, rfl, hn, dR, dC⟩ := blockOk_is ok
  have is := beAll_is hR hC gp gd hn dR dC
  have b1 := Nat.div_le_self R n
  have b2 := Nat.div_le_self C n
  rw [gp.1, cp, Int.toNat_natCast]
  exact ⟨by rw [is.1]; omega, fun x hx => by have := is.2 x hx; omega⟩
 ·rw [show blockOf p d s = ([], false) from if_neg ok]
  exact ⟨by simp, by simp⟩
end Go.Proofs.Ytgndemjphjhahaa.Com
namespace Go.Proofs.Ytgndemjphjhahaa.Com
set_option linter.unusedSimpArgs false
set_option linter.unusedVariables false
set_option linter.unusedSectionVars false
open Go.RowKit Go.Proofs.YtgndemjphjhahaaW.PrintWords Go.Proofs.YtgndemjphjhahaaW.PrintMore Go.Proofs.Ytgndemjphjhahaa.Q
theorem toPicture_ev (xs : List (List Int)) (hx : xs.length ≤ 1048576) (hr : ∀ x ∈ xs, x.length ≤ 1048576) : Ev (fun k => laws_toPicture.f k xs) xs := by
 unfold laws_toPicture.f
 exact Ev.bind (toInt64SS_ev xs hx hr) (Ev.now _)
theorem eqPicture_ev (xs : List (List Int)) (hx : xs.length ≤ 1048576) (hr : ∀ x ∈ xs, x.length ≤ 1048576) : Ev (fun k => laws_eqPicture.f k xs xs) true := by
 unfold laws_eqPicture.f
 refine Ev.bind (eqInt64SS_ev xs hx hr) ?_
 simp only [if_true]
 exact Ev.now _
theorem szPic_ev (l : List (List Int)) (a : Int) (ha : 0 ≤ a ∧ a ≤ 1048576) (hl : l.length ≤ maxLen) (hr : ∀ x ∈ l, x.length ≤ maxLen) :
  ∃ t, Ev (fun k => laws_szPicture.f k l a) t ∧ (t = -1 ∨ (0 ≤ t ∧ t ≤ a ∧ l.length ≤ 1048576 ∧ (∀ x ∈ l, x.length ≤ 1048576) ∧ tot l ≤ 1048576)) := by
 obtain ⟨t, e, h⟩ := szSS_ev l a ha hl hr
 unfold laws_szPicture.f
 rcases h with rfl | h
 ·refine ⟨-1, Ev.bind e ?_, .inl rfl⟩
  simp only [if_pos (show (-1 : Int) < 0 by omega)]
  exact Ev.now _
 ·refine ⟨t, Ev.bind e ?_, .inr h⟩
  simp only [if_neg (show ¬ t < 0 by omega)]
  exact Ev.now _
theorem markPic_ev (xs : List (List Int)) (a : Int) (hx : xs.length ≤ 1048576) (hr : ∀ x ∈ xs, x.length ≤ 1048576) (ha : 0 ≤ a) (hb : a + tot xs ≤ 1000000000000) : Ev (fun k => laws_markPicture.f k xs a) (a + tot xs, markLL xs a) := by
 unfold laws_markPicture.f
 exact Ev.bind (markSS_ev xs a hx hr ha hb) (Ev.now _)
end Go.Proofs.Ytgndemjphjhahaa.Com
namespace Go.Proofs.Ytgndemjphjhahaa.Pure
set_option linter.unusedSimpArgs false
set_option linter.unusedVariables false
set_option linter.unusedSectionVars false
open Go.RowKit Go.Proofs.Ytgndemjphjhahaa.Q Go.Proofs.YtgndemjphjhahaaW.PrintWords Go.Proofs.YtgndemjphjhahaaW.PrintLast Go.Proofs.Ytgndemjphjhahaa.Com
theorem FnExactBlockErrors : laws_FnExactBlockErrors.Pure := by
 intro p d s hp hd _
 apply ev_of
 unfold laws_FnExactBlockErrors.f
 obtain ⟨t1, e1, h1⟩ := szPic_ev p 1048576 (by omega) hp.1 (fun x hx => (hp.2 x hx).1)
 refine Ev.bind e1 ?_
 rcases h1 with rfl | ⟨a0, a1, p1, p2, p3⟩
 ·simp only [if_pos (show (-1 : Int) < 0 by omega)]
  exact Ev.now _
 simp only [if_neg (show ¬ t1 < 0 by omega)]
 obtain ⟨t2, e2, h2⟩ := szSS_ev d t1 (by omega) hd.1 (fun x hx => (hd.2 x hx).1)
 refine Ev.bind e2 ?_
 rcases h2 with rfl | ⟨b0, b1, d1, d2, d3⟩
 ·simp only [if_pos (show (-1 : Int) < 0 by omega)]
  exact Ev.now _
 simp only [if_neg (show ¬ t2 < 0 by omega)]
 obtain ⟨⟨g, b⟩, E1, E2, g1, g2⟩ := block_both p d s p1 p2 d1 d2
 have c1 : g.length ≤ 1048576 := by simp only at g1; omega
 have c2 : ∀ x ∈ g, x.length ≤ 1048576 := fun x hx => by have := g2 x hx; omega
 have c3 := tot_le g 12 g2
 have c4 := tot_nn g
 have c5 : g.length * 12 ≤ 12 * 12 := Nat.mul_le_mul_right _ g1
 have n1 := tot_nn p
 have n2 := tot_nn d
 refine Ev.bind (toPicture_ev p p1 p2) (Ev.bind (toInt64SS_ev d d1 d2) (Ev.bind E1 (Ev.bind (toPicture_ev p p1 p2) (Ev.bind (toInt64SS_ev d d1 d2) (Ev.bind E2 (Ev.bind (eqInt64SS_ev g c1 c2) ?_))))))
 simp only [if_true]
 refine Ev.bind (toPicture_ev p p1 p2) (Ev.bind (eqPicture_ev p p1 p2) ?_)
 simp only [if_true]
 refine Ev.bind (toInt64SS_ev d d1 d2) (Ev.bind (eqInt64SS_ev d d1 d2) ?_)
 simp only [if_true]
 refine Ev.bind (markPic_ev p 1 p1 p2 (by omega) (by omega)) (Ev.bind (markSS_ev d (1 + tot p) d1 d2 (by omega) (by omega)) ?_)
 simp only [if_neg (show ¬ 1 + tot p + tot d < 0 by omega)]
 refine Ev.bind (eqInt64SS_ev g c1 c2) ?_
 simp only [if_true]
 refine Ev.bind (markSS_ev g 1 c1 c2 (by omega) (by omega)) (Ev.bind (heldSS_ev g 1 c1 c2 (by omega) (by omega)) ?_)
 simp only [if_neg (show ¬ 1 + tot g < 0 by omega), if_true]
 refine Ev.bind (toPicture_ev p p1 p2) (Ev.bind (toInt64SS_ev d d1 d2) (Ev.bind E2 (Ev.bind (eqInt64SS_ev g c1 c2) ?_)))
 simp only [if_true]
 refine Ev.bind (heldSS_ev g 1 c1 c2 (by omega) (by omega)) ?_
 simp only [if_neg (show ¬ 1 + tot g < 0 by omega), if_true]
 exact Ev.now _
end Go.Proofs.Ytgndemjphjhahaa.Pure
