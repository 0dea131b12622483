/- The statement FnExactMaskDither, with all that its proof stands on: functions of the program as plain functions, the program's walks, and the plain law. Conditions: none beyond the statement's own. -/
import Derived.ArgAppend
import Derived.Below
import Derived.BigQuiet
import Derived.BigRegion
import Derived.Deep.AppendLies
import Derived.Deep.CutBlock
import Derived.Deep.DeepCutAuto
import Derived.Deep.Draws
import Derived.Deep.LoopGhost
import Derived.Deep.OwnRows
import Derived.Deep.QuietTactic
import Derived.Deep.RegionHeld3
import Derived.Ground.SlgmProg
import Derived.Ground.SlgnProg
import Derived.KernelRfl
import Derived.Laws.BitsLemmas
import Derived.Laws.BytesArg
import Derived.Laws.IdiomCopy
import Derived.Laws.MakeOwn
import Derived.Laws.OwnMore
import Derived.Laws.Rows
import Derived.Laws.Slices
import Derived.Lib.AppendStr
import Derived.Lib.ConvBytes
import Derived.Maps.AppendAt
import Derived.OrdersHeld
import Derived.OwnWalk
import Derived.ProofKit
import Derived.RowKit
import Derived.RowKit3
import Derived.Shelf.SlicesE.Clone
import Derived.Shelf.Small.Bits
import Derived.Shelf.Small.Strs
import Derived.Shelf.SortM.Plain
import Derived.Shelf.Strconv.Itoa0
import Derived.Shelf.Strings.Search1
import Derived.Sort.OwnSortedInts
import Derived.Tactics
import Derived.Test.YtckonklpdepgoaaProg
import Derived.WalkKit
import Derived.WideLaws
import Derived.Test.YtckonklpdepgoaaBFnExactMaskDither0
import Derived.Test.YtckonklpdepgoaaBFnExactMaskDither1
import Derived.Test.YtckonklpdepgoaaBFnExactMaskDither2
import Derived.Test.YtckonklpdepgoaaBFnExactMaskDither3
import Derived.Test.YtckonklpdepgoaaBFnExactMaskDither4
import Derived.Test.YtckonklpdepgoaaBFnExactMaskDither6
import Derived.Test.YtckonklpdepgoaaBFnExactMaskDither7
set_option linter.unusedVariables false
set_option linter.unusedSimpArgs false
namespace Go.Proofs.Ytckonklpdepgoaa.Q
open Go.RowKit Go.Proofs.YtckonklpdepgoaaW.PrintWords Go.Proofs.YtckonklpdepgoaaW.PrintLast Go.Proofs.YtckonklpdepgoaaW.PrintMore
set_option linter.unusedVariables false
set_option linter.unusedSimpArgs false
def laws_FnExactMaskDither.f (k : Nat) (l0_0 : List (List Int)) (l1 : List (List Int)) : Option Bool := (laws_szPicture.f k l0_0 1048576).bind fun bt2 => (if bt2 < 0 then some true else ((laws_szInt64SS.f k l1 bt2).bind fun bt3 => (if bt3 < 0 then some true else ((laws_toPicture.f k l0_0).bind fun bt4 => ((laws_toInt64SS.f k l1).bind fun bt6 => ((spec_MaskDither.f k bt4 bt6).bind fun bt8 => ((laws_toPicture.f k l0_0).bind fun bt11 => ((laws_toInt64SS.f k l1).bind fun bt14 => ((impl_MaskDither.f k bt11 bt14).bind fun bt16 => ((laws_eqInt64SS.f k bt16.1 bt8.1).bind fun bt19 => (if bt19 = true then (if bt16.2 = bt8.2 then ((laws_toPicture.f k l0_0).bind fun bt20 => ((laws_eqPicture.f k bt11 bt20).bind fun bt22 => (if bt22 = true then ((laws_toInt64SS.f k l1).bind fun bt23 => ((laws_eqInt64SS.f k bt14 bt23).bind fun bt25 => (if bt25 = true then ((laws_markPicture.f k bt11 1).bind fun bt26 => ((laws_markInt64SS.f k bt14 bt26.1).bind fun bt28 => (if bt28.1 < 0 then some false else ((laws_eqInt64SS.f k bt16.1 bt8.1).bind fun bt30 => (if bt30 = true then ((laws_markInt64SS.f k bt16.1 1).bind fun bt31 => ((laws_heldInt64SS.f k bt31.2 1).bind fun bt33 => (if bt33 < 0 then some false else (if bt33 = bt31.1 then ((laws_toPicture.f k l0_0).bind fun bt34 => ((laws_toInt64SS.f k l1).bind fun bt36 => ((impl_MaskDither.f k bt34 bt36).bind fun bt38 => ((laws_eqInt64SS.f k bt38.1 bt8.1).bind fun bt41 => (if bt41 = true then (if bt38.2 = bt16.2 then ((laws_heldInt64SS.f k bt31.2 1).bind fun bt42 => (if bt42 < 0 then some false else (if bt42 = bt33 then (some true) else some false))) else some false) else some false))))) else some false)))) else some false))))) else some false))) else some false))) else some false) else some false)))))))))))
def laws_FnExactMaskDither.Pure : Prop := ∀ (l0_0 : List (List Int)) (l1 : List (List Int)), (l0_0.length ≤ maxLen ∧ ∀ y ∈ l0_0, (y.length ≤ maxLen ∧ ∀ y_ ∈ y, (Lit.int .i64 y_).wf = true)) → (l1.length ≤ maxLen ∧ ∀ y ∈ l1, (y.length ≤ maxLen ∧ ∀ y_ ∈ y, (Lit.int .i64 y_).wf = true)) → ∃ k, laws_FnExactMaskDither.f k l0_0 l1 = some true
set_option maxHeartbeats 16000000 in
set_option maxRecDepth 100000 in
theorem laws_FnExactMaskDither.calls (k : Nat) (A0_0 : Option Addr) (c0_0 : Nat) (l0_0 : List (List Int)) (A1 : Option Addr) (c1 : Nat) (l1 : List (List Int)) (w : World) (hr0_0 : Kd.C (Kd.slice 2 (Kd.int .i64)) w A0_0 l0_0.length l0_0) (hc0_0 : l0_0.length ≤ c0_0) (hr1 : Kd.C (Kd.slice 2 (Kd.int .i64)) w A1 l1.length l1) (hc1 : l1.length ≤ c1) (h : laws_FnExactMaskDither.f k l0_0 l1 = some true) :
  Calls Try.prog 9 #[.agg #[.slice A0_0 l0_0.length c0_0], .slice A1 l1.length c1] w fun e w' => e = .returned (.bool true) ∧ Below w.heap.size w w' := by
 have HR0_0 := Aside0.mk hr0_0
 have HC0_0 := Aside0.mk hc0_0
 clear hr0_0 hc0_0
 have HR1 := Aside0.mk hr1
 have HC1 := Aside0.mk hc1
 clear hr1 hc1
 have HB := Aside0.mk (Below.refl w.heap.size w)
 have H := h
 clear h
 unfold laws_FnExactMaskDither.f at H
 replace H := Option.bind_eq_some_iff.mp H
 obtain ⟨t2, E10, H⟩ := H
 (try dsimp only at H)
 have E1 := Aside0.mk E10
 clear E10
 by_cases c1 : t2 < 0
 ·clear H
  have c1b : decide (t2 < 0) = true := decide_eq_true c1
  clear c1
  go_enter Try.func9, Try.ntmps9
  go_wp2_with (first | ((with_reducible refine gate_dst (N := 2) rfl ?_); refine box_event ?hg (N := 2) ?hd (cs := #[.slice A0_0 l0_0.length c0_0]) (t := 49) ?hr ?_; (case hd => rfl); (case hg => rfl); (case hr => first | (go_simp; done) | (go_simp; rfl)); intro gb1 hg w_1 hbox hb; have n0_ := Aside0.mk (below_step HB.out hb); have n1_ := Aside0.mk (hbox); have n2_ := Aside0.mk (blk_lt hbox); have n3_ := Aside0.mk (by rw [hg]; exact below_size HB.out : w.heap.size ≤ gb1); clear HB; have HB := n0_; have BKgb1 := n1_; have GUgb1 := n2_; have GEgb1 := n3_; clear n0_ n1_ n2_ n3_; clear hb hbox hg; (try clear hczgb1_0); (try clear hfzgb1_0); have hczgb1_0 : w_1.cell? ⟨gb1, 0, none⟩ = some (.slice A0_0 l0_0.length c0_0) := (blk_cell BKgb1.out 0).trans rfl; have hfzgb1_0 := blk_frozen BKgb1.out 0) | ((with_reducible refine gate_callee (f := 38) rfl ?_); refine goesL_ (some 19) rfl rfl Try.func38 (by kernel_rfl) rfl #[.agg #[.slice A0_0 l0_0.length c0_0], .int .i64 1048576] rfl (by (try simp only [List.map_toArray, List.map_cons, List.map_nil]); first | done | rfl) ?_; (with_reducible refine (laws_szPicture.calls k _ _ l0_0 1048576 t2 _ ?side1 ?side2 E1.out).mono ?_); (case side1 => exact Kd.C_below HR0_0.out HB.out); (case side2 => exact HC0_0.out); rintro e w_2 ⟨rfl, hb⟩; refine ⟨_, rfl, ?_⟩; have n0_ := Aside0.mk (blk_below (g := gb1) BKgb1.out hb); have n1_ := Aside0.mk (Nat.lt_of_lt_of_le GUgb1.out hb.size); have n2_ := Aside0.mk (below_step HB.out hb); clear BKgb1; clear GUgb1; clear HB; have BKgb1 := n0_; have GUgb1 := n1_; have HB := n2_; clear n0_ n1_ n2_; clear hb; (try clear hczgb1_0); (try clear hfzgb1_0); have hczgb1_0 : w_2.cell? ⟨gb1, 0, none⟩ = some (.slice A0_0 l0_0.length c0_0) := (blk_cell BKgb1.out 0).trans rfl; have hfzgb1_0 := blk_frozen BKgb1.out 0))
  go_ret
  exact ⟨by first | rfl | (simp; done) | (simp [*]; done), HB.out⟩
 rw [if_neg c1] at H
 have c1b : decide (t2 < 0) = false := decide_eq_false c1
 clear c1
 replace H := Option.bind_eq_some_iff.mp H
 obtain ⟨t3, E30, H⟩ := H
 (try dsimp only at H)
 have E3 := Aside0.mk E30
 clear E30
 by_cases c3 : t3 < 0
 ·clear H
  have c3b : decide (t3 < 0) = true := decide_eq_true c3
  clear c3
  go_enter Try.func9, Try.ntmps9
  go_wp2_with (first | ((with_reducible refine gate_dst (N := 2) rfl ?_); refine box_event ?hg (N := 2) ?hd (cs := #[.slice A0_0 l0_0.length c0_0]) (t := 49) ?hr ?_; (case hd => rfl); (case hg => rfl); (case hr => first | (go_simp; done) | (go_simp; rfl)); intro gb1 hg w_1 hbox hb; have n0_ := Aside0.mk (below_step HB.out hb); have n1_ := Aside0.mk (hbox); have n2_ := Aside0.mk (blk_lt hbox); have n3_ := Aside0.mk (by rw [hg]; exact below_size HB.out : w.heap.size ≤ gb1); clear HB; have HB := n0_; have BKgb1 := n1_; have GUgb1 := n2_; have GEgb1 := n3_; clear n0_ n1_ n2_ n3_; clear hb hbox hg; (try clear hczgb1_0); (try clear hfzgb1_0); have hczgb1_0 : w_1.cell? ⟨gb1, 0, none⟩ = some (.slice A0_0 l0_0.length c0_0) := (blk_cell BKgb1.out 0).trans rfl; have hfzgb1_0 := blk_frozen BKgb1.out 0) | ((with_reducible refine gate_callee (f := 38) rfl ?_); refine goesL_ (some 19) rfl rfl Try.func38 (by kernel_rfl) rfl #[.agg #[.slice A0_0 l0_0.length c0_0], .int .i64 1048576] rfl (by (try simp only [List.map_toArray, List.map_cons, List.map_nil]); first | done | rfl) ?_; (with_reducible refine (laws_szPicture.calls k _ _ l0_0 1048576 t2 _ ?side1 ?side2 E1.out).mono ?_); (case side1 => exact Kd.C_below HR0_0.out HB.out); (case side2 => exact HC0_0.out); rintro e w_2 ⟨rfl, hb⟩; refine ⟨_, rfl, ?_⟩; have n0_ := Aside0.mk (blk_below (g := gb1) BKgb1.out hb); have n1_ := Aside0.mk (Nat.lt_of_lt_of_le GUgb1.out hb.size); have n2_ := Aside0.mk (below_step HB.out hb); clear BKgb1; clear GUgb1; clear HB; have BKgb1 := n0_; have GUgb1 := n1_; have HB := n2_; clear n0_ n1_ n2_; clear hb; (try clear hczgb1_0); (try clear hfzgb1_0); have hczgb1_0 : w_2.cell? ⟨gb1, 0, none⟩ = some (.slice A0_0 l0_0.length c0_0) := (blk_cell BKgb1.out 0).trans rfl; have hfzgb1_0 := blk_frozen BKgb1.out 0) | ((with_reducible refine gate_callee (f := 32) rfl ?_); refine goesL_ (some 24) rfl rfl Try.func32 (by kernel_rfl) rfl #[.slice A1 l1.length c1, .int .i64 t2] rfl (by (try simp only [List.map_toArray, List.map_cons, List.map_nil]); first | done | rfl) ?_; (with_reducible refine (laws_szInt64SS.calls k _ _ l1 t2 t3 _ ?side1 ?side2 E3.out).mono ?_); (case side1 => exact Kd.C_below HR1.out HB.out); (case side2 => exact HC1.out); rintro e w_3 ⟨rfl, hd⟩; have hb := Drawn0.below hd; refine ⟨_, rfl, ?_⟩; have n0_ := Aside0.mk (blk_below (g := gb1) BKgb1.out hb); have n1_ := Aside0.mk (Nat.lt_of_lt_of_le GUgb1.out hb.size); have n2_ := Aside0.mk (below_step HB.out hb); clear BKgb1; clear GUgb1; clear HB; have BKgb1 := n0_; have GUgb1 := n1_; have HB := n2_; clear n0_ n1_ n2_; clear hb; clear hd; (try clear hczgb1_0); (try clear hfzgb1_0); have hczgb1_0 : w_3.cell? ⟨gb1, 0, none⟩ = some (.slice A0_0 l0_0.length c0_0) := (blk_cell BKgb1.out 0).trans rfl; have hfzgb1_0 := blk_frozen BKgb1.out 0))
  go_ret
  exact ⟨by first | rfl | (simp; done) | (simp [*]; done), HB.out⟩
 rw [if_neg c3] at H
 have c3b : decide (t3 < 0) = false := decide_eq_false c3
 clear c3
 replace H := Option.bind_eq_some_iff.mp H
 obtain ⟨t4, E50, H⟩ := H
 (try dsimp only at H)
 have E5 := Aside0.mk E50
 clear E50
 replace H := Option.bind_eq_some_iff.mp H
 obtain ⟨t6, E60, H⟩ := H
 (try dsimp only at H)
 have E6 := Aside0.mk E60
 clear E60
 replace H := Option.bind_eq_some_iff.mp H
 obtain ⟨⟨t8, t9⟩, E70, H⟩ := H
 (try dsimp only at H)
 have E7 := Aside0.mk E70
 clear E70
 replace H := Option.bind_eq_some_iff.mp H
 obtain ⟨t11, E80, H⟩ := H
 (try dsimp only at H)
 have E8 := Aside0.mk E80
 clear E80
 replace H := Option.bind_eq_some_iff.mp H
 obtain ⟨t14, E90, H⟩ := H
 (try dsimp only at H)
 have E9 := Aside0.mk E90
 clear E90
 replace H := Option.bind_eq_some_iff.mp H
 obtain ⟨⟨t16, t17⟩, E100, H⟩ := H
 (try dsimp only at H)
 have E10 := Aside0.mk E100
 clear E100
 replace H := Option.bind_eq_some_iff.mp H
 obtain ⟨t19, E110, H⟩ := H
 (try dsimp only at H)
 have E11 := Aside0.mk E110
 clear E110
 by_cases c11 : t19 = true
 rotate_left
 ·rw [if_neg c11] at H; exact absurd H (by simp)
 rw [if_pos c11] at H
 subst c11
 by_cases c12 : t17 = t9
 rotate_left
 ·rw [if_neg c12] at H; exact absurd H (by simp)
 rw [if_pos c12] at H
 subst c12
 replace H := Option.bind_eq_some_iff.mp H
 obtain ⟨t20, E140, H⟩ := H
 (try dsimp only at H)
 have E14 := Aside0.mk E140
 clear E140
 replace H := Option.bind_eq_some_iff.mp H
 obtain ⟨t22, E150, H⟩ := H
 (try dsimp only at H)
 have E15 := Aside0.mk E150
 clear E150
 by_cases c15 : t22 = true
 rotate_left
 ·rw [if_neg c15] at H; exact absurd H (by simp)
 rw [if_pos c15] at H
 subst c15
 replace H := Option.bind_eq_some_iff.mp H
 obtain ⟨t23, E170, H⟩ := H
 (try dsimp only at H)
 have E17 := Aside0.mk E170
 clear E170
 replace H := Option.bind_eq_some_iff.mp H
 obtain ⟨t25, E180, H⟩ := H
 (try dsimp only at H)
 have E18 := Aside0.mk E180
 clear E180
 by_cases c18 : t25 = true
 rotate_left
 ·rw [if_neg c18] at H; exact absurd H (by simp)
 rw [if_pos c18] at H
 subst c18
 replace H := Option.bind_eq_some_iff.mp H
 obtain ⟨⟨t26, t27⟩, E200, H⟩ := H
 (try dsimp only at H)
 have E20 := Aside0.mk E200
 clear E200
 replace H := Option.bind_eq_some_iff.mp H
 obtain ⟨⟨t28, t29⟩, E210, H⟩ := H
 (try dsimp only at H)
 have E21 := Aside0.mk E210
 clear E210
 by_cases c21 : t28 < 0
 ·rw [if_pos c21] at H; exact absurd H (by simp)
 rw [if_neg c21] at H
 have c21b : decide (t28 < 0) = false := decide_eq_false c21
 clear c21
 replace H := Option.bind_eq_some_iff.mp H
 obtain ⟨t30, E230, H⟩ := H
 (try dsimp only at H)
 have E23 := Aside0.mk E230
 clear E230
 by_cases c23 : t30 = true
 rotate_left
 ·rw [if_neg c23] at H; exact absurd H (by simp)
 rw [if_pos c23] at H
 subst c23
 replace H := Option.bind_eq_some_iff.mp H
 obtain ⟨⟨t31, t32⟩, E250, H⟩ := H
 (try dsimp only at H)
 have E25 := Aside0.mk E250
 clear E250
 replace H := Option.bind_eq_some_iff.mp H
 obtain ⟨t33, E260, H⟩ := H
 (try dsimp only at H)
 have E26 := Aside0.mk E260
 clear E260
 by_cases c26 : t33 < 0
 ·rw [if_pos c26] at H; exact absurd H (by simp)
 rw [if_neg c26] at H
 have c26b : decide (t33 < 0) = false := decide_eq_false c26
 clear c26
 by_cases c27 : t33 = t31
 rotate_left
 ·rw [if_neg c27] at H; exact absurd H (by simp)
 rw [if_pos c27] at H
 subst c27
 replace H := Option.bind_eq_some_iff.mp H
 obtain ⟨t34, E290, H⟩ := H
 (try dsimp only at H)
 have E29 := Aside0.mk E290
 clear E290
 replace H := Option.bind_eq_some_iff.mp H
 obtain ⟨t36, E300, H⟩ := H
 (try dsimp only at H)
 have E30 := Aside0.mk E300
 clear E300
 replace H := Option.bind_eq_some_iff.mp H
 obtain ⟨⟨t38, t39⟩, E310, H⟩ := H
 (try dsimp only at H)
 have E31 := Aside0.mk E310
 clear E310
 replace H := Option.bind_eq_some_iff.mp H
 obtain ⟨t41, E320, H⟩ := H
 (try dsimp only at H)
 have E32 := Aside0.mk E320
 clear E320
 by_cases c32 : t41 = true
 rotate_left
 ·rw [if_neg c32] at H; exact absurd H (by simp)
 rw [if_pos c32] at H
 subst c32
 by_cases c33 : t39 = t17
 rotate_left
 ·rw [if_neg c33] at H; exact absurd H (by simp)
 rw [if_pos c33] at H
 subst c33
 replace H := Option.bind_eq_some_iff.mp H
 obtain ⟨t42, E350, H⟩ := H
 (try dsimp only at H)
 have E35 := Aside0.mk E350
 clear E350
 by_cases c35 : t42 < 0
 ·rw [if_pos c35] at H; exact absurd H (by simp)
 rw [if_neg c35] at H
 have c35b : decide (t42 < 0) = false := decide_eq_false c35
 clear c35
 by_cases c36 : t42 = t33
 rotate_left
 ·rw [if_neg c36] at H; exact absurd H (by simp)
 rw [if_pos c36] at H
 subst c36
 clear H
 go_enter Try.func9, Try.ntmps9
 go_wp2_with (first | ((with_reducible refine gate_dst (N := 2) rfl ?_); refine box_event ?hg (N := 2) ?hd (cs := #[.slice A0_0 l0_0.length c0_0]) (t := 49) ?hr ?_; (case hd => rfl); (case hg => rfl); (case hr => first | (go_simp; done) | (go_simp; rfl)); intro gb1 hg w_1 hbox hb; have n0_ := Aside0.mk (below_step HB.out hb); have n1_ := Aside0.mk (hbox); have n2_ := Aside0.mk (blk_lt hbox); have n3_ := Aside0.mk (by rw [hg]; exact below_size HB.out : w.heap.size ≤ gb1); clear HB; have HB := n0_; have BKgb1 := n1_; have GUgb1 := n2_; have GEgb1 := n3_; clear n0_ n1_ n2_ n3_; clear hb hbox hg; (try clear hczgb1_0); (try clear hfzgb1_0); have hczgb1_0 : w_1.cell? ⟨gb1, 0, none⟩ = some (.slice A0_0 l0_0.length c0_0) := (blk_cell BKgb1.out 0).trans rfl; have hfzgb1_0 := blk_frozen BKgb1.out 0) | ((with_reducible refine gate_callee (f := 38) rfl ?_); refine goesL_ (some 19) rfl rfl Try.func38 (by kernel_rfl) rfl #[.agg #[.slice A0_0 l0_0.length c0_0], .int .i64 1048576] rfl (by (try simp only [List.map_toArray, List.map_cons, List.map_nil]); first | done | rfl) ?_; (with_reducible refine (laws_szPicture.calls k _ _ l0_0 1048576 t2 _ ?side1 ?side2 E1.out).mono ?_); (case side1 => exact Kd.C_below HR0_0.out HB.out); (case side2 => exact HC0_0.out); rintro e w_2 ⟨rfl, hb⟩; refine ⟨_, rfl, ?_⟩; have n0_ := Aside0.mk (blk_below (g := gb1) BKgb1.out hb); have n1_ := Aside0.mk (Nat.lt_of_lt_of_le GUgb1.out hb.size); have n2_ := Aside0.mk (below_step HB.out hb); clear BKgb1; clear GUgb1; clear HB; have BKgb1 := n0_; have GUgb1 := n1_; have HB := n2_; clear n0_ n1_ n2_; clear hb; (try clear hczgb1_0); (try clear hfzgb1_0); have hczgb1_0 : w_2.cell? ⟨gb1, 0, none⟩ = some (.slice A0_0 l0_0.length c0_0) := (blk_cell BKgb1.out 0).trans rfl; have hfzgb1_0 := blk_frozen BKgb1.out 0) | ((with_reducible refine gate_callee (f := 32) rfl ?_); refine goesL_ (some 24) rfl rfl Try.func32 (by kernel_rfl) rfl #[.slice A1 l1.length c1, .int .i64 t2] rfl (by (try simp only [List.map_toArray, List.map_cons, List.map_nil]); first | done | rfl) ?_; (with_reducible refine (laws_szInt64SS.calls k _ _ l1 t2 t3 _ ?side1 ?side2 E3.out).mono ?_); (case side1 => exact Kd.C_below HR1.out HB.out); (case side2 => exact HC1.out); rintro e w_3 ⟨rfl, hd⟩; have hb := Drawn0.below hd; refine ⟨_, rfl, ?_⟩; have n0_ := Aside0.mk (blk_below (g := gb1) BKgb1.out hb); have n1_ := Aside0.mk (Nat.lt_of_lt_of_le GUgb1.out hb.size); have n2_ := Aside0.mk (below_step HB.out hb); clear BKgb1; clear GUgb1; clear HB; have BKgb1 := n0_; have GUgb1 := n1_; have HB := n2_; clear n0_ n1_ n2_; clear hb; clear hd; (try clear hczgb1_0); (try clear hfzgb1_0); have hczgb1_0 : w_3.cell? ⟨gb1, 0, none⟩ = some (.slice A0_0 l0_0.length c0_0) := (blk_cell BKgb1.out 0).trans rfl; have hfzgb1_0 := blk_frozen BKgb1.out 0) | ((with_reducible refine gate_callee (f := 40) rfl ?_); refine goesL_ (some 29) rfl rfl Try.func40 (by kernel_rfl) rfl #[.agg #[.slice A0_0 l0_0.length c0_0]] rfl (by (try simp only [List.map_toArray, List.map_cons, List.map_nil]); first | done | rfl) ?_; (with_reducible refine (laws_toPicture.calls k _ _ l0_0 t4 _ ?side1 ?side2 E5.out).mono ?_); (case side1 => exact Kd.C_below HR0_0.out HB.out); (case side2 => exact HC0_0.out); rintro e w_4 ⟨vR5, rfl, hoR5, hb⟩; refine ⟨_, rfl, ?_⟩; obtain ⟨loR5, hloR5⟩ : ∃ n_ : Nat, n_ = w_3.heap.size := ⟨_, rfl⟩; obtain ⟨hiR5, hhiR5⟩ : ∃ n_ : Nat, n_ = w_4.heap.size := ⟨_, rfl⟩; have n0_ := Aside0.mk (blk_below (g := gb1) BKgb1.out hb); have n1_ := Aside0.mk (Nat.lt_of_lt_of_le GUgb1.out hb.size); have n2_ := Aside0.mk (below_step HB.out hb); have n3_ := Aside0.mk (Kd.S_lower (Kd.S_mono (ok' := fun k_ => loR5 ≤ k_ ∧ k_ < hiR5) (Kd.S_bound hoR5) (fun k_ hk_ => ⟨by rw [hloR5]; exact hk_.2.1, by rw [hhiR5]; exact hk_.2.2.1⟩)) (below_size HB.out)); have n4_ := Aside0.mk (by rw [hhiR5]; exact Nat.le_refl _ : hiR5 ≤ w_4.heap.size); have n5_ := Aside0.mk (fun k_ hk_ => by have := GUgb1.out; rw [← hloR5] at this; omega : ∀ k_, loR5 ≤ k_ ∧ k_ < hiR5 → k_ ≠ gb1); clear BKgb1; clear GUgb1; clear HB; have BKgb1 := n0_; have GUgb1 := n1_; have HB := n2_; have HOR5 := n3_; have UPR5 := n4_; have NER5_gb1 := n5_; clear n0_ n1_ n2_ n3_ n4_ n5_; clear hb; clear hoR5 hloR5 hhiR5; obtain ⟨AR5, cR5, eqR5⟩ := Kd.S_slice HOR5.out; subst eqR5; (try clear hczgb1_0); (try clear hfzgb1_0); have hczgb1_0 : w_4.cell? ⟨gb1, 0, none⟩ = some (.slice A0_0 l0_0.length c0_0) := (blk_cell BKgb1.out 0).trans rfl; have hfzgb1_0 := blk_frozen BKgb1.out 0) | ((with_reducible refine gate_callee (f := 34) rfl ?_); refine goesL_ (some 31) rfl rfl Try.func34 (by kernel_rfl) rfl #[.slice A1 l1.length c1] rfl (by (try simp only [List.map_toArray, List.map_cons, List.map_nil]); first | done | rfl) ?_; (with_reducible refine (laws_toInt64SS.calls k _ _ l1 t6 _ ?side1 ?side2 E6.out).mono ?_); (case side1 => exact Kd.C_below HR1.out HB.out); (case side2 => exact HC1.out); rintro e w_5 ⟨vR7, rfl, hoR7, hb⟩; refine ⟨_, rfl, ?_⟩; obtain ⟨loR7, hloR7⟩ : ∃ n_ : Nat, n_ = w_4.heap.size := ⟨_, rfl⟩; obtain ⟨hiR7, hhiR7⟩ : ∃ n_ : Nat, n_ = w_5.heap.size := ⟨_, rfl⟩; have n0_ := Aside0.mk (Kd.S_below HOR5.out hb); have n1_ := Aside0.mk (Nat.le_trans UPR5.out hb.size); have n2_ := Aside0.mk (blk_below (g := gb1) BKgb1.out hb); have n3_ := Aside0.mk (Nat.lt_of_lt_of_le GUgb1.out hb.size); have n4_ := Aside0.mk (below_step HB.out hb); have n5_ := Aside0.mk (Kd.S_lower (Kd.S_mono (ok' := fun k_ => loR7 ≤ k_ ∧ k_ < hiR7) (Kd.S_bound hoR7) (fun k_ hk_ => ⟨by rw [hloR7]; exact hk_.2.1, by rw [hhiR7]; exact hk_.2.2.1⟩)) (below_size HB.out)); have n6_ := Aside0.mk (by rw [hhiR7]; exact Nat.le_refl _ : hiR7 ≤ w_5.heap.size); have n7_ := Aside0.mk (fun k_ h1_ h2_ => by have := UPR5.out; rw [← hloR7] at this; omega : ∀ k_, loR5 ≤ k_ ∧ k_ < hiR5 → ¬ (loR7 ≤ k_ ∧ k_ < hiR7)); have n8_ := Aside0.mk (fun k_ h1_ h2_ => by have := UPR5.out; rw [← hloR7] at this; omega : ∀ k_, loR7 ≤ k_ ∧ k_ < hiR7 → ¬ (loR5 ≤ k_ ∧ k_ < hiR5)); have n9_ := Aside0.mk (fun k_ hk_ => by have := GUgb1.out; rw [← hloR7] at this; omega : ∀ k_, loR7 ≤ k_ ∧ k_ < hiR7 → k_ ≠ gb1); clear HOR5; clear UPR5; clear BKgb1; clear GUgb1; clear HB; have HOR5 := n0_; have UPR5 := n1_; have BKgb1 := n2_; have GUgb1 := n3_; have HB := n4_; have HOR7 := n5_; have UPR7 := n6_; have NRR5_R7 := n7_; have NRR7_R5 := n8_; have NER7_gb1 := n9_; clear n0_ n1_ n2_ n3_ n4_ n5_ n6_ n7_ n8_ n9_; clear hb; clear hoR7 hloR7 hhiR7; obtain ⟨AR7, cR7, eqR7⟩ := Kd.S_slice HOR7.out; subst eqR7; (try clear hczgb1_0); (try clear hfzgb1_0); have hczgb1_0 : w_5.cell? ⟨gb1, 0, none⟩ = some (.slice A0_0 l0_0.length c0_0) := (blk_cell BKgb1.out 0).trans rfl; have hfzgb1_0 := blk_frozen BKgb1.out 0) | ((with_reducible refine gate_callee (f := 39) rfl ?_); refine goesL_ (some 32) rfl rfl Try.func39 (by kernel_rfl) rfl #[.agg #[.slice AR5 t4.length cR5], .slice AR7 t6.length cR7] rfl (by (try simp only [List.map_toArray, List.map_cons, List.map_nil]); first | done | rfl) ?_; (with_reducible refine (spec_MaskDither.calls k _ _ t4 _ _ t6 t8 t39 _ ?side1 ?side2 ?side3 ?side4 E7.out).mono ?_); (case side1 => exact (Kd.S_reads' HOR5.out).2.2); (case side2 => exact (Kd.S_reads' HOR5.out).2.1); (case side3 => exact (Kd.S_reads' HOR7.out).2.2); (case side4 => exact (Kd.S_reads' HOR7.out).2.1); rintro e w_6 ⟨vR10, rfl, hoR10, hb⟩; refine ⟨_, rfl, ?_⟩; obtain ⟨loR10, hloR10⟩ : ∃ n_ : Nat, n_ = w_5.heap.size := ⟨_, rfl⟩; obtain ⟨hiR10, hhiR10⟩ : ∃ n_ : Nat, n_ = w_6.heap.size := ⟨_, rfl⟩; have n0_ := Aside0.mk (Kd.S_below HOR5.out hb); have n1_ := Aside0.mk (Kd.S_below HOR7.out hb); have n2_ := Aside0.mk (Nat.le_trans UPR5.out hb.size); have n3_ := Aside0.mk (Nat.le_trans UPR7.out hb.size); have n4_ := Aside0.mk (blk_below (g := gb1) BKgb1.out hb); have n5_ := Aside0.mk (Nat.lt_of_lt_of_le GUgb1.out hb.size); have n6_ := Aside0.mk (below_step HB.out hb); have n7_ := Aside0.mk (Kd.S_lower (Kd.S_mono (ok' := fun k_ => loR10 ≤ k_ ∧ k_ < hiR10) (Kd.S_bound hoR10) (fun k_ hk_ => ⟨by rw [hloR10]; exact hk_.2.1, by rw [hhiR10]; exact hk_.2.2.1⟩)) (below_size HB.out)); have n8_ := Aside0.mk (by rw [hhiR10]; exact Nat.le_refl _ : hiR10 ≤ w_6.heap.size); have n9_ := Aside0.mk (fun k_ h1_ h2_ => by have := UPR5.out; rw [← hloR10] at this; omega : ∀ k_, loR5 ≤ k_ ∧ k_ < hiR5 → ¬ (loR10 ≤ k_ ∧ k_ < hiR10)); have n10_ := Aside0.mk (fun k_ h1_ h2_ => by have := UPR5.out; rw [← hloR10] at this; omega : ∀ k_, loR10 ≤ k_ ∧ k_ < hiR10 → ¬ (loR5 ≤ k_ ∧ k_ < hiR5)); have n11_ := Aside0.mk (fun k_ h1_ h2_ => by have := UPR7.out; rw [← hloR10] at this; omega : ∀ k_, loR7 ≤ k_ ∧ k_ < hiR7 → ¬ (loR10 ≤ k_ ∧ k_ < hiR10)); have n12_ := Aside0.mk (fun k_ h1_ h2_ => by have := UPR7.out; rw [← hloR10] at this; omega : ∀ k_, loR10 ≤ k_ ∧ k_ < hiR10 → ¬ (loR7 ≤ k_ ∧ k_ < hiR7)); have n13_ := Aside0.mk (fun k_ hk_ => by have := GUgb1.out; rw [← hloR10] at this; omega : ∀ k_, loR10 ≤ k_ ∧ k_ < hiR10 → k_ ≠ gb1); clear HOR5; clear HOR7; clear UPR5; clear UPR7; clear BKgb1; clear GUgb1; clear HB; have HOR5 := n0_; have HOR7 := n1_; have UPR5 := n2_; have UPR7 := n3_; have BKgb1 := n4_; have GUgb1 := n5_; have HB := n6_; have HOR10 := n7_; have UPR10 := n8_; have NRR5_R10 := n9_; have NRR10_R5 := n10_; have NRR7_R10 := n11_; have NRR10_R7 := n12_; have NER10_gb1 := n13_; clear n0_ n1_ n2_ n3_ n4_ n5_ n6_ n7_ n8_ n9_ n10_ n11_ n12_ n13_; clear hb; clear hoR10 hloR10 hhiR10; obtain ⟨AR10, cR10, eqR10⟩ := Kd.S_slice HOR10.out; subst eqR10; (try clear hczgb1_0); (try clear hfzgb1_0); have hczgb1_0 : w_6.cell? ⟨gb1, 0, none⟩ = some (.slice A0_0 l0_0.length c0_0) := (blk_cell BKgb1.out 0).trans rfl; have hfzgb1_0 := blk_frozen BKgb1.out 0) | ((with_reducible refine gate_callee (f := 40) rfl ?_); refine goesL_ (some 36) rfl rfl Try.func40 (by kernel_rfl) rfl #[.agg #[.slice A0_0 l0_0.length c0_0]] rfl (by (try simp only [List.map_toArray, List.map_cons, List.map_nil]); first | done | rfl) ?_; have HWM := HB; have HBM := Aside0.mk (Below.refl w_6.heap.size w_6); (with_reducible refine (laws_toPicture.calls k _ _ l0_0 t11 _ ?side1 ?side2 E8.out).mono ?_); (case side1 => exact Kd.C_below HR0_0.out HB.out); (case side2 => exact HC0_0.out); rintro e w_7 ⟨vR12, rfl, hoR12, hb⟩; refine ⟨_, rfl, ?_⟩; obtain ⟨loR12, hloR12⟩ : ∃ n_ : Nat, n_ = w_6.heap.size := ⟨_, rfl⟩; obtain ⟨hiR12, hhiR12⟩ : ∃ n_ : Nat, n_ = w_7.heap.size := ⟨_, rfl⟩; have n0_ := Aside0.mk (Kd.S_below HOR5.out hb); have n1_ := Aside0.mk (Kd.S_below HOR7.out hb); have n2_ := Aside0.mk (Kd.S_below HOR10.out hb); have n3_ := Aside0.mk (Nat.le_trans UPR5.out hb.size); have n4_ := Aside0.mk (Nat.le_trans UPR7.out hb.size); have n5_ := Aside0.mk (Nat.le_trans UPR10.out hb.size); have n6_ := Aside0.mk (blk_below (g := gb1) BKgb1.out hb); have n7_ := Aside0.mk (Nat.lt_of_lt_of_le GUgb1.out hb.size); have n8_ := Aside0.mk (below_step HB.out hb); have n9_ := Aside0.mk (below_step HBM.out hb); have n10_ := Aside0.mk (Kd.S_lower (Kd.S_mono (ok' := fun k_ => loR12 ≤ k_ ∧ k_ < hiR12) (Kd.S_bound hoR12) (fun k_ hk_ => ⟨by rw [hloR12]; exact hk_.2.1, by rw [hhiR12]; exact hk_.2.2.1⟩)) (below_size HBM.out)); have n11_ := Aside0.mk (by rw [hhiR12]; exact Nat.le_refl _ : hiR12 ≤ w_7.heap.size); have n12_ := Aside0.mk (fun k_ h1_ h2_ => by have := UPR5.out; rw [← hloR12] at this; omega : ∀ k_, loR5 ≤ k_ ∧ k_ < hiR5 → ¬ (loR12 ≤ k_ ∧ k_ < hiR12)); have n13_ := Aside0.mk (fun k_ h1_ h2_ => by have := UPR5.out; rw [← hloR12] at this; omega : ∀ k_, loR12 ≤ k_ ∧ k_ < hiR12 → ¬ (loR5 ≤ k_ ∧ k_ < hiR5)); have n14_ := Aside0.mk (fun k_ h1_ h2_ => by have := UPR7.out; rw [← hloR12] at this; omega : ∀ k_, loR7 ≤ k_ ∧ k_ < hiR7 → ¬ (loR12 ≤ k_ ∧ k_ < hiR12)); have n15_ := Aside0.mk (fun k_ h1_ h2_ => by have := UPR7.out; rw [← hloR12] at this; omega : ∀ k_, loR12 ≤ k_ ∧ k_ < hiR12 → ¬ (loR7 ≤ k_ ∧ k_ < hiR7)); have n16_ := Aside0.mk (fun k_ h1_ h2_ => by have := UPR10.out; rw [← hloR12] at this; omega : ∀ k_, loR10 ≤ k_ ∧ k_ < hiR10 → ¬ (loR12 ≤ k_ ∧ k_ < hiR12)); have n17_ := Aside0.mk (fun k_ h1_ h2_ => by have := UPR10.out; rw [← hloR12] at this; omega : ∀ k_, loR12 ≤ k_ ∧ k_ < hiR12 → ¬ (loR10 ≤ k_ ∧ k_ < hiR10)); have n18_ := Aside0.mk (fun k_ hk_ => by have := GUgb1.out; rw [← hloR12] at this; omega : ∀ k_, loR12 ≤ k_ ∧ k_ < hiR12 → k_ ≠ gb1); clear HOR5; clear HOR7; clear HOR10; clear UPR5; clear UPR7; clear UPR10; clear BKgb1; clear GUgb1; clear HB; clear HBM; have HOR5 := n0_; have HOR7 := n1_; have HOR10 := n2_; have UPR5 := n3_; have UPR7 := n4_; have UPR10 := n5_; have BKgb1 := n6_; have GUgb1 := n7_; have HB := n8_; have HBM := n9_; have HOR12 := n10_; have UPR12 := n11_; have NRR5_R12 := n12_; have NRR12_R5 := n13_; have NRR7_R12 := n14_; have NRR12_R7 := n15_; have NRR10_R12 := n16_; have NRR12_R10 := n17_; have NER12_gb1 := n18_; clear n0_ n1_ n2_ n3_ n4_ n5_ n6_ n7_ n8_ n9_ n10_ n11_ n12_ n13_ n14_ n15_ n16_ n17_ n18_; clear hb; clear hoR12 hloR12 hhiR12; obtain ⟨AR12, cR12, eqR12⟩ := Kd.S_slice HOR12.out; subst eqR12; (try clear hczgb1_0); (try clear hfzgb1_0); have hczgb1_0 : w_7.cell? ⟨gb1, 0, none⟩ = some (.slice A0_0 l0_0.length c0_0) := (blk_cell BKgb1.out 0).trans rfl; have hfzgb1_0 := blk_frozen BKgb1.out 0) | ((with_reducible refine gate_dst (N := 8) rfl ?_); refine box_event ?hg (N := 8) ?hd (cs := #[.slice none 0 0]) (t := 33) ?hr ?_; (case hd => rfl); (case hg => rfl); (case hr => first | (go_simp; done) | (go_simp; rfl)); intro gb13 hg w_8 hbox hb; have n0_ := Aside0.mk (Kd.S_below HOR5.out hb); have n1_ := Aside0.mk (Kd.S_below HOR7.out hb); have n2_ := Aside0.mk (Kd.S_below HOR10.out hb); have n3_ := Aside0.mk (Kd.S_below HOR12.out hb); have n4_ := Aside0.mk (Nat.le_trans UPR5.out hb.size); have n5_ := Aside0.mk (Nat.le_trans UPR7.out hb.size); have n6_ := Aside0.mk (Nat.le_trans UPR10.out hb.size); have n7_ := Aside0.mk (Nat.le_trans UPR12.out hb.size); have n8_ := Aside0.mk (blk_below (g := gb1) BKgb1.out hb); have n9_ := Aside0.mk (Nat.lt_of_lt_of_le GUgb1.out hb.size); have n10_ := Aside0.mk (below_step HB.out hb); have n11_ := Aside0.mk (below_step HBM.out hb); have n12_ := Aside0.mk (hbox); have n13_ := Aside0.mk (blk_lt hbox); have n14_ := Aside0.mk (by rw [hg]; exact below_size HB.out : w.heap.size ≤ gb13); have n15_ := Aside0.mk (by rw [hg]; exact below_size HBM.out : w_6.heap.size ≤ gb13); have n16_ := Aside0.mk (fun k_ hk_ => by have := UPR5.out; rw [← hg] at this; omega : ∀ k_, loR5 ≤ k_ ∧ k_ < hiR5 → k_ ≠ gb13); have n17_ := Aside0.mk (fun k_ hk_ => by have := UPR7.out; rw [← hg] at this; omega : ∀ k_, loR7 ≤ k_ ∧ k_ < hiR7 → k_ ≠ gb13); have n18_ := Aside0.mk (fun k_ hk_ => by have := UPR10.out; rw [← hg] at this; omega : ∀ k_, loR10 ≤ k_ ∧ k_ < hiR10 → k_ ≠ gb13); have n19_ := Aside0.mk (fun k_ hk_ => by have := UPR12.out; rw [← hg] at this; omega : ∀ k_, loR12 ≤ k_ ∧ k_ < hiR12 → k_ ≠ gb13); have n20_ := Aside0.mk (by have := GUgb1.out; rw [← hg] at this; omega : gb1 ≠ gb13); have n21_ := Aside0.mk (by have := GUgb1.out; rw [← hg] at this; omega : gb13 ≠ gb1); clear HOR5; clear HOR7; clear HOR10; clear HOR12; clear UPR5; clear UPR7; clear UPR10; clear UPR12; clear BKgb1; clear GUgb1; clear HB; clear HBM; have HOR5 := n0_; have HOR7 := n1_; have HOR10 := n2_; have HOR12 := n3_; have UPR5 := n4_; have UPR7 := n5_; have UPR10 := n6_; have UPR12 := n7_; have BKgb1 := n8_; have GUgb1 := n9_; have HB := n10_; have HBM := n11_; have BKgb13 := n12_; have GUgb13 := n13_; have GEgb13 := n14_; have GMgb13 := n15_; have NER5_gb13 := n16_; have NER7_gb13 := n17_; have NER10_gb13 := n18_; have NER12_gb13 := n19_; have NBgb1_gb13 := n20_; have NBgb13_gb1 := n21_; clear n0_ n1_ n2_ n3_ n4_ n5_ n6_ n7_ n8_ n9_ n10_ n11_ n12_ n13_ n14_ n15_ n16_ n17_ n18_ n19_ n20_ n21_; clear hb hbox hg; (try clear hczgb1_0); (try clear hfzgb1_0); (try clear hczgb13_0); (try clear hfzgb13_0); have hczgb1_0 : w_8.cell? ⟨gb1, 0, none⟩ = some (.slice A0_0 l0_0.length c0_0) := (blk_cell BKgb1.out 0).trans rfl; have hfzgb1_0 := blk_frozen BKgb1.out 0; have hczgb13_0 : w_8.cell? ⟨gb13, 0, none⟩ = some (.slice none 0 0) := (blk_cell BKgb13.out 0).trans rfl; have hfzgb13_0 := blk_frozen BKgb13.out 0) | ((with_reducible refine gate_store (t := 33) (p := 8) rfl ?_); refine store_event (t := 33) (p := 8) (v := ?vow_9) (w1 := (w_8.setCell ⟨gb13, 0, none⟩ (.slice AR12 t11.length cR12))) ?hg ?ho ?hn ?hr ?_; (case ho => rfl); (case hg => rfl); (case hn => rfl); (case hr => first | (go_simp; done) | (go_simp; rfl)); intro w_9 hw; have n0_ := Aside0.mk (by rw [hw]; exact (Kd.S_far (p := ⟨gb13, 0, none⟩) HOR5.out NER5_gb13.out (.slice AR12 t11.length cR12)) : Kd.S (Kd.slice 2 (Kd.int .i64)) 34 w_9 w.heap.size (fun k_ => loR5 ≤ k_ ∧ k_ < hiR5) (.slice AR5 t4.length cR5) t4); have n1_ := Aside0.mk (by rw [hw]; simp only [World.size_setCell]; exact UPR5.out : hiR5 ≤ w_9.heap.size); have n2_ := Aside0.mk (by rw [hw]; exact (Kd.S_far (p := ⟨gb13, 0, none⟩) HOR7.out NER7_gb13.out (.slice AR12 t11.length cR12)) : Kd.S (Kd.slice 2 (Kd.int .i64)) 34 w_9 w.heap.size (fun k_ => loR7 ≤ k_ ∧ k_ < hiR7) (.slice AR7 t6.length cR7) t6); have n3_ := Aside0.mk (by rw [hw]; simp only [World.size_setCell]; exact UPR7.out : hiR7 ≤ w_9.heap.size); have n4_ := Aside0.mk (by rw [hw]; exact (Kd.S_far (p := ⟨gb13, 0, none⟩) HOR10.out NER10_gb13.out (.slice AR12 t11.length cR12)) : Kd.S (Kd.slice 2 (Kd.int .i64)) 34 w_9 w.heap.size (fun k_ => loR10 ≤ k_ ∧ k_ < hiR10) (.slice AR10 t8.length cR10) t8); have n5_ := Aside0.mk (by rw [hw]; simp only [World.size_setCell]; exact UPR10.out : hiR10 ≤ w_9.heap.size); have n6_ := Aside0.mk (by rw [hw]; exact (Kd.S_far (p := ⟨gb13, 0, none⟩) HOR12.out NER12_gb13.out (.slice AR12 t11.length cR12)) : Kd.S (Kd.slice 2 (Kd.int .i64)) 34 w_9 w_6.heap.size (fun k_ => loR12 ≤ k_ ∧ k_ < hiR12) (.slice AR12 t11.length cR12) t11); have n7_ := Aside0.mk (by rw [hw]; simp only [World.size_setCell]; exact UPR12.out : hiR12 ≤ w_9.heap.size); have n8_ := Aside0.mk (by rw [hw]; exact (blk_far BKgb1.out NBgb1_gb13.out (.slice AR12 t11.length cR12)) : w_9.heap[gb1]? = some (.cells #[.slice A0_0 l0_0.length c0_0] 49 (0, 0))); have n9_ := Aside0.mk (by rw [hw]; simp only [World.size_setCell]; exact GUgb1.out : gb1 < w_9.heap.size); have n10_ := Aside0.mk (by rw [hw]; exact (blk_put (cs' := #[.slice AR12 t11.length cR12]) BKgb13.out 0 (.slice AR12 t11.length cR12) rfl) : w_9.heap[gb13]? = some (.cells #[.slice AR12 t11.length cR12] 33 (0, 0))); have n11_ := Aside0.mk (by rw [hw]; simp only [World.size_setCell]; exact GUgb13.out : gb13 < w_9.heap.size); have n12_ := Aside0.mk (by rw [hw]; exact (below_set HB.out GEgb13.out) : Below w.heap.size w w_9); have n13_ := Aside0.mk (by rw [hw]; exact (below_set HBM.out GMgb13.out) : Below w_6.heap.size w_6 w_9); clear HOR5; clear UPR5; clear HOR7; clear UPR7; clear HOR10; clear UPR10; clear HOR12; clear UPR12; clear BKgb1; clear GUgb1; clear BKgb13; clear GUgb13; clear HB; clear HBM; have HOR5 := n0_; have UPR5 := n1_; have HOR7 := n2_; have UPR7 := n3_; have HOR10 := n4_; have UPR10 := n5_; have HOR12 := n6_; have UPR12 := n7_; have BKgb1 := n8_; have GUgb1 := n9_; have BKgb13 := n10_; have GUgb13 := n11_; have HB := n12_; have HBM := n13_; clear n0_ n1_ n2_ n3_ n4_ n5_ n6_ n7_ n8_ n9_ n10_ n11_ n12_ n13_; clear hw; (try clear hczgb1_0); (try clear hfzgb1_0); (try clear hczgb13_0); (try clear hfzgb13_0); have hczgb1_0 : w_9.cell? ⟨gb1, 0, none⟩ = some (.slice A0_0 l0_0.length c0_0) := (blk_cell BKgb1.out 0).trans rfl; have hfzgb1_0 := blk_frozen BKgb1.out 0; have hczgb13_0 : w_9.cell? ⟨gb13, 0, none⟩ = some (.slice AR12 t11.length cR12) := (blk_cell BKgb13.out 0).trans rfl; have hfzgb13_0 := blk_frozen BKgb13.out 0) | ((with_reducible refine gate_callee (f := 34) rfl ?_); refine goesL_ (some 38) rfl rfl Try.func34 (by kernel_rfl) rfl #[.slice A1 l1.length c1] rfl (by (try simp only [List.map_toArray, List.map_cons, List.map_nil]); first | done | rfl) ?_; (with_reducible refine (laws_toInt64SS.calls k _ _ l1 t14 _ ?side1 ?side2 E9.out).mono ?_); (case side1 => exact Kd.C_below HR1.out HB.out); (case side2 => exact HC1.out); rintro e w_10 ⟨vR15, rfl, hoR15, hb⟩; refine ⟨_, rfl, ?_⟩; obtain ⟨loR15, hloR15⟩ : ∃ n_ : Nat, n_ = w_9.heap.size := ⟨_, rfl⟩; obtain ⟨hiR15, hhiR15⟩ : ∃ n_ : Nat, n_ = w_10.heap.size := ⟨_, rfl⟩; have n0_ := Aside0.mk (Kd.S_below HOR5.out hb); have n1_ := Aside0.mk (Kd.S_below HOR7.out hb); have n2_ := Aside0.mk (Kd.S_below HOR10.out hb); have n3_ := Aside0.mk (Kd.S_below HOR12.out hb); have n4_ := Aside0.mk (Nat.le_trans UPR5.out hb.size); have n5_ := Aside0.mk (Nat.le_trans UPR7.out hb.size); have n6_ := Aside0.mk (Nat.le_trans UPR10.out hb.size); have n7_ := Aside0.mk (Nat.le_trans UPR12.out hb.size); have n8_ := Aside0.mk (blk_below (g := gb1) BKgb1.out hb); have n9_ := Aside0.mk (blk_below (g := gb13) BKgb13.out hb); have n10_ := Aside0.mk (Nat.lt_of_lt_of_le GUgb1.out hb.size); have n11_ := Aside0.mk (Nat.lt_of_lt_of_le GUgb13.out hb.size); have n12_ := Aside0.mk (below_step HB.out hb); have n13_ := Aside0.mk (below_step HBM.out hb); have n14_ := Aside0.mk (Kd.S_lower (Kd.S_mono (ok' := fun k_ => loR15 ≤ k_ ∧ k_ < hiR15) (Kd.S_bound hoR15) (fun k_ hk_ => ⟨by rw [hloR15]; exact hk_.2.1, by rw [hhiR15]; exact hk_.2.2.1⟩)) (below_size HBM.out)); have n15_ := Aside0.mk (by rw [hhiR15]; exact Nat.le_refl _ : hiR15 ≤ w_10.heap.size); have n16_ := Aside0.mk (fun k_ h1_ h2_ => by have := UPR5.out; rw [← hloR15] at this; omega : ∀ k_, loR5 ≤ k_ ∧ k_ < hiR5 → ¬ (loR15 ≤ k_ ∧ k_ < hiR15)); have n17_ := Aside0.mk (fun k_ h1_ h2_ => by have := UPR5.out; rw [← hloR15] at this; omega : ∀ k_, loR15 ≤ k_ ∧ k_ < hiR15 → ¬ (loR5 ≤ k_ ∧ k_ < hiR5)); have n18_ := Aside0.mk (fun k_ h1_ h2_ => by have := UPR7.out; rw [← hloR15] at this; omega : ∀ k_, loR7 ≤ k_ ∧ k_ < hiR7 → ¬ (loR15 ≤ k_ ∧ k_ < hiR15)); have n19_ := Aside0.mk (fun k_ h1_ h2_ => by have := UPR7.out; rw [← hloR15] at this; omega : ∀ k_, loR15 ≤ k_ ∧ k_ < hiR15 → ¬ (loR7 ≤ k_ ∧ k_ < hiR7)); have n20_ := Aside0.mk (fun k_ h1_ h2_ => by have := UPR10.out; rw [← hloR15] at this; omega : ∀ k_, loR10 ≤ k_ ∧ k_ < hiR10 → ¬ (loR15 ≤ k_ ∧ k_ < hiR15)); have n21_ := Aside0.mk (fun k_ h1_ h2_ => by have := UPR10.out; rw [← hloR15] at this; omega : ∀ k_, loR15 ≤ k_ ∧ k_ < hiR15 → ¬ (loR10 ≤ k_ ∧ k_ < hiR10)); have n22_ := Aside0.mk (fun k_ h1_ h2_ => by have := UPR12.out; rw [← hloR15] at this; omega : ∀ k_, loR12 ≤ k_ ∧ k_ < hiR12 → ¬ (loR15 ≤ k_ ∧ k_ < hiR15)); have n23_ := Aside0.mk (fun k_ h1_ h2_ => by have := UPR12.out; rw [← hloR15] at this; omega : ∀ k_, loR15 ≤ k_ ∧ k_ < hiR15 → ¬ (loR12 ≤ k_ ∧ k_ < hiR12)); have n24_ := Aside0.mk (fun k_ hk_ => by have := GUgb1.out; rw [← hloR15] at this; omega : ∀ k_, loR15 ≤ k_ ∧ k_ < hiR15 → k_ ≠ gb1); have n25_ := Aside0.mk (fun k_ hk_ => by have := GUgb13.out; rw [← hloR15] at this; omega : ∀ k_, loR15 ≤ k_ ∧ k_ < hiR15 → k_ ≠ gb13); clear HOR5; clear HOR7; clear HOR10; clear HOR12; clear UPR5; clear UPR7; clear UPR10; clear UPR12; clear BKgb1; clear BKgb13; clear GUgb1; clear GUgb13; clear HB; clear HBM; have HOR5 := n0_; have HOR7 := n1_; have HOR10 := n2_; have HOR12 := n3_; have UPR5 := n4_; have UPR7 := n5_; have UPR10 := n6_; have UPR12 := n7_; have BKgb1 := n8_; have BKgb13 := n9_; have GUgb1 := n10_; have GUgb13 := n11_; have HB := n12_; have HBM := n13_; have HOR15 := n14_; have UPR15 := n15_; have NRR5_R15 := n16_; have NRR15_R5 := n17_; have NRR7_R15 := n18_; have NRR15_R7 := n19_; have NRR10_R15 := n20_; have NRR15_R10 := n21_; have NRR12_R15 := n22_; have NRR15_R12 := n23_; have NER15_gb1 := n24_; have NER15_gb13 := n25_; clear n0_ n1_ n2_ n3_ n4_ n5_ n6_ n7_ n8_ n9_ n10_ n11_ n12_ n13_ n14_ n15_ n16_ n17_ n18_ n19_ n20_ n21_ n22_ n23_ n24_ n25_; clear hb; clear hoR15 hloR15 hhiR15; obtain ⟨AR15, cR15, eqR15⟩ := Kd.S_slice HOR15.out; subst eqR15; (try clear hczgb1_0); (try clear hfzgb1_0); (try clear hczgb13_0); (try clear hfzgb13_0); have hczgb1_0 : w_10.cell? ⟨gb1, 0, none⟩ = some (.slice A0_0 l0_0.length c0_0) := (blk_cell BKgb1.out 0).trans rfl; have hfzgb1_0 := blk_frozen BKgb1.out 0; have hczgb13_0 : w_10.cell? ⟨gb13, 0, none⟩ = some (.slice AR12 t11.length cR12) := (blk_cell BKgb13.out 0).trans rfl; have hfzgb13_0 := blk_frozen BKgb13.out 0) | ((with_reducible refine gate_callee (f := 41) rfl ?_); refine goesL_ (some 42) rfl rfl Try.func41 (by kernel_rfl) rfl #[.agg #[.slice AR12 t11.length cR12], .slice AR15 t14.length cR15] rfl (by (try simp only [List.map_toArray, List.map_cons, List.map_nil]); first | done | rfl) ?_; (with_reducible refine (impl_MaskDither.calls k _ _ t11 _ _ t14 t16 t39 _ ?side1 ?side2 ?side3 ?side4 E10.out).mono ?_); (case side1 => exact (Kd.S_reads' HOR12.out).2.2); (case side2 => exact (Kd.S_reads' HOR12.out).2.1); (case side3 => exact (Kd.S_reads' HOR15.out).2.2); (case side4 => exact (Kd.S_reads' HOR15.out).2.1); rintro e w_11 ⟨vR18, rfl, hoR18, hb⟩; refine ⟨_, rfl, ?_⟩; obtain ⟨loR18, hloR18⟩ : ∃ n_ : Nat, n_ = w_10.heap.size := ⟨_, rfl⟩; obtain ⟨hiR18, hhiR18⟩ : ∃ n_ : Nat, n_ = w_11.heap.size := ⟨_, rfl⟩; have n0_ := Aside0.mk (Kd.S_below HOR5.out hb); have n1_ := Aside0.mk (Kd.S_below HOR7.out hb); have n2_ := Aside0.mk (Kd.S_below HOR10.out hb); have n3_ := Aside0.mk (Kd.S_below HOR12.out hb); have n4_ := Aside0.mk (Kd.S_below HOR15.out hb); have n5_ := Aside0.mk (Nat.le_trans UPR5.out hb.size); have n6_ := Aside0.mk (Nat.le_trans UPR7.out hb.size); have n7_ := Aside0.mk (Nat.le_trans UPR10.out hb.size); have n8_ := Aside0.mk (Nat.le_trans UPR12.out hb.size); have n9_ := Aside0.mk (Nat.le_trans UPR15.out hb.size); have n10_ := Aside0.mk (blk_below (g := gb1) BKgb1.out hb); have n11_ := Aside0.mk (blk_below (g := gb13) BKgb13.out hb); have n12_ := Aside0.mk (Nat.lt_of_lt_of_le GUgb1.out hb.size); have n13_ := Aside0.mk (Nat.lt_of_lt_of_le GUgb13.out hb.size); have n14_ := Aside0.mk (below_step HB.out hb); have n15_ := Aside0.mk (below_step HBM.out hb); have n16_ := Aside0.mk (Kd.S_lower (Kd.S_mono (ok' := fun k_ => loR18 ≤ k_ ∧ k_ < hiR18) (Kd.S_bound hoR18) (fun k_ hk_ => ⟨by rw [hloR18]; exact hk_.2.1, by rw [hhiR18]; exact hk_.2.2.1⟩)) (below_size HBM.out)); have n17_ := Aside0.mk (by rw [hhiR18]; exact Nat.le_refl _ : hiR18 ≤ w_11.heap.size); have n18_ := Aside0.mk (fun k_ h1_ h2_ => by have := UPR5.out; rw [← hloR18] at this; omega : ∀ k_, loR5 ≤ k_ ∧ k_ < hiR5 → ¬ (loR18 ≤ k_ ∧ k_ < hiR18)); have n19_ := Aside0.mk (fun k_ h1_ h2_ => by have := UPR5.out; rw [← hloR18] at this; omega : ∀ k_, loR18 ≤ k_ ∧ k_ < hiR18 → ¬ (loR5 ≤ k_ ∧ k_ < hiR5)); have n20_ := Aside0.mk (fun k_ h1_ h2_ => by have := UPR7.out; rw [← hloR18] at this; omega : ∀ k_, loR7 ≤ k_ ∧ k_ < hiR7 → ¬ (loR18 ≤ k_ ∧ k_ < hiR18)); have n21_ := Aside0.mk (fun k_ h1_ h2_ => by have := UPR7.out; rw [← hloR18] at this; omega : ∀ k_, loR18 ≤ k_ ∧ k_ < hiR18 → ¬ (loR7 ≤ k_ ∧ k_ < hiR7)); have n22_ := Aside0.mk (fun k_ h1_ h2_ => by have := UPR10.out; rw [← hloR18] at this; omega : ∀ k_, loR10 ≤ k_ ∧ k_ < hiR10 → ¬ (loR18 ≤ k_ ∧ k_ < hiR18)); have n23_ := Aside0.mk (fun k_ h1_ h2_ => by have := UPR10.out; rw [← hloR18] at this; omega : ∀ k_, loR18 ≤ k_ ∧ k_ < hiR18 → ¬ (loR10 ≤ k_ ∧ k_ < hiR10)); have n24_ := Aside0.mk (fun k_ h1_ h2_ => by have := UPR12.out; rw [← hloR18] at this; omega : ∀ k_, loR12 ≤ k_ ∧ k_ < hiR12 → ¬ (loR18 ≤ k_ ∧ k_ < hiR18)); have n25_ := Aside0.mk (fun k_ h1_ h2_ => by have := UPR12.out; rw [← hloR18] at this; omega : ∀ k_, loR18 ≤ k_ ∧ k_ < hiR18 → ¬ (loR12 ≤ k_ ∧ k_ < hiR12)); have n26_ := Aside0.mk (fun k_ h1_ h2_ => by have := UPR15.out; rw [← hloR18] at this; omega : ∀ k_, loR15 ≤ k_ ∧ k_ < hiR15 → ¬ (loR18 ≤ k_ ∧ k_ < hiR18)); have n27_ := Aside0.mk (fun k_ h1_ h2_ => by have := UPR15.out; rw [← hloR18] at this; omega : ∀ k_, loR18 ≤ k_ ∧ k_ < hiR18 → ¬ (loR15 ≤ k_ ∧ k_ < hiR15)); have n28_ := Aside0.mk (fun k_ hk_ => by have := GUgb1.out; rw [← hloR18] at this; omega : ∀ k_, loR18 ≤ k_ ∧ k_ < hiR18 → k_ ≠ gb1); have n29_ := Aside0.mk (fun k_ hk_ => by have := GUgb13.out; rw [← hloR18] at this; omega : ∀ k_, loR18 ≤ k_ ∧ k_ < hiR18 → k_ ≠ gb13); clear HOR5; clear HOR7; clear HOR10; clear HOR12; clear HOR15; clear UPR5; clear UPR7; clear UPR10; clear UPR12; clear UPR15; clear BKgb1; clear BKgb13; clear GUgb1; clear GUgb13; clear HB; clear HBM; have HOR5 := n0_; have HOR7 := n1_; have HOR10 := n2_; have HOR12 := n3_; have HOR15 := n4_; have UPR5 := n5_; have UPR7 := n6_; have UPR10 := n7_; have UPR12 := n8_; have UPR15 := n9_; have BKgb1 := n10_; have BKgb13 := n11_; have GUgb1 := n12_; have GUgb13 := n13_; have HB := n14_; have HBM := n15_; have HOR18 := n16_; have UPR18 := n17_; have NRR5_R18 := n18_; have NRR18_R5 := n19_; have NRR7_R18 := n20_; have NRR18_R7 := n21_; have NRR10_R18 := n22_; have NRR18_R10 := n23_; have NRR12_R18 := n24_; have NRR18_R12 := n25_; have NRR15_R18 := n26_; have NRR18_R15 := n27_; have NER18_gb1 := n28_; have NER18_gb13 := n29_; clear n0_ n1_ n2_ n3_ n4_ n5_ n6_ n7_ n8_ n9_ n10_ n11_ n12_ n13_ n14_ n15_ n16_ n17_ n18_ n19_ n20_ n21_ n22_ n23_ n24_ n25_ n26_ n27_ n28_ n29_; clear hb; clear hoR18 hloR18 hhiR18; obtain ⟨AR18, cR18, eqR18⟩ := Kd.S_slice HOR18.out; subst eqR18; (try clear hczgb1_0); (try clear hfzgb1_0); (try clear hczgb13_0); (try clear hfzgb13_0); have hczgb1_0 : w_11.cell? ⟨gb1, 0, none⟩ = some (.slice A0_0 l0_0.length c0_0) := (blk_cell BKgb1.out 0).trans rfl; have hfzgb1_0 := blk_frozen BKgb1.out 0; have hczgb13_0 : w_11.cell? ⟨gb13, 0, none⟩ = some (.slice AR12 t11.length cR12) := (blk_cell BKgb13.out 0).trans rfl; have hfzgb13_0 := blk_frozen BKgb13.out 0) | ((with_reducible refine gate_callee (f := 17) rfl ?_); refine goesL_ (some 47) rfl rfl Try.func17 (by kernel_rfl) rfl #[.slice AR18 t16.length cR18, .slice AR10 t8.length cR10] rfl (by (try simp only [List.map_toArray, List.map_cons, List.map_nil]); first | done | rfl) ?_; (with_reducible refine (laws_eqInt64SS.calls k _ _ t16 _ _ t8 true _ ?side1 ?side2 ?side3 ?side4 E11.out).mono ?_); (case side1 => exact (Kd.S_reads' HOR18.out).2.2); (case side2 => exact (Kd.S_reads' HOR18.out).2.1); (case side3 => exact (Kd.S_reads' HOR10.out).2.2); (case side4 => exact (Kd.S_reads' HOR10.out).2.1); rintro e w_12 ⟨rfl, hd⟩; have hb := Drawn0.below hd; refine ⟨_, rfl, ?_⟩; have n0_ := Aside0.mk (Kd.S_below HOR5.out hb); have n1_ := Aside0.mk (Kd.S_below HOR7.out hb); have n2_ := Aside0.mk (Kd.S_below HOR10.out hb); have n3_ := Aside0.mk (Kd.S_below HOR12.out hb); have n4_ := Aside0.mk (Kd.S_below HOR15.out hb); have n5_ := Aside0.mk (Kd.S_below HOR18.out hb); have n6_ := Aside0.mk (Nat.le_trans UPR5.out hb.size); have n7_ := Aside0.mk (Nat.le_trans UPR7.out hb.size); have n8_ := Aside0.mk (Nat.le_trans UPR10.out hb.size); have n9_ := Aside0.mk (Nat.le_trans UPR12.out hb.size); have n10_ := Aside0.mk (Nat.le_trans UPR15.out hb.size); have n11_ := Aside0.mk (Nat.le_trans UPR18.out hb.size); have n12_ := Aside0.mk (blk_below (g := gb1) BKgb1.out hb); have n13_ := Aside0.mk (blk_below (g := gb13) BKgb13.out hb); have n14_ := Aside0.mk (Nat.lt_of_lt_of_le GUgb1.out hb.size); have n15_ := Aside0.mk (Nat.lt_of_lt_of_le GUgb13.out hb.size); have n16_ := Aside0.mk (below_step HB.out hb); have n17_ := Aside0.mk (below_step HBM.out hb); clear HOR5; clear HOR7; clear HOR10; clear HOR12; clear HOR15; clear HOR18; clear UPR5; clear UPR7; clear UPR10; clear UPR12; clear UPR15; clear UPR18; clear BKgb1; clear BKgb13; clear GUgb1; clear GUgb13; clear HB; clear HBM; have HOR5 := n0_; have HOR7 := n1_; have HOR10 := n2_; have HOR12 := n3_; have HOR15 := n4_; have HOR18 := n5_; have UPR5 := n6_; have UPR7 := n7_; have UPR10 := n8_; have UPR12 := n9_; have UPR15 := n10_; have UPR18 := n11_; have BKgb1 := n12_; have BKgb13 := n13_; have GUgb1 := n14_; have GUgb13 := n15_; have HB := n16_; have HBM := n17_; clear n0_ n1_ n2_ n3_ n4_ n5_ n6_ n7_ n8_ n9_ n10_ n11_ n12_ n13_ n14_ n15_ n16_ n17_; clear hb; clear hd; (try clear hczgb1_0); (try clear hfzgb1_0); (try clear hczgb13_0); (try clear hfzgb13_0); have hczgb1_0 : w_12.cell? ⟨gb1, 0, none⟩ = some (.slice A0_0 l0_0.length c0_0) := (blk_cell BKgb1.out 0).trans rfl; have hfzgb1_0 := blk_frozen BKgb1.out 0; have hczgb13_0 : w_12.cell? ⟨gb13, 0, none⟩ = some (.slice AR12 t11.length cR12) := (blk_cell BKgb13.out 0).trans rfl; have hfzgb13_0 := blk_frozen BKgb13.out 0))
 have n0_ := Aside0.mk (Kd.S_drew HOR5.out)
 have n1_ := Aside0.mk (Kd.S_drew HOR7.out)
 have n2_ := Aside0.mk (Kd.S_drew HOR10.out)
 have n3_ := Aside0.mk (Kd.S_drew HOR12.out)
 have n4_ := Aside0.mk (Kd.S_drew HOR15.out)
 have n5_ := Aside0.mk (Kd.S_drew HOR18.out)
 have n6_ := Aside0.mk (show hiR5 ≤ w_12.drew.heap.size from UPR5.out)
 have n7_ := Aside0.mk (show hiR7 ≤ w_12.drew.heap.size from UPR7.out)
 have n8_ := Aside0.mk (show hiR10 ≤ w_12.drew.heap.size from UPR10.out)
 have n9_ := Aside0.mk (show hiR12 ≤ w_12.drew.heap.size from UPR12.out)
 have n10_ := Aside0.mk (show hiR15 ≤ w_12.drew.heap.size from UPR15.out)
 have n11_ := Aside0.mk (show hiR18 ≤ w_12.drew.heap.size from UPR18.out)
 have n12_ := Aside0.mk (blk_drew BKgb1.out)
 have n13_ := Aside0.mk (blk_drew BKgb13.out)
 have n14_ := Aside0.mk (show gb1 < w_12.drew.heap.size from GUgb1.out)
 have n15_ := Aside0.mk (show gb13 < w_12.drew.heap.size from GUgb13.out)
 have n16_ := Aside0.mk (below_drew1 HB.out)
 have n17_ := Aside0.mk (below_drew1 HBM.out)
 clear HOR5
 clear HOR7
 clear HOR10
 clear HOR12
 clear HOR15
 clear HOR18
 clear UPR5
 clear UPR7
 clear UPR10
 clear UPR12
 clear UPR15
 clear UPR18
 clear BKgb1
 clear BKgb13
 clear GUgb1
 clear GUgb13
 clear HB
 clear HBM
 have HOR5 := n0_
 have HOR7 := n1_
 have HOR10 := n2_
 have HOR12 := n3_
 have HOR15 := n4_
 have HOR18 := n5_
 have UPR5 := n6_
 have UPR7 := n7_
 have UPR10 := n8_
 have UPR12 := n9_
 have UPR15 := n10_
 have UPR18 := n11_
 have BKgb1 := n12_
 have BKgb13 := n13_
 have GUgb1 := n14_
 have GUgb13 := n15_
 have HB := n16_
 have HBM := n17_
 clear n0_ n1_ n2_ n3_ n4_ n5_ n6_ n7_ n8_ n9_ n10_ n11_ n12_ n13_ n14_ n15_ n16_ n17_
 (try clear hczgb1_0); (try clear hfzgb1_0)
 (try clear hczgb13_0); (try clear hfzgb13_0)
 refine start_ (n := 5) (S := fun w' => w'.cell? ⟨gb13, 0, none⟩ = some (.slice AR12 t11.length cR12) ∧ w'.cell? ⟨gb1, 0, none⟩ = some (.slice A0_0 l0_0.length c0_0)) (ds := []) #[false, false, false, false, false] (by kernel_rfl) rfl rfl ⟨(blk_cell BKgb13.out 0).trans rfl, (blk_cell BKgb1.out 0).trans rfl⟩ (fun hHeld => ?_)
 generalize w_12.drew = w_13 at HOR5 HOR7 HOR10 HOR12 HOR15 HOR18 UPR5 UPR7 UPR10 UPR12 UPR15 UPR18 BKgb1 BKgb13 GUgb1 GUgb13 HB HBM hHeld ⊢
 refine take_ (i := 0) (N := some 54) (v := ?_) (a' := ?_) #[true, false, false, false, false] rfl rfl (by kernel_rfl) (fun _ _ _ h => h) (Or.inl ⟨by rfl, ?_⟩) hHeld ?_ ?_
 rotate_left
 ·rintro w' ⟨s0, s1⟩
  go_simp
  with_reducible rfl
 rotate_left
 ·simp only [Act.put, List.setIfInBounds_toArray, List.set_cons_zero, List.set_cons_succ, i64_w, i32_w]
  rfl
 refine take_ (i := 1) (N := some 55) (v := ?_) (a' := ?_) #[true, true, false, false, false] rfl rfl (by kernel_rfl) (fun _ _ _ h => h) (Or.inl ⟨by rfl, ?_⟩) hHeld ?_ ?_
 rotate_left
 ·rintro w' ⟨s0, s1⟩
  go_simp
  with_reducible rfl
 rotate_left
 ·simp only [Act.put, List.setIfInBounds_toArray, List.set_cons_zero, List.set_cons_succ, i64_w, i32_w]
  rfl
 refine one_ (i := 2) (N := some 56) #[true, true, true, false, false] rfl rfl (by kernel_rfl) (by decide) (fun K hK => ?_)
 refine goes_ Try.func40 (by kernel_rfl) rfl #[.agg #[.slice A0_0 l0_0.length c0_0]] (by rfl) rfl rfl (by (try simp only [List.map_toArray, List.map_cons, List.map_nil]); first | done | rfl) ?_
 (with_reducible refine (laws_toPicture.calls k _ _ l0_0 t20 _ ?side1 ?side2 E14.out).mono ?_)
 (case side1 => exact Kd.C_below HR0_0.out HB.out)
 (case side2 => exact HC0_0.out)
 rintro e w_14 ⟨vR21, rfl, hoR21, hb⟩
 refine ⟨_, rfl, ?_⟩
 obtain ⟨loR21, hloR21⟩ : ∃ n_ : Nat, n_ = w_13.heap.size := ⟨_, rfl⟩
 obtain ⟨hiR21, hhiR21⟩ : ∃ n_ : Nat, n_ = w_14.heap.size := ⟨_, rfl⟩
 have n0_ := Aside0.mk (Kd.S_below HOR5.out hb)
 have n1_ := Aside0.mk (Kd.S_below HOR7.out hb)
 have n2_ := Aside0.mk (Kd.S_below HOR10.out hb)
 have n3_ := Aside0.mk (Kd.S_below HOR12.out hb)
 have n4_ := Aside0.mk (Kd.S_below HOR15.out hb)
 have n5_ := Aside0.mk (Kd.S_below HOR18.out hb)
 have n6_ := Aside0.mk (Nat.le_trans UPR5.out hb.size)
 have n7_ := Aside0.mk (Nat.le_trans UPR7.out hb.size)
 have n8_ := Aside0.mk (Nat.le_trans UPR10.out hb.size)
 have n9_ := Aside0.mk (Nat.le_trans UPR12.out hb.size)
 have n10_ := Aside0.mk (Nat.le_trans UPR15.out hb.size)
 have n11_ := Aside0.mk (Nat.le_trans UPR18.out hb.size)
 have n12_ := Aside0.mk (blk_below (g := gb1) BKgb1.out hb)
 have n13_ := Aside0.mk (blk_below (g := gb13) BKgb13.out hb)
 have n14_ := Aside0.mk (Nat.lt_of_lt_of_le GUgb1.out hb.size)
 have n15_ := Aside0.mk (Nat.lt_of_lt_of_le GUgb13.out hb.size)
 have n16_ := Aside0.mk (below_step HB.out hb)
 have n17_ := Aside0.mk (below_step HBM.out hb)
 have n18_ := Aside0.mk (Kd.S_lower (Kd.S_mono (ok' := fun k_ => loR21 ≤ k_ ∧ k_ < hiR21) (Kd.S_bound hoR21) (fun k_ hk_ => ⟨by rw [hloR21]; exact hk_.2.1, by rw [hhiR21]; exact hk_.2.2.1⟩)) (below_size HBM.out))
 have n19_ := Aside0.mk (by rw [hhiR21]; exact Nat.le_refl _ : hiR21 ≤ w_14.heap.size)
 have n20_ := Aside0.mk (fun k_ h1_ h2_ => by have := UPR5.out; rw [← hloR21] at this; omega : ∀ k_, loR5 ≤ k_ ∧ k_ < hiR5 → ¬ (loR21 ≤ k_ ∧ k_ < hiR21))
 have n21_ := Aside0.mk (fun k_ h1_ h2_ => by have := UPR5.out; rw [← hloR21] at this; omega : ∀ k_, loR21 ≤ k_ ∧ k_ < hiR21 → ¬ (loR5 ≤ k_ ∧ k_ < hiR5))
 have n22_ := Aside0.mk (fun k_ h1_ h2_ => by have := UPR7.out; rw [← hloR21] at this; omega : ∀ k_, loR7 ≤ k_ ∧ k_ < hiR7 → ¬ (loR21 ≤ k_ ∧ k_ < hiR21))
 have n23_ := Aside0.mk (fun k_ h1_ h2_ => by have := UPR7.out; rw [← hloR21] at this; omega : ∀ k_, loR21 ≤ k_ ∧ k_ < hiR21 → ¬ (loR7 ≤ k_ ∧ k_ < hiR7))
 have n24_ := Aside0.mk (fun k_ h1_ h2_ => by have := UPR10.out; rw [← hloR21] at this; omega : ∀ k_, loR10 ≤ k_ ∧ k_ < hiR10 → ¬ (loR21 ≤ k_ ∧ k_ < hiR21))
 have n25_ := Aside0.mk (fun k_ h1_ h2_ => by have := UPR10.out; rw [← hloR21] at this; omega : ∀ k_, loR21 ≤ k_ ∧ k_ < hiR21 → ¬ (loR10 ≤ k_ ∧ k_ < hiR10))
 have n26_ := Aside0.mk (fun k_ h1_ h2_ => by have := UPR12.out; rw [← hloR21] at this; omega : ∀ k_, loR12 ≤ k_ ∧ k_ < hiR12 → ¬ (loR21 ≤ k_ ∧ k_ < hiR21))
 have n27_ := Aside0.mk (fun k_ h1_ h2_ => by have := UPR12.out; rw [← hloR21] at this; omega : ∀ k_, loR21 ≤ k_ ∧ k_ < hiR21 → ¬ (loR12 ≤ k_ ∧ k_ < hiR12))
 have n28_ := Aside0.mk (fun k_ h1_ h2_ => by have := UPR15.out; rw [← hloR21] at this; omega : ∀ k_, loR15 ≤ k_ ∧ k_ < hiR15 → ¬ (loR21 ≤ k_ ∧ k_ < hiR21))
 have n29_ := Aside0.mk (fun k_ h1_ h2_ => by have := UPR15.out; rw [← hloR21] at this; omega : ∀ k_, loR21 ≤ k_ ∧ k_ < hiR21 → ¬ (loR15 ≤ k_ ∧ k_ < hiR15))
 have n30_ := Aside0.mk (fun k_ h1_ h2_ => by have := UPR18.out; rw [← hloR21] at this; omega : ∀ k_, loR18 ≤ k_ ∧ k_ < hiR18 → ¬ (loR21 ≤ k_ ∧ k_ < hiR21))
 have n31_ := Aside0.mk (fun k_ h1_ h2_ => by have := UPR18.out; rw [← hloR21] at this; omega : ∀ k_, loR21 ≤ k_ ∧ k_ < hiR21 → ¬ (loR18 ≤ k_ ∧ k_ < hiR18))
 have n32_ := Aside0.mk (fun k_ hk_ => by have := GUgb1.out; rw [← hloR21] at this; omega : ∀ k_, loR21 ≤ k_ ∧ k_ < hiR21 → k_ ≠ gb1)
 have n33_ := Aside0.mk (fun k_ hk_ => by have := GUgb13.out; rw [← hloR21] at this; omega : ∀ k_, loR21 ≤ k_ ∧ k_ < hiR21 → k_ ≠ gb13)
 clear HOR5
 clear HOR7
 clear HOR10
 clear HOR12
 clear HOR15
 clear HOR18
 clear UPR5
 clear UPR7
 clear UPR10
 clear UPR12
 clear UPR15
 clear UPR18
 clear BKgb1
 clear BKgb13
 clear GUgb1
 clear GUgb13
 clear HB
 clear HBM
 have HOR5 := n0_
 have HOR7 := n1_
 have HOR10 := n2_
 have HOR12 := n3_
 have HOR15 := n4_
 have HOR18 := n5_
 have UPR5 := n6_
 have UPR7 := n7_
 have UPR10 := n8_
 have UPR12 := n9_
 have UPR15 := n10_
 have UPR18 := n11_
 have BKgb1 := n12_
 have BKgb13 := n13_
 have GUgb1 := n14_
 have GUgb13 := n15_
 have HB := n16_
 have HBM := n17_
 have HOR21 := n18_
 have UPR21 := n19_
 have NRR5_R21 := n20_
 have NRR21_R5 := n21_
 have NRR7_R21 := n22_
 have NRR21_R7 := n23_
 have NRR10_R21 := n24_
 have NRR21_R10 := n25_
 have NRR12_R21 := n26_
 have NRR21_R12 := n27_
 have NRR15_R21 := n28_
 have NRR21_R15 := n29_
 have NRR18_R21 := n30_
 have NRR21_R18 := n31_
 have NER21_gb1 := n32_
 have NER21_gb13 := n33_
 clear n0_ n1_ n2_ n3_ n4_ n5_ n6_ n7_ n8_ n9_ n10_ n11_ n12_ n13_ n14_ n15_ n16_ n17_ n18_ n19_ n20_ n21_ n22_ n23_ n24_ n25_ n26_ n27_ n28_ n29_ n30_ n31_ n32_ n33_
 clear hb
 clear hoR21 hloR21 hhiR21
 obtain ⟨AR21, cR21, eqR21⟩ := Kd.S_slice HOR21.out
 subst eqR21
 refine hK.out _ _ ⟨(blk_cell BKgb13.out 0).trans rfl, (blk_cell BKgb1.out 0).trans rfl⟩ (fun hHeld => ?_)
 clear hK K
 refine norm_ (a' := ?_) ?_ ?_
 rotate_left
 ·show Act.put _ (some 56) _ = _
  simp only [Act.put, List.setIfInBounds_toArray, List.set_cons_zero, List.set_cons_succ, i64_w, i32_w]
  rfl
 refine one_ (i := 3) (N := some 57) #[true, true, true, true, false] rfl rfl (by kernel_rfl) (by decide) (fun K hK => ?_)
 refine goes_ Try.func42 (by kernel_rfl) rfl #[.agg #[.slice AR12 t11.length cR12], .agg #[.slice AR21 t20.length cR21]] (by rfl) rfl rfl (by (try simp only [List.map_toArray, List.map_cons, List.map_nil]); first | done | rfl) ?_
 (with_reducible refine (laws_eqPicture.calls k _ _ t11 _ _ t20 true _ ?side1 ?side2 ?side3 ?side4 E15.out).mono ?_)
 (case side1 => exact (Kd.S_reads' HOR12.out).2.2)
 (case side2 => exact (Kd.S_reads' HOR12.out).2.1)
 (case side3 => exact (Kd.S_reads' HOR21.out).2.2)
 (case side4 => exact (Kd.S_reads' HOR21.out).2.1)
 rintro e w_15 ⟨rfl, hb⟩
 refine ⟨_, rfl, ?_⟩
 have n0_ := Aside0.mk (Kd.S_below HOR5.out hb)
 have n1_ := Aside0.mk (Kd.S_below HOR7.out hb)
 have n2_ := Aside0.mk (Kd.S_below HOR10.out hb)
 have n3_ := Aside0.mk (Kd.S_below HOR12.out hb)
 have n4_ := Aside0.mk (Kd.S_below HOR15.out hb)
 have n5_ := Aside0.mk (Kd.S_below HOR18.out hb)
 have n6_ := Aside0.mk (Kd.S_below HOR21.out hb)
 have n7_ := Aside0.mk (Nat.le_trans UPR5.out hb.size)
 have n8_ := Aside0.mk (Nat.le_trans UPR7.out hb.size)
 have n9_ := Aside0.mk (Nat.le_trans UPR10.out hb.size)
 have n10_ := Aside0.mk (Nat.le_trans UPR12.out hb.size)
 have n11_ := Aside0.mk (Nat.le_trans UPR15.out hb.size)
 have n12_ := Aside0.mk (Nat.le_trans UPR18.out hb.size)
 have n13_ := Aside0.mk (Nat.le_trans UPR21.out hb.size)
 have n14_ := Aside0.mk (blk_below (g := gb1) BKgb1.out hb)
 have n15_ := Aside0.mk (blk_below (g := gb13) BKgb13.out hb)
 have n16_ := Aside0.mk (Nat.lt_of_lt_of_le GUgb1.out hb.size)
 have n17_ := Aside0.mk (Nat.lt_of_lt_of_le GUgb13.out hb.size)
 have n18_ := Aside0.mk (below_step HB.out hb)
 have n19_ := Aside0.mk (below_step HBM.out hb)
 clear HOR5
 clear HOR7
 clear HOR10
 clear HOR12
 clear HOR15
 clear HOR18
 clear HOR21
 clear UPR5
 clear UPR7
 clear UPR10
 clear UPR12
 clear UPR15
 clear UPR18
 clear UPR21
 clear BKgb1
 clear BKgb13
 clear GUgb1
 clear GUgb13
 clear HB
 clear HBM
 have HOR5 := n0_
 have HOR7 := n1_
 have HOR10 := n2_
 have HOR12 := n3_
 have HOR15 := n4_
 have HOR18 := n5_
 have HOR21 := n6_
 have UPR5 := n7_
 have UPR7 := n8_
 have UPR10 := n9_
 have UPR12 := n10_
 have UPR15 := n11_
 have UPR18 := n12_
 have UPR21 := n13_
 have BKgb1 := n14_
 have BKgb13 := n15_
 have GUgb1 := n16_
 have GUgb13 := n17_
 have HB := n18_
 have HBM := n19_
 clear n0_ n1_ n2_ n3_ n4_ n5_ n6_ n7_ n8_ n9_ n10_ n11_ n12_ n13_ n14_ n15_ n16_ n17_ n18_ n19_
 clear hb
 refine hK.out _ _ ⟨(blk_cell BKgb13.out 0).trans rfl, (blk_cell BKgb1.out 0).trans rfl⟩ (fun hHeld => ?_)
 clear hK K
 refine norm_ (a' := ?_) ?_ ?_
 rotate_left
 ·show Act.put _ (some 57) _ = _
  simp only [Act.put, List.setIfInBounds_toArray, List.set_cons_zero, List.set_cons_succ, i64_w, i32_w]
  rfl
 refine pure_ (i := 4) (N := some 58) (v := ?_) (a' := ?_) #[true, true, true, true, true] rfl rfl (by kernel_rfl) (fun _ _ _ h => h) (Or.inl ⟨by rfl, ?_⟩) ?_ ?_
 rotate_left
 ·intro w'
  go_simp
  with_reducible rfl
 rotate_left
 ·simp only [Act.put, List.setIfInBounds_toArray, List.set_cons_zero, List.set_cons_succ, i64_w, i32_w]
  rfl
 refine done_ (by kernel_rfl) ?_
 (try clear hczgb1_0)
 (try clear hfzgb1_0)
 (try clear hczgb13_0)
 (try clear hfzgb13_0)
 have hczgb1_0 : w_15.cell? ⟨gb1, 0, none⟩ = some (.slice A0_0 l0_0.length c0_0) := (blk_cell BKgb1.out 0).trans rfl
 have hfzgb1_0 := blk_frozen BKgb1.out 0
 have hczgb13_0 : w_15.cell? ⟨gb13, 0, none⟩ = some (.slice AR12 t11.length cR12) := (blk_cell BKgb13.out 0).trans rfl
 have hfzgb13_0 := blk_frozen BKgb13.out 0
 go_wp2_with (first | ((with_reducible refine gate_callee (f := 34) rfl ?_); refine goesL_ (some 61) rfl rfl Try.func34 (by kernel_rfl) rfl #[.slice A1 l1.length c1] rfl (by (try simp only [List.map_toArray, List.map_cons, List.map_nil]); first | done | rfl) ?_; (with_reducible refine (laws_toInt64SS.calls k _ _ l1 t23 _ ?side1 ?side2 E17.out).mono ?_); (case side1 => exact Kd.C_below HR1.out HB.out); (case side2 => exact HC1.out); rintro e w_16 ⟨vR24, rfl, hoR24, hb⟩; refine ⟨_, rfl, ?_⟩; obtain ⟨loR24, hloR24⟩ : ∃ n_ : Nat, n_ = w_15.heap.size := ⟨_, rfl⟩; obtain ⟨hiR24, hhiR24⟩ : ∃ n_ : Nat, n_ = w_16.heap.size := ⟨_, rfl⟩; have n0_ := Aside0.mk (Kd.S_below HOR5.out hb); have n1_ := Aside0.mk (Kd.S_below HOR7.out hb); have n2_ := Aside0.mk (Kd.S_below HOR10.out hb); have n3_ := Aside0.mk (Kd.S_below HOR12.out hb); have n4_ := Aside0.mk (Kd.S_below HOR15.out hb); have n5_ := Aside0.mk (Kd.S_below HOR18.out hb); have n6_ := Aside0.mk (Kd.S_below HOR21.out hb); have n7_ := Aside0.mk (Nat.le_trans UPR5.out hb.size); have n8_ := Aside0.mk (Nat.le_trans UPR7.out hb.size); have n9_ := Aside0.mk (Nat.le_trans UPR10.out hb.size); have n10_ := Aside0.mk (Nat.le_trans UPR12.out hb.size); have n11_ := Aside0.mk (Nat.le_trans UPR15.out hb.size); have n12_ := Aside0.mk (Nat.le_trans UPR18.out hb.size); have n13_ := Aside0.mk (Nat.le_trans UPR21.out hb.size); have n14_ := Aside0.mk (blk_below (g := gb1) BKgb1.out hb); have n15_ := Aside0.mk (blk_below (g := gb13) BKgb13.out hb); have n16_ := Aside0.mk (Nat.lt_of_lt_of_le GUgb1.out hb.size); have n17_ := Aside0.mk (Nat.lt_of_lt_of_le GUgb13.out hb.size); have n18_ := Aside0.mk (below_step HB.out hb); have n19_ := Aside0.mk (below_step HBM.out hb); have n20_ := Aside0.mk (Kd.S_lower (Kd.S_mono (ok' := fun k_ => loR24 ≤ k_ ∧ k_ < hiR24) (Kd.S_bound hoR24) (fun k_ hk_ => ⟨by rw [hloR24]; exact hk_.2.1, by rw [hhiR24]; exact hk_.2.2.1⟩)) (below_size HBM.out)); have n21_ := Aside0.mk (by rw [hhiR24]; exact Nat.le_refl _ : hiR24 ≤ w_16.heap.size); have n22_ := Aside0.mk (fun k_ h1_ h2_ => by have := UPR5.out; rw [← hloR24] at this; omega : ∀ k_, loR5 ≤ k_ ∧ k_ < hiR5 → ¬ (loR24 ≤ k_ ∧ k_ < hiR24)); have n23_ := Aside0.mk (fun k_ h1_ h2_ => by have := UPR5.out; rw [← hloR24] at this; omega : ∀ k_, loR24 ≤ k_ ∧ k_ < hiR24 → ¬ (loR5 ≤ k_ ∧ k_ < hiR5)); have n24_ := Aside0.mk (fun k_ h1_ h2_ => by have := UPR7.out; rw [← hloR24] at this; omega : ∀ k_, loR7 ≤ k_ ∧ k_ < hiR7 → ¬ (loR24 ≤ k_ ∧ k_ < hiR24)); have n25_ := Aside0.mk (fun k_ h1_ h2_ => by have := UPR7.out; rw [← hloR24] at this; omega : ∀ k_, loR24 ≤ k_ ∧ k_ < hiR24 → ¬ (loR7 ≤ k_ ∧ k_ < hiR7)); have n26_ := Aside0.mk (fun k_ h1_ h2_ => by have := UPR10.out; rw [← hloR24] at this; omega : ∀ k_, loR10 ≤ k_ ∧ k_ < hiR10 → ¬ (loR24 ≤ k_ ∧ k_ < hiR24)); have n27_ := Aside0.mk (fun k_ h1_ h2_ => by have := UPR10.out; rw [← hloR24] at this; omega : ∀ k_, loR24 ≤ k_ ∧ k_ < hiR24 → ¬ (loR10 ≤ k_ ∧ k_ < hiR10)); have n28_ := Aside0.mk (fun k_ h1_ h2_ => by have := UPR12.out; rw [← hloR24] at this; omega : ∀ k_, loR12 ≤ k_ ∧ k_ < hiR12 → ¬ (loR24 ≤ k_ ∧ k_ < hiR24)); have n29_ := Aside0.mk (fun k_ h1_ h2_ => by have := UPR12.out; rw [← hloR24] at this; omega : ∀ k_, loR24 ≤ k_ ∧ k_ < hiR24 → ¬ (loR12 ≤ k_ ∧ k_ < hiR12)); have n30_ := Aside0.mk (fun k_ h1_ h2_ => by have := UPR15.out; rw [← hloR24] at this; omega : ∀ k_, loR15 ≤ k_ ∧ k_ < hiR15 → ¬ (loR24 ≤ k_ ∧ k_ < hiR24)); have n31_ := Aside0.mk (fun k_ h1_ h2_ => by have := UPR15.out; rw [← hloR24] at this; omega : ∀ k_, loR24 ≤ k_ ∧ k_ < hiR24 → ¬ (loR15 ≤ k_ ∧ k_ < hiR15)); have n32_ := Aside0.mk (fun k_ h1_ h2_ => by have := UPR18.out; rw [← hloR24] at this; omega : ∀ k_, loR18 ≤ k_ ∧ k_ < hiR18 → ¬ (loR24 ≤ k_ ∧ k_ < hiR24)); have n33_ := Aside0.mk (fun k_ h1_ h2_ => by have := UPR18.out; rw [← hloR24] at this; omega : ∀ k_, loR24 ≤ k_ ∧ k_ < hiR24 → ¬ (loR18 ≤ k_ ∧ k_ < hiR18)); have n34_ := Aside0.mk (fun k_ h1_ h2_ => by have := UPR21.out; rw [← hloR24] at this; omega : ∀ k_, loR21 ≤ k_ ∧ k_ < hiR21 → ¬ (loR24 ≤ k_ ∧ k_ < hiR24)); have n35_ := Aside0.mk (fun k_ h1_ h2_ => by have := UPR21.out; rw [← hloR24] at this; omega : ∀ k_, loR24 ≤ k_ ∧ k_ < hiR24 → ¬ (loR21 ≤ k_ ∧ k_ < hiR21)); have n36_ := Aside0.mk (fun k_ hk_ => by have := GUgb1.out; rw [← hloR24] at this; omega : ∀ k_, loR24 ≤ k_ ∧ k_ < hiR24 → k_ ≠ gb1); have n37_ := Aside0.mk (fun k_ hk_ => by have := GUgb13.out; rw [← hloR24] at this; omega : ∀ k_, loR24 ≤ k_ ∧ k_ < hiR24 → k_ ≠ gb13); clear HOR5; clear HOR7; clear HOR10; clear HOR12; clear HOR15; clear HOR18; clear HOR21; clear UPR5; clear UPR7; clear UPR10; clear UPR12; clear UPR15; clear UPR18; clear UPR21; clear BKgb1; clear BKgb13; clear GUgb1; clear GUgb13; clear HB; clear HBM; have HOR5 := n0_; have HOR7 := n1_; have HOR10 := n2_; have HOR12 := n3_; have HOR15 := n4_; have HOR18 := n5_; have HOR21 := n6_; have UPR5 := n7_; have UPR7 := n8_; have UPR10 := n9_; have UPR12 := n10_; have UPR15 := n11_; have UPR18 := n12_; have UPR21 := n13_; have BKgb1 := n14_; have BKgb13 := n15_; have GUgb1 := n16_; have GUgb13 := n17_; have HB := n18_; have HBM := n19_; have HOR24 := n20_; have UPR24 := n21_; have NRR5_R24 := n22_; have NRR24_R5 := n23_; have NRR7_R24 := n24_; have NRR24_R7 := n25_; have NRR10_R24 := n26_; have NRR24_R10 := n27_; have NRR12_R24 := n28_; have NRR24_R12 := n29_; have NRR15_R24 := n30_; have NRR24_R15 := n31_; have NRR18_R24 := n32_; have NRR24_R18 := n33_; have NRR21_R24 := n34_; have NRR24_R21 := n35_; have NER24_gb1 := n36_; have NER24_gb13 := n37_; clear n0_ n1_ n2_ n3_ n4_ n5_ n6_ n7_ n8_ n9_ n10_ n11_ n12_ n13_ n14_ n15_ n16_ n17_ n18_ n19_ n20_ n21_ n22_ n23_ n24_ n25_ n26_ n27_ n28_ n29_ n30_ n31_ n32_ n33_ n34_ n35_ n36_ n37_; clear hb; clear hoR24 hloR24 hhiR24; obtain ⟨AR24, cR24, eqR24⟩ := Kd.S_slice HOR24.out; subst eqR24; (try clear hczgb1_0); (try clear hfzgb1_0); (try clear hczgb13_0); (try clear hfzgb13_0); have hczgb1_0 : w_16.cell? ⟨gb1, 0, none⟩ = some (.slice A0_0 l0_0.length c0_0) := (blk_cell BKgb1.out 0).trans rfl; have hfzgb1_0 := blk_frozen BKgb1.out 0; have hczgb13_0 : w_16.cell? ⟨gb13, 0, none⟩ = some (.slice AR12 t11.length cR12) := (blk_cell BKgb13.out 0).trans rfl; have hfzgb13_0 := blk_frozen BKgb13.out 0) | ((with_reducible refine gate_callee (f := 17) rfl ?_); refine goesL_ (some 62) rfl rfl Try.func17 (by kernel_rfl) rfl #[.slice AR15 t14.length cR15, .slice AR24 t23.length cR24] rfl (by (try simp only [List.map_toArray, List.map_cons, List.map_nil]); first | done | rfl) ?_; (with_reducible refine (laws_eqInt64SS.calls k _ _ t14 _ _ t23 true _ ?side1 ?side2 ?side3 ?side4 E18.out).mono ?_); (case side1 => exact (Kd.S_reads' HOR15.out).2.2); (case side2 => exact (Kd.S_reads' HOR15.out).2.1); (case side3 => exact (Kd.S_reads' HOR24.out).2.2); (case side4 => exact (Kd.S_reads' HOR24.out).2.1); rintro e w_17 ⟨rfl, hd⟩; have hb := Drawn0.below hd; refine ⟨_, rfl, ?_⟩; have n0_ := Aside0.mk (Kd.S_below HOR5.out hb); have n1_ := Aside0.mk (Kd.S_below HOR7.out hb); have n2_ := Aside0.mk (Kd.S_below HOR10.out hb); have n3_ := Aside0.mk (Kd.S_below HOR12.out hb); have n4_ := Aside0.mk (Kd.S_below HOR15.out hb); have n5_ := Aside0.mk (Kd.S_below HOR18.out hb); have n6_ := Aside0.mk (Kd.S_below HOR21.out hb); have n7_ := Aside0.mk (Kd.S_below HOR24.out hb); have n8_ := Aside0.mk (Nat.le_trans UPR5.out hb.size); have n9_ := Aside0.mk (Nat.le_trans UPR7.out hb.size); have n10_ := Aside0.mk (Nat.le_trans UPR10.out hb.size); have n11_ := Aside0.mk (Nat.le_trans UPR12.out hb.size); have n12_ := Aside0.mk (Nat.le_trans UPR15.out hb.size); have n13_ := Aside0.mk (Nat.le_trans UPR18.out hb.size); have n14_ := Aside0.mk (Nat.le_trans UPR21.out hb.size); have n15_ := Aside0.mk (Nat.le_trans UPR24.out hb.size); have n16_ := Aside0.mk (blk_below (g := gb1) BKgb1.out hb); have n17_ := Aside0.mk (blk_below (g := gb13) BKgb13.out hb); have n18_ := Aside0.mk (Nat.lt_of_lt_of_le GUgb1.out hb.size); have n19_ := Aside0.mk (Nat.lt_of_lt_of_le GUgb13.out hb.size); have n20_ := Aside0.mk (below_step HB.out hb); have n21_ := Aside0.mk (below_step HBM.out hb); clear HOR5; clear HOR7; clear HOR10; clear HOR12; clear HOR15; clear HOR18; clear HOR21; clear HOR24; clear UPR5; clear UPR7; clear UPR10; clear UPR12; clear UPR15; clear UPR18; clear UPR21; clear UPR24; clear BKgb1; clear BKgb13; clear GUgb1; clear GUgb13; clear HB; clear HBM; have HOR5 := n0_; have HOR7 := n1_; have HOR10 := n2_; have HOR12 := n3_; have HOR15 := n4_; have HOR18 := n5_; have HOR21 := n6_; have HOR24 := n7_; have UPR5 := n8_; have UPR7 := n9_; have UPR10 := n10_; have UPR12 := n11_; have UPR15 := n12_; have UPR18 := n13_; have UPR21 := n14_; have UPR24 := n15_; have BKgb1 := n16_; have BKgb13 := n17_; have GUgb1 := n18_; have GUgb13 := n19_; have HB := n20_; have HBM := n21_; clear n0_ n1_ n2_ n3_ n4_ n5_ n6_ n7_ n8_ n9_ n10_ n11_ n12_ n13_ n14_ n15_ n16_ n17_ n18_ n19_ n20_ n21_; clear hb; clear hd; (try clear hczgb1_0); (try clear hfzgb1_0); (try clear hczgb13_0); (try clear hfzgb13_0); have hczgb1_0 : w_17.cell? ⟨gb1, 0, none⟩ = some (.slice A0_0 l0_0.length c0_0) := (blk_cell BKgb1.out 0).trans rfl; have hfzgb1_0 := blk_frozen BKgb1.out 0; have hczgb13_0 : w_17.cell? ⟨gb13, 0, none⟩ = some (.slice AR12 t11.length cR12) := (blk_cell BKgb13.out 0).trans rfl; have hfzgb13_0 := blk_frozen BKgb13.out 0) | ((with_reducible refine gate_callee (f := 43) rfl ?_); refine goesL_ (some 66) rfl rfl Try.func43 (by kernel_rfl) rfl #[.agg #[.slice AR12 t11.length cR12], .int .i64 1] rfl (by (try simp only [List.map_toArray, List.map_cons, List.map_nil]); first | done | rfl) ?_; (with_reducible refine (laws_markPicture.calls k (fun k_ => loR12 ≤ k_ ∧ k_ < hiR12) _ t11 1 t26 t27 w_6 _ ?side1 ?side2 E20.out).mono ?_); (case side1 => exact HBM.out); (case side2 => exact HOR12.out); rintro e w_18 ⟨rfl, hy, hb, hkp⟩; refine ⟨_, rfl, ?_⟩; have n0_ := Aside0.mk (Kd.S_kept HOR5.out hkp NRR5_R12.out); have n1_ := Aside0.mk (Nat.le_trans UPR5.out hkp.1); have n2_ := Aside0.mk (Kd.S_kept HOR7.out hkp NRR7_R12.out); have n3_ := Aside0.mk (Nat.le_trans UPR7.out hkp.1); have n4_ := Aside0.mk (Kd.S_kept HOR10.out hkp NRR10_R12.out); have n5_ := Aside0.mk (Nat.le_trans UPR10.out hkp.1); have n6_ := Aside0.mk (hy); have n7_ := Aside0.mk (Nat.le_trans UPR12.out hkp.1); have n8_ := Aside0.mk (Kd.S_kept HOR15.out hkp NRR15_R12.out); have n9_ := Aside0.mk (Nat.le_trans UPR15.out hkp.1); have n10_ := Aside0.mk (Kd.S_kept HOR18.out hkp NRR18_R12.out); have n11_ := Aside0.mk (Nat.le_trans UPR18.out hkp.1); have n12_ := Aside0.mk (Kd.S_kept HOR21.out hkp NRR21_R12.out); have n13_ := Aside0.mk (Nat.le_trans UPR21.out hkp.1); have n14_ := Aside0.mk (Kd.S_kept HOR24.out hkp NRR24_R12.out); have n15_ := Aside0.mk (Nat.le_trans UPR24.out hkp.1); have n16_ := Aside0.mk (blk_kept (g := gb1) BKgb1.out hkp (fun h_ => NER12_gb1.out _ h_ rfl)); have n17_ := Aside0.mk (Nat.lt_of_lt_of_le GUgb1.out hkp.1); have n18_ := Aside0.mk (blk_kept (g := gb13) BKgb13.out hkp (fun h_ => NER12_gb13.out _ h_ rfl)); have n19_ := Aside0.mk (Nat.lt_of_lt_of_le GUgb13.out hkp.1); have n20_ := Aside0.mk (below_step HWM.out hb); have n21_ := Aside0.mk (hb); clear HOR5; clear UPR5; clear HOR7; clear UPR7; clear HOR10; clear UPR10; clear HOR12; clear UPR12; clear HOR15; clear UPR15; clear HOR18; clear UPR18; clear HOR21; clear UPR21; clear HOR24; clear UPR24; clear BKgb1; clear GUgb1; clear BKgb13; clear GUgb13; clear HB; clear HBM; have HOR5 := n0_; have UPR5 := n1_; have HOR7 := n2_; have UPR7 := n3_; have HOR10 := n4_; have UPR10 := n5_; have HOR12 := n6_; have UPR12 := n7_; have HOR15 := n8_; have UPR15 := n9_; have HOR18 := n10_; have UPR18 := n11_; have HOR21 := n12_; have UPR21 := n13_; have HOR24 := n14_; have UPR24 := n15_; have BKgb1 := n16_; have GUgb1 := n17_; have BKgb13 := n18_; have GUgb13 := n19_; have HB := n20_; have HBM := n21_; clear n0_ n1_ n2_ n3_ n4_ n5_ n6_ n7_ n8_ n9_ n10_ n11_ n12_ n13_ n14_ n15_ n16_ n17_ n18_ n19_ n20_ n21_; clear hy hb hkp; (try clear hczgb1_0); (try clear hfzgb1_0); (try clear hczgb13_0); (try clear hfzgb13_0); have hczgb1_0 : w_18.cell? ⟨gb1, 0, none⟩ = some (.slice A0_0 l0_0.length c0_0) := (blk_cell BKgb1.out 0).trans rfl; have hfzgb1_0 := blk_frozen BKgb1.out 0; have hczgb13_0 : w_18.cell? ⟨gb13, 0, none⟩ = some (.slice AR12 t11.length cR12) := (blk_cell BKgb13.out 0).trans rfl; have hfzgb13_0 := blk_frozen BKgb13.out 0) | ((with_reducible refine gate_callee (f := 18) rfl ?_); refine goesL_ (some 69) rfl rfl Try.func18 (by kernel_rfl) rfl #[.slice AR15 t14.length cR15, .int .i64 t26] rfl (by (try simp only [List.map_toArray, List.map_cons, List.map_nil]); first | done | rfl) ?_; (with_reducible refine (laws_markInt64SS.calls k (fun k_ => loR15 ≤ k_ ∧ k_ < hiR15) _ t14 t26 t28 t29 w_6 _ ?side1 ?side2 E21.out).mono ?_); (case side1 => exact HBM.out); (case side2 => exact HOR15.out); rintro e w_19 ⟨rfl, hy, hb, hkp⟩; refine ⟨_, rfl, ?_⟩; have n0_ := Aside0.mk (Kd.S_kept HOR5.out hkp NRR5_R15.out); have n1_ := Aside0.mk (Nat.le_trans UPR5.out hkp.1); have n2_ := Aside0.mk (Kd.S_kept HOR7.out hkp NRR7_R15.out); have n3_ := Aside0.mk (Nat.le_trans UPR7.out hkp.1); have n4_ := Aside0.mk (Kd.S_kept HOR10.out hkp NRR10_R15.out); have n5_ := Aside0.mk (Nat.le_trans UPR10.out hkp.1); have n6_ := Aside0.mk (Kd.S_kept HOR12.out hkp NRR12_R15.out); have n7_ := Aside0.mk (Nat.le_trans UPR12.out hkp.1); have n8_ := Aside0.mk (hy); have n9_ := Aside0.mk (Nat.le_trans UPR15.out hkp.1); have n10_ := Aside0.mk (Kd.S_kept HOR18.out hkp NRR18_R15.out); have n11_ := Aside0.mk (Nat.le_trans UPR18.out hkp.1); have n12_ := Aside0.mk (Kd.S_kept HOR21.out hkp NRR21_R15.out); have n13_ := Aside0.mk (Nat.le_trans UPR21.out hkp.1); have n14_ := Aside0.mk (Kd.S_kept HOR24.out hkp NRR24_R15.out); have n15_ := Aside0.mk (Nat.le_trans UPR24.out hkp.1); have n16_ := Aside0.mk (blk_kept (g := gb1) BKgb1.out hkp (fun h_ => NER15_gb1.out _ h_ rfl)); have n17_ := Aside0.mk (Nat.lt_of_lt_of_le GUgb1.out hkp.1); have n18_ := Aside0.mk (blk_kept (g := gb13) BKgb13.out hkp (fun h_ => NER15_gb13.out _ h_ rfl)); have n19_ := Aside0.mk (Nat.lt_of_lt_of_le GUgb13.out hkp.1); have n20_ := Aside0.mk (below_step HWM.out hb); have n21_ := Aside0.mk (hb); clear HOR5; clear UPR5; clear HOR7; clear UPR7; clear HOR10; clear UPR10; clear HOR12; clear UPR12; clear HOR15; clear UPR15; clear HOR18; clear UPR18; clear HOR21; clear UPR21; clear HOR24; clear UPR24; clear BKgb1; clear GUgb1; clear BKgb13; clear GUgb13; clear HB; clear HBM; have HOR5 := n0_; have UPR5 := n1_; have HOR7 := n2_; have UPR7 := n3_; have HOR10 := n4_; have UPR10 := n5_; have HOR12 := n6_; have UPR12 := n7_; have HOR15 := n8_; have UPR15 := n9_; have HOR18 := n10_; have UPR18 := n11_; have HOR21 := n12_; have UPR21 := n13_; have HOR24 := n14_; have UPR24 := n15_; have BKgb1 := n16_; have GUgb1 := n17_; have BKgb13 := n18_; have GUgb13 := n19_; have HB := n20_; have HBM := n21_; clear n0_ n1_ n2_ n3_ n4_ n5_ n6_ n7_ n8_ n9_ n10_ n11_ n12_ n13_ n14_ n15_ n16_ n17_ n18_ n19_ n20_ n21_; clear hy hb hkp; (try clear hczgb1_0); (try clear hfzgb1_0); (try clear hczgb13_0); (try clear hfzgb13_0); have hczgb1_0 : w_19.cell? ⟨gb1, 0, none⟩ = some (.slice A0_0 l0_0.length c0_0) := (blk_cell BKgb1.out 0).trans rfl; have hfzgb1_0 := blk_frozen BKgb1.out 0; have hczgb13_0 : w_19.cell? ⟨gb13, 0, none⟩ = some (.slice AR12 t11.length cR12) := (blk_cell BKgb13.out 0).trans rfl; have hfzgb13_0 := blk_frozen BKgb13.out 0) | (go_at_call 17; (with_reducible refine (laws_eqInt64SS.calls k _ _ t16 _ _ t8 true _ ?side1 ?side2 ?side3 ?side4 E23.out).mono ?_); (case side1 => exact (Kd.S_reads' HOR18.out).2.2); (case side2 => exact (Kd.S_reads' HOR18.out).2.1); (case side3 => exact (Kd.S_reads' HOR10.out).2.2); (case side4 => exact (Kd.S_reads' HOR10.out).2.1); rintro e w_20 ⟨rfl, hd⟩; have hb := Drawn0.below hd; have n0_ := Aside0.mk (Kd.S_below HOR5.out hb); have n1_ := Aside0.mk (Kd.S_below HOR7.out hb); have n2_ := Aside0.mk (Kd.S_below HOR10.out hb); have n3_ := Aside0.mk (Kd.S_below HOR12.out hb); have n4_ := Aside0.mk (Kd.S_below HOR15.out hb); have n5_ := Aside0.mk (Kd.S_below HOR18.out hb); have n6_ := Aside0.mk (Kd.S_below HOR21.out hb); have n7_ := Aside0.mk (Kd.S_below HOR24.out hb); have n8_ := Aside0.mk (Nat.le_trans UPR5.out hb.size); have n9_ := Aside0.mk (Nat.le_trans UPR7.out hb.size); have n10_ := Aside0.mk (Nat.le_trans UPR10.out hb.size); have n11_ := Aside0.mk (Nat.le_trans UPR12.out hb.size); have n12_ := Aside0.mk (Nat.le_trans UPR15.out hb.size); have n13_ := Aside0.mk (Nat.le_trans UPR18.out hb.size); have n14_ := Aside0.mk (Nat.le_trans UPR21.out hb.size); have n15_ := Aside0.mk (Nat.le_trans UPR24.out hb.size); have n16_ := Aside0.mk (blk_below (g := gb1) BKgb1.out hb); have n17_ := Aside0.mk (blk_below (g := gb13) BKgb13.out hb); have n18_ := Aside0.mk (Nat.lt_of_lt_of_le GUgb1.out hb.size); have n19_ := Aside0.mk (Nat.lt_of_lt_of_le GUgb13.out hb.size); have n20_ := Aside0.mk (below_step HB.out hb); have n21_ := Aside0.mk (below_step HBM.out hb); clear HOR5; clear HOR7; clear HOR10; clear HOR12; clear HOR15; clear HOR18; clear HOR21; clear HOR24; clear UPR5; clear UPR7; clear UPR10; clear UPR12; clear UPR15; clear UPR18; clear UPR21; clear UPR24; clear BKgb1; clear BKgb13; clear GUgb1; clear GUgb13; clear HB; clear HBM; have HOR5 := n0_; have HOR7 := n1_; have HOR10 := n2_; have HOR12 := n3_; have HOR15 := n4_; have HOR18 := n5_; have HOR21 := n6_; have HOR24 := n7_; have UPR5 := n8_; have UPR7 := n9_; have UPR10 := n10_; have UPR12 := n11_; have UPR15 := n12_; have UPR18 := n13_; have UPR21 := n14_; have UPR24 := n15_; have BKgb1 := n16_; have BKgb13 := n17_; have GUgb1 := n18_; have GUgb13 := n19_; have HB := n20_; have HBM := n21_; clear n0_ n1_ n2_ n3_ n4_ n5_ n6_ n7_ n8_ n9_ n10_ n11_ n12_ n13_ n14_ n15_ n16_ n17_ n18_ n19_ n20_ n21_; clear hb; clear hd; (try clear hczgb1_0); (try clear hfzgb1_0); (try clear hczgb13_0); (try clear hfzgb13_0); have hczgb1_0 : w_20.cell? ⟨gb1, 0, none⟩ = some (.slice A0_0 l0_0.length c0_0) := (blk_cell BKgb1.out 0).trans rfl; have hfzgb1_0 := blk_frozen BKgb1.out 0; have hczgb13_0 : w_20.cell? ⟨gb13, 0, none⟩ = some (.slice AR12 t11.length cR12) := (blk_cell BKgb13.out 0).trans rfl; have hfzgb13_0 := blk_frozen BKgb13.out 0) | ((with_reducible refine gate_callee (f := 18) rfl ?_); refine goesL_ (some 85) rfl rfl Try.func18 (by kernel_rfl) rfl #[.slice AR18 t16.length cR18, .int .i64 1] rfl (by (try simp only [List.map_toArray, List.map_cons, List.map_nil]); first | done | rfl) ?_; (with_reducible refine (laws_markInt64SS.calls k (fun k_ => loR18 ≤ k_ ∧ k_ < hiR18) _ t16 1 t42 t32 w_6 _ ?side1 ?side2 E25.out).mono ?_); (case side1 => exact HBM.out); (case side2 => exact HOR18.out); rintro e w_21 ⟨rfl, hy, hb, hkp⟩; refine ⟨_, rfl, ?_⟩; have n0_ := Aside0.mk (Kd.S_kept HOR5.out hkp NRR5_R18.out); have n1_ := Aside0.mk (Nat.le_trans UPR5.out hkp.1); have n2_ := Aside0.mk (Kd.S_kept HOR7.out hkp NRR7_R18.out); have n3_ := Aside0.mk (Nat.le_trans UPR7.out hkp.1); have n4_ := Aside0.mk (Kd.S_kept HOR10.out hkp NRR10_R18.out); have n5_ := Aside0.mk (Nat.le_trans UPR10.out hkp.1); have n6_ := Aside0.mk (Kd.S_kept HOR12.out hkp NRR12_R18.out); have n7_ := Aside0.mk (Nat.le_trans UPR12.out hkp.1); have n8_ := Aside0.mk (Kd.S_kept HOR15.out hkp NRR15_R18.out); have n9_ := Aside0.mk (Nat.le_trans UPR15.out hkp.1); have n10_ := Aside0.mk (hy); have n11_ := Aside0.mk (Nat.le_trans UPR18.out hkp.1); have n12_ := Aside0.mk (Kd.S_kept HOR21.out hkp NRR21_R18.out); have n13_ := Aside0.mk (Nat.le_trans UPR21.out hkp.1); have n14_ := Aside0.mk (Kd.S_kept HOR24.out hkp NRR24_R18.out); have n15_ := Aside0.mk (Nat.le_trans UPR24.out hkp.1); have n16_ := Aside0.mk (blk_kept (g := gb1) BKgb1.out hkp (fun h_ => NER18_gb1.out _ h_ rfl)); have n17_ := Aside0.mk (Nat.lt_of_lt_of_le GUgb1.out hkp.1); have n18_ := Aside0.mk (blk_kept (g := gb13) BKgb13.out hkp (fun h_ => NER18_gb13.out _ h_ rfl)); have n19_ := Aside0.mk (Nat.lt_of_lt_of_le GUgb13.out hkp.1); have n20_ := Aside0.mk (below_step HWM.out hb); have n21_ := Aside0.mk (hb); clear HOR5; clear UPR5; clear HOR7; clear UPR7; clear HOR10; clear UPR10; clear HOR12; clear UPR12; clear HOR15; clear UPR15; clear HOR18; clear UPR18; clear HOR21; clear UPR21; clear HOR24; clear UPR24; clear BKgb1; clear GUgb1; clear BKgb13; clear GUgb13; clear HB; clear HBM; have HOR5 := n0_; have UPR5 := n1_; have HOR7 := n2_; have UPR7 := n3_; have HOR10 := n4_; have UPR10 := n5_; have HOR12 := n6_; have UPR12 := n7_; have HOR15 := n8_; have UPR15 := n9_; have HOR18 := n10_; have UPR18 := n11_; have HOR21 := n12_; have UPR21 := n13_; have HOR24 := n14_; have UPR24 := n15_; have BKgb1 := n16_; have GUgb1 := n17_; have BKgb13 := n18_; have GUgb13 := n19_; have HB := n20_; have HBM := n21_; clear n0_ n1_ n2_ n3_ n4_ n5_ n6_ n7_ n8_ n9_ n10_ n11_ n12_ n13_ n14_ n15_ n16_ n17_ n18_ n19_ n20_ n21_; clear hy hb hkp; (try clear hczgb1_0); (try clear hfzgb1_0); (try clear hczgb13_0); (try clear hfzgb13_0); have hczgb1_0 : w_21.cell? ⟨gb1, 0, none⟩ = some (.slice A0_0 l0_0.length c0_0) := (blk_cell BKgb1.out 0).trans rfl; have hfzgb1_0 := blk_frozen BKgb1.out 0; have hczgb13_0 : w_21.cell? ⟨gb13, 0, none⟩ = some (.slice AR12 t11.length cR12) := (blk_cell BKgb13.out 0).trans rfl; have hfzgb13_0 := blk_frozen BKgb13.out 0) | ((with_reducible refine gate_callee (f := 19) rfl ?_); refine goesL_ (some 88) rfl rfl Try.func19 (by kernel_rfl) rfl #[.slice AR18 t32.length cR18, .int .i64 1] rfl (by (try simp only [List.map_toArray, List.map_cons, List.map_nil]); first | done | rfl | (simp only [show t32.length = t16.length from (Kd.S_reads' HOR18.out).1.symm]; rfl)) ?_; (with_reducible refine (laws_heldInt64SS.calls k _ _ t32 1 t42 _ ?side1 ?side2 E26.out).mono ?_); (case side1 => exact (Kd.S_reads' HOR18.out).2.2); (case side2 => exact (fun h_ => h_.1 ▸ h_.2.1) (Kd.S_reads' HOR18.out)); rintro e w_22 ⟨rfl, hd⟩; have hb := Drawn0.below hd; refine ⟨_, rfl, ?_⟩; have n0_ := Aside0.mk (Kd.S_below HOR5.out hb); have n1_ := Aside0.mk (Kd.S_below HOR7.out hb); have n2_ := Aside0.mk (Kd.S_below HOR10.out hb); have n3_ := Aside0.mk (Kd.S_below HOR12.out hb); have n4_ := Aside0.mk (Kd.S_below HOR15.out hb); have n5_ := Aside0.mk (Kd.S_below HOR18.out hb); have n6_ := Aside0.mk (Kd.S_below HOR21.out hb); have n7_ := Aside0.mk (Kd.S_below HOR24.out hb); have n8_ := Aside0.mk (Nat.le_trans UPR5.out hb.size); have n9_ := Aside0.mk (Nat.le_trans UPR7.out hb.size); have n10_ := Aside0.mk (Nat.le_trans UPR10.out hb.size); have n11_ := Aside0.mk (Nat.le_trans UPR12.out hb.size); have n12_ := Aside0.mk (Nat.le_trans UPR15.out hb.size); have n13_ := Aside0.mk (Nat.le_trans UPR18.out hb.size); have n14_ := Aside0.mk (Nat.le_trans UPR21.out hb.size); have n15_ := Aside0.mk (Nat.le_trans UPR24.out hb.size); have n16_ := Aside0.mk (blk_below (g := gb1) BKgb1.out hb); have n17_ := Aside0.mk (blk_below (g := gb13) BKgb13.out hb); have n18_ := Aside0.mk (Nat.lt_of_lt_of_le GUgb1.out hb.size); have n19_ := Aside0.mk (Nat.lt_of_lt_of_le GUgb13.out hb.size); have n20_ := Aside0.mk (below_step HB.out hb); have n21_ := Aside0.mk (below_step HBM.out hb); clear HOR5; clear HOR7; clear HOR10; clear HOR12; clear HOR15; clear HOR18; clear HOR21; clear HOR24; clear UPR5; clear UPR7; clear UPR10; clear UPR12; clear UPR15; clear UPR18; clear UPR21; clear UPR24; clear BKgb1; clear BKgb13; clear GUgb1; clear GUgb13; clear HB; clear HBM; have HOR5 := n0_; have HOR7 := n1_; have HOR10 := n2_; have HOR12 := n3_; have HOR15 := n4_; have HOR18 := n5_; have HOR21 := n6_; have HOR24 := n7_; have UPR5 := n8_; have UPR7 := n9_; have UPR10 := n10_; have UPR12 := n11_; have UPR15 := n12_; have UPR18 := n13_; have UPR21 := n14_; have UPR24 := n15_; have BKgb1 := n16_; have BKgb13 := n17_; have GUgb1 := n18_; have GUgb13 := n19_; have HB := n20_; have HBM := n21_; clear n0_ n1_ n2_ n3_ n4_ n5_ n6_ n7_ n8_ n9_ n10_ n11_ n12_ n13_ n14_ n15_ n16_ n17_ n18_ n19_ n20_ n21_; clear hb; clear hd; (try clear hczgb1_0); (try clear hfzgb1_0); (try clear hczgb13_0); (try clear hfzgb13_0); have hczgb1_0 : w_22.cell? ⟨gb1, 0, none⟩ = some (.slice A0_0 l0_0.length c0_0) := (blk_cell BKgb1.out 0).trans rfl; have hfzgb1_0 := blk_frozen BKgb1.out 0; have hczgb13_0 : w_22.cell? ⟨gb13, 0, none⟩ = some (.slice AR12 t11.length cR12) := (blk_cell BKgb13.out 0).trans rfl; have hfzgb13_0 := blk_frozen BKgb13.out 0) | ((with_reducible refine gate_callee (f := 40) rfl ?_); refine goesL_ (some 96) rfl rfl Try.func40 (by kernel_rfl) rfl #[.agg #[.slice A0_0 l0_0.length c0_0]] rfl (by (try simp only [List.map_toArray, List.map_cons, List.map_nil]); first | done | rfl) ?_; (with_reducible refine (laws_toPicture.calls k _ _ l0_0 t34 _ ?side1 ?side2 E29.out).mono ?_); (case side1 => exact Kd.C_below HR0_0.out HB.out); (case side2 => exact HC0_0.out); rintro e w_23 ⟨vR35, rfl, hoR35, hb⟩; refine ⟨_, rfl, ?_⟩; obtain ⟨loR35, hloR35⟩ : ∃ n_ : Nat, n_ = w_22.heap.size := ⟨_, rfl⟩; obtain ⟨hiR35, hhiR35⟩ : ∃ n_ : Nat, n_ = w_23.heap.size := ⟨_, rfl⟩; have n0_ := Aside0.mk (Kd.S_below HOR5.out hb); have n1_ := Aside0.mk (Kd.S_below HOR7.out hb); have n2_ := Aside0.mk (Kd.S_below HOR10.out hb); have n3_ := Aside0.mk (Kd.S_below HOR12.out hb); have n4_ := Aside0.mk (Kd.S_below HOR15.out hb); have n5_ := Aside0.mk (Kd.S_below HOR18.out hb); have n6_ := Aside0.mk (Kd.S_below HOR21.out hb); have n7_ := Aside0.mk (Kd.S_below HOR24.out hb); have n8_ := Aside0.mk (Nat.le_trans UPR5.out hb.size); have n9_ := Aside0.mk (Nat.le_trans UPR7.out hb.size); have n10_ := Aside0.mk (Nat.le_trans UPR10.out hb.size); have n11_ := Aside0.mk (Nat.le_trans UPR12.out hb.size); have n12_ := Aside0.mk (Nat.le_trans UPR15.out hb.size); have n13_ := Aside0.mk (Nat.le_trans UPR18.out hb.size); have n14_ := Aside0.mk (Nat.le_trans UPR21.out hb.size); have n15_ := Aside0.mk (Nat.le_trans UPR24.out hb.size); have n16_ := Aside0.mk (blk_below (g := gb1) BKgb1.out hb); have n17_ := Aside0.mk (blk_below (g := gb13) BKgb13.out hb); have n18_ := Aside0.mk (Nat.lt_of_lt_of_le GUgb1.out hb.size); have n19_ := Aside0.mk (Nat.lt_of_lt_of_le GUgb13.out hb.size); have n20_ := Aside0.mk (below_step HB.out hb); have n21_ := Aside0.mk (below_step HBM.out hb); have n22_ := Aside0.mk (Kd.S_lower (Kd.S_mono (ok' := fun k_ => loR35 ≤ k_ ∧ k_ < hiR35) (Kd.S_bound hoR35) (fun k_ hk_ => ⟨by rw [hloR35]; exact hk_.2.1, by rw [hhiR35]; exact hk_.2.2.1⟩)) (below_size HBM.out)); have n23_ := Aside0.mk (by rw [hhiR35]; exact Nat.le_refl _ : hiR35 ≤ w_23.heap.size); have n24_ := Aside0.mk (fun k_ h1_ h2_ => by have := UPR5.out; rw [← hloR35] at this; omega : ∀ k_, loR5 ≤ k_ ∧ k_ < hiR5 → ¬ (loR35 ≤ k_ ∧ k_ < hiR35)); have n25_ := Aside0.mk (fun k_ h1_ h2_ => by have := UPR5.out; rw [← hloR35] at this; omega : ∀ k_, loR35 ≤ k_ ∧ k_ < hiR35 → ¬ (loR5 ≤ k_ ∧ k_ < hiR5)); have n26_ := Aside0.mk (fun k_ h1_ h2_ => by have := UPR7.out; rw [← hloR35] at this; omega : ∀ k_, loR7 ≤ k_ ∧ k_ < hiR7 → ¬ (loR35 ≤ k_ ∧ k_ < hiR35)); have n27_ := Aside0.mk (fun k_ h1_ h2_ => by have := UPR7.out; rw [← hloR35] at this; omega : ∀ k_, loR35 ≤ k_ ∧ k_ < hiR35 → ¬ (loR7 ≤ k_ ∧ k_ < hiR7)); have n28_ := Aside0.mk (fun k_ h1_ h2_ => by have := UPR10.out; rw [← hloR35] at this; omega : ∀ k_, loR10 ≤ k_ ∧ k_ < hiR10 → ¬ (loR35 ≤ k_ ∧ k_ < hiR35)); have n29_ := Aside0.mk (fun k_ h1_ h2_ => by have := UPR10.out; rw [← hloR35] at this; omega : ∀ k_, loR35 ≤ k_ ∧ k_ < hiR35 → ¬ (loR10 ≤ k_ ∧ k_ < hiR10)); have n30_ := Aside0.mk (fun k_ h1_ h2_ => by have := UPR12.out; rw [← hloR35] at this; omega : ∀ k_, loR12 ≤ k_ ∧ k_ < hiR12 → ¬ (loR35 ≤ k_ ∧ k_ < hiR35)); have n31_ := Aside0.mk (fun k_ h1_ h2_ => by have := UPR12.out; rw [← hloR35] at this; omega : ∀ k_, loR35 ≤ k_ ∧ k_ < hiR35 → ¬ (loR12 ≤ k_ ∧ k_ < hiR12)); have n32_ := Aside0.mk (fun k_ h1_ h2_ => by have := UPR15.out; rw [← hloR35] at this; omega : ∀ k_, loR15 ≤ k_ ∧ k_ < hiR15 → ¬ (loR35 ≤ k_ ∧ k_ < hiR35)); have n33_ := Aside0.mk (fun k_ h1_ h2_ => by have := UPR15.out; rw [← hloR35] at this; omega : ∀ k_, loR35 ≤ k_ ∧ k_ < hiR35 → ¬ (loR15 ≤ k_ ∧ k_ < hiR15)); have n34_ := Aside0.mk (fun k_ h1_ h2_ => by have := UPR18.out; rw [← hloR35] at this; omega : ∀ k_, loR18 ≤ k_ ∧ k_ < hiR18 → ¬ (loR35 ≤ k_ ∧ k_ < hiR35)); have n35_ := Aside0.mk (fun k_ h1_ h2_ => by have := UPR18.out; rw [← hloR35] at this; omega : ∀ k_, loR35 ≤ k_ ∧ k_ < hiR35 → ¬ (loR18 ≤ k_ ∧ k_ < hiR18)); have n36_ := Aside0.mk (fun k_ h1_ h2_ => by have := UPR21.out; rw [← hloR35] at this; omega : ∀ k_, loR21 ≤ k_ ∧ k_ < hiR21 → ¬ (loR35 ≤ k_ ∧ k_ < hiR35)); have n37_ := Aside0.mk (fun k_ h1_ h2_ => by have := UPR21.out; rw [← hloR35] at this; omega : ∀ k_, loR35 ≤ k_ ∧ k_ < hiR35 → ¬ (loR21 ≤ k_ ∧ k_ < hiR21)); have n38_ := Aside0.mk (fun k_ h1_ h2_ => by have := UPR24.out; rw [← hloR35] at this; omega : ∀ k_, loR24 ≤ k_ ∧ k_ < hiR24 → ¬ (loR35 ≤ k_ ∧ k_ < hiR35)); have n39_ := Aside0.mk (fun k_ h1_ h2_ => by have := UPR24.out; rw [← hloR35] at this; omega : ∀ k_, loR35 ≤ k_ ∧ k_ < hiR35 → ¬ (loR24 ≤ k_ ∧ k_ < hiR24)); have n40_ := Aside0.mk (fun k_ hk_ => by have := GUgb1.out; rw [← hloR35] at this; omega : ∀ k_, loR35 ≤ k_ ∧ k_ < hiR35 → k_ ≠ gb1); have n41_ := Aside0.mk (fun k_ hk_ => by have := GUgb13.out; rw [← hloR35] at this; omega : ∀ k_, loR35 ≤ k_ ∧ k_ < hiR35 → k_ ≠ gb13); clear HOR5; clear HOR7; clear HOR10; clear HOR12; clear HOR15; clear HOR18; clear HOR21; clear HOR24; clear UPR5; clear UPR7; clear UPR10; clear UPR12; clear UPR15; clear UPR18; clear UPR21; clear UPR24; clear BKgb1; clear BKgb13; clear GUgb1; clear GUgb13; clear HB; clear HBM; have HOR5 := n0_; have HOR7 := n1_; have HOR10 := n2_; have HOR12 := n3_; have HOR15 := n4_; have HOR18 := n5_; have HOR21 := n6_; have HOR24 := n7_; have UPR5 := n8_; have UPR7 := n9_; have UPR10 := n10_; have UPR12 := n11_; have UPR15 := n12_; have UPR18 := n13_; have UPR21 := n14_; have UPR24 := n15_; have BKgb1 := n16_; have BKgb13 := n17_; have GUgb1 := n18_; have GUgb13 := n19_; have HB := n20_; have HBM := n21_; have HOR35 := n22_; have UPR35 := n23_; have NRR5_R35 := n24_; have NRR35_R5 := n25_; have NRR7_R35 := n26_; have NRR35_R7 := n27_; have NRR10_R35 := n28_; have NRR35_R10 := n29_; have NRR12_R35 := n30_; have NRR35_R12 := n31_; have NRR15_R35 := n32_; have NRR35_R15 := n33_; have NRR18_R35 := n34_; have NRR35_R18 := n35_; have NRR21_R35 := n36_; have NRR35_R21 := n37_; have NRR24_R35 := n38_; have NRR35_R24 := n39_; have NER35_gb1 := n40_; have NER35_gb13 := n41_; clear n0_ n1_ n2_ n3_ n4_ n5_ n6_ n7_ n8_ n9_ n10_ n11_ n12_ n13_ n14_ n15_ n16_ n17_ n18_ n19_ n20_ n21_ n22_ n23_ n24_ n25_ n26_ n27_ n28_ n29_ n30_ n31_ n32_ n33_ n34_ n35_ n36_ n37_ n38_ n39_ n40_ n41_; clear hb; clear hoR35 hloR35 hhiR35; obtain ⟨AR35, cR35, eqR35⟩ := Kd.S_slice HOR35.out; subst eqR35; (try clear hczgb1_0); (try clear hfzgb1_0); (try clear hczgb13_0); (try clear hfzgb13_0); have hczgb1_0 : w_23.cell? ⟨gb1, 0, none⟩ = some (.slice A0_0 l0_0.length c0_0) := (blk_cell BKgb1.out 0).trans rfl; have hfzgb1_0 := blk_frozen BKgb1.out 0; have hczgb13_0 : w_23.cell? ⟨gb13, 0, none⟩ = some (.slice AR12 t11.length cR12) := (blk_cell BKgb13.out 0).trans rfl; have hfzgb13_0 := blk_frozen BKgb13.out 0) | ((with_reducible refine gate_callee (f := 34) rfl ?_); refine goesL_ (some 98) rfl rfl Try.func34 (by kernel_rfl) rfl #[.slice A1 l1.length c1] rfl (by (try simp only [List.map_toArray, List.map_cons, List.map_nil]); first | done | rfl) ?_; (with_reducible refine (laws_toInt64SS.calls k _ _ l1 t36 _ ?side1 ?side2 E30.out).mono ?_); (case side1 => exact Kd.C_below HR1.out HB.out); (case side2 => exact HC1.out); rintro e w_24 ⟨vR37, rfl, hoR37, hb⟩; refine ⟨_, rfl, ?_⟩; obtain ⟨loR37, hloR37⟩ : ∃ n_ : Nat, n_ = w_23.heap.size := ⟨_, rfl⟩; obtain ⟨hiR37, hhiR37⟩ : ∃ n_ : Nat, n_ = w_24.heap.size := ⟨_, rfl⟩; have n0_ := Aside0.mk (Kd.S_below HOR5.out hb); have n1_ := Aside0.mk (Kd.S_below HOR7.out hb); have n2_ := Aside0.mk (Kd.S_below HOR10.out hb); have n3_ := Aside0.mk (Kd.S_below HOR12.out hb); have n4_ := Aside0.mk (Kd.S_below HOR15.out hb); have n5_ := Aside0.mk (Kd.S_below HOR18.out hb); have n6_ := Aside0.mk (Kd.S_below HOR21.out hb); have n7_ := Aside0.mk (Kd.S_below HOR24.out hb); have n8_ := Aside0.mk (Kd.S_below HOR35.out hb); have n9_ := Aside0.mk (Nat.le_trans UPR5.out hb.size); have n10_ := Aside0.mk (Nat.le_trans UPR7.out hb.size); have n11_ := Aside0.mk (Nat.le_trans UPR10.out hb.size); have n12_ := Aside0.mk (Nat.le_trans UPR12.out hb.size); have n13_ := Aside0.mk (Nat.le_trans UPR15.out hb.size); have n14_ := Aside0.mk (Nat.le_trans UPR18.out hb.size); have n15_ := Aside0.mk (Nat.le_trans UPR21.out hb.size); have n16_ := Aside0.mk (Nat.le_trans UPR24.out hb.size); have n17_ := Aside0.mk (Nat.le_trans UPR35.out hb.size); have n18_ := Aside0.mk (blk_below (g := gb1) BKgb1.out hb); have n19_ := Aside0.mk (blk_below (g := gb13) BKgb13.out hb); have n20_ := Aside0.mk (Nat.lt_of_lt_of_le GUgb1.out hb.size); have n21_ := Aside0.mk (Nat.lt_of_lt_of_le GUgb13.out hb.size); have n22_ := Aside0.mk (below_step HB.out hb); have n23_ := Aside0.mk (below_step HBM.out hb); have n24_ := Aside0.mk (Kd.S_lower (Kd.S_mono (ok' := fun k_ => loR37 ≤ k_ ∧ k_ < hiR37) (Kd.S_bound hoR37) (fun k_ hk_ => ⟨by rw [hloR37]; exact hk_.2.1, by rw [hhiR37]; exact hk_.2.2.1⟩)) (below_size HBM.out)); have n25_ := Aside0.mk (by rw [hhiR37]; exact Nat.le_refl _ : hiR37 ≤ w_24.heap.size); have n26_ := Aside0.mk (fun k_ h1_ h2_ => by have := UPR5.out; rw [← hloR37] at this; omega : ∀ k_, loR5 ≤ k_ ∧ k_ < hiR5 → ¬ (loR37 ≤ k_ ∧ k_ < hiR37)); have n27_ := Aside0.mk (fun k_ h1_ h2_ => by have := UPR5.out; rw [← hloR37] at this; omega : ∀ k_, loR37 ≤ k_ ∧ k_ < hiR37 → ¬ (loR5 ≤ k_ ∧ k_ < hiR5)); have n28_ := Aside0.mk (fun k_ h1_ h2_ => by have := UPR7.out; rw [← hloR37] at this; omega : ∀ k_, loR7 ≤ k_ ∧ k_ < hiR7 → ¬ (loR37 ≤ k_ ∧ k_ < hiR37)); have n29_ := Aside0.mk (fun k_ h1_ h2_ => by have := UPR7.out; rw [← hloR37] at this; omega : ∀ k_, loR37 ≤ k_ ∧ k_ < hiR37 → ¬ (loR7 ≤ k_ ∧ k_ < hiR7)); have n30_ := Aside0.mk (fun k_ h1_ h2_ => by have := UPR10.out; rw [← hloR37] at this; omega : ∀ k_, loR10 ≤ k_ ∧ k_ < hiR10 → ¬ (loR37 ≤ k_ ∧ k_ < hiR37)); have n31_ := Aside0.mk (fun k_ h1_ h2_ => by have := UPR10.out; rw [← hloR37] at this; omega : ∀ k_, loR37 ≤ k_ ∧ k_ < hiR37 → ¬ (loR10 ≤ k_ ∧ k_ < hiR10)); have n32_ := Aside0.mk (fun k_ h1_ h2_ => by have := UPR12.out; rw [← hloR37] at this; omega : ∀ k_, loR12 ≤ k_ ∧ k_ < hiR12 → ¬ (loR37 ≤ k_ ∧ k_ < hiR37)); have n33_ := Aside0.mk (fun k_ h1_ h2_ => by have := UPR12.out; rw [← hloR37] at this; omega : ∀ k_, loR37 ≤ k_ ∧ k_ < hiR37 → ¬ (loR12 ≤ k_ ∧ k_ < hiR12)); have n34_ := Aside0.mk (fun k_ h1_ h2_ => by have := UPR15.out; rw [← hloR37] at this; omega : ∀ k_, loR15 ≤ k_ ∧ k_ < hiR15 → ¬ (loR37 ≤ k_ ∧ k_ < hiR37)); have n35_ := Aside0.mk (fun k_ h1_ h2_ => by have := UPR15.out; rw [← hloR37] at this; omega : ∀ k_, loR37 ≤ k_ ∧ k_ < hiR37 → ¬ (loR15 ≤ k_ ∧ k_ < hiR15)); have n36_ := Aside0.mk (fun k_ h1_ h2_ => by have := UPR18.out; rw [← hloR37] at this; omega : ∀ k_, loR18 ≤ k_ ∧ k_ < hiR18 → ¬ (loR37 ≤ k_ ∧ k_ < hiR37)); have n37_ := Aside0.mk (fun k_ h1_ h2_ => by have := UPR18.out; rw [← hloR37] at this; omega : ∀ k_, loR37 ≤ k_ ∧ k_ < hiR37 → ¬ (loR18 ≤ k_ ∧ k_ < hiR18)); have n38_ := Aside0.mk (fun k_ h1_ h2_ => by have := UPR21.out; rw [← hloR37] at this; omega : ∀ k_, loR21 ≤ k_ ∧ k_ < hiR21 → ¬ (loR37 ≤ k_ ∧ k_ < hiR37)); have n39_ := Aside0.mk (fun k_ h1_ h2_ => by have := UPR21.out; rw [← hloR37] at this; omega : ∀ k_, loR37 ≤ k_ ∧ k_ < hiR37 → ¬ (loR21 ≤ k_ ∧ k_ < hiR21)); have n40_ := Aside0.mk (fun k_ h1_ h2_ => by have := UPR24.out; rw [← hloR37] at this; omega : ∀ k_, loR24 ≤ k_ ∧ k_ < hiR24 → ¬ (loR37 ≤ k_ ∧ k_ < hiR37)); have n41_ := Aside0.mk (fun k_ h1_ h2_ => by have := UPR24.out; rw [← hloR37] at this; omega : ∀ k_, loR37 ≤ k_ ∧ k_ < hiR37 → ¬ (loR24 ≤ k_ ∧ k_ < hiR24)); have n42_ := Aside0.mk (fun k_ h1_ h2_ => by have := UPR35.out; rw [← hloR37] at this; omega : ∀ k_, loR35 ≤ k_ ∧ k_ < hiR35 → ¬ (loR37 ≤ k_ ∧ k_ < hiR37)); have n43_ := Aside0.mk (fun k_ h1_ h2_ => by have := UPR35.out; rw [← hloR37] at this; omega : ∀ k_, loR37 ≤ k_ ∧ k_ < hiR37 → ¬ (loR35 ≤ k_ ∧ k_ < hiR35)); have n44_ := Aside0.mk (fun k_ hk_ => by have := GUgb1.out; rw [← hloR37] at this; omega : ∀ k_, loR37 ≤ k_ ∧ k_ < hiR37 → k_ ≠ gb1); have n45_ := Aside0.mk (fun k_ hk_ => by have := GUgb13.out; rw [← hloR37] at this; omega : ∀ k_, loR37 ≤ k_ ∧ k_ < hiR37 → k_ ≠ gb13); clear HOR5; clear HOR7; clear HOR10; clear HOR12; clear HOR15; clear HOR18; clear HOR21; clear HOR24; clear HOR35; clear UPR5; clear UPR7; clear UPR10; clear UPR12; clear UPR15; clear UPR18; clear UPR21; clear UPR24; clear UPR35; clear BKgb1; clear BKgb13; clear GUgb1; clear GUgb13; clear HB; clear HBM; have HOR5 := n0_; have HOR7 := n1_; have HOR10 := n2_; have HOR12 := n3_; have HOR15 := n4_; have HOR18 := n5_; have HOR21 := n6_; have HOR24 := n7_; have HOR35 := n8_; have UPR5 := n9_; have UPR7 := n10_; have UPR10 := n11_; have UPR12 := n12_; have UPR15 := n13_; have UPR18 := n14_; have UPR21 := n15_; have UPR24 := n16_; have UPR35 := n17_; have BKgb1 := n18_; have BKgb13 := n19_; have GUgb1 := n20_; have GUgb13 := n21_; have HB := n22_; have HBM := n23_; have HOR37 := n24_; have UPR37 := n25_; have NRR5_R37 := n26_; have NRR37_R5 := n27_; have NRR7_R37 := n28_; have NRR37_R7 := n29_; have NRR10_R37 := n30_; have NRR37_R10 := n31_; have NRR12_R37 := n32_; have NRR37_R12 := n33_; have NRR15_R37 := n34_; have NRR37_R15 := n35_; have NRR18_R37 := n36_; have NRR37_R18 := n37_; have NRR21_R37 := n38_; have NRR37_R21 := n39_; have NRR24_R37 := n40_; have NRR37_R24 := n41_; have NRR35_R37 := n42_; have NRR37_R35 := n43_; have NER37_gb1 := n44_; have NER37_gb13 := n45_; clear n0_ n1_ n2_ n3_ n4_ n5_ n6_ n7_ n8_ n9_ n10_ n11_ n12_ n13_ n14_ n15_ n16_ n17_ n18_ n19_ n20_ n21_ n22_ n23_ n24_ n25_ n26_ n27_ n28_ n29_ n30_ n31_ n32_ n33_ n34_ n35_ n36_ n37_ n38_ n39_ n40_ n41_ n42_ n43_ n44_ n45_; clear hb; clear hoR37 hloR37 hhiR37; obtain ⟨AR37, cR37, eqR37⟩ := Kd.S_slice HOR37.out; subst eqR37; (try clear hczgb1_0); (try clear hfzgb1_0); (try clear hczgb13_0); (try clear hfzgb13_0); have hczgb1_0 : w_24.cell? ⟨gb1, 0, none⟩ = some (.slice A0_0 l0_0.length c0_0) := (blk_cell BKgb1.out 0).trans rfl; have hfzgb1_0 := blk_frozen BKgb1.out 0; have hczgb13_0 : w_24.cell? ⟨gb13, 0, none⟩ = some (.slice AR12 t11.length cR12) := (blk_cell BKgb13.out 0).trans rfl; have hfzgb13_0 := blk_frozen BKgb13.out 0) | ((with_reducible refine gate_callee (f := 41) rfl ?_); refine goesL_ (some 99) rfl rfl Try.func41 (by kernel_rfl) rfl #[.agg #[.slice AR35 t34.length cR35], .slice AR37 t36.length cR37] rfl (by (try simp only [List.map_toArray, List.map_cons, List.map_nil]); first | done | rfl) ?_; (with_reducible refine (impl_MaskDither.calls k _ _ t34 _ _ t36 t38 t39 _ ?side1 ?side2 ?side3 ?side4 E31.out).mono ?_); (case side1 => exact (Kd.S_reads' HOR35.out).2.2); (case side2 => exact (Kd.S_reads' HOR35.out).2.1); (case side3 => exact (Kd.S_reads' HOR37.out).2.2); (case side4 => exact (Kd.S_reads' HOR37.out).2.1); rintro e w_25 ⟨vR40, rfl, hoR40, hb⟩; refine ⟨_, rfl, ?_⟩; obtain ⟨loR40, hloR40⟩ : ∃ n_ : Nat, n_ = w_24.heap.size := ⟨_, rfl⟩; obtain ⟨hiR40, hhiR40⟩ : ∃ n_ : Nat, n_ = w_25.heap.size := ⟨_, rfl⟩; have n0_ := Aside0.mk (Kd.S_below HOR5.out hb); have n1_ := Aside0.mk (Kd.S_below HOR7.out hb); have n2_ := Aside0.mk (Kd.S_below HOR10.out hb); have n3_ := Aside0.mk (Kd.S_below HOR12.out hb); have n4_ := Aside0.mk (Kd.S_below HOR15.out hb); have n5_ := Aside0.mk (Kd.S_below HOR18.out hb); have n6_ := Aside0.mk (Kd.S_below HOR21.out hb); have n7_ := Aside0.mk (Kd.S_below HOR24.out hb); have n8_ := Aside0.mk (Kd.S_below HOR35.out hb); have n9_ := Aside0.mk (Kd.S_below HOR37.out hb); have n10_ := Aside0.mk (Nat.le_trans UPR5.out hb.size); have n11_ := Aside0.mk (Nat.le_trans UPR7.out hb.size); have n12_ := Aside0.mk (Nat.le_trans UPR10.out hb.size); have n13_ := Aside0.mk (Nat.le_trans UPR12.out hb.size); have n14_ := Aside0.mk (Nat.le_trans UPR15.out hb.size); have n15_ := Aside0.mk (Nat.le_trans UPR18.out hb.size); have n16_ := Aside0.mk (Nat.le_trans UPR21.out hb.size); have n17_ := Aside0.mk (Nat.le_trans UPR24.out hb.size); have n18_ := Aside0.mk (Nat.le_trans UPR35.out hb.size); have n19_ := Aside0.mk (Nat.le_trans UPR37.out hb.size); have n20_ := Aside0.mk (blk_below (g := gb1) BKgb1.out hb); have n21_ := Aside0.mk (blk_below (g := gb13) BKgb13.out hb); have n22_ := Aside0.mk (Nat.lt_of_lt_of_le GUgb1.out hb.size); have n23_ := Aside0.mk (Nat.lt_of_lt_of_le GUgb13.out hb.size); have n24_ := Aside0.mk (below_step HB.out hb); have n25_ := Aside0.mk (below_step HBM.out hb); have n26_ := Aside0.mk (Kd.S_lower (Kd.S_mono (ok' := fun k_ => loR40 ≤ k_ ∧ k_ < hiR40) (Kd.S_bound hoR40) (fun k_ hk_ => ⟨by rw [hloR40]; exact hk_.2.1, by rw [hhiR40]; exact hk_.2.2.1⟩)) (below_size HBM.out)); have n27_ := Aside0.mk (by rw [hhiR40]; exact Nat.le_refl _ : hiR40 ≤ w_25.heap.size); have n28_ := Aside0.mk (fun k_ h1_ h2_ => by have := UPR5.out; rw [← hloR40] at this; omega : ∀ k_, loR5 ≤ k_ ∧ k_ < hiR5 → ¬ (loR40 ≤ k_ ∧ k_ < hiR40)); have n29_ := Aside0.mk (fun k_ h1_ h2_ => by have := UPR5.out; rw [← hloR40] at this; omega : ∀ k_, loR40 ≤ k_ ∧ k_ < hiR40 → ¬ (loR5 ≤ k_ ∧ k_ < hiR5)); have n30_ := Aside0.mk (fun k_ h1_ h2_ => by have := UPR7.out; rw [← hloR40] at this; omega : ∀ k_, loR7 ≤ k_ ∧ k_ < hiR7 → ¬ (loR40 ≤ k_ ∧ k_ < hiR40)); have n31_ := Aside0.mk (fun k_ h1_ h2_ => by have := UPR7.out; rw [← hloR40] at this; omega : ∀ k_, loR40 ≤ k_ ∧ k_ < hiR40 → ¬ (loR7 ≤ k_ ∧ k_ < hiR7)); have n32_ := Aside0.mk (fun k_ h1_ h2_ => by have := UPR10.out; rw [← hloR40] at this; omega : ∀ k_, loR10 ≤ k_ ∧ k_ < hiR10 → ¬ (loR40 ≤ k_ ∧ k_ < hiR40)); have n33_ := Aside0.mk (fun k_ h1_ h2_ => by have := UPR10.out; rw [← hloR40] at this; omega : ∀ k_, loR40 ≤ k_ ∧ k_ < hiR40 → ¬ (loR10 ≤ k_ ∧ k_ < hiR10)); have n34_ := Aside0.mk (fun k_ h1_ h2_ => by have := UPR12.out; rw [← hloR40] at this; omega : ∀ k_, loR12 ≤ k_ ∧ k_ < hiR12 → ¬ (loR40 ≤ k_ ∧ k_ < hiR40)); have n35_ := Aside0.mk (fun k_ h1_ h2_ => by have := UPR12.out; rw [← hloR40] at this; omega : ∀ k_, loR40 ≤ k_ ∧ k_ < hiR40 → ¬ (loR12 ≤ k_ ∧ k_ < hiR12)); have n36_ := Aside0.mk (fun k_ h1_ h2_ => by have := UPR15.out; rw [← hloR40] at this; omega : ∀ k_, loR15 ≤ k_ ∧ k_ < hiR15 → ¬ (loR40 ≤ k_ ∧ k_ < hiR40)); have n37_ := Aside0.mk (fun k_ h1_ h2_ => by have := UPR15.out; rw [← hloR40] at this; omega : ∀ k_, loR40 ≤ k_ ∧ k_ < hiR40 → ¬ (loR15 ≤ k_ ∧ k_ < hiR15)); have n38_ := Aside0.mk (fun k_ h1_ h2_ => by have := UPR18.out; rw [← hloR40] at this; omega : ∀ k_, loR18 ≤ k_ ∧ k_ < hiR18 → ¬ (loR40 ≤ k_ ∧ k_ < hiR40)); have n39_ := Aside0.mk (fun k_ h1_ h2_ => by have := UPR18.out; rw [← hloR40] at this; omega : ∀ k_, loR40 ≤ k_ ∧ k_ < hiR40 → ¬ (loR18 ≤ k_ ∧ k_ < hiR18)); have n40_ := Aside0.mk (fun k_ h1_ h2_ => by have := UPR21.out; rw [← hloR40] at this; omega : ∀ k_, loR21 ≤ k_ ∧ k_ < hiR21 → ¬ (loR40 ≤ k_ ∧ k_ < hiR40)); have n41_ := Aside0.mk (fun k_ h1_ h2_ => by have := UPR21.out; rw [← hloR40] at this; omega : ∀ k_, loR40 ≤ k_ ∧ k_ < hiR40 → ¬ (loR21 ≤ k_ ∧ k_ < hiR21)); have n42_ := Aside0.mk (fun k_ h1_ h2_ => by have := UPR24.out; rw [← hloR40] at this; omega : ∀ k_, loR24 ≤ k_ ∧ k_ < hiR24 → ¬ (loR40 ≤ k_ ∧ k_ < hiR40)); have n43_ := Aside0.mk (fun k_ h1_ h2_ => by have := UPR24.out; rw [← hloR40] at this; omega : ∀ k_, loR40 ≤ k_ ∧ k_ < hiR40 → ¬ (loR24 ≤ k_ ∧ k_ < hiR24)); have n44_ := Aside0.mk (fun k_ h1_ h2_ => by have := UPR35.out; rw [← hloR40] at this; omega : ∀ k_, loR35 ≤ k_ ∧ k_ < hiR35 → ¬ (loR40 ≤ k_ ∧ k_ < hiR40)); have n45_ := Aside0.mk (fun k_ h1_ h2_ => by have := UPR35.out; rw [← hloR40] at this; omega : ∀ k_, loR40 ≤ k_ ∧ k_ < hiR40 → ¬ (loR35 ≤ k_ ∧ k_ < hiR35)); have n46_ := Aside0.mk (fun k_ h1_ h2_ => by have := UPR37.out; rw [← hloR40] at this; omega : ∀ k_, loR37 ≤ k_ ∧ k_ < hiR37 → ¬ (loR40 ≤ k_ ∧ k_ < hiR40)); have n47_ := Aside0.mk (fun k_ h1_ h2_ => by have := UPR37.out; rw [← hloR40] at this; omega : ∀ k_, loR40 ≤ k_ ∧ k_ < hiR40 → ¬ (loR37 ≤ k_ ∧ k_ < hiR37)); have n48_ := Aside0.mk (fun k_ hk_ => by have := GUgb1.out; rw [← hloR40] at this; omega : ∀ k_, loR40 ≤ k_ ∧ k_ < hiR40 → k_ ≠ gb1); have n49_ := Aside0.mk (fun k_ hk_ => by have := GUgb13.out; rw [← hloR40] at this; omega : ∀ k_, loR40 ≤ k_ ∧ k_ < hiR40 → k_ ≠ gb13); clear HOR5; clear HOR7; clear HOR10; clear HOR12; clear HOR15; clear HOR18; clear HOR21; clear HOR24; clear HOR35; clear HOR37; clear UPR5; clear UPR7; clear UPR10; clear UPR12; clear UPR15; clear UPR18; clear UPR21; clear UPR24; clear UPR35; clear UPR37; clear BKgb1; clear BKgb13; clear GUgb1; clear GUgb13; clear HB; clear HBM; have HOR5 := n0_; have HOR7 := n1_; have HOR10 := n2_; have HOR12 := n3_; have HOR15 := n4_; have HOR18 := n5_; have HOR21 := n6_; have HOR24 := n7_; have HOR35 := n8_; have HOR37 := n9_; have UPR5 := n10_; have UPR7 := n11_; have UPR10 := n12_; have UPR12 := n13_; have UPR15 := n14_; have UPR18 := n15_; have UPR21 := n16_; have UPR24 := n17_; have UPR35 := n18_; have UPR37 := n19_; have BKgb1 := n20_; have BKgb13 := n21_; have GUgb1 := n22_; have GUgb13 := n23_; have HB := n24_; have HBM := n25_; have HOR40 := n26_; have UPR40 := n27_; have NRR5_R40 := n28_; have NRR40_R5 := n29_; have NRR7_R40 := n30_; have NRR40_R7 := n31_; have NRR10_R40 := n32_; have NRR40_R10 := n33_; have NRR12_R40 := n34_; have NRR40_R12 := n35_; have NRR15_R40 := n36_; have NRR40_R15 := n37_; have NRR18_R40 := n38_; have NRR40_R18 := n39_; have NRR21_R40 := n40_; have NRR40_R21 := n41_; have NRR24_R40 := n42_; have NRR40_R24 := n43_; have NRR35_R40 := n44_; have NRR40_R35 := n45_; have NRR37_R40 := n46_; have NRR40_R37 := n47_; have NER40_gb1 := n48_; have NER40_gb13 := n49_; clear n0_ n1_ n2_ n3_ n4_ n5_ n6_ n7_ n8_ n9_ n10_ n11_ n12_ n13_ n14_ n15_ n16_ n17_ n18_ n19_ n20_ n21_ n22_ n23_ n24_ n25_ n26_ n27_ n28_ n29_ n30_ n31_ n32_ n33_ n34_ n35_ n36_ n37_ n38_ n39_ n40_ n41_ n42_ n43_ n44_ n45_ n46_ n47_ n48_ n49_; clear hb; clear hoR40 hloR40 hhiR40; obtain ⟨AR40, cR40, eqR40⟩ := Kd.S_slice HOR40.out; subst eqR40; (try clear hczgb1_0); (try clear hfzgb1_0); (try clear hczgb13_0); (try clear hfzgb13_0); have hczgb1_0 : w_25.cell? ⟨gb1, 0, none⟩ = some (.slice A0_0 l0_0.length c0_0) := (blk_cell BKgb1.out 0).trans rfl; have hfzgb1_0 := blk_frozen BKgb1.out 0; have hczgb13_0 : w_25.cell? ⟨gb13, 0, none⟩ = some (.slice AR12 t11.length cR12) := (blk_cell BKgb13.out 0).trans rfl; have hfzgb13_0 := blk_frozen BKgb13.out 0) | ((with_reducible refine gate_callee (f := 17) rfl ?_); refine goesL_ (some 104) rfl rfl Try.func17 (by kernel_rfl) rfl #[.slice AR40 t38.length cR40, .slice AR10 t8.length cR10] rfl (by (try simp only [List.map_toArray, List.map_cons, List.map_nil]); first | done | rfl) ?_; (with_reducible refine (laws_eqInt64SS.calls k _ _ t38 _ _ t8 true _ ?side1 ?side2 ?side3 ?side4 E32.out).mono ?_); (case side1 => exact (Kd.S_reads' HOR40.out).2.2); (case side2 => exact (Kd.S_reads' HOR40.out).2.1); (case side3 => exact (Kd.S_reads' HOR10.out).2.2); (case side4 => exact (Kd.S_reads' HOR10.out).2.1); rintro e w_26 ⟨rfl, hd⟩; have hb := Drawn0.below hd; refine ⟨_, rfl, ?_⟩; have n0_ := Aside0.mk (Kd.S_below HOR5.out hb); have n1_ := Aside0.mk (Kd.S_below HOR7.out hb); have n2_ := Aside0.mk (Kd.S_below HOR10.out hb); have n3_ := Aside0.mk (Kd.S_below HOR12.out hb); have n4_ := Aside0.mk (Kd.S_below HOR15.out hb); have n5_ := Aside0.mk (Kd.S_below HOR18.out hb); have n6_ := Aside0.mk (Kd.S_below HOR21.out hb); have n7_ := Aside0.mk (Kd.S_below HOR24.out hb); have n8_ := Aside0.mk (Kd.S_below HOR35.out hb); have n9_ := Aside0.mk (Kd.S_below HOR37.out hb); have n10_ := Aside0.mk (Kd.S_below HOR40.out hb); have n11_ := Aside0.mk (Nat.le_trans UPR5.out hb.size); have n12_ := Aside0.mk (Nat.le_trans UPR7.out hb.size); have n13_ := Aside0.mk (Nat.le_trans UPR10.out hb.size); have n14_ := Aside0.mk (Nat.le_trans UPR12.out hb.size); have n15_ := Aside0.mk (Nat.le_trans UPR15.out hb.size); have n16_ := Aside0.mk (Nat.le_trans UPR18.out hb.size); have n17_ := Aside0.mk (Nat.le_trans UPR21.out hb.size); have n18_ := Aside0.mk (Nat.le_trans UPR24.out hb.size); have n19_ := Aside0.mk (Nat.le_trans UPR35.out hb.size); have n20_ := Aside0.mk (Nat.le_trans UPR37.out hb.size); have n21_ := Aside0.mk (Nat.le_trans UPR40.out hb.size); have n22_ := Aside0.mk (blk_below (g := gb1) BKgb1.out hb); have n23_ := Aside0.mk (blk_below (g := gb13) BKgb13.out hb); have n24_ := Aside0.mk (Nat.lt_of_lt_of_le GUgb1.out hb.size); have n25_ := Aside0.mk (Nat.lt_of_lt_of_le GUgb13.out hb.size); have n26_ := Aside0.mk (below_step HB.out hb); have n27_ := Aside0.mk (below_step HBM.out hb); clear HOR5; clear HOR7; clear HOR10; clear HOR12; clear HOR15; clear HOR18; clear HOR21; clear HOR24; clear HOR35; clear HOR37; clear HOR40; clear UPR5; clear UPR7; clear UPR10; clear UPR12; clear UPR15; clear UPR18; clear UPR21; clear UPR24; clear UPR35; clear UPR37; clear UPR40; clear BKgb1; clear BKgb13; clear GUgb1; clear GUgb13; clear HB; clear HBM; have HOR5 := n0_; have HOR7 := n1_; have HOR10 := n2_; have HOR12 := n3_; have HOR15 := n4_; have HOR18 := n5_; have HOR21 := n6_; have HOR24 := n7_; have HOR35 := n8_; have HOR37 := n9_; have HOR40 := n10_; have UPR5 := n11_; have UPR7 := n12_; have UPR10 := n13_; have UPR12 := n14_; have UPR15 := n15_; have UPR18 := n16_; have UPR21 := n17_; have UPR24 := n18_; have UPR35 := n19_; have UPR37 := n20_; have UPR40 := n21_; have BKgb1 := n22_; have BKgb13 := n23_; have GUgb1 := n24_; have GUgb13 := n25_; have HB := n26_; have HBM := n27_; clear n0_ n1_ n2_ n3_ n4_ n5_ n6_ n7_ n8_ n9_ n10_ n11_ n12_ n13_ n14_ n15_ n16_ n17_ n18_ n19_ n20_ n21_ n22_ n23_ n24_ n25_ n26_ n27_; clear hb; clear hd; (try clear hczgb1_0); (try clear hfzgb1_0); (try clear hczgb13_0); (try clear hfzgb13_0); have hczgb1_0 : w_26.cell? ⟨gb1, 0, none⟩ = some (.slice A0_0 l0_0.length c0_0) := (blk_cell BKgb1.out 0).trans rfl; have hfzgb1_0 := blk_frozen BKgb1.out 0; have hczgb13_0 : w_26.cell? ⟨gb13, 0, none⟩ = some (.slice AR12 t11.length cR12) := (blk_cell BKgb13.out 0).trans rfl; have hfzgb13_0 := blk_frozen BKgb13.out 0) | ((with_reducible refine gate_callee (f := 19) rfl ?_); refine goesL_ (some 113) rfl rfl Try.func19 (by kernel_rfl) rfl #[.slice AR18 t32.length cR18, .int .i64 1] rfl (by (try simp only [List.map_toArray, List.map_cons, List.map_nil]); first | done | rfl | (simp only [show t32.length = t16.length from (Kd.S_reads' HOR18.out).1.symm]; rfl)) ?_; (with_reducible refine (laws_heldInt64SS.calls k _ _ t32 1 t42 _ ?side1 ?side2 E35.out).mono ?_); (case side1 => exact (Kd.S_reads' HOR18.out).2.2); (case side2 => exact (fun h_ => h_.1 ▸ h_.2.1) (Kd.S_reads' HOR18.out)); rintro e w_27 ⟨rfl, hd⟩; have hb := Drawn0.below hd; refine ⟨_, rfl, ?_⟩; have n0_ := Aside0.mk (Kd.S_below HOR5.out hb); have n1_ := Aside0.mk (Kd.S_below HOR7.out hb); have n2_ := Aside0.mk (Kd.S_below HOR10.out hb); have n3_ := Aside0.mk (Kd.S_below HOR12.out hb); have n4_ := Aside0.mk (Kd.S_below HOR15.out hb); have n5_ := Aside0.mk (Kd.S_below HOR18.out hb); have n6_ := Aside0.mk (Kd.S_below HOR21.out hb); have n7_ := Aside0.mk (Kd.S_below HOR24.out hb); have n8_ := Aside0.mk (Kd.S_below HOR35.out hb); have n9_ := Aside0.mk (Kd.S_below HOR37.out hb); have n10_ := Aside0.mk (Kd.S_below HOR40.out hb); have n11_ := Aside0.mk (Nat.le_trans UPR5.out hb.size); have n12_ := Aside0.mk (Nat.le_trans UPR7.out hb.size); have n13_ := Aside0.mk (Nat.le_trans UPR10.out hb.size); have n14_ := Aside0.mk (Nat.le_trans UPR12.out hb.size); have n15_ := Aside0.mk (Nat.le_trans UPR15.out hb.size); have n16_ := Aside0.mk (Nat.le_trans UPR18.out hb.size); have n17_ := Aside0.mk (Nat.le_trans UPR21.out hb.size); have n18_ := Aside0.mk (Nat.le_trans UPR24.out hb.size); have n19_ := Aside0.mk (Nat.le_trans UPR35.out hb.size); have n20_ := Aside0.mk (Nat.le_trans UPR37.out hb.size); have n21_ := Aside0.mk (Nat.le_trans UPR40.out hb.size); have n22_ := Aside0.mk (blk_below (g := gb1) BKgb1.out hb); have n23_ := Aside0.mk (blk_below (g := gb13) BKgb13.out hb); have n24_ := Aside0.mk (Nat.lt_of_lt_of_le GUgb1.out hb.size); have n25_ := Aside0.mk (Nat.lt_of_lt_of_le GUgb13.out hb.size); have n26_ := Aside0.mk (below_step HB.out hb); have n27_ := Aside0.mk (below_step HBM.out hb); clear HOR5; clear HOR7; clear HOR10; clear HOR12; clear HOR15; clear HOR18; clear HOR21; clear HOR24; clear HOR35; clear HOR37; clear HOR40; clear UPR5; clear UPR7; clear UPR10; clear UPR12; clear UPR15; clear UPR18; clear UPR21; clear UPR24; clear UPR35; clear UPR37; clear UPR40; clear BKgb1; clear BKgb13; clear GUgb1; clear GUgb13; clear HB; clear HBM; have HOR5 := n0_; have HOR7 := n1_; have HOR10 := n2_; have HOR12 := n3_; have HOR15 := n4_; have HOR18 := n5_; have HOR21 := n6_; have HOR24 := n7_; have HOR35 := n8_; have HOR37 := n9_; have HOR40 := n10_; have UPR5 := n11_; have UPR7 := n12_; have UPR10 := n13_; have UPR12 := n14_; have UPR15 := n15_; have UPR18 := n16_; have UPR21 := n17_; have UPR24 := n18_; have UPR35 := n19_; have UPR37 := n20_; have UPR40 := n21_; have BKgb1 := n22_; have BKgb13 := n23_; have GUgb1 := n24_; have GUgb13 := n25_; have HB := n26_; have HBM := n27_; clear n0_ n1_ n2_ n3_ n4_ n5_ n6_ n7_ n8_ n9_ n10_ n11_ n12_ n13_ n14_ n15_ n16_ n17_ n18_ n19_ n20_ n21_ n22_ n23_ n24_ n25_ n26_ n27_; clear hb; clear hd; (try clear hczgb1_0); (try clear hfzgb1_0); (try clear hczgb13_0); (try clear hfzgb13_0); have hczgb1_0 : w_27.cell? ⟨gb1, 0, none⟩ = some (.slice A0_0 l0_0.length c0_0) := (blk_cell BKgb1.out 0).trans rfl; have hfzgb1_0 := blk_frozen BKgb1.out 0; have hczgb13_0 : w_27.cell? ⟨gb13, 0, none⟩ = some (.slice AR12 t11.length cR12) := (blk_cell BKgb13.out 0).trans rfl; have hfzgb13_0 := blk_frozen BKgb13.out 0))
 go_ret
 exact ⟨by first | rfl | (simp; done) | (simp [*]; done), HB.out⟩
theorem laws_FnExactMaskDither.walk (P : laws_FnExactMaskDither.Pure) (A0_0 : Option Addr) (c0_0 : Nat) (l0_0 : List (List Int)) (A1 : Option Addr) (c1 : Nat) (l1 : List (List Int)) (w : World) (hr0_0 : Kd.C (Kd.slice 2 (Kd.int .i64)) w A0_0 l0_0.length l0_0) (hc0_0 : l0_0.length ≤ c0_0) (hr1 : Kd.C (Kd.slice 2 (Kd.int .i64)) w A1 l1.length l1) (hc1 : l1.length ≤ c1) (w0_0 : (l0_0.length ≤ maxLen ∧ ∀ y ∈ l0_0, (y.length ≤ maxLen ∧ ∀ y_ ∈ y, (Lit.int .i64 y_).wf = true))) (w1 : (l1.length ≤ maxLen ∧ ∀ y ∈ l1, (y.length ≤ maxLen ∧ ∀ y_ ∈ y, (Lit.int .i64 y_).wf = true))) :
  Calls Try.prog 9 #[.agg #[.slice A0_0 l0_0.length c0_0], .slice A1 l1.length c1] w fun e w' => e = .returned (.bool true) ∧ Below w.heap.size w w' := by
 obtain ⟨k, h⟩ := P l0_0 l1 w0_0 w1
 exact laws_FnExactMaskDither.calls k A0_0 c0_0 l0_0 A1 c1 l1 w hr0_0 hc0_0 hr1 hc1 h
end Go.Proofs.Ytckonklpdepgoaa.Q
namespace Go.Proofs.Ytckonklpdepgoaa.Com
open Go.RowKit Go.Proofs.YtckonklpdepgoaaW.PrintWords
theorem w64 {x : Int} (h1 : -9223372036854775808 ≤ x) (h2 : x ≤ 9223372036854775807) : wrap64 x = x := by
 unfold wrap64
 omega
theorem ev_of {α : Type} {g : Nat → Option α} {r : α} (h : Ev g r) : ∃ k, g k = some r := h.rounds
theorem tmod_nn {a b : Int} (h : 0 ≤ a) : Int.tmod a b = a % b := Int.tmod_eq_emod_of_nonneg h
end Go.Proofs.Ytckonklpdepgoaa.Com
namespace Go.Proofs.Ytckonklpdepgoaa.Com
set_option linter.unusedSimpArgs false
set_option linter.unusedVariables false
open Go.RowKit Go.Proofs.YtckonklpdepgoaaW.PrintWords
theorem ev_fold {α σ ρ : Type} (xs : List α) (g : Nat → σ → Nat → Option ρ) (F : List α → σ → ρ) (Inv : Nat → σ → Prop)
  (h0 : ∀ s, Inv xs.length s → Ev (g xs.length s) (F [] s))
  (hs : ∀ m (h : m < xs.length) s, Inv m s → (∀ s', Inv (m + 1) s' → Ev (g (m + 1) s') (F (xs.drop (m + 1)) s')) → Ev (g m s) (F (xs[m] :: xs.drop (m + 1)) s)) :
  ∀ m s, m ≤ xs.length → Inv m s → Ev (g m s) (F (xs.drop m) s) := by
 have key : ∀ d m s, m + d = xs.length → Inv m s → Ev (g m s) (F (xs.drop m) s) := by
  intro d
  induction d with
  | zero =>
   intro m s e hi
   obtain rfl : m = xs.length := by omega
   rw [List.drop_length]
   exact h0 s hi
  | succ d ih =>
   intro m s e hi
   have h : m < xs.length := by omega
   rw [List.drop_eq_getElem_cons h]
   exact hs m h s hi (fun s' hi' => ih (m + 1) s' (by omega) hi')
 intro m s hm hi
 exact key (xs.length - m) m s (by omega) hi
theorem ev_list {α ρ : Type} (xs : List α) (g : Nat → Nat → Option ρ) (F : List α → ρ) (h0 : Ev (g xs.length) (F []))
  (hs : ∀ m (h : m < xs.length), Ev (g (m + 1)) (F (xs.drop (m + 1))) → Ev (g m) (F (xs[m] :: xs.drop (m + 1)))) (m : Nat) (hm : m ≤ xs.length) : Ev (g m) (F (xs.drop m)) :=
 ev_fold xs (fun m (_ : Unit) => g m) (fun l _ => F l) (fun _ _ => True) (fun _ _ => h0) (fun m h _ _ ih => hs m h (ih () trivial)) m () hm trivial
theorem ev_count {σ ρ : Type} (n : Nat) (g : Nat → σ → Nat → Option ρ) (r : ρ) (Inv : Nat → σ → Prop) (h0 : ∀ s, Inv n s → Ev (g n s) r)
  (hs : ∀ m s, m < n → Inv m s → ∃ s', Inv (m + 1) s' ∧ (Ev (g (m + 1) s') r → Ev (g m s) r)) : ∀ m s, m ≤ n → Inv m s → Ev (g m s) r := by
 have key : ∀ d m s, m + d = n → Inv m s → Ev (g m s) r := by
  intro d
  induction d with
  | zero =>
   intro m s e hi
   obtain rfl : m = n := by omega
   exact h0 s hi
  | succ d ih =>
   intro m s e hi
   obtain ⟨s', hi', k⟩ := hs m s (by omega) hi
   exact k (ih (m + 1) s' (by omega) hi')
 intro m s hm hi
 exact key (n - m) m s (by omega) hi
theorem rd_nat {xs : List Int} {m : Nat} (h : m < xs.length) : rd xs (m : Int) = xs[m] := by
 unfold rd
 rw [Int.toNat_natCast, List.getD_eq_getElem?_getD, List.getElem?_eq_getElem h]
 rfl
theorem w_succ {m : Nat} (h : m < 9223372036854775807) : wrap64 ((m : Int) + 1) = ((m + 1 : Nat) : Int) := by
 rw [w64 (by omega) (by omega)]
 omega
theorem w_pred {m : Nat} (h : 0 < m) (h' : m < 9223372036854775807) : wrap64 ((m : Int) - 1) = ((m - 1 : Nat) : Int) := by
 rw [w64 (by omega) (by omega)]
 omega
end Go.Proofs.Ytckonklpdepgoaa.Com
namespace Go.Proofs.Ytckonklpdepgoaa.Com
set_option linter.unusedSimpArgs false
set_option linter.unusedVariables false
open Go.RowKit Go.Proofs.YtckonklpdepgoaaW.PrintWords Go.Proofs.Ytckonklpdepgoaa.Q
theorem set_take (xs : List Int) (m : Nat) (h : m < xs.length) : (xs.take m ++ List.replicate (xs.length - m) 0).set m xs[m] = xs.take (m + 1) ++ List.replicate (xs.length - (m + 1)) 0 := by
 have hl : (xs.take m).length = m := by rw [List.length_take]; omega
 rw [List.set_append_right _ _ (by omega), hl, Nat.sub_self]
 obtain ⟨q, hq⟩ : ∃ q, xs.length - m = q + 1 := ⟨xs.length - m - 1, by omega⟩
 rw [hq, List.replicate_succ, List.set_cons_zero, show xs.length - (m + 1) = q by omega, List.take_succ_eq_append_getElem h, List.append_assoc]
 rfl
theorem toInt64S_ev (xs : List Int) (hx : xs.length ≤ 1048576) : Ev (fun k => laws_toInt64S.f k xs) xs := by
 unfold laws_toInt64S.f
 simp only [if_pos (show 0 ≤ (xs.length : Int) by omega), if_pos (show ((xs.length : Int)).toNat ≤ 35184372088832 by omega)]
 have := ev_count xs.length (fun m s k => laws_toInt64S.l0 k xs s (m : Int)) xs (fun m s => s = xs.take m ++ List.replicate (xs.length - m) 0) (fun s hs => ?_) (fun m s hm hs => ⟨xs.take (m + 1) ++ List.replicate (xs.length - (m + 1)) 0, rfl, fun ih => ?_⟩) 0 (List.replicate xs.length 0) (by omega) (by simp)
 ·simpa using this
 ·refine Ev.step (fun k => by rw [laws_toInt64S.l0]) ?_
  simp only [if_neg (show ¬ (xs.length : Int) < (xs.length : Int) by omega)]
  subst hs
  simp
  exact Ev.now _
 ·refine Ev.step (fun k => by rw [laws_toInt64S.l0]) ?_
  subst hs
  have hl : (xs.take m ++ List.replicate (xs.length - m) 0).length = xs.length := by simp; omega
  simp only [if_pos (show (m : Int) < (xs.length : Int) by omega), if_pos (show 0 ≤ (m : Int) by omega), hl, rd_nat hm, Int.toNat_natCast, set_take xs m hm, w_succ (m := m) (by omega)]
  exact ih
theorem eqInt64S_ev (xs ys : List Int) (hx : xs.length ≤ 1048576) : Ev (fun k => laws_eqInt64S.f k xs ys) (decide (xs = ys)) := by
 unfold laws_eqInt64S.f
 by_cases hl : (xs.length : Int) = (ys.length : Int)
 ·simp only [if_pos hl]
  have key : ∀ m, m ≤ xs.length → Ev (fun k => laws_eqInt64S.l0 k xs ys (m : Int)) (decide (xs.drop m = ys.drop m)) := by
   have gen := ev_list xs (fun m k => laws_eqInt64S.l0 k xs ys (m : Int)) (fun l => decide (l = ys.drop (xs.length - l.length))) ?_ ?_
   ·intro m hm
    have := gen m hm
    rwa [List.length_drop, show xs.length - (xs.length - m) = m by omega] at this
   ·refine Ev.step (fun k => by rw [laws_eqInt64S.l0]) ?_
    simp only [if_neg (show ¬ (xs.length : Int) < (xs.length : Int) by omega)]
    have : ys.drop (xs.length - ([] : List Int).length) = [] := by simp; omega
    rw [this]
    exact Ev.now _
   ·intro m hm ih
    refine Ev.step (fun k => by rw [laws_eqInt64S.l0]) ?_
    have hy : m < ys.length := by omega
    simp only [if_pos (show (m : Int) < (xs.length : Int) by omega), if_pos (show 0 ≤ (m : Int) by omega), if_pos (show (m : Int) < (ys.length : Int) by omega), rd_nat hm, rd_nat hy, w_succ (m := m) (by omega)]
    rw [List.length_drop, show xs.length - (xs.length - (m + 1)) = m + 1 by omega] at ih
    have e : xs.length - (xs[m] :: xs.drop (m + 1)).length = m := by simp; omega
    rw [e, List.drop_eq_getElem_cons hy]
    by_cases c : xs[m] = ys[m]
    ·simp only [if_pos c]
     rw [show decide (xs[m] :: xs.drop (m + 1) = ys[m] :: ys.drop (m + 1)) = decide (xs.drop (m + 1) = ys.drop (m + 1)) from decide_eq_decide.2 (by rw [c]; exact ⟨fun h => (List.cons.inj h).2, fun h => by rw [h]⟩)]
     exact ih
    ·simp only [if_neg c]
     rw [decide_eq_false (show ¬ xs[m] :: xs.drop (m + 1) = ys[m] :: ys.drop (m + 1) from fun h => c (List.cons.inj h).1)]
     exact Ev.now _
  have := key 0 (by omega)
  simpa using this
 ·simp only [if_neg hl]
  have : xs ≠ ys := fun e => hl (by rw [e])
  rw [decide_eq_false this]
  exact Ev.now _
theorem sz_tells (xs : List Int) (a : Int) (hx : xs.length ≤ maxLen) (ha : -1 ≤ a ∧ a ≤ 1048576) : laws_szInt64S.f xs a = some (if a - xs.length < 0 then -1 else a - xs.length) := by
 unfold laws_szInt64S.f
 unfold maxLen at hx
 rw [w64 (by omega) (by omega)]
 split <;> rfl
end Go.Proofs.Ytckonklpdepgoaa.Com
namespace Go.Proofs.Ytckonklpdepgoaa.Com
set_option linter.unusedSimpArgs false
set_option linter.unusedVariables false
open Go.RowKit Go.Proofs.YtckonklpdepgoaaW.PrintWords Go.Proofs.Ytckonklpdepgoaa.Q
theorem within_tells (x a b : Int) : impl_within.f x a b = some (decide (a ≤ x ∧ x ≤ b)) := by
 unfold impl_within.f
 split <;> simp [*]
theorem in_tells (x a b : Int) : spec_l00In.f x a b = some (decide (a ≤ x ∧ x ≤ b)) := by
 unfold spec_l00In.f
 by_cases h : x ≥ a
 ·have h' : a ≤ x := h
  simp [h, h']
 ·have h' : ¬ a ≤ x := h
  simp [h, h']
end Go.Proofs.Ytckonklpdepgoaa.Com
namespace Go.Proofs.Ytckonklpdepgoaa.Com
set_option linter.unusedSimpArgs false
set_option linter.unusedVariables false
set_option linter.unusedSectionVars false
open Go.RowKit Go.Proofs.YtckonklpdepgoaaW.PrintWords Go.Proofs.YtckonklpdepgoaaW.PrintMore Go.Proofs.Ytckonklpdepgoaa.Q
theorem rdr_nat {xs : List (List Int)} {m : Nat} (h : m < xs.length) : rd_L1 xs (m : Int) = xs[m] := by
 unfold rd_L1
 rw [Int.toNat_natCast, List.getD_eq_getElem?_getD, List.getElem?_eq_getElem h]
 rfl
theorem setr_take (xs : List (List Int)) (m : Nat) (h : m < xs.length) : (xs.take m ++ List.replicate (xs.length - m) []).set m xs[m] = xs.take (m + 1) ++ List.replicate (xs.length - (m + 1)) [] := by
 have hl : (xs.take m).length = m := by rw [List.length_take]; omega
 rw [List.set_append_right _ _ (by omega), hl, Nat.sub_self]
 obtain ⟨q, hq⟩ : ∃ q, xs.length - m = q + 1 := ⟨xs.length - m - 1, by omega⟩
 rw [hq, List.replicate_succ, List.set_cons_zero, show xs.length - (m + 1) = q by omega, List.take_succ_eq_append_getElem h, List.append_assoc]
 rfl
theorem toInt64SS_ev (xs : List (List Int)) (hx : xs.length ≤ 1048576) (hr : ∀ x ∈ xs, x.length ≤ 1048576) : Ev (fun k => laws_toInt64SS.f k xs) xs := by
 unfold laws_toInt64SS.f
 simp only [if_pos (show 0 ≤ (xs.length : Int) by omega), if_pos (show ((xs.length : Int)).toNat ≤ 11728124029610 by omega)]
 have := ev_count xs.length (fun m s k => laws_toInt64SS.l0 k xs s (m : Int)) xs (fun m s => s = xs.take m ++ List.replicate (xs.length - m) []) (fun s hs => ?_) (fun m s hm hs => ⟨xs.take (m + 1) ++ List.replicate (xs.length - (m + 1)) [], rfl, fun ih => ?_⟩) 0 (List.replicate xs.length []) (by omega) (by simp)
 ·simpa using this
 ·refine Ev.step (fun k => by rw [laws_toInt64SS.l0]) ?_
  simp only [if_neg (show ¬ (xs.length : Int) < (xs.length : Int) by omega)]
  subst hs
  simp
  exact Ev.now _
 ·refine Ev.step (fun k => by rw [laws_toInt64SS.l0]) ?_
  subst hs
  have hl : (xs.take m ++ List.replicate (xs.length - m) []).length = xs.length := by simp; omega
  simp only [if_pos (show (m : Int) < (xs.length : Int) by omega), if_pos (show 0 ≤ (m : Int) by omega), hl, rdr_nat hm, w_succ (m := m) (by omega)]
  refine Ev.bind (toInt64S_ev xs[m] (hr _ (List.getElem_mem hm))) ?_
  simp only [Int.toNat_natCast, setr_take xs m hm]
  exact ih
theorem eqInt64SS_ev (xs : List (List Int)) (hx : xs.length ≤ 1048576) (hr : ∀ x ∈ xs, x.length ≤ 1048576) : Ev (fun k => laws_eqInt64SS.f k xs xs) true := by
 unfold laws_eqInt64SS.f
 simp only [if_true]
 have gen := ev_list xs (fun m k => laws_eqInt64SS.l0 k xs xs (m : Int)) (fun _ => true) ?_ ?_ 0 (by omega)
 ·exact gen
 ·refine Ev.step (fun k => by rw [laws_eqInt64SS.l0]) ?_
  simp only [if_neg (show ¬ (xs.length : Int) < (xs.length : Int) by omega)]
  exact Ev.now _
 ·intro m hm ih
  refine Ev.step (fun k => by rw [laws_eqInt64SS.l0]) ?_
  simp only [if_pos (show (m : Int) < (xs.length : Int) by omega), if_pos (show 0 ≤ (m : Int) by omega), rdr_nat hm, w_succ (m := m) (by omega)]
  refine Ev.bind (eqInt64S_ev xs[m] xs[m] (hr _ (List.getElem_mem hm))) ?_
  simp only [decide_true, if_true]
  exact ih
def szr (a : Int) : List (List Int) → Int
 | [] => a
 | x :: r => if a - x.length < 0 then -1 else szr (a - x.length) r
theorem szr_tells (l : List (List Int)) : ∀ a, a ≤ 1048576 → 0 ≤ szr a l → ∀ x ∈ l, x.length ≤ 1048576 := by
 induction l with
 | nil => intro a _ _ x hx; simp at hx
 | cons y r ih =>
  intro a ha h x hx
  unfold szr at h
  split at h
  ·omega
  ·rcases List.mem_cons.1 hx with rfl | hx
   ·omega
   ·exact ih _ (by omega) h x hx
theorem szr_ge (l : List (List Int)) : ∀ a, 0 ≤ a → -1 ≤ szr a l := by
 induction l with
 | nil => intro a h; unfold szr; omega
 | cons y r ih =>
  intro a h
  unfold szr
  split
  ·omega
  ·exact ih _ (by omega)
def rowOk (n : Nat) (b : Int) (x : List Int) : Bool := decide (x.length = n) && x.all fun z => decide (0 ≤ z ∧ z ≤ b)
def rowsForm (b : Int) (l : List (List Int)) : Bool := match l with
 | [] => false
 | y :: _ => decide (l.length ≤ 12) && decide (1 ≤ y.length ∧ y.length ≤ 12) && l.all (rowOk y.length b)
theorem areRows_tells (l : List (List Int)) (b : Int) : impl_areRows.f l b = some (rowsForm b l) := by
 cases l with
 | nil => rfl
 | cons y r =>
  unfold impl_areRows.f rowsForm
  simp only
  congr 1
  rw [List.not_any_eq_all_not]
  congr 2
  funext x
  unfold impl_areRows.p rowOk
  by_cases h : x.length = y.length <;> simp [h]
theorem form_ev (l : List (List Int)) (b : Int) (hx : l.length ≤ 1048576) (hr : ∀ x ∈ l, x.length ≤ 1048576) : Ev (fun k => spec_l09Form.f k l b) (rowsForm b l) := by
 have jf : Ev (fun k => spec_l09Form.j0 k l b true) false := Ev.step (fun k => by rw [spec_l09Form.j0]) (by simp only [if_true]; exact Ev.now _)
 unfold spec_l09Form.f
 cases l with
 | nil =>
  simp only [if_pos (show (([] : List (List Int)).length : Int) < 1 by decide)]
  exact jf
 | cons y r =>
  have e0 : rd_L1 (y :: r) 0 = y := rdr_nat (xs := y :: r) (m := 0) (by rw [List.length_cons]; omega)
  have hl : (y :: r).length = r.length + 1 := rfl
  simp only [if_neg (show ¬ ((y :: r).length : Int) < 1 by omega), if_pos (show 0 < ((y :: r).length : Int) by omega), e0]
  have ef : rowsForm b (y :: r) = (decide ((y :: r).length ≤ 12) && decide (1 ≤ y.length ∧ y.length ≤ 12) && (y :: r).all (rowOk y.length b)) := rfl
  by_cases h1 : ((y :: r).length : Int) > 12
  ·simp only [if_pos h1]
   rw [ef, decide_eq_false (show ¬ (y :: r).length ≤ 12 by omega), Bool.false_and, Bool.false_and]
   exact jf
  ·simp only [if_neg h1]
   rw [ef, decide_eq_true (show (y :: r).length ≤ 12 by omega), Bool.true_and]
   by_cases h2 : (y.length : Int) < 1
   ·simp only [if_pos h2]
    rw [decide_eq_false (show ¬ (1 ≤ y.length ∧ y.length ≤ 12) by omega), Bool.false_and]
    exact jf
   ·simp only [if_neg h2]
    by_cases h3 : (y.length : Int) > 12
    ·rw [decide_eq_true h3, decide_eq_false (show ¬ (1 ≤ y.length ∧ y.length ≤ 12) by omega), Bool.false_and]
     exact jf
    ·rw [decide_eq_false h3, decide_eq_true (show 1 ≤ y.length ∧ y.length ≤ 12 by omega), Bool.true_and]
     refine Ev.step (fun k => by rw [spec_l09Form.j0]) ?_
     simp only [Bool.false_eq_true, if_false]
     generalize y :: r = l at hx hr e0 hl h1
     have gen := ev_list l (fun m k => spec_l09Form.l0 k l b (m : Int)) (fun d => d.all (rowOk y.length b)) ?_ ?_ 0 (by omega)
     ·exact gen
     ·refine Ev.step (fun k => by rw [spec_l09Form.l0]) ?_
      simp only [if_neg (show ¬ (l.length : Int) < (l.length : Int) by omega), List.all_nil]
      exact Ev.now _
     ·intro m hm ih
      have hrm := hr _ (List.getElem_mem hm)
      refine Ev.step (fun k => by rw [spec_l09Form.l0]) ?_
      simp only [if_pos (show (m : Int) < (l.length : Int) by omega), if_pos (show 0 ≤ (m : Int) by omega), if_pos (show 0 < (l.length : Int) by omega), rdr_nat hm, e0]
      rw [List.all_cons]
      by_cases q : l[m].length = y.length
      ·simp only [if_pos (show (l[m].length : Int) = (y.length : Int) by omega)]
       have er : rowOk y.length b l[m] = l[m].all fun z => decide (0 ≤ z ∧ z ≤ b) := by unfold rowOk; rw [decide_eq_true q, Bool.true_and]
       rw [er]
       have gen := ev_list l[m] (fun j k => spec_l09Form.l1 k l b (m : Int) (j : Int)) (fun d => (d.all fun z => decide (0 ≤ z ∧ z ≤ b)) && (l.drop (m + 1)).all (rowOk y.length b)) ?_ ?_ 0 (by omega)
       ·exact gen
       ·refine Ev.step (fun k => by rw [spec_l09Form.l1]) ?_
        simp only [if_pos (show (m : Int) < (l.length : Int) by omega), if_pos (show 0 ≤ (m : Int) by omega), rdr_nat hm, if_neg (show ¬ (l[m].length : Int) < (l[m].length : Int) by omega), w_succ (m := m) (by omega), List.all_nil, Bool.true_and]
        exact ih
       ·intro j hj ih2
        refine Ev.step (fun k => by rw [spec_l09Form.l1]) ?_
        simp only [if_pos (show (m : Int) < (l.length : Int) by omega), if_pos (show 0 ≤ (m : Int) by omega), rdr_nat hm, if_pos (show (j : Int) < (l[m].length : Int) by omega), if_pos (show 0 ≤ (j : Int) by omega), rd_nat hj, in_tells, Option.bind_some, decide_eq_true_eq, w_succ (m := j) (by omega)]
        rw [List.all_cons]
        by_cases c : 0 ≤ l[m][j] ∧ l[m][j] ≤ b
        ·simp only [if_pos c]
         rw [decide_eq_true c, Bool.true_and]
         exact ih2
        ·simp only [if_neg c]
         rw [decide_eq_false c, Bool.false_and, Bool.false_and]
         exact Ev.now _
      ·simp only [if_neg (show ¬ (l[m].length : Int) = (y.length : Int) by omega)]
       have er : rowOk y.length b l[m] = false := by unfold rowOk; rw [decide_eq_false q, Bool.false_and]
       rw [er, Bool.false_and]
       exact Ev.now _
end Go.Proofs.Ytckonklpdepgoaa.Com
namespace Go.Proofs.Ytckonklpdepgoaa.Com
set_option linter.unusedSimpArgs false
set_option linter.unusedVariables false
open Go.RowKit Go.Proofs.YtckonklpdepgoaaW.PrintWords Go.Proofs.Ytckonklpdepgoaa.Q
def risesFrom (lo hi : Int) : Option Int → List Int → Bool
 | _, [] => true
 | p, x :: r => decide (lo ≤ x ∧ x ≤ hi) && (match p with | none => true | some y => decide (y < x)) && risesFrom lo hi (some x) r
def rises (lo hi : Int) (l : List Int) : Bool := risesFrom lo hi none l
theorem isSet_ev (xs : List Int) (b : Int) (hx : xs.length ≤ 1048576) (hb : -9223372036854775807 ≤ b ∧ b ≤ 9223372036854775807) : Ev (fun k => impl_isSet.f k xs b) (rises 0 (b - 1) xs) := by
 unfold impl_isSet.f
 have gen := ev_fold xs (fun m (p : Option Int) k => impl_isSet.l0 k xs b xs (xs.length : Int) (m : Int)) (fun l p => risesFrom 0 (b - 1) p l) (fun m p => p = if h : 0 < m ∧ m - 1 < xs.length then some (xs[m - 1]'h.2) else none) ?_ ?_ 0 none (by omega) (by simp)
 ·simpa [rises] using gen
 ·intro s hs
  refine Ev.step (fun k => by rw [impl_isSet.l0]) ?_
  simp only [if_neg (show ¬ (xs.length : Int) < (xs.length : Int) by omega)]
  exact Ev.now _
 ·intro m hm s hs ih
  have ih' := ih (some xs[m]) (by simp [hm])
  refine Ev.step (fun k => by rw [impl_isSet.l0]) ?_
  simp only [if_pos (show (m : Int) < (xs.length : Int) by omega), if_pos (show 0 ≤ (m : Int) by omega), rd_nat hm, within_tells, Option.bind_some, w_succ (m := m) (by omega), decide_eq_true_eq, w64 (x := b - 1) (by omega) (by omega)]
  by_cases c : 0 ≤ xs[m] ∧ xs[m] ≤ b - 1
  ·simp only [if_pos c]
   unfold risesFrom
   rw [decide_eq_true c, Bool.true_and]
   by_cases hp : (m : Int) > 0
   ·have hp' : 0 < m ∧ m - 1 < xs.length := by omega
    rw [dif_pos hp'] at hs
    subst hs
    simp only [if_pos hp, w_pred (m := m) (by omega) (by omega), if_pos (show (0 : Int) ≤ ((m - 1 : Nat) : Int) by omega), if_pos (show ((m - 1 : Nat) : Int) < (xs.length : Int) by omega), rd_nat hp'.2]
    by_cases q : xs[m] ≤ xs[m - 1]
    ·simp only [if_pos q]
     rw [decide_eq_false (by omega), Bool.false_and]
     exact Ev.now _
    ·simp only [if_neg q]
     rw [decide_eq_true (by omega), Bool.true_and]
     exact ih'
   ·rw [dif_neg (by omega)] at hs
    subst hs
    simp only [if_neg hp, Bool.true_and]
    exact ih'
  ·simp only [if_neg c]
   unfold risesFrom
   rw [decide_eq_false c]
   simp
   exact Ev.now _
end Go.Proofs.Ytckonklpdepgoaa.Com
namespace Go.Proofs.Ytckonklpdepgoaa.Com
set_option linter.unusedSimpArgs false
set_option linter.unusedVariables false
open Go.RowKit Go.Proofs.YtckonklpdepgoaaW.PrintWords Go.Proofs.YtckonklpdepgoaaW.PrintMore Go.Proofs.Ytckonklpdepgoaa.Q
def okAll (N : Nat) : List Int → List Int → Bool
 | _, [] => true
 | pre, z :: r => decide (0 ≤ z ∧ z ≤ (N : Int) - 1) && (!decide (z ∈ pre) && okAll N (pre ++ [z]) r)
def okRows (n N : Nat) : List Int → List (List Int) → Bool
 | _, [] => true
 | pre, x :: r => decide (x.length = n) && (okAll N pre x && okRows n N (pre ++ x) r)
theorem okAll_app (N : Nat) (a b : List Int) : ∀ pre, okAll N pre (a ++ b) = (okAll N pre a && okAll N (pre ++ a) b) := by
 induction a with
 | nil => intro pre; simp [okAll]
 | cons z r ih => intro pre; simp only [List.cons_append, okAll, ih, Bool.and_assoc, List.append_assoc, List.singleton_append, List.nil_append]
theorem okRows_flat (n N : Nat) (l : List (List Int)) : ∀ pre, (∀ x ∈ l, x.length = n) → okRows n N pre l = okAll N pre l.flatten := by
 induction l with
 | nil => intro pre _; rfl
 | cons x r ih =>
  intro pre h
  rw [List.flatten_cons, okAll_app, okRows, ih _ (fun y hy => h y (List.mem_cons_of_mem _ hy)), decide_eq_true (h x (List.mem_cons_self ..)), Bool.true_and]
theorem okRows_len (n N : Nat) (l : List (List Int)) : ∀ pre, okRows n N pre l = true → ∀ x ∈ l, x.length = n := by
 induction l with
 | nil => intro pre _ x hx; simp at hx
 | cons y r ih =>
  intro pre h x hx
  simp only [okRows, Bool.and_eq_true, decide_eq_true_eq] at h
  rcases List.mem_cons.1 hx with rfl | hx
  ·exact h.1
  ·exact ih _ h.2.2 x hx
theorem okAll_iff (N : Nat) (l : List Int) : ∀ pre, okAll N pre l = true ↔ ((∀ z ∈ l, 0 ≤ z ∧ z ≤ (N : Int) - 1) ∧ l.Nodup ∧ ∀ z ∈ l, z ∉ pre) := by
 induction l with
 | nil => intro pre; simp [okAll]
 | cons x r ih =>
  intro pre
  simp only [okAll, Bool.and_eq_true, decide_eq_true_eq, Bool.not_eq_true', decide_eq_false_iff_not, ih, List.nodup_cons, List.mem_cons, List.mem_append, List.mem_singleton, List.not_mem_nil, or_false]
  constructor
  ·rintro ⟨h1, h2, h3, h4, h5⟩
   exact ⟨fun z hz => hz.elim (fun e => by rw [e]; exact h1) (h3 z), ⟨fun hx => h5 x hx (.inr rfl), h4⟩, fun z hz => hz.elim (fun e => by rw [e]; exact h2) (fun hz hp => h5 z hz (.inl hp))⟩
  ·rintro ⟨h1, ⟨h2, h3⟩, h4⟩
   exact ⟨h1 x (.inl rfl), h4 x (.inl rfl), fun z hz => h1 z (.inr hz), h3, fun z hz hp => hp.elim (h4 z (.inr hz)) (fun e => h2 (by rw [← e]; exact hz))⟩
theorem risesFrom_iff (lo hi : Int) (l : List Int) : ∀ p : Option Int, risesFrom lo hi p l = true ↔ ((∀ z ∈ l, lo ≤ z ∧ z ≤ hi) ∧ l.Pairwise (· < ·) ∧ ∀ y, p = some y → ∀ z ∈ l, y < z) := by
 induction l with
 | nil => intro p; simp [risesFrom]
 | cons x r ih =>
  intro p
  simp only [risesFrom, Bool.and_eq_true, decide_eq_true_eq, ih, List.pairwise_cons, List.mem_cons]
  constructor
  ·rintro ⟨⟨h1, h2⟩, h3, h4, h5⟩
   refine ⟨fun z hz => hz.elim (fun e => by rw [e]; exact h1) (h3 z), ⟨fun z hz => h5 x rfl z hz, h4⟩, fun y hy z hz => ?_⟩
   subst hy
   have h2' : y < x := by simpa using h2
   rcases hz with rfl | hz
   ·exact h2'
   ·have := h5 x rfl z hz; omega
  ·rintro ⟨h1, ⟨h2, h3⟩, h4⟩
   refine ⟨⟨h1 x (.inl rfl), ?_⟩, fun z hz => h1 z (.inr hz), h3, fun y hy z hz => by cases hy; exact h2 z hz⟩
   cases p with
   | none => rfl
   | some y => simpa using h4 y rfl x (.inl rfl)
theorem rises_sort (N : Nat) (l : List Int) : rises 0 ((N : Int) - 1) (l.mergeSort fun x y => decide (x ≤ y)) = okAll N [] l := by
 rw [Bool.eq_iff_iff, rises, risesFrom_iff, okAll_iff]
 have hp := List.mergeSort_perm l (fun x y => decide (x ≤ y))
 have hs : (l.mergeSort fun x y => decide (x ≤ y)).Pairwise fun a b => decide (a ≤ b) = true := List.pairwise_mergeSort (fun a b c h1 h2 => by simp only [decide_eq_true_eq] at *; omega) (fun a b => by simp only [Bool.or_eq_true, decide_eq_true_eq]; omega) l
 constructor
 ·rintro ⟨h1, h2, _⟩
  refine ⟨fun z hz => h1 z (hp.mem_iff.2 hz), hp.nodup_iff.1 (h2.imp (fun h e => by omega)), by simp⟩
 ·rintro ⟨h1, h2, _⟩
  refine ⟨fun z hz => h1 z (hp.mem_iff.1 hz), ?_, by simp⟩
  have h3 := hp.nodup_iff.2 h2
  have h4 : (l.mergeSort fun x y => decide (x ≤ y)).Pairwise fun a b => decide (a ≤ b) = true ∧ a ≠ b := List.Pairwise.and hs h3
  exact h4.imp (fun {a b} h => by have := h.1; simp only [decide_eq_true_eq] at this; have := h.2; omega)
def isMaskB (l : List (List Int)) : Bool := decide (1 ≤ l.length ∧ l.length ≤ 8) && okRows l.length (l.length * l.length) [] l
theorem isMaskB_len {l : List (List Int)} (h : isMaskB l = true) : (1 ≤ l.length ∧ l.length ≤ 8) ∧ ∀ x ∈ l, x.length = l.length := by
 simp only [isMaskB, Bool.and_eq_true, decide_eq_true_eq] at h
 exact ⟨h.1, okRows_len _ _ _ _ h.2⟩
theorem sq_le (n : Nat) (h : n ≤ 8) : n * n ≤ 64 := Nat.le_trans (Nat.mul_le_mul h h) (by decide)
theorem implMask_ev (l : List (List Int)) : Ev (fun k => impl_IsMask.f k l) (isMaskB l) := by
 unfold impl_IsMask.f isMaskB
 by_cases h : 1 ≤ l.length ∧ l.length ≤ 8
 ·simp only [if_pos h, decide_eq_true h, Bool.true_and]
  by_cases h2 : l.any (impl_IsMask.p l.length) = true
  ·simp only [if_pos h2]
   have : okRows l.length (l.length * l.length) [] l = false := by
    cases hq : okRows l.length (l.length * l.length) [] l with
    | false => rfl
    | true =>
     have hl := okRows_len _ _ _ _ hq
     rw [List.any_eq_true] at h2
     obtain ⟨x, hx, h3⟩ := h2
     unfold impl_IsMask.p at h3
     exact absurd (hl x hx) (by simpa using h3)
   rw [this]
   exact Ev.now _
  ·simp only [if_neg h2]
   have h2' : l.any (impl_IsMask.p l.length) = false := by simpa using h2
   have hl : ∀ x ∈ l, x.length = l.length := fun x hx => by
    have := List.any_eq_false.1 h2' x hx
    unfold impl_IsMask.p at this
    simpa using this
   have hf := impl_IsMask.flat l.length l h2'
   have hs := sq_le l.length h.2
   rw [okRows_flat _ _ _ _ hl, ← rises_sort]
   have hw : wrap64 ((l.length : Int) * (l.length : Int)) = ((l.length * l.length : Nat) : Int) := by
    rw [← Int.natCast_mul]
    exact w64 (by omega) (by omega)
   rw [hw]
   exact isSet_ev _ _ (by rw [List.length_mergeSort]; omega) (by omega)
 ·simp only [if_neg h, decide_eq_false h, Bool.false_and]
  exact Ev.now _
def seenOf (N : Nat) (pre : List Int) : List Bool := (List.range N).map fun (i : Nat) => decide ((i : Int) ∈ pre)
theorem seenOf_len (N : Nat) (pre : List Int) : (seenOf N pre).length = N := by simp [seenOf]
theorem seenOf_nil (N : Nat) : seenOf N [] = List.replicate N false := by
 apply List.ext_getElem
 ·simp [seenOf]
 ·intro i h1 h2; simp [seenOf]
theorem seenOf_at (N : Nat) (pre : List Int) (z : Int) (h0 : 0 ≤ z) (h1 : z < (N : Int)) : rdOf false (seenOf N pre) z = decide (z ∈ pre) := by
 obtain ⟨m, rfl⟩ : ∃ m : Nat, z = m := ⟨z.toNat, by omega⟩
 unfold rdOf
 rw [Int.toNat_natCast, List.getD_eq_getElem?_getD, List.getElem?_eq_getElem (by rw [seenOf_len]; omega)]
 simp [seenOf]
theorem seenOf_set (N : Nat) (pre : List Int) (z : Int) (h0 : 0 ≤ z) (h1 : z < (N : Int)) : (seenOf N pre).set z.toNat true = seenOf N (pre ++ [z]) := by
 apply List.ext_getElem
 ·simp [seenOf]
 ·intro i h2 h3
  rw [List.getElem_set]
  simp only [seenOf, List.getElem_map, List.getElem_range, List.mem_append, List.mem_singleton]
  split
  ·rename_i e
   subst e
   simp [Int.toNat_of_nonneg h0]
  ·rename_i e
   have : ¬ (i : Int) = z := by omega
   simp [this]
theorem specMask_ev (l : List (List Int)) (hx : l.length ≤ 1048576) (hr : ∀ x ∈ l, x.length ≤ 1048576) : Ev (fun k => spec_l09Mask.f k l) (isMaskB l) := by
 have jf : Ev (fun k => spec_l09Mask.j0 k l (l.length : Int) true) false := Ev.step (fun k => by rw [spec_l09Mask.j0]) (by simp only [if_true]; exact Ev.now _)
 unfold spec_l09Mask.f isMaskB
 by_cases h1 : (l.length : Int) < 1
 ·simp only [if_pos h1]
  rw [decide_eq_false (show ¬ (1 ≤ l.length ∧ l.length ≤ 8) by omega), Bool.false_and]
  exact jf
 ·simp only [if_neg h1]
  by_cases h2 : (l.length : Int) > 8
  ·rw [decide_eq_true h2, decide_eq_false (show ¬ (1 ≤ l.length ∧ l.length ≤ 8) by omega), Bool.false_and]
   exact jf
  ·rw [decide_eq_false h2, decide_eq_true (show 1 ≤ l.length ∧ l.length ≤ 8 by omega), Bool.true_and]
   have hs := sq_le l.length (by omega)
   have hw : wrap64 ((l.length : Int) * (l.length : Int)) = ((l.length * l.length : Nat) : Int) := by
    rw [← Int.natCast_mul]
    exact w64 (by omega) (by omega)
   have hw1 : wrap64 (((l.length * l.length : Nat) : Int) - 1) = ((l.length * l.length : Nat) : Int) - 1 := w64 (by omega) (by omega)
   generalize hN : l.length * l.length = N at hs hw hw1 ⊢
   refine Ev.step (fun k => by rw [spec_l09Mask.j0]) ?_
   simp only [Bool.false_eq_true, if_false, hw, if_pos (show 0 ≤ (N : Int) by omega), Int.toNat_natCast, if_pos (show N ≤ 281474976710656 by omega)]
   rw [← seenOf_nil]
   have gen := ev_fold l (fun m (pre : List Int) k => spec_l09Mask.l0 k l (l.length : Int) (seenOf N pre) (m : Int)) (fun d pre => okRows l.length N pre d) (fun _ _ => True) ?_ ?_ 0 [] (by omega) trivial
   ·exact gen
   ·intro pre _
    refine Ev.step (fun k => by rw [spec_l09Mask.l0]) ?_
    simp only [if_neg (show ¬ (l.length : Int) < (l.length : Int) by omega)]
    exact Ev.now _
   ·intro m hm pre _ ih
    have hrm := hr _ (List.getElem_mem hm)
    refine Ev.step (fun k => by rw [spec_l09Mask.l0]) ?_
    simp only [if_pos (show (m : Int) < (l.length : Int) by omega), if_pos (show 0 ≤ (m : Int) by omega), rdr_nat hm]
    rw [okRows]
    by_cases hl : (l[m].length : Int) = (l.length : Int)
    ·simp only [if_pos hl]
     rw [decide_eq_true (show l[m].length = l.length by omega), Bool.true_and]
     have ih' := ih (pre ++ l[m]) trivial
     generalize hy : l[m] = y at hrm hl ih' ⊢
     generalize okRows l.length N (pre ++ y) (l.drop (m + 1)) = R at ih' ⊢
     have inner := ev_fold y (fun j (q : List Int) k => spec_l09Mask.l1 k l (l.length : Int) (seenOf N q) (m : Int) (j : Int)) (fun d q => okAll N q d && R) (fun j q => q = pre ++ y.take j) ?_ ?_ 0 pre (by omega) (by simp)
     ·exact inner
     ·intro q hq
      refine Ev.step (fun k => by rw [spec_l09Mask.l1]) ?_
      simp only [if_pos (show (m : Int) < (l.length : Int) by omega), if_pos (show 0 ≤ (m : Int) by omega), rdr_nat hm, hy, if_neg (show ¬ (y.length : Int) < (y.length : Int) by omega), w_succ (m := m) (by omega)]
      rw [hq, List.take_length]
      simpa [okAll] using ih'
     ·intro j hj q hq ihj
      refine Ev.step (fun k => by rw [spec_l09Mask.l1]) ?_
      simp only [if_pos (show (m : Int) < (l.length : Int) by omega), if_pos (show 0 ≤ (m : Int) by omega), if_pos (show 0 ≤ (j : Int) by omega), rdr_nat hm, hy, if_pos (show (j : Int) < (y.length : Int) by omega), rd_nat hj, in_tells, Option.bind_some, hw, hw1]
      rw [okAll]
      by_cases hz : 0 ≤ y[j] ∧ y[j] ≤ (N : Int) - 1
      ·simp only [decide_eq_true hz, if_true, Bool.true_and, if_pos hz.1, seenOf_len, if_pos (show y[j] < (N : Int) by omega), seenOf_at N q y[j] hz.1 (by omega)]
       by_cases hq2 : y[j] ∈ q
       ·simp only [decide_eq_true hq2, if_true, Bool.not_true, Bool.false_and]
        exact Ev.now _
       ·simp only [decide_eq_false hq2, Bool.false_eq_true, if_false, Bool.not_false, Bool.true_and, seenOf_set N q y[j] hz.1 (by omega), w_succ (m := j) (by omega)]
        exact ihj (q ++ [y[j]]) (by rw [hq, List.append_assoc, ← List.take_succ_eq_append_getElem hj])
      ·simp only [decide_eq_false hz, Bool.false_eq_true, if_false, Bool.false_and]
       exact Ev.now _
    ·simp only [if_neg hl]
     rw [decide_eq_false (show ¬ l[m].length = l.length by omega), Bool.false_and]
     exact Ev.now _
end Go.Proofs.Ytckonklpdepgoaa.Com
namespace Go.Proofs.Ytckonklpdepgoaa.Com
set_option linter.unusedSimpArgs false
set_option linter.unusedVariables false
open Go.RowKit Go.Proofs.YtckonklpdepgoaaW.PrintWords Go.Proofs.Ytckonklpdepgoaa.Q
def markL (n : Nat) (a : Int) : List Int := (List.range n).map fun (i : Nat) => a + (i : Int)
theorem markL_len (n : Nat) (a : Int) : (markL n a).length = n := by simp [markL]
theorem markL_at (n : Nat) (a : Int) (i : Nat) (h : i < (markL n a).length) : (markL n a)[i] = a + i := by simp [markL]
theorem markL_succ (n : Nat) (a : Int) : markL (n + 1) a = markL n a ++ [a + n] := by
 unfold markL
 rw [List.range_succ, List.map_append]
 rfl
theorem mark_set (xs : List Int) (m : Nat) (a : Int) (h : m < xs.length) : (markL m a ++ xs.drop m).set m (a + m) = markL (m + 1) a ++ xs.drop (m + 1) := by
 rw [List.set_append_right _ _ (by rw [markL_len]; omega), markL_len, Nat.sub_self, List.drop_eq_getElem_cons h, List.set_cons_zero, markL_succ, List.append_assoc]
 rfl
theorem markInt64S_ev (xs : List Int) (a : Int) (hx : xs.length ≤ 1048576) (ha : 0 ≤ a ∧ a ≤ 1000000000000) : Ev (fun k => laws_markInt64S.f k xs a) (a + xs.length, markL xs.length a) := by
 unfold laws_markInt64S.f
 have gen := ev_count xs.length (fun m (s : List Int × Int) k => laws_markInt64S.l0 k s.1 s.2 (m : Int)) (a + (xs.length : Int), markL xs.length a) (fun m s => s = (markL m a ++ xs.drop m, a + m)) ?_ ?_ 0 (xs, a) (by omega) (by simp [markL])
 ·exact gen
 ·rintro s rfl
  refine Ev.step (fun k => by rw [laws_markInt64S.l0]) ?_
  have hl : (markL xs.length a ++ xs.drop xs.length).length = xs.length := by rw [List.length_append, markL_len, List.length_drop]; omega
  rw [List.drop_length, List.append_nil] at hl ⊢
  simp only [hl, if_neg (show ¬ (xs.length : Int) < (xs.length : Int) by omega)]
  exact Ev.now _
 ·rintro m s hm rfl
  refine ⟨_, rfl, fun ih => ?_⟩
  refine Ev.step (fun k => by rw [laws_markInt64S.l0]) ?_
  have hl : (markL m a ++ xs.drop m).length = xs.length := by rw [List.length_append, markL_len, List.length_drop]; omega
  simp only [hl, if_pos (show (m : Int) < (xs.length : Int) by omega), if_pos (show 0 ≤ (m : Int) by omega), Int.toNat_natCast, mark_set xs m a hm, w_succ (m := m) (by omega)]
  rw [w64 (by omega) (by omega)]
  simp only at ih
  rwa [show a + ((m + 1 : Nat) : Int) = a + (m : Int) + 1 by omega] at ih
theorem heldInt64S_ev (n : Nat) (a : Int) (hx : n ≤ 1048576) (ha : 0 ≤ a ∧ a ≤ 1000000000000) : Ev (fun k => laws_heldInt64S.f k (markL n a) a) (a + n) := by
 unfold laws_heldInt64S.f
 have gen := ev_count n (fun m (s : Int) k => laws_heldInt64S.l0 k (markL n a) s (m : Int)) (a + (n : Int)) (fun m s => s = a + m) ?_ ?_ 0 a (by omega) (by simp)
 ·exact gen
 ·rintro s rfl
  refine Ev.step (fun k => by rw [laws_heldInt64S.l0]) ?_
  simp only [markL_len, if_neg (show ¬ (n : Int) < (n : Int) by omega)]
  exact Ev.now _
 ·rintro m s hm rfl
  refine ⟨_, rfl, fun ih => ?_⟩
  refine Ev.step (fun k => by rw [laws_heldInt64S.l0]) ?_
  have h : m < (markL n a).length := by rw [markL_len]; exact hm
  simp only [if_pos (show (m : Int) < ((markL n a).length : Int) by rw [markL_len]; omega), if_pos (show 0 ≤ (m : Int) by omega), rd_nat h, markL_at, if_true, w_succ (m := m) (by omega)]
  rw [w64 (by omega) (by omega)]
  rwa [show a + ((m + 1 : Nat) : Int) = a + (m : Int) + 1 by omega] at ih
end Go.Proofs.Ytckonklpdepgoaa.Com
namespace Go.Proofs.Ytckonklpdepgoaa.Com
set_option linter.unusedSimpArgs false
set_option linter.unusedVariables false
set_option linter.unusedSectionVars false
open Go.RowKit Go.Proofs.YtckonklpdepgoaaW.PrintWords Go.Proofs.YtckonklpdepgoaaW.PrintMore Go.Proofs.Ytckonklpdepgoaa.Q
def tot : List (List Int) → Int
 | [] => 0
 | x :: r => (x.length : Int) + tot r
theorem tot_nn (l : List (List Int)) : 0 ≤ tot l := by
 induction l with
 | nil => exact Int.le_refl _
 | cons x r ih => unfold tot; omega
theorem tot_le (l : List (List Int)) (c : Nat) (h : ∀ x ∈ l, x.length ≤ c) : tot l ≤ (l.length * c : Nat) := by
 induction l with
 | nil => simp [tot]
 | cons x r ih =>
  have h1 := h x (List.mem_cons_self ..)
  have h2 := ih (fun y hy => h y (List.mem_cons_of_mem _ hy))
  unfold tot
  rw [List.length_cons, Nat.add_mul, Nat.one_mul]
  omega
theorem tot_take (xs : List (List Int)) (m : Nat) (h : m < xs.length) : tot (xs.take (m + 1)) = tot (xs.take m) + xs[m].length := by
 induction xs generalizing m with
 | nil => simp at h
 | cons y r ih =>
  cases m with
  | zero => simp [tot]
  | succ m =>
   simp only [List.take_succ_cons, tot, List.getElem_cons_succ]
   rw [ih m (by simpa using h)]
   omega
theorem tot_take_le (xs : List (List Int)) (m : Nat) : tot (xs.take m) ≤ tot xs := by
 induction xs generalizing m with
 | nil => simp
 | cons y r ih =>
  cases m with
  | zero => simp [tot]; have := tot_nn r; omega
  | succ m => simp only [List.take_succ_cons, tot]; have := ih m; omega
theorem szr_tot (l : List (List Int)) : ∀ a, 0 ≤ szr a l → szr a l = a - tot l := by
 induction l with
 | nil => intro a _; simp [szr, tot]
 | cons y r ih =>
  intro a h
  unfold szr at h ⊢
  unfold tot
  split at h
  ·omega
  ·rename_i c
   rw [if_neg c, ih _ h]
   omega
theorem szSS_ev (l : List (List Int)) (a : Int) (ha : 0 ≤ a ∧ a ≤ 1048576) (hl : l.length ≤ maxLen) (hr : ∀ x ∈ l, x.length ≤ maxLen) :
  ∃ t, Ev (fun k => laws_szInt64SS.f k l a) t ∧ (t = -1 ∨ (0 ≤ t ∧ t ≤ a ∧ l.length ≤ 1048576 ∧ (∀ x ∈ l, x.length ≤ 1048576) ∧ tot l ≤ 1048576)) := by
 unfold laws_szInt64SS.f
 have hm : maxLen ≤ 9223372036854775807 := by decide
 rw [w64 (x := a - (l.length : Int)) (by omega) (by omega)]
 by_cases h : a - (l.length : Int) < 0
 ·refine ⟨-1, ?_, .inl rfl⟩
  simp only [if_pos h]
  exact Ev.now _
 ·refine ⟨szr (a - l.length) l, ?_, ?_⟩
  ·simp only [if_neg h]
   have gen := ev_fold l (fun m (s : Int) k => laws_szInt64SS.l0 k l s (m : Int)) (fun d s => szr s d) (fun m s => 0 ≤ s ∧ s ≤ 1048576) ?_ ?_ 0 (a - (l.length : Int)) (by omega) ⟨by omega, by omega⟩
   ·exact gen
   ·intro s _
    refine Ev.step (fun k => by rw [laws_szInt64SS.l0]) ?_
    simp only [if_neg (show ¬ (l.length : Int) < (l.length : Int) by omega)]
    exact Ev.now _
   ·rintro m hm s ⟨s0, s1⟩ k
    refine Ev.step (fun k => by rw [laws_szInt64SS.l0]) ?_
    simp only [if_pos (show (m : Int) < (l.length : Int) by omega), if_pos (show 0 ≤ (m : Int) by omega), rdr_nat hm, w_succ (m := m) (by omega), sz_tells l[m] s (hr _ (List.getElem_mem hm)) (by omega), Option.bind_some]
    unfold szr
    by_cases c : s - (l[m].length : Int) < 0
    ·simp only [if_pos c, if_pos (show (-1 : Int) < 0 by omega)]
     exact Ev.now _
    ·simp only [if_neg c]
     exact k _ ⟨by omega, by omega⟩
  ·by_cases c : szr (a - l.length) l < 0
   ·have := szr_ge l (a - l.length) (by omega)
    exact .inl (by omega)
   ·have e := szr_tot l (a - l.length) (by omega)
    have := tot_nn l
    exact .inr ⟨by omega, by omega, by omega, szr_tells l (a - (l.length : Int)) (by omega) (by omega), by omega⟩
def markLL : List (List Int) → Int → List (List Int)
 | [], _ => []
 | x :: r, a => markL x.length a :: markLL r (a + x.length)
theorem markLL_len (xs : List (List Int)) : ∀ a, (markLL xs a).length = xs.length := by
 induction xs with
 | nil => intro a; rfl
 | cons x r ih => intro a; simp [markLL, ih]
theorem markLL_snoc (xs : List (List Int)) (x : List Int) : ∀ a, markLL (xs ++ [x]) a = markLL xs a ++ [markL x.length (a + tot xs)] := by
 induction xs with
 | nil => intro a; simp [markLL, tot]
 | cons y r ih => intro a; simp only [List.cons_append, markLL, tot, ih]; rw [Int.add_assoc]
theorem markLL_at (xs : List (List Int)) : ∀ a (m : Nat) (h : m < (markLL xs a).length) (h' : m < xs.length), (markLL xs a)[m] = markL xs[m].length (a + tot (xs.take m)) := by
 induction xs with
 | nil => intro a m h h'; simp at h'
 | cons y r ih =>
  intro a m h h'
  cases m with
  | zero => simp [markLL, tot]
  | succ m =>
   simp only [markLL, List.getElem_cons_succ, List.take_succ_cons, tot]
   rw [ih _ m (by rw [markLL_len]; simpa using h') (by simpa using h'), Int.add_assoc]
theorem setll (A : List (List Int)) (xs : List (List Int)) (m : Nat) (h : m < xs.length) (hA : A.length = m) (y : List Int) : (A ++ xs.drop m).set m y = A ++ [y] ++ xs.drop (m + 1) := by
 rw [List.drop_eq_getElem_cons h, List.set_append_right _ _ (by omega), hA, Nat.sub_self, List.set_cons_zero, List.append_assoc]
 rfl
theorem markSS_ev (xs : List (List Int)) (a : Int) (hx : xs.length ≤ 1048576) (hr : ∀ x ∈ xs, x.length ≤ 1048576) (ha : 0 ≤ a) (hb : a + tot xs ≤ 1000000000000) : Ev (fun k => laws_markInt64SS.f k xs a) (a + tot xs, markLL xs a) := by
 unfold laws_markInt64SS.f
 refine ev_count xs.length (fun m (s : List (List Int) × Int) k => laws_markInt64SS.l0 k s.1 s.2 (m : Int)) _ (fun m s => s = (markLL (xs.take m) a ++ xs.drop m, a + tot (xs.take m))) ?_ ?_ 0 (xs, a) (by omega) (by simp [markLL, tot])
 ·rintro _ rfl
  refine Ev.step (fun k => by rw [laws_markInt64SS.l0]) ?_
  simp only [List.take_length, List.drop_length, List.append_nil, markLL_len, if_neg (show ¬ (xs.length : Int) < (xs.length : Int) by omega)]
  exact Ev.now _
 ·rintro m _ hm rfl
  refine ⟨_, rfl, fun ih => ?_⟩
  have hA : (markLL (xs.take m) a).length = m := by rw [markLL_len, List.length_take]; omega
  have hl : (markLL (xs.take m) a ++ xs.drop m).length = xs.length := by rw [List.length_append, hA, List.length_drop]; omega
  have e : rd_L1 (markLL (xs.take m) a ++ xs.drop m) (m : Int) = xs[m] := by
   rw [rdr_nat (by omega), List.getElem_append_right (by omega)]
   simp [hA]
  have t1 := tot_take xs m hm
  have t2 := tot_take_le xs (m + 1)
  have t3 := tot_nn (xs.take m)
  refine Ev.step (fun k => by rw [laws_markInt64SS.l0]) ?_
  simp only [hl, if_pos (show (m : Int) < (xs.length : Int) by omega), if_pos (show 0 ≤ (m : Int) by omega), e, w_succ (m := m) (by omega), Int.toNat_natCast]
  refine Ev.bind (markInt64S_ev xs[m] (a + tot (xs.take m)) (hr _ (List.getElem_mem hm)) (by omega)) ?_
  simp only
  rw [setll _ xs m hm hA, ← markLL_snoc, ← List.take_succ_eq_append_getElem hm, Int.add_assoc, ← t1]
  exact ih
theorem heldSS_ev (xs : List (List Int)) (a : Int) (hx : xs.length ≤ 1048576) (hr : ∀ x ∈ xs, x.length ≤ 1048576) (ha : 0 ≤ a) (hb : a + tot xs ≤ 1000000000000) : Ev (fun k => laws_heldInt64SS.f k (markLL xs a) a) (a + tot xs) := by
 unfold laws_heldInt64SS.f
 refine ev_count xs.length (fun m (s : Int) k => laws_heldInt64SS.l0 k (markLL xs a) s (m : Int)) _ (fun m s => s = a + tot (xs.take m)) ?_ ?_ 0 a (by omega) (by simp [tot])
 ·rintro _ rfl
  refine Ev.step (fun k => by rw [laws_heldInt64SS.l0]) ?_
  simp only [List.take_length, markLL_len, if_neg (show ¬ (xs.length : Int) < (xs.length : Int) by omega)]
  exact Ev.now _
 ·rintro m _ hm rfl
  refine ⟨_, rfl, fun ih => ?_⟩
  have e : rd_L1 (markLL xs a) (m : Int) = markL xs[m].length (a + tot (xs.take m)) := by
   rw [rdr_nat (by rw [markLL_len]; exact hm), markLL_at xs a m (by rw [markLL_len]; exact hm) hm]
  have t1 := tot_take xs m hm
  have t2 := tot_take_le xs (m + 1)
  have t3 := tot_nn (xs.take m)
  refine Ev.step (fun k => by rw [laws_heldInt64SS.l0]) ?_
  simp only [markLL_len, if_pos (show (m : Int) < (xs.length : Int) by omega), if_pos (show 0 ≤ (m : Int) by omega), e, w_succ (m := m) (by omega)]
  refine Ev.bind (heldInt64S_ev xs[m].length (a + tot (xs.take m)) (hr _ (List.getElem_mem hm)) (by omega)) ?_
  simp only [if_neg (show ¬ a + tot (xs.take m) + (xs[m].length : Int) < 0 by omega)]
  rw [Int.add_assoc, ← t1]
  exact ih
def grid0 (R C : Nat) : List (List Int) := List.replicate R (List.replicate C 0)
theorem square_ev (R C : Nat) (hR : R ≤ 1000000) (hC : C ≤ 1000000) : Ev (fun k => spec_l09Square.f k (R : Int) (C : Int)) (grid0 R C) := by
 unfold spec_l09Square.f
 refine ev_count R (fun m (s : List (List Int)) k => spec_l09Square.l0 k (R : Int) (C : Int) s (m : Int)) _ (fun m s => s = List.replicate m (List.replicate C 0)) ?_ ?_ 0 [] (by omega) rfl
 ·rintro _ rfl
  refine Ev.step (fun k => by rw [spec_l09Square.l0]) ?_
  simp only [if_neg (show ¬ (R : Int) < (R : Int) by omega)]
  exact Ev.now _
 ·rintro m _ hm rfl
  refine ⟨_, rfl, fun ih => ?_⟩
  refine Ev.step (fun k => by rw [spec_l09Square.l0]) ?_
  simp only [if_pos (show (m : Int) < (R : Int) by omega), if_pos (show 0 ≤ (C : Int) by omega), Int.toNat_natCast, if_pos (show C ≤ 35184372088832 by omega), List.length_replicate, if_pos (show m < 5864062014805 by omega), w_succ (m := m) (by omega)]
  rw [← List.replicate_succ']
  exact ih
theorem noughts_ev (R C : Nat) (hR : R ≤ 1000000) (hC : C ≤ 1000000) : Ev (fun k => impl_noughts.f k (R : Int) (C : Int)) (grid0 R C) := by
 unfold impl_noughts.f
 simp only [if_pos (show 0 ≤ (R : Int) by omega), Int.toNat_natCast, if_pos (show R ≤ 11728124029610 by omega), Option.bind_some, List.length_replicate]
 refine ev_count R (fun m (s : List (List Int)) k => impl_noughts.l0 k (C : Int) s (R : Int) (m : Int)) _ (fun m s => s = List.replicate m (List.replicate C 0) ++ List.replicate (R - m) []) ?_ ?_ 0 _ (by omega) (by simp)
 ·rintro _ rfl
  refine Ev.step (fun k => by rw [impl_noughts.l0]) ?_
  simp only [if_neg (show ¬ (R : Int) < (R : Int) by omega), Nat.sub_self, List.replicate_zero, List.append_nil]
  exact Ev.now _
 ·rintro m _ hm rfl
  refine ⟨_, rfl, fun ih => ?_⟩
  refine Ev.step (fun k => by rw [impl_noughts.l0]) ?_
  have hl : (List.replicate m (List.replicate C (0 : Int)) ++ List.replicate (R - m) []).length = R := by simp; omega
  simp only [hl, if_pos (show (m : Int) < (R : Int) by omega), if_pos (show 0 ≤ (C : Int) by omega), Int.toNat_natCast, if_pos (show C ≤ 35184372088832 by omega), if_pos (show 0 ≤ (m : Int) by omega), w_succ (m := m) (by omega)]
  have es : (List.replicate m (List.replicate C (0 : Int)) ++ List.replicate (R - m) []).set m (List.replicate C 0) = List.replicate (m + 1) (List.replicate C 0) ++ List.replicate (R - (m + 1)) [] := by
   obtain ⟨q, hq⟩ : ∃ q, R - m = q + 1 := ⟨R - m - 1, by omega⟩
   rw [List.set_append_right _ _ (by simp), List.length_replicate, Nat.sub_self, hq, List.replicate_succ, List.set_cons_zero, List.replicate_succ', show R - (m + 1) = q by omega, List.append_assoc]
   rfl
  rw [es]
  exact ih
def Grid (R C : Nat) (g : List (List Int)) : Prop := g.length = R ∧ ∀ x ∈ g, x.length = C
theorem Grid.row {R C : Nat} {g : List (List Int)} (h : Grid R C g) {i : Nat} (hi : i < R) : i < g.length ∧ ∀ (h' : i < g.length), g[i].length = C := ⟨by rw [h.1]; exact hi, fun h' => h.2 _ (List.getElem_mem h')⟩
theorem Grid.rd {R C : Nat} {g : List (List Int)} (h : Grid R C g) {i : Nat} (hi : i < R) : (rd_L1 g (i : Int)).length = C := by
 rw [rdr_nat (h.row hi).1]
 exact (h.row hi).2 _
end Go.Proofs.Ytckonklpdepgoaa.Com
namespace Go.Proofs.Ytckonklpdepgoaa.Com
set_option linter.unusedSimpArgs false
set_option linter.unusedVariables false
open Go.RowKit Go.Proofs.YtckonklpdepgoaaW.PrintWords Go.Proofs.YtckonklpdepgoaaW.PrintMore Go.Proofs.Ytckonklpdepgoaa.Q
def tbl (R C : Nat) (h : Nat → Nat → Int) : List (List Int) := (List.range R).map fun i => (List.range C).map fun j => h i j
theorem tbl_len (R C : Nat) (h : Nat → Nat → Int) : (tbl R C h).length = R := by simp [tbl]
theorem tbl_is (R C : Nat) (h : Nat → Nat → Int) : Grid R C (tbl R C h) := ⟨tbl_len R C h, fun x hx => by
 simp only [tbl, List.mem_map] at hx
 obtain ⟨i, _, rfl⟩ := hx
 simp⟩
theorem tbl_row (R C : Nat) (h : Nat → Nat → Int) (i : Nat) (hi : i < R) : rd_L1 (tbl R C h) (i : Int) = (List.range C).map fun j => h i j := by
 rw [rdr_nat (by rw [tbl_len]; exact hi)]
 simp [tbl]
theorem tbl_ext (R C : Nat) (h h' : Nat → Nat → Int) (e : ∀ i j, i < R → j < C → h i j = h' i j) : tbl R C h = tbl R C h' := by
 unfold tbl
 apply List.map_congr_left
 intro i hi
 apply List.map_congr_left
 intro j hj
 exact e i j (List.mem_range.1 hi) (List.mem_range.1 hj)
theorem tbl_set (R C : Nat) (h : Nat → Nat → Int) (i j : Nat) (v : Int) (hi : i < R) (hj : j < C) : (tbl R C h).set i ((rd_L1 (tbl R C h) (i : Int)).set j v) = tbl R C (fun a b => if a = i ∧ b = j then v else h a b) := by
 rw [tbl_row R C h i hi]
 apply List.ext_getElem
 ·simp [tbl]
 ·intro a h1 h2
  have ha : a < R := by simpa [tbl] using h2
  rw [List.getElem_set]
  by_cases e : i = a
  ·subst e
   rw [if_pos rfl]
   apply List.ext_getElem
   ·simp [tbl]
   ·intro b h3 h4
    rw [List.getElem_set]
    simp only [tbl, List.getElem_map, List.getElem_range, true_and]
    by_cases e2 : j = b
    ·subst e2; simp
    ·rw [if_neg e2, if_neg (fun e3 => e2 e3.symm)]
  ·rw [if_neg e]
   simp only [tbl, List.getElem_map, List.getElem_range]
   apply List.map_congr_left
   intro b _
   rw [if_neg (fun e3 => e e3.1.symm)]
theorem tbl_grid0 (R C : Nat) : grid0 R C = tbl R C (fun _ _ => 0) := by
 unfold grid0 tbl
 apply List.ext_getElem
 ·simp
 ·intro a h1 h2
  simp only [List.getElem_replicate, List.getElem_map, List.getElem_range]
  apply List.ext_getElem
  ·simp
  ·intro b h3 h4; simp
def tblAt (R C : Nat) (f : Nat → Nat → Int) (i j : Nat) : List (List Int) := tbl R C (fun a b => if a < i ∨ (a = i ∧ b < j) then f a b else 0)
theorem tblAt_start (R C : Nat) (f : Nat → Nat → Int) : tblAt R C f 0 0 = grid0 R C := by
 rw [tbl_grid0]
 exact tbl_ext R C _ _ (fun i j _ _ => if_neg (by omega))
theorem tblAt_end (R C : Nat) (f : Nat → Nat → Int) : tblAt R C f R 0 = tbl R C f := tbl_ext R C _ _ (fun i j hi _ => if_pos (.inl hi))
theorem tblAt_row (R C : Nat) (f : Nat → Nat → Int) (i : Nat) : tblAt R C f i C = tblAt R C f (i + 1) 0 := tbl_ext R C _ _ (fun a b _ hb => by
 by_cases c : a < i ∨ (a = i ∧ b < C)
 ·rw [if_pos c, if_pos (by omega)]
 ·rw [if_neg c, if_neg (by omega)])
theorem tblAt_is (R C : Nat) (f : Nat → Nat → Int) (i j : Nat) : Grid R C (tblAt R C f i j) := tbl_is _ _ _
theorem tblAt_set (R C : Nat) (f : Nat → Nat → Int) (i j : Nat) (hi : i < R) (hj : j < C) : (tblAt R C f i j).set i ((rd_L1 (tblAt R C f i j) (i : Int)).set j (f i j)) = tblAt R C f i (j + 1) := by
 unfold tblAt
 rw [tbl_set _ _ _ _ _ _ hi hj]
 exact tbl_ext R C _ _ (fun a b _ _ => by
  by_cases c : a = i ∧ b = j
  ·rw [if_pos c, if_pos (by omega), c.1, c.2]
  ·rw [if_neg c]
   by_cases c2 : a < i ∨ (a = i ∧ b < j)
   ·rw [if_pos c2, if_pos (by omega)]
   ·rw [if_neg c2, if_neg (by omega)])
theorem tblAt_skip (R C : Nat) (f : Nat → Nat → Int) (i j : Nat) (h0 : f i j = 0) : tblAt R C f i j = tblAt R C f i (j + 1) := tbl_ext R C _ _ (fun a b _ _ => by
 by_cases c : a = i ∧ b = j
 ·rw [if_neg (by omega), if_pos (by omega), c.1, c.2, h0]
 ·by_cases c2 : a < i ∨ (a = i ∧ b < j)
  ·rw [if_pos c2, if_pos (by omega)]
  ·rw [if_neg c2, if_neg (by omega)])
theorem tbl_loops {ρ : Type} (R C : Nat) (f : Nat → Nat → Int) (G0 : Nat → List (List Int) → Nat → Option ρ) (G1 : Nat → Nat → List (List Int) → Nat → Option ρ) (r : ρ)
  (e0 : Ev (G0 R (tbl R C f)) r) (e1 : ∀ i, i < R → Ev (G1 i 0 (tblAt R C f i 0)) r → Ev (G0 i (tblAt R C f i 0)) r)
  (e2 : ∀ i j, i < R → j < C → Ev (G1 i (j + 1) (tblAt R C f i (j + 1))) r → Ev (G1 i j (tblAt R C f i j)) r)
  (e3 : ∀ i, i < R → Ev (G0 (i + 1) (tblAt R C f (i + 1) 0)) r → Ev (G1 i C (tblAt R C f (i + 1) 0)) r) : Ev (G0 0 (grid0 R C)) r := by
 rw [← tblAt_start R C f]
 have key : ∀ d i, i + d = R → Ev (G0 i (tblAt R C f i 0)) r := by
  intro d
  induction d with
  | zero =>
   intro i e
   obtain rfl : i = R := by omega
   rw [tblAt_end]
   exact e0
  | succ d ih =>
   intro i e
   have hi : i < R := by omega
   refine e1 i hi ?_
   have k2 : ∀ q j, j + q = C → Ev (G1 i j (tblAt R C f i j)) r := by
    intro q
    induction q with
    | zero =>
     intro j e
     obtain rfl : j = C := by omega
     rw [tblAt_row]
     exact e3 i hi (ih (i + 1) (by omega))
    | succ q ihq =>
     intro j e
     exact e2 i j hi (by omega) (ihq (j + 1) (by omega))
   exact k2 C 0 (by omega)
 exact key R 0 (by omega)
end Go.Proofs.Ytckonklpdepgoaa.Com
namespace Go.Proofs.Ytckonklpdepgoaa.Com
set_option linter.unusedSimpArgs false
set_option linter.unusedVariables false
set_option linter.unusedSectionVars false
open Go.RowKit Go.Proofs.YtckonklpdepgoaaW.PrintWords Go.Proofs.YtckonklpdepgoaaW.PrintMore Go.Proofs.Ytckonklpdepgoaa.Q
theorem rowsForm_is {b : Int} {l : List (List Int)} (h : rowsForm b l = true) :
  ∃ R C : Nat, 1 ≤ R ∧ R ≤ 12 ∧ 1 ≤ C ∧ C ≤ 12 ∧ Grid R C l ∧ (rd_L1 l 0).length = C ∧ ∀ x ∈ l, ∀ z ∈ x, 0 ≤ z ∧ z ≤ b := by
 cases l with
 | nil => simp [rowsForm] at h
 | cons y r =>
  have ef : rowsForm b (y :: r) = (decide ((y :: r).length ≤ 12) && decide (1 ≤ y.length ∧ y.length ≤ 12) && (y :: r).all (rowOk y.length b)) := rfl
  rw [ef] at h
  simp only [Bool.and_eq_true, decide_eq_true_eq, List.all_eq_true] at h
  obtain ⟨⟨h1, h2⟩, h3⟩ := h
  have e0 : rd_L1 (y :: r) 0 = y := rdr_nat (xs := y :: r) (m := 0) (by rw [List.length_cons]; omega)
  refine ⟨(y :: r).length, y.length, by rw [List.length_cons]; omega, h1, h2.1, h2.2, ⟨rfl, fun x hx => ?_⟩, by rw [e0], fun x hx z hz => ?_⟩
  ·have := h3 x hx
   unfold rowOk at this
   simp only [Bool.and_eq_true, decide_eq_true_eq] at this
   exact this.1
  ·have := h3 x hx
   unfold rowOk at this
   simp only [Bool.and_eq_true, decide_eq_true_eq, List.all_eq_true] at this
   exact this.2 z hz
end Go.Proofs.Ytckonklpdepgoaa.Com
namespace Go.Proofs.Ytckonklpdepgoaa.Com
set_option linter.unusedSimpArgs false
set_option linter.unusedVariables false
set_option linter.unusedSectionVars false
open Go.RowKit Go.Proofs.YtckonklpdepgoaaW.PrintWords Go.Proofs.YtckonklpdepgoaaW.PrintMore Go.Proofs.Ytckonklpdepgoaa.Q
theorem grid_at {R C : Nat} {g : List (List Int)} {a b : Int} (h : Grid R C g) (hv : ∀ x ∈ g, ∀ z ∈ x, a ≤ z ∧ z ≤ b) {i j : Nat} (hi : i < R) (hj : j < C) : a ≤ rd (rd_L1 g (i : Int)) (j : Int) ∧ rd (rd_L1 g (i : Int)) (j : Int) ≤ b := by
 have h1 : i < g.length := by rw [h.1]; exact hi
 rw [rdr_nat h1]
 have h2 : j < g[i].length := by rw [h.2 _ (List.getElem_mem h1)]; exact hj
 rw [rd_nat h2]
 exact hv _ (List.getElem_mem h1) _ (List.getElem_mem h2)
theorem isMaskB_is {l : List (List Int)} (h : isMaskB l = true) : (1 ≤ l.length ∧ l.length ≤ 8) ∧ Grid l.length l.length l ∧ ∀ x ∈ l, ∀ z ∈ x, 0 ≤ z ∧ z ≤ 63 := by
 obtain ⟨h1, h2⟩ := isMaskB_len h
 refine ⟨h1, ⟨rfl, h2⟩, fun x hx z hz => ?_⟩
 simp only [isMaskB, Bool.and_eq_true] at h
 have h3 := h.2
 rw [okRows_flat _ _ _ _ h2, okAll_iff] at h3
 have h4 := h3.1 z (List.mem_flatten.2 ⟨x, hx, hz⟩)
 have h5 := sq_le l.length h1.2
 omega
def mdAt (p m : List (List Int)) (i j : Nat) : Int := if 2 * ((m.length : Int) * (m.length : Int)) * rd (rd_L1 p (i : Int)) (j : Int) > 255 * (2 * rd (rd_L1 m ((i % m.length : Nat) : Int)) ((j % m.length : Nat) : Int) + 1) then 1 else 0
section
variable {p m : List (List Int)} {R C : Nat} (hR : 1 ≤ R ∧ R ≤ 12) (hC : 1 ≤ C ∧ C ≤ 12) (gp : Grid R C p) (hv : ∀ x ∈ p, ∀ z ∈ x, 0 ≤ z ∧ z ≤ 255) (hm : isMaskB m = true)
include hR hC gp hv hm
theorem mdBounds (i j : Nat) (hi : i < R) (hj : j < C) : wrap64 (wrap64 (2 * wrap64 ((m.length : Int) * (m.length : Int))) * rd (rd_L1 p (i : Int)) (j : Int)) = 2 * ((m.length : Int) * (m.length : Int)) * rd (rd_L1 p (i : Int)) (j : Int) ∧
  wrap64 (wrap64 (wrap64 (2 * (m.length : Int)) * (m.length : Int)) * rd (rd_L1 p (i : Int)) (j : Int)) = 2 * ((m.length : Int) * (m.length : Int)) * rd (rd_L1 p (i : Int)) (j : Int) ∧
  wrap64 (255 * wrap64 (wrap64 (2 * rd (rd_L1 m ((i % m.length : Nat) : Int)) ((j % m.length : Nat) : Int)) + 1)) = 255 * (2 * rd (rd_L1 m ((i % m.length : Nat) : Int)) ((j % m.length : Nat) : Int) + 1) := by
 obtain ⟨h1, gm, hmv⟩ := isMaskB_is hm
 have q1 := grid_at gp hv hi hj
 have q2 := grid_at gm hmv (Nat.mod_lt i (by omega)) (Nat.mod_lt j (by omega))
 have q3 := sq_le m.length h1.2
 have e1 : (m.length : Int) * (m.length : Int) = ((m.length * m.length : Nat) : Int) := (Int.natCast_mul _ _).symm
 generalize rd (rd_L1 m ((i % m.length : Nat) : Int)) ((j % m.length : Nat) : Int) = z at q2
 generalize rd (rd_L1 p (i : Int)) (j : Int) = t at q1
 have e2 : 2 * (m.length : Int) * (m.length : Int) = 2 * ((m.length : Int) * (m.length : Int)) := by rw [Int.mul_assoc]
 have e3 : wrap64 (2 * (m.length : Int)) = 2 * (m.length : Int) := w64 (by omega) (by omega)
 rw [e3, e2, e1]
 generalize m.length * m.length = s at q3
 have e4 : wrap64 (2 * wrap64 (s : Int)) = 2 * (s : Int) := by rw [w64 (x := (s : Int)) (by omega) (by omega)]; exact w64 (by omega) (by omega)
 have e5 : wrap64 (2 * (s : Int)) = 2 * (s : Int) := w64 (by omega) (by omega)
 have q4 : 0 ≤ 2 * (s : Int) * t ∧ 2 * (s : Int) * t ≤ 128 * 255 := ⟨Int.mul_nonneg (by omega) q1.1, Int.mul_le_mul (by omega) q1.2 q1.1 (by omega)⟩
 refine ⟨by rw [e4]; exact w64 (by omega) (by omega), by rw [e5]; exact w64 (by omega) (by omega), ?_⟩
 rw [w64 (x := 2 * z) (by omega) (by omega), w64 (x := 2 * z + 1) (by omega) (by omega)]
 exact w64 (by omega) (by omega)
theorem tmn (i : Nat) : Int.tmod (i : Int) (m.length : Int) = ((i % m.length : Nat) : Int) := by
 rw [tmod_nn (by omega)]; rfl
theorem implMd_ev : Ev (fun k => impl_MaskDither.l0 k m (m.length : Int) (grid0 R C) p (R : Int) 0) (tbl R C (mdAt p m), true) := by
 obtain ⟨h1, gm, hmv⟩ := isMaskB_is hm
 refine tbl_loops R C (mdAt p m) (fun i s k => impl_MaskDither.l0 k m (m.length : Int) s p (R : Int) (i : Int)) (fun i j s k => impl_MaskDither.l1 k m (m.length : Int) s (i : Int) p (R : Int) (i : Int) (rd_L1 p (i : Int)) (C : Int) (j : Int)) _ ?_ ?_ ?_ ?_
 ·refine Ev.step (fun k => by rw [impl_MaskDither.l0]) ?_
  simp only [if_neg (show ¬ (R : Int) < (R : Int) by omega)]
  exact Ev.now _
 ·intro i hi h
  refine Ev.step (fun k => by rw [impl_MaskDither.l0]) ?_
  simp only [if_pos (show (i : Int) < (R : Int) by omega), if_pos (show 0 ≤ (i : Int) by omega), gp.1, gp.rd hi]
  exact h
 ·intro i j hi hj h
  have b := mdBounds hR hC gp hv hm i j hi hj
  have u1 := Nat.mod_lt i (show m.length > 0 by omega)
  have u2 := Nat.mod_lt j (show m.length > 0 by omega)
  refine Ev.step (fun k => by rw [impl_MaskDither.l1]) ?_
  simp only [if_pos (show (j : Int) < (C : Int) by omega), if_pos (show 0 ≤ (j : Int) by omega), gp.rd hi, if_pos (show 0 ≤ (i : Int) by omega), (tblAt_is R C (mdAt p m) i j).1, if_pos (show (i : Int) < (R : Int) by omega), if_neg (show ¬ (m.length : Int) = 0 by omega), tmn hR hC gp hv hm, if_pos (show 0 ≤ ((i % m.length : Nat) : Int) by omega), if_pos (show 0 ≤ ((j % m.length : Nat) : Int) by omega), if_pos (show ((i % m.length : Nat) : Int) < (m.length : Int) by omega), gm.rd u1, if_pos (show ((j % m.length : Nat) : Int) < (m.length : Int) by omega), b.1, b.2.2, (tblAt_is R C (mdAt p m) i j).rd hi, w_succ (m := j) (by omega), Int.toNat_natCast]
  have eb : impl_bit.f (decide (2 * ((m.length : Int) * (m.length : Int)) * rd (rd_L1 p (i : Int)) (j : Int) > 255 * (2 * rd (rd_L1 m ((i % m.length : Nat) : Int)) ((j % m.length : Nat) : Int) + 1))) = some (mdAt p m i j) := by
   unfold impl_bit.f mdAt
   by_cases c : 2 * ((m.length : Int) * (m.length : Int)) * rd (rd_L1 p (i : Int)) (j : Int) > 255 * (2 * rd (rd_L1 m ((i % m.length : Nat) : Int)) ((j % m.length : Nat) : Int) + 1)
   ·rw [if_pos c, decide_eq_true c]; rfl
   ·rw [if_neg c, decide_eq_false c]; rfl
  simp only [eb, Option.bind_some, tblAt_set R C (mdAt p m) i j hi hj]
  exact h
 ·intro i hi h
  refine Ev.step (fun k => by rw [impl_MaskDither.l1]) ?_
  simp only [if_neg (show ¬ (C : Int) < (C : Int) by omega), w_succ (m := i) (by omega)]
  exact h
theorem specMd_ev : Ev (fun k => spec_MaskDither.l0 k m (m.length : Int) (grid0 R C) 0 p) (tbl R C (mdAt p m), true) := by
 obtain ⟨h1, gm, hmv⟩ := isMaskB_is hm
 refine tbl_loops R C (mdAt p m) (fun i s k => spec_MaskDither.l0 k m (m.length : Int) s (i : Int) p) (fun i j s k => spec_MaskDither.l1 k m (m.length : Int) s (i : Int) (j : Int) p) _ ?_ ?_ ?_ ?_
 ·refine Ev.step (fun k => by rw [spec_MaskDither.l0]) ?_
  simp only [tbl_len, if_neg (show ¬ (R : Int) < (R : Int) by omega)]
  exact Ev.now _
 ·intro i hi h
  refine Ev.step (fun k => by rw [spec_MaskDither.l0]) ?_
  simp only [(tblAt_is R C (mdAt p m) i 0).1, if_pos (show (i : Int) < (R : Int) by omega)]
  exact h
 ·intro i j hi hj h
  have b := mdBounds hR hC gp hv hm i j hi hj
  have u1 := Nat.mod_lt i (show m.length > 0 by omega)
  have u2 := Nat.mod_lt j (show m.length > 0 by omega)
  refine Ev.step (fun k => by rw [spec_MaskDither.l1]) ?_
  simp only [if_pos (show (j : Int) < (C : Int) by omega), if_pos (show 0 ≤ (j : Int) by omega), gp.rd hi, gp.1, if_pos (show 0 ≤ (i : Int) by omega), (tblAt_is R C (mdAt p m) i j).1, if_pos (show (i : Int) < (R : Int) by omega), if_neg (show ¬ (m.length : Int) = 0 by omega), tmn hR hC gp hv hm, if_pos (show 0 ≤ ((i % m.length : Nat) : Int) by omega), if_pos (show 0 ≤ ((j % m.length : Nat) : Int) by omega), if_pos (show ((i % m.length : Nat) : Int) < (m.length : Int) by omega), gm.rd u1, if_pos (show ((j % m.length : Nat) : Int) < (m.length : Int) by omega), b.2.1, b.2.2, (tblAt_is R C (mdAt p m) i j).rd hi, w_succ (m := j) (by omega), Int.toNat_natCast]
  by_cases c : 2 * ((m.length : Int) * (m.length : Int)) * rd (rd_L1 p (i : Int)) (j : Int) > 255 * (2 * rd (rd_L1 m ((i % m.length : Nat) : Int)) ((j % m.length : Nat) : Int) + 1)
  ·simp only [if_pos c]
   have e : mdAt p m i j = 1 := if_pos c
   have s := tblAt_set R C (mdAt p m) i j hi hj
   rw [e] at s
   simp only [s]
   exact h
  ·simp only [if_neg c]
   have e : mdAt p m i j = 0 := if_neg c
   rw [tblAt_skip R C (mdAt p m) i j e]
   exact h
 ·intro i hi h
  refine Ev.step (fun k => by rw [spec_MaskDither.l1]) ?_
  simp only [(tblAt_is R C (mdAt p m) (i + 1) 0).1, (tblAt_is R C (mdAt p m) (i + 1) 0).rd hi, if_pos (show 0 ≤ (i : Int) by omega), if_pos (show (i : Int) < (R : Int) by omega), if_neg (show ¬ (C : Int) < (C : Int) by omega), w_succ (m := i) (by omega)]
  exact h
end
theorem implVp (p : List (List Int)) : impl_ValidPicture.f p = some (rowsForm 255 p) := by
 unfold impl_ValidPicture.f
 rw [areRows_tells]
 rfl
theorem implMaskDither_ev {p m : List (List Int)} {R C : Nat} (hR : 1 ≤ R ∧ R ≤ 12) (hC : 1 ≤ C ∧ C ≤ 12) (gp : Grid R C p) (hc : (rd_L1 p 0).length = C) (hv : ∀ x ∈ p, ∀ z ∈ x, 0 ≤ z ∧ z ≤ 255) (v : rowsForm 255 p = true) (hm : isMaskB m = true) :
  Ev (fun k => impl_MaskDither.f k p m) (tbl R C (mdAt p m), true) := by
 unfold impl_MaskDither.f
 simp only [implVp, v, Option.bind_some, if_true]
 refine Ev.bind (implMask_ev m) ?_
 rw [hm]
 refine Ev.step (fun k => by rw [impl_MaskDither.j0]) ?_
 simp only [Bool.not_true, Bool.false_eq_true, if_false, gp.1, hc, if_pos (show 0 < (R : Int) by omega)]
 exact Ev.bind (noughts_ev R C (by omega) (by omega)) (implMd_ev hR hC gp hv hm)
theorem maskDither_both (p m : List (List Int)) (hp : p.length ≤ 1048576) (hp' : ∀ x ∈ p, x.length ≤ 1048576) (hm : m.length ≤ 1048576) (hm' : ∀ x ∈ m, x.length ≤ 1048576) :
  ∃ r : List (List Int) × Bool, Ev (fun k => spec_MaskDither.f k p m) r ∧ Ev (fun k => impl_MaskDither.f k p m) r ∧ r.1.length ≤ 12 ∧ ∀ x ∈ r.1, x.length ≤ 12 := by
 have S0 : Ev (fun k => spec_l09Is.f k p) (rowsForm 255 p) := by unfold spec_l09Is.f; exact Ev.bind (form_ev p 255 hp hp') (Ev.now _)
 have sno : Ev (fun k => spec_MaskDither.j0 k m true p) ([], false) := Ev.step (fun k => by rw [spec_MaskDither.j0]) (by simp only [if_true]; exact Ev.now _)
 have ino : Ev (fun k => impl_MaskDither.j0 k m true p) ([], false) := Ev.step (fun k => by rw [impl_MaskDither.j0]) (by simp only [if_true]; exact Ev.now _)
 by_cases v : rowsForm 255 p = true
 ·by_cases hk : isMaskB m = true
  ·obtain ⟨R, C, R1, R2, C1, C2, gp, cp, hv⟩ := rowsForm_is v
   have gt := tbl_is R C (mdAt p m)
   refine ⟨(tbl R C (mdAt p m), true), ?_, implMaskDither_ev ⟨R1, R2⟩ ⟨C1, C2⟩ gp cp hv v hk, by show (tbl R C (mdAt p m)).length ≤ 12; rw [gt.1]; exact R2, fun x hx => by rw [gt.2 x hx]; exact C2⟩
   unfold spec_MaskDither.f
   refine Ev.bind S0 ?_
   simp only [v, if_true]
   refine Ev.bind (specMask_ev m hm hm') ?_
   rw [hk]
   refine Ev.step (fun k => by rw [spec_MaskDither.j0]) ?_
   simp only [Bool.not_true, Bool.false_eq_true, if_false, gp.1, cp, if_pos (show 0 < (R : Int) by omega)]
   exact Ev.bind (square_ev R C (by omega) (by omega)) (specMd_ev ⟨R1, R2⟩ ⟨C1, C2⟩ gp hv hk)
  ·have hk0 : isMaskB m = false := by simpa using hk
   refine ⟨([], false), ?_, ?_, by simp, by simp⟩
   ·unfold spec_MaskDither.f
    refine Ev.bind S0 ?_
    simp only [v, if_true]
    refine Ev.bind (specMask_ev m hm hm') ?_
    rw [hk0]
    exact sno
   ·unfold impl_MaskDither.f
    simp only [implVp, v, Option.bind_some, if_true]
    refine Ev.bind (implMask_ev m) ?_
    rw [hk0]
    exact ino
 ·have v0 : rowsForm 255 p = false := by simpa using v
  refine ⟨([], false), ?_, ?_, by simp, by simp⟩
  ·unfold spec_MaskDither.f
   refine Ev.bind S0 ?_
   simp only [v0, Bool.false_eq_true, if_false]
   exact sno
  ·unfold impl_MaskDither.f
   simp only [implVp, v0, Option.bind_some, Bool.false_eq_true, if_false]
   exact ino
end Go.Proofs.Ytckonklpdepgoaa.Com
namespace Go.Proofs.Ytckonklpdepgoaa.Com
set_option linter.unusedSimpArgs false
set_option linter.unusedVariables false
set_option linter.unusedSectionVars false
open Go.RowKit Go.Proofs.YtckonklpdepgoaaW.PrintWords Go.Proofs.YtckonklpdepgoaaW.PrintMore Go.Proofs.Ytckonklpdepgoaa.Q
theorem toPicture_ev (xs : List (List Int)) (hx : xs.length ≤ 1048576) (hr : ∀ x ∈ xs, x.length ≤ 1048576) : Ev (fun k => laws_toPicture.f k xs) xs := by
 unfold laws_toPicture.f
 exact Ev.bind (toInt64SS_ev xs hx hr) (Ev.now _)
theorem eqPicture_ev (xs : List (List Int)) (hx : xs.length ≤ 1048576) (hr : ∀ x ∈ xs, x.length ≤ 1048576) : Ev (fun k => laws_eqPicture.f k xs xs) true := by
 unfold laws_eqPicture.f
 refine Ev.bind (eqInt64SS_ev xs hx hr) ?_
 simp only [if_true]
 exact Ev.now _
theorem szPic_ev (l : List (List Int)) (a : Int) (ha : 0 ≤ a ∧ a ≤ 1048576) (hl : l.length ≤ maxLen) (hr : ∀ x ∈ l, x.length ≤ maxLen) :
  ∃ t, Ev (fun k => laws_szPicture.f k l a) t ∧ (t = -1 ∨ (0 ≤ t ∧ t ≤ a ∧ l.length ≤ 1048576 ∧ (∀ x ∈ l, x.length ≤ 1048576) ∧ tot l ≤ 1048576)) := by
 obtain ⟨t, e, h⟩ := szSS_ev l a ha hl hr
 unfold laws_szPicture.f
 rcases h with rfl | h
 ·refine ⟨-1, Ev.bind e ?_, .inl rfl⟩
  simp only [if_pos (show (-1 : Int) < 0 by omega)]
  exact Ev.now _
 ·refine ⟨t, Ev.bind e ?_, .inr h⟩
  simp only [if_neg (show ¬ t < 0 by omega)]
  exact Ev.now _
theorem markPic_ev (xs : List (List Int)) (a : Int) (hx : xs.length ≤ 1048576) (hr : ∀ x ∈ xs, x.length ≤ 1048576) (ha : 0 ≤ a) (hb : a + tot xs ≤ 1000000000000) : Ev (fun k => laws_markPicture.f k xs a) (a + tot xs, markLL xs a) := by
 unfold laws_markPicture.f
 exact Ev.bind (markSS_ev xs a hx hr ha hb) (Ev.now _)
end Go.Proofs.Ytckonklpdepgoaa.Com
namespace Go.Proofs.Ytckonklpdepgoaa.Pure
set_option linter.unusedSimpArgs false
set_option linter.unusedVariables false
set_option linter.unusedSectionVars false
open Go.RowKit Go.Proofs.Ytckonklpdepgoaa.Q Go.Proofs.YtckonklpdepgoaaW.PrintWords Go.Proofs.YtckonklpdepgoaaW.PrintLast Go.Proofs.Ytckonklpdepgoaa.Com
theorem FnExactMaskDither : laws_FnExactMaskDither.Pure := by
 intro p d hp hd
 apply ev_of
 unfold laws_FnExactMaskDither.f
 obtain ⟨t1, e1, h1⟩ := szPic_ev p 1048576 (by omega) hp.1 (fun x hx => (hp.2 x hx).1)
 refine Ev.bind e1 ?_
 rcases h1 with rfl | ⟨a0, a1, p1, p2, p3⟩
 ·simp only [if_pos (show (-1 : Int) < 0 by omega)]
  exact Ev.now _
 simp only [if_neg (show ¬ t1 < 0 by omega)]
 obtain ⟨t2, e2, h2⟩ := szSS_ev d t1 (by omega) hd.1 (fun x hx => (hd.2 x hx).1)
 refine Ev.bind e2 ?_
 rcases h2 with rfl | ⟨b0, b1, d1, d2, d3⟩
 ·simp only [if_pos (show (-1 : Int) < 0 by omega)]
  exact Ev.now _
 simp only [if_neg (show ¬ t2 < 0 by omega)]
 obtain ⟨⟨g, b⟩, E1, E2, g1, g2⟩ := maskDither_both p d p1 p2 d1 d2
 simp only at g1 g2
 have c1 : g.length ≤ 1048576 := by omega
 have c2 : ∀ x ∈ g, x.length ≤ 1048576 := fun x hx => by have := g2 x hx; omega
 have c3 := tot_le g 12 g2
 have c4 := tot_nn g
 have c5 : g.length * 12 ≤ 12 * 12 := Nat.mul_le_mul_right _ g1
 have n1 := tot_nn p
 have n2 := tot_nn d
 refine Ev.bind (toPicture_ev p p1 p2) (Ev.bind (toInt64SS_ev d d1 d2) (Ev.bind E1 (Ev.bind (toPicture_ev p p1 p2) (Ev.bind (toInt64SS_ev d d1 d2) (Ev.bind E2 (Ev.bind (eqInt64SS_ev g c1 c2) ?_))))))
 simp only [if_true]
 refine Ev.bind (toPicture_ev p p1 p2) (Ev.bind (eqPicture_ev p p1 p2) ?_)
 simp only [if_true]
 refine Ev.bind (toInt64SS_ev d d1 d2) (Ev.bind (eqInt64SS_ev d d1 d2) ?_)
 simp only [if_true]
 refine Ev.bind (markPic_ev p 1 p1 p2 (by omega) (by omega)) (Ev.bind (markSS_ev d (1 + tot p) d1 d2 (by omega) (by omega)) ?_)
 simp only [if_neg (show ¬ 1 + tot p + tot d < 0 by omega)]
 refine Ev.bind (eqInt64SS_ev g c1 c2) ?_
 simp only [if_true]
 refine Ev.bind (markSS_ev g 1 c1 c2 (by omega) (by omega)) (Ev.bind (heldSS_ev g 1 c1 c2 (by omega) (by omega)) ?_)
 simp only [if_neg (show ¬ 1 + tot g < 0 by omega), if_true]
 refine Ev.bind (toPicture_ev p p1 p2) (Ev.bind (toInt64SS_ev d d1 d2) (Ev.bind E2 (Ev.bind (eqInt64SS_ev g c1 c2) ?_)))
 simp only [if_true]
 refine Ev.bind (heldSS_ev g 1 c1 c2 (by omega) (by omega)) ?_
 simp only [if_neg (show ¬ 1 + tot g < 0 by omega), if_true]
 exact Ev.now _
end Go.Proofs.Ytckonklpdepgoaa.Pure
