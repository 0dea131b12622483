/- The statement FnExactSetErrors, with all that its proof stands on: functions of the program as plain functions, the program's walks, and the plain law. Conditions: none beyond the statement's own. -/
import Derived.ArgAppend
import Derived.Below
import Derived.BigQuiet
import Derived.Deep.AppendLies
import Derived.Deep.CutBlock
import Derived.Deep.DeepCutAuto
import Derived.Deep.Draws
import Derived.Deep.LoopGhost
import Derived.Deep.OwnRows
import Derived.Deep.QuietTactic
import Derived.Deep.RegionHeld3
import Derived.KernelRfl
import Derived.Laws.BitsLemmas
import Derived.Laws.BytesArg
import Derived.Laws.IdiomCopy
import Derived.Laws.MakeOwn
import Derived.Laws.OwnMore
import Derived.Laws.Rows
import Derived.Laws.Slices
import Derived.Lib.AppendStr
import Derived.Lib.ConvBytes
import Derived.Maps.AppendAt
import Derived.OrdersHeld
import Derived.OwnWalk
import Derived.RowKit
import Derived.RowKit3
import Derived.Tactics
import Derived.Test.YtoebllbpoinifaaProg
import Derived.WalkKit
import Derived.WideLaws
import Derived.Test.YtoebllbpoinifaaBFnExactSetErrors0
import Derived.Test.YtoebllbpoinifaaBFnExactSetErrors1
import Derived.Test.YtoebllbpoinifaaBFnExactSetErrors2
import Derived.Test.YtoebllbpoinifaaBFnExactSetErrors3
import Derived.Test.YtoebllbpoinifaaBFnExactSetErrors4
import Derived.Test.YtoebllbpoinifaaBFnExactSetErrors5
import Derived.Test.YtoebllbpoinifaaBFnExactSetErrors6
set_option linter.unusedVariables false
set_option linter.unusedSimpArgs false
namespace Go.Proofs.Ytoebllbpoinifaa.Q
open Go.RowKit Go.Proofs.YtoebllbpoinifaaW.PrintWords Go.Proofs.YtoebllbpoinifaaW.PrintLast Go.Proofs.YtoebllbpoinifaaW.PrintMore
set_option linter.unusedVariables false
set_option linter.unusedSimpArgs false
def laws_FnExactSetErrors.f (k : Nat) (a0_0 : Int) (l0_1 : List Int) (a1_0 : Int) (l1_1 : List Int) (l2 : List Int) : Option Bool := if (l2.length : Int) > 1048576 then some true else ((laws_szSystem.f a0_0 l0_1 1048576).bind fun bt3 => (if bt3 < 0 then some true else ((laws_szValues.f a1_0 l1_1 bt3).bind fun bt4 => (if bt4 < 0 then some true else ((laws_toSystem.f k a0_0 l0_1).bind fun bt5 => ((laws_toValues.f k a1_0 l1_1).bind fun bt8 => ((laws_toInt64S.f k l2).bind fun bt11 => ((spec_SetErrors.f k bt5.1 bt5.2 bt8.1 bt8.2 bt11).bind fun bt13 => ((laws_toSystem.f k a0_0 l0_1).bind fun bt16 => ((laws_toValues.f k a1_0 l1_1).bind fun bt20 => ((laws_toInt64S.f k l2).bind fun bt24 => ((impl_SetErrors.f k bt16.1 bt16.2 bt20.1 bt20.2 bt24).bind fun bt26 => ((laws_eqInt64S.f k bt26.1 bt13.1).bind fun bt29 => (if bt29 = true then (if bt26.2 = bt13.2 then ((laws_toSystem.f k a0_0 l0_1).bind fun bt30 => ((laws_eqSystem.f k bt16.1 bt16.2 bt30.1 bt30.2).bind fun bt33 => (if bt33 = true then ((laws_toValues.f k a1_0 l1_1).bind fun bt34 => ((laws_eqValues.f k bt20.1 bt20.2 bt34.1 bt34.2).bind fun bt37 => (if bt37 = true then ((laws_toInt64S.f k l2).bind fun bt38 => ((laws_eqInt64S.f k bt24 bt38).bind fun bt40 => (if bt40 = true then ((laws_markSystem.f k bt16.1 bt16.2 1).bind fun bt41 => ((laws_markValues.f k bt20.1 bt20.2 bt41.1).bind fun bt43 => ((laws_markInt64S.f k bt24 bt43.1).bind fun bt45 => (if bt45.1 < 0 then some false else ((laws_eqInt64S.f k bt26.1 bt13.1).bind fun bt47 => (if bt47 = true then ((laws_markInt64S.f k bt26.1 1).bind fun bt48 => ((laws_heldInt64S.f k bt48.2 1).bind fun bt50 => (if bt50 < 0 then some false else (if bt50 = bt48.1 then ((laws_toSystem.f k a0_0 l0_1).bind fun bt51 => ((laws_toValues.f k a1_0 l1_1).bind fun bt54 => ((laws_toInt64S.f k l2).bind fun bt57 => ((impl_SetErrors.f k bt51.1 bt51.2 bt54.1 bt54.2 bt57).bind fun bt59 => ((laws_eqInt64S.f k bt59.1 bt13.1).bind fun bt62 => (if bt62 = true then (if bt59.2 = bt26.2 then ((laws_heldInt64S.f k bt48.2 1).bind fun bt63 => (if bt63 < 0 then some false else (if bt63 = bt50 then (some true) else some false))) else some false) else some false)))))) else some false)))) else some false)))))) else some false))) else some false))) else some false))) else some false) else some false))))))))))))))
def laws_FnExactSetErrors.Pure : Prop := ∀ (a0_0 : Int) (l0_1 : List Int) (a1_0 : Int) (l1_1 : List Int) (l2 : List Int), (Lit.int .i64 a0_0).wf = true → (l0_1.length ≤ maxLen ∧ ∀ y ∈ l0_1, (Lit.int .i64 y).wf = true) → (Lit.int .i64 a1_0).wf = true → (l1_1.length ≤ maxLen ∧ ∀ y ∈ l1_1, (Lit.int .i64 y).wf = true) → (l2.length ≤ maxLen ∧ ∀ y ∈ l2, (Lit.int .i64 y).wf = true) → ∃ k, laws_FnExactSetErrors.f k a0_0 l0_1 a1_0 l1_1 l2 = some true
set_option maxHeartbeats 16000000 in
set_option maxRecDepth 100000 in
theorem laws_FnExactSetErrors.calls (k : Nat) (a0_0 : Int) (A0_1 : Option Addr) (c0_1 : Nat) (l0_1 : List Int) (a1_0 : Int) (A1_1 : Option Addr) (c1_1 : Nat) (l1_1 : List Int) (A2 : Option Addr) (c2 : Nat) (l2 : List Int) (w : World) (hr0_1 : Kd.C (Kd.int .i64) w A0_1 l0_1.length l0_1) (hc0_1 : l0_1.length ≤ c0_1) (hr1_1 : Kd.C (Kd.int .i64) w A1_1 l1_1.length l1_1) (hc1_1 : l1_1.length ≤ c1_1) (hr2 : Kd.C (Kd.int .i64) w A2 l2.length l2) (hc2 : l2.length ≤ c2) (h : laws_FnExactSetErrors.f k a0_0 l0_1 a1_0 l1_1 l2 = some true) :
  Calls Try.prog 6 #[.agg #[.int .i64 a0_0, .slice A0_1 l0_1.length c0_1], .agg #[.int .i64 a1_0, .slice A1_1 l1_1.length c1_1], .slice A2 l2.length c2] w fun e w' => e = .returned (.bool true) ∧ Below w.heap.size w w' := by
 have HR0_1 := Aside0.mk hr0_1
 have HC0_1 := Aside0.mk hc0_1
 clear hr0_1 hc0_1
 have HR1_1 := Aside0.mk hr1_1
 have HC1_1 := Aside0.mk hc1_1
 clear hr1_1 hc1_1
 have HR2 := Aside0.mk hr2
 have HC2 := Aside0.mk hc2
 clear hr2 hc2
 have HB := Aside0.mk (Below.refl w.heap.size w)
 have H := h
 clear h
 unfold laws_FnExactSetErrors.f at H
 by_cases c0 : (l2.length : Int) > 1048576
 ·clear H
  have c0b : decide ((l2.length : Int) > 1048576) = true := decide_eq_true c0
  clear c0
  go_enter Try.func6, Try.ntmps6
  go_wp2_with (first | ((with_reducible refine gate_dst (N := 3) rfl ?_); refine box_event ?hg (N := 3) ?hd (cs := #[.int .i64 a0_0, .slice A0_1 l0_1.length c0_1]) (t := 51) ?hr ?_; (case hd => rfl); (case hg => rfl); (case hr => first | (go_simp; done) | (go_simp; rfl)); intro gb1 hg w_1 hbox hb; have n0_ := Aside0.mk (below_step HB.out hb); have n1_ := Aside0.mk (hbox); have n2_ := Aside0.mk (blk_lt hbox); have n3_ := Aside0.mk (by rw [hg]; exact below_size HB.out : w.heap.size ≤ gb1); clear HB; have HB := n0_; have BKgb1 := n1_; have GUgb1 := n2_; have GEgb1 := n3_; clear n0_ n1_ n2_ n3_; clear hb hbox hg; (try clear hczgb1_0); (try clear hfzgb1_0); (try clear hczgb1_1); (try clear hfzgb1_1); have hczgb1_0 : w_1.cell? ⟨gb1, 0, none⟩ = some (.int .i64 a0_0) := (blk_cell BKgb1.out 0).trans rfl; have hfzgb1_0 := blk_frozen BKgb1.out 0; have hczgb1_1 : w_1.cell? ⟨gb1, 1, none⟩ = some (.slice A0_1 l0_1.length c0_1) := (blk_cell BKgb1.out 1).trans rfl; have hfzgb1_1 := blk_frozen BKgb1.out 1) | ((with_reducible refine gate_dst (N := 4) rfl ?_); refine box_event ?hg (N := 4) ?hd (cs := #[.int .i64 a1_0, .slice A1_1 l1_1.length c1_1]) (t := 53) ?hr ?_; (case hd => rfl); (case hg => rfl); (case hr => first | (go_simp; done) | (go_simp; rfl)); intro gb2 hg w_2 hbox hb; have n0_ := Aside0.mk (blk_below (g := gb1) BKgb1.out hb); have n1_ := Aside0.mk (Nat.lt_of_lt_of_le GUgb1.out hb.size); have n2_ := Aside0.mk (below_step HB.out hb); have n3_ := Aside0.mk (hbox); have n4_ := Aside0.mk (blk_lt hbox); have n5_ := Aside0.mk (by rw [hg]; exact below_size HB.out : w.heap.size ≤ gb2); have n6_ := Aside0.mk (by have := GUgb1.out; rw [← hg] at this; omega : gb1 ≠ gb2); have n7_ := Aside0.mk (by have := GUgb1.out; rw [← hg] at this; omega : gb2 ≠ gb1); clear BKgb1; clear GUgb1; clear HB; have BKgb1 := n0_; have GUgb1 := n1_; have HB := n2_; have BKgb2 := n3_; have GUgb2 := n4_; have GEgb2 := n5_; have NBgb1_gb2 := n6_; have NBgb2_gb1 := n7_; clear n0_ n1_ n2_ n3_ n4_ n5_ n6_ n7_; clear hb hbox hg; (try clear hczgb1_0); (try clear hfzgb1_0); (try clear hczgb1_1); (try clear hfzgb1_1); (try clear hczgb2_0); (try clear hfzgb2_0); (try clear hczgb2_1); (try clear hfzgb2_1); have hczgb1_0 : w_2.cell? ⟨gb1, 0, none⟩ = some (.int .i64 a0_0) := (blk_cell BKgb1.out 0).trans rfl; have hfzgb1_0 := blk_frozen BKgb1.out 0; have hczgb1_1 : w_2.cell? ⟨gb1, 1, none⟩ = some (.slice A0_1 l0_1.length c0_1) := (blk_cell BKgb1.out 1).trans rfl; have hfzgb1_1 := blk_frozen BKgb1.out 1; have hczgb2_0 : w_2.cell? ⟨gb2, 0, none⟩ = some (.int .i64 a1_0) := (blk_cell BKgb2.out 0).trans rfl; have hfzgb2_0 := blk_frozen BKgb2.out 0; have hczgb2_1 : w_2.cell? ⟨gb2, 1, none⟩ = some (.slice A1_1 l1_1.length c1_1) := (blk_cell BKgb2.out 1).trans rfl; have hfzgb2_1 := blk_frozen BKgb2.out 1))
  go_ret
  exact ⟨by first | rfl | (simp; done) | (simp [*]; done), HB.out⟩
 rw [if_neg c0] at H
 have c0b : decide ((l2.length : Int) > 1048576) = false := decide_eq_false c0
 clear c0
 replace H := Option.bind_eq_some_iff.mp H
 obtain ⟨t3, E20, H⟩ := H
 (try dsimp only at H)
 have E2 := Aside0.mk E20
 clear E20
 by_cases c2 : t3 < 0
 ·clear H
  have c2b : decide (t3 < 0) = true := decide_eq_true c2
  clear c2
  go_enter Try.func6, Try.ntmps6
  go_wp2_with (first | ((with_reducible refine gate_dst (N := 3) rfl ?_); refine box_event ?hg (N := 3) ?hd (cs := #[.int .i64 a0_0, .slice A0_1 l0_1.length c0_1]) (t := 51) ?hr ?_; (case hd => rfl); (case hg => rfl); (case hr => first | (go_simp; done) | (go_simp; rfl)); intro gb1 hg w_1 hbox hb; have n0_ := Aside0.mk (below_step HB.out hb); have n1_ := Aside0.mk (hbox); have n2_ := Aside0.mk (blk_lt hbox); have n3_ := Aside0.mk (by rw [hg]; exact below_size HB.out : w.heap.size ≤ gb1); clear HB; have HB := n0_; have BKgb1 := n1_; have GUgb1 := n2_; have GEgb1 := n3_; clear n0_ n1_ n2_ n3_; clear hb hbox hg; (try clear hczgb1_0); (try clear hfzgb1_0); (try clear hczgb1_1); (try clear hfzgb1_1); have hczgb1_0 : w_1.cell? ⟨gb1, 0, none⟩ = some (.int .i64 a0_0) := (blk_cell BKgb1.out 0).trans rfl; have hfzgb1_0 := blk_frozen BKgb1.out 0; have hczgb1_1 : w_1.cell? ⟨gb1, 1, none⟩ = some (.slice A0_1 l0_1.length c0_1) := (blk_cell BKgb1.out 1).trans rfl; have hfzgb1_1 := blk_frozen BKgb1.out 1) | ((with_reducible refine gate_dst (N := 4) rfl ?_); refine box_event ?hg (N := 4) ?hd (cs := #[.int .i64 a1_0, .slice A1_1 l1_1.length c1_1]) (t := 53) ?hr ?_; (case hd => rfl); (case hg => rfl); (case hr => first | (go_simp; done) | (go_simp; rfl)); intro gb2 hg w_2 hbox hb; have n0_ := Aside0.mk (blk_below (g := gb1) BKgb1.out hb); have n1_ := Aside0.mk (Nat.lt_of_lt_of_le GUgb1.out hb.size); have n2_ := Aside0.mk (below_step HB.out hb); have n3_ := Aside0.mk (hbox); have n4_ := Aside0.mk (blk_lt hbox); have n5_ := Aside0.mk (by rw [hg]; exact below_size HB.out : w.heap.size ≤ gb2); have n6_ := Aside0.mk (by have := GUgb1.out; rw [← hg] at this; omega : gb1 ≠ gb2); have n7_ := Aside0.mk (by have := GUgb1.out; rw [← hg] at this; omega : gb2 ≠ gb1); clear BKgb1; clear GUgb1; clear HB; have BKgb1 := n0_; have GUgb1 := n1_; have HB := n2_; have BKgb2 := n3_; have GUgb2 := n4_; have GEgb2 := n5_; have NBgb1_gb2 := n6_; have NBgb2_gb1 := n7_; clear n0_ n1_ n2_ n3_ n4_ n5_ n6_ n7_; clear hb hbox hg; (try clear hczgb1_0); (try clear hfzgb1_0); (try clear hczgb1_1); (try clear hfzgb1_1); (try clear hczgb2_0); (try clear hfzgb2_0); (try clear hczgb2_1); (try clear hfzgb2_1); have hczgb1_0 : w_2.cell? ⟨gb1, 0, none⟩ = some (.int .i64 a0_0) := (blk_cell BKgb1.out 0).trans rfl; have hfzgb1_0 := blk_frozen BKgb1.out 0; have hczgb1_1 : w_2.cell? ⟨gb1, 1, none⟩ = some (.slice A0_1 l0_1.length c0_1) := (blk_cell BKgb1.out 1).trans rfl; have hfzgb1_1 := blk_frozen BKgb1.out 1; have hczgb2_0 : w_2.cell? ⟨gb2, 0, none⟩ = some (.int .i64 a1_0) := (blk_cell BKgb2.out 0).trans rfl; have hfzgb2_0 := blk_frozen BKgb2.out 0; have hczgb2_1 : w_2.cell? ⟨gb2, 1, none⟩ = some (.slice A1_1 l1_1.length c1_1) := (blk_cell BKgb2.out 1).trans rfl; have hfzgb2_1 := blk_frozen BKgb2.out 1) | ((with_reducible refine gate_callee (f := 40) rfl ?_); refine goesL_ (some 25) rfl rfl Try.func40 (by kernel_rfl) rfl #[.agg #[.int .i64 a0_0, .slice A0_1 l0_1.length c0_1], .int .i64 1048576] rfl (by (try simp only [List.map_toArray, List.map_cons, List.map_nil]); first | done | rfl) ?_; (with_reducible refine (laws_szSystem.calls a0_0 _ _ l0_1 1048576 t3 _ ?side1 ?side2 E2.out).mono ?_); (case side1 => exact Kd.C_below HR0_1.out HB.out); (case side2 => exact HC0_1.out); rintro e w_3 ⟨rfl, hb⟩; refine ⟨_, rfl, ?_⟩; have n0_ := Aside0.mk (blk_below (g := gb1) BKgb1.out hb); have n1_ := Aside0.mk (blk_below (g := gb2) BKgb2.out hb); have n2_ := Aside0.mk (Nat.lt_of_lt_of_le GUgb1.out hb.size); have n3_ := Aside0.mk (Nat.lt_of_lt_of_le GUgb2.out hb.size); have n4_ := Aside0.mk (below_step HB.out hb); clear BKgb1; clear BKgb2; clear GUgb1; clear GUgb2; clear HB; have BKgb1 := n0_; have BKgb2 := n1_; have GUgb1 := n2_; have GUgb2 := n3_; have HB := n4_; clear n0_ n1_ n2_ n3_ n4_; clear hb; (try clear hczgb1_0); (try clear hfzgb1_0); (try clear hczgb1_1); (try clear hfzgb1_1); (try clear hczgb2_0); (try clear hfzgb2_0); (try clear hczgb2_1); (try clear hfzgb2_1); have hczgb1_0 : w_3.cell? ⟨gb1, 0, none⟩ = some (.int .i64 a0_0) := (blk_cell BKgb1.out 0).trans rfl; have hfzgb1_0 := blk_frozen BKgb1.out 0; have hczgb1_1 : w_3.cell? ⟨gb1, 1, none⟩ = some (.slice A0_1 l0_1.length c0_1) := (blk_cell BKgb1.out 1).trans rfl; have hfzgb1_1 := blk_frozen BKgb1.out 1; have hczgb2_0 : w_3.cell? ⟨gb2, 0, none⟩ = some (.int .i64 a1_0) := (blk_cell BKgb2.out 0).trans rfl; have hfzgb2_0 := blk_frozen BKgb2.out 0; have hczgb2_1 : w_3.cell? ⟨gb2, 1, none⟩ = some (.slice A1_1 l1_1.length c1_1) := (blk_cell BKgb2.out 1).trans rfl; have hfzgb2_1 := blk_frozen BKgb2.out 1))
  go_ret
  exact ⟨by first | rfl | (simp; done) | (simp [*]; done), HB.out⟩
 rw [if_neg c2] at H
 have c2b : decide (t3 < 0) = false := decide_eq_false c2
 clear c2
 replace H := Option.bind_eq_some_iff.mp H
 obtain ⟨t4, E40, H⟩ := H
 (try dsimp only at H)
 have E4 := Aside0.mk E40
 clear E40
 by_cases c4 : t4 < 0
 ·clear H
  have c4b : decide (t4 < 0) = true := decide_eq_true c4
  clear c4
  go_enter Try.func6, Try.ntmps6
  go_wp2_with (first | ((with_reducible refine gate_dst (N := 3) rfl ?_); refine box_event ?hg (N := 3) ?hd (cs := #[.int .i64 a0_0, .slice A0_1 l0_1.length c0_1]) (t := 51) ?hr ?_; (case hd => rfl); (case hg => rfl); (case hr => first | (go_simp; done) | (go_simp; rfl)); intro gb1 hg w_1 hbox hb; have n0_ := Aside0.mk (below_step HB.out hb); have n1_ := Aside0.mk (hbox); have n2_ := Aside0.mk (blk_lt hbox); have n3_ := Aside0.mk (by rw [hg]; exact below_size HB.out : w.heap.size ≤ gb1); clear HB; have HB := n0_; have BKgb1 := n1_; have GUgb1 := n2_; have GEgb1 := n3_; clear n0_ n1_ n2_ n3_; clear hb hbox hg; (try clear hczgb1_0); (try clear hfzgb1_0); (try clear hczgb1_1); (try clear hfzgb1_1); have hczgb1_0 : w_1.cell? ⟨gb1, 0, none⟩ = some (.int .i64 a0_0) := (blk_cell BKgb1.out 0).trans rfl; have hfzgb1_0 := blk_frozen BKgb1.out 0; have hczgb1_1 : w_1.cell? ⟨gb1, 1, none⟩ = some (.slice A0_1 l0_1.length c0_1) := (blk_cell BKgb1.out 1).trans rfl; have hfzgb1_1 := blk_frozen BKgb1.out 1) | ((with_reducible refine gate_dst (N := 4) rfl ?_); refine box_event ?hg (N := 4) ?hd (cs := #[.int .i64 a1_0, .slice A1_1 l1_1.length c1_1]) (t := 53) ?hr ?_; (case hd => rfl); (case hg => rfl); (case hr => first | (go_simp; done) | (go_simp; rfl)); intro gb2 hg w_2 hbox hb; have n0_ := Aside0.mk (blk_below (g := gb1) BKgb1.out hb); have n1_ := Aside0.mk (Nat.lt_of_lt_of_le GUgb1.out hb.size); have n2_ := Aside0.mk (below_step HB.out hb); have n3_ := Aside0.mk (hbox); have n4_ := Aside0.mk (blk_lt hbox); have n5_ := Aside0.mk (by rw [hg]; exact below_size HB.out : w.heap.size ≤ gb2); have n6_ := Aside0.mk (by have := GUgb1.out; rw [← hg] at this; omega : gb1 ≠ gb2); have n7_ := Aside0.mk (by have := GUgb1.out; rw [← hg] at this; omega : gb2 ≠ gb1); clear BKgb1; clear GUgb1; clear HB; have BKgb1 := n0_; have GUgb1 := n1_; have HB := n2_; have BKgb2 := n3_; have GUgb2 := n4_; have GEgb2 := n5_; have NBgb1_gb2 := n6_; have NBgb2_gb1 := n7_; clear n0_ n1_ n2_ n3_ n4_ n5_ n6_ n7_; clear hb hbox hg; (try clear hczgb1_0); (try clear hfzgb1_0); (try clear hczgb1_1); (try clear hfzgb1_1); (try clear hczgb2_0); (try clear hfzgb2_0); (try clear hczgb2_1); (try clear hfzgb2_1); have hczgb1_0 : w_2.cell? ⟨gb1, 0, none⟩ = some (.int .i64 a0_0) := (blk_cell BKgb1.out 0).trans rfl; have hfzgb1_0 := blk_frozen BKgb1.out 0; have hczgb1_1 : w_2.cell? ⟨gb1, 1, none⟩ = some (.slice A0_1 l0_1.length c0_1) := (blk_cell BKgb1.out 1).trans rfl; have hfzgb1_1 := blk_frozen BKgb1.out 1; have hczgb2_0 : w_2.cell? ⟨gb2, 0, none⟩ = some (.int .i64 a1_0) := (blk_cell BKgb2.out 0).trans rfl; have hfzgb2_0 := blk_frozen BKgb2.out 0; have hczgb2_1 : w_2.cell? ⟨gb2, 1, none⟩ = some (.slice A1_1 l1_1.length c1_1) := (blk_cell BKgb2.out 1).trans rfl; have hfzgb2_1 := blk_frozen BKgb2.out 1) | ((with_reducible refine gate_callee (f := 40) rfl ?_); refine goesL_ (some 25) rfl rfl Try.func40 (by kernel_rfl) rfl #[.agg #[.int .i64 a0_0, .slice A0_1 l0_1.length c0_1], .int .i64 1048576] rfl (by (try simp only [List.map_toArray, List.map_cons, List.map_nil]); first | done | rfl) ?_; (with_reducible refine (laws_szSystem.calls a0_0 _ _ l0_1 1048576 t3 _ ?side1 ?side2 E2.out).mono ?_); (case side1 => exact Kd.C_below HR0_1.out HB.out); (case side2 => exact HC0_1.out); rintro e w_3 ⟨rfl, hb⟩; refine ⟨_, rfl, ?_⟩; have n0_ := Aside0.mk (blk_below (g := gb1) BKgb1.out hb); have n1_ := Aside0.mk (blk_below (g := gb2) BKgb2.out hb); have n2_ := Aside0.mk (Nat.lt_of_lt_of_le GUgb1.out hb.size); have n3_ := Aside0.mk (Nat.lt_of_lt_of_le GUgb2.out hb.size); have n4_ := Aside0.mk (below_step HB.out hb); clear BKgb1; clear BKgb2; clear GUgb1; clear GUgb2; clear HB; have BKgb1 := n0_; have BKgb2 := n1_; have GUgb1 := n2_; have GUgb2 := n3_; have HB := n4_; clear n0_ n1_ n2_ n3_ n4_; clear hb; (try clear hczgb1_0); (try clear hfzgb1_0); (try clear hczgb1_1); (try clear hfzgb1_1); (try clear hczgb2_0); (try clear hfzgb2_0); (try clear hczgb2_1); (try clear hfzgb2_1); have hczgb1_0 : w_3.cell? ⟨gb1, 0, none⟩ = some (.int .i64 a0_0) := (blk_cell BKgb1.out 0).trans rfl; have hfzgb1_0 := blk_frozen BKgb1.out 0; have hczgb1_1 : w_3.cell? ⟨gb1, 1, none⟩ = some (.slice A0_1 l0_1.length c0_1) := (blk_cell BKgb1.out 1).trans rfl; have hfzgb1_1 := blk_frozen BKgb1.out 1; have hczgb2_0 : w_3.cell? ⟨gb2, 0, none⟩ = some (.int .i64 a1_0) := (blk_cell BKgb2.out 0).trans rfl; have hfzgb2_0 := blk_frozen BKgb2.out 0; have hczgb2_1 : w_3.cell? ⟨gb2, 1, none⟩ = some (.slice A1_1 l1_1.length c1_1) := (blk_cell BKgb2.out 1).trans rfl; have hfzgb2_1 := blk_frozen BKgb2.out 1) | ((with_reducible refine gate_callee (f := 41) rfl ?_); refine goesL_ (some 30) rfl rfl Try.func41 (by kernel_rfl) rfl #[.agg #[.int .i64 a1_0, .slice A1_1 l1_1.length c1_1], .int .i64 t3] rfl (by (try simp only [List.map_toArray, List.map_cons, List.map_nil]); first | done | rfl) ?_; (with_reducible refine (laws_szValues.calls a1_0 _ _ l1_1 t3 t4 _ ?side1 ?side2 E4.out).mono ?_); (case side1 => exact Kd.C_below HR1_1.out HB.out); (case side2 => exact HC1_1.out); rintro e w_4 ⟨rfl, hb⟩; refine ⟨_, rfl, ?_⟩; have n0_ := Aside0.mk (blk_below (g := gb1) BKgb1.out hb); have n1_ := Aside0.mk (blk_below (g := gb2) BKgb2.out hb); have n2_ := Aside0.mk (Nat.lt_of_lt_of_le GUgb1.out hb.size); have n3_ := Aside0.mk (Nat.lt_of_lt_of_le GUgb2.out hb.size); have n4_ := Aside0.mk (below_step HB.out hb); clear BKgb1; clear BKgb2; clear GUgb1; clear GUgb2; clear HB; have BKgb1 := n0_; have BKgb2 := n1_; have GUgb1 := n2_; have GUgb2 := n3_; have HB := n4_; clear n0_ n1_ n2_ n3_ n4_; clear hb; (try clear hczgb1_0); (try clear hfzgb1_0); (try clear hczgb1_1); (try clear hfzgb1_1); (try clear hczgb2_0); (try clear hfzgb2_0); (try clear hczgb2_1); (try clear hfzgb2_1); have hczgb1_0 : w_4.cell? ⟨gb1, 0, none⟩ = some (.int .i64 a0_0) := (blk_cell BKgb1.out 0).trans rfl; have hfzgb1_0 := blk_frozen BKgb1.out 0; have hczgb1_1 : w_4.cell? ⟨gb1, 1, none⟩ = some (.slice A0_1 l0_1.length c0_1) := (blk_cell BKgb1.out 1).trans rfl; have hfzgb1_1 := blk_frozen BKgb1.out 1; have hczgb2_0 : w_4.cell? ⟨gb2, 0, none⟩ = some (.int .i64 a1_0) := (blk_cell BKgb2.out 0).trans rfl; have hfzgb2_0 := blk_frozen BKgb2.out 0; have hczgb2_1 : w_4.cell? ⟨gb2, 1, none⟩ = some (.slice A1_1 l1_1.length c1_1) := (blk_cell BKgb2.out 1).trans rfl; have hfzgb2_1 := blk_frozen BKgb2.out 1))
  go_ret
  exact ⟨by first | rfl | (simp; done) | (simp [*]; done), HB.out⟩
 rw [if_neg c4] at H
 have c4b : decide (t4 < 0) = false := decide_eq_false c4
 clear c4
 replace H := Option.bind_eq_some_iff.mp H
 obtain ⟨⟨t5, t6⟩, E60, H⟩ := H
 (try dsimp only at H)
 have E6 := Aside0.mk E60
 clear E60
 replace H := Option.bind_eq_some_iff.mp H
 obtain ⟨⟨t8, t9⟩, E70, H⟩ := H
 (try dsimp only at H)
 have E7 := Aside0.mk E70
 clear E70
 replace H := Option.bind_eq_some_iff.mp H
 obtain ⟨t11, E80, H⟩ := H
 (try dsimp only at H)
 have E8 := Aside0.mk E80
 clear E80
 replace H := Option.bind_eq_some_iff.mp H
 obtain ⟨⟨t13, t14⟩, E90, H⟩ := H
 (try dsimp only at H)
 have E9 := Aside0.mk E90
 clear E90
 replace H := Option.bind_eq_some_iff.mp H
 obtain ⟨⟨t16, t17⟩, E100, H⟩ := H
 (try dsimp only at H)
 have E10 := Aside0.mk E100
 clear E100
 replace H := Option.bind_eq_some_iff.mp H
 obtain ⟨⟨t20, t21⟩, E110, H⟩ := H
 (try dsimp only at H)
 have E11 := Aside0.mk E110
 clear E110
 replace H := Option.bind_eq_some_iff.mp H
 obtain ⟨t24, E120, H⟩ := H
 (try dsimp only at H)
 have E12 := Aside0.mk E120
 clear E120
 replace H := Option.bind_eq_some_iff.mp H
 obtain ⟨⟨t26, t27⟩, E130, H⟩ := H
 (try dsimp only at H)
 have E13 := Aside0.mk E130
 clear E130
 replace H := Option.bind_eq_some_iff.mp H
 obtain ⟨t29, E140, H⟩ := H
 (try dsimp only at H)
 have E14 := Aside0.mk E140
 clear E140
 by_cases c14 : t29 = true
 rotate_left
 ·rw [if_neg c14] at H; exact absurd H (by simp)
 rw [if_pos c14] at H
 subst c14
 by_cases c15 : t27 = t14
 rotate_left
 ·rw [if_neg c15] at H; exact absurd H (by simp)
 rw [if_pos c15] at H
 subst c15
 replace H := Option.bind_eq_some_iff.mp H
 obtain ⟨⟨t30, t31⟩, E170, H⟩ := H
 (try dsimp only at H)
 have E17 := Aside0.mk E170
 clear E170
 replace H := Option.bind_eq_some_iff.mp H
 obtain ⟨t33, E180, H⟩ := H
 (try dsimp only at H)
 have E18 := Aside0.mk E180
 clear E180
 by_cases c18 : t33 = true
 rotate_left
 ·rw [if_neg c18] at H; exact absurd H (by simp)
 rw [if_pos c18] at H
 subst c18
 replace H := Option.bind_eq_some_iff.mp H
 obtain ⟨⟨t34, t35⟩, E200, H⟩ := H
 (try dsimp only at H)
 have E20 := Aside0.mk E200
 clear E200
 replace H := Option.bind_eq_some_iff.mp H
 obtain ⟨t37, E210, H⟩ := H
 (try dsimp only at H)
 have E21 := Aside0.mk E210
 clear E210
 by_cases c21 : t37 = true
 rotate_left
 ·rw [if_neg c21] at H; exact absurd H (by simp)
 rw [if_pos c21] at H
 subst c21
 replace H := Option.bind_eq_some_iff.mp H
 obtain ⟨t38, E230, H⟩ := H
 (try dsimp only at H)
 have E23 := Aside0.mk E230
 clear E230
 replace H := Option.bind_eq_some_iff.mp H
 obtain ⟨t40, E240, H⟩ := H
 (try dsimp only at H)
 have E24 := Aside0.mk E240
 clear E240
 by_cases c24 : t40 = true
 rotate_left
 ·rw [if_neg c24] at H; exact absurd H (by simp)
 rw [if_pos c24] at H
 subst c24
 replace H := Option.bind_eq_some_iff.mp H
 obtain ⟨⟨t41, t42⟩, E260, H⟩ := H
 (try dsimp only at H)
 have E26 := Aside0.mk E260
 clear E260
 replace H := Option.bind_eq_some_iff.mp H
 obtain ⟨⟨t43, t44⟩, E270, H⟩ := H
 (try dsimp only at H)
 have E27 := Aside0.mk E270
 clear E270
 replace H := Option.bind_eq_some_iff.mp H
 obtain ⟨⟨t45, t46⟩, E280, H⟩ := H
 (try dsimp only at H)
 have E28 := Aside0.mk E280
 clear E280
 by_cases c28 : t45 < 0
 ·rw [if_pos c28] at H; exact absurd H (by simp)
 rw [if_neg c28] at H
 have c28b : decide (t45 < 0) = false := decide_eq_false c28
 clear c28
 replace H := Option.bind_eq_some_iff.mp H
 obtain ⟨t47, E300, H⟩ := H
 (try dsimp only at H)
 have E30 := Aside0.mk E300
 clear E300
 by_cases c30 : t47 = true
 rotate_left
 ·rw [if_neg c30] at H; exact absurd H (by simp)
 rw [if_pos c30] at H
 subst c30
 replace H := Option.bind_eq_some_iff.mp H
 obtain ⟨⟨t48, t49⟩, E320, H⟩ := H
 (try dsimp only at H)
 have E32 := Aside0.mk E320
 clear E320
 replace H := Option.bind_eq_some_iff.mp H
 obtain ⟨t50, E330, H⟩ := H
 (try dsimp only at H)
 have E33 := Aside0.mk E330
 clear E330
 by_cases c33 : t50 < 0
 ·rw [if_pos c33] at H; exact absurd H (by simp)
 rw [if_neg c33] at H
 have c33b : decide (t50 < 0) = false := decide_eq_false c33
 clear c33
 by_cases c34 : t50 = t48
 rotate_left
 ·rw [if_neg c34] at H; exact absurd H (by simp)
 rw [if_pos c34] at H
 subst c34
 replace H := Option.bind_eq_some_iff.mp H
 obtain ⟨⟨t51, t52⟩, E360, H⟩ := H
 (try dsimp only at H)
 have E36 := Aside0.mk E360
 clear E360
 replace H := Option.bind_eq_some_iff.mp H
 obtain ⟨⟨t54, t55⟩, E370, H⟩ := H
 (try dsimp only at H)
 have E37 := Aside0.mk E370
 clear E370
 replace H := Option.bind_eq_some_iff.mp H
 obtain ⟨t57, E380, H⟩ := H
 (try dsimp only at H)
 have E38 := Aside0.mk E380
 clear E380
 replace H := Option.bind_eq_some_iff.mp H
 obtain ⟨⟨t59, t60⟩, E390, H⟩ := H
 (try dsimp only at H)
 have E39 := Aside0.mk E390
 clear E390
 replace H := Option.bind_eq_some_iff.mp H
 obtain ⟨t62, E400, H⟩ := H
 (try dsimp only at H)
 have E40 := Aside0.mk E400
 clear E400
 by_cases c40 : t62 = true
 rotate_left
 ·rw [if_neg c40] at H; exact absurd H (by simp)
 rw [if_pos c40] at H
 subst c40
 by_cases c41 : t60 = t27
 rotate_left
 ·rw [if_neg c41] at H; exact absurd H (by simp)
 rw [if_pos c41] at H
 subst c41
 replace H := Option.bind_eq_some_iff.mp H
 obtain ⟨t63, E430, H⟩ := H
 (try dsimp only at H)
 have E43 := Aside0.mk E430
 clear E430
 by_cases c43 : t63 < 0
 ·rw [if_pos c43] at H; exact absurd H (by simp)
 rw [if_neg c43] at H
 have c43b : decide (t63 < 0) = false := decide_eq_false c43
 clear c43
 by_cases c44 : t63 = t50
 rotate_left
 ·rw [if_neg c44] at H; exact absurd H (by simp)
 rw [if_pos c44] at H
 subst c44
 clear H
 go_enter Try.func6, Try.ntmps6
 go_wp2_with (first | ((with_reducible refine gate_dst (N := 3) rfl ?_); refine box_event ?hg (N := 3) ?hd (cs := #[.int .i64 a0_0, .slice A0_1 l0_1.length c0_1]) (t := 51) ?hr ?_; (case hd => rfl); (case hg => rfl); (case hr => first | (go_simp; done) | (go_simp; rfl)); intro gb1 hg w_1 hbox hb; have n0_ := Aside0.mk (below_step HB.out hb); have n1_ := Aside0.mk (hbox); have n2_ := Aside0.mk (blk_lt hbox); have n3_ := Aside0.mk (by rw [hg]; exact below_size HB.out : w.heap.size ≤ gb1); clear HB; have HB := n0_; have BKgb1 := n1_; have GUgb1 := n2_; have GEgb1 := n3_; clear n0_ n1_ n2_ n3_; clear hb hbox hg; (try clear hczgb1_0); (try clear hfzgb1_0); (try clear hczgb1_1); (try clear hfzgb1_1); have hczgb1_0 : w_1.cell? ⟨gb1, 0, none⟩ = some (.int .i64 a0_0) := (blk_cell BKgb1.out 0).trans rfl; have hfzgb1_0 := blk_frozen BKgb1.out 0; have hczgb1_1 : w_1.cell? ⟨gb1, 1, none⟩ = some (.slice A0_1 l0_1.length c0_1) := (blk_cell BKgb1.out 1).trans rfl; have hfzgb1_1 := blk_frozen BKgb1.out 1) | ((with_reducible refine gate_dst (N := 4) rfl ?_); refine box_event ?hg (N := 4) ?hd (cs := #[.int .i64 a1_0, .slice A1_1 l1_1.length c1_1]) (t := 53) ?hr ?_; (case hd => rfl); (case hg => rfl); (case hr => first | (go_simp; done) | (go_simp; rfl)); intro gb2 hg w_2 hbox hb; have n0_ := Aside0.mk (blk_below (g := gb1) BKgb1.out hb); have n1_ := Aside0.mk (Nat.lt_of_lt_of_le GUgb1.out hb.size); have n2_ := Aside0.mk (below_step HB.out hb); have n3_ := Aside0.mk (hbox); have n4_ := Aside0.mk (blk_lt hbox); have n5_ := Aside0.mk (by rw [hg]; exact below_size HB.out : w.heap.size ≤ gb2); have n6_ := Aside0.mk (by have := GUgb1.out; rw [← hg] at this; omega : gb1 ≠ gb2); have n7_ := Aside0.mk (by have := GUgb1.out; rw [← hg] at this; omega : gb2 ≠ gb1); clear BKgb1; clear GUgb1; clear HB; have BKgb1 := n0_; have GUgb1 := n1_; have HB := n2_; have BKgb2 := n3_; have GUgb2 := n4_; have GEgb2 := n5_; have NBgb1_gb2 := n6_; have NBgb2_gb1 := n7_; clear n0_ n1_ n2_ n3_ n4_ n5_ n6_ n7_; clear hb hbox hg; (try clear hczgb1_0); (try clear hfzgb1_0); (try clear hczgb1_1); (try clear hfzgb1_1); (try clear hczgb2_0); (try clear hfzgb2_0); (try clear hczgb2_1); (try clear hfzgb2_1); have hczgb1_0 : w_2.cell? ⟨gb1, 0, none⟩ = some (.int .i64 a0_0) := (blk_cell BKgb1.out 0).trans rfl; have hfzgb1_0 := blk_frozen BKgb1.out 0; have hczgb1_1 : w_2.cell? ⟨gb1, 1, none⟩ = some (.slice A0_1 l0_1.length c0_1) := (blk_cell BKgb1.out 1).trans rfl; have hfzgb1_1 := blk_frozen BKgb1.out 1; have hczgb2_0 : w_2.cell? ⟨gb2, 0, none⟩ = some (.int .i64 a1_0) := (blk_cell BKgb2.out 0).trans rfl; have hfzgb2_0 := blk_frozen BKgb2.out 0; have hczgb2_1 : w_2.cell? ⟨gb2, 1, none⟩ = some (.slice A1_1 l1_1.length c1_1) := (blk_cell BKgb2.out 1).trans rfl; have hfzgb2_1 := blk_frozen BKgb2.out 1) | ((with_reducible refine gate_callee (f := 40) rfl ?_); refine goesL_ (some 25) rfl rfl Try.func40 (by kernel_rfl) rfl #[.agg #[.int .i64 a0_0, .slice A0_1 l0_1.length c0_1], .int .i64 1048576] rfl (by (try simp only [List.map_toArray, List.map_cons, List.map_nil]); first | done | rfl) ?_; (with_reducible refine (laws_szSystem.calls a0_0 _ _ l0_1 1048576 t3 _ ?side1 ?side2 E2.out).mono ?_); (case side1 => exact Kd.C_below HR0_1.out HB.out); (case side2 => exact HC0_1.out); rintro e w_3 ⟨rfl, hb⟩; refine ⟨_, rfl, ?_⟩; have n0_ := Aside0.mk (blk_below (g := gb1) BKgb1.out hb); have n1_ := Aside0.mk (blk_below (g := gb2) BKgb2.out hb); have n2_ := Aside0.mk (Nat.lt_of_lt_of_le GUgb1.out hb.size); have n3_ := Aside0.mk (Nat.lt_of_lt_of_le GUgb2.out hb.size); have n4_ := Aside0.mk (below_step HB.out hb); clear BKgb1; clear BKgb2; clear GUgb1; clear GUgb2; clear HB; have BKgb1 := n0_; have BKgb2 := n1_; have GUgb1 := n2_; have GUgb2 := n3_; have HB := n4_; clear n0_ n1_ n2_ n3_ n4_; clear hb; (try clear hczgb1_0); (try clear hfzgb1_0); (try clear hczgb1_1); (try clear hfzgb1_1); (try clear hczgb2_0); (try clear hfzgb2_0); (try clear hczgb2_1); (try clear hfzgb2_1); have hczgb1_0 : w_3.cell? ⟨gb1, 0, none⟩ = some (.int .i64 a0_0) := (blk_cell BKgb1.out 0).trans rfl; have hfzgb1_0 := blk_frozen BKgb1.out 0; have hczgb1_1 : w_3.cell? ⟨gb1, 1, none⟩ = some (.slice A0_1 l0_1.length c0_1) := (blk_cell BKgb1.out 1).trans rfl; have hfzgb1_1 := blk_frozen BKgb1.out 1; have hczgb2_0 : w_3.cell? ⟨gb2, 0, none⟩ = some (.int .i64 a1_0) := (blk_cell BKgb2.out 0).trans rfl; have hfzgb2_0 := blk_frozen BKgb2.out 0; have hczgb2_1 : w_3.cell? ⟨gb2, 1, none⟩ = some (.slice A1_1 l1_1.length c1_1) := (blk_cell BKgb2.out 1).trans rfl; have hfzgb2_1 := blk_frozen BKgb2.out 1) | ((with_reducible refine gate_callee (f := 41) rfl ?_); refine goesL_ (some 30) rfl rfl Try.func41 (by kernel_rfl) rfl #[.agg #[.int .i64 a1_0, .slice A1_1 l1_1.length c1_1], .int .i64 t3] rfl (by (try simp only [List.map_toArray, List.map_cons, List.map_nil]); first | done | rfl) ?_; (with_reducible refine (laws_szValues.calls a1_0 _ _ l1_1 t3 t4 _ ?side1 ?side2 E4.out).mono ?_); (case side1 => exact Kd.C_below HR1_1.out HB.out); (case side2 => exact HC1_1.out); rintro e w_4 ⟨rfl, hb⟩; refine ⟨_, rfl, ?_⟩; have n0_ := Aside0.mk (blk_below (g := gb1) BKgb1.out hb); have n1_ := Aside0.mk (blk_below (g := gb2) BKgb2.out hb); have n2_ := Aside0.mk (Nat.lt_of_lt_of_le GUgb1.out hb.size); have n3_ := Aside0.mk (Nat.lt_of_lt_of_le GUgb2.out hb.size); have n4_ := Aside0.mk (below_step HB.out hb); clear BKgb1; clear BKgb2; clear GUgb1; clear GUgb2; clear HB; have BKgb1 := n0_; have BKgb2 := n1_; have GUgb1 := n2_; have GUgb2 := n3_; have HB := n4_; clear n0_ n1_ n2_ n3_ n4_; clear hb; (try clear hczgb1_0); (try clear hfzgb1_0); (try clear hczgb1_1); (try clear hfzgb1_1); (try clear hczgb2_0); (try clear hfzgb2_0); (try clear hczgb2_1); (try clear hfzgb2_1); have hczgb1_0 : w_4.cell? ⟨gb1, 0, none⟩ = some (.int .i64 a0_0) := (blk_cell BKgb1.out 0).trans rfl; have hfzgb1_0 := blk_frozen BKgb1.out 0; have hczgb1_1 : w_4.cell? ⟨gb1, 1, none⟩ = some (.slice A0_1 l0_1.length c0_1) := (blk_cell BKgb1.out 1).trans rfl; have hfzgb1_1 := blk_frozen BKgb1.out 1; have hczgb2_0 : w_4.cell? ⟨gb2, 0, none⟩ = some (.int .i64 a1_0) := (blk_cell BKgb2.out 0).trans rfl; have hfzgb2_0 := blk_frozen BKgb2.out 0; have hczgb2_1 : w_4.cell? ⟨gb2, 1, none⟩ = some (.slice A1_1 l1_1.length c1_1) := (blk_cell BKgb2.out 1).trans rfl; have hfzgb2_1 := blk_frozen BKgb2.out 1))
 have n0_ := Aside0.mk (blk_drew BKgb1.out)
 have n1_ := Aside0.mk (blk_drew BKgb2.out)
 have n2_ := Aside0.mk (show gb1 < w_4.drew.heap.size from GUgb1.out)
 have n3_ := Aside0.mk (show gb2 < w_4.drew.heap.size from GUgb2.out)
 have n4_ := Aside0.mk (below_drew1 HB.out)
 clear BKgb1
 clear BKgb2
 clear GUgb1
 clear GUgb2
 clear HB
 have BKgb1 := n0_
 have BKgb2 := n1_
 have GUgb1 := n2_
 have GUgb2 := n3_
 have HB := n4_
 clear n0_ n1_ n2_ n3_ n4_
 (try clear hczgb1_0); (try clear hfzgb1_0)
 (try clear hczgb1_1); (try clear hfzgb1_1)
 (try clear hczgb2_0); (try clear hfzgb2_0)
 (try clear hczgb2_1); (try clear hfzgb2_1)
 refine start_ (n := 12) (S := fun w' => w'.cell? ⟨gb1, 0, none⟩ = some (.int .i64 a0_0) ∧ w'.cell? ⟨gb1, 1, none⟩ = some (.slice A0_1 l0_1.length c0_1) ∧ w'.cell? ⟨gb2, 0, none⟩ = some (.int .i64 a1_0) ∧ w'.cell? ⟨gb2, 1, none⟩ = some (.slice A1_1 l1_1.length c1_1)) (ds := []) #[false, false, false, false, false, false, false, false, false, false, false, false] (by kernel_rfl) rfl rfl ⟨(blk_cell BKgb1.out 0).trans rfl, (blk_cell BKgb1.out 1).trans rfl, (blk_cell BKgb2.out 0).trans rfl, (blk_cell BKgb2.out 1).trans rfl⟩ (fun hHeld => ?_)
 generalize w_4.drew = w_5 at BKgb1 BKgb2 GUgb1 GUgb2 HB hHeld ⊢
 refine take_ (i := 0) (N := some 34) (v := ?_) (a' := ?_) #[true, false, false, false, false, false, false, false, false, false, false, false] rfl rfl (by kernel_rfl) (fun _ _ _ h => h) (Or.inl ⟨by rfl, ?_⟩) hHeld ?_ ?_
 rotate_left
 ·rintro w' ⟨s0, s1, s2, s3⟩
  go_simp
  with_reducible rfl
 rotate_left
 ·simp only [Act.put, List.setIfInBounds_toArray, List.set_cons_zero, List.set_cons_succ, i64_w, i32_w]
  rfl
 refine take_ (i := 2) (N := some 36) (v := ?_) (a' := ?_) #[true, false, true, false, false, false, false, false, false, false, false, false] rfl rfl (by kernel_rfl) (fun _ _ _ h => h) (Or.inl ⟨by rfl, ?_⟩) hHeld ?_ ?_
 rotate_left
 ·rintro w' ⟨s0, s1, s2, s3⟩
  go_simp
  with_reducible rfl
 rotate_left
 ·simp only [Act.put, List.setIfInBounds_toArray, List.set_cons_zero, List.set_cons_succ, i64_w, i32_w]
  rfl
 refine pure_ (i := 4) (N := some 38) (v := ?_) (a' := ?_) #[true, false, true, false, true, false, false, false, false, false, false, false] rfl rfl (by kernel_rfl) (fun _ _ _ h => h) (Or.inl ⟨by rfl, ?_⟩) ?_ ?_
 rotate_left
 ·intro w'
  go_simp
  with_reducible rfl
 rotate_left
 ·simp only [Act.put, List.setIfInBounds_toArray, List.set_cons_zero, List.set_cons_succ, i64_w, i32_w]
  rfl
 refine one_ (i := 1) (N := some 35) #[true, true, true, false, true, false, false, false, false, false, false, false] rfl rfl (by kernel_rfl) (by decide) (fun K hK => ?_)
 refine goes_ Try.func43 (by kernel_rfl) rfl #[.agg #[.int .i64 a0_0, .slice A0_1 l0_1.length c0_1]] (by rfl) rfl rfl (by (try simp only [List.map_toArray, List.map_cons, List.map_nil]); first | done | rfl) ?_
 (with_reducible refine (laws_toSystem.calls k a0_0 _ _ l0_1 t5 t6 _ ?side1 ?side2 E6.out).mono ?_)
 (case side1 => exact Kd.C_below HR0_1.out HB.out)
 (case side2 => exact HC0_1.out)
 rintro e w_6 ⟨vR7, rfl, hoR7, hb⟩
 refine ⟨_, rfl, ?_⟩
 obtain ⟨loR7, hloR7⟩ : ∃ n_ : Nat, n_ = w_5.heap.size := ⟨_, rfl⟩
 obtain ⟨hiR7, hhiR7⟩ : ∃ n_ : Nat, n_ = w_6.heap.size := ⟨_, rfl⟩
 have n0_ := Aside0.mk (blk_below (g := gb1) BKgb1.out hb)
 have n1_ := Aside0.mk (blk_below (g := gb2) BKgb2.out hb)
 have n2_ := Aside0.mk (Nat.lt_of_lt_of_le GUgb1.out hb.size)
 have n3_ := Aside0.mk (Nat.lt_of_lt_of_le GUgb2.out hb.size)
 have n4_ := Aside0.mk (below_step HB.out hb)
 have n5_ := Aside0.mk (Kd.R_lower (Kd.R_mono (ok' := fun k_ => loR7 ≤ k_ ∧ k_ < hiR7) (Kd.R_bound hoR7) (fun k_ hk_ => ⟨by rw [hloR7]; exact hk_.2.1, by rw [hhiR7]; exact hk_.2.2.1⟩)) (below_size HB.out))
 have n6_ := Aside0.mk (by rw [hhiR7]; exact Nat.le_refl _ : hiR7 ≤ w_6.heap.size)
 have n7_ := Aside0.mk (fun k_ hk_ => by have := GUgb1.out; rw [← hloR7] at this; omega : ∀ k_, loR7 ≤ k_ ∧ k_ < hiR7 → k_ ≠ gb1)
 have n8_ := Aside0.mk (fun k_ hk_ => by have := GUgb2.out; rw [← hloR7] at this; omega : ∀ k_, loR7 ≤ k_ ∧ k_ < hiR7 → k_ ≠ gb2)
 clear BKgb1
 clear BKgb2
 clear GUgb1
 clear GUgb2
 clear HB
 have BKgb1 := n0_
 have BKgb2 := n1_
 have GUgb1 := n2_
 have GUgb2 := n3_
 have HB := n4_
 have HOR7 := n5_
 have UPR7 := n6_
 have NER7_gb1 := n7_
 have NER7_gb2 := n8_
 clear n0_ n1_ n2_ n3_ n4_ n5_ n6_ n7_ n8_
 clear hb
 clear hoR7 hloR7 hhiR7
 obtain ⟨AR7, cR7, eqR7⟩ := Kd.R_slice HOR7.out
 subst eqR7
 refine hK.out _ _ ⟨(blk_cell BKgb1.out 0).trans rfl, (blk_cell BKgb1.out 1).trans rfl, (blk_cell BKgb2.out 0).trans rfl, (blk_cell BKgb2.out 1).trans rfl⟩ (fun hHeld => ?_)
 clear hK K
 refine norm_ (a' := ?_) ?_ ?_
 rotate_left
 ·show Act.put _ (some 35) _ = _
  simp only [Act.put, List.setIfInBounds_toArray, List.set_cons_zero, List.set_cons_succ, i64_w, i32_w]
  rfl
 refine one_ (i := 3) (N := some 37) #[true, true, true, true, true, false, false, false, false, false, false, false] rfl rfl (by kernel_rfl) (by decide) (fun K hK => ?_)
 refine goes_ Try.func44 (by kernel_rfl) rfl #[.agg #[.int .i64 a1_0, .slice A1_1 l1_1.length c1_1]] (by rfl) rfl rfl (by (try simp only [List.map_toArray, List.map_cons, List.map_nil]); first | done | rfl) ?_
 (with_reducible refine (laws_toValues.calls k a1_0 _ _ l1_1 t8 t9 _ ?side1 ?side2 E7.out).mono ?_)
 (case side1 => exact Kd.C_below HR1_1.out HB.out)
 (case side2 => exact HC1_1.out)
 rintro e w_7 ⟨vR10, rfl, hoR10, hb⟩
 refine ⟨_, rfl, ?_⟩
 obtain ⟨loR10, hloR10⟩ : ∃ n_ : Nat, n_ = w_6.heap.size := ⟨_, rfl⟩
 obtain ⟨hiR10, hhiR10⟩ : ∃ n_ : Nat, n_ = w_7.heap.size := ⟨_, rfl⟩
 have n0_ := Aside0.mk (Kd.R_below HOR7.out hb)
 have n1_ := Aside0.mk (Nat.le_trans UPR7.out hb.size)
 have n2_ := Aside0.mk (blk_below (g := gb1) BKgb1.out hb)
 have n3_ := Aside0.mk (blk_below (g := gb2) BKgb2.out hb)
 have n4_ := Aside0.mk (Nat.lt_of_lt_of_le GUgb1.out hb.size)
 have n5_ := Aside0.mk (Nat.lt_of_lt_of_le GUgb2.out hb.size)
 have n6_ := Aside0.mk (below_step HB.out hb)
 have n7_ := Aside0.mk (Kd.R_lower (Kd.R_mono (ok' := fun k_ => loR10 ≤ k_ ∧ k_ < hiR10) (Kd.R_bound hoR10) (fun k_ hk_ => ⟨by rw [hloR10]; exact hk_.2.1, by rw [hhiR10]; exact hk_.2.2.1⟩)) (below_size HB.out))
 have n8_ := Aside0.mk (by rw [hhiR10]; exact Nat.le_refl _ : hiR10 ≤ w_7.heap.size)
 have n9_ := Aside0.mk (fun k_ h1_ h2_ => by have := UPR7.out; rw [← hloR10] at this; omega : ∀ k_, loR7 ≤ k_ ∧ k_ < hiR7 → ¬ (loR10 ≤ k_ ∧ k_ < hiR10))
 have n10_ := Aside0.mk (fun k_ h1_ h2_ => by have := UPR7.out; rw [← hloR10] at this; omega : ∀ k_, loR10 ≤ k_ ∧ k_ < hiR10 → ¬ (loR7 ≤ k_ ∧ k_ < hiR7))
 have n11_ := Aside0.mk (fun k_ hk_ => by have := GUgb1.out; rw [← hloR10] at this; omega : ∀ k_, loR10 ≤ k_ ∧ k_ < hiR10 → k_ ≠ gb1)
 have n12_ := Aside0.mk (fun k_ hk_ => by have := GUgb2.out; rw [← hloR10] at this; omega : ∀ k_, loR10 ≤ k_ ∧ k_ < hiR10 → k_ ≠ gb2)
 clear HOR7
 clear UPR7
 clear BKgb1
 clear BKgb2
 clear GUgb1
 clear GUgb2
 clear HB
 have HOR7 := n0_
 have UPR7 := n1_
 have BKgb1 := n2_
 have BKgb2 := n3_
 have GUgb1 := n4_
 have GUgb2 := n5_
 have HB := n6_
 have HOR10 := n7_
 have UPR10 := n8_
 have NRR7_R10 := n9_
 have NRR10_R7 := n10_
 have NER10_gb1 := n11_
 have NER10_gb2 := n12_
 clear n0_ n1_ n2_ n3_ n4_ n5_ n6_ n7_ n8_ n9_ n10_ n11_ n12_
 clear hb
 clear hoR10 hloR10 hhiR10
 obtain ⟨AR10, cR10, eqR10⟩ := Kd.R_slice HOR10.out
 subst eqR10
 refine hK.out _ _ ⟨(blk_cell BKgb1.out 0).trans rfl, (blk_cell BKgb1.out 1).trans rfl, (blk_cell BKgb2.out 0).trans rfl, (blk_cell BKgb2.out 1).trans rfl⟩ (fun hHeld => ?_)
 clear hK K
 refine norm_ (a' := ?_) ?_ ?_
 rotate_left
 ·show Act.put _ (some 37) _ = _
  simp only [Act.put, List.setIfInBounds_toArray, List.set_cons_zero, List.set_cons_succ, i64_w, i32_w]
  rfl
 refine one_ (i := 5) (N := some 39) #[true, true, true, true, true, true, false, false, false, false, false, false] rfl rfl (by kernel_rfl) (by decide) (fun K hK => ?_)
 refine goes_ Try.func35 (by kernel_rfl) rfl #[.slice A2 l2.length c2] (by rfl) rfl rfl (by (try simp only [List.map_toArray, List.map_cons, List.map_nil]); first | done | rfl) ?_
 (with_reducible refine (laws_toInt64S.calls k _ _ l2 t11 _ ?side1 ?side2 E8.out).mono ?_)
 (case side1 => exact Kd.C_below HR2.out HB.out)
 (case side2 => exact HC2.out)
 rintro e w_8 ⟨vR12, rfl, hoR12, hb⟩
 refine ⟨_, rfl, ?_⟩
 obtain ⟨loR12, hloR12⟩ : ∃ n_ : Nat, n_ = w_7.heap.size := ⟨_, rfl⟩
 obtain ⟨hiR12, hhiR12⟩ : ∃ n_ : Nat, n_ = w_8.heap.size := ⟨_, rfl⟩
 have n0_ := Aside0.mk (Kd.R_below HOR7.out hb)
 have n1_ := Aside0.mk (Kd.R_below HOR10.out hb)
 have n2_ := Aside0.mk (Nat.le_trans UPR7.out hb.size)
 have n3_ := Aside0.mk (Nat.le_trans UPR10.out hb.size)
 have n4_ := Aside0.mk (blk_below (g := gb1) BKgb1.out hb)
 have n5_ := Aside0.mk (blk_below (g := gb2) BKgb2.out hb)
 have n6_ := Aside0.mk (Nat.lt_of_lt_of_le GUgb1.out hb.size)
 have n7_ := Aside0.mk (Nat.lt_of_lt_of_le GUgb2.out hb.size)
 have n8_ := Aside0.mk (below_step HB.out hb)
 have n9_ := Aside0.mk (Kd.R_lower (Kd.R_mono (ok' := fun k_ => loR12 ≤ k_ ∧ k_ < hiR12) (Kd.R_bound hoR12) (fun k_ hk_ => ⟨by rw [hloR12]; exact hk_.2.1, by rw [hhiR12]; exact hk_.2.2.1⟩)) (below_size HB.out))
 have n10_ := Aside0.mk (by rw [hhiR12]; exact Nat.le_refl _ : hiR12 ≤ w_8.heap.size)
 have n11_ := Aside0.mk (fun k_ h1_ h2_ => by have := UPR7.out; rw [← hloR12] at this; omega : ∀ k_, loR7 ≤ k_ ∧ k_ < hiR7 → ¬ (loR12 ≤ k_ ∧ k_ < hiR12))
 have n12_ := Aside0.mk (fun k_ h1_ h2_ => by have := UPR7.out; rw [← hloR12] at this; omega : ∀ k_, loR12 ≤ k_ ∧ k_ < hiR12 → ¬ (loR7 ≤ k_ ∧ k_ < hiR7))
 have n13_ := Aside0.mk (fun k_ h1_ h2_ => by have := UPR10.out; rw [← hloR12] at this; omega : ∀ k_, loR10 ≤ k_ ∧ k_ < hiR10 → ¬ (loR12 ≤ k_ ∧ k_ < hiR12))
 have n14_ := Aside0.mk (fun k_ h1_ h2_ => by have := UPR10.out; rw [← hloR12] at this; omega : ∀ k_, loR12 ≤ k_ ∧ k_ < hiR12 → ¬ (loR10 ≤ k_ ∧ k_ < hiR10))
 have n15_ := Aside0.mk (fun k_ hk_ => by have := GUgb1.out; rw [← hloR12] at this; omega : ∀ k_, loR12 ≤ k_ ∧ k_ < hiR12 → k_ ≠ gb1)
 have n16_ := Aside0.mk (fun k_ hk_ => by have := GUgb2.out; rw [← hloR12] at this; omega : ∀ k_, loR12 ≤ k_ ∧ k_ < hiR12 → k_ ≠ gb2)
 clear HOR7
 clear HOR10
 clear UPR7
 clear UPR10
 clear BKgb1
 clear BKgb2
 clear GUgb1
 clear GUgb2
 clear HB
 have HOR7 := n0_
 have HOR10 := n1_
 have UPR7 := n2_
 have UPR10 := n3_
 have BKgb1 := n4_
 have BKgb2 := n5_
 have GUgb1 := n6_
 have GUgb2 := n7_
 have HB := n8_
 have HOR12 := n9_
 have UPR12 := n10_
 have NRR7_R12 := n11_
 have NRR12_R7 := n12_
 have NRR10_R12 := n13_
 have NRR12_R10 := n14_
 have NER12_gb1 := n15_
 have NER12_gb2 := n16_
 clear n0_ n1_ n2_ n3_ n4_ n5_ n6_ n7_ n8_ n9_ n10_ n11_ n12_ n13_ n14_ n15_ n16_
 clear hb
 clear hoR12 hloR12 hhiR12
 obtain ⟨AR12, cR12, eqR12⟩ := Kd.R_slice HOR12.out
 subst eqR12
 refine hK.out _ _ ⟨(blk_cell BKgb1.out 0).trans rfl, (blk_cell BKgb1.out 1).trans rfl, (blk_cell BKgb2.out 0).trans rfl, (blk_cell BKgb2.out 1).trans rfl⟩ (fun hHeld => ?_)
 clear hK K
 refine norm_ (a' := ?_) ?_ ?_
 rotate_left
 ·show Act.put _ (some 39) _ = _
  simp only [Act.put, List.setIfInBounds_toArray, List.set_cons_zero, List.set_cons_succ, i64_w, i32_w]
  rfl
 refine one_ (i := 6) (N := some 40) #[true, true, true, true, true, true, true, false, false, false, false, false] rfl rfl (by kernel_rfl) (by decide) (fun K hK => ?_)
 refine goes_ Try.func42 (by kernel_rfl) rfl #[.agg #[.int .i64 t5, .slice AR7 t6.length cR7], .agg #[.int .i64 t8, .slice AR10 t9.length cR10], .slice AR12 t11.length cR12] (by rfl) rfl rfl (by (try simp only [List.map_toArray, List.map_cons, List.map_nil]); first | done | rfl) ?_
 (with_reducible refine (spec_SetErrors.calls k t5 _ _ t6 t8 _ _ t9 _ _ t11 t13 t60 _ ?side1 ?side2 ?side3 ?side4 ?side5 ?side6 E9.out).mono ?_)
 (case side1 => exact (Kd.R_reads' HOR7.out).2.2)
 (case side2 => exact (Kd.R_reads' HOR7.out).2.1)
 (case side3 => exact (Kd.R_reads' HOR10.out).2.2)
 (case side4 => exact (Kd.R_reads' HOR10.out).2.1)
 (case side5 => exact (Kd.R_reads' HOR12.out).2.2)
 (case side6 => exact (Kd.R_reads' HOR12.out).2.1)
 rintro e w_9 ⟨vR15, rfl, hoR15, hb⟩
 refine ⟨_, rfl, ?_⟩
 obtain ⟨loR15, hloR15⟩ : ∃ n_ : Nat, n_ = w_8.heap.size := ⟨_, rfl⟩
 obtain ⟨hiR15, hhiR15⟩ : ∃ n_ : Nat, n_ = w_9.heap.size := ⟨_, rfl⟩
 have n0_ := Aside0.mk (Kd.R_below HOR7.out hb)
 have n1_ := Aside0.mk (Kd.R_below HOR10.out hb)
 have n2_ := Aside0.mk (Kd.R_below HOR12.out hb)
 have n3_ := Aside0.mk (Nat.le_trans UPR7.out hb.size)
 have n4_ := Aside0.mk (Nat.le_trans UPR10.out hb.size)
 have n5_ := Aside0.mk (Nat.le_trans UPR12.out hb.size)
 have n6_ := Aside0.mk (blk_below (g := gb1) BKgb1.out hb)
 have n7_ := Aside0.mk (blk_below (g := gb2) BKgb2.out hb)
 have n8_ := Aside0.mk (Nat.lt_of_lt_of_le GUgb1.out hb.size)
 have n9_ := Aside0.mk (Nat.lt_of_lt_of_le GUgb2.out hb.size)
 have n10_ := Aside0.mk (below_step HB.out hb)
 have n11_ := Aside0.mk (Kd.R_lower (Kd.R_mono (ok' := fun k_ => loR15 ≤ k_ ∧ k_ < hiR15) (Kd.R_bound hoR15) (fun k_ hk_ => ⟨by rw [hloR15]; exact hk_.2.1, by rw [hhiR15]; exact hk_.2.2.1⟩)) (below_size HB.out))
 have n12_ := Aside0.mk (by rw [hhiR15]; exact Nat.le_refl _ : hiR15 ≤ w_9.heap.size)
 have n13_ := Aside0.mk (fun k_ h1_ h2_ => by have := UPR7.out; rw [← hloR15] at this; omega : ∀ k_, loR7 ≤ k_ ∧ k_ < hiR7 → ¬ (loR15 ≤ k_ ∧ k_ < hiR15))
 have n14_ := Aside0.mk (fun k_ h1_ h2_ => by have := UPR7.out; rw [← hloR15] at this; omega : ∀ k_, loR15 ≤ k_ ∧ k_ < hiR15 → ¬ (loR7 ≤ k_ ∧ k_ < hiR7))
 have n15_ := Aside0.mk (fun k_ h1_ h2_ => by have := UPR10.out; rw [← hloR15] at this; omega : ∀ k_, loR10 ≤ k_ ∧ k_ < hiR10 → ¬ (loR15 ≤ k_ ∧ k_ < hiR15))
 have n16_ := Aside0.mk (fun k_ h1_ h2_ => by have := UPR10.out; rw [← hloR15] at this; omega : ∀ k_, loR15 ≤ k_ ∧ k_ < hiR15 → ¬ (loR10 ≤ k_ ∧ k_ < hiR10))
 have n17_ := Aside0.mk (fun k_ h1_ h2_ => by have := UPR12.out; rw [← hloR15] at this; omega : ∀ k_, loR12 ≤ k_ ∧ k_ < hiR12 → ¬ (loR15 ≤ k_ ∧ k_ < hiR15))
 have n18_ := Aside0.mk (fun k_ h1_ h2_ => by have := UPR12.out; rw [← hloR15] at this; omega : ∀ k_, loR15 ≤ k_ ∧ k_ < hiR15 → ¬ (loR12 ≤ k_ ∧ k_ < hiR12))
 have n19_ := Aside0.mk (fun k_ hk_ => by have := GUgb1.out; rw [← hloR15] at this; omega : ∀ k_, loR15 ≤ k_ ∧ k_ < hiR15 → k_ ≠ gb1)
 have n20_ := Aside0.mk (fun k_ hk_ => by have := GUgb2.out; rw [← hloR15] at this; omega : ∀ k_, loR15 ≤ k_ ∧ k_ < hiR15 → k_ ≠ gb2)
 clear HOR7
 clear HOR10
 clear HOR12
 clear UPR7
 clear UPR10
 clear UPR12
 clear BKgb1
 clear BKgb2
 clear GUgb1
 clear GUgb2
 clear HB
 have HOR7 := n0_
 have HOR10 := n1_
 have HOR12 := n2_
 have UPR7 := n3_
 have UPR10 := n4_
 have UPR12 := n5_
 have BKgb1 := n6_
 have BKgb2 := n7_
 have GUgb1 := n8_
 have GUgb2 := n9_
 have HB := n10_
 have HOR15 := n11_
 have UPR15 := n12_
 have NRR7_R15 := n13_
 have NRR15_R7 := n14_
 have NRR10_R15 := n15_
 have NRR15_R10 := n16_
 have NRR12_R15 := n17_
 have NRR15_R12 := n18_
 have NER15_gb1 := n19_
 have NER15_gb2 := n20_
 clear n0_ n1_ n2_ n3_ n4_ n5_ n6_ n7_ n8_ n9_ n10_ n11_ n12_ n13_ n14_ n15_ n16_ n17_ n18_ n19_ n20_
 clear hb
 clear hoR15 hloR15 hhiR15
 obtain ⟨AR15, cR15, eqR15⟩ := Kd.R_slice HOR15.out
 subst eqR15
 refine hK.out _ _ ⟨(blk_cell BKgb1.out 0).trans rfl, (blk_cell BKgb1.out 1).trans rfl, (blk_cell BKgb2.out 0).trans rfl, (blk_cell BKgb2.out 1).trans rfl⟩ (fun hHeld => ?_)
 clear hK K
 refine norm_ (a' := ?_) ?_ ?_
 rotate_left
 ·show Act.put _ (some 40) _ = _
  simp only [Act.put, List.setIfInBounds_toArray, List.set_cons_zero, List.set_cons_succ, i64_w, i32_w]
  rfl
 refine pure_ (i := 7) (N := some 33) (v := ?_) (a' := ?_) #[true, true, true, true, true, true, true, true, false, false, false, false] rfl rfl (by kernel_rfl) (fun _ _ _ h => h) (Or.inl ⟨by rfl, ?_⟩) ?_ ?_
 rotate_left
 ·intro w'
  go_simp
  with_reducible rfl
 rotate_left
 ·simp only [Act.put, List.setIfInBounds_toArray, List.set_cons_zero, List.set_cons_succ, i64_w, i32_w]
  rfl
 refine pure_ (i := 8) (N := some 41) (v := ?_) (a' := ?_) #[true, true, true, true, true, true, true, true, true, false, false, false] rfl rfl (by kernel_rfl) (fun _ _ _ h => h) (Or.inl ⟨by rfl, ?_⟩) ?_ ?_
 rotate_left
 ·intro w'
  go_simp
  with_reducible rfl
 rotate_left
 ·simp only [Act.put, List.setIfInBounds_toArray, List.set_cons_zero, List.set_cons_succ, i64_w, i32_w]
  rfl
 refine pure_ (i := 9) (N := some 42) (v := ?_) (a' := ?_) #[true, true, true, true, true, true, true, true, true, true, false, false] rfl rfl (by kernel_rfl) (fun _ _ _ h => h) (Or.inl ⟨by rfl, ?_⟩) ?_ ?_
 rotate_left
 ·intro w'
  go_simp
  with_reducible rfl
 rotate_left
 ·simp only [Act.put, List.setIfInBounds_toArray, List.set_cons_zero, List.set_cons_succ, i64_w, i32_w]
  rfl
 refine pure_ (i := 10) (N := some 8) (v := ?_) (a' := ?_) #[true, true, true, true, true, true, true, true, true, true, true, false] rfl rfl (by kernel_rfl) (fun _ _ _ h => h) (Or.inl ⟨by rfl, ?_⟩) ?_ ?_
 rotate_left
 ·intro w'
  go_simp
  with_reducible rfl
 rotate_left
 ·simp only [Act.put, List.setIfInBounds_toArray, List.set_cons_zero, List.set_cons_succ, i64_w, i32_w]
  rfl
 refine pure_ (i := 11) (N := some 9) (v := ?_) (a' := ?_) #[true, true, true, true, true, true, true, true, true, true, true, true] rfl rfl (by kernel_rfl) (fun _ _ _ h => h) (Or.inl ⟨by rfl, ?_⟩) ?_ ?_
 rotate_left
 ·intro w'
  go_simp
  with_reducible rfl
 rotate_left
 ·simp only [Act.put, List.setIfInBounds_toArray, List.set_cons_zero, List.set_cons_succ, i64_w, i32_w]
  rfl
 refine done_ (by kernel_rfl) ?_
 (try clear hczgb1_0)
 (try clear hfzgb1_0)
 (try clear hczgb1_1)
 (try clear hfzgb1_1)
 (try clear hczgb2_0)
 (try clear hfzgb2_0)
 (try clear hczgb2_1)
 (try clear hfzgb2_1)
 have hczgb1_0 : w_9.cell? ⟨gb1, 0, none⟩ = some (.int .i64 a0_0) := (blk_cell BKgb1.out 0).trans rfl
 have hfzgb1_0 := blk_frozen BKgb1.out 0
 have hczgb1_1 : w_9.cell? ⟨gb1, 1, none⟩ = some (.slice A0_1 l0_1.length c0_1) := (blk_cell BKgb1.out 1).trans rfl
 have hfzgb1_1 := blk_frozen BKgb1.out 1
 have hczgb2_0 : w_9.cell? ⟨gb2, 0, none⟩ = some (.int .i64 a1_0) := (blk_cell BKgb2.out 0).trans rfl
 have hfzgb2_0 := blk_frozen BKgb2.out 0
 have hczgb2_1 : w_9.cell? ⟨gb2, 1, none⟩ = some (.slice A1_1 l1_1.length c1_1) := (blk_cell BKgb2.out 1).trans rfl
 have hfzgb2_1 := blk_frozen BKgb2.out 1
 go_wp2_with (first | ((with_reducible refine gate_callee (f := 43) rfl ?_); refine goesL_ (some 44) rfl rfl Try.func43 (by kernel_rfl) rfl #[.agg #[.int .i64 a0_0, .slice A0_1 l0_1.length c0_1]] rfl (by (try simp only [List.map_toArray, List.map_cons, List.map_nil]); first | done | rfl) ?_; have HWM := HB; have HBM := Aside0.mk (Below.refl w_9.heap.size w_9); (with_reducible refine (laws_toSystem.calls k a0_0 _ _ l0_1 t16 t17 _ ?side1 ?side2 E10.out).mono ?_); (case side1 => exact Kd.C_below HR0_1.out HB.out); (case side2 => exact HC0_1.out); rintro e w_10 ⟨vR18, rfl, hoR18, hb⟩; refine ⟨_, rfl, ?_⟩; obtain ⟨loR18, hloR18⟩ : ∃ n_ : Nat, n_ = w_9.heap.size := ⟨_, rfl⟩; obtain ⟨hiR18, hhiR18⟩ : ∃ n_ : Nat, n_ = w_10.heap.size := ⟨_, rfl⟩; have n0_ := Aside0.mk (Kd.R_below HOR7.out hb); have n1_ := Aside0.mk (Kd.R_below HOR10.out hb); have n2_ := Aside0.mk (Kd.R_below HOR12.out hb); have n3_ := Aside0.mk (Kd.R_below HOR15.out hb); have n4_ := Aside0.mk (Nat.le_trans UPR7.out hb.size); have n5_ := Aside0.mk (Nat.le_trans UPR10.out hb.size); have n6_ := Aside0.mk (Nat.le_trans UPR12.out hb.size); have n7_ := Aside0.mk (Nat.le_trans UPR15.out hb.size); have n8_ := Aside0.mk (blk_below (g := gb1) BKgb1.out hb); have n9_ := Aside0.mk (blk_below (g := gb2) BKgb2.out hb); have n10_ := Aside0.mk (Nat.lt_of_lt_of_le GUgb1.out hb.size); have n11_ := Aside0.mk (Nat.lt_of_lt_of_le GUgb2.out hb.size); have n12_ := Aside0.mk (below_step HB.out hb); have n13_ := Aside0.mk (below_step HBM.out hb); have n14_ := Aside0.mk (Kd.R_lower (Kd.R_mono (ok' := fun k_ => loR18 ≤ k_ ∧ k_ < hiR18) (Kd.R_bound hoR18) (fun k_ hk_ => ⟨by rw [hloR18]; exact hk_.2.1, by rw [hhiR18]; exact hk_.2.2.1⟩)) (below_size HBM.out)); have n15_ := Aside0.mk (by rw [hhiR18]; exact Nat.le_refl _ : hiR18 ≤ w_10.heap.size); have n16_ := Aside0.mk (fun k_ h1_ h2_ => by have := UPR7.out; rw [← hloR18] at this; omega : ∀ k_, loR7 ≤ k_ ∧ k_ < hiR7 → ¬ (loR18 ≤ k_ ∧ k_ < hiR18)); have n17_ := Aside0.mk (fun k_ h1_ h2_ => by have := UPR7.out; rw [← hloR18] at this; omega : ∀ k_, loR18 ≤ k_ ∧ k_ < hiR18 → ¬ (loR7 ≤ k_ ∧ k_ < hiR7)); have n18_ := Aside0.mk (fun k_ h1_ h2_ => by have := UPR10.out; rw [← hloR18] at this; omega : ∀ k_, loR10 ≤ k_ ∧ k_ < hiR10 → ¬ (loR18 ≤ k_ ∧ k_ < hiR18)); have n19_ := Aside0.mk (fun k_ h1_ h2_ => by have := UPR10.out; rw [← hloR18] at this; omega : ∀ k_, loR18 ≤ k_ ∧ k_ < hiR18 → ¬ (loR10 ≤ k_ ∧ k_ < hiR10)); have n20_ := Aside0.mk (fun k_ h1_ h2_ => by have := UPR12.out; rw [← hloR18] at this; omega : ∀ k_, loR12 ≤ k_ ∧ k_ < hiR12 → ¬ (loR18 ≤ k_ ∧ k_ < hiR18)); have n21_ := Aside0.mk (fun k_ h1_ h2_ => by have := UPR12.out; rw [← hloR18] at this; omega : ∀ k_, loR18 ≤ k_ ∧ k_ < hiR18 → ¬ (loR12 ≤ k_ ∧ k_ < hiR12)); have n22_ := Aside0.mk (fun k_ h1_ h2_ => by have := UPR15.out; rw [← hloR18] at this; omega : ∀ k_, loR15 ≤ k_ ∧ k_ < hiR15 → ¬ (loR18 ≤ k_ ∧ k_ < hiR18)); have n23_ := Aside0.mk (fun k_ h1_ h2_ => by have := UPR15.out; rw [← hloR18] at this; omega : ∀ k_, loR18 ≤ k_ ∧ k_ < hiR18 → ¬ (loR15 ≤ k_ ∧ k_ < hiR15)); have n24_ := Aside0.mk (fun k_ hk_ => by have := GUgb1.out; rw [← hloR18] at this; omega : ∀ k_, loR18 ≤ k_ ∧ k_ < hiR18 → k_ ≠ gb1); have n25_ := Aside0.mk (fun k_ hk_ => by have := GUgb2.out; rw [← hloR18] at this; omega : ∀ k_, loR18 ≤ k_ ∧ k_ < hiR18 → k_ ≠ gb2); clear HOR7; clear HOR10; clear HOR12; clear HOR15; clear UPR7; clear UPR10; clear UPR12; clear UPR15; clear BKgb1; clear BKgb2; clear GUgb1; clear GUgb2; clear HB; clear HBM; have HOR7 := n0_; have HOR10 := n1_; have HOR12 := n2_; have HOR15 := n3_; have UPR7 := n4_; have UPR10 := n5_; have UPR12 := n6_; have UPR15 := n7_; have BKgb1 := n8_; have BKgb2 := n9_; have GUgb1 := n10_; have GUgb2 := n11_; have HB := n12_; have HBM := n13_; have HOR18 := n14_; have UPR18 := n15_; have NRR7_R18 := n16_; have NRR18_R7 := n17_; have NRR10_R18 := n18_; have NRR18_R10 := n19_; have NRR12_R18 := n20_; have NRR18_R12 := n21_; have NRR15_R18 := n22_; have NRR18_R15 := n23_; have NER18_gb1 := n24_; have NER18_gb2 := n25_; clear n0_ n1_ n2_ n3_ n4_ n5_ n6_ n7_ n8_ n9_ n10_ n11_ n12_ n13_ n14_ n15_ n16_ n17_ n18_ n19_ n20_ n21_ n22_ n23_ n24_ n25_; clear hb; clear hoR18 hloR18 hhiR18; obtain ⟨AR18, cR18, eqR18⟩ := Kd.R_slice HOR18.out; subst eqR18; (try clear hczgb1_0); (try clear hfzgb1_0); (try clear hczgb1_1); (try clear hfzgb1_1); (try clear hczgb2_0); (try clear hfzgb2_0); (try clear hczgb2_1); (try clear hfzgb2_1); have hczgb1_0 : w_10.cell? ⟨gb1, 0, none⟩ = some (.int .i64 a0_0) := (blk_cell BKgb1.out 0).trans rfl; have hfzgb1_0 := blk_frozen BKgb1.out 0; have hczgb1_1 : w_10.cell? ⟨gb1, 1, none⟩ = some (.slice A0_1 l0_1.length c0_1) := (blk_cell BKgb1.out 1).trans rfl; have hfzgb1_1 := blk_frozen BKgb1.out 1; have hczgb2_0 : w_10.cell? ⟨gb2, 0, none⟩ = some (.int .i64 a1_0) := (blk_cell BKgb2.out 0).trans rfl; have hfzgb2_0 := blk_frozen BKgb2.out 0; have hczgb2_1 : w_10.cell? ⟨gb2, 1, none⟩ = some (.slice A1_1 l1_1.length c1_1) := (blk_cell BKgb2.out 1).trans rfl; have hfzgb2_1 := blk_frozen BKgb2.out 1) | ((with_reducible refine gate_dst (N := 10) rfl ?_); refine box_event ?hg (N := 10) ?hd (cs := #[.int .i64 0, .slice none 0 0]) (t := 57) ?hr ?_; (case hd => rfl); (case hg => rfl); (case hr => first | (go_simp; done) | (go_simp; rfl)); intro gb19 hg w_11 hbox hb; have n0_ := Aside0.mk (Kd.R_below HOR7.out hb); have n1_ := Aside0.mk (Kd.R_below HOR10.out hb); have n2_ := Aside0.mk (Kd.R_below HOR12.out hb); have n3_ := Aside0.mk (Kd.R_below HOR15.out hb); have n4_ := Aside0.mk (Kd.R_below HOR18.out hb); have n5_ := Aside0.mk (Nat.le_trans UPR7.out hb.size); have n6_ := Aside0.mk (Nat.le_trans UPR10.out hb.size); have n7_ := Aside0.mk (Nat.le_trans UPR12.out hb.size); have n8_ := Aside0.mk (Nat.le_trans UPR15.out hb.size); have n9_ := Aside0.mk (Nat.le_trans UPR18.out hb.size); have n10_ := Aside0.mk (blk_below (g := gb1) BKgb1.out hb); have n11_ := Aside0.mk (blk_below (g := gb2) BKgb2.out hb); have n12_ := Aside0.mk (Nat.lt_of_lt_of_le GUgb1.out hb.size); have n13_ := Aside0.mk (Nat.lt_of_lt_of_le GUgb2.out hb.size); have n14_ := Aside0.mk (below_step HB.out hb); have n15_ := Aside0.mk (below_step HBM.out hb); have n16_ := Aside0.mk (hbox); have n17_ := Aside0.mk (blk_lt hbox); have n18_ := Aside0.mk (by rw [hg]; exact below_size HB.out : w.heap.size ≤ gb19); have n19_ := Aside0.mk (by rw [hg]; exact below_size HBM.out : w_9.heap.size ≤ gb19); have n20_ := Aside0.mk (fun k_ hk_ => by have := UPR7.out; rw [← hg] at this; omega : ∀ k_, loR7 ≤ k_ ∧ k_ < hiR7 → k_ ≠ gb19); have n21_ := Aside0.mk (fun k_ hk_ => by have := UPR10.out; rw [← hg] at this; omega : ∀ k_, loR10 ≤ k_ ∧ k_ < hiR10 → k_ ≠ gb19); have n22_ := Aside0.mk (fun k_ hk_ => by have := UPR12.out; rw [← hg] at this; omega : ∀ k_, loR12 ≤ k_ ∧ k_ < hiR12 → k_ ≠ gb19); have n23_ := Aside0.mk (fun k_ hk_ => by have := UPR15.out; rw [← hg] at this; omega : ∀ k_, loR15 ≤ k_ ∧ k_ < hiR15 → k_ ≠ gb19); have n24_ := Aside0.mk (fun k_ hk_ => by have := UPR18.out; rw [← hg] at this; omega : ∀ k_, loR18 ≤ k_ ∧ k_ < hiR18 → k_ ≠ gb19); have n25_ := Aside0.mk (by have := GUgb1.out; rw [← hg] at this; omega : gb1 ≠ gb19); have n26_ := Aside0.mk (by have := GUgb1.out; rw [← hg] at this; omega : gb19 ≠ gb1); have n27_ := Aside0.mk (by have := GUgb2.out; rw [← hg] at this; omega : gb2 ≠ gb19); have n28_ := Aside0.mk (by have := GUgb2.out; rw [← hg] at this; omega : gb19 ≠ gb2); clear HOR7; clear HOR10; clear HOR12; clear HOR15; clear HOR18; clear UPR7; clear UPR10; clear UPR12; clear UPR15; clear UPR18; clear BKgb1; clear BKgb2; clear GUgb1; clear GUgb2; clear HB; clear HBM; have HOR7 := n0_; have HOR10 := n1_; have HOR12 := n2_; have HOR15 := n3_; have HOR18 := n4_; have UPR7 := n5_; have UPR10 := n6_; have UPR12 := n7_; have UPR15 := n8_; have UPR18 := n9_; have BKgb1 := n10_; have BKgb2 := n11_; have GUgb1 := n12_; have GUgb2 := n13_; have HB := n14_; have HBM := n15_; have BKgb19 := n16_; have GUgb19 := n17_; have GEgb19 := n18_; have GMgb19 := n19_; have NER7_gb19 := n20_; have NER10_gb19 := n21_; have NER12_gb19 := n22_; have NER15_gb19 := n23_; have NER18_gb19 := n24_; have NBgb1_gb19 := n25_; have NBgb19_gb1 := n26_; have NBgb2_gb19 := n27_; have NBgb19_gb2 := n28_; clear n0_ n1_ n2_ n3_ n4_ n5_ n6_ n7_ n8_ n9_ n10_ n11_ n12_ n13_ n14_ n15_ n16_ n17_ n18_ n19_ n20_ n21_ n22_ n23_ n24_ n25_ n26_ n27_ n28_; clear hb hbox hg; (try clear hczgb1_0); (try clear hfzgb1_0); (try clear hczgb1_1); (try clear hfzgb1_1); (try clear hczgb2_0); (try clear hfzgb2_0); (try clear hczgb2_1); (try clear hfzgb2_1); (try clear hczgb19_0); (try clear hfzgb19_0); (try clear hczgb19_1); (try clear hfzgb19_1); have hczgb1_0 : w_11.cell? ⟨gb1, 0, none⟩ = some (.int .i64 a0_0) := (blk_cell BKgb1.out 0).trans rfl; have hfzgb1_0 := blk_frozen BKgb1.out 0; have hczgb1_1 : w_11.cell? ⟨gb1, 1, none⟩ = some (.slice A0_1 l0_1.length c0_1) := (blk_cell BKgb1.out 1).trans rfl; have hfzgb1_1 := blk_frozen BKgb1.out 1; have hczgb2_0 : w_11.cell? ⟨gb2, 0, none⟩ = some (.int .i64 a1_0) := (blk_cell BKgb2.out 0).trans rfl; have hfzgb2_0 := blk_frozen BKgb2.out 0; have hczgb2_1 : w_11.cell? ⟨gb2, 1, none⟩ = some (.slice A1_1 l1_1.length c1_1) := (blk_cell BKgb2.out 1).trans rfl; have hfzgb2_1 := blk_frozen BKgb2.out 1; have hczgb19_0 : w_11.cell? ⟨gb19, 0, none⟩ = some (.int .i64 0) := (blk_cell BKgb19.out 0).trans rfl; have hfzgb19_0 := blk_frozen BKgb19.out 0; have hczgb19_1 : w_11.cell? ⟨gb19, 1, none⟩ = some (.slice none 0 0) := (blk_cell BKgb19.out 1).trans rfl; have hfzgb19_1 := blk_frozen BKgb19.out 1) | ((with_reducible refine gate_store (t := 57) (p := 10) rfl ?_); refine store_event (t := 57) (p := 10) (v := ?vow_12) (w1 := ((w_11.setCell ⟨gb19, 0, none⟩ (.int .i64 t16)).setCell ⟨gb19, 1, none⟩ (.slice AR18 t17.length cR18))) ?hg ?ho ?hn ?hr ?_; (case ho => rfl); (case hg => rfl); (case hn => rfl); (case hr => first | (go_simp; done) | (go_simp; rfl)); intro w_12 hw; have n0_ := Aside0.mk (by rw [hw]; exact (Kd.R_far (p := ⟨gb19, 1, none⟩) (Kd.R_far (p := ⟨gb19, 0, none⟩) HOR7.out NER7_gb19.out (.int .i64 t16)) NER7_gb19.out (.slice AR18 t17.length cR18)) : Kd.R (Kd.int .i64) 2 w_12 w.heap.size (fun k_ => loR7 ≤ k_ ∧ k_ < hiR7) (.slice AR7 t6.length cR7) t6); have n1_ := Aside0.mk (by rw [hw]; simp only [World.size_setCell]; exact UPR7.out : hiR7 ≤ w_12.heap.size); have n2_ := Aside0.mk (by rw [hw]; exact (Kd.R_far (p := ⟨gb19, 1, none⟩) (Kd.R_far (p := ⟨gb19, 0, none⟩) HOR10.out NER10_gb19.out (.int .i64 t16)) NER10_gb19.out (.slice AR18 t17.length cR18)) : Kd.R (Kd.int .i64) 2 w_12 w.heap.size (fun k_ => loR10 ≤ k_ ∧ k_ < hiR10) (.slice AR10 t9.length cR10) t9); have n3_ := Aside0.mk (by rw [hw]; simp only [World.size_setCell]; exact UPR10.out : hiR10 ≤ w_12.heap.size); have n4_ := Aside0.mk (by rw [hw]; exact (Kd.R_far (p := ⟨gb19, 1, none⟩) (Kd.R_far (p := ⟨gb19, 0, none⟩) HOR12.out NER12_gb19.out (.int .i64 t16)) NER12_gb19.out (.slice AR18 t17.length cR18)) : Kd.R (Kd.int .i64) 2 w_12 w.heap.size (fun k_ => loR12 ≤ k_ ∧ k_ < hiR12) (.slice AR12 t11.length cR12) t11); have n5_ := Aside0.mk (by rw [hw]; simp only [World.size_setCell]; exact UPR12.out : hiR12 ≤ w_12.heap.size); have n6_ := Aside0.mk (by rw [hw]; exact (Kd.R_far (p := ⟨gb19, 1, none⟩) (Kd.R_far (p := ⟨gb19, 0, none⟩) HOR15.out NER15_gb19.out (.int .i64 t16)) NER15_gb19.out (.slice AR18 t17.length cR18)) : Kd.R (Kd.int .i64) 2 w_12 w.heap.size (fun k_ => loR15 ≤ k_ ∧ k_ < hiR15) (.slice AR15 t13.length cR15) t13); have n7_ := Aside0.mk (by rw [hw]; simp only [World.size_setCell]; exact UPR15.out : hiR15 ≤ w_12.heap.size); have n8_ := Aside0.mk (by rw [hw]; exact (Kd.R_far (p := ⟨gb19, 1, none⟩) (Kd.R_far (p := ⟨gb19, 0, none⟩) HOR18.out NER18_gb19.out (.int .i64 t16)) NER18_gb19.out (.slice AR18 t17.length cR18)) : Kd.R (Kd.int .i64) 2 w_12 w_9.heap.size (fun k_ => loR18 ≤ k_ ∧ k_ < hiR18) (.slice AR18 t17.length cR18) t17); have n9_ := Aside0.mk (by rw [hw]; simp only [World.size_setCell]; exact UPR18.out : hiR18 ≤ w_12.heap.size); have n10_ := Aside0.mk (by rw [hw]; exact (blk_far (blk_far BKgb1.out NBgb1_gb19.out (.int .i64 t16)) NBgb1_gb19.out (.slice AR18 t17.length cR18)) : w_12.heap[gb1]? = some (.cells #[.int .i64 a0_0, .slice A0_1 l0_1.length c0_1] 51 (0, 0))); have n11_ := Aside0.mk (by rw [hw]; simp only [World.size_setCell]; exact GUgb1.out : gb1 < w_12.heap.size); have n12_ := Aside0.mk (by rw [hw]; exact (blk_far (blk_far BKgb2.out NBgb2_gb19.out (.int .i64 t16)) NBgb2_gb19.out (.slice AR18 t17.length cR18)) : w_12.heap[gb2]? = some (.cells #[.int .i64 a1_0, .slice A1_1 l1_1.length c1_1] 53 (0, 0))); have n13_ := Aside0.mk (by rw [hw]; simp only [World.size_setCell]; exact GUgb2.out : gb2 < w_12.heap.size); have n14_ := Aside0.mk (by rw [hw]; exact (blk_put (cs' := #[.int .i64 t16, .slice AR18 t17.length cR18]) (blk_put (cs' := #[.int .i64 t16, .slice none 0 0]) BKgb19.out 0 (.int .i64 t16) rfl) 1 (.slice AR18 t17.length cR18) rfl) : w_12.heap[gb19]? = some (.cells #[.int .i64 t16, .slice AR18 t17.length cR18] 57 (0, 0))); have n15_ := Aside0.mk (by rw [hw]; simp only [World.size_setCell]; exact GUgb19.out : gb19 < w_12.heap.size); have n16_ := Aside0.mk (by rw [hw]; exact (below_set (below_set HB.out GEgb19.out) GEgb19.out) : Below w.heap.size w w_12); have n17_ := Aside0.mk (by rw [hw]; exact (below_set (below_set HBM.out GMgb19.out) GMgb19.out) : Below w_9.heap.size w_9 w_12); clear HOR7; clear UPR7; clear HOR10; clear UPR10; clear HOR12; clear UPR12; clear HOR15; clear UPR15; clear HOR18; clear UPR18; clear BKgb1; clear GUgb1; clear BKgb2; clear GUgb2; clear BKgb19; clear GUgb19; clear HB; clear HBM; have HOR7 := n0_; have UPR7 := n1_; have HOR10 := n2_; have UPR10 := n3_; have HOR12 := n4_; have UPR12 := n5_; have HOR15 := n6_; have UPR15 := n7_; have HOR18 := n8_; have UPR18 := n9_; have BKgb1 := n10_; have GUgb1 := n11_; have BKgb2 := n12_; have GUgb2 := n13_; have BKgb19 := n14_; have GUgb19 := n15_; have HB := n16_; have HBM := n17_; clear n0_ n1_ n2_ n3_ n4_ n5_ n6_ n7_ n8_ n9_ n10_ n11_ n12_ n13_ n14_ n15_ n16_ n17_; clear hw; (try clear hczgb1_0); (try clear hfzgb1_0); (try clear hczgb1_1); (try clear hfzgb1_1); (try clear hczgb2_0); (try clear hfzgb2_0); (try clear hczgb2_1); (try clear hfzgb2_1); (try clear hczgb19_0); (try clear hfzgb19_0); (try clear hczgb19_1); (try clear hfzgb19_1); have hczgb1_0 : w_12.cell? ⟨gb1, 0, none⟩ = some (.int .i64 a0_0) := (blk_cell BKgb1.out 0).trans rfl; have hfzgb1_0 := blk_frozen BKgb1.out 0; have hczgb1_1 : w_12.cell? ⟨gb1, 1, none⟩ = some (.slice A0_1 l0_1.length c0_1) := (blk_cell BKgb1.out 1).trans rfl; have hfzgb1_1 := blk_frozen BKgb1.out 1; have hczgb2_0 : w_12.cell? ⟨gb2, 0, none⟩ = some (.int .i64 a1_0) := (blk_cell BKgb2.out 0).trans rfl; have hfzgb2_0 := blk_frozen BKgb2.out 0; have hczgb2_1 : w_12.cell? ⟨gb2, 1, none⟩ = some (.slice A1_1 l1_1.length c1_1) := (blk_cell BKgb2.out 1).trans rfl; have hfzgb2_1 := blk_frozen BKgb2.out 1; have hczgb19_0 : w_12.cell? ⟨gb19, 0, none⟩ = some (.int .i64 t16) := (blk_cell BKgb19.out 0).trans rfl; have hfzgb19_0 := blk_frozen BKgb19.out 0; have hczgb19_1 : w_12.cell? ⟨gb19, 1, none⟩ = some (.slice AR18 t17.length cR18) := (blk_cell BKgb19.out 1).trans rfl; have hfzgb19_1 := blk_frozen BKgb19.out 1) | ((with_reducible refine gate_callee (f := 44) rfl ?_); refine goesL_ (some 46) rfl rfl Try.func44 (by kernel_rfl) rfl #[.agg #[.int .i64 a1_0, .slice A1_1 l1_1.length c1_1]] rfl (by (try simp only [List.map_toArray, List.map_cons, List.map_nil]); first | done | rfl) ?_; (with_reducible refine (laws_toValues.calls k a1_0 _ _ l1_1 t20 t21 _ ?side1 ?side2 E11.out).mono ?_); (case side1 => exact Kd.C_below HR1_1.out HB.out); (case side2 => exact HC1_1.out); rintro e w_13 ⟨vR22, rfl, hoR22, hb⟩; refine ⟨_, rfl, ?_⟩; obtain ⟨loR22, hloR22⟩ : ∃ n_ : Nat, n_ = w_12.heap.size := ⟨_, rfl⟩; obtain ⟨hiR22, hhiR22⟩ : ∃ n_ : Nat, n_ = w_13.heap.size := ⟨_, rfl⟩; have n0_ := Aside0.mk (Kd.R_below HOR7.out hb); have n1_ := Aside0.mk (Kd.R_below HOR10.out hb); have n2_ := Aside0.mk (Kd.R_below HOR12.out hb); have n3_ := Aside0.mk (Kd.R_below HOR15.out hb); have n4_ := Aside0.mk (Kd.R_below HOR18.out hb); have n5_ := Aside0.mk (Nat.le_trans UPR7.out hb.size); have n6_ := Aside0.mk (Nat.le_trans UPR10.out hb.size); have n7_ := Aside0.mk (Nat.le_trans UPR12.out hb.size); have n8_ := Aside0.mk (Nat.le_trans UPR15.out hb.size); have n9_ := Aside0.mk (Nat.le_trans UPR18.out hb.size); have n10_ := Aside0.mk (blk_below (g := gb1) BKgb1.out hb); have n11_ := Aside0.mk (blk_below (g := gb2) BKgb2.out hb); have n12_ := Aside0.mk (blk_below (g := gb19) BKgb19.out hb); have n13_ := Aside0.mk (Nat.lt_of_lt_of_le GUgb1.out hb.size); have n14_ := Aside0.mk (Nat.lt_of_lt_of_le GUgb2.out hb.size); have n15_ := Aside0.mk (Nat.lt_of_lt_of_le GUgb19.out hb.size); have n16_ := Aside0.mk (below_step HB.out hb); have n17_ := Aside0.mk (below_step HBM.out hb); have n18_ := Aside0.mk (Kd.R_lower (Kd.R_mono (ok' := fun k_ => loR22 ≤ k_ ∧ k_ < hiR22) (Kd.R_bound hoR22) (fun k_ hk_ => ⟨by rw [hloR22]; exact hk_.2.1, by rw [hhiR22]; exact hk_.2.2.1⟩)) (below_size HBM.out)); have n19_ := Aside0.mk (by rw [hhiR22]; exact Nat.le_refl _ : hiR22 ≤ w_13.heap.size); have n20_ := Aside0.mk (fun k_ h1_ h2_ => by have := UPR7.out; rw [← hloR22] at this; omega : ∀ k_, loR7 ≤ k_ ∧ k_ < hiR7 → ¬ (loR22 ≤ k_ ∧ k_ < hiR22)); have n21_ := Aside0.mk (fun k_ h1_ h2_ => by have := UPR7.out; rw [← hloR22] at this; omega : ∀ k_, loR22 ≤ k_ ∧ k_ < hiR22 → ¬ (loR7 ≤ k_ ∧ k_ < hiR7)); have n22_ := Aside0.mk (fun k_ h1_ h2_ => by have := UPR10.out; rw [← hloR22] at this; omega : ∀ k_, loR10 ≤ k_ ∧ k_ < hiR10 → ¬ (loR22 ≤ k_ ∧ k_ < hiR22)); have n23_ := Aside0.mk (fun k_ h1_ h2_ => by have := UPR10.out; rw [← hloR22] at this; omega : ∀ k_, loR22 ≤ k_ ∧ k_ < hiR22 → ¬ (loR10 ≤ k_ ∧ k_ < hiR10)); have n24_ := Aside0.mk (fun k_ h1_ h2_ => by have := UPR12.out; rw [← hloR22] at this; omega : ∀ k_, loR12 ≤ k_ ∧ k_ < hiR12 → ¬ (loR22 ≤ k_ ∧ k_ < hiR22)); have n25_ := Aside0.mk (fun k_ h1_ h2_ => by have := UPR12.out; rw [← hloR22] at this; omega : ∀ k_, loR22 ≤ k_ ∧ k_ < hiR22 → ¬ (loR12 ≤ k_ ∧ k_ < hiR12)); have n26_ := Aside0.mk (fun k_ h1_ h2_ => by have := UPR15.out; rw [← hloR22] at this; omega : ∀ k_, loR15 ≤ k_ ∧ k_ < hiR15 → ¬ (loR22 ≤ k_ ∧ k_ < hiR22)); have n27_ := Aside0.mk (fun k_ h1_ h2_ => by have := UPR15.out; rw [← hloR22] at this; omega : ∀ k_, loR22 ≤ k_ ∧ k_ < hiR22 → ¬ (loR15 ≤ k_ ∧ k_ < hiR15)); have n28_ := Aside0.mk (fun k_ h1_ h2_ => by have := UPR18.out; rw [← hloR22] at this; omega : ∀ k_, loR18 ≤ k_ ∧ k_ < hiR18 → ¬ (loR22 ≤ k_ ∧ k_ < hiR22)); have n29_ := Aside0.mk (fun k_ h1_ h2_ => by have := UPR18.out; rw [← hloR22] at this; omega : ∀ k_, loR22 ≤ k_ ∧ k_ < hiR22 → ¬ (loR18 ≤ k_ ∧ k_ < hiR18)); have n30_ := Aside0.mk (fun k_ hk_ => by have := GUgb1.out; rw [← hloR22] at this; omega : ∀ k_, loR22 ≤ k_ ∧ k_ < hiR22 → k_ ≠ gb1); have n31_ := Aside0.mk (fun k_ hk_ => by have := GUgb2.out; rw [← hloR22] at this; omega : ∀ k_, loR22 ≤ k_ ∧ k_ < hiR22 → k_ ≠ gb2); have n32_ := Aside0.mk (fun k_ hk_ => by have := GUgb19.out; rw [← hloR22] at this; omega : ∀ k_, loR22 ≤ k_ ∧ k_ < hiR22 → k_ ≠ gb19); clear HOR7; clear HOR10; clear HOR12; clear HOR15; clear HOR18; clear UPR7; clear UPR10; clear UPR12; clear UPR15; clear UPR18; clear BKgb1; clear BKgb2; clear BKgb19; clear GUgb1; clear GUgb2; clear GUgb19; clear HB; clear HBM; have HOR7 := n0_; have HOR10 := n1_; have HOR12 := n2_; have HOR15 := n3_; have HOR18 := n4_; have UPR7 := n5_; have UPR10 := n6_; have UPR12 := n7_; have UPR15 := n8_; have UPR18 := n9_; have BKgb1 := n10_; have BKgb2 := n11_; have BKgb19 := n12_; have GUgb1 := n13_; have GUgb2 := n14_; have GUgb19 := n15_; have HB := n16_; have HBM := n17_; have HOR22 := n18_; have UPR22 := n19_; have NRR7_R22 := n20_; have NRR22_R7 := n21_; have NRR10_R22 := n22_; have NRR22_R10 := n23_; have NRR12_R22 := n24_; have NRR22_R12 := n25_; have NRR15_R22 := n26_; have NRR22_R15 := n27_; have NRR18_R22 := n28_; have NRR22_R18 := n29_; have NER22_gb1 := n30_; have NER22_gb2 := n31_; have NER22_gb19 := n32_; clear n0_ n1_ n2_ n3_ n4_ n5_ n6_ n7_ n8_ n9_ n10_ n11_ n12_ n13_ n14_ n15_ n16_ n17_ n18_ n19_ n20_ n21_ n22_ n23_ n24_ n25_ n26_ n27_ n28_ n29_ n30_ n31_ n32_; clear hb; clear hoR22 hloR22 hhiR22; obtain ⟨AR22, cR22, eqR22⟩ := Kd.R_slice HOR22.out; subst eqR22; (try clear hczgb1_0); (try clear hfzgb1_0); (try clear hczgb1_1); (try clear hfzgb1_1); (try clear hczgb2_0); (try clear hfzgb2_0); (try clear hczgb2_1); (try clear hfzgb2_1); (try clear hczgb19_0); (try clear hfzgb19_0); (try clear hczgb19_1); (try clear hfzgb19_1); have hczgb1_0 : w_13.cell? ⟨gb1, 0, none⟩ = some (.int .i64 a0_0) := (blk_cell BKgb1.out 0).trans rfl; have hfzgb1_0 := blk_frozen BKgb1.out 0; have hczgb1_1 : w_13.cell? ⟨gb1, 1, none⟩ = some (.slice A0_1 l0_1.length c0_1) := (blk_cell BKgb1.out 1).trans rfl; have hfzgb1_1 := blk_frozen BKgb1.out 1; have hczgb2_0 : w_13.cell? ⟨gb2, 0, none⟩ = some (.int .i64 a1_0) := (blk_cell BKgb2.out 0).trans rfl; have hfzgb2_0 := blk_frozen BKgb2.out 0; have hczgb2_1 : w_13.cell? ⟨gb2, 1, none⟩ = some (.slice A1_1 l1_1.length c1_1) := (blk_cell BKgb2.out 1).trans rfl; have hfzgb2_1 := blk_frozen BKgb2.out 1; have hczgb19_0 : w_13.cell? ⟨gb19, 0, none⟩ = some (.int .i64 t16) := (blk_cell BKgb19.out 0).trans rfl; have hfzgb19_0 := blk_frozen BKgb19.out 0; have hczgb19_1 : w_13.cell? ⟨gb19, 1, none⟩ = some (.slice AR18 t17.length cR18) := (blk_cell BKgb19.out 1).trans rfl; have hfzgb19_1 := blk_frozen BKgb19.out 1) | ((with_reducible refine gate_dst (N := 11) rfl ?_); refine box_event ?hg (N := 11) ?hd (cs := #[.int .i64 0, .slice none 0 0]) (t := 59) ?hr ?_; (case hd => rfl); (case hg => rfl); (case hr => first | (go_simp; done) | (go_simp; rfl)); intro gb23 hg w_14 hbox hb; have n0_ := Aside0.mk (Kd.R_below HOR7.out hb); have n1_ := Aside0.mk (Kd.R_below HOR10.out hb); have n2_ := Aside0.mk (Kd.R_below HOR12.out hb); have n3_ := Aside0.mk (Kd.R_below HOR15.out hb); have n4_ := Aside0.mk (Kd.R_below HOR18.out hb); have n5_ := Aside0.mk (Kd.R_below HOR22.out hb); have n6_ := Aside0.mk (Nat.le_trans UPR7.out hb.size); have n7_ := Aside0.mk (Nat.le_trans UPR10.out hb.size); have n8_ := Aside0.mk (Nat.le_trans UPR12.out hb.size); have n9_ := Aside0.mk (Nat.le_trans UPR15.out hb.size); have n10_ := Aside0.mk (Nat.le_trans UPR18.out hb.size); have n11_ := Aside0.mk (Nat.le_trans UPR22.out hb.size); have n12_ := Aside0.mk (blk_below (g := gb1) BKgb1.out hb); have n13_ := Aside0.mk (blk_below (g := gb2) BKgb2.out hb); have n14_ := Aside0.mk (blk_below (g := gb19) BKgb19.out hb); have n15_ := Aside0.mk (Nat.lt_of_lt_of_le GUgb1.out hb.size); have n16_ := Aside0.mk (Nat.lt_of_lt_of_le GUgb2.out hb.size); have n17_ := Aside0.mk (Nat.lt_of_lt_of_le GUgb19.out hb.size); have n18_ := Aside0.mk (below_step HB.out hb); have n19_ := Aside0.mk (below_step HBM.out hb); have n20_ := Aside0.mk (hbox); have n21_ := Aside0.mk (blk_lt hbox); have n22_ := Aside0.mk (by rw [hg]; exact below_size HB.out : w.heap.size ≤ gb23); have n23_ := Aside0.mk (by rw [hg]; exact below_size HBM.out : w_9.heap.size ≤ gb23); have n24_ := Aside0.mk (fun k_ hk_ => by have := UPR7.out; rw [← hg] at this; omega : ∀ k_, loR7 ≤ k_ ∧ k_ < hiR7 → k_ ≠ gb23); have n25_ := Aside0.mk (fun k_ hk_ => by have := UPR10.out; rw [← hg] at this; omega : ∀ k_, loR10 ≤ k_ ∧ k_ < hiR10 → k_ ≠ gb23); have n26_ := Aside0.mk (fun k_ hk_ => by have := UPR12.out; rw [← hg] at this; omega : ∀ k_, loR12 ≤ k_ ∧ k_ < hiR12 → k_ ≠ gb23); have n27_ := Aside0.mk (fun k_ hk_ => by have := UPR15.out; rw [← hg] at this; omega : ∀ k_, loR15 ≤ k_ ∧ k_ < hiR15 → k_ ≠ gb23); have n28_ := Aside0.mk (fun k_ hk_ => by have := UPR18.out; rw [← hg] at this; omega : ∀ k_, loR18 ≤ k_ ∧ k_ < hiR18 → k_ ≠ gb23); have n29_ := Aside0.mk (fun k_ hk_ => by have := UPR22.out; rw [← hg] at this; omega : ∀ k_, loR22 ≤ k_ ∧ k_ < hiR22 → k_ ≠ gb23); have n30_ := Aside0.mk (by have := GUgb1.out; rw [← hg] at this; omega : gb1 ≠ gb23); have n31_ := Aside0.mk (by have := GUgb1.out; rw [← hg] at this; omega : gb23 ≠ gb1); have n32_ := Aside0.mk (by have := GUgb2.out; rw [← hg] at this; omega : gb2 ≠ gb23); have n33_ := Aside0.mk (by have := GUgb2.out; rw [← hg] at this; omega : gb23 ≠ gb2); have n34_ := Aside0.mk (by have := GUgb19.out; rw [← hg] at this; omega : gb19 ≠ gb23); have n35_ := Aside0.mk (by have := GUgb19.out; rw [← hg] at this; omega : gb23 ≠ gb19); clear HOR7; clear HOR10; clear HOR12; clear HOR15; clear HOR18; clear HOR22; clear UPR7; clear UPR10; clear UPR12; clear UPR15; clear UPR18; clear UPR22; clear BKgb1; clear BKgb2; clear BKgb19; clear GUgb1; clear GUgb2; clear GUgb19; clear HB; clear HBM; have HOR7 := n0_; have HOR10 := n1_; have HOR12 := n2_; have HOR15 := n3_; have HOR18 := n4_; have HOR22 := n5_; have UPR7 := n6_; have UPR10 := n7_; have UPR12 := n8_; have UPR15 := n9_; have UPR18 := n10_; have UPR22 := n11_; have BKgb1 := n12_; have BKgb2 := n13_; have BKgb19 := n14_; have GUgb1 := n15_; have GUgb2 := n16_; have GUgb19 := n17_; have HB := n18_; have HBM := n19_; have BKgb23 := n20_; have GUgb23 := n21_; have GEgb23 := n22_; have GMgb23 := n23_; have NER7_gb23 := n24_; have NER10_gb23 := n25_; have NER12_gb23 := n26_; have NER15_gb23 := n27_; have NER18_gb23 := n28_; have NER22_gb23 := n29_; have NBgb1_gb23 := n30_; have NBgb23_gb1 := n31_; have NBgb2_gb23 := n32_; have NBgb23_gb2 := n33_; have NBgb19_gb23 := n34_; have NBgb23_gb19 := n35_; clear n0_ n1_ n2_ n3_ n4_ n5_ n6_ n7_ n8_ n9_ n10_ n11_ n12_ n13_ n14_ n15_ n16_ n17_ n18_ n19_ n20_ n21_ n22_ n23_ n24_ n25_ n26_ n27_ n28_ n29_ n30_ n31_ n32_ n33_ n34_ n35_; clear hb hbox hg; (try clear hczgb1_0); (try clear hfzgb1_0); (try clear hczgb1_1); (try clear hfzgb1_1); (try clear hczgb2_0); (try clear hfzgb2_0); (try clear hczgb2_1); (try clear hfzgb2_1); (try clear hczgb19_0); (try clear hfzgb19_0); (try clear hczgb19_1); (try clear hfzgb19_1); (try clear hczgb23_0); (try clear hfzgb23_0); (try clear hczgb23_1); (try clear hfzgb23_1); have hczgb1_0 : w_14.cell? ⟨gb1, 0, none⟩ = some (.int .i64 a0_0) := (blk_cell BKgb1.out 0).trans rfl; have hfzgb1_0 := blk_frozen BKgb1.out 0; have hczgb1_1 : w_14.cell? ⟨gb1, 1, none⟩ = some (.slice A0_1 l0_1.length c0_1) := (blk_cell BKgb1.out 1).trans rfl; have hfzgb1_1 := blk_frozen BKgb1.out 1; have hczgb2_0 : w_14.cell? ⟨gb2, 0, none⟩ = some (.int .i64 a1_0) := (blk_cell BKgb2.out 0).trans rfl; have hfzgb2_0 := blk_frozen BKgb2.out 0; have hczgb2_1 : w_14.cell? ⟨gb2, 1, none⟩ = some (.slice A1_1 l1_1.length c1_1) := (blk_cell BKgb2.out 1).trans rfl; have hfzgb2_1 := blk_frozen BKgb2.out 1; have hczgb19_0 : w_14.cell? ⟨gb19, 0, none⟩ = some (.int .i64 t16) := (blk_cell BKgb19.out 0).trans rfl; have hfzgb19_0 := blk_frozen BKgb19.out 0; have hczgb19_1 : w_14.cell? ⟨gb19, 1, none⟩ = some (.slice AR18 t17.length cR18) := (blk_cell BKgb19.out 1).trans rfl; have hfzgb19_1 := blk_frozen BKgb19.out 1; have hczgb23_0 : w_14.cell? ⟨gb23, 0, none⟩ = some (.int .i64 0) := (blk_cell BKgb23.out 0).trans rfl; have hfzgb23_0 := blk_frozen BKgb23.out 0; have hczgb23_1 : w_14.cell? ⟨gb23, 1, none⟩ = some (.slice none 0 0) := (blk_cell BKgb23.out 1).trans rfl; have hfzgb23_1 := blk_frozen BKgb23.out 1) | ((with_reducible refine gate_store (t := 59) (p := 11) rfl ?_); refine store_event (t := 59) (p := 11) (v := ?vow_15) (w1 := ((w_14.setCell ⟨gb23, 0, none⟩ (.int .i64 t20)).setCell ⟨gb23, 1, none⟩ (.slice AR22 t21.length cR22))) ?hg ?ho ?hn ?hr ?_; (case ho => rfl); (case hg => rfl); (case hn => rfl); (case hr => first | (go_simp; done) | (go_simp; rfl)); intro w_15 hw; have n0_ := Aside0.mk (by rw [hw]; exact (Kd.R_far (p := ⟨gb23, 1, none⟩) (Kd.R_far (p := ⟨gb23, 0, none⟩) HOR7.out NER7_gb23.out (.int .i64 t20)) NER7_gb23.out (.slice AR22 t21.length cR22)) : Kd.R (Kd.int .i64) 2 w_15 w.heap.size (fun k_ => loR7 ≤ k_ ∧ k_ < hiR7) (.slice AR7 t6.length cR7) t6); have n1_ := Aside0.mk (by rw [hw]; simp only [World.size_setCell]; exact UPR7.out : hiR7 ≤ w_15.heap.size); have n2_ := Aside0.mk (by rw [hw]; exact (Kd.R_far (p := ⟨gb23, 1, none⟩) (Kd.R_far (p := ⟨gb23, 0, none⟩) HOR10.out NER10_gb23.out (.int .i64 t20)) NER10_gb23.out (.slice AR22 t21.length cR22)) : Kd.R (Kd.int .i64) 2 w_15 w.heap.size (fun k_ => loR10 ≤ k_ ∧ k_ < hiR10) (.slice AR10 t9.length cR10) t9); have n3_ := Aside0.mk (by rw [hw]; simp only [World.size_setCell]; exact UPR10.out : hiR10 ≤ w_15.heap.size); have n4_ := Aside0.mk (by rw [hw]; exact (Kd.R_far (p := ⟨gb23, 1, none⟩) (Kd.R_far (p := ⟨gb23, 0, none⟩) HOR12.out NER12_gb23.out (.int .i64 t20)) NER12_gb23.out (.slice AR22 t21.length cR22)) : Kd.R (Kd.int .i64) 2 w_15 w.heap.size (fun k_ => loR12 ≤ k_ ∧ k_ < hiR12) (.slice AR12 t11.length cR12) t11); have n5_ := Aside0.mk (by rw [hw]; simp only [World.size_setCell]; exact UPR12.out : hiR12 ≤ w_15.heap.size); have n6_ := Aside0.mk (by rw [hw]; exact (Kd.R_far (p := ⟨gb23, 1, none⟩) (Kd.R_far (p := ⟨gb23, 0, none⟩) HOR15.out NER15_gb23.out (.int .i64 t20)) NER15_gb23.out (.slice AR22 t21.length cR22)) : Kd.R (Kd.int .i64) 2 w_15 w.heap.size (fun k_ => loR15 ≤ k_ ∧ k_ < hiR15) (.slice AR15 t13.length cR15) t13); have n7_ := Aside0.mk (by rw [hw]; simp only [World.size_setCell]; exact UPR15.out : hiR15 ≤ w_15.heap.size); have n8_ := Aside0.mk (by rw [hw]; exact (Kd.R_far (p := ⟨gb23, 1, none⟩) (Kd.R_far (p := ⟨gb23, 0, none⟩) HOR18.out NER18_gb23.out (.int .i64 t20)) NER18_gb23.out (.slice AR22 t21.length cR22)) : Kd.R (Kd.int .i64) 2 w_15 w_9.heap.size (fun k_ => loR18 ≤ k_ ∧ k_ < hiR18) (.slice AR18 t17.length cR18) t17); have n9_ := Aside0.mk (by rw [hw]; simp only [World.size_setCell]; exact UPR18.out : hiR18 ≤ w_15.heap.size); have n10_ := Aside0.mk (by rw [hw]; exact (Kd.R_far (p := ⟨gb23, 1, none⟩) (Kd.R_far (p := ⟨gb23, 0, none⟩) HOR22.out NER22_gb23.out (.int .i64 t20)) NER22_gb23.out (.slice AR22 t21.length cR22)) : Kd.R (Kd.int .i64) 2 w_15 w_9.heap.size (fun k_ => loR22 ≤ k_ ∧ k_ < hiR22) (.slice AR22 t21.length cR22) t21); have n11_ := Aside0.mk (by rw [hw]; simp only [World.size_setCell]; exact UPR22.out : hiR22 ≤ w_15.heap.size); have n12_ := Aside0.mk (by rw [hw]; exact (blk_far (blk_far BKgb1.out NBgb1_gb23.out (.int .i64 t20)) NBgb1_gb23.out (.slice AR22 t21.length cR22)) : w_15.heap[gb1]? = some (.cells #[.int .i64 a0_0, .slice A0_1 l0_1.length c0_1] 51 (0, 0))); have n13_ := Aside0.mk (by rw [hw]; simp only [World.size_setCell]; exact GUgb1.out : gb1 < w_15.heap.size); have n14_ := Aside0.mk (by rw [hw]; exact (blk_far (blk_far BKgb2.out NBgb2_gb23.out (.int .i64 t20)) NBgb2_gb23.out (.slice AR22 t21.length cR22)) : w_15.heap[gb2]? = some (.cells #[.int .i64 a1_0, .slice A1_1 l1_1.length c1_1] 53 (0, 0))); have n15_ := Aside0.mk (by rw [hw]; simp only [World.size_setCell]; exact GUgb2.out : gb2 < w_15.heap.size); have n16_ := Aside0.mk (by rw [hw]; exact (blk_far (blk_far BKgb19.out NBgb19_gb23.out (.int .i64 t20)) NBgb19_gb23.out (.slice AR22 t21.length cR22)) : w_15.heap[gb19]? = some (.cells #[.int .i64 t16, .slice AR18 t17.length cR18] 57 (0, 0))); have n17_ := Aside0.mk (by rw [hw]; simp only [World.size_setCell]; exact GUgb19.out : gb19 < w_15.heap.size); have n18_ := Aside0.mk (by rw [hw]; exact (blk_put (cs' := #[.int .i64 t20, .slice AR22 t21.length cR22]) (blk_put (cs' := #[.int .i64 t20, .slice none 0 0]) BKgb23.out 0 (.int .i64 t20) rfl) 1 (.slice AR22 t21.length cR22) rfl) : w_15.heap[gb23]? = some (.cells #[.int .i64 t20, .slice AR22 t21.length cR22] 59 (0, 0))); have n19_ := Aside0.mk (by rw [hw]; simp only [World.size_setCell]; exact GUgb23.out : gb23 < w_15.heap.size); have n20_ := Aside0.mk (by rw [hw]; exact (below_set (below_set HB.out GEgb23.out) GEgb23.out) : Below w.heap.size w w_15); have n21_ := Aside0.mk (by rw [hw]; exact (below_set (below_set HBM.out GMgb23.out) GMgb23.out) : Below w_9.heap.size w_9 w_15); clear HOR7; clear UPR7; clear HOR10; clear UPR10; clear HOR12; clear UPR12; clear HOR15; clear UPR15; clear HOR18; clear UPR18; clear HOR22; clear UPR22; clear BKgb1; clear GUgb1; clear BKgb2; clear GUgb2; clear BKgb19; clear GUgb19; clear BKgb23; clear GUgb23; clear HB; clear HBM; have HOR7 := n0_; have UPR7 := n1_; have HOR10 := n2_; have UPR10 := n3_; have HOR12 := n4_; have UPR12 := n5_; have HOR15 := n6_; have UPR15 := n7_; have HOR18 := n8_; have UPR18 := n9_; have HOR22 := n10_; have UPR22 := n11_; have BKgb1 := n12_; have GUgb1 := n13_; have BKgb2 := n14_; have GUgb2 := n15_; have BKgb19 := n16_; have GUgb19 := n17_; have BKgb23 := n18_; have GUgb23 := n19_; have HB := n20_; have HBM := n21_; clear n0_ n1_ n2_ n3_ n4_ n5_ n6_ n7_ n8_ n9_ n10_ n11_ n12_ n13_ n14_ n15_ n16_ n17_ n18_ n19_ n20_ n21_; clear hw; (try clear hczgb1_0); (try clear hfzgb1_0); (try clear hczgb1_1); (try clear hfzgb1_1); (try clear hczgb2_0); (try clear hfzgb2_0); (try clear hczgb2_1); (try clear hfzgb2_1); (try clear hczgb19_0); (try clear hfzgb19_0); (try clear hczgb19_1); (try clear hfzgb19_1); (try clear hczgb23_0); (try clear hfzgb23_0); (try clear hczgb23_1); (try clear hfzgb23_1); have hczgb1_0 : w_15.cell? ⟨gb1, 0, none⟩ = some (.int .i64 a0_0) := (blk_cell BKgb1.out 0).trans rfl; have hfzgb1_0 := blk_frozen BKgb1.out 0; have hczgb1_1 : w_15.cell? ⟨gb1, 1, none⟩ = some (.slice A0_1 l0_1.length c0_1) := (blk_cell BKgb1.out 1).trans rfl; have hfzgb1_1 := blk_frozen BKgb1.out 1; have hczgb2_0 : w_15.cell? ⟨gb2, 0, none⟩ = some (.int .i64 a1_0) := (blk_cell BKgb2.out 0).trans rfl; have hfzgb2_0 := blk_frozen BKgb2.out 0; have hczgb2_1 : w_15.cell? ⟨gb2, 1, none⟩ = some (.slice A1_1 l1_1.length c1_1) := (blk_cell BKgb2.out 1).trans rfl; have hfzgb2_1 := blk_frozen BKgb2.out 1; have hczgb19_0 : w_15.cell? ⟨gb19, 0, none⟩ = some (.int .i64 t16) := (blk_cell BKgb19.out 0).trans rfl; have hfzgb19_0 := blk_frozen BKgb19.out 0; have hczgb19_1 : w_15.cell? ⟨gb19, 1, none⟩ = some (.slice AR18 t17.length cR18) := (blk_cell BKgb19.out 1).trans rfl; have hfzgb19_1 := blk_frozen BKgb19.out 1; have hczgb23_0 : w_15.cell? ⟨gb23, 0, none⟩ = some (.int .i64 t20) := (blk_cell BKgb23.out 0).trans rfl; have hfzgb23_0 := blk_frozen BKgb23.out 0; have hczgb23_1 : w_15.cell? ⟨gb23, 1, none⟩ = some (.slice AR22 t21.length cR22) := (blk_cell BKgb23.out 1).trans rfl; have hfzgb23_1 := blk_frozen BKgb23.out 1) | ((with_reducible refine gate_callee (f := 35) rfl ?_); refine goesL_ (some 48) rfl rfl Try.func35 (by kernel_rfl) rfl #[.slice A2 l2.length c2] rfl (by (try simp only [List.map_toArray, List.map_cons, List.map_nil]); first | done | rfl) ?_; (with_reducible refine (laws_toInt64S.calls k _ _ l2 t24 _ ?side1 ?side2 E12.out).mono ?_); (case side1 => exact Kd.C_below HR2.out HB.out); (case side2 => exact HC2.out); rintro e w_16 ⟨vR25, rfl, hoR25, hb⟩; refine ⟨_, rfl, ?_⟩; obtain ⟨loR25, hloR25⟩ : ∃ n_ : Nat, n_ = w_15.heap.size := ⟨_, rfl⟩; obtain ⟨hiR25, hhiR25⟩ : ∃ n_ : Nat, n_ = w_16.heap.size := ⟨_, rfl⟩; have n0_ := Aside0.mk (Kd.R_below HOR7.out hb); have n1_ := Aside0.mk (Kd.R_below HOR10.out hb); have n2_ := Aside0.mk (Kd.R_below HOR12.out hb); have n3_ := Aside0.mk (Kd.R_below HOR15.out hb); have n4_ := Aside0.mk (Kd.R_below HOR18.out hb); have n5_ := Aside0.mk (Kd.R_below HOR22.out hb); have n6_ := Aside0.mk (Nat.le_trans UPR7.out hb.size); have n7_ := Aside0.mk (Nat.le_trans UPR10.out hb.size); have n8_ := Aside0.mk (Nat.le_trans UPR12.out hb.size); have n9_ := Aside0.mk (Nat.le_trans UPR15.out hb.size); have n10_ := Aside0.mk (Nat.le_trans UPR18.out hb.size); have n11_ := Aside0.mk (Nat.le_trans UPR22.out hb.size); have n12_ := Aside0.mk (blk_below (g := gb1) BKgb1.out hb); have n13_ := Aside0.mk (blk_below (g := gb2) BKgb2.out hb); have n14_ := Aside0.mk (blk_below (g := gb19) BKgb19.out hb); have n15_ := Aside0.mk (blk_below (g := gb23) BKgb23.out hb); have n16_ := Aside0.mk (Nat.lt_of_lt_of_le GUgb1.out hb.size); have n17_ := Aside0.mk (Nat.lt_of_lt_of_le GUgb2.out hb.size); have n18_ := Aside0.mk (Nat.lt_of_lt_of_le GUgb19.out hb.size); have n19_ := Aside0.mk (Nat.lt_of_lt_of_le GUgb23.out hb.size); have n20_ := Aside0.mk (below_step HB.out hb); have n21_ := Aside0.mk (below_step HBM.out hb); have n22_ := Aside0.mk (Kd.R_lower (Kd.R_mono (ok' := fun k_ => loR25 ≤ k_ ∧ k_ < hiR25) (Kd.R_bound hoR25) (fun k_ hk_ => ⟨by rw [hloR25]; exact hk_.2.1, by rw [hhiR25]; exact hk_.2.2.1⟩)) (below_size HBM.out)); have n23_ := Aside0.mk (by rw [hhiR25]; exact Nat.le_refl _ : hiR25 ≤ w_16.heap.size); have n24_ := Aside0.mk (fun k_ h1_ h2_ => by have := UPR7.out; rw [← hloR25] at this; omega : ∀ k_, loR7 ≤ k_ ∧ k_ < hiR7 → ¬ (loR25 ≤ k_ ∧ k_ < hiR25)); have n25_ := Aside0.mk (fun k_ h1_ h2_ => by have := UPR7.out; rw [← hloR25] at this; omega : ∀ k_, loR25 ≤ k_ ∧ k_ < hiR25 → ¬ (loR7 ≤ k_ ∧ k_ < hiR7)); have n26_ := Aside0.mk (fun k_ h1_ h2_ => by have := UPR10.out; rw [← hloR25] at this; omega : ∀ k_, loR10 ≤ k_ ∧ k_ < hiR10 → ¬ (loR25 ≤ k_ ∧ k_ < hiR25)); have n27_ := Aside0.mk (fun k_ h1_ h2_ => by have := UPR10.out; rw [← hloR25] at this; omega : ∀ k_, loR25 ≤ k_ ∧ k_ < hiR25 → ¬ (loR10 ≤ k_ ∧ k_ < hiR10)); have n28_ := Aside0.mk (fun k_ h1_ h2_ => by have := UPR12.out; rw [← hloR25] at this; omega : ∀ k_, loR12 ≤ k_ ∧ k_ < hiR12 → ¬ (loR25 ≤ k_ ∧ k_ < hiR25)); have n29_ := Aside0.mk (fun k_ h1_ h2_ => by have := UPR12.out; rw [← hloR25] at this; omega : ∀ k_, loR25 ≤ k_ ∧ k_ < hiR25 → ¬ (loR12 ≤ k_ ∧ k_ < hiR12)); have n30_ := Aside0.mk (fun k_ h1_ h2_ => by have := UPR15.out; rw [← hloR25] at this; omega : ∀ k_, loR15 ≤ k_ ∧ k_ < hiR15 → ¬ (loR25 ≤ k_ ∧ k_ < hiR25)); have n31_ := Aside0.mk (fun k_ h1_ h2_ => by have := UPR15.out; rw [← hloR25] at this; omega : ∀ k_, loR25 ≤ k_ ∧ k_ < hiR25 → ¬ (loR15 ≤ k_ ∧ k_ < hiR15)); have n32_ := Aside0.mk (fun k_ h1_ h2_ => by have := UPR18.out; rw [← hloR25] at this; omega : ∀ k_, loR18 ≤ k_ ∧ k_ < hiR18 → ¬ (loR25 ≤ k_ ∧ k_ < hiR25)); have n33_ := Aside0.mk (fun k_ h1_ h2_ => by have := UPR18.out; rw [← hloR25] at this; omega : ∀ k_, loR25 ≤ k_ ∧ k_ < hiR25 → ¬ (loR18 ≤ k_ ∧ k_ < hiR18)); have n34_ := Aside0.mk (fun k_ h1_ h2_ => by have := UPR22.out; rw [← hloR25] at this; omega : ∀ k_, loR22 ≤ k_ ∧ k_ < hiR22 → ¬ (loR25 ≤ k_ ∧ k_ < hiR25)); have n35_ := Aside0.mk (fun k_ h1_ h2_ => by have := UPR22.out; rw [← hloR25] at this; omega : ∀ k_, loR25 ≤ k_ ∧ k_ < hiR25 → ¬ (loR22 ≤ k_ ∧ k_ < hiR22)); have n36_ := Aside0.mk (fun k_ hk_ => by have := GUgb1.out; rw [← hloR25] at this; omega : ∀ k_, loR25 ≤ k_ ∧ k_ < hiR25 → k_ ≠ gb1); have n37_ := Aside0.mk (fun k_ hk_ => by have := GUgb2.out; rw [← hloR25] at this; omega : ∀ k_, loR25 ≤ k_ ∧ k_ < hiR25 → k_ ≠ gb2); have n38_ := Aside0.mk (fun k_ hk_ => by have := GUgb19.out; rw [← hloR25] at this; omega : ∀ k_, loR25 ≤ k_ ∧ k_ < hiR25 → k_ ≠ gb19); have n39_ := Aside0.mk (fun k_ hk_ => by have := GUgb23.out; rw [← hloR25] at this; omega : ∀ k_, loR25 ≤ k_ ∧ k_ < hiR25 → k_ ≠ gb23); clear HOR7; clear HOR10; clear HOR12; clear HOR15; clear HOR18; clear HOR22; clear UPR7; clear UPR10; clear UPR12; clear UPR15; clear UPR18; clear UPR22; clear BKgb1; clear BKgb2; clear BKgb19; clear BKgb23; clear GUgb1; clear GUgb2; clear GUgb19; clear GUgb23; clear HB; clear HBM; have HOR7 := n0_; have HOR10 := n1_; have HOR12 := n2_; have HOR15 := n3_; have HOR18 := n4_; have HOR22 := n5_; have UPR7 := n6_; have UPR10 := n7_; have UPR12 := n8_; have UPR15 := n9_; have UPR18 := n10_; have UPR22 := n11_; have BKgb1 := n12_; have BKgb2 := n13_; have BKgb19 := n14_; have BKgb23 := n15_; have GUgb1 := n16_; have GUgb2 := n17_; have GUgb19 := n18_; have GUgb23 := n19_; have HB := n20_; have HBM := n21_; have HOR25 := n22_; have UPR25 := n23_; have NRR7_R25 := n24_; have NRR25_R7 := n25_; have NRR10_R25 := n26_; have NRR25_R10 := n27_; have NRR12_R25 := n28_; have NRR25_R12 := n29_; have NRR15_R25 := n30_; have NRR25_R15 := n31_; have NRR18_R25 := n32_; have NRR25_R18 := n33_; have NRR22_R25 := n34_; have NRR25_R22 := n35_; have NER25_gb1 := n36_; have NER25_gb2 := n37_; have NER25_gb19 := n38_; have NER25_gb23 := n39_; clear n0_ n1_ n2_ n3_ n4_ n5_ n6_ n7_ n8_ n9_ n10_ n11_ n12_ n13_ n14_ n15_ n16_ n17_ n18_ n19_ n20_ n21_ n22_ n23_ n24_ n25_ n26_ n27_ n28_ n29_ n30_ n31_ n32_ n33_ n34_ n35_ n36_ n37_ n38_ n39_; clear hb; clear hoR25 hloR25 hhiR25; obtain ⟨AR25, cR25, eqR25⟩ := Kd.R_slice HOR25.out; subst eqR25; (try clear hczgb1_0); (try clear hfzgb1_0); (try clear hczgb1_1); (try clear hfzgb1_1); (try clear hczgb2_0); (try clear hfzgb2_0); (try clear hczgb2_1); (try clear hfzgb2_1); (try clear hczgb19_0); (try clear hfzgb19_0); (try clear hczgb19_1); (try clear hfzgb19_1); (try clear hczgb23_0); (try clear hfzgb23_0); (try clear hczgb23_1); (try clear hfzgb23_1); have hczgb1_0 : w_16.cell? ⟨gb1, 0, none⟩ = some (.int .i64 a0_0) := (blk_cell BKgb1.out 0).trans rfl; have hfzgb1_0 := blk_frozen BKgb1.out 0; have hczgb1_1 : w_16.cell? ⟨gb1, 1, none⟩ = some (.slice A0_1 l0_1.length c0_1) := (blk_cell BKgb1.out 1).trans rfl; have hfzgb1_1 := blk_frozen BKgb1.out 1; have hczgb2_0 : w_16.cell? ⟨gb2, 0, none⟩ = some (.int .i64 a1_0) := (blk_cell BKgb2.out 0).trans rfl; have hfzgb2_0 := blk_frozen BKgb2.out 0; have hczgb2_1 : w_16.cell? ⟨gb2, 1, none⟩ = some (.slice A1_1 l1_1.length c1_1) := (blk_cell BKgb2.out 1).trans rfl; have hfzgb2_1 := blk_frozen BKgb2.out 1; have hczgb19_0 : w_16.cell? ⟨gb19, 0, none⟩ = some (.int .i64 t16) := (blk_cell BKgb19.out 0).trans rfl; have hfzgb19_0 := blk_frozen BKgb19.out 0; have hczgb19_1 : w_16.cell? ⟨gb19, 1, none⟩ = some (.slice AR18 t17.length cR18) := (blk_cell BKgb19.out 1).trans rfl; have hfzgb19_1 := blk_frozen BKgb19.out 1; have hczgb23_0 : w_16.cell? ⟨gb23, 0, none⟩ = some (.int .i64 t20) := (blk_cell BKgb23.out 0).trans rfl; have hfzgb23_0 := blk_frozen BKgb23.out 0; have hczgb23_1 : w_16.cell? ⟨gb23, 1, none⟩ = some (.slice AR22 t21.length cR22) := (blk_cell BKgb23.out 1).trans rfl; have hfzgb23_1 := blk_frozen BKgb23.out 1) | ((with_reducible refine gate_callee (f := 45) rfl ?_); refine goesL_ (some 53) rfl rfl Try.func45 (by kernel_rfl) rfl #[.agg #[.int .i64 t16, .slice AR18 t17.length cR18], .agg #[.int .i64 t20, .slice AR22 t21.length cR22], .slice AR25 t24.length cR25] rfl (by (try simp only [List.map_toArray, List.map_cons, List.map_nil]); first | done | rfl) ?_; (with_reducible refine (impl_SetErrors.calls k t16 _ _ t17 t20 _ _ t21 _ _ t24 t26 t60 _ ?side1 ?side2 ?side3 ?side4 ?side5 ?side6 E13.out).mono ?_); (case side1 => exact (Kd.R_reads' HOR18.out).2.2); (case side2 => exact (Kd.R_reads' HOR18.out).2.1); (case side3 => exact (Kd.R_reads' HOR22.out).2.2); (case side4 => exact (Kd.R_reads' HOR22.out).2.1); (case side5 => exact (Kd.R_reads' HOR25.out).2.2); (case side6 => exact (Kd.R_reads' HOR25.out).2.1); rintro e w_17 ⟨vR28, rfl, hoR28, hb⟩; refine ⟨_, rfl, ?_⟩; obtain ⟨loR28, hloR28⟩ : ∃ n_ : Nat, n_ = w_16.heap.size := ⟨_, rfl⟩; obtain ⟨hiR28, hhiR28⟩ : ∃ n_ : Nat, n_ = w_17.heap.size := ⟨_, rfl⟩; have n0_ := Aside0.mk (Kd.R_below HOR7.out hb); have n1_ := Aside0.mk (Kd.R_below HOR10.out hb); have n2_ := Aside0.mk (Kd.R_below HOR12.out hb); have n3_ := Aside0.mk (Kd.R_below HOR15.out hb); have n4_ := Aside0.mk (Kd.R_below HOR18.out hb); have n5_ := Aside0.mk (Kd.R_below HOR22.out hb); have n6_ := Aside0.mk (Kd.R_below HOR25.out hb); have n7_ := Aside0.mk (Nat.le_trans UPR7.out hb.size); have n8_ := Aside0.mk (Nat.le_trans UPR10.out hb.size); have n9_ := Aside0.mk (Nat.le_trans UPR12.out hb.size); have n10_ := Aside0.mk (Nat.le_trans UPR15.out hb.size); have n11_ := Aside0.mk (Nat.le_trans UPR18.out hb.size); have n12_ := Aside0.mk (Nat.le_trans UPR22.out hb.size); have n13_ := Aside0.mk (Nat.le_trans UPR25.out hb.size); have n14_ := Aside0.mk (blk_below (g := gb1) BKgb1.out hb); have n15_ := Aside0.mk (blk_below (g := gb2) BKgb2.out hb); have n16_ := Aside0.mk (blk_below (g := gb19) BKgb19.out hb); have n17_ := Aside0.mk (blk_below (g := gb23) BKgb23.out hb); have n18_ := Aside0.mk (Nat.lt_of_lt_of_le GUgb1.out hb.size); have n19_ := Aside0.mk (Nat.lt_of_lt_of_le GUgb2.out hb.size); have n20_ := Aside0.mk (Nat.lt_of_lt_of_le GUgb19.out hb.size); have n21_ := Aside0.mk (Nat.lt_of_lt_of_le GUgb23.out hb.size); have n22_ := Aside0.mk (below_step HB.out hb); have n23_ := Aside0.mk (below_step HBM.out hb); have n24_ := Aside0.mk (Kd.R_lower (Kd.R_mono (ok' := fun k_ => loR28 ≤ k_ ∧ k_ < hiR28) (Kd.R_bound hoR28) (fun k_ hk_ => ⟨by rw [hloR28]; exact hk_.2.1, by rw [hhiR28]; exact hk_.2.2.1⟩)) (below_size HBM.out)); have n25_ := Aside0.mk (by rw [hhiR28]; exact Nat.le_refl _ : hiR28 ≤ w_17.heap.size); have n26_ := Aside0.mk (fun k_ h1_ h2_ => by have := UPR7.out; rw [← hloR28] at this; omega : ∀ k_, loR7 ≤ k_ ∧ k_ < hiR7 → ¬ (loR28 ≤ k_ ∧ k_ < hiR28)); have n27_ := Aside0.mk (fun k_ h1_ h2_ => by have := UPR7.out; rw [← hloR28] at this; omega : ∀ k_, loR28 ≤ k_ ∧ k_ < hiR28 → ¬ (loR7 ≤ k_ ∧ k_ < hiR7)); have n28_ := Aside0.mk (fun k_ h1_ h2_ => by have := UPR10.out; rw [← hloR28] at this; omega : ∀ k_, loR10 ≤ k_ ∧ k_ < hiR10 → ¬ (loR28 ≤ k_ ∧ k_ < hiR28)); have n29_ := Aside0.mk (fun k_ h1_ h2_ => by have := UPR10.out; rw [← hloR28] at this; omega : ∀ k_, loR28 ≤ k_ ∧ k_ < hiR28 → ¬ (loR10 ≤ k_ ∧ k_ < hiR10)); have n30_ := Aside0.mk (fun k_ h1_ h2_ => by have := UPR12.out; rw [← hloR28] at this; omega : ∀ k_, loR12 ≤ k_ ∧ k_ < hiR12 → ¬ (loR28 ≤ k_ ∧ k_ < hiR28)); have n31_ := Aside0.mk (fun k_ h1_ h2_ => by have := UPR12.out; rw [← hloR28] at this; omega : ∀ k_, loR28 ≤ k_ ∧ k_ < hiR28 → ¬ (loR12 ≤ k_ ∧ k_ < hiR12)); have n32_ := Aside0.mk (fun k_ h1_ h2_ => by have := UPR15.out; rw [← hloR28] at this; omega : ∀ k_, loR15 ≤ k_ ∧ k_ < hiR15 → ¬ (loR28 ≤ k_ ∧ k_ < hiR28)); have n33_ := Aside0.mk (fun k_ h1_ h2_ => by have := UPR15.out; rw [← hloR28] at this; omega : ∀ k_, loR28 ≤ k_ ∧ k_ < hiR28 → ¬ (loR15 ≤ k_ ∧ k_ < hiR15)); have n34_ := Aside0.mk (fun k_ h1_ h2_ => by have := UPR18.out; rw [← hloR28] at this; omega : ∀ k_, loR18 ≤ k_ ∧ k_ < hiR18 → ¬ (loR28 ≤ k_ ∧ k_ < hiR28)); have n35_ := Aside0.mk (fun k_ h1_ h2_ => by have := UPR18.out; rw [← hloR28] at this; omega : ∀ k_, loR28 ≤ k_ ∧ k_ < hiR28 → ¬ (loR18 ≤ k_ ∧ k_ < hiR18)); have n36_ := Aside0.mk (fun k_ h1_ h2_ => by have := UPR22.out; rw [← hloR28] at this; omega : ∀ k_, loR22 ≤ k_ ∧ k_ < hiR22 → ¬ (loR28 ≤ k_ ∧ k_ < hiR28)); have n37_ := Aside0.mk (fun k_ h1_ h2_ => by have := UPR22.out; rw [← hloR28] at this; omega : ∀ k_, loR28 ≤ k_ ∧ k_ < hiR28 → ¬ (loR22 ≤ k_ ∧ k_ < hiR22)); have n38_ := Aside0.mk (fun k_ h1_ h2_ => by have := UPR25.out; rw [← hloR28] at this; omega : ∀ k_, loR25 ≤ k_ ∧ k_ < hiR25 → ¬ (loR28 ≤ k_ ∧ k_ < hiR28)); have n39_ := Aside0.mk (fun k_ h1_ h2_ => by have := UPR25.out; rw [← hloR28] at this; omega : ∀ k_, loR28 ≤ k_ ∧ k_ < hiR28 → ¬ (loR25 ≤ k_ ∧ k_ < hiR25)); have n40_ := Aside0.mk (fun k_ hk_ => by have := GUgb1.out; rw [← hloR28] at this; omega : ∀ k_, loR28 ≤ k_ ∧ k_ < hiR28 → k_ ≠ gb1); have n41_ := Aside0.mk (fun k_ hk_ => by have := GUgb2.out; rw [← hloR28] at this; omega : ∀ k_, loR28 ≤ k_ ∧ k_ < hiR28 → k_ ≠ gb2); have n42_ := Aside0.mk (fun k_ hk_ => by have := GUgb19.out; rw [← hloR28] at this; omega : ∀ k_, loR28 ≤ k_ ∧ k_ < hiR28 → k_ ≠ gb19); have n43_ := Aside0.mk (fun k_ hk_ => by have := GUgb23.out; rw [← hloR28] at this; omega : ∀ k_, loR28 ≤ k_ ∧ k_ < hiR28 → k_ ≠ gb23); clear HOR7; clear HOR10; clear HOR12; clear HOR15; clear HOR18; clear HOR22; clear HOR25; clear UPR7; clear UPR10; clear UPR12; clear UPR15; clear UPR18; clear UPR22; clear UPR25; clear BKgb1; clear BKgb2; clear BKgb19; clear BKgb23; clear GUgb1; clear GUgb2; clear GUgb19; clear GUgb23; clear HB; clear HBM; have HOR7 := n0_; have HOR10 := n1_; have HOR12 := n2_; have HOR15 := n3_; have HOR18 := n4_; have HOR22 := n5_; have HOR25 := n6_; have UPR7 := n7_; have UPR10 := n8_; have UPR12 := n9_; have UPR15 := n10_; have UPR18 := n11_; have UPR22 := n12_; have UPR25 := n13_; have BKgb1 := n14_; have BKgb2 := n15_; have BKgb19 := n16_; have BKgb23 := n17_; have GUgb1 := n18_; have GUgb2 := n19_; have GUgb19 := n20_; have GUgb23 := n21_; have HB := n22_; have HBM := n23_; have HOR28 := n24_; have UPR28 := n25_; have NRR7_R28 := n26_; have NRR28_R7 := n27_; have NRR10_R28 := n28_; have NRR28_R10 := n29_; have NRR12_R28 := n30_; have NRR28_R12 := n31_; have NRR15_R28 := n32_; have NRR28_R15 := n33_; have NRR18_R28 := n34_; have NRR28_R18 := n35_; have NRR22_R28 := n36_; have NRR28_R22 := n37_; have NRR25_R28 := n38_; have NRR28_R25 := n39_; have NER28_gb1 := n40_; have NER28_gb2 := n41_; have NER28_gb19 := n42_; have NER28_gb23 := n43_; clear n0_ n1_ n2_ n3_ n4_ n5_ n6_ n7_ n8_ n9_ n10_ n11_ n12_ n13_ n14_ n15_ n16_ n17_ n18_ n19_ n20_ n21_ n22_ n23_ n24_ n25_ n26_ n27_ n28_ n29_ n30_ n31_ n32_ n33_ n34_ n35_ n36_ n37_ n38_ n39_ n40_ n41_ n42_ n43_; clear hb; clear hoR28 hloR28 hhiR28; obtain ⟨AR28, cR28, eqR28⟩ := Kd.R_slice HOR28.out; subst eqR28; (try clear hczgb1_0); (try clear hfzgb1_0); (try clear hczgb1_1); (try clear hfzgb1_1); (try clear hczgb2_0); (try clear hfzgb2_0); (try clear hczgb2_1); (try clear hfzgb2_1); (try clear hczgb19_0); (try clear hfzgb19_0); (try clear hczgb19_1); (try clear hfzgb19_1); (try clear hczgb23_0); (try clear hfzgb23_0); (try clear hczgb23_1); (try clear hfzgb23_1); have hczgb1_0 : w_17.cell? ⟨gb1, 0, none⟩ = some (.int .i64 a0_0) := (blk_cell BKgb1.out 0).trans rfl; have hfzgb1_0 := blk_frozen BKgb1.out 0; have hczgb1_1 : w_17.cell? ⟨gb1, 1, none⟩ = some (.slice A0_1 l0_1.length c0_1) := (blk_cell BKgb1.out 1).trans rfl; have hfzgb1_1 := blk_frozen BKgb1.out 1; have hczgb2_0 : w_17.cell? ⟨gb2, 0, none⟩ = some (.int .i64 a1_0) := (blk_cell BKgb2.out 0).trans rfl; have hfzgb2_0 := blk_frozen BKgb2.out 0; have hczgb2_1 : w_17.cell? ⟨gb2, 1, none⟩ = some (.slice A1_1 l1_1.length c1_1) := (blk_cell BKgb2.out 1).trans rfl; have hfzgb2_1 := blk_frozen BKgb2.out 1; have hczgb19_0 : w_17.cell? ⟨gb19, 0, none⟩ = some (.int .i64 t16) := (blk_cell BKgb19.out 0).trans rfl; have hfzgb19_0 := blk_frozen BKgb19.out 0; have hczgb19_1 : w_17.cell? ⟨gb19, 1, none⟩ = some (.slice AR18 t17.length cR18) := (blk_cell BKgb19.out 1).trans rfl; have hfzgb19_1 := blk_frozen BKgb19.out 1; have hczgb23_0 : w_17.cell? ⟨gb23, 0, none⟩ = some (.int .i64 t20) := (blk_cell BKgb23.out 0).trans rfl; have hfzgb23_0 := blk_frozen BKgb23.out 0; have hczgb23_1 : w_17.cell? ⟨gb23, 1, none⟩ = some (.slice AR22 t21.length cR22) := (blk_cell BKgb23.out 1).trans rfl; have hfzgb23_1 := blk_frozen BKgb23.out 1) | ((with_reducible refine gate_callee (f := 37) rfl ?_); refine goesL_ (some 58) rfl rfl Try.func37 (by kernel_rfl) rfl #[.slice AR28 t26.length cR28, .slice AR15 t13.length cR15] rfl (by (try simp only [List.map_toArray, List.map_cons, List.map_nil]); first | done | rfl) ?_; (with_reducible refine (laws_eqInt64S.calls k _ _ t26 _ _ t13 true _ ?side1 ?side2 ?side3 ?side4 E14.out).mono ?_); (case side1 => exact (Kd.R_reads' HOR28.out).2.2); (case side2 => exact (Kd.R_reads' HOR28.out).2.1); (case side3 => exact (Kd.R_reads' HOR15.out).2.2); (case side4 => exact (Kd.R_reads' HOR15.out).2.1); rintro e w_18 ⟨rfl, hd⟩; have hb := Drawn0.below hd; refine ⟨_, rfl, ?_⟩; have n0_ := Aside0.mk (Kd.R_below HOR7.out hb); have n1_ := Aside0.mk (Kd.R_below HOR10.out hb); have n2_ := Aside0.mk (Kd.R_below HOR12.out hb); have n3_ := Aside0.mk (Kd.R_below HOR15.out hb); have n4_ := Aside0.mk (Kd.R_below HOR18.out hb); have n5_ := Aside0.mk (Kd.R_below HOR22.out hb); have n6_ := Aside0.mk (Kd.R_below HOR25.out hb); have n7_ := Aside0.mk (Kd.R_below HOR28.out hb); have n8_ := Aside0.mk (Nat.le_trans UPR7.out hb.size); have n9_ := Aside0.mk (Nat.le_trans UPR10.out hb.size); have n10_ := Aside0.mk (Nat.le_trans UPR12.out hb.size); have n11_ := Aside0.mk (Nat.le_trans UPR15.out hb.size); have n12_ := Aside0.mk (Nat.le_trans UPR18.out hb.size); have n13_ := Aside0.mk (Nat.le_trans UPR22.out hb.size); have n14_ := Aside0.mk (Nat.le_trans UPR25.out hb.size); have n15_ := Aside0.mk (Nat.le_trans UPR28.out hb.size); have n16_ := Aside0.mk (blk_below (g := gb1) BKgb1.out hb); have n17_ := Aside0.mk (blk_below (g := gb2) BKgb2.out hb); have n18_ := Aside0.mk (blk_below (g := gb19) BKgb19.out hb); have n19_ := Aside0.mk (blk_below (g := gb23) BKgb23.out hb); have n20_ := Aside0.mk (Nat.lt_of_lt_of_le GUgb1.out hb.size); have n21_ := Aside0.mk (Nat.lt_of_lt_of_le GUgb2.out hb.size); have n22_ := Aside0.mk (Nat.lt_of_lt_of_le GUgb19.out hb.size); have n23_ := Aside0.mk (Nat.lt_of_lt_of_le GUgb23.out hb.size); have n24_ := Aside0.mk (below_step HB.out hb); have n25_ := Aside0.mk (below_step HBM.out hb); clear HOR7; clear HOR10; clear HOR12; clear HOR15; clear HOR18; clear HOR22; clear HOR25; clear HOR28; clear UPR7; clear UPR10; clear UPR12; clear UPR15; clear UPR18; clear UPR22; clear UPR25; clear UPR28; clear BKgb1; clear BKgb2; clear BKgb19; clear BKgb23; clear GUgb1; clear GUgb2; clear GUgb19; clear GUgb23; clear HB; clear HBM; have HOR7 := n0_; have HOR10 := n1_; have HOR12 := n2_; have HOR15 := n3_; have HOR18 := n4_; have HOR22 := n5_; have HOR25 := n6_; have HOR28 := n7_; have UPR7 := n8_; have UPR10 := n9_; have UPR12 := n10_; have UPR15 := n11_; have UPR18 := n12_; have UPR22 := n13_; have UPR25 := n14_; have UPR28 := n15_; have BKgb1 := n16_; have BKgb2 := n17_; have BKgb19 := n18_; have BKgb23 := n19_; have GUgb1 := n20_; have GUgb2 := n21_; have GUgb19 := n22_; have GUgb23 := n23_; have HB := n24_; have HBM := n25_; clear n0_ n1_ n2_ n3_ n4_ n5_ n6_ n7_ n8_ n9_ n10_ n11_ n12_ n13_ n14_ n15_ n16_ n17_ n18_ n19_ n20_ n21_ n22_ n23_ n24_ n25_; clear hb; clear hd; (try clear hczgb1_0); (try clear hfzgb1_0); (try clear hczgb1_1); (try clear hfzgb1_1); (try clear hczgb2_0); (try clear hfzgb2_0); (try clear hczgb2_1); (try clear hfzgb2_1); (try clear hczgb19_0); (try clear hfzgb19_0); (try clear hczgb19_1); (try clear hfzgb19_1); (try clear hczgb23_0); (try clear hfzgb23_0); (try clear hczgb23_1); (try clear hfzgb23_1); have hczgb1_0 : w_18.cell? ⟨gb1, 0, none⟩ = some (.int .i64 a0_0) := (blk_cell BKgb1.out 0).trans rfl; have hfzgb1_0 := blk_frozen BKgb1.out 0; have hczgb1_1 : w_18.cell? ⟨gb1, 1, none⟩ = some (.slice A0_1 l0_1.length c0_1) := (blk_cell BKgb1.out 1).trans rfl; have hfzgb1_1 := blk_frozen BKgb1.out 1; have hczgb2_0 : w_18.cell? ⟨gb2, 0, none⟩ = some (.int .i64 a1_0) := (blk_cell BKgb2.out 0).trans rfl; have hfzgb2_0 := blk_frozen BKgb2.out 0; have hczgb2_1 : w_18.cell? ⟨gb2, 1, none⟩ = some (.slice A1_1 l1_1.length c1_1) := (blk_cell BKgb2.out 1).trans rfl; have hfzgb2_1 := blk_frozen BKgb2.out 1; have hczgb19_0 : w_18.cell? ⟨gb19, 0, none⟩ = some (.int .i64 t16) := (blk_cell BKgb19.out 0).trans rfl; have hfzgb19_0 := blk_frozen BKgb19.out 0; have hczgb19_1 : w_18.cell? ⟨gb19, 1, none⟩ = some (.slice AR18 t17.length cR18) := (blk_cell BKgb19.out 1).trans rfl; have hfzgb19_1 := blk_frozen BKgb19.out 1; have hczgb23_0 : w_18.cell? ⟨gb23, 0, none⟩ = some (.int .i64 t20) := (blk_cell BKgb23.out 0).trans rfl; have hfzgb23_0 := blk_frozen BKgb23.out 0; have hczgb23_1 : w_18.cell? ⟨gb23, 1, none⟩ = some (.slice AR22 t21.length cR22) := (blk_cell BKgb23.out 1).trans rfl; have hfzgb23_1 := blk_frozen BKgb23.out 1))
 have n0_ := Aside0.mk (Kd.R_drew HOR7.out)
 have n1_ := Aside0.mk (Kd.R_drew HOR10.out)
 have n2_ := Aside0.mk (Kd.R_drew HOR12.out)
 have n3_ := Aside0.mk (Kd.R_drew HOR15.out)
 have n4_ := Aside0.mk (Kd.R_drew HOR18.out)
 have n5_ := Aside0.mk (Kd.R_drew HOR22.out)
 have n6_ := Aside0.mk (Kd.R_drew HOR25.out)
 have n7_ := Aside0.mk (Kd.R_drew HOR28.out)
 have n8_ := Aside0.mk (show hiR7 ≤ w_18.drew.heap.size from UPR7.out)
 have n9_ := Aside0.mk (show hiR10 ≤ w_18.drew.heap.size from UPR10.out)
 have n10_ := Aside0.mk (show hiR12 ≤ w_18.drew.heap.size from UPR12.out)
 have n11_ := Aside0.mk (show hiR15 ≤ w_18.drew.heap.size from UPR15.out)
 have n12_ := Aside0.mk (show hiR18 ≤ w_18.drew.heap.size from UPR18.out)
 have n13_ := Aside0.mk (show hiR22 ≤ w_18.drew.heap.size from UPR22.out)
 have n14_ := Aside0.mk (show hiR25 ≤ w_18.drew.heap.size from UPR25.out)
 have n15_ := Aside0.mk (show hiR28 ≤ w_18.drew.heap.size from UPR28.out)
 have n16_ := Aside0.mk (blk_drew BKgb1.out)
 have n17_ := Aside0.mk (blk_drew BKgb2.out)
 have n18_ := Aside0.mk (blk_drew BKgb19.out)
 have n19_ := Aside0.mk (blk_drew BKgb23.out)
 have n20_ := Aside0.mk (show gb1 < w_18.drew.heap.size from GUgb1.out)
 have n21_ := Aside0.mk (show gb2 < w_18.drew.heap.size from GUgb2.out)
 have n22_ := Aside0.mk (show gb19 < w_18.drew.heap.size from GUgb19.out)
 have n23_ := Aside0.mk (show gb23 < w_18.drew.heap.size from GUgb23.out)
 have n24_ := Aside0.mk (below_drew1 HB.out)
 have n25_ := Aside0.mk (below_drew1 HBM.out)
 clear HOR7
 clear HOR10
 clear HOR12
 clear HOR15
 clear HOR18
 clear HOR22
 clear HOR25
 clear HOR28
 clear UPR7
 clear UPR10
 clear UPR12
 clear UPR15
 clear UPR18
 clear UPR22
 clear UPR25
 clear UPR28
 clear BKgb1
 clear BKgb2
 clear BKgb19
 clear BKgb23
 clear GUgb1
 clear GUgb2
 clear GUgb19
 clear GUgb23
 clear HB
 clear HBM
 have HOR7 := n0_
 have HOR10 := n1_
 have HOR12 := n2_
 have HOR15 := n3_
 have HOR18 := n4_
 have HOR22 := n5_
 have HOR25 := n6_
 have HOR28 := n7_
 have UPR7 := n8_
 have UPR10 := n9_
 have UPR12 := n10_
 have UPR15 := n11_
 have UPR18 := n12_
 have UPR22 := n13_
 have UPR25 := n14_
 have UPR28 := n15_
 have BKgb1 := n16_
 have BKgb2 := n17_
 have BKgb19 := n18_
 have BKgb23 := n19_
 have GUgb1 := n20_
 have GUgb2 := n21_
 have GUgb19 := n22_
 have GUgb23 := n23_
 have HB := n24_
 have HBM := n25_
 clear n0_ n1_ n2_ n3_ n4_ n5_ n6_ n7_ n8_ n9_ n10_ n11_ n12_ n13_ n14_ n15_ n16_ n17_ n18_ n19_ n20_ n21_ n22_ n23_ n24_ n25_
 (try clear hczgb1_0); (try clear hfzgb1_0)
 (try clear hczgb1_1); (try clear hfzgb1_1)
 (try clear hczgb2_0); (try clear hfzgb2_0)
 (try clear hczgb2_1); (try clear hfzgb2_1)
 (try clear hczgb19_0); (try clear hfzgb19_0)
 (try clear hczgb19_1); (try clear hfzgb19_1)
 (try clear hczgb23_0); (try clear hfzgb23_0)
 (try clear hczgb23_1); (try clear hfzgb23_1)
 refine start_ (n := 5) (S := fun w' => w'.cell? ⟨gb19, 0, none⟩ = some (.int .i64 t16) ∧ w'.cell? ⟨gb19, 1, none⟩ = some (.slice AR18 t17.length cR18) ∧ w'.cell? ⟨gb1, 0, none⟩ = some (.int .i64 a0_0) ∧ w'.cell? ⟨gb1, 1, none⟩ = some (.slice A0_1 l0_1.length c0_1)) (ds := []) #[false, false, false, false, false] (by kernel_rfl) rfl rfl ⟨(blk_cell BKgb19.out 0).trans rfl, (blk_cell BKgb19.out 1).trans rfl, (blk_cell BKgb1.out 0).trans rfl, (blk_cell BKgb1.out 1).trans rfl⟩ (fun hHeld => ?_)
 generalize w_18.drew = w_19 at HOR7 HOR10 HOR12 HOR15 HOR18 HOR22 HOR25 HOR28 UPR7 UPR10 UPR12 UPR15 UPR18 UPR22 UPR25 UPR28 BKgb1 BKgb2 BKgb19 BKgb23 GUgb1 GUgb2 GUgb19 GUgb23 HB HBM hHeld ⊢
 refine take_ (i := 0) (N := some 65) (v := ?_) (a' := ?_) #[true, false, false, false, false] rfl rfl (by kernel_rfl) (fun _ _ _ h => h) (Or.inl ⟨by rfl, ?_⟩) hHeld ?_ ?_
 rotate_left
 ·rintro w' ⟨s0, s1, s2, s3⟩
  go_simp
  with_reducible rfl
 rotate_left
 ·simp only [Act.put, List.setIfInBounds_toArray, List.set_cons_zero, List.set_cons_succ, i64_w, i32_w]
  rfl
 refine take_ (i := 1) (N := some 66) (v := ?_) (a' := ?_) #[true, true, false, false, false] rfl rfl (by kernel_rfl) (fun _ _ _ h => h) (Or.inl ⟨by rfl, ?_⟩) hHeld ?_ ?_
 rotate_left
 ·rintro w' ⟨s0, s1, s2, s3⟩
  go_simp
  with_reducible rfl
 rotate_left
 ·simp only [Act.put, List.setIfInBounds_toArray, List.set_cons_zero, List.set_cons_succ, i64_w, i32_w]
  rfl
 refine one_ (i := 2) (N := some 67) #[true, true, true, false, false] rfl rfl (by kernel_rfl) (by decide) (fun K hK => ?_)
 refine goes_ Try.func43 (by kernel_rfl) rfl #[.agg #[.int .i64 a0_0, .slice A0_1 l0_1.length c0_1]] (by rfl) rfl rfl (by (try simp only [List.map_toArray, List.map_cons, List.map_nil]); first | done | rfl) ?_
 (with_reducible refine (laws_toSystem.calls k a0_0 _ _ l0_1 t30 t31 _ ?side1 ?side2 E17.out).mono ?_)
 (case side1 => exact Kd.C_below HR0_1.out HB.out)
 (case side2 => exact HC0_1.out)
 rintro e w_20 ⟨vR32, rfl, hoR32, hb⟩
 refine ⟨_, rfl, ?_⟩
 obtain ⟨loR32, hloR32⟩ : ∃ n_ : Nat, n_ = w_19.heap.size := ⟨_, rfl⟩
 obtain ⟨hiR32, hhiR32⟩ : ∃ n_ : Nat, n_ = w_20.heap.size := ⟨_, rfl⟩
 have n0_ := Aside0.mk (Kd.R_below HOR7.out hb)
 have n1_ := Aside0.mk (Kd.R_below HOR10.out hb)
 have n2_ := Aside0.mk (Kd.R_below HOR12.out hb)
 have n3_ := Aside0.mk (Kd.R_below HOR15.out hb)
 have n4_ := Aside0.mk (Kd.R_below HOR18.out hb)
 have n5_ := Aside0.mk (Kd.R_below HOR22.out hb)
 have n6_ := Aside0.mk (Kd.R_below HOR25.out hb)
 have n7_ := Aside0.mk (Kd.R_below HOR28.out hb)
 have n8_ := Aside0.mk (Nat.le_trans UPR7.out hb.size)
 have n9_ := Aside0.mk (Nat.le_trans UPR10.out hb.size)
 have n10_ := Aside0.mk (Nat.le_trans UPR12.out hb.size)
 have n11_ := Aside0.mk (Nat.le_trans UPR15.out hb.size)
 have n12_ := Aside0.mk (Nat.le_trans UPR18.out hb.size)
 have n13_ := Aside0.mk (Nat.le_trans UPR22.out hb.size)
 have n14_ := Aside0.mk (Nat.le_trans UPR25.out hb.size)
 have n15_ := Aside0.mk (Nat.le_trans UPR28.out hb.size)
 have n16_ := Aside0.mk (blk_below (g := gb1) BKgb1.out hb)
 have n17_ := Aside0.mk (blk_below (g := gb2) BKgb2.out hb)
 have n18_ := Aside0.mk (blk_below (g := gb19) BKgb19.out hb)
 have n19_ := Aside0.mk (blk_below (g := gb23) BKgb23.out hb)
 have n20_ := Aside0.mk (Nat.lt_of_lt_of_le GUgb1.out hb.size)
 have n21_ := Aside0.mk (Nat.lt_of_lt_of_le GUgb2.out hb.size)
 have n22_ := Aside0.mk (Nat.lt_of_lt_of_le GUgb19.out hb.size)
 have n23_ := Aside0.mk (Nat.lt_of_lt_of_le GUgb23.out hb.size)
 have n24_ := Aside0.mk (below_step HB.out hb)
 have n25_ := Aside0.mk (below_step HBM.out hb)
 have n26_ := Aside0.mk (Kd.R_lower (Kd.R_mono (ok' := fun k_ => loR32 ≤ k_ ∧ k_ < hiR32) (Kd.R_bound hoR32) (fun k_ hk_ => ⟨by rw [hloR32]; exact hk_.2.1, by rw [hhiR32]; exact hk_.2.2.1⟩)) (below_size HBM.out))
 have n27_ := Aside0.mk (by rw [hhiR32]; exact Nat.le_refl _ : hiR32 ≤ w_20.heap.size)
 have n28_ := Aside0.mk (fun k_ h1_ h2_ => by have := UPR7.out; rw [← hloR32] at this; omega : ∀ k_, loR7 ≤ k_ ∧ k_ < hiR7 → ¬ (loR32 ≤ k_ ∧ k_ < hiR32))
 have n29_ := Aside0.mk (fun k_ h1_ h2_ => by have := UPR7.out; rw [← hloR32] at this; omega : ∀ k_, loR32 ≤ k_ ∧ k_ < hiR32 → ¬ (loR7 ≤ k_ ∧ k_ < hiR7))
 have n30_ := Aside0.mk (fun k_ h1_ h2_ => by have := UPR10.out; rw [← hloR32] at this; omega : ∀ k_, loR10 ≤ k_ ∧ k_ < hiR10 → ¬ (loR32 ≤ k_ ∧ k_ < hiR32))
 have n31_ := Aside0.mk (fun k_ h1_ h2_ => by have := UPR10.out; rw [← hloR32] at this; omega : ∀ k_, loR32 ≤ k_ ∧ k_ < hiR32 → ¬ (loR10 ≤ k_ ∧ k_ < hiR10))
 have n32_ := Aside0.mk (fun k_ h1_ h2_ => by have := UPR12.out; rw [← hloR32] at this; omega : ∀ k_, loR12 ≤ k_ ∧ k_ < hiR12 → ¬ (loR32 ≤ k_ ∧ k_ < hiR32))
 have n33_ := Aside0.mk (fun k_ h1_ h2_ => by have := UPR12.out; rw [← hloR32] at this; omega : ∀ k_, loR32 ≤ k_ ∧ k_ < hiR32 → ¬ (loR12 ≤ k_ ∧ k_ < hiR12))
 have n34_ := Aside0.mk (fun k_ h1_ h2_ => by have := UPR15.out; rw [← hloR32] at this; omega : ∀ k_, loR15 ≤ k_ ∧ k_ < hiR15 → ¬ (loR32 ≤ k_ ∧ k_ < hiR32))
 have n35_ := Aside0.mk (fun k_ h1_ h2_ => by have := UPR15.out; rw [← hloR32] at this; omega : ∀ k_, loR32 ≤ k_ ∧ k_ < hiR32 → ¬ (loR15 ≤ k_ ∧ k_ < hiR15))
 have n36_ := Aside0.mk (fun k_ h1_ h2_ => by have := UPR18.out; rw [← hloR32] at this; omega : ∀ k_, loR18 ≤ k_ ∧ k_ < hiR18 → ¬ (loR32 ≤ k_ ∧ k_ < hiR32))
 have n37_ := Aside0.mk (fun k_ h1_ h2_ => by have := UPR18.out; rw [← hloR32] at this; omega : ∀ k_, loR32 ≤ k_ ∧ k_ < hiR32 → ¬ (loR18 ≤ k_ ∧ k_ < hiR18))
 have n38_ := Aside0.mk (fun k_ h1_ h2_ => by have := UPR22.out; rw [← hloR32] at this; omega : ∀ k_, loR22 ≤ k_ ∧ k_ < hiR22 → ¬ (loR32 ≤ k_ ∧ k_ < hiR32))
 have n39_ := Aside0.mk (fun k_ h1_ h2_ => by have := UPR22.out; rw [← hloR32] at this; omega : ∀ k_, loR32 ≤ k_ ∧ k_ < hiR32 → ¬ (loR22 ≤ k_ ∧ k_ < hiR22))
 have n40_ := Aside0.mk (fun k_ h1_ h2_ => by have := UPR25.out; rw [← hloR32] at this; omega : ∀ k_, loR25 ≤ k_ ∧ k_ < hiR25 → ¬ (loR32 ≤ k_ ∧ k_ < hiR32))
 have n41_ := Aside0.mk (fun k_ h1_ h2_ => by have := UPR25.out; rw [← hloR32] at this; omega : ∀ k_, loR32 ≤ k_ ∧ k_ < hiR32 → ¬ (loR25 ≤ k_ ∧ k_ < hiR25))
 have n42_ := Aside0.mk (fun k_ h1_ h2_ => by have := UPR28.out; rw [← hloR32] at this; omega : ∀ k_, loR28 ≤ k_ ∧ k_ < hiR28 → ¬ (loR32 ≤ k_ ∧ k_ < hiR32))
 have n43_ := Aside0.mk (fun k_ h1_ h2_ => by have := UPR28.out; rw [← hloR32] at this; omega : ∀ k_, loR32 ≤ k_ ∧ k_ < hiR32 → ¬ (loR28 ≤ k_ ∧ k_ < hiR28))
 have n44_ := Aside0.mk (fun k_ hk_ => by have := GUgb1.out; rw [← hloR32] at this; omega : ∀ k_, loR32 ≤ k_ ∧ k_ < hiR32 → k_ ≠ gb1)
 have n45_ := Aside0.mk (fun k_ hk_ => by have := GUgb2.out; rw [← hloR32] at this; omega : ∀ k_, loR32 ≤ k_ ∧ k_ < hiR32 → k_ ≠ gb2)
 have n46_ := Aside0.mk (fun k_ hk_ => by have := GUgb19.out; rw [← hloR32] at this; omega : ∀ k_, loR32 ≤ k_ ∧ k_ < hiR32 → k_ ≠ gb19)
 have n47_ := Aside0.mk (fun k_ hk_ => by have := GUgb23.out; rw [← hloR32] at this; omega : ∀ k_, loR32 ≤ k_ ∧ k_ < hiR32 → k_ ≠ gb23)
 clear HOR7
 clear HOR10
 clear HOR12
 clear HOR15
 clear HOR18
 clear HOR22
 clear HOR25
 clear HOR28
 clear UPR7
 clear UPR10
 clear UPR12
 clear UPR15
 clear UPR18
 clear UPR22
 clear UPR25
 clear UPR28
 clear BKgb1
 clear BKgb2
 clear BKgb19
 clear BKgb23
 clear GUgb1
 clear GUgb2
 clear GUgb19
 clear GUgb23
 clear HB
 clear HBM
 have HOR7 := n0_
 have HOR10 := n1_
 have HOR12 := n2_
 have HOR15 := n3_
 have HOR18 := n4_
 have HOR22 := n5_
 have HOR25 := n6_
 have HOR28 := n7_
 have UPR7 := n8_
 have UPR10 := n9_
 have UPR12 := n10_
 have UPR15 := n11_
 have UPR18 := n12_
 have UPR22 := n13_
 have UPR25 := n14_
 have UPR28 := n15_
 have BKgb1 := n16_
 have BKgb2 := n17_
 have BKgb19 := n18_
 have BKgb23 := n19_
 have GUgb1 := n20_
 have GUgb2 := n21_
 have GUgb19 := n22_
 have GUgb23 := n23_
 have HB := n24_
 have HBM := n25_
 have HOR32 := n26_
 have UPR32 := n27_
 have NRR7_R32 := n28_
 have NRR32_R7 := n29_
 have NRR10_R32 := n30_
 have NRR32_R10 := n31_
 have NRR12_R32 := n32_
 have NRR32_R12 := n33_
 have NRR15_R32 := n34_
 have NRR32_R15 := n35_
 have NRR18_R32 := n36_
 have NRR32_R18 := n37_
 have NRR22_R32 := n38_
 have NRR32_R22 := n39_
 have NRR25_R32 := n40_
 have NRR32_R25 := n41_
 have NRR28_R32 := n42_
 have NRR32_R28 := n43_
 have NER32_gb1 := n44_
 have NER32_gb2 := n45_
 have NER32_gb19 := n46_
 have NER32_gb23 := n47_
 clear n0_ n1_ n2_ n3_ n4_ n5_ n6_ n7_ n8_ n9_ n10_ n11_ n12_ n13_ n14_ n15_ n16_ n17_ n18_ n19_ n20_ n21_ n22_ n23_ n24_ n25_ n26_ n27_ n28_ n29_ n30_ n31_ n32_ n33_ n34_ n35_ n36_ n37_ n38_ n39_ n40_ n41_ n42_ n43_ n44_ n45_ n46_ n47_
 clear hb
 clear hoR32 hloR32 hhiR32
 obtain ⟨AR32, cR32, eqR32⟩ := Kd.R_slice HOR32.out
 subst eqR32
 refine hK.out _ _ ⟨(blk_cell BKgb19.out 0).trans rfl, (blk_cell BKgb19.out 1).trans rfl, (blk_cell BKgb1.out 0).trans rfl, (blk_cell BKgb1.out 1).trans rfl⟩ (fun hHeld => ?_)
 clear hK K
 refine norm_ (a' := ?_) ?_ ?_
 rotate_left
 ·show Act.put _ (some 67) _ = _
  simp only [Act.put, List.setIfInBounds_toArray, List.set_cons_zero, List.set_cons_succ, i64_w, i32_w]
  rfl
 refine one_ (i := 3) (N := some 68) #[true, true, true, true, false] rfl rfl (by kernel_rfl) (by decide) (fun K hK => ?_)
 refine goes_ Try.func46 (by kernel_rfl) rfl #[.agg #[.int .i64 t16, .slice AR18 t17.length cR18], .agg #[.int .i64 t30, .slice AR32 t31.length cR32]] (by rfl) rfl rfl (by (try simp only [List.map_toArray, List.map_cons, List.map_nil]); first | done | rfl) ?_
 (with_reducible refine (laws_eqSystem.calls k t16 _ _ t17 t30 _ _ t31 true _ ?side1 ?side2 ?side3 ?side4 E18.out).mono ?_)
 (case side1 => exact (Kd.R_reads' HOR18.out).2.2)
 (case side2 => exact (Kd.R_reads' HOR18.out).2.1)
 (case side3 => exact (Kd.R_reads' HOR32.out).2.2)
 (case side4 => exact (Kd.R_reads' HOR32.out).2.1)
 rintro e w_21 ⟨rfl, hb⟩
 refine ⟨_, rfl, ?_⟩
 have n0_ := Aside0.mk (Kd.R_below HOR7.out hb)
 have n1_ := Aside0.mk (Kd.R_below HOR10.out hb)
 have n2_ := Aside0.mk (Kd.R_below HOR12.out hb)
 have n3_ := Aside0.mk (Kd.R_below HOR15.out hb)
 have n4_ := Aside0.mk (Kd.R_below HOR18.out hb)
 have n5_ := Aside0.mk (Kd.R_below HOR22.out hb)
 have n6_ := Aside0.mk (Kd.R_below HOR25.out hb)
 have n7_ := Aside0.mk (Kd.R_below HOR28.out hb)
 have n8_ := Aside0.mk (Kd.R_below HOR32.out hb)
 have n9_ := Aside0.mk (Nat.le_trans UPR7.out hb.size)
 have n10_ := Aside0.mk (Nat.le_trans UPR10.out hb.size)
 have n11_ := Aside0.mk (Nat.le_trans UPR12.out hb.size)
 have n12_ := Aside0.mk (Nat.le_trans UPR15.out hb.size)
 have n13_ := Aside0.mk (Nat.le_trans UPR18.out hb.size)
 have n14_ := Aside0.mk (Nat.le_trans UPR22.out hb.size)
 have n15_ := Aside0.mk (Nat.le_trans UPR25.out hb.size)
 have n16_ := Aside0.mk (Nat.le_trans UPR28.out hb.size)
 have n17_ := Aside0.mk (Nat.le_trans UPR32.out hb.size)
 have n18_ := Aside0.mk (blk_below (g := gb1) BKgb1.out hb)
 have n19_ := Aside0.mk (blk_below (g := gb2) BKgb2.out hb)
 have n20_ := Aside0.mk (blk_below (g := gb19) BKgb19.out hb)
 have n21_ := Aside0.mk (blk_below (g := gb23) BKgb23.out hb)
 have n22_ := Aside0.mk (Nat.lt_of_lt_of_le GUgb1.out hb.size)
 have n23_ := Aside0.mk (Nat.lt_of_lt_of_le GUgb2.out hb.size)
 have n24_ := Aside0.mk (Nat.lt_of_lt_of_le GUgb19.out hb.size)
 have n25_ := Aside0.mk (Nat.lt_of_lt_of_le GUgb23.out hb.size)
 have n26_ := Aside0.mk (below_step HB.out hb)
 have n27_ := Aside0.mk (below_step HBM.out hb)
 clear HOR7
 clear HOR10
 clear HOR12
 clear HOR15
 clear HOR18
 clear HOR22
 clear HOR25
 clear HOR28
 clear HOR32
 clear UPR7
 clear UPR10
 clear UPR12
 clear UPR15
 clear UPR18
 clear UPR22
 clear UPR25
 clear UPR28
 clear UPR32
 clear BKgb1
 clear BKgb2
 clear BKgb19
 clear BKgb23
 clear GUgb1
 clear GUgb2
 clear GUgb19
 clear GUgb23
 clear HB
 clear HBM
 have HOR7 := n0_
 have HOR10 := n1_
 have HOR12 := n2_
 have HOR15 := n3_
 have HOR18 := n4_
 have HOR22 := n5_
 have HOR25 := n6_
 have HOR28 := n7_
 have HOR32 := n8_
 have UPR7 := n9_
 have UPR10 := n10_
 have UPR12 := n11_
 have UPR15 := n12_
 have UPR18 := n13_
 have UPR22 := n14_
 have UPR25 := n15_
 have UPR28 := n16_
 have UPR32 := n17_
 have BKgb1 := n18_
 have BKgb2 := n19_
 have BKgb19 := n20_
 have BKgb23 := n21_
 have GUgb1 := n22_
 have GUgb2 := n23_
 have GUgb19 := n24_
 have GUgb23 := n25_
 have HB := n26_
 have HBM := n27_
 clear n0_ n1_ n2_ n3_ n4_ n5_ n6_ n7_ n8_ n9_ n10_ n11_ n12_ n13_ n14_ n15_ n16_ n17_ n18_ n19_ n20_ n21_ n22_ n23_ n24_ n25_ n26_ n27_
 clear hb
 refine hK.out _ _ ⟨(blk_cell BKgb19.out 0).trans rfl, (blk_cell BKgb19.out 1).trans rfl, (blk_cell BKgb1.out 0).trans rfl, (blk_cell BKgb1.out 1).trans rfl⟩ (fun hHeld => ?_)
 clear hK K
 refine norm_ (a' := ?_) ?_ ?_
 rotate_left
 ·show Act.put _ (some 68) _ = _
  simp only [Act.put, List.setIfInBounds_toArray, List.set_cons_zero, List.set_cons_succ, i64_w, i32_w]
  rfl
 refine pure_ (i := 4) (N := some 69) (v := ?_) (a' := ?_) #[true, true, true, true, true] rfl rfl (by kernel_rfl) (fun _ _ _ h => h) (Or.inl ⟨by rfl, ?_⟩) ?_ ?_
 rotate_left
 ·intro w'
  go_simp
  with_reducible rfl
 rotate_left
 ·simp only [Act.put, List.setIfInBounds_toArray, List.set_cons_zero, List.set_cons_succ, i64_w, i32_w]
  rfl
 refine done_ (by kernel_rfl) ?_
 (try clear hczgb1_0)
 (try clear hfzgb1_0)
 (try clear hczgb1_1)
 (try clear hfzgb1_1)
 (try clear hczgb2_0)
 (try clear hfzgb2_0)
 (try clear hczgb2_1)
 (try clear hfzgb2_1)
 (try clear hczgb19_0)
 (try clear hfzgb19_0)
 (try clear hczgb19_1)
 (try clear hfzgb19_1)
 (try clear hczgb23_0)
 (try clear hfzgb23_0)
 (try clear hczgb23_1)
 (try clear hfzgb23_1)
 have hczgb1_0 : w_21.cell? ⟨gb1, 0, none⟩ = some (.int .i64 a0_0) := (blk_cell BKgb1.out 0).trans rfl
 have hfzgb1_0 := blk_frozen BKgb1.out 0
 have hczgb1_1 : w_21.cell? ⟨gb1, 1, none⟩ = some (.slice A0_1 l0_1.length c0_1) := (blk_cell BKgb1.out 1).trans rfl
 have hfzgb1_1 := blk_frozen BKgb1.out 1
 have hczgb2_0 : w_21.cell? ⟨gb2, 0, none⟩ = some (.int .i64 a1_0) := (blk_cell BKgb2.out 0).trans rfl
 have hfzgb2_0 := blk_frozen BKgb2.out 0
 have hczgb2_1 : w_21.cell? ⟨gb2, 1, none⟩ = some (.slice A1_1 l1_1.length c1_1) := (blk_cell BKgb2.out 1).trans rfl
 have hfzgb2_1 := blk_frozen BKgb2.out 1
 have hczgb19_0 : w_21.cell? ⟨gb19, 0, none⟩ = some (.int .i64 t16) := (blk_cell BKgb19.out 0).trans rfl
 have hfzgb19_0 := blk_frozen BKgb19.out 0
 have hczgb19_1 : w_21.cell? ⟨gb19, 1, none⟩ = some (.slice AR18 t17.length cR18) := (blk_cell BKgb19.out 1).trans rfl
 have hfzgb19_1 := blk_frozen BKgb19.out 1
 have hczgb23_0 : w_21.cell? ⟨gb23, 0, none⟩ = some (.int .i64 t20) := (blk_cell BKgb23.out 0).trans rfl
 have hfzgb23_0 := blk_frozen BKgb23.out 0
 have hczgb23_1 : w_21.cell? ⟨gb23, 1, none⟩ = some (.slice AR22 t21.length cR22) := (blk_cell BKgb23.out 1).trans rfl
 have hfzgb23_1 := blk_frozen BKgb23.out 1
 try go_wp2
 have n0_ := Aside0.mk (Kd.R_drew HOR7.out)
 have n1_ := Aside0.mk (Kd.R_drew HOR10.out)
 have n2_ := Aside0.mk (Kd.R_drew HOR12.out)
 have n3_ := Aside0.mk (Kd.R_drew HOR15.out)
 have n4_ := Aside0.mk (Kd.R_drew HOR18.out)
 have n5_ := Aside0.mk (Kd.R_drew HOR22.out)
 have n6_ := Aside0.mk (Kd.R_drew HOR25.out)
 have n7_ := Aside0.mk (Kd.R_drew HOR28.out)
 have n8_ := Aside0.mk (Kd.R_drew HOR32.out)
 have n9_ := Aside0.mk (show hiR7 ≤ w_21.drew.heap.size from UPR7.out)
 have n10_ := Aside0.mk (show hiR10 ≤ w_21.drew.heap.size from UPR10.out)
 have n11_ := Aside0.mk (show hiR12 ≤ w_21.drew.heap.size from UPR12.out)
 have n12_ := Aside0.mk (show hiR15 ≤ w_21.drew.heap.size from UPR15.out)
 have n13_ := Aside0.mk (show hiR18 ≤ w_21.drew.heap.size from UPR18.out)
 have n14_ := Aside0.mk (show hiR22 ≤ w_21.drew.heap.size from UPR22.out)
 have n15_ := Aside0.mk (show hiR25 ≤ w_21.drew.heap.size from UPR25.out)
 have n16_ := Aside0.mk (show hiR28 ≤ w_21.drew.heap.size from UPR28.out)
 have n17_ := Aside0.mk (show hiR32 ≤ w_21.drew.heap.size from UPR32.out)
 have n18_ := Aside0.mk (blk_drew BKgb1.out)
 have n19_ := Aside0.mk (blk_drew BKgb2.out)
 have n20_ := Aside0.mk (blk_drew BKgb19.out)
 have n21_ := Aside0.mk (blk_drew BKgb23.out)
 have n22_ := Aside0.mk (show gb1 < w_21.drew.heap.size from GUgb1.out)
 have n23_ := Aside0.mk (show gb2 < w_21.drew.heap.size from GUgb2.out)
 have n24_ := Aside0.mk (show gb19 < w_21.drew.heap.size from GUgb19.out)
 have n25_ := Aside0.mk (show gb23 < w_21.drew.heap.size from GUgb23.out)
 have n26_ := Aside0.mk (below_drew1 HB.out)
 have n27_ := Aside0.mk (below_drew1 HBM.out)
 clear HOR7
 clear HOR10
 clear HOR12
 clear HOR15
 clear HOR18
 clear HOR22
 clear HOR25
 clear HOR28
 clear HOR32
 clear UPR7
 clear UPR10
 clear UPR12
 clear UPR15
 clear UPR18
 clear UPR22
 clear UPR25
 clear UPR28
 clear UPR32
 clear BKgb1
 clear BKgb2
 clear BKgb19
 clear BKgb23
 clear GUgb1
 clear GUgb2
 clear GUgb19
 clear GUgb23
 clear HB
 clear HBM
 have HOR7 := n0_
 have HOR10 := n1_
 have HOR12 := n2_
 have HOR15 := n3_
 have HOR18 := n4_
 have HOR22 := n5_
 have HOR25 := n6_
 have HOR28 := n7_
 have HOR32 := n8_
 have UPR7 := n9_
 have UPR10 := n10_
 have UPR12 := n11_
 have UPR15 := n12_
 have UPR18 := n13_
 have UPR22 := n14_
 have UPR25 := n15_
 have UPR28 := n16_
 have UPR32 := n17_
 have BKgb1 := n18_
 have BKgb2 := n19_
 have BKgb19 := n20_
 have BKgb23 := n21_
 have GUgb1 := n22_
 have GUgb2 := n23_
 have GUgb19 := n24_
 have GUgb23 := n25_
 have HB := n26_
 have HBM := n27_
 clear n0_ n1_ n2_ n3_ n4_ n5_ n6_ n7_ n8_ n9_ n10_ n11_ n12_ n13_ n14_ n15_ n16_ n17_ n18_ n19_ n20_ n21_ n22_ n23_ n24_ n25_ n26_ n27_
 (try clear hczgb1_0); (try clear hfzgb1_0)
 (try clear hczgb1_1); (try clear hfzgb1_1)
 (try clear hczgb2_0); (try clear hfzgb2_0)
 (try clear hczgb2_1); (try clear hfzgb2_1)
 (try clear hczgb19_0); (try clear hfzgb19_0)
 (try clear hczgb19_1); (try clear hfzgb19_1)
 (try clear hczgb23_0); (try clear hfzgb23_0)
 (try clear hczgb23_1); (try clear hfzgb23_1)
 refine start_ (n := 5) (S := fun w' => w'.cell? ⟨gb23, 0, none⟩ = some (.int .i64 t20) ∧ w'.cell? ⟨gb23, 1, none⟩ = some (.slice AR22 t21.length cR22) ∧ w'.cell? ⟨gb2, 0, none⟩ = some (.int .i64 a1_0) ∧ w'.cell? ⟨gb2, 1, none⟩ = some (.slice A1_1 l1_1.length c1_1)) (ds := []) #[false, false, false, false, false] (by kernel_rfl) rfl rfl ⟨(blk_cell BKgb23.out 0).trans rfl, (blk_cell BKgb23.out 1).trans rfl, (blk_cell BKgb2.out 0).trans rfl, (blk_cell BKgb2.out 1).trans rfl⟩ (fun hHeld => ?_)
 generalize w_21.drew = w_22 at HOR7 HOR10 HOR12 HOR15 HOR18 HOR22 HOR25 HOR28 HOR32 UPR7 UPR10 UPR12 UPR15 UPR18 UPR22 UPR25 UPR28 UPR32 BKgb1 BKgb2 BKgb19 BKgb23 GUgb1 GUgb2 GUgb19 GUgb23 HB HBM hHeld ⊢
 refine take_ (i := 0) (N := some 70) (v := ?_) (a' := ?_) #[true, false, false, false, false] rfl rfl (by kernel_rfl) (fun _ _ _ h => h) (Or.inl ⟨by rfl, ?_⟩) hHeld ?_ ?_
 rotate_left
 ·rintro w' ⟨s0, s1, s2, s3⟩
  go_simp
  with_reducible rfl
 rotate_left
 ·simp only [Act.put, List.setIfInBounds_toArray, List.set_cons_zero, List.set_cons_succ, i64_w, i32_w]
  rfl
 refine take_ (i := 1) (N := some 71) (v := ?_) (a' := ?_) #[true, true, false, false, false] rfl rfl (by kernel_rfl) (fun _ _ _ h => h) (Or.inl ⟨by rfl, ?_⟩) hHeld ?_ ?_
 rotate_left
 ·rintro w' ⟨s0, s1, s2, s3⟩
  go_simp
  with_reducible rfl
 rotate_left
 ·simp only [Act.put, List.setIfInBounds_toArray, List.set_cons_zero, List.set_cons_succ, i64_w, i32_w]
  rfl
 refine one_ (i := 2) (N := some 72) #[true, true, true, false, false] rfl rfl (by kernel_rfl) (by decide) (fun K hK => ?_)
 refine goes_ Try.func44 (by kernel_rfl) rfl #[.agg #[.int .i64 a1_0, .slice A1_1 l1_1.length c1_1]] (by rfl) rfl rfl (by (try simp only [List.map_toArray, List.map_cons, List.map_nil]); first | done | rfl) ?_
 (with_reducible refine (laws_toValues.calls k a1_0 _ _ l1_1 t34 t35 _ ?side1 ?side2 E20.out).mono ?_)
 (case side1 => exact Kd.C_below HR1_1.out HB.out)
 (case side2 => exact HC1_1.out)
 rintro e w_23 ⟨vR36, rfl, hoR36, hb⟩
 refine ⟨_, rfl, ?_⟩
 obtain ⟨loR36, hloR36⟩ : ∃ n_ : Nat, n_ = w_22.heap.size := ⟨_, rfl⟩
 obtain ⟨hiR36, hhiR36⟩ : ∃ n_ : Nat, n_ = w_23.heap.size := ⟨_, rfl⟩
 have n0_ := Aside0.mk (Kd.R_below HOR7.out hb)
 have n1_ := Aside0.mk (Kd.R_below HOR10.out hb)
 have n2_ := Aside0.mk (Kd.R_below HOR12.out hb)
 have n3_ := Aside0.mk (Kd.R_below HOR15.out hb)
 have n4_ := Aside0.mk (Kd.R_below HOR18.out hb)
 have n5_ := Aside0.mk (Kd.R_below HOR22.out hb)
 have n6_ := Aside0.mk (Kd.R_below HOR25.out hb)
 have n7_ := Aside0.mk (Kd.R_below HOR28.out hb)
 have n8_ := Aside0.mk (Kd.R_below HOR32.out hb)
 have n9_ := Aside0.mk (Nat.le_trans UPR7.out hb.size)
 have n10_ := Aside0.mk (Nat.le_trans UPR10.out hb.size)
 have n11_ := Aside0.mk (Nat.le_trans UPR12.out hb.size)
 have n12_ := Aside0.mk (Nat.le_trans UPR15.out hb.size)
 have n13_ := Aside0.mk (Nat.le_trans UPR18.out hb.size)
 have n14_ := Aside0.mk (Nat.le_trans UPR22.out hb.size)
 have n15_ := Aside0.mk (Nat.le_trans UPR25.out hb.size)
 have n16_ := Aside0.mk (Nat.le_trans UPR28.out hb.size)
 have n17_ := Aside0.mk (Nat.le_trans UPR32.out hb.size)
 have n18_ := Aside0.mk (blk_below (g := gb1) BKgb1.out hb)
 have n19_ := Aside0.mk (blk_below (g := gb2) BKgb2.out hb)
 have n20_ := Aside0.mk (blk_below (g := gb19) BKgb19.out hb)
 have n21_ := Aside0.mk (blk_below (g := gb23) BKgb23.out hb)
 have n22_ := Aside0.mk (Nat.lt_of_lt_of_le GUgb1.out hb.size)
 have n23_ := Aside0.mk (Nat.lt_of_lt_of_le GUgb2.out hb.size)
 have n24_ := Aside0.mk (Nat.lt_of_lt_of_le GUgb19.out hb.size)
 have n25_ := Aside0.mk (Nat.lt_of_lt_of_le GUgb23.out hb.size)
 have n26_ := Aside0.mk (below_step HB.out hb)
 have n27_ := Aside0.mk (below_step HBM.out hb)
 have n28_ := Aside0.mk (Kd.R_lower (Kd.R_mono (ok' := fun k_ => loR36 ≤ k_ ∧ k_ < hiR36) (Kd.R_bound hoR36) (fun k_ hk_ => ⟨by rw [hloR36]; exact hk_.2.1, by rw [hhiR36]; exact hk_.2.2.1⟩)) (below_size HBM.out))
 have n29_ := Aside0.mk (by rw [hhiR36]; exact Nat.le_refl _ : hiR36 ≤ w_23.heap.size)
 have n30_ := Aside0.mk (fun k_ h1_ h2_ => by have := UPR7.out; rw [← hloR36] at this; omega : ∀ k_, loR7 ≤ k_ ∧ k_ < hiR7 → ¬ (loR36 ≤ k_ ∧ k_ < hiR36))
 have n31_ := Aside0.mk (fun k_ h1_ h2_ => by have := UPR7.out; rw [← hloR36] at this; omega : ∀ k_, loR36 ≤ k_ ∧ k_ < hiR36 → ¬ (loR7 ≤ k_ ∧ k_ < hiR7))
 have n32_ := Aside0.mk (fun k_ h1_ h2_ => by have := UPR10.out; rw [← hloR36] at this; omega : ∀ k_, loR10 ≤ k_ ∧ k_ < hiR10 → ¬ (loR36 ≤ k_ ∧ k_ < hiR36))
 have n33_ := Aside0.mk (fun k_ h1_ h2_ => by have := UPR10.out; rw [← hloR36] at this; omega : ∀ k_, loR36 ≤ k_ ∧ k_ < hiR36 → ¬ (loR10 ≤ k_ ∧ k_ < hiR10))
 have n34_ := Aside0.mk (fun k_ h1_ h2_ => by have := UPR12.out; rw [← hloR36] at this; omega : ∀ k_, loR12 ≤ k_ ∧ k_ < hiR12 → ¬ (loR36 ≤ k_ ∧ k_ < hiR36))
 have n35_ := Aside0.mk (fun k_ h1_ h2_ => by have := UPR12.out; rw [← hloR36] at this; omega : ∀ k_, loR36 ≤ k_ ∧ k_ < hiR36 → ¬ (loR12 ≤ k_ ∧ k_ < hiR12))
 have n36_ := Aside0.mk (fun k_ h1_ h2_ => by have := UPR15.out; rw [← hloR36] at this; omega : ∀ k_, loR15 ≤ k_ ∧ k_ < hiR15 → ¬ (loR36 ≤ k_ ∧ k_ < hiR36))
 have n37_ := Aside0.mk (fun k_ h1_ h2_ => by have := UPR15.out; rw [← hloR36] at this; omega : ∀ k_, loR36 ≤ k_ ∧ k_ < hiR36 → ¬ (loR15 ≤ k_ ∧ k_ < hiR15))
 have n38_ := Aside0.mk (fun k_ h1_ h2_ => by have := UPR18.out; rw [← hloR36] at this; omega : ∀ k_, loR18 ≤ k_ ∧ k_ < hiR18 → ¬ (loR36 ≤ k_ ∧ k_ < hiR36))
 have n39_ := Aside0.mk (fun k_ h1_ h2_ => by have := UPR18.out; rw [← hloR36] at this; omega : ∀ k_, loR36 ≤ k_ ∧ k_ < hiR36 → ¬ (loR18 ≤ k_ ∧ k_ < hiR18))
 have n40_ := Aside0.mk (fun k_ h1_ h2_ => by have := UPR22.out; rw [← hloR36] at this; omega : ∀ k_, loR22 ≤ k_ ∧ k_ < hiR22 → ¬ (loR36 ≤ k_ ∧ k_ < hiR36))
 have n41_ := Aside0.mk (fun k_ h1_ h2_ => by have := UPR22.out; rw [← hloR36] at this; omega : ∀ k_, loR36 ≤ k_ ∧ k_ < hiR36 → ¬ (loR22 ≤ k_ ∧ k_ < hiR22))
 have n42_ := Aside0.mk (fun k_ h1_ h2_ => by have := UPR25.out; rw [← hloR36] at this; omega : ∀ k_, loR25 ≤ k_ ∧ k_ < hiR25 → ¬ (loR36 ≤ k_ ∧ k_ < hiR36))
 have n43_ := Aside0.mk (fun k_ h1_ h2_ => by have := UPR25.out; rw [← hloR36] at this; omega : ∀ k_, loR36 ≤ k_ ∧ k_ < hiR36 → ¬ (loR25 ≤ k_ ∧ k_ < hiR25))
 have n44_ := Aside0.mk (fun k_ h1_ h2_ => by have := UPR28.out; rw [← hloR36] at this; omega : ∀ k_, loR28 ≤ k_ ∧ k_ < hiR28 → ¬ (loR36 ≤ k_ ∧ k_ < hiR36))
 have n45_ := Aside0.mk (fun k_ h1_ h2_ => by have := UPR28.out; rw [← hloR36] at this; omega : ∀ k_, loR36 ≤ k_ ∧ k_ < hiR36 → ¬ (loR28 ≤ k_ ∧ k_ < hiR28))
 have n46_ := Aside0.mk (fun k_ h1_ h2_ => by have := UPR32.out; rw [← hloR36] at this; omega : ∀ k_, loR32 ≤ k_ ∧ k_ < hiR32 → ¬ (loR36 ≤ k_ ∧ k_ < hiR36))
 have n47_ := Aside0.mk (fun k_ h1_ h2_ => by have := UPR32.out; rw [← hloR36] at this; omega : ∀ k_, loR36 ≤ k_ ∧ k_ < hiR36 → ¬ (loR32 ≤ k_ ∧ k_ < hiR32))
 have n48_ := Aside0.mk (fun k_ hk_ => by have := GUgb1.out; rw [← hloR36] at this; omega : ∀ k_, loR36 ≤ k_ ∧ k_ < hiR36 → k_ ≠ gb1)
 have n49_ := Aside0.mk (fun k_ hk_ => by have := GUgb2.out; rw [← hloR36] at this; omega : ∀ k_, loR36 ≤ k_ ∧ k_ < hiR36 → k_ ≠ gb2)
 have n50_ := Aside0.mk (fun k_ hk_ => by have := GUgb19.out; rw [← hloR36] at this; omega : ∀ k_, loR36 ≤ k_ ∧ k_ < hiR36 → k_ ≠ gb19)
 have n51_ := Aside0.mk (fun k_ hk_ => by have := GUgb23.out; rw [← hloR36] at this; omega : ∀ k_, loR36 ≤ k_ ∧ k_ < hiR36 → k_ ≠ gb23)
 clear HOR7
 clear HOR10
 clear HOR12
 clear HOR15
 clear HOR18
 clear HOR22
 clear HOR25
 clear HOR28
 clear HOR32
 clear UPR7
 clear UPR10
 clear UPR12
 clear UPR15
 clear UPR18
 clear UPR22
 clear UPR25
 clear UPR28
 clear UPR32
 clear BKgb1
 clear BKgb2
 clear BKgb19
 clear BKgb23
 clear GUgb1
 clear GUgb2
 clear GUgb19
 clear GUgb23
 clear HB
 clear HBM
 have HOR7 := n0_
 have HOR10 := n1_
 have HOR12 := n2_
 have HOR15 := n3_
 have HOR18 := n4_
 have HOR22 := n5_
 have HOR25 := n6_
 have HOR28 := n7_
 have HOR32 := n8_
 have UPR7 := n9_
 have UPR10 := n10_
 have UPR12 := n11_
 have UPR15 := n12_
 have UPR18 := n13_
 have UPR22 := n14_
 have UPR25 := n15_
 have UPR28 := n16_
 have UPR32 := n17_
 have BKgb1 := n18_
 have BKgb2 := n19_
 have BKgb19 := n20_
 have BKgb23 := n21_
 have GUgb1 := n22_
 have GUgb2 := n23_
 have GUgb19 := n24_
 have GUgb23 := n25_
 have HB := n26_
 have HBM := n27_
 have HOR36 := n28_
 have UPR36 := n29_
 have NRR7_R36 := n30_
 have NRR36_R7 := n31_
 have NRR10_R36 := n32_
 have NRR36_R10 := n33_
 have NRR12_R36 := n34_
 have NRR36_R12 := n35_
 have NRR15_R36 := n36_
 have NRR36_R15 := n37_
 have NRR18_R36 := n38_
 have NRR36_R18 := n39_
 have NRR22_R36 := n40_
 have NRR36_R22 := n41_
 have NRR25_R36 := n42_
 have NRR36_R25 := n43_
 have NRR28_R36 := n44_
 have NRR36_R28 := n45_
 have NRR32_R36 := n46_
 have NRR36_R32 := n47_
 have NER36_gb1 := n48_
 have NER36_gb2 := n49_
 have NER36_gb19 := n50_
 have NER36_gb23 := n51_
 clear n0_ n1_ n2_ n3_ n4_ n5_ n6_ n7_ n8_ n9_ n10_ n11_ n12_ n13_ n14_ n15_ n16_ n17_ n18_ n19_ n20_ n21_ n22_ n23_ n24_ n25_ n26_ n27_ n28_ n29_ n30_ n31_ n32_ n33_ n34_ n35_ n36_ n37_ n38_ n39_ n40_ n41_ n42_ n43_ n44_ n45_ n46_ n47_ n48_ n49_ n50_ n51_
 clear hb
 clear hoR36 hloR36 hhiR36
 obtain ⟨AR36, cR36, eqR36⟩ := Kd.R_slice HOR36.out
 subst eqR36
 refine hK.out _ _ ⟨(blk_cell BKgb23.out 0).trans rfl, (blk_cell BKgb23.out 1).trans rfl, (blk_cell BKgb2.out 0).trans rfl, (blk_cell BKgb2.out 1).trans rfl⟩ (fun hHeld => ?_)
 clear hK K
 refine norm_ (a' := ?_) ?_ ?_
 rotate_left
 ·show Act.put _ (some 72) _ = _
  simp only [Act.put, List.setIfInBounds_toArray, List.set_cons_zero, List.set_cons_succ, i64_w, i32_w]
  rfl
 refine one_ (i := 3) (N := some 73) #[true, true, true, true, false] rfl rfl (by kernel_rfl) (by decide) (fun K hK => ?_)
 refine goes_ Try.func47 (by kernel_rfl) rfl #[.agg #[.int .i64 t20, .slice AR22 t21.length cR22], .agg #[.int .i64 t34, .slice AR36 t35.length cR36]] (by rfl) rfl rfl (by (try simp only [List.map_toArray, List.map_cons, List.map_nil]); first | done | rfl) ?_
 (with_reducible refine (laws_eqValues.calls k t20 _ _ t21 t34 _ _ t35 true _ ?side1 ?side2 ?side3 ?side4 E21.out).mono ?_)
 (case side1 => exact (Kd.R_reads' HOR22.out).2.2)
 (case side2 => exact (Kd.R_reads' HOR22.out).2.1)
 (case side3 => exact (Kd.R_reads' HOR36.out).2.2)
 (case side4 => exact (Kd.R_reads' HOR36.out).2.1)
 rintro e w_24 ⟨rfl, hb⟩
 refine ⟨_, rfl, ?_⟩
 have n0_ := Aside0.mk (Kd.R_below HOR7.out hb)
 have n1_ := Aside0.mk (Kd.R_below HOR10.out hb)
 have n2_ := Aside0.mk (Kd.R_below HOR12.out hb)
 have n3_ := Aside0.mk (Kd.R_below HOR15.out hb)
 have n4_ := Aside0.mk (Kd.R_below HOR18.out hb)
 have n5_ := Aside0.mk (Kd.R_below HOR22.out hb)
 have n6_ := Aside0.mk (Kd.R_below HOR25.out hb)
 have n7_ := Aside0.mk (Kd.R_below HOR28.out hb)
 have n8_ := Aside0.mk (Kd.R_below HOR32.out hb)
 have n9_ := Aside0.mk (Kd.R_below HOR36.out hb)
 have n10_ := Aside0.mk (Nat.le_trans UPR7.out hb.size)
 have n11_ := Aside0.mk (Nat.le_trans UPR10.out hb.size)
 have n12_ := Aside0.mk (Nat.le_trans UPR12.out hb.size)
 have n13_ := Aside0.mk (Nat.le_trans UPR15.out hb.size)
 have n14_ := Aside0.mk (Nat.le_trans UPR18.out hb.size)
 have n15_ := Aside0.mk (Nat.le_trans UPR22.out hb.size)
 have n16_ := Aside0.mk (Nat.le_trans UPR25.out hb.size)
 have n17_ := Aside0.mk (Nat.le_trans UPR28.out hb.size)
 have n18_ := Aside0.mk (Nat.le_trans UPR32.out hb.size)
 have n19_ := Aside0.mk (Nat.le_trans UPR36.out hb.size)
 have n20_ := Aside0.mk (blk_below (g := gb1) BKgb1.out hb)
 have n21_ := Aside0.mk (blk_below (g := gb2) BKgb2.out hb)
 have n22_ := Aside0.mk (blk_below (g := gb19) BKgb19.out hb)
 have n23_ := Aside0.mk (blk_below (g := gb23) BKgb23.out hb)
 have n24_ := Aside0.mk (Nat.lt_of_lt_of_le GUgb1.out hb.size)
 have n25_ := Aside0.mk (Nat.lt_of_lt_of_le GUgb2.out hb.size)
 have n26_ := Aside0.mk (Nat.lt_of_lt_of_le GUgb19.out hb.size)
 have n27_ := Aside0.mk (Nat.lt_of_lt_of_le GUgb23.out hb.size)
 have n28_ := Aside0.mk (below_step HB.out hb)
 have n29_ := Aside0.mk (below_step HBM.out hb)
 clear HOR7
 clear HOR10
 clear HOR12
 clear HOR15
 clear HOR18
 clear HOR22
 clear HOR25
 clear HOR28
 clear HOR32
 clear HOR36
 clear UPR7
 clear UPR10
 clear UPR12
 clear UPR15
 clear UPR18
 clear UPR22
 clear UPR25
 clear UPR28
 clear UPR32
 clear UPR36
 clear BKgb1
 clear BKgb2
 clear BKgb19
 clear BKgb23
 clear GUgb1
 clear GUgb2
 clear GUgb19
 clear GUgb23
 clear HB
 clear HBM
 have HOR7 := n0_
 have HOR10 := n1_
 have HOR12 := n2_
 have HOR15 := n3_
 have HOR18 := n4_
 have HOR22 := n5_
 have HOR25 := n6_
 have HOR28 := n7_
 have HOR32 := n8_
 have HOR36 := n9_
 have UPR7 := n10_
 have UPR10 := n11_
 have UPR12 := n12_
 have UPR15 := n13_
 have UPR18 := n14_
 have UPR22 := n15_
 have UPR25 := n16_
 have UPR28 := n17_
 have UPR32 := n18_
 have UPR36 := n19_
 have BKgb1 := n20_
 have BKgb2 := n21_
 have BKgb19 := n22_
 have BKgb23 := n23_
 have GUgb1 := n24_
 have GUgb2 := n25_
 have GUgb19 := n26_
 have GUgb23 := n27_
 have HB := n28_
 have HBM := n29_
 clear n0_ n1_ n2_ n3_ n4_ n5_ n6_ n7_ n8_ n9_ n10_ n11_ n12_ n13_ n14_ n15_ n16_ n17_ n18_ n19_ n20_ n21_ n22_ n23_ n24_ n25_ n26_ n27_ n28_ n29_
 clear hb
 refine hK.out _ _ ⟨(blk_cell BKgb23.out 0).trans rfl, (blk_cell BKgb23.out 1).trans rfl, (blk_cell BKgb2.out 0).trans rfl, (blk_cell BKgb2.out 1).trans rfl⟩ (fun hHeld => ?_)
 clear hK K
 refine norm_ (a' := ?_) ?_ ?_
 rotate_left
 ·show Act.put _ (some 73) _ = _
  simp only [Act.put, List.setIfInBounds_toArray, List.set_cons_zero, List.set_cons_succ, i64_w, i32_w]
  rfl
 refine pure_ (i := 4) (N := some 74) (v := ?_) (a' := ?_) #[true, true, true, true, true] rfl rfl (by kernel_rfl) (fun _ _ _ h => h) (Or.inl ⟨by rfl, ?_⟩) ?_ ?_
 rotate_left
 ·intro w'
  go_simp
  with_reducible rfl
 rotate_left
 ·simp only [Act.put, List.setIfInBounds_toArray, List.set_cons_zero, List.set_cons_succ, i64_w, i32_w]
  rfl
 refine done_ (by kernel_rfl) ?_
 (try clear hczgb1_0)
 (try clear hfzgb1_0)
 (try clear hczgb1_1)
 (try clear hfzgb1_1)
 (try clear hczgb2_0)
 (try clear hfzgb2_0)
 (try clear hczgb2_1)
 (try clear hfzgb2_1)
 (try clear hczgb19_0)
 (try clear hfzgb19_0)
 (try clear hczgb19_1)
 (try clear hfzgb19_1)
 (try clear hczgb23_0)
 (try clear hfzgb23_0)
 (try clear hczgb23_1)
 (try clear hfzgb23_1)
 have hczgb1_0 : w_24.cell? ⟨gb1, 0, none⟩ = some (.int .i64 a0_0) := (blk_cell BKgb1.out 0).trans rfl
 have hfzgb1_0 := blk_frozen BKgb1.out 0
 have hczgb1_1 : w_24.cell? ⟨gb1, 1, none⟩ = some (.slice A0_1 l0_1.length c0_1) := (blk_cell BKgb1.out 1).trans rfl
 have hfzgb1_1 := blk_frozen BKgb1.out 1
 have hczgb2_0 : w_24.cell? ⟨gb2, 0, none⟩ = some (.int .i64 a1_0) := (blk_cell BKgb2.out 0).trans rfl
 have hfzgb2_0 := blk_frozen BKgb2.out 0
 have hczgb2_1 : w_24.cell? ⟨gb2, 1, none⟩ = some (.slice A1_1 l1_1.length c1_1) := (blk_cell BKgb2.out 1).trans rfl
 have hfzgb2_1 := blk_frozen BKgb2.out 1
 have hczgb19_0 : w_24.cell? ⟨gb19, 0, none⟩ = some (.int .i64 t16) := (blk_cell BKgb19.out 0).trans rfl
 have hfzgb19_0 := blk_frozen BKgb19.out 0
 have hczgb19_1 : w_24.cell? ⟨gb19, 1, none⟩ = some (.slice AR18 t17.length cR18) := (blk_cell BKgb19.out 1).trans rfl
 have hfzgb19_1 := blk_frozen BKgb19.out 1
 have hczgb23_0 : w_24.cell? ⟨gb23, 0, none⟩ = some (.int .i64 t20) := (blk_cell BKgb23.out 0).trans rfl
 have hfzgb23_0 := blk_frozen BKgb23.out 0
 have hczgb23_1 : w_24.cell? ⟨gb23, 1, none⟩ = some (.slice AR22 t21.length cR22) := (blk_cell BKgb23.out 1).trans rfl
 have hfzgb23_1 := blk_frozen BKgb23.out 1
 go_wp2_with (first | ((with_reducible refine gate_callee (f := 35) rfl ?_); refine goesL_ (some 77) rfl rfl Try.func35 (by kernel_rfl) rfl #[.slice A2 l2.length c2] rfl (by (try simp only [List.map_toArray, List.map_cons, List.map_nil]); first | done | rfl) ?_; (with_reducible refine (laws_toInt64S.calls k _ _ l2 t38 _ ?side1 ?side2 E23.out).mono ?_); (case side1 => exact Kd.C_below HR2.out HB.out); (case side2 => exact HC2.out); rintro e w_25 ⟨vR39, rfl, hoR39, hb⟩; refine ⟨_, rfl, ?_⟩; obtain ⟨loR39, hloR39⟩ : ∃ n_ : Nat, n_ = w_24.heap.size := ⟨_, rfl⟩; obtain ⟨hiR39, hhiR39⟩ : ∃ n_ : Nat, n_ = w_25.heap.size := ⟨_, rfl⟩; have n0_ := Aside0.mk (Kd.R_below HOR7.out hb); have n1_ := Aside0.mk (Kd.R_below HOR10.out hb); have n2_ := Aside0.mk (Kd.R_below HOR12.out hb); have n3_ := Aside0.mk (Kd.R_below HOR15.out hb); have n4_ := Aside0.mk (Kd.R_below HOR18.out hb); have n5_ := Aside0.mk (Kd.R_below HOR22.out hb); have n6_ := Aside0.mk (Kd.R_below HOR25.out hb); have n7_ := Aside0.mk (Kd.R_below HOR28.out hb); have n8_ := Aside0.mk (Kd.R_below HOR32.out hb); have n9_ := Aside0.mk (Kd.R_below HOR36.out hb); have n10_ := Aside0.mk (Nat.le_trans UPR7.out hb.size); have n11_ := Aside0.mk (Nat.le_trans UPR10.out hb.size); have n12_ := Aside0.mk (Nat.le_trans UPR12.out hb.size); have n13_ := Aside0.mk (Nat.le_trans UPR15.out hb.size); have n14_ := Aside0.mk (Nat.le_trans UPR18.out hb.size); have n15_ := Aside0.mk (Nat.le_trans UPR22.out hb.size); have n16_ := Aside0.mk (Nat.le_trans UPR25.out hb.size); have n17_ := Aside0.mk (Nat.le_trans UPR28.out hb.size); have n18_ := Aside0.mk (Nat.le_trans UPR32.out hb.size); have n19_ := Aside0.mk (Nat.le_trans UPR36.out hb.size); have n20_ := Aside0.mk (blk_below (g := gb1) BKgb1.out hb); have n21_ := Aside0.mk (blk_below (g := gb2) BKgb2.out hb); have n22_ := Aside0.mk (blk_below (g := gb19) BKgb19.out hb); have n23_ := Aside0.mk (blk_below (g := gb23) BKgb23.out hb); have n24_ := Aside0.mk (Nat.lt_of_lt_of_le GUgb1.out hb.size); have n25_ := Aside0.mk (Nat.lt_of_lt_of_le GUgb2.out hb.size); have n26_ := Aside0.mk (Nat.lt_of_lt_of_le GUgb19.out hb.size); have n27_ := Aside0.mk (Nat.lt_of_lt_of_le GUgb23.out hb.size); have n28_ := Aside0.mk (below_step HB.out hb); have n29_ := Aside0.mk (below_step HBM.out hb); have n30_ := Aside0.mk (Kd.R_lower (Kd.R_mono (ok' := fun k_ => loR39 ≤ k_ ∧ k_ < hiR39) (Kd.R_bound hoR39) (fun k_ hk_ => ⟨by rw [hloR39]; exact hk_.2.1, by rw [hhiR39]; exact hk_.2.2.1⟩)) (below_size HBM.out)); have n31_ := Aside0.mk (by rw [hhiR39]; exact Nat.le_refl _ : hiR39 ≤ w_25.heap.size); have n32_ := Aside0.mk (fun k_ h1_ h2_ => by have := UPR7.out; rw [← hloR39] at this; omega : ∀ k_, loR7 ≤ k_ ∧ k_ < hiR7 → ¬ (loR39 ≤ k_ ∧ k_ < hiR39)); have n33_ := Aside0.mk (fun k_ h1_ h2_ => by have := UPR7.out; rw [← hloR39] at this; omega : ∀ k_, loR39 ≤ k_ ∧ k_ < hiR39 → ¬ (loR7 ≤ k_ ∧ k_ < hiR7)); have n34_ := Aside0.mk (fun k_ h1_ h2_ => by have := UPR10.out; rw [← hloR39] at this; omega : ∀ k_, loR10 ≤ k_ ∧ k_ < hiR10 → ¬ (loR39 ≤ k_ ∧ k_ < hiR39)); have n35_ := Aside0.mk (fun k_ h1_ h2_ => by have := UPR10.out; rw [← hloR39] at this; omega : ∀ k_, loR39 ≤ k_ ∧ k_ < hiR39 → ¬ (loR10 ≤ k_ ∧ k_ < hiR10)); have n36_ := Aside0.mk (fun k_ h1_ h2_ => by have := UPR12.out; rw [← hloR39] at this; omega : ∀ k_, loR12 ≤ k_ ∧ k_ < hiR12 → ¬ (loR39 ≤ k_ ∧ k_ < hiR39)); have n37_ := Aside0.mk (fun k_ h1_ h2_ => by have := UPR12.out; rw [← hloR39] at this; omega : ∀ k_, loR39 ≤ k_ ∧ k_ < hiR39 → ¬ (loR12 ≤ k_ ∧ k_ < hiR12)); have n38_ := Aside0.mk (fun k_ h1_ h2_ => by have := UPR15.out; rw [← hloR39] at this; omega : ∀ k_, loR15 ≤ k_ ∧ k_ < hiR15 → ¬ (loR39 ≤ k_ ∧ k_ < hiR39)); have n39_ := Aside0.mk (fun k_ h1_ h2_ => by have := UPR15.out; rw [← hloR39] at this; omega : ∀ k_, loR39 ≤ k_ ∧ k_ < hiR39 → ¬ (loR15 ≤ k_ ∧ k_ < hiR15)); have n40_ := Aside0.mk (fun k_ h1_ h2_ => by have := UPR18.out; rw [← hloR39] at this; omega : ∀ k_, loR18 ≤ k_ ∧ k_ < hiR18 → ¬ (loR39 ≤ k_ ∧ k_ < hiR39)); have n41_ := Aside0.mk (fun k_ h1_ h2_ => by have := UPR18.out; rw [← hloR39] at this; omega : ∀ k_, loR39 ≤ k_ ∧ k_ < hiR39 → ¬ (loR18 ≤ k_ ∧ k_ < hiR18)); have n42_ := Aside0.mk (fun k_ h1_ h2_ => by have := UPR22.out; rw [← hloR39] at this; omega : ∀ k_, loR22 ≤ k_ ∧ k_ < hiR22 → ¬ (loR39 ≤ k_ ∧ k_ < hiR39)); have n43_ := Aside0.mk (fun k_ h1_ h2_ => by have := UPR22.out; rw [← hloR39] at this; omega : ∀ k_, loR39 ≤ k_ ∧ k_ < hiR39 → ¬ (loR22 ≤ k_ ∧ k_ < hiR22)); have n44_ := Aside0.mk (fun k_ h1_ h2_ => by have := UPR25.out; rw [← hloR39] at this; omega : ∀ k_, loR25 ≤ k_ ∧ k_ < hiR25 → ¬ (loR39 ≤ k_ ∧ k_ < hiR39)); have n45_ := Aside0.mk (fun k_ h1_ h2_ => by have := UPR25.out; rw [← hloR39] at this; omega : ∀ k_, loR39 ≤ k_ ∧ k_ < hiR39 → ¬ (loR25 ≤ k_ ∧ k_ < hiR25)); have n46_ := Aside0.mk (fun k_ h1_ h2_ => by have := UPR28.out; rw [← hloR39] at this; omega : ∀ k_, loR28 ≤ k_ ∧ k_ < hiR28 → ¬ (loR39 ≤ k_ ∧ k_ < hiR39)); have n47_ := Aside0.mk (fun k_ h1_ h2_ => by have := UPR28.out; rw [← hloR39] at this; omega : ∀ k_, loR39 ≤ k_ ∧ k_ < hiR39 → ¬ (loR28 ≤ k_ ∧ k_ < hiR28)); have n48_ := Aside0.mk (fun k_ h1_ h2_ => by have := UPR32.out; rw [← hloR39] at this; omega : ∀ k_, loR32 ≤ k_ ∧ k_ < hiR32 → ¬ (loR39 ≤ k_ ∧ k_ < hiR39)); have n49_ := Aside0.mk (fun k_ h1_ h2_ => by have := UPR32.out; rw [← hloR39] at this; omega : ∀ k_, loR39 ≤ k_ ∧ k_ < hiR39 → ¬ (loR32 ≤ k_ ∧ k_ < hiR32)); have n50_ := Aside0.mk (fun k_ h1_ h2_ => by have := UPR36.out; rw [← hloR39] at this; omega : ∀ k_, loR36 ≤ k_ ∧ k_ < hiR36 → ¬ (loR39 ≤ k_ ∧ k_ < hiR39)); have n51_ := Aside0.mk (fun k_ h1_ h2_ => by have := UPR36.out; rw [← hloR39] at this; omega : ∀ k_, loR39 ≤ k_ ∧ k_ < hiR39 → ¬ (loR36 ≤ k_ ∧ k_ < hiR36)); have n52_ := Aside0.mk (fun k_ hk_ => by have := GUgb1.out; rw [← hloR39] at this; omega : ∀ k_, loR39 ≤ k_ ∧ k_ < hiR39 → k_ ≠ gb1); have n53_ := Aside0.mk (fun k_ hk_ => by have := GUgb2.out; rw [← hloR39] at this; omega : ∀ k_, loR39 ≤ k_ ∧ k_ < hiR39 → k_ ≠ gb2); have n54_ := Aside0.mk (fun k_ hk_ => by have := GUgb19.out; rw [← hloR39] at this; omega : ∀ k_, loR39 ≤ k_ ∧ k_ < hiR39 → k_ ≠ gb19); have n55_ := Aside0.mk (fun k_ hk_ => by have := GUgb23.out; rw [← hloR39] at this; omega : ∀ k_, loR39 ≤ k_ ∧ k_ < hiR39 → k_ ≠ gb23); clear HOR7; clear HOR10; clear HOR12; clear HOR15; clear HOR18; clear HOR22; clear HOR25; clear HOR28; clear HOR32; clear HOR36; clear UPR7; clear UPR10; clear UPR12; clear UPR15; clear UPR18; clear UPR22; clear UPR25; clear UPR28; clear UPR32; clear UPR36; clear BKgb1; clear BKgb2; clear BKgb19; clear BKgb23; clear GUgb1; clear GUgb2; clear GUgb19; clear GUgb23; clear HB; clear HBM; have HOR7 := n0_; have HOR10 := n1_; have HOR12 := n2_; have HOR15 := n3_; have HOR18 := n4_; have HOR22 := n5_; have HOR25 := n6_; have HOR28 := n7_; have HOR32 := n8_; have HOR36 := n9_; have UPR7 := n10_; have UPR10 := n11_; have UPR12 := n12_; have UPR15 := n13_; have UPR18 := n14_; have UPR22 := n15_; have UPR25 := n16_; have UPR28 := n17_; have UPR32 := n18_; have UPR36 := n19_; have BKgb1 := n20_; have BKgb2 := n21_; have BKgb19 := n22_; have BKgb23 := n23_; have GUgb1 := n24_; have GUgb2 := n25_; have GUgb19 := n26_; have GUgb23 := n27_; have HB := n28_; have HBM := n29_; have HOR39 := n30_; have UPR39 := n31_; have NRR7_R39 := n32_; have NRR39_R7 := n33_; have NRR10_R39 := n34_; have NRR39_R10 := n35_; have NRR12_R39 := n36_; have NRR39_R12 := n37_; have NRR15_R39 := n38_; have NRR39_R15 := n39_; have NRR18_R39 := n40_; have NRR39_R18 := n41_; have NRR22_R39 := n42_; have NRR39_R22 := n43_; have NRR25_R39 := n44_; have NRR39_R25 := n45_; have NRR28_R39 := n46_; have NRR39_R28 := n47_; have NRR32_R39 := n48_; have NRR39_R32 := n49_; have NRR36_R39 := n50_; have NRR39_R36 := n51_; have NER39_gb1 := n52_; have NER39_gb2 := n53_; have NER39_gb19 := n54_; have NER39_gb23 := n55_; clear n0_ n1_ n2_ n3_ n4_ n5_ n6_ n7_ n8_ n9_ n10_ n11_ n12_ n13_ n14_ n15_ n16_ n17_ n18_ n19_ n20_ n21_ n22_ n23_ n24_ n25_ n26_ n27_ n28_ n29_ n30_ n31_ n32_ n33_ n34_ n35_ n36_ n37_ n38_ n39_ n40_ n41_ n42_ n43_ n44_ n45_ n46_ n47_ n48_ n49_ n50_ n51_ n52_ n53_ n54_ n55_; clear hb; clear hoR39 hloR39 hhiR39; obtain ⟨AR39, cR39, eqR39⟩ := Kd.R_slice HOR39.out; subst eqR39; (try clear hczgb1_0); (try clear hfzgb1_0); (try clear hczgb1_1); (try clear hfzgb1_1); (try clear hczgb2_0); (try clear hfzgb2_0); (try clear hczgb2_1); (try clear hfzgb2_1); (try clear hczgb19_0); (try clear hfzgb19_0); (try clear hczgb19_1); (try clear hfzgb19_1); (try clear hczgb23_0); (try clear hfzgb23_0); (try clear hczgb23_1); (try clear hfzgb23_1); have hczgb1_0 : w_25.cell? ⟨gb1, 0, none⟩ = some (.int .i64 a0_0) := (blk_cell BKgb1.out 0).trans rfl; have hfzgb1_0 := blk_frozen BKgb1.out 0; have hczgb1_1 : w_25.cell? ⟨gb1, 1, none⟩ = some (.slice A0_1 l0_1.length c0_1) := (blk_cell BKgb1.out 1).trans rfl; have hfzgb1_1 := blk_frozen BKgb1.out 1; have hczgb2_0 : w_25.cell? ⟨gb2, 0, none⟩ = some (.int .i64 a1_0) := (blk_cell BKgb2.out 0).trans rfl; have hfzgb2_0 := blk_frozen BKgb2.out 0; have hczgb2_1 : w_25.cell? ⟨gb2, 1, none⟩ = some (.slice A1_1 l1_1.length c1_1) := (blk_cell BKgb2.out 1).trans rfl; have hfzgb2_1 := blk_frozen BKgb2.out 1; have hczgb19_0 : w_25.cell? ⟨gb19, 0, none⟩ = some (.int .i64 t16) := (blk_cell BKgb19.out 0).trans rfl; have hfzgb19_0 := blk_frozen BKgb19.out 0; have hczgb19_1 : w_25.cell? ⟨gb19, 1, none⟩ = some (.slice AR18 t17.length cR18) := (blk_cell BKgb19.out 1).trans rfl; have hfzgb19_1 := blk_frozen BKgb19.out 1; have hczgb23_0 : w_25.cell? ⟨gb23, 0, none⟩ = some (.int .i64 t20) := (blk_cell BKgb23.out 0).trans rfl; have hfzgb23_0 := blk_frozen BKgb23.out 0; have hczgb23_1 : w_25.cell? ⟨gb23, 1, none⟩ = some (.slice AR22 t21.length cR22) := (blk_cell BKgb23.out 1).trans rfl; have hfzgb23_1 := blk_frozen BKgb23.out 1) | ((with_reducible refine gate_callee (f := 37) rfl ?_); refine goesL_ (some 78) rfl rfl Try.func37 (by kernel_rfl) rfl #[.slice AR25 t24.length cR25, .slice AR39 t38.length cR39] rfl (by (try simp only [List.map_toArray, List.map_cons, List.map_nil]); first | done | rfl) ?_; (with_reducible refine (laws_eqInt64S.calls k _ _ t24 _ _ t38 true _ ?side1 ?side2 ?side3 ?side4 E24.out).mono ?_); (case side1 => exact (Kd.R_reads' HOR25.out).2.2); (case side2 => exact (Kd.R_reads' HOR25.out).2.1); (case side3 => exact (Kd.R_reads' HOR39.out).2.2); (case side4 => exact (Kd.R_reads' HOR39.out).2.1); rintro e w_26 ⟨rfl, hd⟩; have hb := Drawn0.below hd; refine ⟨_, rfl, ?_⟩; have n0_ := Aside0.mk (Kd.R_below HOR7.out hb); have n1_ := Aside0.mk (Kd.R_below HOR10.out hb); have n2_ := Aside0.mk (Kd.R_below HOR12.out hb); have n3_ := Aside0.mk (Kd.R_below HOR15.out hb); have n4_ := Aside0.mk (Kd.R_below HOR18.out hb); have n5_ := Aside0.mk (Kd.R_below HOR22.out hb); have n6_ := Aside0.mk (Kd.R_below HOR25.out hb); have n7_ := Aside0.mk (Kd.R_below HOR28.out hb); have n8_ := Aside0.mk (Kd.R_below HOR32.out hb); have n9_ := Aside0.mk (Kd.R_below HOR36.out hb); have n10_ := Aside0.mk (Kd.R_below HOR39.out hb); have n11_ := Aside0.mk (Nat.le_trans UPR7.out hb.size); have n12_ := Aside0.mk (Nat.le_trans UPR10.out hb.size); have n13_ := Aside0.mk (Nat.le_trans UPR12.out hb.size); have n14_ := Aside0.mk (Nat.le_trans UPR15.out hb.size); have n15_ := Aside0.mk (Nat.le_trans UPR18.out hb.size); have n16_ := Aside0.mk (Nat.le_trans UPR22.out hb.size); have n17_ := Aside0.mk (Nat.le_trans UPR25.out hb.size); have n18_ := Aside0.mk (Nat.le_trans UPR28.out hb.size); have n19_ := Aside0.mk (Nat.le_trans UPR32.out hb.size); have n20_ := Aside0.mk (Nat.le_trans UPR36.out hb.size); have n21_ := Aside0.mk (Nat.le_trans UPR39.out hb.size); have n22_ := Aside0.mk (blk_below (g := gb1) BKgb1.out hb); have n23_ := Aside0.mk (blk_below (g := gb2) BKgb2.out hb); have n24_ := Aside0.mk (blk_below (g := gb19) BKgb19.out hb); have n25_ := Aside0.mk (blk_below (g := gb23) BKgb23.out hb); have n26_ := Aside0.mk (Nat.lt_of_lt_of_le GUgb1.out hb.size); have n27_ := Aside0.mk (Nat.lt_of_lt_of_le GUgb2.out hb.size); have n28_ := Aside0.mk (Nat.lt_of_lt_of_le GUgb19.out hb.size); have n29_ := Aside0.mk (Nat.lt_of_lt_of_le GUgb23.out hb.size); have n30_ := Aside0.mk (below_step HB.out hb); have n31_ := Aside0.mk (below_step HBM.out hb); clear HOR7; clear HOR10; clear HOR12; clear HOR15; clear HOR18; clear HOR22; clear HOR25; clear HOR28; clear HOR32; clear HOR36; clear HOR39; clear UPR7; clear UPR10; clear UPR12; clear UPR15; clear UPR18; clear UPR22; clear UPR25; clear UPR28; clear UPR32; clear UPR36; clear UPR39; clear BKgb1; clear BKgb2; clear BKgb19; clear BKgb23; clear GUgb1; clear GUgb2; clear GUgb19; clear GUgb23; clear HB; clear HBM; have HOR7 := n0_; have HOR10 := n1_; have HOR12 := n2_; have HOR15 := n3_; have HOR18 := n4_; have HOR22 := n5_; have HOR25 := n6_; have HOR28 := n7_; have HOR32 := n8_; have HOR36 := n9_; have HOR39 := n10_; have UPR7 := n11_; have UPR10 := n12_; have UPR12 := n13_; have UPR15 := n14_; have UPR18 := n15_; have UPR22 := n16_; have UPR25 := n17_; have UPR28 := n18_; have UPR32 := n19_; have UPR36 := n20_; have UPR39 := n21_; have BKgb1 := n22_; have BKgb2 := n23_; have BKgb19 := n24_; have BKgb23 := n25_; have GUgb1 := n26_; have GUgb2 := n27_; have GUgb19 := n28_; have GUgb23 := n29_; have HB := n30_; have HBM := n31_; clear n0_ n1_ n2_ n3_ n4_ n5_ n6_ n7_ n8_ n9_ n10_ n11_ n12_ n13_ n14_ n15_ n16_ n17_ n18_ n19_ n20_ n21_ n22_ n23_ n24_ n25_ n26_ n27_ n28_ n29_ n30_ n31_; clear hb; clear hd; (try clear hczgb1_0); (try clear hfzgb1_0); (try clear hczgb1_1); (try clear hfzgb1_1); (try clear hczgb2_0); (try clear hfzgb2_0); (try clear hczgb2_1); (try clear hfzgb2_1); (try clear hczgb19_0); (try clear hfzgb19_0); (try clear hczgb19_1); (try clear hfzgb19_1); (try clear hczgb23_0); (try clear hfzgb23_0); (try clear hczgb23_1); (try clear hfzgb23_1); have hczgb1_0 : w_26.cell? ⟨gb1, 0, none⟩ = some (.int .i64 a0_0) := (blk_cell BKgb1.out 0).trans rfl; have hfzgb1_0 := blk_frozen BKgb1.out 0; have hczgb1_1 : w_26.cell? ⟨gb1, 1, none⟩ = some (.slice A0_1 l0_1.length c0_1) := (blk_cell BKgb1.out 1).trans rfl; have hfzgb1_1 := blk_frozen BKgb1.out 1; have hczgb2_0 : w_26.cell? ⟨gb2, 0, none⟩ = some (.int .i64 a1_0) := (blk_cell BKgb2.out 0).trans rfl; have hfzgb2_0 := blk_frozen BKgb2.out 0; have hczgb2_1 : w_26.cell? ⟨gb2, 1, none⟩ = some (.slice A1_1 l1_1.length c1_1) := (blk_cell BKgb2.out 1).trans rfl; have hfzgb2_1 := blk_frozen BKgb2.out 1; have hczgb19_0 : w_26.cell? ⟨gb19, 0, none⟩ = some (.int .i64 t16) := (blk_cell BKgb19.out 0).trans rfl; have hfzgb19_0 := blk_frozen BKgb19.out 0; have hczgb19_1 : w_26.cell? ⟨gb19, 1, none⟩ = some (.slice AR18 t17.length cR18) := (blk_cell BKgb19.out 1).trans rfl; have hfzgb19_1 := blk_frozen BKgb19.out 1; have hczgb23_0 : w_26.cell? ⟨gb23, 0, none⟩ = some (.int .i64 t20) := (blk_cell BKgb23.out 0).trans rfl; have hfzgb23_0 := blk_frozen BKgb23.out 0; have hczgb23_1 : w_26.cell? ⟨gb23, 1, none⟩ = some (.slice AR22 t21.length cR22) := (blk_cell BKgb23.out 1).trans rfl; have hfzgb23_1 := blk_frozen BKgb23.out 1) | ((with_reducible refine gate_callee (f := 48) rfl ?_); refine goesL_ (some 82) rfl rfl Try.func48 (by kernel_rfl) rfl #[.agg #[.int .i64 t16, .slice AR18 t17.length cR18], .int .i64 1] rfl (by (try simp only [List.map_toArray, List.map_cons, List.map_nil]); first | done | rfl) ?_; (with_reducible refine (laws_markSystem.calls k t16 (fun k_ => loR18 ≤ k_ ∧ k_ < hiR18) _ t17 1 t41 t42 w_9 _ ?side1 ?side2 E26.out).mono ?_); (case side1 => exact HBM.out); (case side2 => exact HOR18.out); rintro e w_27 ⟨rfl, hy, hb, hkp⟩; refine ⟨_, rfl, ?_⟩; have n0_ := Aside0.mk (Kd.R_kept HOR7.out hkp NRR7_R18.out); have n1_ := Aside0.mk (Nat.le_trans UPR7.out hkp.1); have n2_ := Aside0.mk (Kd.R_kept HOR10.out hkp NRR10_R18.out); have n3_ := Aside0.mk (Nat.le_trans UPR10.out hkp.1); have n4_ := Aside0.mk (Kd.R_kept HOR12.out hkp NRR12_R18.out); have n5_ := Aside0.mk (Nat.le_trans UPR12.out hkp.1); have n6_ := Aside0.mk (Kd.R_kept HOR15.out hkp NRR15_R18.out); have n7_ := Aside0.mk (Nat.le_trans UPR15.out hkp.1); have n8_ := Aside0.mk (Kd.R_reok rfl hy (fun k_ e_ => HOR18.out.1 k_ e_)); have n9_ := Aside0.mk (Nat.le_trans UPR18.out hkp.1); have n10_ := Aside0.mk (Kd.R_kept HOR22.out hkp NRR22_R18.out); have n11_ := Aside0.mk (Nat.le_trans UPR22.out hkp.1); have n12_ := Aside0.mk (Kd.R_kept HOR25.out hkp NRR25_R18.out); have n13_ := Aside0.mk (Nat.le_trans UPR25.out hkp.1); have n14_ := Aside0.mk (Kd.R_kept HOR28.out hkp NRR28_R18.out); have n15_ := Aside0.mk (Nat.le_trans UPR28.out hkp.1); have n16_ := Aside0.mk (Kd.R_kept HOR32.out hkp NRR32_R18.out); have n17_ := Aside0.mk (Nat.le_trans UPR32.out hkp.1); have n18_ := Aside0.mk (Kd.R_kept HOR36.out hkp NRR36_R18.out); have n19_ := Aside0.mk (Nat.le_trans UPR36.out hkp.1); have n20_ := Aside0.mk (Kd.R_kept HOR39.out hkp NRR39_R18.out); have n21_ := Aside0.mk (Nat.le_trans UPR39.out hkp.1); have n22_ := Aside0.mk (blk_kept (g := gb1) BKgb1.out hkp (fun h_ => NER18_gb1.out _ h_ rfl)); have n23_ := Aside0.mk (Nat.lt_of_lt_of_le GUgb1.out hkp.1); have n24_ := Aside0.mk (blk_kept (g := gb2) BKgb2.out hkp (fun h_ => NER18_gb2.out _ h_ rfl)); have n25_ := Aside0.mk (Nat.lt_of_lt_of_le GUgb2.out hkp.1); have n26_ := Aside0.mk (blk_kept (g := gb19) BKgb19.out hkp (fun h_ => NER18_gb19.out _ h_ rfl)); have n27_ := Aside0.mk (Nat.lt_of_lt_of_le GUgb19.out hkp.1); have n28_ := Aside0.mk (blk_kept (g := gb23) BKgb23.out hkp (fun h_ => NER18_gb23.out _ h_ rfl)); have n29_ := Aside0.mk (Nat.lt_of_lt_of_le GUgb23.out hkp.1); have n30_ := Aside0.mk (below_step HWM.out hb); have n31_ := Aside0.mk (hb); clear HOR7; clear UPR7; clear HOR10; clear UPR10; clear HOR12; clear UPR12; clear HOR15; clear UPR15; clear HOR18; clear UPR18; clear HOR22; clear UPR22; clear HOR25; clear UPR25; clear HOR28; clear UPR28; clear HOR32; clear UPR32; clear HOR36; clear UPR36; clear HOR39; clear UPR39; clear BKgb1; clear GUgb1; clear BKgb2; clear GUgb2; clear BKgb19; clear GUgb19; clear BKgb23; clear GUgb23; clear HB; clear HBM; have HOR7 := n0_; have UPR7 := n1_; have HOR10 := n2_; have UPR10 := n3_; have HOR12 := n4_; have UPR12 := n5_; have HOR15 := n6_; have UPR15 := n7_; have HOR18 := n8_; have UPR18 := n9_; have HOR22 := n10_; have UPR22 := n11_; have HOR25 := n12_; have UPR25 := n13_; have HOR28 := n14_; have UPR28 := n15_; have HOR32 := n16_; have UPR32 := n17_; have HOR36 := n18_; have UPR36 := n19_; have HOR39 := n20_; have UPR39 := n21_; have BKgb1 := n22_; have GUgb1 := n23_; have BKgb2 := n24_; have GUgb2 := n25_; have BKgb19 := n26_; have GUgb19 := n27_; have BKgb23 := n28_; have GUgb23 := n29_; have HB := n30_; have HBM := n31_; clear n0_ n1_ n2_ n3_ n4_ n5_ n6_ n7_ n8_ n9_ n10_ n11_ n12_ n13_ n14_ n15_ n16_ n17_ n18_ n19_ n20_ n21_ n22_ n23_ n24_ n25_ n26_ n27_ n28_ n29_ n30_ n31_; clear hy hb hkp; (try clear hczgb1_0); (try clear hfzgb1_0); (try clear hczgb1_1); (try clear hfzgb1_1); (try clear hczgb2_0); (try clear hfzgb2_0); (try clear hczgb2_1); (try clear hfzgb2_1); (try clear hczgb19_0); (try clear hfzgb19_0); (try clear hczgb19_1); (try clear hfzgb19_1); (try clear hczgb23_0); (try clear hfzgb23_0); (try clear hczgb23_1); (try clear hfzgb23_1); have hczgb1_0 : w_27.cell? ⟨gb1, 0, none⟩ = some (.int .i64 a0_0) := (blk_cell BKgb1.out 0).trans rfl; have hfzgb1_0 := blk_frozen BKgb1.out 0; have hczgb1_1 : w_27.cell? ⟨gb1, 1, none⟩ = some (.slice A0_1 l0_1.length c0_1) := (blk_cell BKgb1.out 1).trans rfl; have hfzgb1_1 := blk_frozen BKgb1.out 1; have hczgb2_0 : w_27.cell? ⟨gb2, 0, none⟩ = some (.int .i64 a1_0) := (blk_cell BKgb2.out 0).trans rfl; have hfzgb2_0 := blk_frozen BKgb2.out 0; have hczgb2_1 : w_27.cell? ⟨gb2, 1, none⟩ = some (.slice A1_1 l1_1.length c1_1) := (blk_cell BKgb2.out 1).trans rfl; have hfzgb2_1 := blk_frozen BKgb2.out 1; have hczgb19_0 : w_27.cell? ⟨gb19, 0, none⟩ = some (.int .i64 t16) := (blk_cell BKgb19.out 0).trans rfl; have hfzgb19_0 := blk_frozen BKgb19.out 0; have hczgb19_1 : w_27.cell? ⟨gb19, 1, none⟩ = some (.slice AR18 t17.length cR18) := (blk_cell BKgb19.out 1).trans rfl; have hfzgb19_1 := blk_frozen BKgb19.out 1; have hczgb23_0 : w_27.cell? ⟨gb23, 0, none⟩ = some (.int .i64 t20) := (blk_cell BKgb23.out 0).trans rfl; have hfzgb23_0 := blk_frozen BKgb23.out 0; have hczgb23_1 : w_27.cell? ⟨gb23, 1, none⟩ = some (.slice AR22 t21.length cR22) := (blk_cell BKgb23.out 1).trans rfl; have hfzgb23_1 := blk_frozen BKgb23.out 1) | ((with_reducible refine gate_callee (f := 49) rfl ?_); refine goesL_ (some 85) rfl rfl Try.func49 (by kernel_rfl) rfl #[.agg #[.int .i64 t20, .slice AR22 t21.length cR22], .int .i64 t41] rfl (by (try simp only [List.map_toArray, List.map_cons, List.map_nil]); first | done | rfl) ?_; (with_reducible refine (laws_markValues.calls k t20 (fun k_ => loR22 ≤ k_ ∧ k_ < hiR22) _ t21 t41 t43 t44 w_9 _ ?side1 ?side2 E27.out).mono ?_); (case side1 => exact HBM.out); (case side2 => exact HOR22.out); rintro e w_28 ⟨rfl, hy, hb, hkp⟩; refine ⟨_, rfl, ?_⟩; have n0_ := Aside0.mk (Kd.R_kept HOR7.out hkp NRR7_R22.out); have n1_ := Aside0.mk (Nat.le_trans UPR7.out hkp.1); have n2_ := Aside0.mk (Kd.R_kept HOR10.out hkp NRR10_R22.out); have n3_ := Aside0.mk (Nat.le_trans UPR10.out hkp.1); have n4_ := Aside0.mk (Kd.R_kept HOR12.out hkp NRR12_R22.out); have n5_ := Aside0.mk (Nat.le_trans UPR12.out hkp.1); have n6_ := Aside0.mk (Kd.R_kept HOR15.out hkp NRR15_R22.out); have n7_ := Aside0.mk (Nat.le_trans UPR15.out hkp.1); have n8_ := Aside0.mk (Kd.R_kept HOR18.out hkp NRR18_R22.out); have n9_ := Aside0.mk (Nat.le_trans UPR18.out hkp.1); have n10_ := Aside0.mk (Kd.R_reok rfl hy (fun k_ e_ => HOR22.out.1 k_ e_)); have n11_ := Aside0.mk (Nat.le_trans UPR22.out hkp.1); have n12_ := Aside0.mk (Kd.R_kept HOR25.out hkp NRR25_R22.out); have n13_ := Aside0.mk (Nat.le_trans UPR25.out hkp.1); have n14_ := Aside0.mk (Kd.R_kept HOR28.out hkp NRR28_R22.out); have n15_ := Aside0.mk (Nat.le_trans UPR28.out hkp.1); have n16_ := Aside0.mk (Kd.R_kept HOR32.out hkp NRR32_R22.out); have n17_ := Aside0.mk (Nat.le_trans UPR32.out hkp.1); have n18_ := Aside0.mk (Kd.R_kept HOR36.out hkp NRR36_R22.out); have n19_ := Aside0.mk (Nat.le_trans UPR36.out hkp.1); have n20_ := Aside0.mk (Kd.R_kept HOR39.out hkp NRR39_R22.out); have n21_ := Aside0.mk (Nat.le_trans UPR39.out hkp.1); have n22_ := Aside0.mk (blk_kept (g := gb1) BKgb1.out hkp (fun h_ => NER22_gb1.out _ h_ rfl)); have n23_ := Aside0.mk (Nat.lt_of_lt_of_le GUgb1.out hkp.1); have n24_ := Aside0.mk (blk_kept (g := gb2) BKgb2.out hkp (fun h_ => NER22_gb2.out _ h_ rfl)); have n25_ := Aside0.mk (Nat.lt_of_lt_of_le GUgb2.out hkp.1); have n26_ := Aside0.mk (blk_kept (g := gb19) BKgb19.out hkp (fun h_ => NER22_gb19.out _ h_ rfl)); have n27_ := Aside0.mk (Nat.lt_of_lt_of_le GUgb19.out hkp.1); have n28_ := Aside0.mk (blk_kept (g := gb23) BKgb23.out hkp (fun h_ => NER22_gb23.out _ h_ rfl)); have n29_ := Aside0.mk (Nat.lt_of_lt_of_le GUgb23.out hkp.1); have n30_ := Aside0.mk (below_step HWM.out hb); have n31_ := Aside0.mk (hb); clear HOR7; clear UPR7; clear HOR10; clear UPR10; clear HOR12; clear UPR12; clear HOR15; clear UPR15; clear HOR18; clear UPR18; clear HOR22; clear UPR22; clear HOR25; clear UPR25; clear HOR28; clear UPR28; clear HOR32; clear UPR32; clear HOR36; clear UPR36; clear HOR39; clear UPR39; clear BKgb1; clear GUgb1; clear BKgb2; clear GUgb2; clear BKgb19; clear GUgb19; clear BKgb23; clear GUgb23; clear HB; clear HBM; have HOR7 := n0_; have UPR7 := n1_; have HOR10 := n2_; have UPR10 := n3_; have HOR12 := n4_; have UPR12 := n5_; have HOR15 := n6_; have UPR15 := n7_; have HOR18 := n8_; have UPR18 := n9_; have HOR22 := n10_; have UPR22 := n11_; have HOR25 := n12_; have UPR25 := n13_; have HOR28 := n14_; have UPR28 := n15_; have HOR32 := n16_; have UPR32 := n17_; have HOR36 := n18_; have UPR36 := n19_; have HOR39 := n20_; have UPR39 := n21_; have BKgb1 := n22_; have GUgb1 := n23_; have BKgb2 := n24_; have GUgb2 := n25_; have BKgb19 := n26_; have GUgb19 := n27_; have BKgb23 := n28_; have GUgb23 := n29_; have HB := n30_; have HBM := n31_; clear n0_ n1_ n2_ n3_ n4_ n5_ n6_ n7_ n8_ n9_ n10_ n11_ n12_ n13_ n14_ n15_ n16_ n17_ n18_ n19_ n20_ n21_ n22_ n23_ n24_ n25_ n26_ n27_ n28_ n29_ n30_ n31_; clear hy hb hkp; (try clear hczgb1_0); (try clear hfzgb1_0); (try clear hczgb1_1); (try clear hfzgb1_1); (try clear hczgb2_0); (try clear hfzgb2_0); (try clear hczgb2_1); (try clear hfzgb2_1); (try clear hczgb19_0); (try clear hfzgb19_0); (try clear hczgb19_1); (try clear hfzgb19_1); (try clear hczgb23_0); (try clear hfzgb23_0); (try clear hczgb23_1); (try clear hfzgb23_1); have hczgb1_0 : w_28.cell? ⟨gb1, 0, none⟩ = some (.int .i64 a0_0) := (blk_cell BKgb1.out 0).trans rfl; have hfzgb1_0 := blk_frozen BKgb1.out 0; have hczgb1_1 : w_28.cell? ⟨gb1, 1, none⟩ = some (.slice A0_1 l0_1.length c0_1) := (blk_cell BKgb1.out 1).trans rfl; have hfzgb1_1 := blk_frozen BKgb1.out 1; have hczgb2_0 : w_28.cell? ⟨gb2, 0, none⟩ = some (.int .i64 a1_0) := (blk_cell BKgb2.out 0).trans rfl; have hfzgb2_0 := blk_frozen BKgb2.out 0; have hczgb2_1 : w_28.cell? ⟨gb2, 1, none⟩ = some (.slice A1_1 l1_1.length c1_1) := (blk_cell BKgb2.out 1).trans rfl; have hfzgb2_1 := blk_frozen BKgb2.out 1; have hczgb19_0 : w_28.cell? ⟨gb19, 0, none⟩ = some (.int .i64 t16) := (blk_cell BKgb19.out 0).trans rfl; have hfzgb19_0 := blk_frozen BKgb19.out 0; have hczgb19_1 : w_28.cell? ⟨gb19, 1, none⟩ = some (.slice AR18 t17.length cR18) := (blk_cell BKgb19.out 1).trans rfl; have hfzgb19_1 := blk_frozen BKgb19.out 1; have hczgb23_0 : w_28.cell? ⟨gb23, 0, none⟩ = some (.int .i64 t20) := (blk_cell BKgb23.out 0).trans rfl; have hfzgb23_0 := blk_frozen BKgb23.out 0; have hczgb23_1 : w_28.cell? ⟨gb23, 1, none⟩ = some (.slice AR22 t21.length cR22) := (blk_cell BKgb23.out 1).trans rfl; have hfzgb23_1 := blk_frozen BKgb23.out 1) | ((with_reducible refine gate_callee (f := 38) rfl ?_); refine goesL_ (some 88) rfl rfl Try.func38 (by kernel_rfl) rfl #[.slice AR25 t24.length cR25, .int .i64 t43] rfl (by (try simp only [List.map_toArray, List.map_cons, List.map_nil]); first | done | rfl) ?_; (with_reducible refine (laws_markInt64S.calls k (fun k_ => loR25 ≤ k_ ∧ k_ < hiR25) _ t24 t43 t45 t46 w_9 _ ?side1 ?side2 E28.out).mono ?_); (case side1 => exact HBM.out); (case side2 => exact HOR25.out); rintro e w_29 ⟨rfl, hy, hb, hkp⟩; refine ⟨_, rfl, ?_⟩; have n0_ := Aside0.mk (Kd.R_kept HOR7.out hkp NRR7_R25.out); have n1_ := Aside0.mk (Nat.le_trans UPR7.out hkp.1); have n2_ := Aside0.mk (Kd.R_kept HOR10.out hkp NRR10_R25.out); have n3_ := Aside0.mk (Nat.le_trans UPR10.out hkp.1); have n4_ := Aside0.mk (Kd.R_kept HOR12.out hkp NRR12_R25.out); have n5_ := Aside0.mk (Nat.le_trans UPR12.out hkp.1); have n6_ := Aside0.mk (Kd.R_kept HOR15.out hkp NRR15_R25.out); have n7_ := Aside0.mk (Nat.le_trans UPR15.out hkp.1); have n8_ := Aside0.mk (Kd.R_kept HOR18.out hkp NRR18_R25.out); have n9_ := Aside0.mk (Nat.le_trans UPR18.out hkp.1); have n10_ := Aside0.mk (Kd.R_kept HOR22.out hkp NRR22_R25.out); have n11_ := Aside0.mk (Nat.le_trans UPR22.out hkp.1); have n12_ := Aside0.mk (Kd.R_reok rfl hy (fun k_ e_ => HOR25.out.1 k_ e_)); have n13_ := Aside0.mk (Nat.le_trans UPR25.out hkp.1); have n14_ := Aside0.mk (Kd.R_kept HOR28.out hkp NRR28_R25.out); have n15_ := Aside0.mk (Nat.le_trans UPR28.out hkp.1); have n16_ := Aside0.mk (Kd.R_kept HOR32.out hkp NRR32_R25.out); have n17_ := Aside0.mk (Nat.le_trans UPR32.out hkp.1); have n18_ := Aside0.mk (Kd.R_kept HOR36.out hkp NRR36_R25.out); have n19_ := Aside0.mk (Nat.le_trans UPR36.out hkp.1); have n20_ := Aside0.mk (Kd.R_kept HOR39.out hkp NRR39_R25.out); have n21_ := Aside0.mk (Nat.le_trans UPR39.out hkp.1); have n22_ := Aside0.mk (blk_kept (g := gb1) BKgb1.out hkp (fun h_ => NER25_gb1.out _ h_ rfl)); have n23_ := Aside0.mk (Nat.lt_of_lt_of_le GUgb1.out hkp.1); have n24_ := Aside0.mk (blk_kept (g := gb2) BKgb2.out hkp (fun h_ => NER25_gb2.out _ h_ rfl)); have n25_ := Aside0.mk (Nat.lt_of_lt_of_le GUgb2.out hkp.1); have n26_ := Aside0.mk (blk_kept (g := gb19) BKgb19.out hkp (fun h_ => NER25_gb19.out _ h_ rfl)); have n27_ := Aside0.mk (Nat.lt_of_lt_of_le GUgb19.out hkp.1); have n28_ := Aside0.mk (blk_kept (g := gb23) BKgb23.out hkp (fun h_ => NER25_gb23.out _ h_ rfl)); have n29_ := Aside0.mk (Nat.lt_of_lt_of_le GUgb23.out hkp.1); have n30_ := Aside0.mk (below_step HWM.out hb); have n31_ := Aside0.mk (hb); clear HOR7; clear UPR7; clear HOR10; clear UPR10; clear HOR12; clear UPR12; clear HOR15; clear UPR15; clear HOR18; clear UPR18; clear HOR22; clear UPR22; clear HOR25; clear UPR25; clear HOR28; clear UPR28; clear HOR32; clear UPR32; clear HOR36; clear UPR36; clear HOR39; clear UPR39; clear BKgb1; clear GUgb1; clear BKgb2; clear GUgb2; clear BKgb19; clear GUgb19; clear BKgb23; clear GUgb23; clear HB; clear HBM; have HOR7 := n0_; have UPR7 := n1_; have HOR10 := n2_; have UPR10 := n3_; have HOR12 := n4_; have UPR12 := n5_; have HOR15 := n6_; have UPR15 := n7_; have HOR18 := n8_; have UPR18 := n9_; have HOR22 := n10_; have UPR22 := n11_; have HOR25 := n12_; have UPR25 := n13_; have HOR28 := n14_; have UPR28 := n15_; have HOR32 := n16_; have UPR32 := n17_; have HOR36 := n18_; have UPR36 := n19_; have HOR39 := n20_; have UPR39 := n21_; have BKgb1 := n22_; have GUgb1 := n23_; have BKgb2 := n24_; have GUgb2 := n25_; have BKgb19 := n26_; have GUgb19 := n27_; have BKgb23 := n28_; have GUgb23 := n29_; have HB := n30_; have HBM := n31_; clear n0_ n1_ n2_ n3_ n4_ n5_ n6_ n7_ n8_ n9_ n10_ n11_ n12_ n13_ n14_ n15_ n16_ n17_ n18_ n19_ n20_ n21_ n22_ n23_ n24_ n25_ n26_ n27_ n28_ n29_ n30_ n31_; clear hy hb hkp; (try clear hczgb1_0); (try clear hfzgb1_0); (try clear hczgb1_1); (try clear hfzgb1_1); (try clear hczgb2_0); (try clear hfzgb2_0); (try clear hczgb2_1); (try clear hfzgb2_1); (try clear hczgb19_0); (try clear hfzgb19_0); (try clear hczgb19_1); (try clear hfzgb19_1); (try clear hczgb23_0); (try clear hfzgb23_0); (try clear hczgb23_1); (try clear hfzgb23_1); have hczgb1_0 : w_29.cell? ⟨gb1, 0, none⟩ = some (.int .i64 a0_0) := (blk_cell BKgb1.out 0).trans rfl; have hfzgb1_0 := blk_frozen BKgb1.out 0; have hczgb1_1 : w_29.cell? ⟨gb1, 1, none⟩ = some (.slice A0_1 l0_1.length c0_1) := (blk_cell BKgb1.out 1).trans rfl; have hfzgb1_1 := blk_frozen BKgb1.out 1; have hczgb2_0 : w_29.cell? ⟨gb2, 0, none⟩ = some (.int .i64 a1_0) := (blk_cell BKgb2.out 0).trans rfl; have hfzgb2_0 := blk_frozen BKgb2.out 0; have hczgb2_1 : w_29.cell? ⟨gb2, 1, none⟩ = some (.slice A1_1 l1_1.length c1_1) := (blk_cell BKgb2.out 1).trans rfl; have hfzgb2_1 := blk_frozen BKgb2.out 1; have hczgb19_0 : w_29.cell? ⟨gb19, 0, none⟩ = some (.int .i64 t16) := (blk_cell BKgb19.out 0).trans rfl; have hfzgb19_0 := blk_frozen BKgb19.out 0; have hczgb19_1 : w_29.cell? ⟨gb19, 1, none⟩ = some (.slice AR18 t17.length cR18) := (blk_cell BKgb19.out 1).trans rfl; have hfzgb19_1 := blk_frozen BKgb19.out 1; have hczgb23_0 : w_29.cell? ⟨gb23, 0, none⟩ = some (.int .i64 t20) := (blk_cell BKgb23.out 0).trans rfl; have hfzgb23_0 := blk_frozen BKgb23.out 0; have hczgb23_1 : w_29.cell? ⟨gb23, 1, none⟩ = some (.slice AR22 t21.length cR22) := (blk_cell BKgb23.out 1).trans rfl; have hfzgb23_1 := blk_frozen BKgb23.out 1) | (go_at_call 37; (with_reducible refine (laws_eqInt64S.calls k _ _ t26 _ _ t13 true _ ?side1 ?side2 ?side3 ?side4 E30.out).mono ?_); (case side1 => exact (Kd.R_reads' HOR28.out).2.2); (case side2 => exact (Kd.R_reads' HOR28.out).2.1); (case side3 => exact (Kd.R_reads' HOR15.out).2.2); (case side4 => exact (Kd.R_reads' HOR15.out).2.1); rintro e w_30 ⟨rfl, hd⟩; have hb := Drawn0.below hd; have n0_ := Aside0.mk (Kd.R_below HOR7.out hb); have n1_ := Aside0.mk (Kd.R_below HOR10.out hb); have n2_ := Aside0.mk (Kd.R_below HOR12.out hb); have n3_ := Aside0.mk (Kd.R_below HOR15.out hb); have n4_ := Aside0.mk (Kd.R_below HOR18.out hb); have n5_ := Aside0.mk (Kd.R_below HOR22.out hb); have n6_ := Aside0.mk (Kd.R_below HOR25.out hb); have n7_ := Aside0.mk (Kd.R_below HOR28.out hb); have n8_ := Aside0.mk (Kd.R_below HOR32.out hb); have n9_ := Aside0.mk (Kd.R_below HOR36.out hb); have n10_ := Aside0.mk (Kd.R_below HOR39.out hb); have n11_ := Aside0.mk (Nat.le_trans UPR7.out hb.size); have n12_ := Aside0.mk (Nat.le_trans UPR10.out hb.size); have n13_ := Aside0.mk (Nat.le_trans UPR12.out hb.size); have n14_ := Aside0.mk (Nat.le_trans UPR15.out hb.size); have n15_ := Aside0.mk (Nat.le_trans UPR18.out hb.size); have n16_ := Aside0.mk (Nat.le_trans UPR22.out hb.size); have n17_ := Aside0.mk (Nat.le_trans UPR25.out hb.size); have n18_ := Aside0.mk (Nat.le_trans UPR28.out hb.size); have n19_ := Aside0.mk (Nat.le_trans UPR32.out hb.size); have n20_ := Aside0.mk (Nat.le_trans UPR36.out hb.size); have n21_ := Aside0.mk (Nat.le_trans UPR39.out hb.size); have n22_ := Aside0.mk (blk_below (g := gb1) BKgb1.out hb); have n23_ := Aside0.mk (blk_below (g := gb2) BKgb2.out hb); have n24_ := Aside0.mk (blk_below (g := gb19) BKgb19.out hb); have n25_ := Aside0.mk (blk_below (g := gb23) BKgb23.out hb); have n26_ := Aside0.mk (Nat.lt_of_lt_of_le GUgb1.out hb.size); have n27_ := Aside0.mk (Nat.lt_of_lt_of_le GUgb2.out hb.size); have n28_ := Aside0.mk (Nat.lt_of_lt_of_le GUgb19.out hb.size); have n29_ := Aside0.mk (Nat.lt_of_lt_of_le GUgb23.out hb.size); have n30_ := Aside0.mk (below_step HB.out hb); have n31_ := Aside0.mk (below_step HBM.out hb); clear HOR7; clear HOR10; clear HOR12; clear HOR15; clear HOR18; clear HOR22; clear HOR25; clear HOR28; clear HOR32; clear HOR36; clear HOR39; clear UPR7; clear UPR10; clear UPR12; clear UPR15; clear UPR18; clear UPR22; clear UPR25; clear UPR28; clear UPR32; clear UPR36; clear UPR39; clear BKgb1; clear BKgb2; clear BKgb19; clear BKgb23; clear GUgb1; clear GUgb2; clear GUgb19; clear GUgb23; clear HB; clear HBM; have HOR7 := n0_; have HOR10 := n1_; have HOR12 := n2_; have HOR15 := n3_; have HOR18 := n4_; have HOR22 := n5_; have HOR25 := n6_; have HOR28 := n7_; have HOR32 := n8_; have HOR36 := n9_; have HOR39 := n10_; have UPR7 := n11_; have UPR10 := n12_; have UPR12 := n13_; have UPR15 := n14_; have UPR18 := n15_; have UPR22 := n16_; have UPR25 := n17_; have UPR28 := n18_; have UPR32 := n19_; have UPR36 := n20_; have UPR39 := n21_; have BKgb1 := n22_; have BKgb2 := n23_; have BKgb19 := n24_; have BKgb23 := n25_; have GUgb1 := n26_; have GUgb2 := n27_; have GUgb19 := n28_; have GUgb23 := n29_; have HB := n30_; have HBM := n31_; clear n0_ n1_ n2_ n3_ n4_ n5_ n6_ n7_ n8_ n9_ n10_ n11_ n12_ n13_ n14_ n15_ n16_ n17_ n18_ n19_ n20_ n21_ n22_ n23_ n24_ n25_ n26_ n27_ n28_ n29_ n30_ n31_; clear hb; clear hd; (try clear hczgb1_0); (try clear hfzgb1_0); (try clear hczgb1_1); (try clear hfzgb1_1); (try clear hczgb2_0); (try clear hfzgb2_0); (try clear hczgb2_1); (try clear hfzgb2_1); (try clear hczgb19_0); (try clear hfzgb19_0); (try clear hczgb19_1); (try clear hfzgb19_1); (try clear hczgb23_0); (try clear hfzgb23_0); (try clear hczgb23_1); (try clear hfzgb23_1); have hczgb1_0 : w_30.cell? ⟨gb1, 0, none⟩ = some (.int .i64 a0_0) := (blk_cell BKgb1.out 0).trans rfl; have hfzgb1_0 := blk_frozen BKgb1.out 0; have hczgb1_1 : w_30.cell? ⟨gb1, 1, none⟩ = some (.slice A0_1 l0_1.length c0_1) := (blk_cell BKgb1.out 1).trans rfl; have hfzgb1_1 := blk_frozen BKgb1.out 1; have hczgb2_0 : w_30.cell? ⟨gb2, 0, none⟩ = some (.int .i64 a1_0) := (blk_cell BKgb2.out 0).trans rfl; have hfzgb2_0 := blk_frozen BKgb2.out 0; have hczgb2_1 : w_30.cell? ⟨gb2, 1, none⟩ = some (.slice A1_1 l1_1.length c1_1) := (blk_cell BKgb2.out 1).trans rfl; have hfzgb2_1 := blk_frozen BKgb2.out 1; have hczgb19_0 : w_30.cell? ⟨gb19, 0, none⟩ = some (.int .i64 t16) := (blk_cell BKgb19.out 0).trans rfl; have hfzgb19_0 := blk_frozen BKgb19.out 0; have hczgb19_1 : w_30.cell? ⟨gb19, 1, none⟩ = some (.slice AR18 t17.length cR18) := (blk_cell BKgb19.out 1).trans rfl; have hfzgb19_1 := blk_frozen BKgb19.out 1; have hczgb23_0 : w_30.cell? ⟨gb23, 0, none⟩ = some (.int .i64 t20) := (blk_cell BKgb23.out 0).trans rfl; have hfzgb23_0 := blk_frozen BKgb23.out 0; have hczgb23_1 : w_30.cell? ⟨gb23, 1, none⟩ = some (.slice AR22 t21.length cR22) := (blk_cell BKgb23.out 1).trans rfl; have hfzgb23_1 := blk_frozen BKgb23.out 1) | ((with_reducible refine gate_callee (f := 38) rfl ?_); refine goesL_ (some 104) rfl rfl Try.func38 (by kernel_rfl) rfl #[.slice AR28 t26.length cR28, .int .i64 1] rfl (by (try simp only [List.map_toArray, List.map_cons, List.map_nil]); first | done | rfl) ?_; (with_reducible refine (laws_markInt64S.calls k (fun k_ => loR28 ≤ k_ ∧ k_ < hiR28) _ t26 1 t63 t49 w_9 _ ?side1 ?side2 E32.out).mono ?_); (case side1 => exact HBM.out); (case side2 => exact HOR28.out); rintro e w_31 ⟨rfl, hy, hb, hkp⟩; refine ⟨_, rfl, ?_⟩; have n0_ := Aside0.mk (Kd.R_kept HOR7.out hkp NRR7_R28.out); have n1_ := Aside0.mk (Nat.le_trans UPR7.out hkp.1); have n2_ := Aside0.mk (Kd.R_kept HOR10.out hkp NRR10_R28.out); have n3_ := Aside0.mk (Nat.le_trans UPR10.out hkp.1); have n4_ := Aside0.mk (Kd.R_kept HOR12.out hkp NRR12_R28.out); have n5_ := Aside0.mk (Nat.le_trans UPR12.out hkp.1); have n6_ := Aside0.mk (Kd.R_kept HOR15.out hkp NRR15_R28.out); have n7_ := Aside0.mk (Nat.le_trans UPR15.out hkp.1); have n8_ := Aside0.mk (Kd.R_kept HOR18.out hkp NRR18_R28.out); have n9_ := Aside0.mk (Nat.le_trans UPR18.out hkp.1); have n10_ := Aside0.mk (Kd.R_kept HOR22.out hkp NRR22_R28.out); have n11_ := Aside0.mk (Nat.le_trans UPR22.out hkp.1); have n12_ := Aside0.mk (Kd.R_kept HOR25.out hkp NRR25_R28.out); have n13_ := Aside0.mk (Nat.le_trans UPR25.out hkp.1); have n14_ := Aside0.mk (Kd.R_reok rfl hy (fun k_ e_ => HOR28.out.1 k_ e_)); have n15_ := Aside0.mk (Nat.le_trans UPR28.out hkp.1); have n16_ := Aside0.mk (Kd.R_kept HOR32.out hkp NRR32_R28.out); have n17_ := Aside0.mk (Nat.le_trans UPR32.out hkp.1); have n18_ := Aside0.mk (Kd.R_kept HOR36.out hkp NRR36_R28.out); have n19_ := Aside0.mk (Nat.le_trans UPR36.out hkp.1); have n20_ := Aside0.mk (Kd.R_kept HOR39.out hkp NRR39_R28.out); have n21_ := Aside0.mk (Nat.le_trans UPR39.out hkp.1); have n22_ := Aside0.mk (blk_kept (g := gb1) BKgb1.out hkp (fun h_ => NER28_gb1.out _ h_ rfl)); have n23_ := Aside0.mk (Nat.lt_of_lt_of_le GUgb1.out hkp.1); have n24_ := Aside0.mk (blk_kept (g := gb2) BKgb2.out hkp (fun h_ => NER28_gb2.out _ h_ rfl)); have n25_ := Aside0.mk (Nat.lt_of_lt_of_le GUgb2.out hkp.1); have n26_ := Aside0.mk (blk_kept (g := gb19) BKgb19.out hkp (fun h_ => NER28_gb19.out _ h_ rfl)); have n27_ := Aside0.mk (Nat.lt_of_lt_of_le GUgb19.out hkp.1); have n28_ := Aside0.mk (blk_kept (g := gb23) BKgb23.out hkp (fun h_ => NER28_gb23.out _ h_ rfl)); have n29_ := Aside0.mk (Nat.lt_of_lt_of_le GUgb23.out hkp.1); have n30_ := Aside0.mk (below_step HWM.out hb); have n31_ := Aside0.mk (hb); clear HOR7; clear UPR7; clear HOR10; clear UPR10; clear HOR12; clear UPR12; clear HOR15; clear UPR15; clear HOR18; clear UPR18; clear HOR22; clear UPR22; clear HOR25; clear UPR25; clear HOR28; clear UPR28; clear HOR32; clear UPR32; clear HOR36; clear UPR36; clear HOR39; clear UPR39; clear BKgb1; clear GUgb1; clear BKgb2; clear GUgb2; clear BKgb19; clear GUgb19; clear BKgb23; clear GUgb23; clear HB; clear HBM; have HOR7 := n0_; have UPR7 := n1_; have HOR10 := n2_; have UPR10 := n3_; have HOR12 := n4_; have UPR12 := n5_; have HOR15 := n6_; have UPR15 := n7_; have HOR18 := n8_; have UPR18 := n9_; have HOR22 := n10_; have UPR22 := n11_; have HOR25 := n12_; have UPR25 := n13_; have HOR28 := n14_; have UPR28 := n15_; have HOR32 := n16_; have UPR32 := n17_; have HOR36 := n18_; have UPR36 := n19_; have HOR39 := n20_; have UPR39 := n21_; have BKgb1 := n22_; have GUgb1 := n23_; have BKgb2 := n24_; have GUgb2 := n25_; have BKgb19 := n26_; have GUgb19 := n27_; have BKgb23 := n28_; have GUgb23 := n29_; have HB := n30_; have HBM := n31_; clear n0_ n1_ n2_ n3_ n4_ n5_ n6_ n7_ n8_ n9_ n10_ n11_ n12_ n13_ n14_ n15_ n16_ n17_ n18_ n19_ n20_ n21_ n22_ n23_ n24_ n25_ n26_ n27_ n28_ n29_ n30_ n31_; clear hy hb hkp; (try clear hczgb1_0); (try clear hfzgb1_0); (try clear hczgb1_1); (try clear hfzgb1_1); (try clear hczgb2_0); (try clear hfzgb2_0); (try clear hczgb2_1); (try clear hfzgb2_1); (try clear hczgb19_0); (try clear hfzgb19_0); (try clear hczgb19_1); (try clear hfzgb19_1); (try clear hczgb23_0); (try clear hfzgb23_0); (try clear hczgb23_1); (try clear hfzgb23_1); have hczgb1_0 : w_31.cell? ⟨gb1, 0, none⟩ = some (.int .i64 a0_0) := (blk_cell BKgb1.out 0).trans rfl; have hfzgb1_0 := blk_frozen BKgb1.out 0; have hczgb1_1 : w_31.cell? ⟨gb1, 1, none⟩ = some (.slice A0_1 l0_1.length c0_1) := (blk_cell BKgb1.out 1).trans rfl; have hfzgb1_1 := blk_frozen BKgb1.out 1; have hczgb2_0 : w_31.cell? ⟨gb2, 0, none⟩ = some (.int .i64 a1_0) := (blk_cell BKgb2.out 0).trans rfl; have hfzgb2_0 := blk_frozen BKgb2.out 0; have hczgb2_1 : w_31.cell? ⟨gb2, 1, none⟩ = some (.slice A1_1 l1_1.length c1_1) := (blk_cell BKgb2.out 1).trans rfl; have hfzgb2_1 := blk_frozen BKgb2.out 1; have hczgb19_0 : w_31.cell? ⟨gb19, 0, none⟩ = some (.int .i64 t16) := (blk_cell BKgb19.out 0).trans rfl; have hfzgb19_0 := blk_frozen BKgb19.out 0; have hczgb19_1 : w_31.cell? ⟨gb19, 1, none⟩ = some (.slice AR18 t17.length cR18) := (blk_cell BKgb19.out 1).trans rfl; have hfzgb19_1 := blk_frozen BKgb19.out 1; have hczgb23_0 : w_31.cell? ⟨gb23, 0, none⟩ = some (.int .i64 t20) := (blk_cell BKgb23.out 0).trans rfl; have hfzgb23_0 := blk_frozen BKgb23.out 0; have hczgb23_1 : w_31.cell? ⟨gb23, 1, none⟩ = some (.slice AR22 t21.length cR22) := (blk_cell BKgb23.out 1).trans rfl; have hfzgb23_1 := blk_frozen BKgb23.out 1) | ((with_reducible refine gate_callee (f := 39) rfl ?_); refine goesL_ (some 107) rfl rfl Try.func39 (by kernel_rfl) rfl #[.slice AR28 t49.length cR28, .int .i64 1] rfl (by (try simp only [List.map_toArray, List.map_cons, List.map_nil]); first | done | rfl | (simp only [show t49.length = t26.length from (Kd.R_reads' HOR28.out).1.symm]; rfl)) ?_; (with_reducible refine (laws_heldInt64S.calls k _ _ t49 1 t63 _ ?side1 ?side2 E33.out).mono ?_); (case side1 => exact (Kd.R_reads' HOR28.out).2.2); (case side2 => exact (fun h_ => h_.1 ▸ h_.2.1) (Kd.R_reads' HOR28.out)); rintro e w_32 ⟨rfl, hd⟩; have hb := Drawn0.below hd; refine ⟨_, rfl, ?_⟩; have n0_ := Aside0.mk (Kd.R_below HOR7.out hb); have n1_ := Aside0.mk (Kd.R_below HOR10.out hb); have n2_ := Aside0.mk (Kd.R_below HOR12.out hb); have n3_ := Aside0.mk (Kd.R_below HOR15.out hb); have n4_ := Aside0.mk (Kd.R_below HOR18.out hb); have n5_ := Aside0.mk (Kd.R_below HOR22.out hb); have n6_ := Aside0.mk (Kd.R_below HOR25.out hb); have n7_ := Aside0.mk (Kd.R_below HOR28.out hb); have n8_ := Aside0.mk (Kd.R_below HOR32.out hb); have n9_ := Aside0.mk (Kd.R_below HOR36.out hb); have n10_ := Aside0.mk (Kd.R_below HOR39.out hb); have n11_ := Aside0.mk (Nat.le_trans UPR7.out hb.size); have n12_ := Aside0.mk (Nat.le_trans UPR10.out hb.size); have n13_ := Aside0.mk (Nat.le_trans UPR12.out hb.size); have n14_ := Aside0.mk (Nat.le_trans UPR15.out hb.size); have n15_ := Aside0.mk (Nat.le_trans UPR18.out hb.size); have n16_ := Aside0.mk (Nat.le_trans UPR22.out hb.size); have n17_ := Aside0.mk (Nat.le_trans UPR25.out hb.size); have n18_ := Aside0.mk (Nat.le_trans UPR28.out hb.size); have n19_ := Aside0.mk (Nat.le_trans UPR32.out hb.size); have n20_ := Aside0.mk (Nat.le_trans UPR36.out hb.size); have n21_ := Aside0.mk (Nat.le_trans UPR39.out hb.size); have n22_ := Aside0.mk (blk_below (g := gb1) BKgb1.out hb); have n23_ := Aside0.mk (blk_below (g := gb2) BKgb2.out hb); have n24_ := Aside0.mk (blk_below (g := gb19) BKgb19.out hb); have n25_ := Aside0.mk (blk_below (g := gb23) BKgb23.out hb); have n26_ := Aside0.mk (Nat.lt_of_lt_of_le GUgb1.out hb.size); have n27_ := Aside0.mk (Nat.lt_of_lt_of_le GUgb2.out hb.size); have n28_ := Aside0.mk (Nat.lt_of_lt_of_le GUgb19.out hb.size); have n29_ := Aside0.mk (Nat.lt_of_lt_of_le GUgb23.out hb.size); have n30_ := Aside0.mk (below_step HB.out hb); have n31_ := Aside0.mk (below_step HBM.out hb); clear HOR7; clear HOR10; clear HOR12; clear HOR15; clear HOR18; clear HOR22; clear HOR25; clear HOR28; clear HOR32; clear HOR36; clear HOR39; clear UPR7; clear UPR10; clear UPR12; clear UPR15; clear UPR18; clear UPR22; clear UPR25; clear UPR28; clear UPR32; clear UPR36; clear UPR39; clear BKgb1; clear BKgb2; clear BKgb19; clear BKgb23; clear GUgb1; clear GUgb2; clear GUgb19; clear GUgb23; clear HB; clear HBM; have HOR7 := n0_; have HOR10 := n1_; have HOR12 := n2_; have HOR15 := n3_; have HOR18 := n4_; have HOR22 := n5_; have HOR25 := n6_; have HOR28 := n7_; have HOR32 := n8_; have HOR36 := n9_; have HOR39 := n10_; have UPR7 := n11_; have UPR10 := n12_; have UPR12 := n13_; have UPR15 := n14_; have UPR18 := n15_; have UPR22 := n16_; have UPR25 := n17_; have UPR28 := n18_; have UPR32 := n19_; have UPR36 := n20_; have UPR39 := n21_; have BKgb1 := n22_; have BKgb2 := n23_; have BKgb19 := n24_; have BKgb23 := n25_; have GUgb1 := n26_; have GUgb2 := n27_; have GUgb19 := n28_; have GUgb23 := n29_; have HB := n30_; have HBM := n31_; clear n0_ n1_ n2_ n3_ n4_ n5_ n6_ n7_ n8_ n9_ n10_ n11_ n12_ n13_ n14_ n15_ n16_ n17_ n18_ n19_ n20_ n21_ n22_ n23_ n24_ n25_ n26_ n27_ n28_ n29_ n30_ n31_; clear hb; clear hd; (try clear hczgb1_0); (try clear hfzgb1_0); (try clear hczgb1_1); (try clear hfzgb1_1); (try clear hczgb2_0); (try clear hfzgb2_0); (try clear hczgb2_1); (try clear hfzgb2_1); (try clear hczgb19_0); (try clear hfzgb19_0); (try clear hczgb19_1); (try clear hfzgb19_1); (try clear hczgb23_0); (try clear hfzgb23_0); (try clear hczgb23_1); (try clear hfzgb23_1); have hczgb1_0 : w_32.cell? ⟨gb1, 0, none⟩ = some (.int .i64 a0_0) := (blk_cell BKgb1.out 0).trans rfl; have hfzgb1_0 := blk_frozen BKgb1.out 0; have hczgb1_1 : w_32.cell? ⟨gb1, 1, none⟩ = some (.slice A0_1 l0_1.length c0_1) := (blk_cell BKgb1.out 1).trans rfl; have hfzgb1_1 := blk_frozen BKgb1.out 1; have hczgb2_0 : w_32.cell? ⟨gb2, 0, none⟩ = some (.int .i64 a1_0) := (blk_cell BKgb2.out 0).trans rfl; have hfzgb2_0 := blk_frozen BKgb2.out 0; have hczgb2_1 : w_32.cell? ⟨gb2, 1, none⟩ = some (.slice A1_1 l1_1.length c1_1) := (blk_cell BKgb2.out 1).trans rfl; have hfzgb2_1 := blk_frozen BKgb2.out 1; have hczgb19_0 : w_32.cell? ⟨gb19, 0, none⟩ = some (.int .i64 t16) := (blk_cell BKgb19.out 0).trans rfl; have hfzgb19_0 := blk_frozen BKgb19.out 0; have hczgb19_1 : w_32.cell? ⟨gb19, 1, none⟩ = some (.slice AR18 t17.length cR18) := (blk_cell BKgb19.out 1).trans rfl; have hfzgb19_1 := blk_frozen BKgb19.out 1; have hczgb23_0 : w_32.cell? ⟨gb23, 0, none⟩ = some (.int .i64 t20) := (blk_cell BKgb23.out 0).trans rfl; have hfzgb23_0 := blk_frozen BKgb23.out 0; have hczgb23_1 : w_32.cell? ⟨gb23, 1, none⟩ = some (.slice AR22 t21.length cR22) := (blk_cell BKgb23.out 1).trans rfl; have hfzgb23_1 := blk_frozen BKgb23.out 1))
 have n0_ := Aside0.mk (Kd.R_drew HOR7.out)
 have n1_ := Aside0.mk (Kd.R_drew HOR10.out)
 have n2_ := Aside0.mk (Kd.R_drew HOR12.out)
 have n3_ := Aside0.mk (Kd.R_drew HOR15.out)
 have n4_ := Aside0.mk (Kd.R_drew HOR18.out)
 have n5_ := Aside0.mk (Kd.R_drew HOR22.out)
 have n6_ := Aside0.mk (Kd.R_drew HOR25.out)
 have n7_ := Aside0.mk (Kd.R_drew HOR28.out)
 have n8_ := Aside0.mk (Kd.R_drew HOR32.out)
 have n9_ := Aside0.mk (Kd.R_drew HOR36.out)
 have n10_ := Aside0.mk (Kd.R_drew HOR39.out)
 have n11_ := Aside0.mk (show hiR7 ≤ w_32.drew.heap.size from UPR7.out)
 have n12_ := Aside0.mk (show hiR10 ≤ w_32.drew.heap.size from UPR10.out)
 have n13_ := Aside0.mk (show hiR12 ≤ w_32.drew.heap.size from UPR12.out)
 have n14_ := Aside0.mk (show hiR15 ≤ w_32.drew.heap.size from UPR15.out)
 have n15_ := Aside0.mk (show hiR18 ≤ w_32.drew.heap.size from UPR18.out)
 have n16_ := Aside0.mk (show hiR22 ≤ w_32.drew.heap.size from UPR22.out)
 have n17_ := Aside0.mk (show hiR25 ≤ w_32.drew.heap.size from UPR25.out)
 have n18_ := Aside0.mk (show hiR28 ≤ w_32.drew.heap.size from UPR28.out)
 have n19_ := Aside0.mk (show hiR32 ≤ w_32.drew.heap.size from UPR32.out)
 have n20_ := Aside0.mk (show hiR36 ≤ w_32.drew.heap.size from UPR36.out)
 have n21_ := Aside0.mk (show hiR39 ≤ w_32.drew.heap.size from UPR39.out)
 have n22_ := Aside0.mk (blk_drew BKgb1.out)
 have n23_ := Aside0.mk (blk_drew BKgb2.out)
 have n24_ := Aside0.mk (blk_drew BKgb19.out)
 have n25_ := Aside0.mk (blk_drew BKgb23.out)
 have n26_ := Aside0.mk (show gb1 < w_32.drew.heap.size from GUgb1.out)
 have n27_ := Aside0.mk (show gb2 < w_32.drew.heap.size from GUgb2.out)
 have n28_ := Aside0.mk (show gb19 < w_32.drew.heap.size from GUgb19.out)
 have n29_ := Aside0.mk (show gb23 < w_32.drew.heap.size from GUgb23.out)
 have n30_ := Aside0.mk (below_drew1 HB.out)
 have n31_ := Aside0.mk (below_drew1 HBM.out)
 clear HOR7
 clear HOR10
 clear HOR12
 clear HOR15
 clear HOR18
 clear HOR22
 clear HOR25
 clear HOR28
 clear HOR32
 clear HOR36
 clear HOR39
 clear UPR7
 clear UPR10
 clear UPR12
 clear UPR15
 clear UPR18
 clear UPR22
 clear UPR25
 clear UPR28
 clear UPR32
 clear UPR36
 clear UPR39
 clear BKgb1
 clear BKgb2
 clear BKgb19
 clear BKgb23
 clear GUgb1
 clear GUgb2
 clear GUgb19
 clear GUgb23
 clear HB
 clear HBM
 have HOR7 := n0_
 have HOR10 := n1_
 have HOR12 := n2_
 have HOR15 := n3_
 have HOR18 := n4_
 have HOR22 := n5_
 have HOR25 := n6_
 have HOR28 := n7_
 have HOR32 := n8_
 have HOR36 := n9_
 have HOR39 := n10_
 have UPR7 := n11_
 have UPR10 := n12_
 have UPR12 := n13_
 have UPR15 := n14_
 have UPR18 := n15_
 have UPR22 := n16_
 have UPR25 := n17_
 have UPR28 := n18_
 have UPR32 := n19_
 have UPR36 := n20_
 have UPR39 := n21_
 have BKgb1 := n22_
 have BKgb2 := n23_
 have BKgb19 := n24_
 have BKgb23 := n25_
 have GUgb1 := n26_
 have GUgb2 := n27_
 have GUgb19 := n28_
 have GUgb23 := n29_
 have HB := n30_
 have HBM := n31_
 clear n0_ n1_ n2_ n3_ n4_ n5_ n6_ n7_ n8_ n9_ n10_ n11_ n12_ n13_ n14_ n15_ n16_ n17_ n18_ n19_ n20_ n21_ n22_ n23_ n24_ n25_ n26_ n27_ n28_ n29_ n30_ n31_
 (try clear hczgb1_0); (try clear hfzgb1_0)
 (try clear hczgb1_1); (try clear hfzgb1_1)
 (try clear hczgb2_0); (try clear hfzgb2_0)
 (try clear hczgb2_1); (try clear hfzgb2_1)
 (try clear hczgb19_0); (try clear hfzgb19_0)
 (try clear hczgb19_1); (try clear hfzgb19_1)
 (try clear hczgb23_0); (try clear hfzgb23_0)
 (try clear hczgb23_1); (try clear hfzgb23_1)
 refine start_ (n := 12) (S := fun w' => w'.cell? ⟨gb1, 0, none⟩ = some (.int .i64 a0_0) ∧ w'.cell? ⟨gb1, 1, none⟩ = some (.slice A0_1 l0_1.length c0_1) ∧ w'.cell? ⟨gb2, 0, none⟩ = some (.int .i64 a1_0) ∧ w'.cell? ⟨gb2, 1, none⟩ = some (.slice A1_1 l1_1.length c1_1)) (ds := []) #[false, false, false, false, false, false, false, false, false, false, false, false] (by kernel_rfl) rfl rfl ⟨(blk_cell BKgb1.out 0).trans rfl, (blk_cell BKgb1.out 1).trans rfl, (blk_cell BKgb2.out 0).trans rfl, (blk_cell BKgb2.out 1).trans rfl⟩ (fun hHeld => ?_)
 generalize w_32.drew = w_33 at HOR7 HOR10 HOR12 HOR15 HOR18 HOR22 HOR25 HOR28 HOR32 HOR36 HOR39 UPR7 UPR10 UPR12 UPR15 UPR18 UPR22 UPR25 UPR28 UPR32 UPR36 UPR39 BKgb1 BKgb2 BKgb19 BKgb23 GUgb1 GUgb2 GUgb19 GUgb23 HB HBM hHeld ⊢
 refine take_ (i := 0) (N := some 114) (v := ?_) (a' := ?_) #[true, false, false, false, false, false, false, false, false, false, false, false] rfl rfl (by kernel_rfl) (fun _ _ _ h => h) (Or.inl ⟨by rfl, ?_⟩) hHeld ?_ ?_
 rotate_left
 ·rintro w' ⟨s0, s1, s2, s3⟩
  go_simp
  with_reducible rfl
 rotate_left
 ·simp only [Act.put, List.setIfInBounds_toArray, List.set_cons_zero, List.set_cons_succ, i64_w, i32_w]
  rfl
 refine take_ (i := 2) (N := some 116) (v := ?_) (a' := ?_) #[true, false, true, false, false, false, false, false, false, false, false, false] rfl rfl (by kernel_rfl) (fun _ _ _ h => h) (Or.inl ⟨by rfl, ?_⟩) hHeld ?_ ?_
 rotate_left
 ·rintro w' ⟨s0, s1, s2, s3⟩
  go_simp
  with_reducible rfl
 rotate_left
 ·simp only [Act.put, List.setIfInBounds_toArray, List.set_cons_zero, List.set_cons_succ, i64_w, i32_w]
  rfl
 refine pure_ (i := 4) (N := some 118) (v := ?_) (a' := ?_) #[true, false, true, false, true, false, false, false, false, false, false, false] rfl rfl (by kernel_rfl) (fun _ _ _ h => h) (Or.inl ⟨by rfl, ?_⟩) ?_ ?_
 rotate_left
 ·intro w'
  go_simp
  with_reducible rfl
 rotate_left
 ·simp only [Act.put, List.setIfInBounds_toArray, List.set_cons_zero, List.set_cons_succ, i64_w, i32_w]
  rfl
 refine one_ (i := 1) (N := some 115) #[true, true, true, false, true, false, false, false, false, false, false, false] rfl rfl (by kernel_rfl) (by decide) (fun K hK => ?_)
 refine goes_ Try.func43 (by kernel_rfl) rfl #[.agg #[.int .i64 a0_0, .slice A0_1 l0_1.length c0_1]] (by rfl) rfl rfl (by (try simp only [List.map_toArray, List.map_cons, List.map_nil]); first | done | rfl) ?_
 (with_reducible refine (laws_toSystem.calls k a0_0 _ _ l0_1 t51 t52 _ ?side1 ?side2 E36.out).mono ?_)
 (case side1 => exact Kd.C_below HR0_1.out HB.out)
 (case side2 => exact HC0_1.out)
 rintro e w_34 ⟨vR53, rfl, hoR53, hb⟩
 refine ⟨_, rfl, ?_⟩
 obtain ⟨loR53, hloR53⟩ : ∃ n_ : Nat, n_ = w_33.heap.size := ⟨_, rfl⟩
 obtain ⟨hiR53, hhiR53⟩ : ∃ n_ : Nat, n_ = w_34.heap.size := ⟨_, rfl⟩
 have n0_ := Aside0.mk (Kd.R_below HOR7.out hb)
 have n1_ := Aside0.mk (Kd.R_below HOR10.out hb)
 have n2_ := Aside0.mk (Kd.R_below HOR12.out hb)
 have n3_ := Aside0.mk (Kd.R_below HOR15.out hb)
 have n4_ := Aside0.mk (Kd.R_below HOR18.out hb)
 have n5_ := Aside0.mk (Kd.R_below HOR22.out hb)
 have n6_ := Aside0.mk (Kd.R_below HOR25.out hb)
 have n7_ := Aside0.mk (Kd.R_below HOR28.out hb)
 have n8_ := Aside0.mk (Kd.R_below HOR32.out hb)
 have n9_ := Aside0.mk (Kd.R_below HOR36.out hb)
 have n10_ := Aside0.mk (Kd.R_below HOR39.out hb)
 have n11_ := Aside0.mk (Nat.le_trans UPR7.out hb.size)
 have n12_ := Aside0.mk (Nat.le_trans UPR10.out hb.size)
 have n13_ := Aside0.mk (Nat.le_trans UPR12.out hb.size)
 have n14_ := Aside0.mk (Nat.le_trans UPR15.out hb.size)
 have n15_ := Aside0.mk (Nat.le_trans UPR18.out hb.size)
 have n16_ := Aside0.mk (Nat.le_trans UPR22.out hb.size)
 have n17_ := Aside0.mk (Nat.le_trans UPR25.out hb.size)
 have n18_ := Aside0.mk (Nat.le_trans UPR28.out hb.size)
 have n19_ := Aside0.mk (Nat.le_trans UPR32.out hb.size)
 have n20_ := Aside0.mk (Nat.le_trans UPR36.out hb.size)
 have n21_ := Aside0.mk (Nat.le_trans UPR39.out hb.size)
 have n22_ := Aside0.mk (blk_below (g := gb1) BKgb1.out hb)
 have n23_ := Aside0.mk (blk_below (g := gb2) BKgb2.out hb)
 have n24_ := Aside0.mk (blk_below (g := gb19) BKgb19.out hb)
 have n25_ := Aside0.mk (blk_below (g := gb23) BKgb23.out hb)
 have n26_ := Aside0.mk (Nat.lt_of_lt_of_le GUgb1.out hb.size)
 have n27_ := Aside0.mk (Nat.lt_of_lt_of_le GUgb2.out hb.size)
 have n28_ := Aside0.mk (Nat.lt_of_lt_of_le GUgb19.out hb.size)
 have n29_ := Aside0.mk (Nat.lt_of_lt_of_le GUgb23.out hb.size)
 have n30_ := Aside0.mk (below_step HB.out hb)
 have n31_ := Aside0.mk (below_step HBM.out hb)
 have n32_ := Aside0.mk (Kd.R_lower (Kd.R_mono (ok' := fun k_ => loR53 ≤ k_ ∧ k_ < hiR53) (Kd.R_bound hoR53) (fun k_ hk_ => ⟨by rw [hloR53]; exact hk_.2.1, by rw [hhiR53]; exact hk_.2.2.1⟩)) (below_size HBM.out))
 have n33_ := Aside0.mk (by rw [hhiR53]; exact Nat.le_refl _ : hiR53 ≤ w_34.heap.size)
 have n34_ := Aside0.mk (fun k_ h1_ h2_ => by have := UPR7.out; rw [← hloR53] at this; omega : ∀ k_, loR7 ≤ k_ ∧ k_ < hiR7 → ¬ (loR53 ≤ k_ ∧ k_ < hiR53))
 have n35_ := Aside0.mk (fun k_ h1_ h2_ => by have := UPR7.out; rw [← hloR53] at this; omega : ∀ k_, loR53 ≤ k_ ∧ k_ < hiR53 → ¬ (loR7 ≤ k_ ∧ k_ < hiR7))
 have n36_ := Aside0.mk (fun k_ h1_ h2_ => by have := UPR10.out; rw [← hloR53] at this; omega : ∀ k_, loR10 ≤ k_ ∧ k_ < hiR10 → ¬ (loR53 ≤ k_ ∧ k_ < hiR53))
 have n37_ := Aside0.mk (fun k_ h1_ h2_ => by have := UPR10.out; rw [← hloR53] at this; omega : ∀ k_, loR53 ≤ k_ ∧ k_ < hiR53 → ¬ (loR10 ≤ k_ ∧ k_ < hiR10))
 have n38_ := Aside0.mk (fun k_ h1_ h2_ => by have := UPR12.out; rw [← hloR53] at this; omega : ∀ k_, loR12 ≤ k_ ∧ k_ < hiR12 → ¬ (loR53 ≤ k_ ∧ k_ < hiR53))
 have n39_ := Aside0.mk (fun k_ h1_ h2_ => by have := UPR12.out; rw [← hloR53] at this; omega : ∀ k_, loR53 ≤ k_ ∧ k_ < hiR53 → ¬ (loR12 ≤ k_ ∧ k_ < hiR12))
 have n40_ := Aside0.mk (fun k_ h1_ h2_ => by have := UPR15.out; rw [← hloR53] at this; omega : ∀ k_, loR15 ≤ k_ ∧ k_ < hiR15 → ¬ (loR53 ≤ k_ ∧ k_ < hiR53))
 have n41_ := Aside0.mk (fun k_ h1_ h2_ => by have := UPR15.out; rw [← hloR53] at this; omega : ∀ k_, loR53 ≤ k_ ∧ k_ < hiR53 → ¬ (loR15 ≤ k_ ∧ k_ < hiR15))
 have n42_ := Aside0.mk (fun k_ h1_ h2_ => by have := UPR18.out; rw [← hloR53] at this; omega : ∀ k_, loR18 ≤ k_ ∧ k_ < hiR18 → ¬ (loR53 ≤ k_ ∧ k_ < hiR53))
 have n43_ := Aside0.mk (fun k_ h1_ h2_ => by have := UPR18.out; rw [← hloR53] at this; omega : ∀ k_, loR53 ≤ k_ ∧ k_ < hiR53 → ¬ (loR18 ≤ k_ ∧ k_ < hiR18))
 have n44_ := Aside0.mk (fun k_ h1_ h2_ => by have := UPR22.out; rw [← hloR53] at this; omega : ∀ k_, loR22 ≤ k_ ∧ k_ < hiR22 → ¬ (loR53 ≤ k_ ∧ k_ < hiR53))
 have n45_ := Aside0.mk (fun k_ h1_ h2_ => by have := UPR22.out; rw [← hloR53] at this; omega : ∀ k_, loR53 ≤ k_ ∧ k_ < hiR53 → ¬ (loR22 ≤ k_ ∧ k_ < hiR22))
 have n46_ := Aside0.mk (fun k_ h1_ h2_ => by have := UPR25.out; rw [← hloR53] at this; omega : ∀ k_, loR25 ≤ k_ ∧ k_ < hiR25 → ¬ (loR53 ≤ k_ ∧ k_ < hiR53))
 have n47_ := Aside0.mk (fun k_ h1_ h2_ => by have := UPR25.out; rw [← hloR53] at this; omega : ∀ k_, loR53 ≤ k_ ∧ k_ < hiR53 → ¬ (loR25 ≤ k_ ∧ k_ < hiR25))
 have n48_ := Aside0.mk (fun k_ h1_ h2_ => by have := UPR28.out; rw [← hloR53] at this; omega : ∀ k_, loR28 ≤ k_ ∧ k_ < hiR28 → ¬ (loR53 ≤ k_ ∧ k_ < hiR53))
 have n49_ := Aside0.mk (fun k_ h1_ h2_ => by have := UPR28.out; rw [← hloR53] at this; omega : ∀ k_, loR53 ≤ k_ ∧ k_ < hiR53 → ¬ (loR28 ≤ k_ ∧ k_ < hiR28))
 have n50_ := Aside0.mk (fun k_ h1_ h2_ => by have := UPR32.out; rw [← hloR53] at this; omega : ∀ k_, loR32 ≤ k_ ∧ k_ < hiR32 → ¬ (loR53 ≤ k_ ∧ k_ < hiR53))
 have n51_ := Aside0.mk (fun k_ h1_ h2_ => by have := UPR32.out; rw [← hloR53] at this; omega : ∀ k_, loR53 ≤ k_ ∧ k_ < hiR53 → ¬ (loR32 ≤ k_ ∧ k_ < hiR32))
 have n52_ := Aside0.mk (fun k_ h1_ h2_ => by have := UPR36.out; rw [← hloR53] at this; omega : ∀ k_, loR36 ≤ k_ ∧ k_ < hiR36 → ¬ (loR53 ≤ k_ ∧ k_ < hiR53))
 have n53_ := Aside0.mk (fun k_ h1_ h2_ => by have := UPR36.out; rw [← hloR53] at this; omega : ∀ k_, loR53 ≤ k_ ∧ k_ < hiR53 → ¬ (loR36 ≤ k_ ∧ k_ < hiR36))
 have n54_ := Aside0.mk (fun k_ h1_ h2_ => by have := UPR39.out; rw [← hloR53] at this; omega : ∀ k_, loR39 ≤ k_ ∧ k_ < hiR39 → ¬ (loR53 ≤ k_ ∧ k_ < hiR53))
 have n55_ := Aside0.mk (fun k_ h1_ h2_ => by have := UPR39.out; rw [← hloR53] at this; omega : ∀ k_, loR53 ≤ k_ ∧ k_ < hiR53 → ¬ (loR39 ≤ k_ ∧ k_ < hiR39))
 have n56_ := Aside0.mk (fun k_ hk_ => by have := GUgb1.out; rw [← hloR53] at this; omega : ∀ k_, loR53 ≤ k_ ∧ k_ < hiR53 → k_ ≠ gb1)
 have n57_ := Aside0.mk (fun k_ hk_ => by have := GUgb2.out; rw [← hloR53] at this; omega : ∀ k_, loR53 ≤ k_ ∧ k_ < hiR53 → k_ ≠ gb2)
 have n58_ := Aside0.mk (fun k_ hk_ => by have := GUgb19.out; rw [← hloR53] at this; omega : ∀ k_, loR53 ≤ k_ ∧ k_ < hiR53 → k_ ≠ gb19)
 have n59_ := Aside0.mk (fun k_ hk_ => by have := GUgb23.out; rw [← hloR53] at this; omega : ∀ k_, loR53 ≤ k_ ∧ k_ < hiR53 → k_ ≠ gb23)
 clear HOR7
 clear HOR10
 clear HOR12
 clear HOR15
 clear HOR18
 clear HOR22
 clear HOR25
 clear HOR28
 clear HOR32
 clear HOR36
 clear HOR39
 clear UPR7
 clear UPR10
 clear UPR12
 clear UPR15
 clear UPR18
 clear UPR22
 clear UPR25
 clear UPR28
 clear UPR32
 clear UPR36
 clear UPR39
 clear BKgb1
 clear BKgb2
 clear BKgb19
 clear BKgb23
 clear GUgb1
 clear GUgb2
 clear GUgb19
 clear GUgb23
 clear HB
 clear HBM
 have HOR7 := n0_
 have HOR10 := n1_
 have HOR12 := n2_
 have HOR15 := n3_
 have HOR18 := n4_
 have HOR22 := n5_
 have HOR25 := n6_
 have HOR28 := n7_
 have HOR32 := n8_
 have HOR36 := n9_
 have HOR39 := n10_
 have UPR7 := n11_
 have UPR10 := n12_
 have UPR12 := n13_
 have UPR15 := n14_
 have UPR18 := n15_
 have UPR22 := n16_
 have UPR25 := n17_
 have UPR28 := n18_
 have UPR32 := n19_
 have UPR36 := n20_
 have UPR39 := n21_
 have BKgb1 := n22_
 have BKgb2 := n23_
 have BKgb19 := n24_
 have BKgb23 := n25_
 have GUgb1 := n26_
 have GUgb2 := n27_
 have GUgb19 := n28_
 have GUgb23 := n29_
 have HB := n30_
 have HBM := n31_
 have HOR53 := n32_
 have UPR53 := n33_
 have NRR7_R53 := n34_
 have NRR53_R7 := n35_
 have NRR10_R53 := n36_
 have NRR53_R10 := n37_
 have NRR12_R53 := n38_
 have NRR53_R12 := n39_
 have NRR15_R53 := n40_
 have NRR53_R15 := n41_
 have NRR18_R53 := n42_
 have NRR53_R18 := n43_
 have NRR22_R53 := n44_
 have NRR53_R22 := n45_
 have NRR25_R53 := n46_
 have NRR53_R25 := n47_
 have NRR28_R53 := n48_
 have NRR53_R28 := n49_
 have NRR32_R53 := n50_
 have NRR53_R32 := n51_
 have NRR36_R53 := n52_
 have NRR53_R36 := n53_
 have NRR39_R53 := n54_
 have NRR53_R39 := n55_
 have NER53_gb1 := n56_
 have NER53_gb2 := n57_
 have NER53_gb19 := n58_
 have NER53_gb23 := n59_
 clear n0_ n1_ n2_ n3_ n4_ n5_ n6_ n7_ n8_ n9_ n10_ n11_ n12_ n13_ n14_ n15_ n16_ n17_ n18_ n19_ n20_ n21_ n22_ n23_ n24_ n25_ n26_ n27_ n28_ n29_ n30_ n31_ n32_ n33_ n34_ n35_ n36_ n37_ n38_ n39_ n40_ n41_ n42_ n43_ n44_ n45_ n46_ n47_ n48_ n49_ n50_ n51_ n52_ n53_ n54_ n55_ n56_ n57_ n58_ n59_
 clear hb
 clear hoR53 hloR53 hhiR53
 obtain ⟨AR53, cR53, eqR53⟩ := Kd.R_slice HOR53.out
 subst eqR53
 refine hK.out _ _ ⟨(blk_cell BKgb1.out 0).trans rfl, (blk_cell BKgb1.out 1).trans rfl, (blk_cell BKgb2.out 0).trans rfl, (blk_cell BKgb2.out 1).trans rfl⟩ (fun hHeld => ?_)
 clear hK K
 refine norm_ (a' := ?_) ?_ ?_
 rotate_left
 ·show Act.put _ (some 115) _ = _
  simp only [Act.put, List.setIfInBounds_toArray, List.set_cons_zero, List.set_cons_succ, i64_w, i32_w]
  rfl
 refine one_ (i := 3) (N := some 117) #[true, true, true, true, true, false, false, false, false, false, false, false] rfl rfl (by kernel_rfl) (by decide) (fun K hK => ?_)
 refine goes_ Try.func44 (by kernel_rfl) rfl #[.agg #[.int .i64 a1_0, .slice A1_1 l1_1.length c1_1]] (by rfl) rfl rfl (by (try simp only [List.map_toArray, List.map_cons, List.map_nil]); first | done | rfl) ?_
 (with_reducible refine (laws_toValues.calls k a1_0 _ _ l1_1 t54 t55 _ ?side1 ?side2 E37.out).mono ?_)
 (case side1 => exact Kd.C_below HR1_1.out HB.out)
 (case side2 => exact HC1_1.out)
 rintro e w_35 ⟨vR56, rfl, hoR56, hb⟩
 refine ⟨_, rfl, ?_⟩
 obtain ⟨loR56, hloR56⟩ : ∃ n_ : Nat, n_ = w_34.heap.size := ⟨_, rfl⟩
 obtain ⟨hiR56, hhiR56⟩ : ∃ n_ : Nat, n_ = w_35.heap.size := ⟨_, rfl⟩
 have n0_ := Aside0.mk (Kd.R_below HOR7.out hb)
 have n1_ := Aside0.mk (Kd.R_below HOR10.out hb)
 have n2_ := Aside0.mk (Kd.R_below HOR12.out hb)
 have n3_ := Aside0.mk (Kd.R_below HOR15.out hb)
 have n4_ := Aside0.mk (Kd.R_below HOR18.out hb)
 have n5_ := Aside0.mk (Kd.R_below HOR22.out hb)
 have n6_ := Aside0.mk (Kd.R_below HOR25.out hb)
 have n7_ := Aside0.mk (Kd.R_below HOR28.out hb)
 have n8_ := Aside0.mk (Kd.R_below HOR32.out hb)
 have n9_ := Aside0.mk (Kd.R_below HOR36.out hb)
 have n10_ := Aside0.mk (Kd.R_below HOR39.out hb)
 have n11_ := Aside0.mk (Kd.R_below HOR53.out hb)
 have n12_ := Aside0.mk (Nat.le_trans UPR7.out hb.size)
 have n13_ := Aside0.mk (Nat.le_trans UPR10.out hb.size)
 have n14_ := Aside0.mk (Nat.le_trans UPR12.out hb.size)
 have n15_ := Aside0.mk (Nat.le_trans UPR15.out hb.size)
 have n16_ := Aside0.mk (Nat.le_trans UPR18.out hb.size)
 have n17_ := Aside0.mk (Nat.le_trans UPR22.out hb.size)
 have n18_ := Aside0.mk (Nat.le_trans UPR25.out hb.size)
 have n19_ := Aside0.mk (Nat.le_trans UPR28.out hb.size)
 have n20_ := Aside0.mk (Nat.le_trans UPR32.out hb.size)
 have n21_ := Aside0.mk (Nat.le_trans UPR36.out hb.size)
 have n22_ := Aside0.mk (Nat.le_trans UPR39.out hb.size)
 have n23_ := Aside0.mk (Nat.le_trans UPR53.out hb.size)
 have n24_ := Aside0.mk (blk_below (g := gb1) BKgb1.out hb)
 have n25_ := Aside0.mk (blk_below (g := gb2) BKgb2.out hb)
 have n26_ := Aside0.mk (blk_below (g := gb19) BKgb19.out hb)
 have n27_ := Aside0.mk (blk_below (g := gb23) BKgb23.out hb)
 have n28_ := Aside0.mk (Nat.lt_of_lt_of_le GUgb1.out hb.size)
 have n29_ := Aside0.mk (Nat.lt_of_lt_of_le GUgb2.out hb.size)
 have n30_ := Aside0.mk (Nat.lt_of_lt_of_le GUgb19.out hb.size)
 have n31_ := Aside0.mk (Nat.lt_of_lt_of_le GUgb23.out hb.size)
 have n32_ := Aside0.mk (below_step HB.out hb)
 have n33_ := Aside0.mk (below_step HBM.out hb)
 have n34_ := Aside0.mk (Kd.R_lower (Kd.R_mono (ok' := fun k_ => loR56 ≤ k_ ∧ k_ < hiR56) (Kd.R_bound hoR56) (fun k_ hk_ => ⟨by rw [hloR56]; exact hk_.2.1, by rw [hhiR56]; exact hk_.2.2.1⟩)) (below_size HBM.out))
 have n35_ := Aside0.mk (by rw [hhiR56]; exact Nat.le_refl _ : hiR56 ≤ w_35.heap.size)
 have n36_ := Aside0.mk (fun k_ h1_ h2_ => by have := UPR7.out; rw [← hloR56] at this; omega : ∀ k_, loR7 ≤ k_ ∧ k_ < hiR7 → ¬ (loR56 ≤ k_ ∧ k_ < hiR56))
 have n37_ := Aside0.mk (fun k_ h1_ h2_ => by have := UPR7.out; rw [← hloR56] at this; omega : ∀ k_, loR56 ≤ k_ ∧ k_ < hiR56 → ¬ (loR7 ≤ k_ ∧ k_ < hiR7))
 have n38_ := Aside0.mk (fun k_ h1_ h2_ => by have := UPR10.out; rw [← hloR56] at this; omega : ∀ k_, loR10 ≤ k_ ∧ k_ < hiR10 → ¬ (loR56 ≤ k_ ∧ k_ < hiR56))
 have n39_ := Aside0.mk (fun k_ h1_ h2_ => by have := UPR10.out; rw [← hloR56] at this; omega : ∀ k_, loR56 ≤ k_ ∧ k_ < hiR56 → ¬ (loR10 ≤ k_ ∧ k_ < hiR10))
 have n40_ := Aside0.mk (fun k_ h1_ h2_ => by have := UPR12.out; rw [← hloR56] at this; omega : ∀ k_, loR12 ≤ k_ ∧ k_ < hiR12 → ¬ (loR56 ≤ k_ ∧ k_ < hiR56))
 have n41_ := Aside0.mk (fun k_ h1_ h2_ => by have := UPR12.out; rw [← hloR56] at this; omega : ∀ k_, loR56 ≤ k_ ∧ k_ < hiR56 → ¬ (loR12 ≤ k_ ∧ k_ < hiR12))
 have n42_ := Aside0.mk (fun k_ h1_ h2_ => by have := UPR15.out; rw [← hloR56] at this; omega : ∀ k_, loR15 ≤ k_ ∧ k_ < hiR15 → ¬ (loR56 ≤ k_ ∧ k_ < hiR56))
 have n43_ := Aside0.mk (fun k_ h1_ h2_ => by have := UPR15.out; rw [← hloR56] at this; omega : ∀ k_, loR56 ≤ k_ ∧ k_ < hiR56 → ¬ (loR15 ≤ k_ ∧ k_ < hiR15))
 have n44_ := Aside0.mk (fun k_ h1_ h2_ => by have := UPR18.out; rw [← hloR56] at this; omega : ∀ k_, loR18 ≤ k_ ∧ k_ < hiR18 → ¬ (loR56 ≤ k_ ∧ k_ < hiR56))
 have n45_ := Aside0.mk (fun k_ h1_ h2_ => by have := UPR18.out; rw [← hloR56] at this; omega : ∀ k_, loR56 ≤ k_ ∧ k_ < hiR56 → ¬ (loR18 ≤ k_ ∧ k_ < hiR18))
 have n46_ := Aside0.mk (fun k_ h1_ h2_ => by have := UPR22.out; rw [← hloR56] at this; omega : ∀ k_, loR22 ≤ k_ ∧ k_ < hiR22 → ¬ (loR56 ≤ k_ ∧ k_ < hiR56))
 have n47_ := Aside0.mk (fun k_ h1_ h2_ => by have := UPR22.out; rw [← hloR56] at this; omega : ∀ k_, loR56 ≤ k_ ∧ k_ < hiR56 → ¬ (loR22 ≤ k_ ∧ k_ < hiR22))
 have n48_ := Aside0.mk (fun k_ h1_ h2_ => by have := UPR25.out; rw [← hloR56] at this; omega : ∀ k_, loR25 ≤ k_ ∧ k_ < hiR25 → ¬ (loR56 ≤ k_ ∧ k_ < hiR56))
 have n49_ := Aside0.mk (fun k_ h1_ h2_ => by have := UPR25.out; rw [← hloR56] at this; omega : ∀ k_, loR56 ≤ k_ ∧ k_ < hiR56 → ¬ (loR25 ≤ k_ ∧ k_ < hiR25))
 have n50_ := Aside0.mk (fun k_ h1_ h2_ => by have := UPR28.out; rw [← hloR56] at this; omega : ∀ k_, loR28 ≤ k_ ∧ k_ < hiR28 → ¬ (loR56 ≤ k_ ∧ k_ < hiR56))
 have n51_ := Aside0.mk (fun k_ h1_ h2_ => by have := UPR28.out; rw [← hloR56] at this; omega : ∀ k_, loR56 ≤ k_ ∧ k_ < hiR56 → ¬ (loR28 ≤ k_ ∧ k_ < hiR28))
 have n52_ := Aside0.mk (fun k_ h1_ h2_ => by have := UPR32.out; rw [← hloR56] at this; omega : ∀ k_, loR32 ≤ k_ ∧ k_ < hiR32 → ¬ (loR56 ≤ k_ ∧ k_ < hiR56))
 have n53_ := Aside0.mk (fun k_ h1_ h2_ => by have := UPR32.out; rw [← hloR56] at this; omega : ∀ k_, loR56 ≤ k_ ∧ k_ < hiR56 → ¬ (loR32 ≤ k_ ∧ k_ < hiR32))
 have n54_ := Aside0.mk (fun k_ h1_ h2_ => by have := UPR36.out; rw [← hloR56] at this; omega : ∀ k_, loR36 ≤ k_ ∧ k_ < hiR36 → ¬ (loR56 ≤ k_ ∧ k_ < hiR56))
 have n55_ := Aside0.mk (fun k_ h1_ h2_ => by have := UPR36.out; rw [← hloR56] at this; omega : ∀ k_, loR56 ≤ k_ ∧ k_ < hiR56 → ¬ (loR36 ≤ k_ ∧ k_ < hiR36))
 have n56_ := Aside0.mk (fun k_ h1_ h2_ => by have := UPR39.out; rw [← hloR56] at this; omega : ∀ k_, loR39 ≤ k_ ∧ k_ < hiR39 → ¬ (loR56 ≤ k_ ∧ k_ < hiR56))
 have n57_ := Aside0.mk (fun k_ h1_ h2_ => by have := UPR39.out; rw [← hloR56] at this; omega : ∀ k_, loR56 ≤ k_ ∧ k_ < hiR56 → ¬ (loR39 ≤ k_ ∧ k_ < hiR39))
 have n58_ := Aside0.mk (fun k_ h1_ h2_ => by have := UPR53.out; rw [← hloR56] at this; omega : ∀ k_, loR53 ≤ k_ ∧ k_ < hiR53 → ¬ (loR56 ≤ k_ ∧ k_ < hiR56))
 have n59_ := Aside0.mk (fun k_ h1_ h2_ => by have := UPR53.out; rw [← hloR56] at this; omega : ∀ k_, loR56 ≤ k_ ∧ k_ < hiR56 → ¬ (loR53 ≤ k_ ∧ k_ < hiR53))
 have n60_ := Aside0.mk (fun k_ hk_ => by have := GUgb1.out; rw [← hloR56] at this; omega : ∀ k_, loR56 ≤ k_ ∧ k_ < hiR56 → k_ ≠ gb1)
 have n61_ := Aside0.mk (fun k_ hk_ => by have := GUgb2.out; rw [← hloR56] at this; omega : ∀ k_, loR56 ≤ k_ ∧ k_ < hiR56 → k_ ≠ gb2)
 have n62_ := Aside0.mk (fun k_ hk_ => by have := GUgb19.out; rw [← hloR56] at this; omega : ∀ k_, loR56 ≤ k_ ∧ k_ < hiR56 → k_ ≠ gb19)
 have n63_ := Aside0.mk (fun k_ hk_ => by have := GUgb23.out; rw [← hloR56] at this; omega : ∀ k_, loR56 ≤ k_ ∧ k_ < hiR56 → k_ ≠ gb23)
 clear HOR7
 clear HOR10
 clear HOR12
 clear HOR15
 clear HOR18
 clear HOR22
 clear HOR25
 clear HOR28
 clear HOR32
 clear HOR36
 clear HOR39
 clear HOR53
 clear UPR7
 clear UPR10
 clear UPR12
 clear UPR15
 clear UPR18
 clear UPR22
 clear UPR25
 clear UPR28
 clear UPR32
 clear UPR36
 clear UPR39
 clear UPR53
 clear BKgb1
 clear BKgb2
 clear BKgb19
 clear BKgb23
 clear GUgb1
 clear GUgb2
 clear GUgb19
 clear GUgb23
 clear HB
 clear HBM
 have HOR7 := n0_
 have HOR10 := n1_
 have HOR12 := n2_
 have HOR15 := n3_
 have HOR18 := n4_
 have HOR22 := n5_
 have HOR25 := n6_
 have HOR28 := n7_
 have HOR32 := n8_
 have HOR36 := n9_
 have HOR39 := n10_
 have HOR53 := n11_
 have UPR7 := n12_
 have UPR10 := n13_
 have UPR12 := n14_
 have UPR15 := n15_
 have UPR18 := n16_
 have UPR22 := n17_
 have UPR25 := n18_
 have UPR28 := n19_
 have UPR32 := n20_
 have UPR36 := n21_
 have UPR39 := n22_
 have UPR53 := n23_
 have BKgb1 := n24_
 have BKgb2 := n25_
 have BKgb19 := n26_
 have BKgb23 := n27_
 have GUgb1 := n28_
 have GUgb2 := n29_
 have GUgb19 := n30_
 have GUgb23 := n31_
 have HB := n32_
 have HBM := n33_
 have HOR56 := n34_
 have UPR56 := n35_
 have NRR7_R56 := n36_
 have NRR56_R7 := n37_
 have NRR10_R56 := n38_
 have NRR56_R10 := n39_
 have NRR12_R56 := n40_
 have NRR56_R12 := n41_
 have NRR15_R56 := n42_
 have NRR56_R15 := n43_
 have NRR18_R56 := n44_
 have NRR56_R18 := n45_
 have NRR22_R56 := n46_
 have NRR56_R22 := n47_
 have NRR25_R56 := n48_
 have NRR56_R25 := n49_
 have NRR28_R56 := n50_
 have NRR56_R28 := n51_
 have NRR32_R56 := n52_
 have NRR56_R32 := n53_
 have NRR36_R56 := n54_
 have NRR56_R36 := n55_
 have NRR39_R56 := n56_
 have NRR56_R39 := n57_
 have NRR53_R56 := n58_
 have NRR56_R53 := n59_
 have NER56_gb1 := n60_
 have NER56_gb2 := n61_
 have NER56_gb19 := n62_
 have NER56_gb23 := n63_
 clear n0_ n1_ n2_ n3_ n4_ n5_ n6_ n7_ n8_ n9_ n10_ n11_ n12_ n13_ n14_ n15_ n16_ n17_ n18_ n19_ n20_ n21_ n22_ n23_ n24_ n25_ n26_ n27_ n28_ n29_ n30_ n31_ n32_ n33_ n34_ n35_ n36_ n37_ n38_ n39_ n40_ n41_ n42_ n43_ n44_ n45_ n46_ n47_ n48_ n49_ n50_ n51_ n52_ n53_ n54_ n55_ n56_ n57_ n58_ n59_ n60_ n61_ n62_ n63_
 clear hb
 clear hoR56 hloR56 hhiR56
 obtain ⟨AR56, cR56, eqR56⟩ := Kd.R_slice HOR56.out
 subst eqR56
 refine hK.out _ _ ⟨(blk_cell BKgb1.out 0).trans rfl, (blk_cell BKgb1.out 1).trans rfl, (blk_cell BKgb2.out 0).trans rfl, (blk_cell BKgb2.out 1).trans rfl⟩ (fun hHeld => ?_)
 clear hK K
 refine norm_ (a' := ?_) ?_ ?_
 rotate_left
 ·show Act.put _ (some 117) _ = _
  simp only [Act.put, List.setIfInBounds_toArray, List.set_cons_zero, List.set_cons_succ, i64_w, i32_w]
  rfl
 refine one_ (i := 5) (N := some 119) #[true, true, true, true, true, true, false, false, false, false, false, false] rfl rfl (by kernel_rfl) (by decide) (fun K hK => ?_)
 refine goes_ Try.func35 (by kernel_rfl) rfl #[.slice A2 l2.length c2] (by rfl) rfl rfl (by (try simp only [List.map_toArray, List.map_cons, List.map_nil]); first | done | rfl) ?_
 (with_reducible refine (laws_toInt64S.calls k _ _ l2 t57 _ ?side1 ?side2 E38.out).mono ?_)
 (case side1 => exact Kd.C_below HR2.out HB.out)
 (case side2 => exact HC2.out)
 rintro e w_36 ⟨vR58, rfl, hoR58, hb⟩
 refine ⟨_, rfl, ?_⟩
 obtain ⟨loR58, hloR58⟩ : ∃ n_ : Nat, n_ = w_35.heap.size := ⟨_, rfl⟩
 obtain ⟨hiR58, hhiR58⟩ : ∃ n_ : Nat, n_ = w_36.heap.size := ⟨_, rfl⟩
 have n0_ := Aside0.mk (Kd.R_below HOR7.out hb)
 have n1_ := Aside0.mk (Kd.R_below HOR10.out hb)
 have n2_ := Aside0.mk (Kd.R_below HOR12.out hb)
 have n3_ := Aside0.mk (Kd.R_below HOR15.out hb)
 have n4_ := Aside0.mk (Kd.R_below HOR18.out hb)
 have n5_ := Aside0.mk (Kd.R_below HOR22.out hb)
 have n6_ := Aside0.mk (Kd.R_below HOR25.out hb)
 have n7_ := Aside0.mk (Kd.R_below HOR28.out hb)
 have n8_ := Aside0.mk (Kd.R_below HOR32.out hb)
 have n9_ := Aside0.mk (Kd.R_below HOR36.out hb)
 have n10_ := Aside0.mk (Kd.R_below HOR39.out hb)
 have n11_ := Aside0.mk (Kd.R_below HOR53.out hb)
 have n12_ := Aside0.mk (Kd.R_below HOR56.out hb)
 have n13_ := Aside0.mk (Nat.le_trans UPR7.out hb.size)
 have n14_ := Aside0.mk (Nat.le_trans UPR10.out hb.size)
 have n15_ := Aside0.mk (Nat.le_trans UPR12.out hb.size)
 have n16_ := Aside0.mk (Nat.le_trans UPR15.out hb.size)
 have n17_ := Aside0.mk (Nat.le_trans UPR18.out hb.size)
 have n18_ := Aside0.mk (Nat.le_trans UPR22.out hb.size)
 have n19_ := Aside0.mk (Nat.le_trans UPR25.out hb.size)
 have n20_ := Aside0.mk (Nat.le_trans UPR28.out hb.size)
 have n21_ := Aside0.mk (Nat.le_trans UPR32.out hb.size)
 have n22_ := Aside0.mk (Nat.le_trans UPR36.out hb.size)
 have n23_ := Aside0.mk (Nat.le_trans UPR39.out hb.size)
 have n24_ := Aside0.mk (Nat.le_trans UPR53.out hb.size)
 have n25_ := Aside0.mk (Nat.le_trans UPR56.out hb.size)
 have n26_ := Aside0.mk (blk_below (g := gb1) BKgb1.out hb)
 have n27_ := Aside0.mk (blk_below (g := gb2) BKgb2.out hb)
 have n28_ := Aside0.mk (blk_below (g := gb19) BKgb19.out hb)
 have n29_ := Aside0.mk (blk_below (g := gb23) BKgb23.out hb)
 have n30_ := Aside0.mk (Nat.lt_of_lt_of_le GUgb1.out hb.size)
 have n31_ := Aside0.mk (Nat.lt_of_lt_of_le GUgb2.out hb.size)
 have n32_ := Aside0.mk (Nat.lt_of_lt_of_le GUgb19.out hb.size)
 have n33_ := Aside0.mk (Nat.lt_of_lt_of_le GUgb23.out hb.size)
 have n34_ := Aside0.mk (below_step HB.out hb)
 have n35_ := Aside0.mk (below_step HBM.out hb)
 have n36_ := Aside0.mk (Kd.R_lower (Kd.R_mono (ok' := fun k_ => loR58 ≤ k_ ∧ k_ < hiR58) (Kd.R_bound hoR58) (fun k_ hk_ => ⟨by rw [hloR58]; exact hk_.2.1, by rw [hhiR58]; exact hk_.2.2.1⟩)) (below_size HBM.out))
 have n37_ := Aside0.mk (by rw [hhiR58]; exact Nat.le_refl _ : hiR58 ≤ w_36.heap.size)
 have n38_ := Aside0.mk (fun k_ h1_ h2_ => by have := UPR7.out; rw [← hloR58] at this; omega : ∀ k_, loR7 ≤ k_ ∧ k_ < hiR7 → ¬ (loR58 ≤ k_ ∧ k_ < hiR58))
 have n39_ := Aside0.mk (fun k_ h1_ h2_ => by have := UPR7.out; rw [← hloR58] at this; omega : ∀ k_, loR58 ≤ k_ ∧ k_ < hiR58 → ¬ (loR7 ≤ k_ ∧ k_ < hiR7))
 have n40_ := Aside0.mk (fun k_ h1_ h2_ => by have := UPR10.out; rw [← hloR58] at this; omega : ∀ k_, loR10 ≤ k_ ∧ k_ < hiR10 → ¬ (loR58 ≤ k_ ∧ k_ < hiR58))
 have n41_ := Aside0.mk (fun k_ h1_ h2_ => by have := UPR10.out; rw [← hloR58] at this; omega : ∀ k_, loR58 ≤ k_ ∧ k_ < hiR58 → ¬ (loR10 ≤ k_ ∧ k_ < hiR10))
 have n42_ := Aside0.mk (fun k_ h1_ h2_ => by have := UPR12.out; rw [← hloR58] at this; omega : ∀ k_, loR12 ≤ k_ ∧ k_ < hiR12 → ¬ (loR58 ≤ k_ ∧ k_ < hiR58))
 have n43_ := Aside0.mk (fun k_ h1_ h2_ => by have := UPR12.out; rw [← hloR58] at this; omega : ∀ k_, loR58 ≤ k_ ∧ k_ < hiR58 → ¬ (loR12 ≤ k_ ∧ k_ < hiR12))
 have n44_ := Aside0.mk (fun k_ h1_ h2_ => by have := UPR15.out; rw [← hloR58] at this; omega : ∀ k_, loR15 ≤ k_ ∧ k_ < hiR15 → ¬ (loR58 ≤ k_ ∧ k_ < hiR58))
 have n45_ := Aside0.mk (fun k_ h1_ h2_ => by have := UPR15.out; rw [← hloR58] at this; omega : ∀ k_, loR58 ≤ k_ ∧ k_ < hiR58 → ¬ (loR15 ≤ k_ ∧ k_ < hiR15))
 have n46_ := Aside0.mk (fun k_ h1_ h2_ => by have := UPR18.out; rw [← hloR58] at this; omega : ∀ k_, loR18 ≤ k_ ∧ k_ < hiR18 → ¬ (loR58 ≤ k_ ∧ k_ < hiR58))
 have n47_ := Aside0.mk (fun k_ h1_ h2_ => by have := UPR18.out; rw [← hloR58] at this; omega : ∀ k_, loR58 ≤ k_ ∧ k_ < hiR58 → ¬ (loR18 ≤ k_ ∧ k_ < hiR18))
 have n48_ := Aside0.mk (fun k_ h1_ h2_ => by have := UPR22.out; rw [← hloR58] at this; omega : ∀ k_, loR22 ≤ k_ ∧ k_ < hiR22 → ¬ (loR58 ≤ k_ ∧ k_ < hiR58))
 have n49_ := Aside0.mk (fun k_ h1_ h2_ => by have := UPR22.out; rw [← hloR58] at this; omega : ∀ k_, loR58 ≤ k_ ∧ k_ < hiR58 → ¬ (loR22 ≤ k_ ∧ k_ < hiR22))
 have n50_ := Aside0.mk (fun k_ h1_ h2_ => by have := UPR25.out; rw [← hloR58] at this; omega : ∀ k_, loR25 ≤ k_ ∧ k_ < hiR25 → ¬ (loR58 ≤ k_ ∧ k_ < hiR58))
 have n51_ := Aside0.mk (fun k_ h1_ h2_ => by have := UPR25.out; rw [← hloR58] at this; omega : ∀ k_, loR58 ≤ k_ ∧ k_ < hiR58 → ¬ (loR25 ≤ k_ ∧ k_ < hiR25))
 have n52_ := Aside0.mk (fun k_ h1_ h2_ => by have := UPR28.out; rw [← hloR58] at this; omega : ∀ k_, loR28 ≤ k_ ∧ k_ < hiR28 → ¬ (loR58 ≤ k_ ∧ k_ < hiR58))
 have n53_ := Aside0.mk (fun k_ h1_ h2_ => by have := UPR28.out; rw [← hloR58] at this; omega : ∀ k_, loR58 ≤ k_ ∧ k_ < hiR58 → ¬ (loR28 ≤ k_ ∧ k_ < hiR28))
 have n54_ := Aside0.mk (fun k_ h1_ h2_ => by have := UPR32.out; rw [← hloR58] at this; omega : ∀ k_, loR32 ≤ k_ ∧ k_ < hiR32 → ¬ (loR58 ≤ k_ ∧ k_ < hiR58))
 have n55_ := Aside0.mk (fun k_ h1_ h2_ => by have := UPR32.out; rw [← hloR58] at this; omega : ∀ k_, loR58 ≤ k_ ∧ k_ < hiR58 → ¬ (loR32 ≤ k_ ∧ k_ < hiR32))
 have n56_ := Aside0.mk (fun k_ h1_ h2_ => by have := UPR36.out; rw [← hloR58] at this; omega : ∀ k_, loR36 ≤ k_ ∧ k_ < hiR36 → ¬ (loR58 ≤ k_ ∧ k_ < hiR58))
 have n57_ := Aside0.mk (fun k_ h1_ h2_ => by have := UPR36.out; rw [← hloR58] at this; omega : ∀ k_, loR58 ≤ k_ ∧ k_ < hiR58 → ¬ (loR36 ≤ k_ ∧ k_ < hiR36))
 have n58_ := Aside0.mk (fun k_ h1_ h2_ => by have := UPR39.out; rw [← hloR58] at this; omega : ∀ k_, loR39 ≤ k_ ∧ k_ < hiR39 → ¬ (loR58 ≤ k_ ∧ k_ < hiR58))
 have n59_ := Aside0.mk (fun k_ h1_ h2_ => by have := UPR39.out; rw [← hloR58] at this; omega : ∀ k_, loR58 ≤ k_ ∧ k_ < hiR58 → ¬ (loR39 ≤ k_ ∧ k_ < hiR39))
 have n60_ := Aside0.mk (fun k_ h1_ h2_ => by have := UPR53.out; rw [← hloR58] at this; omega : ∀ k_, loR53 ≤ k_ ∧ k_ < hiR53 → ¬ (loR58 ≤ k_ ∧ k_ < hiR58))
 have n61_ := Aside0.mk (fun k_ h1_ h2_ => by have := UPR53.out; rw [← hloR58] at this; omega : ∀ k_, loR58 ≤ k_ ∧ k_ < hiR58 → ¬ (loR53 ≤ k_ ∧ k_ < hiR53))
 have n62_ := Aside0.mk (fun k_ h1_ h2_ => by have := UPR56.out; rw [← hloR58] at this; omega : ∀ k_, loR56 ≤ k_ ∧ k_ < hiR56 → ¬ (loR58 ≤ k_ ∧ k_ < hiR58))
 have n63_ := Aside0.mk (fun k_ h1_ h2_ => by have := UPR56.out; rw [← hloR58] at this; omega : ∀ k_, loR58 ≤ k_ ∧ k_ < hiR58 → ¬ (loR56 ≤ k_ ∧ k_ < hiR56))
 have n64_ := Aside0.mk (fun k_ hk_ => by have := GUgb1.out; rw [← hloR58] at this; omega : ∀ k_, loR58 ≤ k_ ∧ k_ < hiR58 → k_ ≠ gb1)
 have n65_ := Aside0.mk (fun k_ hk_ => by have := GUgb2.out; rw [← hloR58] at this; omega : ∀ k_, loR58 ≤ k_ ∧ k_ < hiR58 → k_ ≠ gb2)
 have n66_ := Aside0.mk (fun k_ hk_ => by have := GUgb19.out; rw [← hloR58] at this; omega : ∀ k_, loR58 ≤ k_ ∧ k_ < hiR58 → k_ ≠ gb19)
 have n67_ := Aside0.mk (fun k_ hk_ => by have := GUgb23.out; rw [← hloR58] at this; omega : ∀ k_, loR58 ≤ k_ ∧ k_ < hiR58 → k_ ≠ gb23)
 clear HOR7
 clear HOR10
 clear HOR12
 clear HOR15
 clear HOR18
 clear HOR22
 clear HOR25
 clear HOR28
 clear HOR32
 clear HOR36
 clear HOR39
 clear HOR53
 clear HOR56
 clear UPR7
 clear UPR10
 clear UPR12
 clear UPR15
 clear UPR18
 clear UPR22
 clear UPR25
 clear UPR28
 clear UPR32
 clear UPR36
 clear UPR39
 clear UPR53
 clear UPR56
 clear BKgb1
 clear BKgb2
 clear BKgb19
 clear BKgb23
 clear GUgb1
 clear GUgb2
 clear GUgb19
 clear GUgb23
 clear HB
 clear HBM
 have HOR7 := n0_
 have HOR10 := n1_
 have HOR12 := n2_
 have HOR15 := n3_
 have HOR18 := n4_
 have HOR22 := n5_
 have HOR25 := n6_
 have HOR28 := n7_
 have HOR32 := n8_
 have HOR36 := n9_
 have HOR39 := n10_
 have HOR53 := n11_
 have HOR56 := n12_
 have UPR7 := n13_
 have UPR10 := n14_
 have UPR12 := n15_
 have UPR15 := n16_
 have UPR18 := n17_
 have UPR22 := n18_
 have UPR25 := n19_
 have UPR28 := n20_
 have UPR32 := n21_
 have UPR36 := n22_
 have UPR39 := n23_
 have UPR53 := n24_
 have UPR56 := n25_
 have BKgb1 := n26_
 have BKgb2 := n27_
 have BKgb19 := n28_
 have BKgb23 := n29_
 have GUgb1 := n30_
 have GUgb2 := n31_
 have GUgb19 := n32_
 have GUgb23 := n33_
 have HB := n34_
 have HBM := n35_
 have HOR58 := n36_
 have UPR58 := n37_
 have NRR7_R58 := n38_
 have NRR58_R7 := n39_
 have NRR10_R58 := n40_
 have NRR58_R10 := n41_
 have NRR12_R58 := n42_
 have NRR58_R12 := n43_
 have NRR15_R58 := n44_
 have NRR58_R15 := n45_
 have NRR18_R58 := n46_
 have NRR58_R18 := n47_
 have NRR22_R58 := n48_
 have NRR58_R22 := n49_
 have NRR25_R58 := n50_
 have NRR58_R25 := n51_
 have NRR28_R58 := n52_
 have NRR58_R28 := n53_
 have NRR32_R58 := n54_
 have NRR58_R32 := n55_
 have NRR36_R58 := n56_
 have NRR58_R36 := n57_
 have NRR39_R58 := n58_
 have NRR58_R39 := n59_
 have NRR53_R58 := n60_
 have NRR58_R53 := n61_
 have NRR56_R58 := n62_
 have NRR58_R56 := n63_
 have NER58_gb1 := n64_
 have NER58_gb2 := n65_
 have NER58_gb19 := n66_
 have NER58_gb23 := n67_
 clear n0_ n1_ n2_ n3_ n4_ n5_ n6_ n7_ n8_ n9_ n10_ n11_ n12_ n13_ n14_ n15_ n16_ n17_ n18_ n19_ n20_ n21_ n22_ n23_ n24_ n25_ n26_ n27_ n28_ n29_ n30_ n31_ n32_ n33_ n34_ n35_ n36_ n37_ n38_ n39_ n40_ n41_ n42_ n43_ n44_ n45_ n46_ n47_ n48_ n49_ n50_ n51_ n52_ n53_ n54_ n55_ n56_ n57_ n58_ n59_ n60_ n61_ n62_ n63_ n64_ n65_ n66_ n67_
 clear hb
 clear hoR58 hloR58 hhiR58
 obtain ⟨AR58, cR58, eqR58⟩ := Kd.R_slice HOR58.out
 subst eqR58
 refine hK.out _ _ ⟨(blk_cell BKgb1.out 0).trans rfl, (blk_cell BKgb1.out 1).trans rfl, (blk_cell BKgb2.out 0).trans rfl, (blk_cell BKgb2.out 1).trans rfl⟩ (fun hHeld => ?_)
 clear hK K
 refine norm_ (a' := ?_) ?_ ?_
 rotate_left
 ·show Act.put _ (some 119) _ = _
  simp only [Act.put, List.setIfInBounds_toArray, List.set_cons_zero, List.set_cons_succ, i64_w, i32_w]
  rfl
 refine one_ (i := 6) (N := some 120) #[true, true, true, true, true, true, true, false, false, false, false, false] rfl rfl (by kernel_rfl) (by decide) (fun K hK => ?_)
 refine goes_ Try.func45 (by kernel_rfl) rfl #[.agg #[.int .i64 t51, .slice AR53 t52.length cR53], .agg #[.int .i64 t54, .slice AR56 t55.length cR56], .slice AR58 t57.length cR58] (by rfl) rfl rfl (by (try simp only [List.map_toArray, List.map_cons, List.map_nil]); first | done | rfl) ?_
 (with_reducible refine (impl_SetErrors.calls k t51 _ _ t52 t54 _ _ t55 _ _ t57 t59 t60 _ ?side1 ?side2 ?side3 ?side4 ?side5 ?side6 E39.out).mono ?_)
 (case side1 => exact (Kd.R_reads' HOR53.out).2.2)
 (case side2 => exact (Kd.R_reads' HOR53.out).2.1)
 (case side3 => exact (Kd.R_reads' HOR56.out).2.2)
 (case side4 => exact (Kd.R_reads' HOR56.out).2.1)
 (case side5 => exact (Kd.R_reads' HOR58.out).2.2)
 (case side6 => exact (Kd.R_reads' HOR58.out).2.1)
 rintro e w_37 ⟨vR61, rfl, hoR61, hb⟩
 refine ⟨_, rfl, ?_⟩
 obtain ⟨loR61, hloR61⟩ : ∃ n_ : Nat, n_ = w_36.heap.size := ⟨_, rfl⟩
 obtain ⟨hiR61, hhiR61⟩ : ∃ n_ : Nat, n_ = w_37.heap.size := ⟨_, rfl⟩
 have n0_ := Aside0.mk (Kd.R_below HOR7.out hb)
 have n1_ := Aside0.mk (Kd.R_below HOR10.out hb)
 have n2_ := Aside0.mk (Kd.R_below HOR12.out hb)
 have n3_ := Aside0.mk (Kd.R_below HOR15.out hb)
 have n4_ := Aside0.mk (Kd.R_below HOR18.out hb)
 have n5_ := Aside0.mk (Kd.R_below HOR22.out hb)
 have n6_ := Aside0.mk (Kd.R_below HOR25.out hb)
 have n7_ := Aside0.mk (Kd.R_below HOR28.out hb)
 have n8_ := Aside0.mk (Kd.R_below HOR32.out hb)
 have n9_ := Aside0.mk (Kd.R_below HOR36.out hb)
 have n10_ := Aside0.mk (Kd.R_below HOR39.out hb)
 have n11_ := Aside0.mk (Kd.R_below HOR53.out hb)
 have n12_ := Aside0.mk (Kd.R_below HOR56.out hb)
 have n13_ := Aside0.mk (Kd.R_below HOR58.out hb)
 have n14_ := Aside0.mk (Nat.le_trans UPR7.out hb.size)
 have n15_ := Aside0.mk (Nat.le_trans UPR10.out hb.size)
 have n16_ := Aside0.mk (Nat.le_trans UPR12.out hb.size)
 have n17_ := Aside0.mk (Nat.le_trans UPR15.out hb.size)
 have n18_ := Aside0.mk (Nat.le_trans UPR18.out hb.size)
 have n19_ := Aside0.mk (Nat.le_trans UPR22.out hb.size)
 have n20_ := Aside0.mk (Nat.le_trans UPR25.out hb.size)
 have n21_ := Aside0.mk (Nat.le_trans UPR28.out hb.size)
 have n22_ := Aside0.mk (Nat.le_trans UPR32.out hb.size)
 have n23_ := Aside0.mk (Nat.le_trans UPR36.out hb.size)
 have n24_ := Aside0.mk (Nat.le_trans UPR39.out hb.size)
 have n25_ := Aside0.mk (Nat.le_trans UPR53.out hb.size)
 have n26_ := Aside0.mk (Nat.le_trans UPR56.out hb.size)
 have n27_ := Aside0.mk (Nat.le_trans UPR58.out hb.size)
 have n28_ := Aside0.mk (blk_below (g := gb1) BKgb1.out hb)
 have n29_ := Aside0.mk (blk_below (g := gb2) BKgb2.out hb)
 have n30_ := Aside0.mk (blk_below (g := gb19) BKgb19.out hb)
 have n31_ := Aside0.mk (blk_below (g := gb23) BKgb23.out hb)
 have n32_ := Aside0.mk (Nat.lt_of_lt_of_le GUgb1.out hb.size)
 have n33_ := Aside0.mk (Nat.lt_of_lt_of_le GUgb2.out hb.size)
 have n34_ := Aside0.mk (Nat.lt_of_lt_of_le GUgb19.out hb.size)
 have n35_ := Aside0.mk (Nat.lt_of_lt_of_le GUgb23.out hb.size)
 have n36_ := Aside0.mk (below_step HB.out hb)
 have n37_ := Aside0.mk (below_step HBM.out hb)
 have n38_ := Aside0.mk (Kd.R_lower (Kd.R_mono (ok' := fun k_ => loR61 ≤ k_ ∧ k_ < hiR61) (Kd.R_bound hoR61) (fun k_ hk_ => ⟨by rw [hloR61]; exact hk_.2.1, by rw [hhiR61]; exact hk_.2.2.1⟩)) (below_size HBM.out))
 have n39_ := Aside0.mk (by rw [hhiR61]; exact Nat.le_refl _ : hiR61 ≤ w_37.heap.size)
 have n40_ := Aside0.mk (fun k_ h1_ h2_ => by have := UPR7.out; rw [← hloR61] at this; omega : ∀ k_, loR7 ≤ k_ ∧ k_ < hiR7 → ¬ (loR61 ≤ k_ ∧ k_ < hiR61))
 have n41_ := Aside0.mk (fun k_ h1_ h2_ => by have := UPR7.out; rw [← hloR61] at this; omega : ∀ k_, loR61 ≤ k_ ∧ k_ < hiR61 → ¬ (loR7 ≤ k_ ∧ k_ < hiR7))
 have n42_ := Aside0.mk (fun k_ h1_ h2_ => by have := UPR10.out; rw [← hloR61] at this; omega : ∀ k_, loR10 ≤ k_ ∧ k_ < hiR10 → ¬ (loR61 ≤ k_ ∧ k_ < hiR61))
 have n43_ := Aside0.mk (fun k_ h1_ h2_ => by have := UPR10.out; rw [← hloR61] at this; omega : ∀ k_, loR61 ≤ k_ ∧ k_ < hiR61 → ¬ (loR10 ≤ k_ ∧ k_ < hiR10))
 have n44_ := Aside0.mk (fun k_ h1_ h2_ => by have := UPR12.out; rw [← hloR61] at this; omega : ∀ k_, loR12 ≤ k_ ∧ k_ < hiR12 → ¬ (loR61 ≤ k_ ∧ k_ < hiR61))
 have n45_ := Aside0.mk (fun k_ h1_ h2_ => by have := UPR12.out; rw [← hloR61] at this; omega : ∀ k_, loR61 ≤ k_ ∧ k_ < hiR61 → ¬ (loR12 ≤ k_ ∧ k_ < hiR12))
 have n46_ := Aside0.mk (fun k_ h1_ h2_ => by have := UPR15.out; rw [← hloR61] at this; omega : ∀ k_, loR15 ≤ k_ ∧ k_ < hiR15 → ¬ (loR61 ≤ k_ ∧ k_ < hiR61))
 have n47_ := Aside0.mk (fun k_ h1_ h2_ => by have := UPR15.out; rw [← hloR61] at this; omega : ∀ k_, loR61 ≤ k_ ∧ k_ < hiR61 → ¬ (loR15 ≤ k_ ∧ k_ < hiR15))
 have n48_ := Aside0.mk (fun k_ h1_ h2_ => by have := UPR18.out; rw [← hloR61] at this; omega : ∀ k_, loR18 ≤ k_ ∧ k_ < hiR18 → ¬ (loR61 ≤ k_ ∧ k_ < hiR61))
 have n49_ := Aside0.mk (fun k_ h1_ h2_ => by have := UPR18.out; rw [← hloR61] at this; omega : ∀ k_, loR61 ≤ k_ ∧ k_ < hiR61 → ¬ (loR18 ≤ k_ ∧ k_ < hiR18))
 have n50_ := Aside0.mk (fun k_ h1_ h2_ => by have := UPR22.out; rw [← hloR61] at this; omega : ∀ k_, loR22 ≤ k_ ∧ k_ < hiR22 → ¬ (loR61 ≤ k_ ∧ k_ < hiR61))
 have n51_ := Aside0.mk (fun k_ h1_ h2_ => by have := UPR22.out; rw [← hloR61] at this; omega : ∀ k_, loR61 ≤ k_ ∧ k_ < hiR61 → ¬ (loR22 ≤ k_ ∧ k_ < hiR22))
 have n52_ := Aside0.mk (fun k_ h1_ h2_ => by have := UPR25.out; rw [← hloR61] at this; omega : ∀ k_, loR25 ≤ k_ ∧ k_ < hiR25 → ¬ (loR61 ≤ k_ ∧ k_ < hiR61))
 have n53_ := Aside0.mk (fun k_ h1_ h2_ => by have := UPR25.out; rw [← hloR61] at this; omega : ∀ k_, loR61 ≤ k_ ∧ k_ < hiR61 → ¬ (loR25 ≤ k_ ∧ k_ < hiR25))
 have n54_ := Aside0.mk (fun k_ h1_ h2_ => by have := UPR28.out; rw [← hloR61] at this; omega : ∀ k_, loR28 ≤ k_ ∧ k_ < hiR28 → ¬ (loR61 ≤ k_ ∧ k_ < hiR61))
 have n55_ := Aside0.mk (fun k_ h1_ h2_ => by have := UPR28.out; rw [← hloR61] at this; omega : ∀ k_, loR61 ≤ k_ ∧ k_ < hiR61 → ¬ (loR28 ≤ k_ ∧ k_ < hiR28))
 have n56_ := Aside0.mk (fun k_ h1_ h2_ => by have := UPR32.out; rw [← hloR61] at this; omega : ∀ k_, loR32 ≤ k_ ∧ k_ < hiR32 → ¬ (loR61 ≤ k_ ∧ k_ < hiR61))
 have n57_ := Aside0.mk (fun k_ h1_ h2_ => by have := UPR32.out; rw [← hloR61] at this; omega : ∀ k_, loR61 ≤ k_ ∧ k_ < hiR61 → ¬ (loR32 ≤ k_ ∧ k_ < hiR32))
 have n58_ := Aside0.mk (fun k_ h1_ h2_ => by have := UPR36.out; rw [← hloR61] at this; omega : ∀ k_, loR36 ≤ k_ ∧ k_ < hiR36 → ¬ (loR61 ≤ k_ ∧ k_ < hiR61))
 have n59_ := Aside0.mk (fun k_ h1_ h2_ => by have := UPR36.out; rw [← hloR61] at this; omega : ∀ k_, loR61 ≤ k_ ∧ k_ < hiR61 → ¬ (loR36 ≤ k_ ∧ k_ < hiR36))
 have n60_ := Aside0.mk (fun k_ h1_ h2_ => by have := UPR39.out; rw [← hloR61] at this; omega : ∀ k_, loR39 ≤ k_ ∧ k_ < hiR39 → ¬ (loR61 ≤ k_ ∧ k_ < hiR61))
 have n61_ := Aside0.mk (fun k_ h1_ h2_ => by have := UPR39.out; rw [← hloR61] at this; omega : ∀ k_, loR61 ≤ k_ ∧ k_ < hiR61 → ¬ (loR39 ≤ k_ ∧ k_ < hiR39))
 have n62_ := Aside0.mk (fun k_ h1_ h2_ => by have := UPR53.out; rw [← hloR61] at this; omega : ∀ k_, loR53 ≤ k_ ∧ k_ < hiR53 → ¬ (loR61 ≤ k_ ∧ k_ < hiR61))
 have n63_ := Aside0.mk (fun k_ h1_ h2_ => by have := UPR53.out; rw [← hloR61] at this; omega : ∀ k_, loR61 ≤ k_ ∧ k_ < hiR61 → ¬ (loR53 ≤ k_ ∧ k_ < hiR53))
 have n64_ := Aside0.mk (fun k_ h1_ h2_ => by have := UPR56.out; rw [← hloR61] at this; omega : ∀ k_, loR56 ≤ k_ ∧ k_ < hiR56 → ¬ (loR61 ≤ k_ ∧ k_ < hiR61))
 have n65_ := Aside0.mk (fun k_ h1_ h2_ => by have := UPR56.out; rw [← hloR61] at this; omega : ∀ k_, loR61 ≤ k_ ∧ k_ < hiR61 → ¬ (loR56 ≤ k_ ∧ k_ < hiR56))
 have n66_ := Aside0.mk (fun k_ h1_ h2_ => by have := UPR58.out; rw [← hloR61] at this; omega : ∀ k_, loR58 ≤ k_ ∧ k_ < hiR58 → ¬ (loR61 ≤ k_ ∧ k_ < hiR61))
 have n67_ := Aside0.mk (fun k_ h1_ h2_ => by have := UPR58.out; rw [← hloR61] at this; omega : ∀ k_, loR61 ≤ k_ ∧ k_ < hiR61 → ¬ (loR58 ≤ k_ ∧ k_ < hiR58))
 have n68_ := Aside0.mk (fun k_ hk_ => by have := GUgb1.out; rw [← hloR61] at this; omega : ∀ k_, loR61 ≤ k_ ∧ k_ < hiR61 → k_ ≠ gb1)
 have n69_ := Aside0.mk (fun k_ hk_ => by have := GUgb2.out; rw [← hloR61] at this; omega : ∀ k_, loR61 ≤ k_ ∧ k_ < hiR61 → k_ ≠ gb2)
 have n70_ := Aside0.mk (fun k_ hk_ => by have := GUgb19.out; rw [← hloR61] at this; omega : ∀ k_, loR61 ≤ k_ ∧ k_ < hiR61 → k_ ≠ gb19)
 have n71_ := Aside0.mk (fun k_ hk_ => by have := GUgb23.out; rw [← hloR61] at this; omega : ∀ k_, loR61 ≤ k_ ∧ k_ < hiR61 → k_ ≠ gb23)
 clear HOR7
 clear HOR10
 clear HOR12
 clear HOR15
 clear HOR18
 clear HOR22
 clear HOR25
 clear HOR28
 clear HOR32
 clear HOR36
 clear HOR39
 clear HOR53
 clear HOR56
 clear HOR58
 clear UPR7
 clear UPR10
 clear UPR12
 clear UPR15
 clear UPR18
 clear UPR22
 clear UPR25
 clear UPR28
 clear UPR32
 clear UPR36
 clear UPR39
 clear UPR53
 clear UPR56
 clear UPR58
 clear BKgb1
 clear BKgb2
 clear BKgb19
 clear BKgb23
 clear GUgb1
 clear GUgb2
 clear GUgb19
 clear GUgb23
 clear HB
 clear HBM
 have HOR7 := n0_
 have HOR10 := n1_
 have HOR12 := n2_
 have HOR15 := n3_
 have HOR18 := n4_
 have HOR22 := n5_
 have HOR25 := n6_
 have HOR28 := n7_
 have HOR32 := n8_
 have HOR36 := n9_
 have HOR39 := n10_
 have HOR53 := n11_
 have HOR56 := n12_
 have HOR58 := n13_
 have UPR7 := n14_
 have UPR10 := n15_
 have UPR12 := n16_
 have UPR15 := n17_
 have UPR18 := n18_
 have UPR22 := n19_
 have UPR25 := n20_
 have UPR28 := n21_
 have UPR32 := n22_
 have UPR36 := n23_
 have UPR39 := n24_
 have UPR53 := n25_
 have UPR56 := n26_
 have UPR58 := n27_
 have BKgb1 := n28_
 have BKgb2 := n29_
 have BKgb19 := n30_
 have BKgb23 := n31_
 have GUgb1 := n32_
 have GUgb2 := n33_
 have GUgb19 := n34_
 have GUgb23 := n35_
 have HB := n36_
 have HBM := n37_
 have HOR61 := n38_
 have UPR61 := n39_
 have NRR7_R61 := n40_
 have NRR61_R7 := n41_
 have NRR10_R61 := n42_
 have NRR61_R10 := n43_
 have NRR12_R61 := n44_
 have NRR61_R12 := n45_
 have NRR15_R61 := n46_
 have NRR61_R15 := n47_
 have NRR18_R61 := n48_
 have NRR61_R18 := n49_
 have NRR22_R61 := n50_
 have NRR61_R22 := n51_
 have NRR25_R61 := n52_
 have NRR61_R25 := n53_
 have NRR28_R61 := n54_
 have NRR61_R28 := n55_
 have NRR32_R61 := n56_
 have NRR61_R32 := n57_
 have NRR36_R61 := n58_
 have NRR61_R36 := n59_
 have NRR39_R61 := n60_
 have NRR61_R39 := n61_
 have NRR53_R61 := n62_
 have NRR61_R53 := n63_
 have NRR56_R61 := n64_
 have NRR61_R56 := n65_
 have NRR58_R61 := n66_
 have NRR61_R58 := n67_
 have NER61_gb1 := n68_
 have NER61_gb2 := n69_
 have NER61_gb19 := n70_
 have NER61_gb23 := n71_
 clear n0_ n1_ n2_ n3_ n4_ n5_ n6_ n7_ n8_ n9_ n10_ n11_ n12_ n13_ n14_ n15_ n16_ n17_ n18_ n19_ n20_ n21_ n22_ n23_ n24_ n25_ n26_ n27_ n28_ n29_ n30_ n31_ n32_ n33_ n34_ n35_ n36_ n37_ n38_ n39_ n40_ n41_ n42_ n43_ n44_ n45_ n46_ n47_ n48_ n49_ n50_ n51_ n52_ n53_ n54_ n55_ n56_ n57_ n58_ n59_ n60_ n61_ n62_ n63_ n64_ n65_ n66_ n67_ n68_ n69_ n70_ n71_
 clear hb
 clear hoR61 hloR61 hhiR61
 obtain ⟨AR61, cR61, eqR61⟩ := Kd.R_slice HOR61.out
 subst eqR61
 refine hK.out _ _ ⟨(blk_cell BKgb1.out 0).trans rfl, (blk_cell BKgb1.out 1).trans rfl, (blk_cell BKgb2.out 0).trans rfl, (blk_cell BKgb2.out 1).trans rfl⟩ (fun hHeld => ?_)
 clear hK K
 refine norm_ (a' := ?_) ?_ ?_
 rotate_left
 ·show Act.put _ (some 120) _ = _
  simp only [Act.put, List.setIfInBounds_toArray, List.set_cons_zero, List.set_cons_succ, i64_w, i32_w]
  rfl
 refine pure_ (i := 7) (N := some 113) (v := ?_) (a' := ?_) #[true, true, true, true, true, true, true, true, false, false, false, false] rfl rfl (by kernel_rfl) (fun _ _ _ h => h) (Or.inl ⟨by rfl, ?_⟩) ?_ ?_
 rotate_left
 ·intro w'
  go_simp
  with_reducible rfl
 rotate_left
 ·simp only [Act.put, List.setIfInBounds_toArray, List.set_cons_zero, List.set_cons_succ, i64_w, i32_w]
  rfl
 refine pure_ (i := 8) (N := some 121) (v := ?_) (a' := ?_) #[true, true, true, true, true, true, true, true, true, false, false, false] rfl rfl (by kernel_rfl) (fun _ _ _ h => h) (Or.inl ⟨by rfl, ?_⟩) ?_ ?_
 rotate_left
 ·intro w'
  go_simp
  with_reducible rfl
 rotate_left
 ·simp only [Act.put, List.setIfInBounds_toArray, List.set_cons_zero, List.set_cons_succ, i64_w, i32_w]
  rfl
 refine pure_ (i := 9) (N := some 122) (v := ?_) (a' := ?_) #[true, true, true, true, true, true, true, true, true, true, false, false] rfl rfl (by kernel_rfl) (fun _ _ _ h => h) (Or.inl ⟨by rfl, ?_⟩) ?_ ?_
 rotate_left
 ·intro w'
  go_simp
  with_reducible rfl
 rotate_left
 ·simp only [Act.put, List.setIfInBounds_toArray, List.set_cons_zero, List.set_cons_succ, i64_w, i32_w]
  rfl
 refine pure_ (i := 10) (N := some 18) (v := ?_) (a' := ?_) #[true, true, true, true, true, true, true, true, true, true, true, false] rfl rfl (by kernel_rfl) (fun _ _ _ h => h) (Or.inl ⟨by rfl, ?_⟩) ?_ ?_
 rotate_left
 ·intro w'
  go_simp
  with_reducible rfl
 rotate_left
 ·simp only [Act.put, List.setIfInBounds_toArray, List.set_cons_zero, List.set_cons_succ, i64_w, i32_w]
  rfl
 refine pure_ (i := 11) (N := some 19) (v := ?_) (a' := ?_) #[true, true, true, true, true, true, true, true, true, true, true, true] rfl rfl (by kernel_rfl) (fun _ _ _ h => h) (Or.inl ⟨by rfl, ?_⟩) ?_ ?_
 rotate_left
 ·intro w'
  go_simp
  with_reducible rfl
 rotate_left
 ·simp only [Act.put, List.setIfInBounds_toArray, List.set_cons_zero, List.set_cons_succ, i64_w, i32_w]
  rfl
 refine done_ (by kernel_rfl) ?_
 (try clear hczgb1_0)
 (try clear hfzgb1_0)
 (try clear hczgb1_1)
 (try clear hfzgb1_1)
 (try clear hczgb2_0)
 (try clear hfzgb2_0)
 (try clear hczgb2_1)
 (try clear hfzgb2_1)
 (try clear hczgb19_0)
 (try clear hfzgb19_0)
 (try clear hczgb19_1)
 (try clear hfzgb19_1)
 (try clear hczgb23_0)
 (try clear hfzgb23_0)
 (try clear hczgb23_1)
 (try clear hfzgb23_1)
 have hczgb1_0 : w_37.cell? ⟨gb1, 0, none⟩ = some (.int .i64 a0_0) := (blk_cell BKgb1.out 0).trans rfl
 have hfzgb1_0 := blk_frozen BKgb1.out 0
 have hczgb1_1 : w_37.cell? ⟨gb1, 1, none⟩ = some (.slice A0_1 l0_1.length c0_1) := (blk_cell BKgb1.out 1).trans rfl
 have hfzgb1_1 := blk_frozen BKgb1.out 1
 have hczgb2_0 : w_37.cell? ⟨gb2, 0, none⟩ = some (.int .i64 a1_0) := (blk_cell BKgb2.out 0).trans rfl
 have hfzgb2_0 := blk_frozen BKgb2.out 0
 have hczgb2_1 : w_37.cell? ⟨gb2, 1, none⟩ = some (.slice A1_1 l1_1.length c1_1) := (blk_cell BKgb2.out 1).trans rfl
 have hfzgb2_1 := blk_frozen BKgb2.out 1
 have hczgb19_0 : w_37.cell? ⟨gb19, 0, none⟩ = some (.int .i64 t16) := (blk_cell BKgb19.out 0).trans rfl
 have hfzgb19_0 := blk_frozen BKgb19.out 0
 have hczgb19_1 : w_37.cell? ⟨gb19, 1, none⟩ = some (.slice AR18 t17.length cR18) := (blk_cell BKgb19.out 1).trans rfl
 have hfzgb19_1 := blk_frozen BKgb19.out 1
 have hczgb23_0 : w_37.cell? ⟨gb23, 0, none⟩ = some (.int .i64 t20) := (blk_cell BKgb23.out 0).trans rfl
 have hfzgb23_0 := blk_frozen BKgb23.out 0
 have hczgb23_1 : w_37.cell? ⟨gb23, 1, none⟩ = some (.slice AR22 t21.length cR22) := (blk_cell BKgb23.out 1).trans rfl
 have hfzgb23_1 := blk_frozen BKgb23.out 1
 go_wp2_with (first | ((with_reducible refine gate_callee (f := 37) rfl ?_); refine goesL_ (some 125) rfl rfl Try.func37 (by kernel_rfl) rfl #[.slice AR61 t59.length cR61, .slice AR15 t13.length cR15] rfl (by (try simp only [List.map_toArray, List.map_cons, List.map_nil]); first | done | rfl) ?_; (with_reducible refine (laws_eqInt64S.calls k _ _ t59 _ _ t13 true _ ?side1 ?side2 ?side3 ?side4 E40.out).mono ?_); (case side1 => exact (Kd.R_reads' HOR61.out).2.2); (case side2 => exact (Kd.R_reads' HOR61.out).2.1); (case side3 => exact (Kd.R_reads' HOR15.out).2.2); (case side4 => exact (Kd.R_reads' HOR15.out).2.1); rintro e w_38 ⟨rfl, hd⟩; have hb := Drawn0.below hd; refine ⟨_, rfl, ?_⟩; have n0_ := Aside0.mk (Kd.R_below HOR7.out hb); have n1_ := Aside0.mk (Kd.R_below HOR10.out hb); have n2_ := Aside0.mk (Kd.R_below HOR12.out hb); have n3_ := Aside0.mk (Kd.R_below HOR15.out hb); have n4_ := Aside0.mk (Kd.R_below HOR18.out hb); have n5_ := Aside0.mk (Kd.R_below HOR22.out hb); have n6_ := Aside0.mk (Kd.R_below HOR25.out hb); have n7_ := Aside0.mk (Kd.R_below HOR28.out hb); have n8_ := Aside0.mk (Kd.R_below HOR32.out hb); have n9_ := Aside0.mk (Kd.R_below HOR36.out hb); have n10_ := Aside0.mk (Kd.R_below HOR39.out hb); have n11_ := Aside0.mk (Kd.R_below HOR53.out hb); have n12_ := Aside0.mk (Kd.R_below HOR56.out hb); have n13_ := Aside0.mk (Kd.R_below HOR58.out hb); have n14_ := Aside0.mk (Kd.R_below HOR61.out hb); have n15_ := Aside0.mk (Nat.le_trans UPR7.out hb.size); have n16_ := Aside0.mk (Nat.le_trans UPR10.out hb.size); have n17_ := Aside0.mk (Nat.le_trans UPR12.out hb.size); have n18_ := Aside0.mk (Nat.le_trans UPR15.out hb.size); have n19_ := Aside0.mk (Nat.le_trans UPR18.out hb.size); have n20_ := Aside0.mk (Nat.le_trans UPR22.out hb.size); have n21_ := Aside0.mk (Nat.le_trans UPR25.out hb.size); have n22_ := Aside0.mk (Nat.le_trans UPR28.out hb.size); have n23_ := Aside0.mk (Nat.le_trans UPR32.out hb.size); have n24_ := Aside0.mk (Nat.le_trans UPR36.out hb.size); have n25_ := Aside0.mk (Nat.le_trans UPR39.out hb.size); have n26_ := Aside0.mk (Nat.le_trans UPR53.out hb.size); have n27_ := Aside0.mk (Nat.le_trans UPR56.out hb.size); have n28_ := Aside0.mk (Nat.le_trans UPR58.out hb.size); have n29_ := Aside0.mk (Nat.le_trans UPR61.out hb.size); have n30_ := Aside0.mk (blk_below (g := gb1) BKgb1.out hb); have n31_ := Aside0.mk (blk_below (g := gb2) BKgb2.out hb); have n32_ := Aside0.mk (blk_below (g := gb19) BKgb19.out hb); have n33_ := Aside0.mk (blk_below (g := gb23) BKgb23.out hb); have n34_ := Aside0.mk (Nat.lt_of_lt_of_le GUgb1.out hb.size); have n35_ := Aside0.mk (Nat.lt_of_lt_of_le GUgb2.out hb.size); have n36_ := Aside0.mk (Nat.lt_of_lt_of_le GUgb19.out hb.size); have n37_ := Aside0.mk (Nat.lt_of_lt_of_le GUgb23.out hb.size); have n38_ := Aside0.mk (below_step HB.out hb); have n39_ := Aside0.mk (below_step HBM.out hb); clear HOR7; clear HOR10; clear HOR12; clear HOR15; clear HOR18; clear HOR22; clear HOR25; clear HOR28; clear HOR32; clear HOR36; clear HOR39; clear HOR53; clear HOR56; clear HOR58; clear HOR61; clear UPR7; clear UPR10; clear UPR12; clear UPR15; clear UPR18; clear UPR22; clear UPR25; clear UPR28; clear UPR32; clear UPR36; clear UPR39; clear UPR53; clear UPR56; clear UPR58; clear UPR61; clear BKgb1; clear BKgb2; clear BKgb19; clear BKgb23; clear GUgb1; clear GUgb2; clear GUgb19; clear GUgb23; clear HB; clear HBM; have HOR7 := n0_; have HOR10 := n1_; have HOR12 := n2_; have HOR15 := n3_; have HOR18 := n4_; have HOR22 := n5_; have HOR25 := n6_; have HOR28 := n7_; have HOR32 := n8_; have HOR36 := n9_; have HOR39 := n10_; have HOR53 := n11_; have HOR56 := n12_; have HOR58 := n13_; have HOR61 := n14_; have UPR7 := n15_; have UPR10 := n16_; have UPR12 := n17_; have UPR15 := n18_; have UPR18 := n19_; have UPR22 := n20_; have UPR25 := n21_; have UPR28 := n22_; have UPR32 := n23_; have UPR36 := n24_; have UPR39 := n25_; have UPR53 := n26_; have UPR56 := n27_; have UPR58 := n28_; have UPR61 := n29_; have BKgb1 := n30_; have BKgb2 := n31_; have BKgb19 := n32_; have BKgb23 := n33_; have GUgb1 := n34_; have GUgb2 := n35_; have GUgb19 := n36_; have GUgb23 := n37_; have HB := n38_; have HBM := n39_; clear n0_ n1_ n2_ n3_ n4_ n5_ n6_ n7_ n8_ n9_ n10_ n11_ n12_ n13_ n14_ n15_ n16_ n17_ n18_ n19_ n20_ n21_ n22_ n23_ n24_ n25_ n26_ n27_ n28_ n29_ n30_ n31_ n32_ n33_ n34_ n35_ n36_ n37_ n38_ n39_; clear hb; clear hd; (try clear hczgb1_0); (try clear hfzgb1_0); (try clear hczgb1_1); (try clear hfzgb1_1); (try clear hczgb2_0); (try clear hfzgb2_0); (try clear hczgb2_1); (try clear hfzgb2_1); (try clear hczgb19_0); (try clear hfzgb19_0); (try clear hczgb19_1); (try clear hfzgb19_1); (try clear hczgb23_0); (try clear hfzgb23_0); (try clear hczgb23_1); (try clear hfzgb23_1); have hczgb1_0 : w_38.cell? ⟨gb1, 0, none⟩ = some (.int .i64 a0_0) := (blk_cell BKgb1.out 0).trans rfl; have hfzgb1_0 := blk_frozen BKgb1.out 0; have hczgb1_1 : w_38.cell? ⟨gb1, 1, none⟩ = some (.slice A0_1 l0_1.length c0_1) := (blk_cell BKgb1.out 1).trans rfl; have hfzgb1_1 := blk_frozen BKgb1.out 1; have hczgb2_0 : w_38.cell? ⟨gb2, 0, none⟩ = some (.int .i64 a1_0) := (blk_cell BKgb2.out 0).trans rfl; have hfzgb2_0 := blk_frozen BKgb2.out 0; have hczgb2_1 : w_38.cell? ⟨gb2, 1, none⟩ = some (.slice A1_1 l1_1.length c1_1) := (blk_cell BKgb2.out 1).trans rfl; have hfzgb2_1 := blk_frozen BKgb2.out 1; have hczgb19_0 : w_38.cell? ⟨gb19, 0, none⟩ = some (.int .i64 t16) := (blk_cell BKgb19.out 0).trans rfl; have hfzgb19_0 := blk_frozen BKgb19.out 0; have hczgb19_1 : w_38.cell? ⟨gb19, 1, none⟩ = some (.slice AR18 t17.length cR18) := (blk_cell BKgb19.out 1).trans rfl; have hfzgb19_1 := blk_frozen BKgb19.out 1; have hczgb23_0 : w_38.cell? ⟨gb23, 0, none⟩ = some (.int .i64 t20) := (blk_cell BKgb23.out 0).trans rfl; have hfzgb23_0 := blk_frozen BKgb23.out 0; have hczgb23_1 : w_38.cell? ⟨gb23, 1, none⟩ = some (.slice AR22 t21.length cR22) := (blk_cell BKgb23.out 1).trans rfl; have hfzgb23_1 := blk_frozen BKgb23.out 1) | ((with_reducible refine gate_callee (f := 39) rfl ?_); refine goesL_ (some 134) rfl rfl Try.func39 (by kernel_rfl) rfl #[.slice AR28 t49.length cR28, .int .i64 1] rfl (by (try simp only [List.map_toArray, List.map_cons, List.map_nil]); first | done | rfl | (simp only [show t49.length = t26.length from (Kd.R_reads' HOR28.out).1.symm]; rfl)) ?_; (with_reducible refine (laws_heldInt64S.calls k _ _ t49 1 t63 _ ?side1 ?side2 E43.out).mono ?_); (case side1 => exact (Kd.R_reads' HOR28.out).2.2); (case side2 => exact (fun h_ => h_.1 ▸ h_.2.1) (Kd.R_reads' HOR28.out)); rintro e w_39 ⟨rfl, hd⟩; have hb := Drawn0.below hd; refine ⟨_, rfl, ?_⟩; have n0_ := Aside0.mk (Kd.R_below HOR7.out hb); have n1_ := Aside0.mk (Kd.R_below HOR10.out hb); have n2_ := Aside0.mk (Kd.R_below HOR12.out hb); have n3_ := Aside0.mk (Kd.R_below HOR15.out hb); have n4_ := Aside0.mk (Kd.R_below HOR18.out hb); have n5_ := Aside0.mk (Kd.R_below HOR22.out hb); have n6_ := Aside0.mk (Kd.R_below HOR25.out hb); have n7_ := Aside0.mk (Kd.R_below HOR28.out hb); have n8_ := Aside0.mk (Kd.R_below HOR32.out hb); have n9_ := Aside0.mk (Kd.R_below HOR36.out hb); have n10_ := Aside0.mk (Kd.R_below HOR39.out hb); have n11_ := Aside0.mk (Kd.R_below HOR53.out hb); have n12_ := Aside0.mk (Kd.R_below HOR56.out hb); have n13_ := Aside0.mk (Kd.R_below HOR58.out hb); have n14_ := Aside0.mk (Kd.R_below HOR61.out hb); have n15_ := Aside0.mk (Nat.le_trans UPR7.out hb.size); have n16_ := Aside0.mk (Nat.le_trans UPR10.out hb.size); have n17_ := Aside0.mk (Nat.le_trans UPR12.out hb.size); have n18_ := Aside0.mk (Nat.le_trans UPR15.out hb.size); have n19_ := Aside0.mk (Nat.le_trans UPR18.out hb.size); have n20_ := Aside0.mk (Nat.le_trans UPR22.out hb.size); have n21_ := Aside0.mk (Nat.le_trans UPR25.out hb.size); have n22_ := Aside0.mk (Nat.le_trans UPR28.out hb.size); have n23_ := Aside0.mk (Nat.le_trans UPR32.out hb.size); have n24_ := Aside0.mk (Nat.le_trans UPR36.out hb.size); have n25_ := Aside0.mk (Nat.le_trans UPR39.out hb.size); have n26_ := Aside0.mk (Nat.le_trans UPR53.out hb.size); have n27_ := Aside0.mk (Nat.le_trans UPR56.out hb.size); have n28_ := Aside0.mk (Nat.le_trans UPR58.out hb.size); have n29_ := Aside0.mk (Nat.le_trans UPR61.out hb.size); have n30_ := Aside0.mk (blk_below (g := gb1) BKgb1.out hb); have n31_ := Aside0.mk (blk_below (g := gb2) BKgb2.out hb); have n32_ := Aside0.mk (blk_below (g := gb19) BKgb19.out hb); have n33_ := Aside0.mk (blk_below (g := gb23) BKgb23.out hb); have n34_ := Aside0.mk (Nat.lt_of_lt_of_le GUgb1.out hb.size); have n35_ := Aside0.mk (Nat.lt_of_lt_of_le GUgb2.out hb.size); have n36_ := Aside0.mk (Nat.lt_of_lt_of_le GUgb19.out hb.size); have n37_ := Aside0.mk (Nat.lt_of_lt_of_le GUgb23.out hb.size); have n38_ := Aside0.mk (below_step HB.out hb); have n39_ := Aside0.mk (below_step HBM.out hb); clear HOR7; clear HOR10; clear HOR12; clear HOR15; clear HOR18; clear HOR22; clear HOR25; clear HOR28; clear HOR32; clear HOR36; clear HOR39; clear HOR53; clear HOR56; clear HOR58; clear HOR61; clear UPR7; clear UPR10; clear UPR12; clear UPR15; clear UPR18; clear UPR22; clear UPR25; clear UPR28; clear UPR32; clear UPR36; clear UPR39; clear UPR53; clear UPR56; clear UPR58; clear UPR61; clear BKgb1; clear BKgb2; clear BKgb19; clear BKgb23; clear GUgb1; clear GUgb2; clear GUgb19; clear GUgb23; clear HB; clear HBM; have HOR7 := n0_; have HOR10 := n1_; have HOR12 := n2_; have HOR15 := n3_; have HOR18 := n4_; have HOR22 := n5_; have HOR25 := n6_; have HOR28 := n7_; have HOR32 := n8_; have HOR36 := n9_; have HOR39 := n10_; have HOR53 := n11_; have HOR56 := n12_; have HOR58 := n13_; have HOR61 := n14_; have UPR7 := n15_; have UPR10 := n16_; have UPR12 := n17_; have UPR15 := n18_; have UPR18 := n19_; have UPR22 := n20_; have UPR25 := n21_; have UPR28 := n22_; have UPR32 := n23_; have UPR36 := n24_; have UPR39 := n25_; have UPR53 := n26_; have UPR56 := n27_; have UPR58 := n28_; have UPR61 := n29_; have BKgb1 := n30_; have BKgb2 := n31_; have BKgb19 := n32_; have BKgb23 := n33_; have GUgb1 := n34_; have GUgb2 := n35_; have GUgb19 := n36_; have GUgb23 := n37_; have HB := n38_; have HBM := n39_; clear n0_ n1_ n2_ n3_ n4_ n5_ n6_ n7_ n8_ n9_ n10_ n11_ n12_ n13_ n14_ n15_ n16_ n17_ n18_ n19_ n20_ n21_ n22_ n23_ n24_ n25_ n26_ n27_ n28_ n29_ n30_ n31_ n32_ n33_ n34_ n35_ n36_ n37_ n38_ n39_; clear hb; clear hd; (try clear hczgb1_0); (try clear hfzgb1_0); (try clear hczgb1_1); (try clear hfzgb1_1); (try clear hczgb2_0); (try clear hfzgb2_0); (try clear hczgb2_1); (try clear hfzgb2_1); (try clear hczgb19_0); (try clear hfzgb19_0); (try clear hczgb19_1); (try clear hfzgb19_1); (try clear hczgb23_0); (try clear hfzgb23_0); (try clear hczgb23_1); (try clear hfzgb23_1); have hczgb1_0 : w_39.cell? ⟨gb1, 0, none⟩ = some (.int .i64 a0_0) := (blk_cell BKgb1.out 0).trans rfl; have hfzgb1_0 := blk_frozen BKgb1.out 0; have hczgb1_1 : w_39.cell? ⟨gb1, 1, none⟩ = some (.slice A0_1 l0_1.length c0_1) := (blk_cell BKgb1.out 1).trans rfl; have hfzgb1_1 := blk_frozen BKgb1.out 1; have hczgb2_0 : w_39.cell? ⟨gb2, 0, none⟩ = some (.int .i64 a1_0) := (blk_cell BKgb2.out 0).trans rfl; have hfzgb2_0 := blk_frozen BKgb2.out 0; have hczgb2_1 : w_39.cell? ⟨gb2, 1, none⟩ = some (.slice A1_1 l1_1.length c1_1) := (blk_cell BKgb2.out 1).trans rfl; have hfzgb2_1 := blk_frozen BKgb2.out 1; have hczgb19_0 : w_39.cell? ⟨gb19, 0, none⟩ = some (.int .i64 t16) := (blk_cell BKgb19.out 0).trans rfl; have hfzgb19_0 := blk_frozen BKgb19.out 0; have hczgb19_1 : w_39.cell? ⟨gb19, 1, none⟩ = some (.slice AR18 t17.length cR18) := (blk_cell BKgb19.out 1).trans rfl; have hfzgb19_1 := blk_frozen BKgb19.out 1; have hczgb23_0 : w_39.cell? ⟨gb23, 0, none⟩ = some (.int .i64 t20) := (blk_cell BKgb23.out 0).trans rfl; have hfzgb23_0 := blk_frozen BKgb23.out 0; have hczgb23_1 : w_39.cell? ⟨gb23, 1, none⟩ = some (.slice AR22 t21.length cR22) := (blk_cell BKgb23.out 1).trans rfl; have hfzgb23_1 := blk_frozen BKgb23.out 1))
 go_ret
 exact ⟨by first | rfl | (simp; done) | (simp [*]; done), HB.out⟩
theorem laws_FnExactSetErrors.walk (P : laws_FnExactSetErrors.Pure) (a0_0 : Int) (A0_1 : Option Addr) (c0_1 : Nat) (l0_1 : List Int) (a1_0 : Int) (A1_1 : Option Addr) (c1_1 : Nat) (l1_1 : List Int) (A2 : Option Addr) (c2 : Nat) (l2 : List Int) (w : World) (hr0_1 : Kd.C (Kd.int .i64) w A0_1 l0_1.length l0_1) (hc0_1 : l0_1.length ≤ c0_1) (hr1_1 : Kd.C (Kd.int .i64) w A1_1 l1_1.length l1_1) (hc1_1 : l1_1.length ≤ c1_1) (hr2 : Kd.C (Kd.int .i64) w A2 l2.length l2) (hc2 : l2.length ≤ c2) (w0_0 : (Lit.int .i64 a0_0).wf = true) (w0_1 : (l0_1.length ≤ maxLen ∧ ∀ y ∈ l0_1, (Lit.int .i64 y).wf = true)) (w1_0 : (Lit.int .i64 a1_0).wf = true) (w1_1 : (l1_1.length ≤ maxLen ∧ ∀ y ∈ l1_1, (Lit.int .i64 y).wf = true)) (w2 : (l2.length ≤ maxLen ∧ ∀ y ∈ l2, (Lit.int .i64 y).wf = true)) :
  Calls Try.prog 6 #[.agg #[.int .i64 a0_0, .slice A0_1 l0_1.length c0_1], .agg #[.int .i64 a1_0, .slice A1_1 l1_1.length c1_1], .slice A2 l2.length c2] w fun e w' => e = .returned (.bool true) ∧ Below w.heap.size w w' := by
 obtain ⟨k, h⟩ := P a0_0 l0_1 a1_0 l1_1 l2 w0_0 w0_1 w1_0 w1_1 w2
 exact laws_FnExactSetErrors.calls k a0_0 A0_1 c0_1 l0_1 a1_0 A1_1 c1_1 l1_1 A2 c2 l2 w hr0_1 hc0_1 hr1_1 hc1_1 hr2 hc2 h
end Go.Proofs.Ytoebllbpoinifaa.Q
