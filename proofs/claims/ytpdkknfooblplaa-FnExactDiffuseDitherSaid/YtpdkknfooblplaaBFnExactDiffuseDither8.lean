/- The statement FnExactDiffuseDither, with all that its proof stands on: functions of the program as plain functions, the program's walks, and the plain law. Conditions: none beyond the statement's own. -/
import Derived.ArgAppend
import Derived.Below
import Derived.BigQuiet
import Derived.BigRegion
import Derived.Deep.AppendLies
import Derived.Deep.CutBlock
import Derived.Deep.DeepCutAuto
import Derived.Deep.Draws
import Derived.Deep.LoopGhost
import Derived.Deep.OwnRows
import Derived.Deep.QuietTactic
import Derived.Deep.RegionHeld3
import Derived.KernelRfl
import Derived.Laws.BitsLemmas
import Derived.Laws.BytesArg
import Derived.Laws.IdiomCopy
import Derived.Laws.MakeOwn
import Derived.Laws.OwnMore
import Derived.Laws.Rows
import Derived.Laws.Slices
import Derived.Lib.AppendStr
import Derived.Lib.ConvBytes
import Derived.Maps.AppendAt
import Derived.OrdersHeld
import Derived.OwnWalk
import Derived.ProofKit
import Derived.RowKit
import Derived.RowKit3
import Derived.Tactics
import Derived.Test.YtpdkknfooblplaaProg
import Derived.WalkKit
import Derived.WideLaws
import Derived.Test.YtpdkknfooblplaaBFnExactDiffuseDither0
import Derived.Test.YtpdkknfooblplaaBFnExactDiffuseDither1
import Derived.Test.YtpdkknfooblplaaBFnExactDiffuseDither2
import Derived.Test.YtpdkknfooblplaaBFnExactDiffuseDither3
import Derived.Test.YtpdkknfooblplaaBFnExactDiffuseDither4
import Derived.Test.YtpdkknfooblplaaBFnExactDiffuseDither5
import Derived.Test.YtpdkknfooblplaaBFnExactDiffuseDither6
import Derived.Test.YtpdkknfooblplaaBFnExactDiffuseDither7
set_option linter.unusedVariables false
set_option linter.unusedSimpArgs false
namespace Go.Proofs.Ytpdkknfooblplaa.Q
open Go.RowKit Go.Proofs.YtpdkknfooblplaaW.PrintWords Go.Proofs.YtpdkknfooblplaaW.PrintLast Go.Proofs.YtpdkknfooblplaaW.PrintMore
set_option linter.unusedVariables false
set_option linter.unusedSimpArgs false
def laws_FnExactDiffuseDither.f (k : Nat) (l0_0 : List (List Int)) (a1_0 : Int) (l1_1 : List S96) (a2 : Bool) : Option Bool := (laws_szPicture.f k l0_0 1048576).bind fun bt3 => (if bt3 < 0 then some true else ((laws_szKernel.f a1_0 l1_1 bt3).bind fun bt4 => (if bt4 < 0 then some true else ((laws_toPicture.f k l0_0).bind fun bt5 => ((laws_toKernel.f k a1_0 l1_1).bind fun bt7 => ((spec_DiffuseDither.f k bt5 bt7.1 bt7.2 a2).bind fun bt10 => ((laws_toPicture.f k l0_0).bind fun bt14 => ((laws_toKernel.f k a1_0 l1_1).bind fun bt17 => ((impl_DiffuseDither.f k bt14 bt17.1 bt17.2 a2).bind fun bt21 => ((laws_eqInt64SS.f k bt21.1 bt10.1).bind fun bt25 => (if bt25 = true then (if bt21.2.1 = bt10.2.1 then (if bt21.2.2 = bt10.2.2 then ((laws_toPicture.f k l0_0).bind fun bt26 => ((laws_eqPicture.f k bt14 bt26).bind fun bt28 => (if bt28 = true then ((laws_toKernel.f k a1_0 l1_1).bind fun bt29 => ((laws_eqKernel.f k bt17.1 bt17.2 bt29.1 bt29.2).bind fun bt32 => (if bt32 = true then ((laws_markPicture.f k bt14 1).bind fun bt33 => ((laws_markKernel.f k bt17.1 bt17.2 bt33.1).bind fun bt35 => (if bt35.1 < 0 then some false else ((laws_eqInt64SS.f k bt21.1 bt10.1).bind fun bt37 => (if bt37 = true then ((laws_markInt64SS.f k bt21.1 1).bind fun bt38 => ((laws_heldInt64SS.f k bt38.2 1).bind fun bt40 => (if bt40 < 0 then some false else (if bt40 = bt38.1 then ((laws_toPicture.f k l0_0).bind fun bt41 => ((laws_toKernel.f k a1_0 l1_1).bind fun bt43 => ((impl_DiffuseDither.f k bt41 bt43.1 bt43.2 a2).bind fun bt46 => ((laws_eqInt64SS.f k bt46.1 bt10.1).bind fun bt50 => (if bt50 = true then (if bt46.2.1 = bt21.2.1 then (if bt46.2.2 = bt21.2.2 then ((laws_heldInt64SS.f k bt38.2 1).bind fun bt51 => (if bt51 < 0 then some false else (if bt51 = bt40 then (some true) else some false))) else some false) else some false) else some false))))) else some false)))) else some false))))) else some false))) else some false))) else some false) else some false) else some false)))))))))))
def laws_FnExactDiffuseDither.Pure : Prop := ∀ (l0_0 : List (List Int)) (a1_0 : Int) (l1_1 : List S96) (a2 : Bool), (l0_0.length ≤ maxLen ∧ ∀ y ∈ l0_0, (y.length ≤ maxLen ∧ ∀ y_ ∈ y, (Lit.int .i64 y_).wf = true)) → (Lit.int .i64 a1_0).wf = true → (l1_1.length ≤ maxLen ∧ ∀ y ∈ l1_1, ((Lit.int .i64 y.f0).wf = true ∧ (Lit.int .i64 y.f1).wf = true ∧ (Lit.int .i64 y.f2).wf = true)) → ∃ k, laws_FnExactDiffuseDither.f k l0_0 a1_0 l1_1 a2 = some true
set_option maxHeartbeats 16000000 in
set_option maxRecDepth 100000 in
theorem laws_FnExactDiffuseDither.calls (k : Nat) (A0_0 : Option Addr) (c0_0 : Nat) (l0_0 : List (List Int)) (a1_0 : Int) (A1_1 : Option Addr) (c1_1 : Nat) (l1_1 : List S96) (a2 : Bool) (w : World) (hr0_0 : Kd.C (Kd.slice 2 (Kd.int .i64)) w A0_0 l0_0.length l0_0) (hc0_0 : l0_0.length ≤ c0_0) (hr1_1 : Kd.C k96 w A1_1 l1_1.length l1_1) (hc1_1 : l1_1.length ≤ c1_1) (h : laws_FnExactDiffuseDither.f k l0_0 a1_0 l1_1 a2 = some true) :
  Calls Try.prog 4 #[.agg #[.slice A0_0 l0_0.length c0_0], .agg #[.int .i64 a1_0, .slice A1_1 l1_1.length c1_1], .bool a2] w fun e w' => e = .returned (.bool true) ∧ Below w.heap.size w w' := by
 have HR0_0 := Aside0.mk hr0_0
 have HC0_0 := Aside0.mk hc0_0
 clear hr0_0 hc0_0
 have HR1_1 := Aside0.mk hr1_1
 have HC1_1 := Aside0.mk hc1_1
 clear hr1_1 hc1_1
 have HB := Aside0.mk (Below.refl w.heap.size w)
 have H := h
 clear h
 unfold laws_FnExactDiffuseDither.f at H
 replace H := Option.bind_eq_some_iff.mp H
 obtain ⟨t3, E10, H⟩ := H
 (try dsimp only at H)
 have E1 := Aside0.mk E10
 clear E10
 by_cases c1 : t3 < 0
 ·clear H
  have c1b : decide (t3 < 0) = true := decide_eq_true c1
  clear c1
  go_enter Try.func4, Try.ntmps4
  go_wp2_with (first | ((with_reducible refine gate_dst (N := 3) rfl ?_); refine box_event ?hg (N := 3) ?hd (cs := #[.slice A0_0 l0_0.length c0_0]) (t := 29) ?hr ?_; (case hd => rfl); (case hg => rfl); (case hr => first | (go_simp; done) | (go_simp; rfl)); intro gb1 hg w_1 hbox hb; have n0_ := Aside0.mk (below_step HB.out hb); have n1_ := Aside0.mk (hbox); have n2_ := Aside0.mk (blk_lt hbox); have n3_ := Aside0.mk (by rw [hg]; exact below_size HB.out : w.heap.size ≤ gb1); clear HB; have HB := n0_; have BKgb1 := n1_; have GUgb1 := n2_; have GEgb1 := n3_; clear n0_ n1_ n2_ n3_; clear hb hbox hg; (try clear hczgb1_0); (try clear hfzgb1_0); have hczgb1_0 : w_1.cell? ⟨gb1, 0, none⟩ = some (.slice A0_0 l0_0.length c0_0) := (blk_cell BKgb1.out 0).trans rfl; have hfzgb1_0 := blk_frozen BKgb1.out 0) | ((with_reducible refine gate_dst (N := 4) rfl ?_); refine box_event ?hg (N := 4) ?hd (cs := #[.int .i64 a1_0, .slice A1_1 l1_1.length c1_1]) (t := 32) ?hr ?_; (case hd => rfl); (case hg => rfl); (case hr => first | (go_simp; done) | (go_simp; rfl)); intro gb2 hg w_2 hbox hb; have n0_ := Aside0.mk (blk_below (g := gb1) BKgb1.out hb); have n1_ := Aside0.mk (Nat.lt_of_lt_of_le GUgb1.out hb.size); have n2_ := Aside0.mk (below_step HB.out hb); have n3_ := Aside0.mk (hbox); have n4_ := Aside0.mk (blk_lt hbox); have n5_ := Aside0.mk (by rw [hg]; exact below_size HB.out : w.heap.size ≤ gb2); have n6_ := Aside0.mk (by have := GUgb1.out; rw [← hg] at this; omega : gb1 ≠ gb2); have n7_ := Aside0.mk (by have := GUgb1.out; rw [← hg] at this; omega : gb2 ≠ gb1); clear BKgb1; clear GUgb1; clear HB; have BKgb1 := n0_; have GUgb1 := n1_; have HB := n2_; have BKgb2 := n3_; have GUgb2 := n4_; have GEgb2 := n5_; have NBgb1_gb2 := n6_; have NBgb2_gb1 := n7_; clear n0_ n1_ n2_ n3_ n4_ n5_ n6_ n7_; clear hb hbox hg; (try clear hczgb1_0); (try clear hfzgb1_0); (try clear hczgb2_0); (try clear hfzgb2_0); (try clear hczgb2_1); (try clear hfzgb2_1); have hczgb1_0 : w_2.cell? ⟨gb1, 0, none⟩ = some (.slice A0_0 l0_0.length c0_0) := (blk_cell BKgb1.out 0).trans rfl; have hfzgb1_0 := blk_frozen BKgb1.out 0; have hczgb2_0 : w_2.cell? ⟨gb2, 0, none⟩ = some (.int .i64 a1_0) := (blk_cell BKgb2.out 0).trans rfl; have hfzgb2_0 := blk_frozen BKgb2.out 0; have hczgb2_1 : w_2.cell? ⟨gb2, 1, none⟩ = some (.slice A1_1 l1_1.length c1_1) := (blk_cell BKgb2.out 1).trans rfl; have hfzgb2_1 := blk_frozen BKgb2.out 1) | ((with_reducible refine gate_callee (f := 11) rfl ?_); refine goesL_ (some 24) rfl rfl Try.func11 (by kernel_rfl) rfl #[.agg #[.slice A0_0 l0_0.length c0_0], .int .i64 1048576] rfl (by (try simp only [List.map_toArray, List.map_cons, List.map_nil]); first | done | rfl) ?_; (with_reducible refine (laws_szPicture.calls k _ _ l0_0 1048576 t3 _ ?side1 ?side2 E1.out).mono ?_); (case side1 => exact Kd.C_below HR0_0.out HB.out); (case side2 => exact HC0_0.out); rintro e w_3 ⟨rfl, hb⟩; refine ⟨_, rfl, ?_⟩; have n0_ := Aside0.mk (blk_below (g := gb1) BKgb1.out hb); have n1_ := Aside0.mk (blk_below (g := gb2) BKgb2.out hb); have n2_ := Aside0.mk (Nat.lt_of_lt_of_le GUgb1.out hb.size); have n3_ := Aside0.mk (Nat.lt_of_lt_of_le GUgb2.out hb.size); have n4_ := Aside0.mk (below_step HB.out hb); clear BKgb1; clear BKgb2; clear GUgb1; clear GUgb2; clear HB; have BKgb1 := n0_; have BKgb2 := n1_; have GUgb1 := n2_; have GUgb2 := n3_; have HB := n4_; clear n0_ n1_ n2_ n3_ n4_; clear hb; (try clear hczgb1_0); (try clear hfzgb1_0); (try clear hczgb2_0); (try clear hfzgb2_0); (try clear hczgb2_1); (try clear hfzgb2_1); have hczgb1_0 : w_3.cell? ⟨gb1, 0, none⟩ = some (.slice A0_0 l0_0.length c0_0) := (blk_cell BKgb1.out 0).trans rfl; have hfzgb1_0 := blk_frozen BKgb1.out 0; have hczgb2_0 : w_3.cell? ⟨gb2, 0, none⟩ = some (.int .i64 a1_0) := (blk_cell BKgb2.out 0).trans rfl; have hfzgb2_0 := blk_frozen BKgb2.out 0; have hczgb2_1 : w_3.cell? ⟨gb2, 1, none⟩ = some (.slice A1_1 l1_1.length c1_1) := (blk_cell BKgb2.out 1).trans rfl; have hfzgb2_1 := blk_frozen BKgb2.out 1))
  go_ret
  exact ⟨by first | rfl | (simp; done) | (simp [*]; done), HB.out⟩
 rw [if_neg c1] at H
 have c1b : decide (t3 < 0) = false := decide_eq_false c1
 clear c1
 replace H := Option.bind_eq_some_iff.mp H
 obtain ⟨t4, E30, H⟩ := H
 (try dsimp only at H)
 have E3 := Aside0.mk E30
 clear E30
 by_cases c3 : t4 < 0
 ·clear H
  have c3b : decide (t4 < 0) = true := decide_eq_true c3
  clear c3
  go_enter Try.func4, Try.ntmps4
  go_wp2_with (first | ((with_reducible refine gate_dst (N := 3) rfl ?_); refine box_event ?hg (N := 3) ?hd (cs := #[.slice A0_0 l0_0.length c0_0]) (t := 29) ?hr ?_; (case hd => rfl); (case hg => rfl); (case hr => first | (go_simp; done) | (go_simp; rfl)); intro gb1 hg w_1 hbox hb; have n0_ := Aside0.mk (below_step HB.out hb); have n1_ := Aside0.mk (hbox); have n2_ := Aside0.mk (blk_lt hbox); have n3_ := Aside0.mk (by rw [hg]; exact below_size HB.out : w.heap.size ≤ gb1); clear HB; have HB := n0_; have BKgb1 := n1_; have GUgb1 := n2_; have GEgb1 := n3_; clear n0_ n1_ n2_ n3_; clear hb hbox hg; (try clear hczgb1_0); (try clear hfzgb1_0); have hczgb1_0 : w_1.cell? ⟨gb1, 0, none⟩ = some (.slice A0_0 l0_0.length c0_0) := (blk_cell BKgb1.out 0).trans rfl; have hfzgb1_0 := blk_frozen BKgb1.out 0) | ((with_reducible refine gate_dst (N := 4) rfl ?_); refine box_event ?hg (N := 4) ?hd (cs := #[.int .i64 a1_0, .slice A1_1 l1_1.length c1_1]) (t := 32) ?hr ?_; (case hd => rfl); (case hg => rfl); (case hr => first | (go_simp; done) | (go_simp; rfl)); intro gb2 hg w_2 hbox hb; have n0_ := Aside0.mk (blk_below (g := gb1) BKgb1.out hb); have n1_ := Aside0.mk (Nat.lt_of_lt_of_le GUgb1.out hb.size); have n2_ := Aside0.mk (below_step HB.out hb); have n3_ := Aside0.mk (hbox); have n4_ := Aside0.mk (blk_lt hbox); have n5_ := Aside0.mk (by rw [hg]; exact below_size HB.out : w.heap.size ≤ gb2); have n6_ := Aside0.mk (by have := GUgb1.out; rw [← hg] at this; omega : gb1 ≠ gb2); have n7_ := Aside0.mk (by have := GUgb1.out; rw [← hg] at this; omega : gb2 ≠ gb1); clear BKgb1; clear GUgb1; clear HB; have BKgb1 := n0_; have GUgb1 := n1_; have HB := n2_; have BKgb2 := n3_; have GUgb2 := n4_; have GEgb2 := n5_; have NBgb1_gb2 := n6_; have NBgb2_gb1 := n7_; clear n0_ n1_ n2_ n3_ n4_ n5_ n6_ n7_; clear hb hbox hg; (try clear hczgb1_0); (try clear hfzgb1_0); (try clear hczgb2_0); (try clear hfzgb2_0); (try clear hczgb2_1); (try clear hfzgb2_1); have hczgb1_0 : w_2.cell? ⟨gb1, 0, none⟩ = some (.slice A0_0 l0_0.length c0_0) := (blk_cell BKgb1.out 0).trans rfl; have hfzgb1_0 := blk_frozen BKgb1.out 0; have hczgb2_0 : w_2.cell? ⟨gb2, 0, none⟩ = some (.int .i64 a1_0) := (blk_cell BKgb2.out 0).trans rfl; have hfzgb2_0 := blk_frozen BKgb2.out 0; have hczgb2_1 : w_2.cell? ⟨gb2, 1, none⟩ = some (.slice A1_1 l1_1.length c1_1) := (blk_cell BKgb2.out 1).trans rfl; have hfzgb2_1 := blk_frozen BKgb2.out 1) | ((with_reducible refine gate_callee (f := 11) rfl ?_); refine goesL_ (some 24) rfl rfl Try.func11 (by kernel_rfl) rfl #[.agg #[.slice A0_0 l0_0.length c0_0], .int .i64 1048576] rfl (by (try simp only [List.map_toArray, List.map_cons, List.map_nil]); first | done | rfl) ?_; (with_reducible refine (laws_szPicture.calls k _ _ l0_0 1048576 t3 _ ?side1 ?side2 E1.out).mono ?_); (case side1 => exact Kd.C_below HR0_0.out HB.out); (case side2 => exact HC0_0.out); rintro e w_3 ⟨rfl, hb⟩; refine ⟨_, rfl, ?_⟩; have n0_ := Aside0.mk (blk_below (g := gb1) BKgb1.out hb); have n1_ := Aside0.mk (blk_below (g := gb2) BKgb2.out hb); have n2_ := Aside0.mk (Nat.lt_of_lt_of_le GUgb1.out hb.size); have n3_ := Aside0.mk (Nat.lt_of_lt_of_le GUgb2.out hb.size); have n4_ := Aside0.mk (below_step HB.out hb); clear BKgb1; clear BKgb2; clear GUgb1; clear GUgb2; clear HB; have BKgb1 := n0_; have BKgb2 := n1_; have GUgb1 := n2_; have GUgb2 := n3_; have HB := n4_; clear n0_ n1_ n2_ n3_ n4_; clear hb; (try clear hczgb1_0); (try clear hfzgb1_0); (try clear hczgb2_0); (try clear hfzgb2_0); (try clear hczgb2_1); (try clear hfzgb2_1); have hczgb1_0 : w_3.cell? ⟨gb1, 0, none⟩ = some (.slice A0_0 l0_0.length c0_0) := (blk_cell BKgb1.out 0).trans rfl; have hfzgb1_0 := blk_frozen BKgb1.out 0; have hczgb2_0 : w_3.cell? ⟨gb2, 0, none⟩ = some (.int .i64 a1_0) := (blk_cell BKgb2.out 0).trans rfl; have hfzgb2_0 := blk_frozen BKgb2.out 0; have hczgb2_1 : w_3.cell? ⟨gb2, 1, none⟩ = some (.slice A1_1 l1_1.length c1_1) := (blk_cell BKgb2.out 1).trans rfl; have hfzgb2_1 := blk_frozen BKgb2.out 1) | ((with_reducible refine gate_callee (f := 12) rfl ?_); refine goesL_ (some 29) rfl rfl Try.func12 (by kernel_rfl) rfl #[.agg #[.int .i64 a1_0, .slice A1_1 l1_1.length c1_1], .int .i64 t3] rfl (by (try simp only [List.map_toArray, List.map_cons, List.map_nil]); first | done | rfl) ?_; (with_reducible refine (laws_szKernel.calls a1_0 _ _ l1_1 t3 t4 _ ?side1 ?side2 E3.out).mono ?_); (case side1 => exact Kd.C_below HR1_1.out HB.out); (case side2 => exact HC1_1.out); rintro e w_4 ⟨rfl, hb⟩; refine ⟨_, rfl, ?_⟩; have n0_ := Aside0.mk (blk_below (g := gb1) BKgb1.out hb); have n1_ := Aside0.mk (blk_below (g := gb2) BKgb2.out hb); have n2_ := Aside0.mk (Nat.lt_of_lt_of_le GUgb1.out hb.size); have n3_ := Aside0.mk (Nat.lt_of_lt_of_le GUgb2.out hb.size); have n4_ := Aside0.mk (below_step HB.out hb); clear BKgb1; clear BKgb2; clear GUgb1; clear GUgb2; clear HB; have BKgb1 := n0_; have BKgb2 := n1_; have GUgb1 := n2_; have GUgb2 := n3_; have HB := n4_; clear n0_ n1_ n2_ n3_ n4_; clear hb; (try clear hczgb1_0); (try clear hfzgb1_0); (try clear hczgb2_0); (try clear hfzgb2_0); (try clear hczgb2_1); (try clear hfzgb2_1); have hczgb1_0 : w_4.cell? ⟨gb1, 0, none⟩ = some (.slice A0_0 l0_0.length c0_0) := (blk_cell BKgb1.out 0).trans rfl; have hfzgb1_0 := blk_frozen BKgb1.out 0; have hczgb2_0 : w_4.cell? ⟨gb2, 0, none⟩ = some (.int .i64 a1_0) := (blk_cell BKgb2.out 0).trans rfl; have hfzgb2_0 := blk_frozen BKgb2.out 0; have hczgb2_1 : w_4.cell? ⟨gb2, 1, none⟩ = some (.slice A1_1 l1_1.length c1_1) := (blk_cell BKgb2.out 1).trans rfl; have hfzgb2_1 := blk_frozen BKgb2.out 1))
  go_ret
  exact ⟨by first | rfl | (simp; done) | (simp [*]; done), HB.out⟩
 rw [if_neg c3] at H
 have c3b : decide (t4 < 0) = false := decide_eq_false c3
 clear c3
 replace H := Option.bind_eq_some_iff.mp H
 obtain ⟨t5, E50, H⟩ := H
 (try dsimp only at H)
 have E5 := Aside0.mk E50
 clear E50
 replace H := Option.bind_eq_some_iff.mp H
 obtain ⟨⟨t7, t8⟩, E60, H⟩ := H
 (try dsimp only at H)
 have E6 := Aside0.mk E60
 clear E60
 replace H := Option.bind_eq_some_iff.mp H
 obtain ⟨⟨t10, t11, t12⟩, E70, H⟩ := H
 (try dsimp only at H)
 have E7 := Aside0.mk E70
 clear E70
 replace H := Option.bind_eq_some_iff.mp H
 obtain ⟨t14, E80, H⟩ := H
 (try dsimp only at H)
 have E8 := Aside0.mk E80
 clear E80
 replace H := Option.bind_eq_some_iff.mp H
 obtain ⟨⟨t17, t18⟩, E90, H⟩ := H
 (try dsimp only at H)
 have E9 := Aside0.mk E90
 clear E90
 replace H := Option.bind_eq_some_iff.mp H
 obtain ⟨⟨t21, t22, t23⟩, E100, H⟩ := H
 (try dsimp only at H)
 have E10 := Aside0.mk E100
 clear E100
 replace H := Option.bind_eq_some_iff.mp H
 obtain ⟨t25, E110, H⟩ := H
 (try dsimp only at H)
 have E11 := Aside0.mk E110
 clear E110
 by_cases c11 : t25 = true
 rotate_left
 ·rw [if_neg c11] at H; exact absurd H (by simp)
 rw [if_pos c11] at H
 subst c11
 by_cases c12 : t22 = t11
 rotate_left
 ·rw [if_neg c12] at H; exact absurd H (by simp)
 rw [if_pos c12] at H
 subst c12
 by_cases c13 : t23 = t12
 rotate_left
 ·rw [if_neg c13] at H; exact absurd H (by simp)
 rw [if_pos c13] at H
 subst c13
 replace H := Option.bind_eq_some_iff.mp H
 obtain ⟨t26, E150, H⟩ := H
 (try dsimp only at H)
 have E15 := Aside0.mk E150
 clear E150
 replace H := Option.bind_eq_some_iff.mp H
 obtain ⟨t28, E160, H⟩ := H
 (try dsimp only at H)
 have E16 := Aside0.mk E160
 clear E160
 by_cases c16 : t28 = true
 rotate_left
 ·rw [if_neg c16] at H; exact absurd H (by simp)
 rw [if_pos c16] at H
 subst c16
 replace H := Option.bind_eq_some_iff.mp H
 obtain ⟨⟨t29, t30⟩, E180, H⟩ := H
 (try dsimp only at H)
 have E18 := Aside0.mk E180
 clear E180
 replace H := Option.bind_eq_some_iff.mp H
 obtain ⟨t32, E190, H⟩ := H
 (try dsimp only at H)
 have E19 := Aside0.mk E190
 clear E190
 by_cases c19 : t32 = true
 rotate_left
 ·rw [if_neg c19] at H; exact absurd H (by simp)
 rw [if_pos c19] at H
 subst c19
 replace H := Option.bind_eq_some_iff.mp H
 obtain ⟨⟨t33, t34⟩, E210, H⟩ := H
 (try dsimp only at H)
 have E21 := Aside0.mk E210
 clear E210
 replace H := Option.bind_eq_some_iff.mp H
 obtain ⟨⟨t35, t36⟩, E220, H⟩ := H
 (try dsimp only at H)
 have E22 := Aside0.mk E220
 clear E220
 by_cases c22 : t35 < 0
 ·rw [if_pos c22] at H; exact absurd H (by simp)
 rw [if_neg c22] at H
 have c22b : decide (t35 < 0) = false := decide_eq_false c22
 clear c22
 replace H := Option.bind_eq_some_iff.mp H
 obtain ⟨t37, E240, H⟩ := H
 (try dsimp only at H)
 have E24 := Aside0.mk E240
 clear E240
 by_cases c24 : t37 = true
 rotate_left
 ·rw [if_neg c24] at H; exact absurd H (by simp)
 rw [if_pos c24] at H
 subst c24
 replace H := Option.bind_eq_some_iff.mp H
 obtain ⟨⟨t38, t39⟩, E260, H⟩ := H
 (try dsimp only at H)
 have E26 := Aside0.mk E260
 clear E260
 replace H := Option.bind_eq_some_iff.mp H
 obtain ⟨t40, E270, H⟩ := H
 (try dsimp only at H)
 have E27 := Aside0.mk E270
 clear E270
 by_cases c27 : t40 < 0
 ·rw [if_pos c27] at H; exact absurd H (by simp)
 rw [if_neg c27] at H
 have c27b : decide (t40 < 0) = false := decide_eq_false c27
 clear c27
 by_cases c28 : t40 = t38
 rotate_left
 ·rw [if_neg c28] at H; exact absurd H (by simp)
 rw [if_pos c28] at H
 subst c28
 replace H := Option.bind_eq_some_iff.mp H
 obtain ⟨t41, E300, H⟩ := H
 (try dsimp only at H)
 have E30 := Aside0.mk E300
 clear E300
 replace H := Option.bind_eq_some_iff.mp H
 obtain ⟨⟨t43, t44⟩, E310, H⟩ := H
 (try dsimp only at H)
 have E31 := Aside0.mk E310
 clear E310
 replace H := Option.bind_eq_some_iff.mp H
 obtain ⟨⟨t46, t47, t48⟩, E320, H⟩ := H
 (try dsimp only at H)
 have E32 := Aside0.mk E320
 clear E320
 replace H := Option.bind_eq_some_iff.mp H
 obtain ⟨t50, E330, H⟩ := H
 (try dsimp only at H)
 have E33 := Aside0.mk E330
 clear E330
 by_cases c33 : t50 = true
 rotate_left
 ·rw [if_neg c33] at H; exact absurd H (by simp)
 rw [if_pos c33] at H
 subst c33
 by_cases c34 : t47 = t22
 rotate_left
 ·rw [if_neg c34] at H; exact absurd H (by simp)
 rw [if_pos c34] at H
 subst c34
 by_cases c35 : t48 = t23
 rotate_left
 ·rw [if_neg c35] at H; exact absurd H (by simp)
 rw [if_pos c35] at H
 subst c35
 replace H := Option.bind_eq_some_iff.mp H
 obtain ⟨t51, E370, H⟩ := H
 (try dsimp only at H)
 have E37 := Aside0.mk E370
 clear E370
 by_cases c37 : t51 < 0
 ·rw [if_pos c37] at H; exact absurd H (by simp)
 rw [if_neg c37] at H
 have c37b : decide (t51 < 0) = false := decide_eq_false c37
 clear c37
 by_cases c38 : t51 = t40
 rotate_left
 ·rw [if_neg c38] at H; exact absurd H (by simp)
 rw [if_pos c38] at H
 subst c38
 clear H
 go_enter Try.func4, Try.ntmps4
 go_wp2_with (first | ((with_reducible refine gate_dst (N := 3) rfl ?_); refine box_event ?hg (N := 3) ?hd (cs := #[.slice A0_0 l0_0.length c0_0]) (t := 29) ?hr ?_; (case hd => rfl); (case hg => rfl); (case hr => first | (go_simp; done) | (go_simp; rfl)); intro gb1 hg w_1 hbox hb; have n0_ := Aside0.mk (below_step HB.out hb); have n1_ := Aside0.mk (hbox); have n2_ := Aside0.mk (blk_lt hbox); have n3_ := Aside0.mk (by rw [hg]; exact below_size HB.out : w.heap.size ≤ gb1); clear HB; have HB := n0_; have BKgb1 := n1_; have GUgb1 := n2_; have GEgb1 := n3_; clear n0_ n1_ n2_ n3_; clear hb hbox hg; (try clear hczgb1_0); (try clear hfzgb1_0); have hczgb1_0 : w_1.cell? ⟨gb1, 0, none⟩ = some (.slice A0_0 l0_0.length c0_0) := (blk_cell BKgb1.out 0).trans rfl; have hfzgb1_0 := blk_frozen BKgb1.out 0) | ((with_reducible refine gate_dst (N := 4) rfl ?_); refine box_event ?hg (N := 4) ?hd (cs := #[.int .i64 a1_0, .slice A1_1 l1_1.length c1_1]) (t := 32) ?hr ?_; (case hd => rfl); (case hg => rfl); (case hr => first | (go_simp; done) | (go_simp; rfl)); intro gb2 hg w_2 hbox hb; have n0_ := Aside0.mk (blk_below (g := gb1) BKgb1.out hb); have n1_ := Aside0.mk (Nat.lt_of_lt_of_le GUgb1.out hb.size); have n2_ := Aside0.mk (below_step HB.out hb); have n3_ := Aside0.mk (hbox); have n4_ := Aside0.mk (blk_lt hbox); have n5_ := Aside0.mk (by rw [hg]; exact below_size HB.out : w.heap.size ≤ gb2); have n6_ := Aside0.mk (by have := GUgb1.out; rw [← hg] at this; omega : gb1 ≠ gb2); have n7_ := Aside0.mk (by have := GUgb1.out; rw [← hg] at this; omega : gb2 ≠ gb1); clear BKgb1; clear GUgb1; clear HB; have BKgb1 := n0_; have GUgb1 := n1_; have HB := n2_; have BKgb2 := n3_; have GUgb2 := n4_; have GEgb2 := n5_; have NBgb1_gb2 := n6_; have NBgb2_gb1 := n7_; clear n0_ n1_ n2_ n3_ n4_ n5_ n6_ n7_; clear hb hbox hg; (try clear hczgb1_0); (try clear hfzgb1_0); (try clear hczgb2_0); (try clear hfzgb2_0); (try clear hczgb2_1); (try clear hfzgb2_1); have hczgb1_0 : w_2.cell? ⟨gb1, 0, none⟩ = some (.slice A0_0 l0_0.length c0_0) := (blk_cell BKgb1.out 0).trans rfl; have hfzgb1_0 := blk_frozen BKgb1.out 0; have hczgb2_0 : w_2.cell? ⟨gb2, 0, none⟩ = some (.int .i64 a1_0) := (blk_cell BKgb2.out 0).trans rfl; have hfzgb2_0 := blk_frozen BKgb2.out 0; have hczgb2_1 : w_2.cell? ⟨gb2, 1, none⟩ = some (.slice A1_1 l1_1.length c1_1) := (blk_cell BKgb2.out 1).trans rfl; have hfzgb2_1 := blk_frozen BKgb2.out 1) | ((with_reducible refine gate_callee (f := 11) rfl ?_); refine goesL_ (some 24) rfl rfl Try.func11 (by kernel_rfl) rfl #[.agg #[.slice A0_0 l0_0.length c0_0], .int .i64 1048576] rfl (by (try simp only [List.map_toArray, List.map_cons, List.map_nil]); first | done | rfl) ?_; (with_reducible refine (laws_szPicture.calls k _ _ l0_0 1048576 t3 _ ?side1 ?side2 E1.out).mono ?_); (case side1 => exact Kd.C_below HR0_0.out HB.out); (case side2 => exact HC0_0.out); rintro e w_3 ⟨rfl, hb⟩; refine ⟨_, rfl, ?_⟩; have n0_ := Aside0.mk (blk_below (g := gb1) BKgb1.out hb); have n1_ := Aside0.mk (blk_below (g := gb2) BKgb2.out hb); have n2_ := Aside0.mk (Nat.lt_of_lt_of_le GUgb1.out hb.size); have n3_ := Aside0.mk (Nat.lt_of_lt_of_le GUgb2.out hb.size); have n4_ := Aside0.mk (below_step HB.out hb); clear BKgb1; clear BKgb2; clear GUgb1; clear GUgb2; clear HB; have BKgb1 := n0_; have BKgb2 := n1_; have GUgb1 := n2_; have GUgb2 := n3_; have HB := n4_; clear n0_ n1_ n2_ n3_ n4_; clear hb; (try clear hczgb1_0); (try clear hfzgb1_0); (try clear hczgb2_0); (try clear hfzgb2_0); (try clear hczgb2_1); (try clear hfzgb2_1); have hczgb1_0 : w_3.cell? ⟨gb1, 0, none⟩ = some (.slice A0_0 l0_0.length c0_0) := (blk_cell BKgb1.out 0).trans rfl; have hfzgb1_0 := blk_frozen BKgb1.out 0; have hczgb2_0 : w_3.cell? ⟨gb2, 0, none⟩ = some (.int .i64 a1_0) := (blk_cell BKgb2.out 0).trans rfl; have hfzgb2_0 := blk_frozen BKgb2.out 0; have hczgb2_1 : w_3.cell? ⟨gb2, 1, none⟩ = some (.slice A1_1 l1_1.length c1_1) := (blk_cell BKgb2.out 1).trans rfl; have hfzgb2_1 := blk_frozen BKgb2.out 1) | ((with_reducible refine gate_callee (f := 12) rfl ?_); refine goesL_ (some 29) rfl rfl Try.func12 (by kernel_rfl) rfl #[.agg #[.int .i64 a1_0, .slice A1_1 l1_1.length c1_1], .int .i64 t3] rfl (by (try simp only [List.map_toArray, List.map_cons, List.map_nil]); first | done | rfl) ?_; (with_reducible refine (laws_szKernel.calls a1_0 _ _ l1_1 t3 t4 _ ?side1 ?side2 E3.out).mono ?_); (case side1 => exact Kd.C_below HR1_1.out HB.out); (case side2 => exact HC1_1.out); rintro e w_4 ⟨rfl, hb⟩; refine ⟨_, rfl, ?_⟩; have n0_ := Aside0.mk (blk_below (g := gb1) BKgb1.out hb); have n1_ := Aside0.mk (blk_below (g := gb2) BKgb2.out hb); have n2_ := Aside0.mk (Nat.lt_of_lt_of_le GUgb1.out hb.size); have n3_ := Aside0.mk (Nat.lt_of_lt_of_le GUgb2.out hb.size); have n4_ := Aside0.mk (below_step HB.out hb); clear BKgb1; clear BKgb2; clear GUgb1; clear GUgb2; clear HB; have BKgb1 := n0_; have BKgb2 := n1_; have GUgb1 := n2_; have GUgb2 := n3_; have HB := n4_; clear n0_ n1_ n2_ n3_ n4_; clear hb; (try clear hczgb1_0); (try clear hfzgb1_0); (try clear hczgb2_0); (try clear hfzgb2_0); (try clear hczgb2_1); (try clear hfzgb2_1); have hczgb1_0 : w_4.cell? ⟨gb1, 0, none⟩ = some (.slice A0_0 l0_0.length c0_0) := (blk_cell BKgb1.out 0).trans rfl; have hfzgb1_0 := blk_frozen BKgb1.out 0; have hczgb2_0 : w_4.cell? ⟨gb2, 0, none⟩ = some (.int .i64 a1_0) := (blk_cell BKgb2.out 0).trans rfl; have hfzgb2_0 := blk_frozen BKgb2.out 0; have hczgb2_1 : w_4.cell? ⟨gb2, 1, none⟩ = some (.slice A1_1 l1_1.length c1_1) := (blk_cell BKgb2.out 1).trans rfl; have hfzgb2_1 := blk_frozen BKgb2.out 1))
 have n0_ := Aside0.mk (blk_drew BKgb1.out)
 have n1_ := Aside0.mk (blk_drew BKgb2.out)
 have n2_ := Aside0.mk (show gb1 < w_4.drew.heap.size from GUgb1.out)
 have n3_ := Aside0.mk (show gb2 < w_4.drew.heap.size from GUgb2.out)
 have n4_ := Aside0.mk (below_drew1 HB.out)
 clear BKgb1
 clear BKgb2
 clear GUgb1
 clear GUgb2
 clear HB
 have BKgb1 := n0_
 have BKgb2 := n1_
 have GUgb1 := n2_
 have GUgb2 := n3_
 have HB := n4_
 clear n0_ n1_ n2_ n3_ n4_
 (try clear hczgb1_0); (try clear hfzgb1_0)
 (try clear hczgb2_0); (try clear hfzgb2_0)
 (try clear hczgb2_1); (try clear hfzgb2_1)
 refine start_ (n := 13) (S := fun w' => w'.cell? ⟨gb1, 0, none⟩ = some (.slice A0_0 l0_0.length c0_0) ∧ w'.cell? ⟨gb2, 0, none⟩ = some (.int .i64 a1_0) ∧ w'.cell? ⟨gb2, 1, none⟩ = some (.slice A1_1 l1_1.length c1_1)) (ds := []) #[false, false, false, false, false, false, false, false, false, false, false, false, false] (by kernel_rfl) rfl rfl ⟨(blk_cell BKgb1.out 0).trans rfl, (blk_cell BKgb2.out 0).trans rfl, (blk_cell BKgb2.out 1).trans rfl⟩ (fun hHeld => ?_)
 generalize w_4.drew = w_5 at BKgb1 BKgb2 GUgb1 GUgb2 HB hHeld ⊢
 refine take_ (i := 0) (N := some 33) (v := ?_) (a' := ?_) #[true, false, false, false, false, false, false, false, false, false, false, false, false] rfl rfl (by kernel_rfl) (fun _ _ _ h => h) (Or.inl ⟨by rfl, ?_⟩) hHeld ?_ ?_
 rotate_left
 ·rintro w' ⟨s0, s1, s2⟩
  go_simp
  with_reducible rfl
 rotate_left
 ·simp only [Act.put, List.setIfInBounds_toArray, List.set_cons_zero, List.set_cons_succ, i64_w, i32_w]
  rfl
 refine take_ (i := 2) (N := some 35) (v := ?_) (a' := ?_) #[true, false, true, false, false, false, false, false, false, false, false, false, false] rfl rfl (by kernel_rfl) (fun _ _ _ h => h) (Or.inl ⟨by rfl, ?_⟩) hHeld ?_ ?_
 rotate_left
 ·rintro w' ⟨s0, s1, s2⟩
  go_simp
  with_reducible rfl
 rotate_left
 ·simp only [Act.put, List.setIfInBounds_toArray, List.set_cons_zero, List.set_cons_succ, i64_w, i32_w]
  rfl
 refine pure_ (i := 4) (N := some 37) (v := ?_) (a' := ?_) #[true, false, true, false, true, false, false, false, false, false, false, false, false] rfl rfl (by kernel_rfl) (fun _ _ _ h => h) (Or.inl ⟨by rfl, ?_⟩) ?_ ?_
 rotate_left
 ·intro w'
  go_simp
  with_reducible rfl
 rotate_left
 ·simp only [Act.put, List.setIfInBounds_toArray, List.set_cons_zero, List.set_cons_succ, i64_w, i32_w]
  rfl
 refine one_ (i := 1) (N := some 34) #[true, true, true, false, true, false, false, false, false, false, false, false, false] rfl rfl (by kernel_rfl) (by decide) (fun K hK => ?_)
 refine goes_ Try.func14 (by kernel_rfl) rfl #[.agg #[.slice A0_0 l0_0.length c0_0]] (by rfl) rfl rfl (by (try simp only [List.map_toArray, List.map_cons, List.map_nil]); first | done | rfl) ?_
 (with_reducible refine (laws_toPicture.calls k _ _ l0_0 t5 _ ?side1 ?side2 E5.out).mono ?_)
 (case side1 => exact Kd.C_below HR0_0.out HB.out)
 (case side2 => exact HC0_0.out)
 rintro e w_6 ⟨vR6, rfl, hoR6, hb⟩
 refine ⟨_, rfl, ?_⟩
 obtain ⟨loR6, hloR6⟩ : ∃ n_ : Nat, n_ = w_5.heap.size := ⟨_, rfl⟩
 obtain ⟨hiR6, hhiR6⟩ : ∃ n_ : Nat, n_ = w_6.heap.size := ⟨_, rfl⟩
 have n0_ := Aside0.mk (blk_below (g := gb1) BKgb1.out hb)
 have n1_ := Aside0.mk (blk_below (g := gb2) BKgb2.out hb)
 have n2_ := Aside0.mk (Nat.lt_of_lt_of_le GUgb1.out hb.size)
 have n3_ := Aside0.mk (Nat.lt_of_lt_of_le GUgb2.out hb.size)
 have n4_ := Aside0.mk (below_step HB.out hb)
 have n5_ := Aside0.mk (Kd.S_lower (Kd.S_mono (ok' := fun k_ => loR6 ≤ k_ ∧ k_ < hiR6) (Kd.S_bound hoR6) (fun k_ hk_ => ⟨by rw [hloR6]; exact hk_.2.1, by rw [hhiR6]; exact hk_.2.2.1⟩)) (below_size HB.out))
 have n6_ := Aside0.mk (by rw [hhiR6]; exact Nat.le_refl _ : hiR6 ≤ w_6.heap.size)
 have n7_ := Aside0.mk (fun k_ hk_ => by have := GUgb1.out; rw [← hloR6] at this; omega : ∀ k_, loR6 ≤ k_ ∧ k_ < hiR6 → k_ ≠ gb1)
 have n8_ := Aside0.mk (fun k_ hk_ => by have := GUgb2.out; rw [← hloR6] at this; omega : ∀ k_, loR6 ≤ k_ ∧ k_ < hiR6 → k_ ≠ gb2)
 clear BKgb1
 clear BKgb2
 clear GUgb1
 clear GUgb2
 clear HB
 have BKgb1 := n0_
 have BKgb2 := n1_
 have GUgb1 := n2_
 have GUgb2 := n3_
 have HB := n4_
 have HOR6 := n5_
 have UPR6 := n6_
 have NER6_gb1 := n7_
 have NER6_gb2 := n8_
 clear n0_ n1_ n2_ n3_ n4_ n5_ n6_ n7_ n8_
 clear hb
 clear hoR6 hloR6 hhiR6
 obtain ⟨AR6, cR6, eqR6⟩ := Kd.S_slice HOR6.out
 subst eqR6
 refine hK.out _ _ ⟨(blk_cell BKgb1.out 0).trans rfl, (blk_cell BKgb2.out 0).trans rfl, (blk_cell BKgb2.out 1).trans rfl⟩ (fun hHeld => ?_)
 clear hK K
 refine norm_ (a' := ?_) ?_ ?_
 rotate_left
 ·show Act.put _ (some 34) _ = _
  simp only [Act.put, List.setIfInBounds_toArray, List.set_cons_zero, List.set_cons_succ, i64_w, i32_w]
  rfl
 refine one_ (i := 3) (N := some 36) #[true, true, true, true, true, false, false, false, false, false, false, false, false] rfl rfl (by kernel_rfl) (by decide) (fun K hK => ?_)
 refine goes_ Try.func15 (by kernel_rfl) rfl #[.agg #[.int .i64 a1_0, .slice A1_1 l1_1.length c1_1]] (by rfl) rfl rfl (by (try simp only [List.map_toArray, List.map_cons, List.map_nil]); first | done | rfl) ?_
 (with_reducible refine (laws_toKernel.calls k a1_0 _ _ l1_1 t7 t8 _ ?side1 ?side2 E6.out).mono ?_)
 (case side1 => exact Kd.C_below HR1_1.out HB.out)
 (case side2 => exact HC1_1.out)
 rintro e w_7 ⟨vR9, rfl, hoR9, hb⟩
 refine ⟨_, rfl, ?_⟩
 obtain ⟨loR9, hloR9⟩ : ∃ n_ : Nat, n_ = w_6.heap.size := ⟨_, rfl⟩
 obtain ⟨hiR9, hhiR9⟩ : ∃ n_ : Nat, n_ = w_7.heap.size := ⟨_, rfl⟩
 have n0_ := Aside0.mk (Kd.S_below HOR6.out hb)
 have n1_ := Aside0.mk (Nat.le_trans UPR6.out hb.size)
 have n2_ := Aside0.mk (blk_below (g := gb1) BKgb1.out hb)
 have n3_ := Aside0.mk (blk_below (g := gb2) BKgb2.out hb)
 have n4_ := Aside0.mk (Nat.lt_of_lt_of_le GUgb1.out hb.size)
 have n5_ := Aside0.mk (Nat.lt_of_lt_of_le GUgb2.out hb.size)
 have n6_ := Aside0.mk (below_step HB.out hb)
 have n7_ := Aside0.mk (Kd.R_lower (Kd.R_mono (ok' := fun k_ => loR9 ≤ k_ ∧ k_ < hiR9) (Kd.R_bound hoR9) (fun k_ hk_ => ⟨by rw [hloR9]; exact hk_.2.1, by rw [hhiR9]; exact hk_.2.2.1⟩)) (below_size HB.out))
 have n8_ := Aside0.mk (by rw [hhiR9]; exact Nat.le_refl _ : hiR9 ≤ w_7.heap.size)
 have n9_ := Aside0.mk (fun k_ h1_ h2_ => by have := UPR6.out; rw [← hloR9] at this; omega : ∀ k_, loR6 ≤ k_ ∧ k_ < hiR6 → ¬ (loR9 ≤ k_ ∧ k_ < hiR9))
 have n10_ := Aside0.mk (fun k_ h1_ h2_ => by have := UPR6.out; rw [← hloR9] at this; omega : ∀ k_, loR9 ≤ k_ ∧ k_ < hiR9 → ¬ (loR6 ≤ k_ ∧ k_ < hiR6))
 have n11_ := Aside0.mk (fun k_ hk_ => by have := GUgb1.out; rw [← hloR9] at this; omega : ∀ k_, loR9 ≤ k_ ∧ k_ < hiR9 → k_ ≠ gb1)
 have n12_ := Aside0.mk (fun k_ hk_ => by have := GUgb2.out; rw [← hloR9] at this; omega : ∀ k_, loR9 ≤ k_ ∧ k_ < hiR9 → k_ ≠ gb2)
 clear HOR6
 clear UPR6
 clear BKgb1
 clear BKgb2
 clear GUgb1
 clear GUgb2
 clear HB
 have HOR6 := n0_
 have UPR6 := n1_
 have BKgb1 := n2_
 have BKgb2 := n3_
 have GUgb1 := n4_
 have GUgb2 := n5_
 have HB := n6_
 have HOR9 := n7_
 have UPR9 := n8_
 have NRR6_R9 := n9_
 have NRR9_R6 := n10_
 have NER9_gb1 := n11_
 have NER9_gb2 := n12_
 clear n0_ n1_ n2_ n3_ n4_ n5_ n6_ n7_ n8_ n9_ n10_ n11_ n12_
 clear hb
 clear hoR9 hloR9 hhiR9
 obtain ⟨AR9, cR9, eqR9⟩ := Kd.R_slice HOR9.out
 subst eqR9
 refine hK.out _ _ ⟨(blk_cell BKgb1.out 0).trans rfl, (blk_cell BKgb2.out 0).trans rfl, (blk_cell BKgb2.out 1).trans rfl⟩ (fun hHeld => ?_)
 clear hK K
 refine norm_ (a' := ?_) ?_ ?_
 rotate_left
 ·show Act.put _ (some 36) _ = _
  simp only [Act.put, List.setIfInBounds_toArray, List.set_cons_zero, List.set_cons_succ, i64_w, i32_w]
  rfl
 refine one_ (i := 5) (N := some 38) #[true, true, true, true, true, true, false, false, false, false, false, false, false] rfl rfl (by kernel_rfl) (by decide) (fun K hK => ?_)
 refine goes_ Try.func13 (by kernel_rfl) rfl #[.agg #[.slice AR6 t5.length cR6], .agg #[.int .i64 t7, .slice AR9 t8.length cR9], .bool a2] (by rfl) rfl rfl (by (try simp only [List.map_toArray, List.map_cons, List.map_nil]); first | done | rfl) ?_
 (with_reducible refine (spec_DiffuseDither.calls k _ _ t5 t7 _ _ t8 a2 t10 t47 t48 _ ?side1 ?side2 ?side3 ?side4 E7.out).mono ?_)
 (case side1 => exact (Kd.S_reads' HOR6.out).2.2)
 (case side2 => exact (Kd.S_reads' HOR6.out).2.1)
 (case side3 => exact (Kd.R_reads' HOR9.out).2.2)
 (case side4 => exact (Kd.R_reads' HOR9.out).2.1)
 rintro e w_8 ⟨vR13, rfl, hoR13, hb⟩
 refine ⟨_, rfl, ?_⟩
 obtain ⟨loR13, hloR13⟩ : ∃ n_ : Nat, n_ = w_7.heap.size := ⟨_, rfl⟩
 obtain ⟨hiR13, hhiR13⟩ : ∃ n_ : Nat, n_ = w_8.heap.size := ⟨_, rfl⟩
 have n0_ := Aside0.mk (Kd.S_below HOR6.out hb)
 have n1_ := Aside0.mk (Kd.R_below HOR9.out hb)
 have n2_ := Aside0.mk (Nat.le_trans UPR6.out hb.size)
 have n3_ := Aside0.mk (Nat.le_trans UPR9.out hb.size)
 have n4_ := Aside0.mk (blk_below (g := gb1) BKgb1.out hb)
 have n5_ := Aside0.mk (blk_below (g := gb2) BKgb2.out hb)
 have n6_ := Aside0.mk (Nat.lt_of_lt_of_le GUgb1.out hb.size)
 have n7_ := Aside0.mk (Nat.lt_of_lt_of_le GUgb2.out hb.size)
 have n8_ := Aside0.mk (below_step HB.out hb)
 have n9_ := Aside0.mk (Kd.S_lower (Kd.S_mono (ok' := fun k_ => loR13 ≤ k_ ∧ k_ < hiR13) (Kd.S_bound hoR13) (fun k_ hk_ => ⟨by rw [hloR13]; exact hk_.2.1, by rw [hhiR13]; exact hk_.2.2.1⟩)) (below_size HB.out))
 have n10_ := Aside0.mk (by rw [hhiR13]; exact Nat.le_refl _ : hiR13 ≤ w_8.heap.size)
 have n11_ := Aside0.mk (fun k_ h1_ h2_ => by have := UPR6.out; rw [← hloR13] at this; omega : ∀ k_, loR6 ≤ k_ ∧ k_ < hiR6 → ¬ (loR13 ≤ k_ ∧ k_ < hiR13))
 have n12_ := Aside0.mk (fun k_ h1_ h2_ => by have := UPR6.out; rw [← hloR13] at this; omega : ∀ k_, loR13 ≤ k_ ∧ k_ < hiR13 → ¬ (loR6 ≤ k_ ∧ k_ < hiR6))
 have n13_ := Aside0.mk (fun k_ h1_ h2_ => by have := UPR9.out; rw [← hloR13] at this; omega : ∀ k_, loR9 ≤ k_ ∧ k_ < hiR9 → ¬ (loR13 ≤ k_ ∧ k_ < hiR13))
 have n14_ := Aside0.mk (fun k_ h1_ h2_ => by have := UPR9.out; rw [← hloR13] at this; omega : ∀ k_, loR13 ≤ k_ ∧ k_ < hiR13 → ¬ (loR9 ≤ k_ ∧ k_ < hiR9))
 have n15_ := Aside0.mk (fun k_ hk_ => by have := GUgb1.out; rw [← hloR13] at this; omega : ∀ k_, loR13 ≤ k_ ∧ k_ < hiR13 → k_ ≠ gb1)
 have n16_ := Aside0.mk (fun k_ hk_ => by have := GUgb2.out; rw [← hloR13] at this; omega : ∀ k_, loR13 ≤ k_ ∧ k_ < hiR13 → k_ ≠ gb2)
 clear HOR6
 clear HOR9
 clear UPR6
 clear UPR9
 clear BKgb1
 clear BKgb2
 clear GUgb1
 clear GUgb2
 clear HB
 have HOR6 := n0_
 have HOR9 := n1_
 have UPR6 := n2_
 have UPR9 := n3_
 have BKgb1 := n4_
 have BKgb2 := n5_
 have GUgb1 := n6_
 have GUgb2 := n7_
 have HB := n8_
 have HOR13 := n9_
 have UPR13 := n10_
 have NRR6_R13 := n11_
 have NRR13_R6 := n12_
 have NRR9_R13 := n13_
 have NRR13_R9 := n14_
 have NER13_gb1 := n15_
 have NER13_gb2 := n16_
 clear n0_ n1_ n2_ n3_ n4_ n5_ n6_ n7_ n8_ n9_ n10_ n11_ n12_ n13_ n14_ n15_ n16_
 clear hb
 clear hoR13 hloR13 hhiR13
 obtain ⟨AR13, cR13, eqR13⟩ := Kd.S_slice HOR13.out
 subst eqR13
 refine hK.out _ _ ⟨(blk_cell BKgb1.out 0).trans rfl, (blk_cell BKgb2.out 0).trans rfl, (blk_cell BKgb2.out 1).trans rfl⟩ (fun hHeld => ?_)
 clear hK K
 refine norm_ (a' := ?_) ?_ ?_
 rotate_left
 ·show Act.put _ (some 38) _ = _
  simp only [Act.put, List.setIfInBounds_toArray, List.set_cons_zero, List.set_cons_succ, i64_w, i32_w]
  rfl
 refine pure_ (i := 6) (N := some 32) (v := ?_) (a' := ?_) #[true, true, true, true, true, true, true, false, false, false, false, false, false] rfl rfl (by kernel_rfl) (fun _ _ _ h => h) (Or.inl ⟨by rfl, ?_⟩) ?_ ?_
 rotate_left
 ·intro w'
  go_simp
  with_reducible rfl
 rotate_left
 ·simp only [Act.put, List.setIfInBounds_toArray, List.set_cons_zero, List.set_cons_succ, i64_w, i32_w]
  rfl
 refine pure_ (i := 7) (N := some 39) (v := ?_) (a' := ?_) #[true, true, true, true, true, true, true, true, false, false, false, false, false] rfl rfl (by kernel_rfl) (fun _ _ _ h => h) (Or.inl ⟨by rfl, ?_⟩) ?_ ?_
 rotate_left
 ·intro w'
  go_simp
  with_reducible rfl
 rotate_left
 ·simp only [Act.put, List.setIfInBounds_toArray, List.set_cons_zero, List.set_cons_succ, i64_w, i32_w]
  rfl
 refine pure_ (i := 8) (N := some 40) (v := ?_) (a' := ?_) #[true, true, true, true, true, true, true, true, true, false, false, false, false] rfl rfl (by kernel_rfl) (fun _ _ _ h => h) (Or.inl ⟨by rfl, ?_⟩) ?_ ?_
 rotate_left
 ·intro w'
  go_simp
  with_reducible rfl
 rotate_left
 ·simp only [Act.put, List.setIfInBounds_toArray, List.set_cons_zero, List.set_cons_succ, i64_w, i32_w]
  rfl
 refine pure_ (i := 9) (N := some 41) (v := ?_) (a' := ?_) #[true, true, true, true, true, true, true, true, true, true, false, false, false] rfl rfl (by kernel_rfl) (fun _ _ _ h => h) (Or.inl ⟨by rfl, ?_⟩) ?_ ?_
 rotate_left
 ·intro w'
  go_simp
  with_reducible rfl
 rotate_left
 ·simp only [Act.put, List.setIfInBounds_toArray, List.set_cons_zero, List.set_cons_succ, i64_w, i32_w]
  rfl
 refine pure_ (i := 10) (N := some 8) (v := ?_) (a' := ?_) #[true, true, true, true, true, true, true, true, true, true, true, false, false] rfl rfl (by kernel_rfl) (fun _ _ _ h => h) (Or.inl ⟨by rfl, ?_⟩) ?_ ?_
 rotate_left
 ·intro w'
  go_simp
  with_reducible rfl
 rotate_left
 ·simp only [Act.put, List.setIfInBounds_toArray, List.set_cons_zero, List.set_cons_succ, i64_w, i32_w]
  rfl
 refine pure_ (i := 11) (N := some 9) (v := ?_) (a' := ?_) #[true, true, true, true, true, true, true, true, true, true, true, true, false] rfl rfl (by kernel_rfl) (fun _ _ _ h => h) (Or.inl ⟨by rfl, ?_⟩) ?_ ?_
 rotate_left
 ·intro w'
  go_simp
  with_reducible rfl
 rotate_left
 ·simp only [Act.put, List.setIfInBounds_toArray, List.set_cons_zero, List.set_cons_succ, i64_w, i32_w]
  rfl
 refine pure_ (i := 12) (N := some 10) (v := ?_) (a' := ?_) #[true, true, true, true, true, true, true, true, true, true, true, true, true] rfl rfl (by kernel_rfl) (fun _ _ _ h => h) (Or.inl ⟨by rfl, ?_⟩) ?_ ?_
 rotate_left
 ·intro w'
  go_simp
  with_reducible rfl
 rotate_left
 ·simp only [Act.put, List.setIfInBounds_toArray, List.set_cons_zero, List.set_cons_succ, i64_w, i32_w]
  rfl
 refine done_ (by kernel_rfl) ?_
 (try clear hczgb1_0)
 (try clear hfzgb1_0)
 (try clear hczgb2_0)
 (try clear hfzgb2_0)
 (try clear hczgb2_1)
 (try clear hfzgb2_1)
 have hczgb1_0 : w_8.cell? ⟨gb1, 0, none⟩ = some (.slice A0_0 l0_0.length c0_0) := (blk_cell BKgb1.out 0).trans rfl
 have hfzgb1_0 := blk_frozen BKgb1.out 0
 have hczgb2_0 : w_8.cell? ⟨gb2, 0, none⟩ = some (.int .i64 a1_0) := (blk_cell BKgb2.out 0).trans rfl
 have hfzgb2_0 := blk_frozen BKgb2.out 0
 have hczgb2_1 : w_8.cell? ⟨gb2, 1, none⟩ = some (.slice A1_1 l1_1.length c1_1) := (blk_cell BKgb2.out 1).trans rfl
 have hfzgb2_1 := blk_frozen BKgb2.out 1
 go_wp2_with (first | ((with_reducible refine gate_callee (f := 14) rfl ?_); refine goesL_ (some 43) rfl rfl Try.func14 (by kernel_rfl) rfl #[.agg #[.slice A0_0 l0_0.length c0_0]] rfl (by (try simp only [List.map_toArray, List.map_cons, List.map_nil]); first | done | rfl) ?_; have HWM := HB; have HBM := Aside0.mk (Below.refl w_8.heap.size w_8); (with_reducible refine (laws_toPicture.calls k _ _ l0_0 t14 _ ?side1 ?side2 E8.out).mono ?_); (case side1 => exact Kd.C_below HR0_0.out HB.out); (case side2 => exact HC0_0.out); rintro e w_9 ⟨vR15, rfl, hoR15, hb⟩; refine ⟨_, rfl, ?_⟩; obtain ⟨loR15, hloR15⟩ : ∃ n_ : Nat, n_ = w_8.heap.size := ⟨_, rfl⟩; obtain ⟨hiR15, hhiR15⟩ : ∃ n_ : Nat, n_ = w_9.heap.size := ⟨_, rfl⟩; have n0_ := Aside0.mk (Kd.S_below HOR6.out hb); have n1_ := Aside0.mk (Kd.R_below HOR9.out hb); have n2_ := Aside0.mk (Kd.S_below HOR13.out hb); have n3_ := Aside0.mk (Nat.le_trans UPR6.out hb.size); have n4_ := Aside0.mk (Nat.le_trans UPR9.out hb.size); have n5_ := Aside0.mk (Nat.le_trans UPR13.out hb.size); have n6_ := Aside0.mk (blk_below (g := gb1) BKgb1.out hb); have n7_ := Aside0.mk (blk_below (g := gb2) BKgb2.out hb); have n8_ := Aside0.mk (Nat.lt_of_lt_of_le GUgb1.out hb.size); have n9_ := Aside0.mk (Nat.lt_of_lt_of_le GUgb2.out hb.size); have n10_ := Aside0.mk (below_step HB.out hb); have n11_ := Aside0.mk (below_step HBM.out hb); have n12_ := Aside0.mk (Kd.S_lower (Kd.S_mono (ok' := fun k_ => loR15 ≤ k_ ∧ k_ < hiR15) (Kd.S_bound hoR15) (fun k_ hk_ => ⟨by rw [hloR15]; exact hk_.2.1, by rw [hhiR15]; exact hk_.2.2.1⟩)) (below_size HBM.out)); have n13_ := Aside0.mk (by rw [hhiR15]; exact Nat.le_refl _ : hiR15 ≤ w_9.heap.size); have n14_ := Aside0.mk (fun k_ h1_ h2_ => by have := UPR6.out; rw [← hloR15] at this; omega : ∀ k_, loR6 ≤ k_ ∧ k_ < hiR6 → ¬ (loR15 ≤ k_ ∧ k_ < hiR15)); have n15_ := Aside0.mk (fun k_ h1_ h2_ => by have := UPR6.out; rw [← hloR15] at this; omega : ∀ k_, loR15 ≤ k_ ∧ k_ < hiR15 → ¬ (loR6 ≤ k_ ∧ k_ < hiR6)); have n16_ := Aside0.mk (fun k_ h1_ h2_ => by have := UPR9.out; rw [← hloR15] at this; omega : ∀ k_, loR9 ≤ k_ ∧ k_ < hiR9 → ¬ (loR15 ≤ k_ ∧ k_ < hiR15)); have n17_ := Aside0.mk (fun k_ h1_ h2_ => by have := UPR9.out; rw [← hloR15] at this; omega : ∀ k_, loR15 ≤ k_ ∧ k_ < hiR15 → ¬ (loR9 ≤ k_ ∧ k_ < hiR9)); have n18_ := Aside0.mk (fun k_ h1_ h2_ => by have := UPR13.out; rw [← hloR15] at this; omega : ∀ k_, loR13 ≤ k_ ∧ k_ < hiR13 → ¬ (loR15 ≤ k_ ∧ k_ < hiR15)); have n19_ := Aside0.mk (fun k_ h1_ h2_ => by have := UPR13.out; rw [← hloR15] at this; omega : ∀ k_, loR15 ≤ k_ ∧ k_ < hiR15 → ¬ (loR13 ≤ k_ ∧ k_ < hiR13)); have n20_ := Aside0.mk (fun k_ hk_ => by have := GUgb1.out; rw [← hloR15] at this; omega : ∀ k_, loR15 ≤ k_ ∧ k_ < hiR15 → k_ ≠ gb1); have n21_ := Aside0.mk (fun k_ hk_ => by have := GUgb2.out; rw [← hloR15] at this; omega : ∀ k_, loR15 ≤ k_ ∧ k_ < hiR15 → k_ ≠ gb2); clear HOR6; clear HOR9; clear HOR13; clear UPR6; clear UPR9; clear UPR13; clear BKgb1; clear BKgb2; clear GUgb1; clear GUgb2; clear HB; clear HBM; have HOR6 := n0_; have HOR9 := n1_; have HOR13 := n2_; have UPR6 := n3_; have UPR9 := n4_; have UPR13 := n5_; have BKgb1 := n6_; have BKgb2 := n7_; have GUgb1 := n8_; have GUgb2 := n9_; have HB := n10_; have HBM := n11_; have HOR15 := n12_; have UPR15 := n13_; have NRR6_R15 := n14_; have NRR15_R6 := n15_; have NRR9_R15 := n16_; have NRR15_R9 := n17_; have NRR13_R15 := n18_; have NRR15_R13 := n19_; have NER15_gb1 := n20_; have NER15_gb2 := n21_; clear n0_ n1_ n2_ n3_ n4_ n5_ n6_ n7_ n8_ n9_ n10_ n11_ n12_ n13_ n14_ n15_ n16_ n17_ n18_ n19_ n20_ n21_; clear hb; clear hoR15 hloR15 hhiR15; obtain ⟨AR15, cR15, eqR15⟩ := Kd.S_slice HOR15.out; subst eqR15; (try clear hczgb1_0); (try clear hfzgb1_0); (try clear hczgb2_0); (try clear hfzgb2_0); (try clear hczgb2_1); (try clear hfzgb2_1); have hczgb1_0 : w_9.cell? ⟨gb1, 0, none⟩ = some (.slice A0_0 l0_0.length c0_0) := (blk_cell BKgb1.out 0).trans rfl; have hfzgb1_0 := blk_frozen BKgb1.out 0; have hczgb2_0 : w_9.cell? ⟨gb2, 0, none⟩ = some (.int .i64 a1_0) := (blk_cell BKgb2.out 0).trans rfl; have hfzgb2_0 := blk_frozen BKgb2.out 0; have hczgb2_1 : w_9.cell? ⟨gb2, 1, none⟩ = some (.slice A1_1 l1_1.length c1_1) := (blk_cell BKgb2.out 1).trans rfl; have hfzgb2_1 := blk_frozen BKgb2.out 1) | ((with_reducible refine gate_dst (N := 11) rfl ?_); refine box_event ?hg (N := 11) ?hd (cs := #[.slice none 0 0]) (t := 37) ?hr ?_; (case hd => rfl); (case hg => rfl); (case hr => first | (go_simp; done) | (go_simp; rfl)); intro gb16 hg w_10 hbox hb; have n0_ := Aside0.mk (Kd.S_below HOR6.out hb); have n1_ := Aside0.mk (Kd.R_below HOR9.out hb); have n2_ := Aside0.mk (Kd.S_below HOR13.out hb); have n3_ := Aside0.mk (Kd.S_below HOR15.out hb); have n4_ := Aside0.mk (Nat.le_trans UPR6.out hb.size); have n5_ := Aside0.mk (Nat.le_trans UPR9.out hb.size); have n6_ := Aside0.mk (Nat.le_trans UPR13.out hb.size); have n7_ := Aside0.mk (Nat.le_trans UPR15.out hb.size); have n8_ := Aside0.mk (blk_below (g := gb1) BKgb1.out hb); have n9_ := Aside0.mk (blk_below (g := gb2) BKgb2.out hb); have n10_ := Aside0.mk (Nat.lt_of_lt_of_le GUgb1.out hb.size); have n11_ := Aside0.mk (Nat.lt_of_lt_of_le GUgb2.out hb.size); have n12_ := Aside0.mk (below_step HB.out hb); have n13_ := Aside0.mk (below_step HBM.out hb); have n14_ := Aside0.mk (hbox); have n15_ := Aside0.mk (blk_lt hbox); have n16_ := Aside0.mk (by rw [hg]; exact below_size HB.out : w.heap.size ≤ gb16); have n17_ := Aside0.mk (by rw [hg]; exact below_size HBM.out : w_8.heap.size ≤ gb16); have n18_ := Aside0.mk (fun k_ hk_ => by have := UPR6.out; rw [← hg] at this; omega : ∀ k_, loR6 ≤ k_ ∧ k_ < hiR6 → k_ ≠ gb16); have n19_ := Aside0.mk (fun k_ hk_ => by have := UPR9.out; rw [← hg] at this; omega : ∀ k_, loR9 ≤ k_ ∧ k_ < hiR9 → k_ ≠ gb16); have n20_ := Aside0.mk (fun k_ hk_ => by have := UPR13.out; rw [← hg] at this; omega : ∀ k_, loR13 ≤ k_ ∧ k_ < hiR13 → k_ ≠ gb16); have n21_ := Aside0.mk (fun k_ hk_ => by have := UPR15.out; rw [← hg] at this; omega : ∀ k_, loR15 ≤ k_ ∧ k_ < hiR15 → k_ ≠ gb16); have n22_ := Aside0.mk (by have := GUgb1.out; rw [← hg] at this; omega : gb1 ≠ gb16); have n23_ := Aside0.mk (by have := GUgb1.out; rw [← hg] at this; omega : gb16 ≠ gb1); have n24_ := Aside0.mk (by have := GUgb2.out; rw [← hg] at this; omega : gb2 ≠ gb16); have n25_ := Aside0.mk (by have := GUgb2.out; rw [← hg] at this; omega : gb16 ≠ gb2); clear HOR6; clear HOR9; clear HOR13; clear HOR15; clear UPR6; clear UPR9; clear UPR13; clear UPR15; clear BKgb1; clear BKgb2; clear GUgb1; clear GUgb2; clear HB; clear HBM; have HOR6 := n0_; have HOR9 := n1_; have HOR13 := n2_; have HOR15 := n3_; have UPR6 := n4_; have UPR9 := n5_; have UPR13 := n6_; have UPR15 := n7_; have BKgb1 := n8_; have BKgb2 := n9_; have GUgb1 := n10_; have GUgb2 := n11_; have HB := n12_; have HBM := n13_; have BKgb16 := n14_; have GUgb16 := n15_; have GEgb16 := n16_; have GMgb16 := n17_; have NER6_gb16 := n18_; have NER9_gb16 := n19_; have NER13_gb16 := n20_; have NER15_gb16 := n21_; have NBgb1_gb16 := n22_; have NBgb16_gb1 := n23_; have NBgb2_gb16 := n24_; have NBgb16_gb2 := n25_; clear n0_ n1_ n2_ n3_ n4_ n5_ n6_ n7_ n8_ n9_ n10_ n11_ n12_ n13_ n14_ n15_ n16_ n17_ n18_ n19_ n20_ n21_ n22_ n23_ n24_ n25_; clear hb hbox hg; (try clear hczgb1_0); (try clear hfzgb1_0); (try clear hczgb2_0); (try clear hfzgb2_0); (try clear hczgb2_1); (try clear hfzgb2_1); (try clear hczgb16_0); (try clear hfzgb16_0); have hczgb1_0 : w_10.cell? ⟨gb1, 0, none⟩ = some (.slice A0_0 l0_0.length c0_0) := (blk_cell BKgb1.out 0).trans rfl; have hfzgb1_0 := blk_frozen BKgb1.out 0; have hczgb2_0 : w_10.cell? ⟨gb2, 0, none⟩ = some (.int .i64 a1_0) := (blk_cell BKgb2.out 0).trans rfl; have hfzgb2_0 := blk_frozen BKgb2.out 0; have hczgb2_1 : w_10.cell? ⟨gb2, 1, none⟩ = some (.slice A1_1 l1_1.length c1_1) := (blk_cell BKgb2.out 1).trans rfl; have hfzgb2_1 := blk_frozen BKgb2.out 1; have hczgb16_0 : w_10.cell? ⟨gb16, 0, none⟩ = some (.slice none 0 0) := (blk_cell BKgb16.out 0).trans rfl; have hfzgb16_0 := blk_frozen BKgb16.out 0) | ((with_reducible refine gate_store (t := 37) (p := 11) rfl ?_); refine store_event (t := 37) (p := 11) (v := ?vow_11) (w1 := (w_10.setCell ⟨gb16, 0, none⟩ (.slice AR15 t14.length cR15))) ?hg ?ho ?hn ?hr ?_; (case ho => rfl); (case hg => rfl); (case hn => rfl); (case hr => first | (go_simp; done) | (go_simp; rfl)); intro w_11 hw; have n0_ := Aside0.mk (by rw [hw]; exact (Kd.S_far (p := ⟨gb16, 0, none⟩) HOR6.out NER6_gb16.out (.slice AR15 t14.length cR15)) : Kd.S (Kd.slice 2 (Kd.int .i64)) 58 w_11 w.heap.size (fun k_ => loR6 ≤ k_ ∧ k_ < hiR6) (.slice AR6 t5.length cR6) t5); have n1_ := Aside0.mk (by rw [hw]; simp only [World.size_setCell]; exact UPR6.out : hiR6 ≤ w_11.heap.size); have n2_ := Aside0.mk (by rw [hw]; exact (Kd.R_far (p := ⟨gb16, 0, none⟩) HOR9.out NER9_gb16.out (.slice AR15 t14.length cR15)) : Kd.R k79 79 w_11 w.heap.size (fun k_ => loR9 ≤ k_ ∧ k_ < hiR9) (.slice AR9 t8.length cR9) t8); have n3_ := Aside0.mk (by rw [hw]; simp only [World.size_setCell]; exact UPR9.out : hiR9 ≤ w_11.heap.size); have n4_ := Aside0.mk (by rw [hw]; exact (Kd.S_far (p := ⟨gb16, 0, none⟩) HOR13.out NER13_gb16.out (.slice AR15 t14.length cR15)) : Kd.S (Kd.slice 2 (Kd.int .i64)) 58 w_11 w.heap.size (fun k_ => loR13 ≤ k_ ∧ k_ < hiR13) (.slice AR13 t10.length cR13) t10); have n5_ := Aside0.mk (by rw [hw]; simp only [World.size_setCell]; exact UPR13.out : hiR13 ≤ w_11.heap.size); have n6_ := Aside0.mk (by rw [hw]; exact (Kd.S_far (p := ⟨gb16, 0, none⟩) HOR15.out NER15_gb16.out (.slice AR15 t14.length cR15)) : Kd.S (Kd.slice 2 (Kd.int .i64)) 58 w_11 w_8.heap.size (fun k_ => loR15 ≤ k_ ∧ k_ < hiR15) (.slice AR15 t14.length cR15) t14); have n7_ := Aside0.mk (by rw [hw]; simp only [World.size_setCell]; exact UPR15.out : hiR15 ≤ w_11.heap.size); have n8_ := Aside0.mk (by rw [hw]; exact (blk_far BKgb1.out NBgb1_gb16.out (.slice AR15 t14.length cR15)) : w_11.heap[gb1]? = some (.cells #[.slice A0_0 l0_0.length c0_0] 29 (0, 0))); have n9_ := Aside0.mk (by rw [hw]; simp only [World.size_setCell]; exact GUgb1.out : gb1 < w_11.heap.size); have n10_ := Aside0.mk (by rw [hw]; exact (blk_far BKgb2.out NBgb2_gb16.out (.slice AR15 t14.length cR15)) : w_11.heap[gb2]? = some (.cells #[.int .i64 a1_0, .slice A1_1 l1_1.length c1_1] 32 (0, 0))); have n11_ := Aside0.mk (by rw [hw]; simp only [World.size_setCell]; exact GUgb2.out : gb2 < w_11.heap.size); have n12_ := Aside0.mk (by rw [hw]; exact (blk_put (cs' := #[.slice AR15 t14.length cR15]) BKgb16.out 0 (.slice AR15 t14.length cR15) rfl) : w_11.heap[gb16]? = some (.cells #[.slice AR15 t14.length cR15] 37 (0, 0))); have n13_ := Aside0.mk (by rw [hw]; simp only [World.size_setCell]; exact GUgb16.out : gb16 < w_11.heap.size); have n14_ := Aside0.mk (by rw [hw]; exact (below_set HB.out GEgb16.out) : Below w.heap.size w w_11); have n15_ := Aside0.mk (by rw [hw]; exact (below_set HBM.out GMgb16.out) : Below w_8.heap.size w_8 w_11); clear HOR6; clear UPR6; clear HOR9; clear UPR9; clear HOR13; clear UPR13; clear HOR15; clear UPR15; clear BKgb1; clear GUgb1; clear BKgb2; clear GUgb2; clear BKgb16; clear GUgb16; clear HB; clear HBM; have HOR6 := n0_; have UPR6 := n1_; have HOR9 := n2_; have UPR9 := n3_; have HOR13 := n4_; have UPR13 := n5_; have HOR15 := n6_; have UPR15 := n7_; have BKgb1 := n8_; have GUgb1 := n9_; have BKgb2 := n10_; have GUgb2 := n11_; have BKgb16 := n12_; have GUgb16 := n13_; have HB := n14_; have HBM := n15_; clear n0_ n1_ n2_ n3_ n4_ n5_ n6_ n7_ n8_ n9_ n10_ n11_ n12_ n13_ n14_ n15_; clear hw; (try clear hczgb1_0); (try clear hfzgb1_0); (try clear hczgb2_0); (try clear hfzgb2_0); (try clear hczgb2_1); (try clear hfzgb2_1); (try clear hczgb16_0); (try clear hfzgb16_0); have hczgb1_0 : w_11.cell? ⟨gb1, 0, none⟩ = some (.slice A0_0 l0_0.length c0_0) := (blk_cell BKgb1.out 0).trans rfl; have hfzgb1_0 := blk_frozen BKgb1.out 0; have hczgb2_0 : w_11.cell? ⟨gb2, 0, none⟩ = some (.int .i64 a1_0) := (blk_cell BKgb2.out 0).trans rfl; have hfzgb2_0 := blk_frozen BKgb2.out 0; have hczgb2_1 : w_11.cell? ⟨gb2, 1, none⟩ = some (.slice A1_1 l1_1.length c1_1) := (blk_cell BKgb2.out 1).trans rfl; have hfzgb2_1 := blk_frozen BKgb2.out 1; have hczgb16_0 : w_11.cell? ⟨gb16, 0, none⟩ = some (.slice AR15 t14.length cR15) := (blk_cell BKgb16.out 0).trans rfl; have hfzgb16_0 := blk_frozen BKgb16.out 0) | ((with_reducible refine gate_callee (f := 15) rfl ?_); refine goesL_ (some 45) rfl rfl Try.func15 (by kernel_rfl) rfl #[.agg #[.int .i64 a1_0, .slice A1_1 l1_1.length c1_1]] rfl (by (try simp only [List.map_toArray, List.map_cons, List.map_nil]); first | done | rfl) ?_; (with_reducible refine (laws_toKernel.calls k a1_0 _ _ l1_1 t17 t18 _ ?side1 ?side2 E9.out).mono ?_); (case side1 => exact Kd.C_below HR1_1.out HB.out); (case side2 => exact HC1_1.out); rintro e w_12 ⟨vR19, rfl, hoR19, hb⟩; refine ⟨_, rfl, ?_⟩; obtain ⟨loR19, hloR19⟩ : ∃ n_ : Nat, n_ = w_11.heap.size := ⟨_, rfl⟩; obtain ⟨hiR19, hhiR19⟩ : ∃ n_ : Nat, n_ = w_12.heap.size := ⟨_, rfl⟩; have n0_ := Aside0.mk (Kd.S_below HOR6.out hb); have n1_ := Aside0.mk (Kd.R_below HOR9.out hb); have n2_ := Aside0.mk (Kd.S_below HOR13.out hb); have n3_ := Aside0.mk (Kd.S_below HOR15.out hb); have n4_ := Aside0.mk (Nat.le_trans UPR6.out hb.size); have n5_ := Aside0.mk (Nat.le_trans UPR9.out hb.size); have n6_ := Aside0.mk (Nat.le_trans UPR13.out hb.size); have n7_ := Aside0.mk (Nat.le_trans UPR15.out hb.size); have n8_ := Aside0.mk (blk_below (g := gb1) BKgb1.out hb); have n9_ := Aside0.mk (blk_below (g := gb2) BKgb2.out hb); have n10_ := Aside0.mk (blk_below (g := gb16) BKgb16.out hb); have n11_ := Aside0.mk (Nat.lt_of_lt_of_le GUgb1.out hb.size); have n12_ := Aside0.mk (Nat.lt_of_lt_of_le GUgb2.out hb.size); have n13_ := Aside0.mk (Nat.lt_of_lt_of_le GUgb16.out hb.size); have n14_ := Aside0.mk (below_step HB.out hb); have n15_ := Aside0.mk (below_step HBM.out hb); have n16_ := Aside0.mk (Kd.R_lower (Kd.R_mono (ok' := fun k_ => loR19 ≤ k_ ∧ k_ < hiR19) (Kd.R_bound hoR19) (fun k_ hk_ => ⟨by rw [hloR19]; exact hk_.2.1, by rw [hhiR19]; exact hk_.2.2.1⟩)) (below_size HBM.out)); have n17_ := Aside0.mk (by rw [hhiR19]; exact Nat.le_refl _ : hiR19 ≤ w_12.heap.size); have n18_ := Aside0.mk (fun k_ h1_ h2_ => by have := UPR6.out; rw [← hloR19] at this; omega : ∀ k_, loR6 ≤ k_ ∧ k_ < hiR6 → ¬ (loR19 ≤ k_ ∧ k_ < hiR19)); have n19_ := Aside0.mk (fun k_ h1_ h2_ => by have := UPR6.out; rw [← hloR19] at this; omega : ∀ k_, loR19 ≤ k_ ∧ k_ < hiR19 → ¬ (loR6 ≤ k_ ∧ k_ < hiR6)); have n20_ := Aside0.mk (fun k_ h1_ h2_ => by have := UPR9.out; rw [← hloR19] at this; omega : ∀ k_, loR9 ≤ k_ ∧ k_ < hiR9 → ¬ (loR19 ≤ k_ ∧ k_ < hiR19)); have n21_ := Aside0.mk (fun k_ h1_ h2_ => by have := UPR9.out; rw [← hloR19] at this; omega : ∀ k_, loR19 ≤ k_ ∧ k_ < hiR19 → ¬ (loR9 ≤ k_ ∧ k_ < hiR9)); have n22_ := Aside0.mk (fun k_ h1_ h2_ => by have := UPR13.out; rw [← hloR19] at this; omega : ∀ k_, loR13 ≤ k_ ∧ k_ < hiR13 → ¬ (loR19 ≤ k_ ∧ k_ < hiR19)); have n23_ := Aside0.mk (fun k_ h1_ h2_ => by have := UPR13.out; rw [← hloR19] at this; omega : ∀ k_, loR19 ≤ k_ ∧ k_ < hiR19 → ¬ (loR13 ≤ k_ ∧ k_ < hiR13)); have n24_ := Aside0.mk (fun k_ h1_ h2_ => by have := UPR15.out; rw [← hloR19] at this; omega : ∀ k_, loR15 ≤ k_ ∧ k_ < hiR15 → ¬ (loR19 ≤ k_ ∧ k_ < hiR19)); have n25_ := Aside0.mk (fun k_ h1_ h2_ => by have := UPR15.out; rw [← hloR19] at this; omega : ∀ k_, loR19 ≤ k_ ∧ k_ < hiR19 → ¬ (loR15 ≤ k_ ∧ k_ < hiR15)); have n26_ := Aside0.mk (fun k_ hk_ => by have := GUgb1.out; rw [← hloR19] at this; omega : ∀ k_, loR19 ≤ k_ ∧ k_ < hiR19 → k_ ≠ gb1); have n27_ := Aside0.mk (fun k_ hk_ => by have := GUgb2.out; rw [← hloR19] at this; omega : ∀ k_, loR19 ≤ k_ ∧ k_ < hiR19 → k_ ≠ gb2); have n28_ := Aside0.mk (fun k_ hk_ => by have := GUgb16.out; rw [← hloR19] at this; omega : ∀ k_, loR19 ≤ k_ ∧ k_ < hiR19 → k_ ≠ gb16); clear HOR6; clear HOR9; clear HOR13; clear HOR15; clear UPR6; clear UPR9; clear UPR13; clear UPR15; clear BKgb1; clear BKgb2; clear BKgb16; clear GUgb1; clear GUgb2; clear GUgb16; clear HB; clear HBM; have HOR6 := n0_; have HOR9 := n1_; have HOR13 := n2_; have HOR15 := n3_; have UPR6 := n4_; have UPR9 := n5_; have UPR13 := n6_; have UPR15 := n7_; have BKgb1 := n8_; have BKgb2 := n9_; have BKgb16 := n10_; have GUgb1 := n11_; have GUgb2 := n12_; have GUgb16 := n13_; have HB := n14_; have HBM := n15_; have HOR19 := n16_; have UPR19 := n17_; have NRR6_R19 := n18_; have NRR19_R6 := n19_; have NRR9_R19 := n20_; have NRR19_R9 := n21_; have NRR13_R19 := n22_; have NRR19_R13 := n23_; have NRR15_R19 := n24_; have NRR19_R15 := n25_; have NER19_gb1 := n26_; have NER19_gb2 := n27_; have NER19_gb16 := n28_; clear n0_ n1_ n2_ n3_ n4_ n5_ n6_ n7_ n8_ n9_ n10_ n11_ n12_ n13_ n14_ n15_ n16_ n17_ n18_ n19_ n20_ n21_ n22_ n23_ n24_ n25_ n26_ n27_ n28_; clear hb; clear hoR19 hloR19 hhiR19; obtain ⟨AR19, cR19, eqR19⟩ := Kd.R_slice HOR19.out; subst eqR19; (try clear hczgb1_0); (try clear hfzgb1_0); (try clear hczgb2_0); (try clear hfzgb2_0); (try clear hczgb2_1); (try clear hfzgb2_1); (try clear hczgb16_0); (try clear hfzgb16_0); have hczgb1_0 : w_12.cell? ⟨gb1, 0, none⟩ = some (.slice A0_0 l0_0.length c0_0) := (blk_cell BKgb1.out 0).trans rfl; have hfzgb1_0 := blk_frozen BKgb1.out 0; have hczgb2_0 : w_12.cell? ⟨gb2, 0, none⟩ = some (.int .i64 a1_0) := (blk_cell BKgb2.out 0).trans rfl; have hfzgb2_0 := blk_frozen BKgb2.out 0; have hczgb2_1 : w_12.cell? ⟨gb2, 1, none⟩ = some (.slice A1_1 l1_1.length c1_1) := (blk_cell BKgb2.out 1).trans rfl; have hfzgb2_1 := blk_frozen BKgb2.out 1; have hczgb16_0 : w_12.cell? ⟨gb16, 0, none⟩ = some (.slice AR15 t14.length cR15) := (blk_cell BKgb16.out 0).trans rfl; have hfzgb16_0 := blk_frozen BKgb16.out 0) | ((with_reducible refine gate_dst (N := 12) rfl ?_); refine box_event ?hg (N := 12) ?hd (cs := #[.int .i64 0, .slice none 0 0]) (t := 41) ?hr ?_; (case hd => rfl); (case hg => rfl); (case hr => first | (go_simp; done) | (go_simp; rfl)); intro gb20 hg w_13 hbox hb; have n0_ := Aside0.mk (Kd.S_below HOR6.out hb); have n1_ := Aside0.mk (Kd.R_below HOR9.out hb); have n2_ := Aside0.mk (Kd.S_below HOR13.out hb); have n3_ := Aside0.mk (Kd.S_below HOR15.out hb); have n4_ := Aside0.mk (Kd.R_below HOR19.out hb); have n5_ := Aside0.mk (Nat.le_trans UPR6.out hb.size); have n6_ := Aside0.mk (Nat.le_trans UPR9.out hb.size); have n7_ := Aside0.mk (Nat.le_trans UPR13.out hb.size); have n8_ := Aside0.mk (Nat.le_trans UPR15.out hb.size); have n9_ := Aside0.mk (Nat.le_trans UPR19.out hb.size); have n10_ := Aside0.mk (blk_below (g := gb1) BKgb1.out hb); have n11_ := Aside0.mk (blk_below (g := gb2) BKgb2.out hb); have n12_ := Aside0.mk (blk_below (g := gb16) BKgb16.out hb); have n13_ := Aside0.mk (Nat.lt_of_lt_of_le GUgb1.out hb.size); have n14_ := Aside0.mk (Nat.lt_of_lt_of_le GUgb2.out hb.size); have n15_ := Aside0.mk (Nat.lt_of_lt_of_le GUgb16.out hb.size); have n16_ := Aside0.mk (below_step HB.out hb); have n17_ := Aside0.mk (below_step HBM.out hb); have n18_ := Aside0.mk (hbox); have n19_ := Aside0.mk (blk_lt hbox); have n20_ := Aside0.mk (by rw [hg]; exact below_size HB.out : w.heap.size ≤ gb20); have n21_ := Aside0.mk (by rw [hg]; exact below_size HBM.out : w_8.heap.size ≤ gb20); have n22_ := Aside0.mk (fun k_ hk_ => by have := UPR6.out; rw [← hg] at this; omega : ∀ k_, loR6 ≤ k_ ∧ k_ < hiR6 → k_ ≠ gb20); have n23_ := Aside0.mk (fun k_ hk_ => by have := UPR9.out; rw [← hg] at this; omega : ∀ k_, loR9 ≤ k_ ∧ k_ < hiR9 → k_ ≠ gb20); have n24_ := Aside0.mk (fun k_ hk_ => by have := UPR13.out; rw [← hg] at this; omega : ∀ k_, loR13 ≤ k_ ∧ k_ < hiR13 → k_ ≠ gb20); have n25_ := Aside0.mk (fun k_ hk_ => by have := UPR15.out; rw [← hg] at this; omega : ∀ k_, loR15 ≤ k_ ∧ k_ < hiR15 → k_ ≠ gb20); have n26_ := Aside0.mk (fun k_ hk_ => by have := UPR19.out; rw [← hg] at this; omega : ∀ k_, loR19 ≤ k_ ∧ k_ < hiR19 → k_ ≠ gb20); have n27_ := Aside0.mk (by have := GUgb1.out; rw [← hg] at this; omega : gb1 ≠ gb20); have n28_ := Aside0.mk (by have := GUgb1.out; rw [← hg] at this; omega : gb20 ≠ gb1); have n29_ := Aside0.mk (by have := GUgb2.out; rw [← hg] at this; omega : gb2 ≠ gb20); have n30_ := Aside0.mk (by have := GUgb2.out; rw [← hg] at this; omega : gb20 ≠ gb2); have n31_ := Aside0.mk (by have := GUgb16.out; rw [← hg] at this; omega : gb16 ≠ gb20); have n32_ := Aside0.mk (by have := GUgb16.out; rw [← hg] at this; omega : gb20 ≠ gb16); clear HOR6; clear HOR9; clear HOR13; clear HOR15; clear HOR19; clear UPR6; clear UPR9; clear UPR13; clear UPR15; clear UPR19; clear BKgb1; clear BKgb2; clear BKgb16; clear GUgb1; clear GUgb2; clear GUgb16; clear HB; clear HBM; have HOR6 := n0_; have HOR9 := n1_; have HOR13 := n2_; have HOR15 := n3_; have HOR19 := n4_; have UPR6 := n5_; have UPR9 := n6_; have UPR13 := n7_; have UPR15 := n8_; have UPR19 := n9_; have BKgb1 := n10_; have BKgb2 := n11_; have BKgb16 := n12_; have GUgb1 := n13_; have GUgb2 := n14_; have GUgb16 := n15_; have HB := n16_; have HBM := n17_; have BKgb20 := n18_; have GUgb20 := n19_; have GEgb20 := n20_; have GMgb20 := n21_; have NER6_gb20 := n22_; have NER9_gb20 := n23_; have NER13_gb20 := n24_; have NER15_gb20 := n25_; have NER19_gb20 := n26_; have NBgb1_gb20 := n27_; have NBgb20_gb1 := n28_; have NBgb2_gb20 := n29_; have NBgb20_gb2 := n30_; have NBgb16_gb20 := n31_; have NBgb20_gb16 := n32_; clear n0_ n1_ n2_ n3_ n4_ n5_ n6_ n7_ n8_ n9_ n10_ n11_ n12_ n13_ n14_ n15_ n16_ n17_ n18_ n19_ n20_ n21_ n22_ n23_ n24_ n25_ n26_ n27_ n28_ n29_ n30_ n31_ n32_; clear hb hbox hg; (try clear hczgb1_0); (try clear hfzgb1_0); (try clear hczgb2_0); (try clear hfzgb2_0); (try clear hczgb2_1); (try clear hfzgb2_1); (try clear hczgb16_0); (try clear hfzgb16_0); (try clear hczgb20_0); (try clear hfzgb20_0); (try clear hczgb20_1); (try clear hfzgb20_1); have hczgb1_0 : w_13.cell? ⟨gb1, 0, none⟩ = some (.slice A0_0 l0_0.length c0_0) := (blk_cell BKgb1.out 0).trans rfl; have hfzgb1_0 := blk_frozen BKgb1.out 0; have hczgb2_0 : w_13.cell? ⟨gb2, 0, none⟩ = some (.int .i64 a1_0) := (blk_cell BKgb2.out 0).trans rfl; have hfzgb2_0 := blk_frozen BKgb2.out 0; have hczgb2_1 : w_13.cell? ⟨gb2, 1, none⟩ = some (.slice A1_1 l1_1.length c1_1) := (blk_cell BKgb2.out 1).trans rfl; have hfzgb2_1 := blk_frozen BKgb2.out 1; have hczgb16_0 : w_13.cell? ⟨gb16, 0, none⟩ = some (.slice AR15 t14.length cR15) := (blk_cell BKgb16.out 0).trans rfl; have hfzgb16_0 := blk_frozen BKgb16.out 0; have hczgb20_0 : w_13.cell? ⟨gb20, 0, none⟩ = some (.int .i64 0) := (blk_cell BKgb20.out 0).trans rfl; have hfzgb20_0 := blk_frozen BKgb20.out 0; have hczgb20_1 : w_13.cell? ⟨gb20, 1, none⟩ = some (.slice none 0 0) := (blk_cell BKgb20.out 1).trans rfl; have hfzgb20_1 := blk_frozen BKgb20.out 1) | ((with_reducible refine gate_store (t := 41) (p := 12) rfl ?_); refine store_event (t := 41) (p := 12) (v := ?vow_14) (w1 := ((w_13.setCell ⟨gb20, 0, none⟩ (.int .i64 t17)).setCell ⟨gb20, 1, none⟩ (.slice AR19 t18.length cR19))) ?hg ?ho ?hn ?hr ?_; (case ho => rfl); (case hg => rfl); (case hn => rfl); (case hr => first | (go_simp; done) | (go_simp; rfl)); intro w_14 hw; have n0_ := Aside0.mk (by rw [hw]; exact (Kd.S_far (p := ⟨gb20, 1, none⟩) (Kd.S_far (p := ⟨gb20, 0, none⟩) HOR6.out NER6_gb20.out (.int .i64 t17)) NER6_gb20.out (.slice AR19 t18.length cR19)) : Kd.S (Kd.slice 2 (Kd.int .i64)) 58 w_14 w.heap.size (fun k_ => loR6 ≤ k_ ∧ k_ < hiR6) (.slice AR6 t5.length cR6) t5); have n1_ := Aside0.mk (by rw [hw]; simp only [World.size_setCell]; exact UPR6.out : hiR6 ≤ w_14.heap.size); have n2_ := Aside0.mk (by rw [hw]; exact (Kd.R_far (p := ⟨gb20, 1, none⟩) (Kd.R_far (p := ⟨gb20, 0, none⟩) HOR9.out NER9_gb20.out (.int .i64 t17)) NER9_gb20.out (.slice AR19 t18.length cR19)) : Kd.R k79 79 w_14 w.heap.size (fun k_ => loR9 ≤ k_ ∧ k_ < hiR9) (.slice AR9 t8.length cR9) t8); have n3_ := Aside0.mk (by rw [hw]; simp only [World.size_setCell]; exact UPR9.out : hiR9 ≤ w_14.heap.size); have n4_ := Aside0.mk (by rw [hw]; exact (Kd.S_far (p := ⟨gb20, 1, none⟩) (Kd.S_far (p := ⟨gb20, 0, none⟩) HOR13.out NER13_gb20.out (.int .i64 t17)) NER13_gb20.out (.slice AR19 t18.length cR19)) : Kd.S (Kd.slice 2 (Kd.int .i64)) 58 w_14 w.heap.size (fun k_ => loR13 ≤ k_ ∧ k_ < hiR13) (.slice AR13 t10.length cR13) t10); have n5_ := Aside0.mk (by rw [hw]; simp only [World.size_setCell]; exact UPR13.out : hiR13 ≤ w_14.heap.size); have n6_ := Aside0.mk (by rw [hw]; exact (Kd.S_far (p := ⟨gb20, 1, none⟩) (Kd.S_far (p := ⟨gb20, 0, none⟩) HOR15.out NER15_gb20.out (.int .i64 t17)) NER15_gb20.out (.slice AR19 t18.length cR19)) : Kd.S (Kd.slice 2 (Kd.int .i64)) 58 w_14 w_8.heap.size (fun k_ => loR15 ≤ k_ ∧ k_ < hiR15) (.slice AR15 t14.length cR15) t14); have n7_ := Aside0.mk (by rw [hw]; simp only [World.size_setCell]; exact UPR15.out : hiR15 ≤ w_14.heap.size); have n8_ := Aside0.mk (by rw [hw]; exact (Kd.R_far (p := ⟨gb20, 1, none⟩) (Kd.R_far (p := ⟨gb20, 0, none⟩) HOR19.out NER19_gb20.out (.int .i64 t17)) NER19_gb20.out (.slice AR19 t18.length cR19)) : Kd.R k79 79 w_14 w_8.heap.size (fun k_ => loR19 ≤ k_ ∧ k_ < hiR19) (.slice AR19 t18.length cR19) t18); have n9_ := Aside0.mk (by rw [hw]; simp only [World.size_setCell]; exact UPR19.out : hiR19 ≤ w_14.heap.size); have n10_ := Aside0.mk (by rw [hw]; exact (blk_far (blk_far BKgb1.out NBgb1_gb20.out (.int .i64 t17)) NBgb1_gb20.out (.slice AR19 t18.length cR19)) : w_14.heap[gb1]? = some (.cells #[.slice A0_0 l0_0.length c0_0] 29 (0, 0))); have n11_ := Aside0.mk (by rw [hw]; simp only [World.size_setCell]; exact GUgb1.out : gb1 < w_14.heap.size); have n12_ := Aside0.mk (by rw [hw]; exact (blk_far (blk_far BKgb2.out NBgb2_gb20.out (.int .i64 t17)) NBgb2_gb20.out (.slice AR19 t18.length cR19)) : w_14.heap[gb2]? = some (.cells #[.int .i64 a1_0, .slice A1_1 l1_1.length c1_1] 32 (0, 0))); have n13_ := Aside0.mk (by rw [hw]; simp only [World.size_setCell]; exact GUgb2.out : gb2 < w_14.heap.size); have n14_ := Aside0.mk (by rw [hw]; exact (blk_far (blk_far BKgb16.out NBgb16_gb20.out (.int .i64 t17)) NBgb16_gb20.out (.slice AR19 t18.length cR19)) : w_14.heap[gb16]? = some (.cells #[.slice AR15 t14.length cR15] 37 (0, 0))); have n15_ := Aside0.mk (by rw [hw]; simp only [World.size_setCell]; exact GUgb16.out : gb16 < w_14.heap.size); have n16_ := Aside0.mk (by rw [hw]; exact (blk_put (cs' := #[.int .i64 t17, .slice AR19 t18.length cR19]) (blk_put (cs' := #[.int .i64 t17, .slice none 0 0]) BKgb20.out 0 (.int .i64 t17) rfl) 1 (.slice AR19 t18.length cR19) rfl) : w_14.heap[gb20]? = some (.cells #[.int .i64 t17, .slice AR19 t18.length cR19] 41 (0, 0))); have n17_ := Aside0.mk (by rw [hw]; simp only [World.size_setCell]; exact GUgb20.out : gb20 < w_14.heap.size); have n18_ := Aside0.mk (by rw [hw]; exact (below_set (below_set HB.out GEgb20.out) GEgb20.out) : Below w.heap.size w w_14); have n19_ := Aside0.mk (by rw [hw]; exact (below_set (below_set HBM.out GMgb20.out) GMgb20.out) : Below w_8.heap.size w_8 w_14); clear HOR6; clear UPR6; clear HOR9; clear UPR9; clear HOR13; clear UPR13; clear HOR15; clear UPR15; clear HOR19; clear UPR19; clear BKgb1; clear GUgb1; clear BKgb2; clear GUgb2; clear BKgb16; clear GUgb16; clear BKgb20; clear GUgb20; clear HB; clear HBM; have HOR6 := n0_; have UPR6 := n1_; have HOR9 := n2_; have UPR9 := n3_; have HOR13 := n4_; have UPR13 := n5_; have HOR15 := n6_; have UPR15 := n7_; have HOR19 := n8_; have UPR19 := n9_; have BKgb1 := n10_; have GUgb1 := n11_; have BKgb2 := n12_; have GUgb2 := n13_; have BKgb16 := n14_; have GUgb16 := n15_; have BKgb20 := n16_; have GUgb20 := n17_; have HB := n18_; have HBM := n19_; clear n0_ n1_ n2_ n3_ n4_ n5_ n6_ n7_ n8_ n9_ n10_ n11_ n12_ n13_ n14_ n15_ n16_ n17_ n18_ n19_; clear hw; (try clear hczgb1_0); (try clear hfzgb1_0); (try clear hczgb2_0); (try clear hfzgb2_0); (try clear hczgb2_1); (try clear hfzgb2_1); (try clear hczgb16_0); (try clear hfzgb16_0); (try clear hczgb20_0); (try clear hfzgb20_0); (try clear hczgb20_1); (try clear hfzgb20_1); have hczgb1_0 : w_14.cell? ⟨gb1, 0, none⟩ = some (.slice A0_0 l0_0.length c0_0) := (blk_cell BKgb1.out 0).trans rfl; have hfzgb1_0 := blk_frozen BKgb1.out 0; have hczgb2_0 : w_14.cell? ⟨gb2, 0, none⟩ = some (.int .i64 a1_0) := (blk_cell BKgb2.out 0).trans rfl; have hfzgb2_0 := blk_frozen BKgb2.out 0; have hczgb2_1 : w_14.cell? ⟨gb2, 1, none⟩ = some (.slice A1_1 l1_1.length c1_1) := (blk_cell BKgb2.out 1).trans rfl; have hfzgb2_1 := blk_frozen BKgb2.out 1; have hczgb16_0 : w_14.cell? ⟨gb16, 0, none⟩ = some (.slice AR15 t14.length cR15) := (blk_cell BKgb16.out 0).trans rfl; have hfzgb16_0 := blk_frozen BKgb16.out 0; have hczgb20_0 : w_14.cell? ⟨gb20, 0, none⟩ = some (.int .i64 t17) := (blk_cell BKgb20.out 0).trans rfl; have hfzgb20_0 := blk_frozen BKgb20.out 0; have hczgb20_1 : w_14.cell? ⟨gb20, 1, none⟩ = some (.slice AR19 t18.length cR19) := (blk_cell BKgb20.out 1).trans rfl; have hfzgb20_1 := blk_frozen BKgb20.out 1) | ((with_reducible refine gate_callee (f := 16) rfl ?_); refine goesL_ (some 50) rfl rfl Try.func16 (by kernel_rfl) rfl #[.agg #[.slice AR15 t14.length cR15], .agg #[.int .i64 t17, .slice AR19 t18.length cR19], .bool a2] rfl (by (try simp only [List.map_toArray, List.map_cons, List.map_nil]); first | done | rfl) ?_; (with_reducible refine (impl_DiffuseDither.calls k _ _ t14 t17 _ _ t18 a2 t21 t47 t48 _ ?side1 ?side2 ?side3 ?side4 E10.out).mono ?_); (case side1 => exact (Kd.S_reads' HOR15.out).2.2); (case side2 => exact (Kd.S_reads' HOR15.out).2.1); (case side3 => exact (Kd.R_reads' HOR19.out).2.2); (case side4 => exact (Kd.R_reads' HOR19.out).2.1); rintro e w_15 ⟨vR24, rfl, hoR24, hb⟩; refine ⟨_, rfl, ?_⟩; obtain ⟨loR24, hloR24⟩ : ∃ n_ : Nat, n_ = w_14.heap.size := ⟨_, rfl⟩; obtain ⟨hiR24, hhiR24⟩ : ∃ n_ : Nat, n_ = w_15.heap.size := ⟨_, rfl⟩; have n0_ := Aside0.mk (Kd.S_below HOR6.out hb); have n1_ := Aside0.mk (Kd.R_below HOR9.out hb); have n2_ := Aside0.mk (Kd.S_below HOR13.out hb); have n3_ := Aside0.mk (Kd.S_below HOR15.out hb); have n4_ := Aside0.mk (Kd.R_below HOR19.out hb); have n5_ := Aside0.mk (Nat.le_trans UPR6.out hb.size); have n6_ := Aside0.mk (Nat.le_trans UPR9.out hb.size); have n7_ := Aside0.mk (Nat.le_trans UPR13.out hb.size); have n8_ := Aside0.mk (Nat.le_trans UPR15.out hb.size); have n9_ := Aside0.mk (Nat.le_trans UPR19.out hb.size); have n10_ := Aside0.mk (blk_below (g := gb1) BKgb1.out hb); have n11_ := Aside0.mk (blk_below (g := gb2) BKgb2.out hb); have n12_ := Aside0.mk (blk_below (g := gb16) BKgb16.out hb); have n13_ := Aside0.mk (blk_below (g := gb20) BKgb20.out hb); have n14_ := Aside0.mk (Nat.lt_of_lt_of_le GUgb1.out hb.size); have n15_ := Aside0.mk (Nat.lt_of_lt_of_le GUgb2.out hb.size); have n16_ := Aside0.mk (Nat.lt_of_lt_of_le GUgb16.out hb.size); have n17_ := Aside0.mk (Nat.lt_of_lt_of_le GUgb20.out hb.size); have n18_ := Aside0.mk (below_step HB.out hb); have n19_ := Aside0.mk (below_step HBM.out hb); have n20_ := Aside0.mk (Kd.S_lower (Kd.S_mono (ok' := fun k_ => loR24 ≤ k_ ∧ k_ < hiR24) (Kd.S_bound hoR24) (fun k_ hk_ => ⟨by rw [hloR24]; exact hk_.2.1, by rw [hhiR24]; exact hk_.2.2.1⟩)) (below_size HBM.out)); have n21_ := Aside0.mk (by rw [hhiR24]; exact Nat.le_refl _ : hiR24 ≤ w_15.heap.size); have n22_ := Aside0.mk (fun k_ h1_ h2_ => by have := UPR6.out; rw [← hloR24] at this; omega : ∀ k_, loR6 ≤ k_ ∧ k_ < hiR6 → ¬ (loR24 ≤ k_ ∧ k_ < hiR24)); have n23_ := Aside0.mk (fun k_ h1_ h2_ => by have := UPR6.out; rw [← hloR24] at this; omega : ∀ k_, loR24 ≤ k_ ∧ k_ < hiR24 → ¬ (loR6 ≤ k_ ∧ k_ < hiR6)); have n24_ := Aside0.mk (fun k_ h1_ h2_ => by have := UPR9.out; rw [← hloR24] at this; omega : ∀ k_, loR9 ≤ k_ ∧ k_ < hiR9 → ¬ (loR24 ≤ k_ ∧ k_ < hiR24)); have n25_ := Aside0.mk (fun k_ h1_ h2_ => by have := UPR9.out; rw [← hloR24] at this; omega : ∀ k_, loR24 ≤ k_ ∧ k_ < hiR24 → ¬ (loR9 ≤ k_ ∧ k_ < hiR9)); have n26_ := Aside0.mk (fun k_ h1_ h2_ => by have := UPR13.out; rw [← hloR24] at this; omega : ∀ k_, loR13 ≤ k_ ∧ k_ < hiR13 → ¬ (loR24 ≤ k_ ∧ k_ < hiR24)); have n27_ := Aside0.mk (fun k_ h1_ h2_ => by have := UPR13.out; rw [← hloR24] at this; omega : ∀ k_, loR24 ≤ k_ ∧ k_ < hiR24 → ¬ (loR13 ≤ k_ ∧ k_ < hiR13)); have n28_ := Aside0.mk (fun k_ h1_ h2_ => by have := UPR15.out; rw [← hloR24] at this; omega : ∀ k_, loR15 ≤ k_ ∧ k_ < hiR15 → ¬ (loR24 ≤ k_ ∧ k_ < hiR24)); have n29_ := Aside0.mk (fun k_ h1_ h2_ => by have := UPR15.out; rw [← hloR24] at this; omega : ∀ k_, loR24 ≤ k_ ∧ k_ < hiR24 → ¬ (loR15 ≤ k_ ∧ k_ < hiR15)); have n30_ := Aside0.mk (fun k_ h1_ h2_ => by have := UPR19.out; rw [← hloR24] at this; omega : ∀ k_, loR19 ≤ k_ ∧ k_ < hiR19 → ¬ (loR24 ≤ k_ ∧ k_ < hiR24)); have n31_ := Aside0.mk (fun k_ h1_ h2_ => by have := UPR19.out; rw [← hloR24] at this; omega : ∀ k_, loR24 ≤ k_ ∧ k_ < hiR24 → ¬ (loR19 ≤ k_ ∧ k_ < hiR19)); have n32_ := Aside0.mk (fun k_ hk_ => by have := GUgb1.out; rw [← hloR24] at this; omega : ∀ k_, loR24 ≤ k_ ∧ k_ < hiR24 → k_ ≠ gb1); have n33_ := Aside0.mk (fun k_ hk_ => by have := GUgb2.out; rw [← hloR24] at this; omega : ∀ k_, loR24 ≤ k_ ∧ k_ < hiR24 → k_ ≠ gb2); have n34_ := Aside0.mk (fun k_ hk_ => by have := GUgb16.out; rw [← hloR24] at this; omega : ∀ k_, loR24 ≤ k_ ∧ k_ < hiR24 → k_ ≠ gb16); have n35_ := Aside0.mk (fun k_ hk_ => by have := GUgb20.out; rw [← hloR24] at this; omega : ∀ k_, loR24 ≤ k_ ∧ k_ < hiR24 → k_ ≠ gb20); clear HOR6; clear HOR9; clear HOR13; clear HOR15; clear HOR19; clear UPR6; clear UPR9; clear UPR13; clear UPR15; clear UPR19; clear BKgb1; clear BKgb2; clear BKgb16; clear BKgb20; clear GUgb1; clear GUgb2; clear GUgb16; clear GUgb20; clear HB; clear HBM; have HOR6 := n0_; have HOR9 := n1_; have HOR13 := n2_; have HOR15 := n3_; have HOR19 := n4_; have UPR6 := n5_; have UPR9 := n6_; have UPR13 := n7_; have UPR15 := n8_; have UPR19 := n9_; have BKgb1 := n10_; have BKgb2 := n11_; have BKgb16 := n12_; have BKgb20 := n13_; have GUgb1 := n14_; have GUgb2 := n15_; have GUgb16 := n16_; have GUgb20 := n17_; have HB := n18_; have HBM := n19_; have HOR24 := n20_; have UPR24 := n21_; have NRR6_R24 := n22_; have NRR24_R6 := n23_; have NRR9_R24 := n24_; have NRR24_R9 := n25_; have NRR13_R24 := n26_; have NRR24_R13 := n27_; have NRR15_R24 := n28_; have NRR24_R15 := n29_; have NRR19_R24 := n30_; have NRR24_R19 := n31_; have NER24_gb1 := n32_; have NER24_gb2 := n33_; have NER24_gb16 := n34_; have NER24_gb20 := n35_; clear n0_ n1_ n2_ n3_ n4_ n5_ n6_ n7_ n8_ n9_ n10_ n11_ n12_ n13_ n14_ n15_ n16_ n17_ n18_ n19_ n20_ n21_ n22_ n23_ n24_ n25_ n26_ n27_ n28_ n29_ n30_ n31_ n32_ n33_ n34_ n35_; clear hb; clear hoR24 hloR24 hhiR24; obtain ⟨AR24, cR24, eqR24⟩ := Kd.S_slice HOR24.out; subst eqR24; (try clear hczgb1_0); (try clear hfzgb1_0); (try clear hczgb2_0); (try clear hfzgb2_0); (try clear hczgb2_1); (try clear hfzgb2_1); (try clear hczgb16_0); (try clear hfzgb16_0); (try clear hczgb20_0); (try clear hfzgb20_0); (try clear hczgb20_1); (try clear hfzgb20_1); have hczgb1_0 : w_15.cell? ⟨gb1, 0, none⟩ = some (.slice A0_0 l0_0.length c0_0) := (blk_cell BKgb1.out 0).trans rfl; have hfzgb1_0 := blk_frozen BKgb1.out 0; have hczgb2_0 : w_15.cell? ⟨gb2, 0, none⟩ = some (.int .i64 a1_0) := (blk_cell BKgb2.out 0).trans rfl; have hfzgb2_0 := blk_frozen BKgb2.out 0; have hczgb2_1 : w_15.cell? ⟨gb2, 1, none⟩ = some (.slice A1_1 l1_1.length c1_1) := (blk_cell BKgb2.out 1).trans rfl; have hfzgb2_1 := blk_frozen BKgb2.out 1; have hczgb16_0 : w_15.cell? ⟨gb16, 0, none⟩ = some (.slice AR15 t14.length cR15) := (blk_cell BKgb16.out 0).trans rfl; have hfzgb16_0 := blk_frozen BKgb16.out 0; have hczgb20_0 : w_15.cell? ⟨gb20, 0, none⟩ = some (.int .i64 t17) := (blk_cell BKgb20.out 0).trans rfl; have hfzgb20_0 := blk_frozen BKgb20.out 0; have hczgb20_1 : w_15.cell? ⟨gb20, 1, none⟩ = some (.slice AR19 t18.length cR19) := (blk_cell BKgb20.out 1).trans rfl; have hfzgb20_1 := blk_frozen BKgb20.out 1) | ((with_reducible refine gate_callee (f := 8) rfl ?_); refine goesL_ (some 56) rfl rfl Try.func8 (by kernel_rfl) rfl #[.slice AR24 t21.length cR24, .slice AR13 t10.length cR13] rfl (by (try simp only [List.map_toArray, List.map_cons, List.map_nil]); first | done | rfl) ?_; (with_reducible refine (laws_eqInt64SS.calls k _ _ t21 _ _ t10 true _ ?side1 ?side2 ?side3 ?side4 E11.out).mono ?_); (case side1 => exact (Kd.S_reads' HOR24.out).2.2); (case side2 => exact (Kd.S_reads' HOR24.out).2.1); (case side3 => exact (Kd.S_reads' HOR13.out).2.2); (case side4 => exact (Kd.S_reads' HOR13.out).2.1); rintro e w_16 ⟨rfl, hd⟩; have hb := Drawn0.below hd; refine ⟨_, rfl, ?_⟩; have n0_ := Aside0.mk (Kd.S_below HOR6.out hb); have n1_ := Aside0.mk (Kd.R_below HOR9.out hb); have n2_ := Aside0.mk (Kd.S_below HOR13.out hb); have n3_ := Aside0.mk (Kd.S_below HOR15.out hb); have n4_ := Aside0.mk (Kd.R_below HOR19.out hb); have n5_ := Aside0.mk (Kd.S_below HOR24.out hb); have n6_ := Aside0.mk (Nat.le_trans UPR6.out hb.size); have n7_ := Aside0.mk (Nat.le_trans UPR9.out hb.size); have n8_ := Aside0.mk (Nat.le_trans UPR13.out hb.size); have n9_ := Aside0.mk (Nat.le_trans UPR15.out hb.size); have n10_ := Aside0.mk (Nat.le_trans UPR19.out hb.size); have n11_ := Aside0.mk (Nat.le_trans UPR24.out hb.size); have n12_ := Aside0.mk (blk_below (g := gb1) BKgb1.out hb); have n13_ := Aside0.mk (blk_below (g := gb2) BKgb2.out hb); have n14_ := Aside0.mk (blk_below (g := gb16) BKgb16.out hb); have n15_ := Aside0.mk (blk_below (g := gb20) BKgb20.out hb); have n16_ := Aside0.mk (Nat.lt_of_lt_of_le GUgb1.out hb.size); have n17_ := Aside0.mk (Nat.lt_of_lt_of_le GUgb2.out hb.size); have n18_ := Aside0.mk (Nat.lt_of_lt_of_le GUgb16.out hb.size); have n19_ := Aside0.mk (Nat.lt_of_lt_of_le GUgb20.out hb.size); have n20_ := Aside0.mk (below_step HB.out hb); have n21_ := Aside0.mk (below_step HBM.out hb); clear HOR6; clear HOR9; clear HOR13; clear HOR15; clear HOR19; clear HOR24; clear UPR6; clear UPR9; clear UPR13; clear UPR15; clear UPR19; clear UPR24; clear BKgb1; clear BKgb2; clear BKgb16; clear BKgb20; clear GUgb1; clear GUgb2; clear GUgb16; clear GUgb20; clear HB; clear HBM; have HOR6 := n0_; have HOR9 := n1_; have HOR13 := n2_; have HOR15 := n3_; have HOR19 := n4_; have HOR24 := n5_; have UPR6 := n6_; have UPR9 := n7_; have UPR13 := n8_; have UPR15 := n9_; have UPR19 := n10_; have UPR24 := n11_; have BKgb1 := n12_; have BKgb2 := n13_; have BKgb16 := n14_; have BKgb20 := n15_; have GUgb1 := n16_; have GUgb2 := n17_; have GUgb16 := n18_; have GUgb20 := n19_; have HB := n20_; have HBM := n21_; clear n0_ n1_ n2_ n3_ n4_ n5_ n6_ n7_ n8_ n9_ n10_ n11_ n12_ n13_ n14_ n15_ n16_ n17_ n18_ n19_ n20_ n21_; clear hb; clear hd; (try clear hczgb1_0); (try clear hfzgb1_0); (try clear hczgb2_0); (try clear hfzgb2_0); (try clear hczgb2_1); (try clear hfzgb2_1); (try clear hczgb16_0); (try clear hfzgb16_0); (try clear hczgb20_0); (try clear hfzgb20_0); (try clear hczgb20_1); (try clear hfzgb20_1); have hczgb1_0 : w_16.cell? ⟨gb1, 0, none⟩ = some (.slice A0_0 l0_0.length c0_0) := (blk_cell BKgb1.out 0).trans rfl; have hfzgb1_0 := blk_frozen BKgb1.out 0; have hczgb2_0 : w_16.cell? ⟨gb2, 0, none⟩ = some (.int .i64 a1_0) := (blk_cell BKgb2.out 0).trans rfl; have hfzgb2_0 := blk_frozen BKgb2.out 0; have hczgb2_1 : w_16.cell? ⟨gb2, 1, none⟩ = some (.slice A1_1 l1_1.length c1_1) := (blk_cell BKgb2.out 1).trans rfl; have hfzgb2_1 := blk_frozen BKgb2.out 1; have hczgb16_0 : w_16.cell? ⟨gb16, 0, none⟩ = some (.slice AR15 t14.length cR15) := (blk_cell BKgb16.out 0).trans rfl; have hfzgb16_0 := blk_frozen BKgb16.out 0; have hczgb20_0 : w_16.cell? ⟨gb20, 0, none⟩ = some (.int .i64 t17) := (blk_cell BKgb20.out 0).trans rfl; have hfzgb20_0 := blk_frozen BKgb20.out 0; have hczgb20_1 : w_16.cell? ⟨gb20, 1, none⟩ = some (.slice AR19 t18.length cR19) := (blk_cell BKgb20.out 1).trans rfl; have hfzgb20_1 := blk_frozen BKgb20.out 1))
 have n0_ := Aside0.mk (Kd.S_drew HOR6.out)
 have n1_ := Aside0.mk (Kd.R_drew HOR9.out)
 have n2_ := Aside0.mk (Kd.S_drew HOR13.out)
 have n3_ := Aside0.mk (Kd.S_drew HOR15.out)
 have n4_ := Aside0.mk (Kd.R_drew HOR19.out)
 have n5_ := Aside0.mk (Kd.S_drew HOR24.out)
 have n6_ := Aside0.mk (show hiR6 ≤ w_16.drew.heap.size from UPR6.out)
 have n7_ := Aside0.mk (show hiR9 ≤ w_16.drew.heap.size from UPR9.out)
 have n8_ := Aside0.mk (show hiR13 ≤ w_16.drew.heap.size from UPR13.out)
 have n9_ := Aside0.mk (show hiR15 ≤ w_16.drew.heap.size from UPR15.out)
 have n10_ := Aside0.mk (show hiR19 ≤ w_16.drew.heap.size from UPR19.out)
 have n11_ := Aside0.mk (show hiR24 ≤ w_16.drew.heap.size from UPR24.out)
 have n12_ := Aside0.mk (blk_drew BKgb1.out)
 have n13_ := Aside0.mk (blk_drew BKgb2.out)
 have n14_ := Aside0.mk (blk_drew BKgb16.out)
 have n15_ := Aside0.mk (blk_drew BKgb20.out)
 have n16_ := Aside0.mk (show gb1 < w_16.drew.heap.size from GUgb1.out)
 have n17_ := Aside0.mk (show gb2 < w_16.drew.heap.size from GUgb2.out)
 have n18_ := Aside0.mk (show gb16 < w_16.drew.heap.size from GUgb16.out)
 have n19_ := Aside0.mk (show gb20 < w_16.drew.heap.size from GUgb20.out)
 have n20_ := Aside0.mk (below_drew1 HB.out)
 have n21_ := Aside0.mk (below_drew1 HBM.out)
 clear HOR6
 clear HOR9
 clear HOR13
 clear HOR15
 clear HOR19
 clear HOR24
 clear UPR6
 clear UPR9
 clear UPR13
 clear UPR15
 clear UPR19
 clear UPR24
 clear BKgb1
 clear BKgb2
 clear BKgb16
 clear BKgb20
 clear GUgb1
 clear GUgb2
 clear GUgb16
 clear GUgb20
 clear HB
 clear HBM
 have HOR6 := n0_
 have HOR9 := n1_
 have HOR13 := n2_
 have HOR15 := n3_
 have HOR19 := n4_
 have HOR24 := n5_
 have UPR6 := n6_
 have UPR9 := n7_
 have UPR13 := n8_
 have UPR15 := n9_
 have UPR19 := n10_
 have UPR24 := n11_
 have BKgb1 := n12_
 have BKgb2 := n13_
 have BKgb16 := n14_
 have BKgb20 := n15_
 have GUgb1 := n16_
 have GUgb2 := n17_
 have GUgb16 := n18_
 have GUgb20 := n19_
 have HB := n20_
 have HBM := n21_
 clear n0_ n1_ n2_ n3_ n4_ n5_ n6_ n7_ n8_ n9_ n10_ n11_ n12_ n13_ n14_ n15_ n16_ n17_ n18_ n19_ n20_ n21_
 (try clear hczgb1_0); (try clear hfzgb1_0)
 (try clear hczgb2_0); (try clear hfzgb2_0)
 (try clear hczgb2_1); (try clear hfzgb2_1)
 (try clear hczgb16_0); (try clear hfzgb16_0)
 (try clear hczgb20_0); (try clear hfzgb20_0)
 (try clear hczgb20_1); (try clear hfzgb20_1)
 refine start_ (n := 5) (S := fun w' => w'.cell? ⟨gb16, 0, none⟩ = some (.slice AR15 t14.length cR15) ∧ w'.cell? ⟨gb1, 0, none⟩ = some (.slice A0_0 l0_0.length c0_0)) (ds := []) #[false, false, false, false, false] (by kernel_rfl) rfl rfl ⟨(blk_cell BKgb16.out 0).trans rfl, (blk_cell BKgb1.out 0).trans rfl⟩ (fun hHeld => ?_)
 generalize w_16.drew = w_17 at HOR6 HOR9 HOR13 HOR15 HOR19 HOR24 UPR6 UPR9 UPR13 UPR15 UPR19 UPR24 BKgb1 BKgb2 BKgb16 BKgb20 GUgb1 GUgb2 GUgb16 GUgb20 HB HBM hHeld ⊢
 refine take_ (i := 0) (N := some 68) (v := ?_) (a' := ?_) #[true, false, false, false, false] rfl rfl (by kernel_rfl) (fun _ _ _ h => h) (Or.inl ⟨by rfl, ?_⟩) hHeld ?_ ?_
 rotate_left
 ·rintro w' ⟨s0, s1⟩
  go_simp
  with_reducible rfl
 rotate_left
 ·simp only [Act.put, List.setIfInBounds_toArray, List.set_cons_zero, List.set_cons_succ, i64_w, i32_w]
  rfl
 refine take_ (i := 1) (N := some 69) (v := ?_) (a' := ?_) #[true, true, false, false, false] rfl rfl (by kernel_rfl) (fun _ _ _ h => h) (Or.inl ⟨by rfl, ?_⟩) hHeld ?_ ?_
 rotate_left
 ·rintro w' ⟨s0, s1⟩
  go_simp
  with_reducible rfl
 rotate_left
 ·simp only [Act.put, List.setIfInBounds_toArray, List.set_cons_zero, List.set_cons_succ, i64_w, i32_w]
  rfl
 refine one_ (i := 2) (N := some 70) #[true, true, true, false, false] rfl rfl (by kernel_rfl) (by decide) (fun K hK => ?_)
 refine goes_ Try.func14 (by kernel_rfl) rfl #[.agg #[.slice A0_0 l0_0.length c0_0]] (by rfl) rfl rfl (by (try simp only [List.map_toArray, List.map_cons, List.map_nil]); first | done | rfl) ?_
 (with_reducible refine (laws_toPicture.calls k _ _ l0_0 t26 _ ?side1 ?side2 E15.out).mono ?_)
 (case side1 => exact Kd.C_below HR0_0.out HB.out)
 (case side2 => exact HC0_0.out)
 rintro e w_18 ⟨vR27, rfl, hoR27, hb⟩
 refine ⟨_, rfl, ?_⟩
 obtain ⟨loR27, hloR27⟩ : ∃ n_ : Nat, n_ = w_17.heap.size := ⟨_, rfl⟩
 obtain ⟨hiR27, hhiR27⟩ : ∃ n_ : Nat, n_ = w_18.heap.size := ⟨_, rfl⟩
 have n0_ := Aside0.mk (Kd.S_below HOR6.out hb)
 have n1_ := Aside0.mk (Kd.R_below HOR9.out hb)
 have n2_ := Aside0.mk (Kd.S_below HOR13.out hb)
 have n3_ := Aside0.mk (Kd.S_below HOR15.out hb)
 have n4_ := Aside0.mk (Kd.R_below HOR19.out hb)
 have n5_ := Aside0.mk (Kd.S_below HOR24.out hb)
 have n6_ := Aside0.mk (Nat.le_trans UPR6.out hb.size)
 have n7_ := Aside0.mk (Nat.le_trans UPR9.out hb.size)
 have n8_ := Aside0.mk (Nat.le_trans UPR13.out hb.size)
 have n9_ := Aside0.mk (Nat.le_trans UPR15.out hb.size)
 have n10_ := Aside0.mk (Nat.le_trans UPR19.out hb.size)
 have n11_ := Aside0.mk (Nat.le_trans UPR24.out hb.size)
 have n12_ := Aside0.mk (blk_below (g := gb1) BKgb1.out hb)
 have n13_ := Aside0.mk (blk_below (g := gb2) BKgb2.out hb)
 have n14_ := Aside0.mk (blk_below (g := gb16) BKgb16.out hb)
 have n15_ := Aside0.mk (blk_below (g := gb20) BKgb20.out hb)
 have n16_ := Aside0.mk (Nat.lt_of_lt_of_le GUgb1.out hb.size)
 have n17_ := Aside0.mk (Nat.lt_of_lt_of_le GUgb2.out hb.size)
 have n18_ := Aside0.mk (Nat.lt_of_lt_of_le GUgb16.out hb.size)
 have n19_ := Aside0.mk (Nat.lt_of_lt_of_le GUgb20.out hb.size)
 have n20_ := Aside0.mk (below_step HB.out hb)
 have n21_ := Aside0.mk (below_step HBM.out hb)
 have n22_ := Aside0.mk (Kd.S_lower (Kd.S_mono (ok' := fun k_ => loR27 ≤ k_ ∧ k_ < hiR27) (Kd.S_bound hoR27) (fun k_ hk_ => ⟨by rw [hloR27]; exact hk_.2.1, by rw [hhiR27]; exact hk_.2.2.1⟩)) (below_size HBM.out))
 have n23_ := Aside0.mk (by rw [hhiR27]; exact Nat.le_refl _ : hiR27 ≤ w_18.heap.size)
 have n24_ := Aside0.mk (fun k_ h1_ h2_ => by have := UPR6.out; rw [← hloR27] at this; omega : ∀ k_, loR6 ≤ k_ ∧ k_ < hiR6 → ¬ (loR27 ≤ k_ ∧ k_ < hiR27))
 have n25_ := Aside0.mk (fun k_ h1_ h2_ => by have := UPR6.out; rw [← hloR27] at this; omega : ∀ k_, loR27 ≤ k_ ∧ k_ < hiR27 → ¬ (loR6 ≤ k_ ∧ k_ < hiR6))
 have n26_ := Aside0.mk (fun k_ h1_ h2_ => by have := UPR9.out; rw [← hloR27] at this; omega : ∀ k_, loR9 ≤ k_ ∧ k_ < hiR9 → ¬ (loR27 ≤ k_ ∧ k_ < hiR27))
 have n27_ := Aside0.mk (fun k_ h1_ h2_ => by have := UPR9.out; rw [← hloR27] at this; omega : ∀ k_, loR27 ≤ k_ ∧ k_ < hiR27 → ¬ (loR9 ≤ k_ ∧ k_ < hiR9))
 have n28_ := Aside0.mk (fun k_ h1_ h2_ => by have := UPR13.out; rw [← hloR27] at this; omega : ∀ k_, loR13 ≤ k_ ∧ k_ < hiR13 → ¬ (loR27 ≤ k_ ∧ k_ < hiR27))
 have n29_ := Aside0.mk (fun k_ h1_ h2_ => by have := UPR13.out; rw [← hloR27] at this; omega : ∀ k_, loR27 ≤ k_ ∧ k_ < hiR27 → ¬ (loR13 ≤ k_ ∧ k_ < hiR13))
 have n30_ := Aside0.mk (fun k_ h1_ h2_ => by have := UPR15.out; rw [← hloR27] at this; omega : ∀ k_, loR15 ≤ k_ ∧ k_ < hiR15 → ¬ (loR27 ≤ k_ ∧ k_ < hiR27))
 have n31_ := Aside0.mk (fun k_ h1_ h2_ => by have := UPR15.out; rw [← hloR27] at this; omega : ∀ k_, loR27 ≤ k_ ∧ k_ < hiR27 → ¬ (loR15 ≤ k_ ∧ k_ < hiR15))
 have n32_ := Aside0.mk (fun k_ h1_ h2_ => by have := UPR19.out; rw [← hloR27] at this; omega : ∀ k_, loR19 ≤ k_ ∧ k_ < hiR19 → ¬ (loR27 ≤ k_ ∧ k_ < hiR27))
 have n33_ := Aside0.mk (fun k_ h1_ h2_ => by have := UPR19.out; rw [← hloR27] at this; omega : ∀ k_, loR27 ≤ k_ ∧ k_ < hiR27 → ¬ (loR19 ≤ k_ ∧ k_ < hiR19))
 have n34_ := Aside0.mk (fun k_ h1_ h2_ => by have := UPR24.out; rw [← hloR27] at this; omega : ∀ k_, loR24 ≤ k_ ∧ k_ < hiR24 → ¬ (loR27 ≤ k_ ∧ k_ < hiR27))
 have n35_ := Aside0.mk (fun k_ h1_ h2_ => by have := UPR24.out; rw [← hloR27] at this; omega : ∀ k_, loR27 ≤ k_ ∧ k_ < hiR27 → ¬ (loR24 ≤ k_ ∧ k_ < hiR24))
 have n36_ := Aside0.mk (fun k_ hk_ => by have := GUgb1.out; rw [← hloR27] at this; omega : ∀ k_, loR27 ≤ k_ ∧ k_ < hiR27 → k_ ≠ gb1)
 have n37_ := Aside0.mk (fun k_ hk_ => by have := GUgb2.out; rw [← hloR27] at this; omega : ∀ k_, loR27 ≤ k_ ∧ k_ < hiR27 → k_ ≠ gb2)
 have n38_ := Aside0.mk (fun k_ hk_ => by have := GUgb16.out; rw [← hloR27] at this; omega : ∀ k_, loR27 ≤ k_ ∧ k_ < hiR27 → k_ ≠ gb16)
 have n39_ := Aside0.mk (fun k_ hk_ => by have := GUgb20.out; rw [← hloR27] at this; omega : ∀ k_, loR27 ≤ k_ ∧ k_ < hiR27 → k_ ≠ gb20)
 clear HOR6
 clear HOR9
 clear HOR13
 clear HOR15
 clear HOR19
 clear HOR24
 clear UPR6
 clear UPR9
 clear UPR13
 clear UPR15
 clear UPR19
 clear UPR24
 clear BKgb1
 clear BKgb2
 clear BKgb16
 clear BKgb20
 clear GUgb1
 clear GUgb2
 clear GUgb16
 clear GUgb20
 clear HB
 clear HBM
 have HOR6 := n0_
 have HOR9 := n1_
 have HOR13 := n2_
 have HOR15 := n3_
 have HOR19 := n4_
 have HOR24 := n5_
 have UPR6 := n6_
 have UPR9 := n7_
 have UPR13 := n8_
 have UPR15 := n9_
 have UPR19 := n10_
 have UPR24 := n11_
 have BKgb1 := n12_
 have BKgb2 := n13_
 have BKgb16 := n14_
 have BKgb20 := n15_
 have GUgb1 := n16_
 have GUgb2 := n17_
 have GUgb16 := n18_
 have GUgb20 := n19_
 have HB := n20_
 have HBM := n21_
 have HOR27 := n22_
 have UPR27 := n23_
 have NRR6_R27 := n24_
 have NRR27_R6 := n25_
 have NRR9_R27 := n26_
 have NRR27_R9 := n27_
 have NRR13_R27 := n28_
 have NRR27_R13 := n29_
 have NRR15_R27 := n30_
 have NRR27_R15 := n31_
 have NRR19_R27 := n32_
 have NRR27_R19 := n33_
 have NRR24_R27 := n34_
 have NRR27_R24 := n35_
 have NER27_gb1 := n36_
 have NER27_gb2 := n37_
 have NER27_gb16 := n38_
 have NER27_gb20 := n39_
 clear n0_ n1_ n2_ n3_ n4_ n5_ n6_ n7_ n8_ n9_ n10_ n11_ n12_ n13_ n14_ n15_ n16_ n17_ n18_ n19_ n20_ n21_ n22_ n23_ n24_ n25_ n26_ n27_ n28_ n29_ n30_ n31_ n32_ n33_ n34_ n35_ n36_ n37_ n38_ n39_
 clear hb
 clear hoR27 hloR27 hhiR27
 obtain ⟨AR27, cR27, eqR27⟩ := Kd.S_slice HOR27.out
 subst eqR27
 refine hK.out _ _ ⟨(blk_cell BKgb16.out 0).trans rfl, (blk_cell BKgb1.out 0).trans rfl⟩ (fun hHeld => ?_)
 clear hK K
 refine norm_ (a' := ?_) ?_ ?_
 rotate_left
 ·show Act.put _ (some 70) _ = _
  simp only [Act.put, List.setIfInBounds_toArray, List.set_cons_zero, List.set_cons_succ, i64_w, i32_w]
  rfl
 refine one_ (i := 3) (N := some 71) #[true, true, true, true, false] rfl rfl (by kernel_rfl) (by decide) (fun K hK => ?_)
 refine goes_ Try.func17 (by kernel_rfl) rfl #[.agg #[.slice AR15 t14.length cR15], .agg #[.slice AR27 t26.length cR27]] (by rfl) rfl rfl (by (try simp only [List.map_toArray, List.map_cons, List.map_nil]); first | done | rfl) ?_
 (with_reducible refine (laws_eqPicture.calls k _ _ t14 _ _ t26 true _ ?side1 ?side2 ?side3 ?side4 E16.out).mono ?_)
 (case side1 => exact (Kd.S_reads' HOR15.out).2.2)
 (case side2 => exact (Kd.S_reads' HOR15.out).2.1)
 (case side3 => exact (Kd.S_reads' HOR27.out).2.2)
 (case side4 => exact (Kd.S_reads' HOR27.out).2.1)
 rintro e w_19 ⟨rfl, hb⟩
 refine ⟨_, rfl, ?_⟩
 have n0_ := Aside0.mk (Kd.S_below HOR6.out hb)
 have n1_ := Aside0.mk (Kd.R_below HOR9.out hb)
 have n2_ := Aside0.mk (Kd.S_below HOR13.out hb)
 have n3_ := Aside0.mk (Kd.S_below HOR15.out hb)
 have n4_ := Aside0.mk (Kd.R_below HOR19.out hb)
 have n5_ := Aside0.mk (Kd.S_below HOR24.out hb)
 have n6_ := Aside0.mk (Kd.S_below HOR27.out hb)
 have n7_ := Aside0.mk (Nat.le_trans UPR6.out hb.size)
 have n8_ := Aside0.mk (Nat.le_trans UPR9.out hb.size)
 have n9_ := Aside0.mk (Nat.le_trans UPR13.out hb.size)
 have n10_ := Aside0.mk (Nat.le_trans UPR15.out hb.size)
 have n11_ := Aside0.mk (Nat.le_trans UPR19.out hb.size)
 have n12_ := Aside0.mk (Nat.le_trans UPR24.out hb.size)
 have n13_ := Aside0.mk (Nat.le_trans UPR27.out hb.size)
 have n14_ := Aside0.mk (blk_below (g := gb1) BKgb1.out hb)
 have n15_ := Aside0.mk (blk_below (g := gb2) BKgb2.out hb)
 have n16_ := Aside0.mk (blk_below (g := gb16) BKgb16.out hb)
 have n17_ := Aside0.mk (blk_below (g := gb20) BKgb20.out hb)
 have n18_ := Aside0.mk (Nat.lt_of_lt_of_le GUgb1.out hb.size)
 have n19_ := Aside0.mk (Nat.lt_of_lt_of_le GUgb2.out hb.size)
 have n20_ := Aside0.mk (Nat.lt_of_lt_of_le GUgb16.out hb.size)
 have n21_ := Aside0.mk (Nat.lt_of_lt_of_le GUgb20.out hb.size)
 have n22_ := Aside0.mk (below_step HB.out hb)
 have n23_ := Aside0.mk (below_step HBM.out hb)
 clear HOR6
 clear HOR9
 clear HOR13
 clear HOR15
 clear HOR19
 clear HOR24
 clear HOR27
 clear UPR6
 clear UPR9
 clear UPR13
 clear UPR15
 clear UPR19
 clear UPR24
 clear UPR27
 clear BKgb1
 clear BKgb2
 clear BKgb16
 clear BKgb20
 clear GUgb1
 clear GUgb2
 clear GUgb16
 clear GUgb20
 clear HB
 clear HBM
 have HOR6 := n0_
 have HOR9 := n1_
 have HOR13 := n2_
 have HOR15 := n3_
 have HOR19 := n4_
 have HOR24 := n5_
 have HOR27 := n6_
 have UPR6 := n7_
 have UPR9 := n8_
 have UPR13 := n9_
 have UPR15 := n10_
 have UPR19 := n11_
 have UPR24 := n12_
 have UPR27 := n13_
 have BKgb1 := n14_
 have BKgb2 := n15_
 have BKgb16 := n16_
 have BKgb20 := n17_
 have GUgb1 := n18_
 have GUgb2 := n19_
 have GUgb16 := n20_
 have GUgb20 := n21_
 have HB := n22_
 have HBM := n23_
 clear n0_ n1_ n2_ n3_ n4_ n5_ n6_ n7_ n8_ n9_ n10_ n11_ n12_ n13_ n14_ n15_ n16_ n17_ n18_ n19_ n20_ n21_ n22_ n23_
 clear hb
 refine hK.out _ _ ⟨(blk_cell BKgb16.out 0).trans rfl, (blk_cell BKgb1.out 0).trans rfl⟩ (fun hHeld => ?_)
 clear hK K
 refine norm_ (a' := ?_) ?_ ?_
 rotate_left
 ·show Act.put _ (some 71) _ = _
  simp only [Act.put, List.setIfInBounds_toArray, List.set_cons_zero, List.set_cons_succ, i64_w, i32_w]
  rfl
 refine pure_ (i := 4) (N := some 72) (v := ?_) (a' := ?_) #[true, true, true, true, true] rfl rfl (by kernel_rfl) (fun _ _ _ h => h) (Or.inl ⟨by rfl, ?_⟩) ?_ ?_
 rotate_left
 ·intro w'
  go_simp
  with_reducible rfl
 rotate_left
 ·simp only [Act.put, List.setIfInBounds_toArray, List.set_cons_zero, List.set_cons_succ, i64_w, i32_w]
  rfl
 refine done_ (by kernel_rfl) ?_
 (try clear hczgb1_0)
 (try clear hfzgb1_0)
 (try clear hczgb2_0)
 (try clear hfzgb2_0)
 (try clear hczgb2_1)
 (try clear hfzgb2_1)
 (try clear hczgb16_0)
 (try clear hfzgb16_0)
 (try clear hczgb20_0)
 (try clear hfzgb20_0)
 (try clear hczgb20_1)
 (try clear hfzgb20_1)
 have hczgb1_0 : w_19.cell? ⟨gb1, 0, none⟩ = some (.slice A0_0 l0_0.length c0_0) := (blk_cell BKgb1.out 0).trans rfl
 have hfzgb1_0 := blk_frozen BKgb1.out 0
 have hczgb2_0 : w_19.cell? ⟨gb2, 0, none⟩ = some (.int .i64 a1_0) := (blk_cell BKgb2.out 0).trans rfl
 have hfzgb2_0 := blk_frozen BKgb2.out 0
 have hczgb2_1 : w_19.cell? ⟨gb2, 1, none⟩ = some (.slice A1_1 l1_1.length c1_1) := (blk_cell BKgb2.out 1).trans rfl
 have hfzgb2_1 := blk_frozen BKgb2.out 1
 have hczgb16_0 : w_19.cell? ⟨gb16, 0, none⟩ = some (.slice AR15 t14.length cR15) := (blk_cell BKgb16.out 0).trans rfl
 have hfzgb16_0 := blk_frozen BKgb16.out 0
 have hczgb20_0 : w_19.cell? ⟨gb20, 0, none⟩ = some (.int .i64 t17) := (blk_cell BKgb20.out 0).trans rfl
 have hfzgb20_0 := blk_frozen BKgb20.out 0
 have hczgb20_1 : w_19.cell? ⟨gb20, 1, none⟩ = some (.slice AR19 t18.length cR19) := (blk_cell BKgb20.out 1).trans rfl
 have hfzgb20_1 := blk_frozen BKgb20.out 1
 try go_wp2
 have n0_ := Aside0.mk (Kd.S_drew HOR6.out)
 have n1_ := Aside0.mk (Kd.R_drew HOR9.out)
 have n2_ := Aside0.mk (Kd.S_drew HOR13.out)
 have n3_ := Aside0.mk (Kd.S_drew HOR15.out)
 have n4_ := Aside0.mk (Kd.R_drew HOR19.out)
 have n5_ := Aside0.mk (Kd.S_drew HOR24.out)
 have n6_ := Aside0.mk (Kd.S_drew HOR27.out)
 have n7_ := Aside0.mk (show hiR6 ≤ w_19.drew.heap.size from UPR6.out)
 have n8_ := Aside0.mk (show hiR9 ≤ w_19.drew.heap.size from UPR9.out)
 have n9_ := Aside0.mk (show hiR13 ≤ w_19.drew.heap.size from UPR13.out)
 have n10_ := Aside0.mk (show hiR15 ≤ w_19.drew.heap.size from UPR15.out)
 have n11_ := Aside0.mk (show hiR19 ≤ w_19.drew.heap.size from UPR19.out)
 have n12_ := Aside0.mk (show hiR24 ≤ w_19.drew.heap.size from UPR24.out)
 have n13_ := Aside0.mk (show hiR27 ≤ w_19.drew.heap.size from UPR27.out)
 have n14_ := Aside0.mk (blk_drew BKgb1.out)
 have n15_ := Aside0.mk (blk_drew BKgb2.out)
 have n16_ := Aside0.mk (blk_drew BKgb16.out)
 have n17_ := Aside0.mk (blk_drew BKgb20.out)
 have n18_ := Aside0.mk (show gb1 < w_19.drew.heap.size from GUgb1.out)
 have n19_ := Aside0.mk (show gb2 < w_19.drew.heap.size from GUgb2.out)
 have n20_ := Aside0.mk (show gb16 < w_19.drew.heap.size from GUgb16.out)
 have n21_ := Aside0.mk (show gb20 < w_19.drew.heap.size from GUgb20.out)
 have n22_ := Aside0.mk (below_drew1 HB.out)
 have n23_ := Aside0.mk (below_drew1 HBM.out)
 clear HOR6
 clear HOR9
 clear HOR13
 clear HOR15
 clear HOR19
 clear HOR24
 clear HOR27
 clear UPR6
 clear UPR9
 clear UPR13
 clear UPR15
 clear UPR19
 clear UPR24
 clear UPR27
 clear BKgb1
 clear BKgb2
 clear BKgb16
 clear BKgb20
 clear GUgb1
 clear GUgb2
 clear GUgb16
 clear GUgb20
 clear HB
 clear HBM
 have HOR6 := n0_
 have HOR9 := n1_
 have HOR13 := n2_
 have HOR15 := n3_
 have HOR19 := n4_
 have HOR24 := n5_
 have HOR27 := n6_
 have UPR6 := n7_
 have UPR9 := n8_
 have UPR13 := n9_
 have UPR15 := n10_
 have UPR19 := n11_
 have UPR24 := n12_
 have UPR27 := n13_
 have BKgb1 := n14_
 have BKgb2 := n15_
 have BKgb16 := n16_
 have BKgb20 := n17_
 have GUgb1 := n18_
 have GUgb2 := n19_
 have GUgb16 := n20_
 have GUgb20 := n21_
 have HB := n22_
 have HBM := n23_
 clear n0_ n1_ n2_ n3_ n4_ n5_ n6_ n7_ n8_ n9_ n10_ n11_ n12_ n13_ n14_ n15_ n16_ n17_ n18_ n19_ n20_ n21_ n22_ n23_
 (try clear hczgb1_0); (try clear hfzgb1_0)
 (try clear hczgb2_0); (try clear hfzgb2_0)
 (try clear hczgb2_1); (try clear hfzgb2_1)
 (try clear hczgb16_0); (try clear hfzgb16_0)
 (try clear hczgb20_0); (try clear hfzgb20_0)
 (try clear hczgb20_1); (try clear hfzgb20_1)
 refine start_ (n := 5) (S := fun w' => w'.cell? ⟨gb20, 0, none⟩ = some (.int .i64 t17) ∧ w'.cell? ⟨gb20, 1, none⟩ = some (.slice AR19 t18.length cR19) ∧ w'.cell? ⟨gb2, 0, none⟩ = some (.int .i64 a1_0) ∧ w'.cell? ⟨gb2, 1, none⟩ = some (.slice A1_1 l1_1.length c1_1)) (ds := []) #[false, false, false, false, false] (by kernel_rfl) rfl rfl ⟨(blk_cell BKgb20.out 0).trans rfl, (blk_cell BKgb20.out 1).trans rfl, (blk_cell BKgb2.out 0).trans rfl, (blk_cell BKgb2.out 1).trans rfl⟩ (fun hHeld => ?_)
 generalize w_19.drew = w_20 at HOR6 HOR9 HOR13 HOR15 HOR19 HOR24 HOR27 UPR6 UPR9 UPR13 UPR15 UPR19 UPR24 UPR27 BKgb1 BKgb2 BKgb16 BKgb20 GUgb1 GUgb2 GUgb16 GUgb20 HB HBM hHeld ⊢
 refine take_ (i := 0) (N := some 73) (v := ?_) (a' := ?_) #[true, false, false, false, false] rfl rfl (by kernel_rfl) (fun _ _ _ h => h) (Or.inl ⟨by rfl, ?_⟩) hHeld ?_ ?_
 rotate_left
 ·rintro w' ⟨s0, s1, s2, s3⟩
  go_simp
  with_reducible rfl
 rotate_left
 ·simp only [Act.put, List.setIfInBounds_toArray, List.set_cons_zero, List.set_cons_succ, i64_w, i32_w]
  rfl
 refine take_ (i := 1) (N := some 74) (v := ?_) (a' := ?_) #[true, true, false, false, false] rfl rfl (by kernel_rfl) (fun _ _ _ h => h) (Or.inl ⟨by rfl, ?_⟩) hHeld ?_ ?_
 rotate_left
 ·rintro w' ⟨s0, s1, s2, s3⟩
  go_simp
  with_reducible rfl
 rotate_left
 ·simp only [Act.put, List.setIfInBounds_toArray, List.set_cons_zero, List.set_cons_succ, i64_w, i32_w]
  rfl
 refine one_ (i := 2) (N := some 75) #[true, true, true, false, false] rfl rfl (by kernel_rfl) (by decide) (fun K hK => ?_)
 refine goes_ Try.func15 (by kernel_rfl) rfl #[.agg #[.int .i64 a1_0, .slice A1_1 l1_1.length c1_1]] (by rfl) rfl rfl (by (try simp only [List.map_toArray, List.map_cons, List.map_nil]); first | done | rfl) ?_
 (with_reducible refine (laws_toKernel.calls k a1_0 _ _ l1_1 t29 t30 _ ?side1 ?side2 E18.out).mono ?_)
 (case side1 => exact Kd.C_below HR1_1.out HB.out)
 (case side2 => exact HC1_1.out)
 rintro e w_21 ⟨vR31, rfl, hoR31, hb⟩
 refine ⟨_, rfl, ?_⟩
 obtain ⟨loR31, hloR31⟩ : ∃ n_ : Nat, n_ = w_20.heap.size := ⟨_, rfl⟩
 obtain ⟨hiR31, hhiR31⟩ : ∃ n_ : Nat, n_ = w_21.heap.size := ⟨_, rfl⟩
 have n0_ := Aside0.mk (Kd.S_below HOR6.out hb)
 have n1_ := Aside0.mk (Kd.R_below HOR9.out hb)
 have n2_ := Aside0.mk (Kd.S_below HOR13.out hb)
 have n3_ := Aside0.mk (Kd.S_below HOR15.out hb)
 have n4_ := Aside0.mk (Kd.R_below HOR19.out hb)
 have n5_ := Aside0.mk (Kd.S_below HOR24.out hb)
 have n6_ := Aside0.mk (Kd.S_below HOR27.out hb)
 have n7_ := Aside0.mk (Nat.le_trans UPR6.out hb.size)
 have n8_ := Aside0.mk (Nat.le_trans UPR9.out hb.size)
 have n9_ := Aside0.mk (Nat.le_trans UPR13.out hb.size)
 have n10_ := Aside0.mk (Nat.le_trans UPR15.out hb.size)
 have n11_ := Aside0.mk (Nat.le_trans UPR19.out hb.size)
 have n12_ := Aside0.mk (Nat.le_trans UPR24.out hb.size)
 have n13_ := Aside0.mk (Nat.le_trans UPR27.out hb.size)
 have n14_ := Aside0.mk (blk_below (g := gb1) BKgb1.out hb)
 have n15_ := Aside0.mk (blk_below (g := gb2) BKgb2.out hb)
 have n16_ := Aside0.mk (blk_below (g := gb16) BKgb16.out hb)
 have n17_ := Aside0.mk (blk_below (g := gb20) BKgb20.out hb)
 have n18_ := Aside0.mk (Nat.lt_of_lt_of_le GUgb1.out hb.size)
 have n19_ := Aside0.mk (Nat.lt_of_lt_of_le GUgb2.out hb.size)
 have n20_ := Aside0.mk (Nat.lt_of_lt_of_le GUgb16.out hb.size)
 have n21_ := Aside0.mk (Nat.lt_of_lt_of_le GUgb20.out hb.size)
 have n22_ := Aside0.mk (below_step HB.out hb)
 have n23_ := Aside0.mk (below_step HBM.out hb)
 have n24_ := Aside0.mk (Kd.R_lower (Kd.R_mono (ok' := fun k_ => loR31 ≤ k_ ∧ k_ < hiR31) (Kd.R_bound hoR31) (fun k_ hk_ => ⟨by rw [hloR31]; exact hk_.2.1, by rw [hhiR31]; exact hk_.2.2.1⟩)) (below_size HBM.out))
 have n25_ := Aside0.mk (by rw [hhiR31]; exact Nat.le_refl _ : hiR31 ≤ w_21.heap.size)
 have n26_ := Aside0.mk (fun k_ h1_ h2_ => by have := UPR6.out; rw [← hloR31] at this; omega : ∀ k_, loR6 ≤ k_ ∧ k_ < hiR6 → ¬ (loR31 ≤ k_ ∧ k_ < hiR31))
 have n27_ := Aside0.mk (fun k_ h1_ h2_ => by have := UPR6.out; rw [← hloR31] at this; omega : ∀ k_, loR31 ≤ k_ ∧ k_ < hiR31 → ¬ (loR6 ≤ k_ ∧ k_ < hiR6))
 have n28_ := Aside0.mk (fun k_ h1_ h2_ => by have := UPR9.out; rw [← hloR31] at this; omega : ∀ k_, loR9 ≤ k_ ∧ k_ < hiR9 → ¬ (loR31 ≤ k_ ∧ k_ < hiR31))
 have n29_ := Aside0.mk (fun k_ h1_ h2_ => by have := UPR9.out; rw [← hloR31] at this; omega : ∀ k_, loR31 ≤ k_ ∧ k_ < hiR31 → ¬ (loR9 ≤ k_ ∧ k_ < hiR9))
 have n30_ := Aside0.mk (fun k_ h1_ h2_ => by have := UPR13.out; rw [← hloR31] at this; omega : ∀ k_, loR13 ≤ k_ ∧ k_ < hiR13 → ¬ (loR31 ≤ k_ ∧ k_ < hiR31))
 have n31_ := Aside0.mk (fun k_ h1_ h2_ => by have := UPR13.out; rw [← hloR31] at this; omega : ∀ k_, loR31 ≤ k_ ∧ k_ < hiR31 → ¬ (loR13 ≤ k_ ∧ k_ < hiR13))
 have n32_ := Aside0.mk (fun k_ h1_ h2_ => by have := UPR15.out; rw [← hloR31] at this; omega : ∀ k_, loR15 ≤ k_ ∧ k_ < hiR15 → ¬ (loR31 ≤ k_ ∧ k_ < hiR31))
 have n33_ := Aside0.mk (fun k_ h1_ h2_ => by have := UPR15.out; rw [← hloR31] at this; omega : ∀ k_, loR31 ≤ k_ ∧ k_ < hiR31 → ¬ (loR15 ≤ k_ ∧ k_ < hiR15))
 have n34_ := Aside0.mk (fun k_ h1_ h2_ => by have := UPR19.out; rw [← hloR31] at this; omega : ∀ k_, loR19 ≤ k_ ∧ k_ < hiR19 → ¬ (loR31 ≤ k_ ∧ k_ < hiR31))
 have n35_ := Aside0.mk (fun k_ h1_ h2_ => by have := UPR19.out; rw [← hloR31] at this; omega : ∀ k_, loR31 ≤ k_ ∧ k_ < hiR31 → ¬ (loR19 ≤ k_ ∧ k_ < hiR19))
 have n36_ := Aside0.mk (fun k_ h1_ h2_ => by have := UPR24.out; rw [← hloR31] at this; omega : ∀ k_, loR24 ≤ k_ ∧ k_ < hiR24 → ¬ (loR31 ≤ k_ ∧ k_ < hiR31))
 have n37_ := Aside0.mk (fun k_ h1_ h2_ => by have := UPR24.out; rw [← hloR31] at this; omega : ∀ k_, loR31 ≤ k_ ∧ k_ < hiR31 → ¬ (loR24 ≤ k_ ∧ k_ < hiR24))
 have n38_ := Aside0.mk (fun k_ h1_ h2_ => by have := UPR27.out; rw [← hloR31] at this; omega : ∀ k_, loR27 ≤ k_ ∧ k_ < hiR27 → ¬ (loR31 ≤ k_ ∧ k_ < hiR31))
 have n39_ := Aside0.mk (fun k_ h1_ h2_ => by have := UPR27.out; rw [← hloR31] at this; omega : ∀ k_, loR31 ≤ k_ ∧ k_ < hiR31 → ¬ (loR27 ≤ k_ ∧ k_ < hiR27))
 have n40_ := Aside0.mk (fun k_ hk_ => by have := GUgb1.out; rw [← hloR31] at this; omega : ∀ k_, loR31 ≤ k_ ∧ k_ < hiR31 → k_ ≠ gb1)
 have n41_ := Aside0.mk (fun k_ hk_ => by have := GUgb2.out; rw [← hloR31] at this; omega : ∀ k_, loR31 ≤ k_ ∧ k_ < hiR31 → k_ ≠ gb2)
 have n42_ := Aside0.mk (fun k_ hk_ => by have := GUgb16.out; rw [← hloR31] at this; omega : ∀ k_, loR31 ≤ k_ ∧ k_ < hiR31 → k_ ≠ gb16)
 have n43_ := Aside0.mk (fun k_ hk_ => by have := GUgb20.out; rw [← hloR31] at this; omega : ∀ k_, loR31 ≤ k_ ∧ k_ < hiR31 → k_ ≠ gb20)
 clear HOR6
 clear HOR9
 clear HOR13
 clear HOR15
 clear HOR19
 clear HOR24
 clear HOR27
 clear UPR6
 clear UPR9
 clear UPR13
 clear UPR15
 clear UPR19
 clear UPR24
 clear UPR27
 clear BKgb1
 clear BKgb2
 clear BKgb16
 clear BKgb20
 clear GUgb1
 clear GUgb2
 clear GUgb16
 clear GUgb20
 clear HB
 clear HBM
 have HOR6 := n0_
 have HOR9 := n1_
 have HOR13 := n2_
 have HOR15 := n3_
 have HOR19 := n4_
 have HOR24 := n5_
 have HOR27 := n6_
 have UPR6 := n7_
 have UPR9 := n8_
 have UPR13 := n9_
 have UPR15 := n10_
 have UPR19 := n11_
 have UPR24 := n12_
 have UPR27 := n13_
 have BKgb1 := n14_
 have BKgb2 := n15_
 have BKgb16 := n16_
 have BKgb20 := n17_
 have GUgb1 := n18_
 have GUgb2 := n19_
 have GUgb16 := n20_
 have GUgb20 := n21_
 have HB := n22_
 have HBM := n23_
 have HOR31 := n24_
 have UPR31 := n25_
 have NRR6_R31 := n26_
 have NRR31_R6 := n27_
 have NRR9_R31 := n28_
 have NRR31_R9 := n29_
 have NRR13_R31 := n30_
 have NRR31_R13 := n31_
 have NRR15_R31 := n32_
 have NRR31_R15 := n33_
 have NRR19_R31 := n34_
 have NRR31_R19 := n35_
 have NRR24_R31 := n36_
 have NRR31_R24 := n37_
 have NRR27_R31 := n38_
 have NRR31_R27 := n39_
 have NER31_gb1 := n40_
 have NER31_gb2 := n41_
 have NER31_gb16 := n42_
 have NER31_gb20 := n43_
 clear n0_ n1_ n2_ n3_ n4_ n5_ n6_ n7_ n8_ n9_ n10_ n11_ n12_ n13_ n14_ n15_ n16_ n17_ n18_ n19_ n20_ n21_ n22_ n23_ n24_ n25_ n26_ n27_ n28_ n29_ n30_ n31_ n32_ n33_ n34_ n35_ n36_ n37_ n38_ n39_ n40_ n41_ n42_ n43_
 clear hb
 clear hoR31 hloR31 hhiR31
 obtain ⟨AR31, cR31, eqR31⟩ := Kd.R_slice HOR31.out
 subst eqR31
 refine hK.out _ _ ⟨(blk_cell BKgb20.out 0).trans rfl, (blk_cell BKgb20.out 1).trans rfl, (blk_cell BKgb2.out 0).trans rfl, (blk_cell BKgb2.out 1).trans rfl⟩ (fun hHeld => ?_)
 clear hK K
 refine norm_ (a' := ?_) ?_ ?_
 rotate_left
 ·show Act.put _ (some 75) _ = _
  simp only [Act.put, List.setIfInBounds_toArray, List.set_cons_zero, List.set_cons_succ, i64_w, i32_w]
  rfl
 refine one_ (i := 3) (N := some 76) #[true, true, true, true, false] rfl rfl (by kernel_rfl) (by decide) (fun K hK => ?_)
 refine goes_ Try.func18 (by kernel_rfl) rfl #[.agg #[.int .i64 t17, .slice AR19 t18.length cR19], .agg #[.int .i64 t29, .slice AR31 t30.length cR31]] (by rfl) rfl rfl (by (try simp only [List.map_toArray, List.map_cons, List.map_nil]); first | done | rfl) ?_
 (with_reducible refine (laws_eqKernel.calls k t17 _ _ t18 t29 _ _ t30 true _ ?side1 ?side2 ?side3 ?side4 E19.out).mono ?_)
 (case side1 => exact (Kd.R_reads' HOR19.out).2.2)
 (case side2 => exact (Kd.R_reads' HOR19.out).2.1)
 (case side3 => exact (Kd.R_reads' HOR31.out).2.2)
 (case side4 => exact (Kd.R_reads' HOR31.out).2.1)
 rintro e w_22 ⟨rfl, hb⟩
 refine ⟨_, rfl, ?_⟩
 have n0_ := Aside0.mk (Kd.S_below HOR6.out hb)
 have n1_ := Aside0.mk (Kd.R_below HOR9.out hb)
 have n2_ := Aside0.mk (Kd.S_below HOR13.out hb)
 have n3_ := Aside0.mk (Kd.S_below HOR15.out hb)
 have n4_ := Aside0.mk (Kd.R_below HOR19.out hb)
 have n5_ := Aside0.mk (Kd.S_below HOR24.out hb)
 have n6_ := Aside0.mk (Kd.S_below HOR27.out hb)
 have n7_ := Aside0.mk (Kd.R_below HOR31.out hb)
 have n8_ := Aside0.mk (Nat.le_trans UPR6.out hb.size)
 have n9_ := Aside0.mk (Nat.le_trans UPR9.out hb.size)
 have n10_ := Aside0.mk (Nat.le_trans UPR13.out hb.size)
 have n11_ := Aside0.mk (Nat.le_trans UPR15.out hb.size)
 have n12_ := Aside0.mk (Nat.le_trans UPR19.out hb.size)
 have n13_ := Aside0.mk (Nat.le_trans UPR24.out hb.size)
 have n14_ := Aside0.mk (Nat.le_trans UPR27.out hb.size)
 have n15_ := Aside0.mk (Nat.le_trans UPR31.out hb.size)
 have n16_ := Aside0.mk (blk_below (g := gb1) BKgb1.out hb)
 have n17_ := Aside0.mk (blk_below (g := gb2) BKgb2.out hb)
 have n18_ := Aside0.mk (blk_below (g := gb16) BKgb16.out hb)
 have n19_ := Aside0.mk (blk_below (g := gb20) BKgb20.out hb)
 have n20_ := Aside0.mk (Nat.lt_of_lt_of_le GUgb1.out hb.size)
 have n21_ := Aside0.mk (Nat.lt_of_lt_of_le GUgb2.out hb.size)
 have n22_ := Aside0.mk (Nat.lt_of_lt_of_le GUgb16.out hb.size)
 have n23_ := Aside0.mk (Nat.lt_of_lt_of_le GUgb20.out hb.size)
 have n24_ := Aside0.mk (below_step HB.out hb)
 have n25_ := Aside0.mk (below_step HBM.out hb)
 clear HOR6
 clear HOR9
 clear HOR13
 clear HOR15
 clear HOR19
 clear HOR24
 clear HOR27
 clear HOR31
 clear UPR6
 clear UPR9
 clear UPR13
 clear UPR15
 clear UPR19
 clear UPR24
 clear UPR27
 clear UPR31
 clear BKgb1
 clear BKgb2
 clear BKgb16
 clear BKgb20
 clear GUgb1
 clear GUgb2
 clear GUgb16
 clear GUgb20
 clear HB
 clear HBM
 have HOR6 := n0_
 have HOR9 := n1_
 have HOR13 := n2_
 have HOR15 := n3_
 have HOR19 := n4_
 have HOR24 := n5_
 have HOR27 := n6_
 have HOR31 := n7_
 have UPR6 := n8_
 have UPR9 := n9_
 have UPR13 := n10_
 have UPR15 := n11_
 have UPR19 := n12_
 have UPR24 := n13_
 have UPR27 := n14_
 have UPR31 := n15_
 have BKgb1 := n16_
 have BKgb2 := n17_
 have BKgb16 := n18_
 have BKgb20 := n19_
 have GUgb1 := n20_
 have GUgb2 := n21_
 have GUgb16 := n22_
 have GUgb20 := n23_
 have HB := n24_
 have HBM := n25_
 clear n0_ n1_ n2_ n3_ n4_ n5_ n6_ n7_ n8_ n9_ n10_ n11_ n12_ n13_ n14_ n15_ n16_ n17_ n18_ n19_ n20_ n21_ n22_ n23_ n24_ n25_
 clear hb
 refine hK.out _ _ ⟨(blk_cell BKgb20.out 0).trans rfl, (blk_cell BKgb20.out 1).trans rfl, (blk_cell BKgb2.out 0).trans rfl, (blk_cell BKgb2.out 1).trans rfl⟩ (fun hHeld => ?_)
 clear hK K
 refine norm_ (a' := ?_) ?_ ?_
 rotate_left
 ·show Act.put _ (some 76) _ = _
  simp only [Act.put, List.setIfInBounds_toArray, List.set_cons_zero, List.set_cons_succ, i64_w, i32_w]
  rfl
 refine pure_ (i := 4) (N := some 77) (v := ?_) (a' := ?_) #[true, true, true, true, true] rfl rfl (by kernel_rfl) (fun _ _ _ h => h) (Or.inl ⟨by rfl, ?_⟩) ?_ ?_
 rotate_left
 ·intro w'
  go_simp
  with_reducible rfl
 rotate_left
 ·simp only [Act.put, List.setIfInBounds_toArray, List.set_cons_zero, List.set_cons_succ, i64_w, i32_w]
  rfl
 refine done_ (by kernel_rfl) ?_
 (try clear hczgb1_0)
 (try clear hfzgb1_0)
 (try clear hczgb2_0)
 (try clear hfzgb2_0)
 (try clear hczgb2_1)
 (try clear hfzgb2_1)
 (try clear hczgb16_0)
 (try clear hfzgb16_0)
 (try clear hczgb20_0)
 (try clear hfzgb20_0)
 (try clear hczgb20_1)
 (try clear hfzgb20_1)
 have hczgb1_0 : w_22.cell? ⟨gb1, 0, none⟩ = some (.slice A0_0 l0_0.length c0_0) := (blk_cell BKgb1.out 0).trans rfl
 have hfzgb1_0 := blk_frozen BKgb1.out 0
 have hczgb2_0 : w_22.cell? ⟨gb2, 0, none⟩ = some (.int .i64 a1_0) := (blk_cell BKgb2.out 0).trans rfl
 have hfzgb2_0 := blk_frozen BKgb2.out 0
 have hczgb2_1 : w_22.cell? ⟨gb2, 1, none⟩ = some (.slice A1_1 l1_1.length c1_1) := (blk_cell BKgb2.out 1).trans rfl
 have hfzgb2_1 := blk_frozen BKgb2.out 1
 have hczgb16_0 : w_22.cell? ⟨gb16, 0, none⟩ = some (.slice AR15 t14.length cR15) := (blk_cell BKgb16.out 0).trans rfl
 have hfzgb16_0 := blk_frozen BKgb16.out 0
 have hczgb20_0 : w_22.cell? ⟨gb20, 0, none⟩ = some (.int .i64 t17) := (blk_cell BKgb20.out 0).trans rfl
 have hfzgb20_0 := blk_frozen BKgb20.out 0
 have hczgb20_1 : w_22.cell? ⟨gb20, 1, none⟩ = some (.slice AR19 t18.length cR19) := (blk_cell BKgb20.out 1).trans rfl
 have hfzgb20_1 := blk_frozen BKgb20.out 1
 go_wp2_with (first | ((with_reducible refine gate_callee (f := 19) rfl ?_); refine goesL_ (some 80) rfl rfl Try.func19 (by kernel_rfl) rfl #[.agg #[.slice AR15 t14.length cR15], .int .i64 1] rfl (by (try simp only [List.map_toArray, List.map_cons, List.map_nil]); first | done | rfl) ?_; (with_reducible refine (laws_markPicture.calls k (fun k_ => loR15 ≤ k_ ∧ k_ < hiR15) _ t14 1 t33 t34 w_8 _ ?side1 ?side2 E21.out).mono ?_); (case side1 => exact HBM.out); (case side2 => exact HOR15.out); rintro e w_23 ⟨rfl, hy, hb, hkp⟩; refine ⟨_, rfl, ?_⟩; have n0_ := Aside0.mk (Kd.S_kept HOR6.out hkp NRR6_R15.out); have n1_ := Aside0.mk (Nat.le_trans UPR6.out hkp.1); have n2_ := Aside0.mk (Kd.R_kept HOR9.out hkp NRR9_R15.out); have n3_ := Aside0.mk (Nat.le_trans UPR9.out hkp.1); have n4_ := Aside0.mk (Kd.S_kept HOR13.out hkp NRR13_R15.out); have n5_ := Aside0.mk (Nat.le_trans UPR13.out hkp.1); have n6_ := Aside0.mk (hy); have n7_ := Aside0.mk (Nat.le_trans UPR15.out hkp.1); have n8_ := Aside0.mk (Kd.R_kept HOR19.out hkp NRR19_R15.out); have n9_ := Aside0.mk (Nat.le_trans UPR19.out hkp.1); have n10_ := Aside0.mk (Kd.S_kept HOR24.out hkp NRR24_R15.out); have n11_ := Aside0.mk (Nat.le_trans UPR24.out hkp.1); have n12_ := Aside0.mk (Kd.S_kept HOR27.out hkp NRR27_R15.out); have n13_ := Aside0.mk (Nat.le_trans UPR27.out hkp.1); have n14_ := Aside0.mk (Kd.R_kept HOR31.out hkp NRR31_R15.out); have n15_ := Aside0.mk (Nat.le_trans UPR31.out hkp.1); have n16_ := Aside0.mk (blk_kept (g := gb1) BKgb1.out hkp (fun h_ => NER15_gb1.out _ h_ rfl)); have n17_ := Aside0.mk (Nat.lt_of_lt_of_le GUgb1.out hkp.1); have n18_ := Aside0.mk (blk_kept (g := gb2) BKgb2.out hkp (fun h_ => NER15_gb2.out _ h_ rfl)); have n19_ := Aside0.mk (Nat.lt_of_lt_of_le GUgb2.out hkp.1); have n20_ := Aside0.mk (blk_kept (g := gb16) BKgb16.out hkp (fun h_ => NER15_gb16.out _ h_ rfl)); have n21_ := Aside0.mk (Nat.lt_of_lt_of_le GUgb16.out hkp.1); have n22_ := Aside0.mk (blk_kept (g := gb20) BKgb20.out hkp (fun h_ => NER15_gb20.out _ h_ rfl)); have n23_ := Aside0.mk (Nat.lt_of_lt_of_le GUgb20.out hkp.1); have n24_ := Aside0.mk (below_step HWM.out hb); have n25_ := Aside0.mk (hb); clear HOR6; clear UPR6; clear HOR9; clear UPR9; clear HOR13; clear UPR13; clear HOR15; clear UPR15; clear HOR19; clear UPR19; clear HOR24; clear UPR24; clear HOR27; clear UPR27; clear HOR31; clear UPR31; clear BKgb1; clear GUgb1; clear BKgb2; clear GUgb2; clear BKgb16; clear GUgb16; clear BKgb20; clear GUgb20; clear HB; clear HBM; have HOR6 := n0_; have UPR6 := n1_; have HOR9 := n2_; have UPR9 := n3_; have HOR13 := n4_; have UPR13 := n5_; have HOR15 := n6_; have UPR15 := n7_; have HOR19 := n8_; have UPR19 := n9_; have HOR24 := n10_; have UPR24 := n11_; have HOR27 := n12_; have UPR27 := n13_; have HOR31 := n14_; have UPR31 := n15_; have BKgb1 := n16_; have GUgb1 := n17_; have BKgb2 := n18_; have GUgb2 := n19_; have BKgb16 := n20_; have GUgb16 := n21_; have BKgb20 := n22_; have GUgb20 := n23_; have HB := n24_; have HBM := n25_; clear n0_ n1_ n2_ n3_ n4_ n5_ n6_ n7_ n8_ n9_ n10_ n11_ n12_ n13_ n14_ n15_ n16_ n17_ n18_ n19_ n20_ n21_ n22_ n23_ n24_ n25_; clear hy hb hkp; (try clear hczgb1_0); (try clear hfzgb1_0); (try clear hczgb2_0); (try clear hfzgb2_0); (try clear hczgb2_1); (try clear hfzgb2_1); (try clear hczgb16_0); (try clear hfzgb16_0); (try clear hczgb20_0); (try clear hfzgb20_0); (try clear hczgb20_1); (try clear hfzgb20_1); have hczgb1_0 : w_23.cell? ⟨gb1, 0, none⟩ = some (.slice A0_0 l0_0.length c0_0) := (blk_cell BKgb1.out 0).trans rfl; have hfzgb1_0 := blk_frozen BKgb1.out 0; have hczgb2_0 : w_23.cell? ⟨gb2, 0, none⟩ = some (.int .i64 a1_0) := (blk_cell BKgb2.out 0).trans rfl; have hfzgb2_0 := blk_frozen BKgb2.out 0; have hczgb2_1 : w_23.cell? ⟨gb2, 1, none⟩ = some (.slice A1_1 l1_1.length c1_1) := (blk_cell BKgb2.out 1).trans rfl; have hfzgb2_1 := blk_frozen BKgb2.out 1; have hczgb16_0 : w_23.cell? ⟨gb16, 0, none⟩ = some (.slice AR15 t14.length cR15) := (blk_cell BKgb16.out 0).trans rfl; have hfzgb16_0 := blk_frozen BKgb16.out 0; have hczgb20_0 : w_23.cell? ⟨gb20, 0, none⟩ = some (.int .i64 t17) := (blk_cell BKgb20.out 0).trans rfl; have hfzgb20_0 := blk_frozen BKgb20.out 0; have hczgb20_1 : w_23.cell? ⟨gb20, 1, none⟩ = some (.slice AR19 t18.length cR19) := (blk_cell BKgb20.out 1).trans rfl; have hfzgb20_1 := blk_frozen BKgb20.out 1) | ((with_reducible refine gate_callee (f := 20) rfl ?_); refine goesL_ (some 83) rfl rfl Try.func20 (by kernel_rfl) rfl #[.agg #[.int .i64 t17, .slice AR19 t18.length cR19], .int .i64 t33] rfl (by (try simp only [List.map_toArray, List.map_cons, List.map_nil]); first | done | rfl) ?_; (with_reducible refine (laws_markKernel.calls k t17 (fun k_ => loR19 ≤ k_ ∧ k_ < hiR19) _ t18 t33 t35 t36 w_8 _ ?side1 ?side2 E22.out).mono ?_); (case side1 => exact HBM.out); (case side2 => exact HOR19.out); rintro e w_24 ⟨rfl, hy, hb, hkp⟩; refine ⟨_, rfl, ?_⟩; have n0_ := Aside0.mk (Kd.S_kept HOR6.out hkp NRR6_R19.out); have n1_ := Aside0.mk (Nat.le_trans UPR6.out hkp.1); have n2_ := Aside0.mk (Kd.R_kept HOR9.out hkp NRR9_R19.out); have n3_ := Aside0.mk (Nat.le_trans UPR9.out hkp.1); have n4_ := Aside0.mk (Kd.S_kept HOR13.out hkp NRR13_R19.out); have n5_ := Aside0.mk (Nat.le_trans UPR13.out hkp.1); have n6_ := Aside0.mk (Kd.S_kept HOR15.out hkp NRR15_R19.out); have n7_ := Aside0.mk (Nat.le_trans UPR15.out hkp.1); have n8_ := Aside0.mk (Kd.R_reok rfl hy (fun k_ e_ => HOR19.out.1 k_ e_)); have n9_ := Aside0.mk (Nat.le_trans UPR19.out hkp.1); have n10_ := Aside0.mk (Kd.S_kept HOR24.out hkp NRR24_R19.out); have n11_ := Aside0.mk (Nat.le_trans UPR24.out hkp.1); have n12_ := Aside0.mk (Kd.S_kept HOR27.out hkp NRR27_R19.out); have n13_ := Aside0.mk (Nat.le_trans UPR27.out hkp.1); have n14_ := Aside0.mk (Kd.R_kept HOR31.out hkp NRR31_R19.out); have n15_ := Aside0.mk (Nat.le_trans UPR31.out hkp.1); have n16_ := Aside0.mk (blk_kept (g := gb1) BKgb1.out hkp (fun h_ => NER19_gb1.out _ h_ rfl)); have n17_ := Aside0.mk (Nat.lt_of_lt_of_le GUgb1.out hkp.1); have n18_ := Aside0.mk (blk_kept (g := gb2) BKgb2.out hkp (fun h_ => NER19_gb2.out _ h_ rfl)); have n19_ := Aside0.mk (Nat.lt_of_lt_of_le GUgb2.out hkp.1); have n20_ := Aside0.mk (blk_kept (g := gb16) BKgb16.out hkp (fun h_ => NER19_gb16.out _ h_ rfl)); have n21_ := Aside0.mk (Nat.lt_of_lt_of_le GUgb16.out hkp.1); have n22_ := Aside0.mk (blk_kept (g := gb20) BKgb20.out hkp (fun h_ => NER19_gb20.out _ h_ rfl)); have n23_ := Aside0.mk (Nat.lt_of_lt_of_le GUgb20.out hkp.1); have n24_ := Aside0.mk (below_step HWM.out hb); have n25_ := Aside0.mk (hb); clear HOR6; clear UPR6; clear HOR9; clear UPR9; clear HOR13; clear UPR13; clear HOR15; clear UPR15; clear HOR19; clear UPR19; clear HOR24; clear UPR24; clear HOR27; clear UPR27; clear HOR31; clear UPR31; clear BKgb1; clear GUgb1; clear BKgb2; clear GUgb2; clear BKgb16; clear GUgb16; clear BKgb20; clear GUgb20; clear HB; clear HBM; have HOR6 := n0_; have UPR6 := n1_; have HOR9 := n2_; have UPR9 := n3_; have HOR13 := n4_; have UPR13 := n5_; have HOR15 := n6_; have UPR15 := n7_; have HOR19 := n8_; have UPR19 := n9_; have HOR24 := n10_; have UPR24 := n11_; have HOR27 := n12_; have UPR27 := n13_; have HOR31 := n14_; have UPR31 := n15_; have BKgb1 := n16_; have GUgb1 := n17_; have BKgb2 := n18_; have GUgb2 := n19_; have BKgb16 := n20_; have GUgb16 := n21_; have BKgb20 := n22_; have GUgb20 := n23_; have HB := n24_; have HBM := n25_; clear n0_ n1_ n2_ n3_ n4_ n5_ n6_ n7_ n8_ n9_ n10_ n11_ n12_ n13_ n14_ n15_ n16_ n17_ n18_ n19_ n20_ n21_ n22_ n23_ n24_ n25_; clear hy hb hkp; (try clear hczgb1_0); (try clear hfzgb1_0); (try clear hczgb2_0); (try clear hfzgb2_0); (try clear hczgb2_1); (try clear hfzgb2_1); (try clear hczgb16_0); (try clear hfzgb16_0); (try clear hczgb20_0); (try clear hfzgb20_0); (try clear hczgb20_1); (try clear hfzgb20_1); have hczgb1_0 : w_24.cell? ⟨gb1, 0, none⟩ = some (.slice A0_0 l0_0.length c0_0) := (blk_cell BKgb1.out 0).trans rfl; have hfzgb1_0 := blk_frozen BKgb1.out 0; have hczgb2_0 : w_24.cell? ⟨gb2, 0, none⟩ = some (.int .i64 a1_0) := (blk_cell BKgb2.out 0).trans rfl; have hfzgb2_0 := blk_frozen BKgb2.out 0; have hczgb2_1 : w_24.cell? ⟨gb2, 1, none⟩ = some (.slice A1_1 l1_1.length c1_1) := (blk_cell BKgb2.out 1).trans rfl; have hfzgb2_1 := blk_frozen BKgb2.out 1; have hczgb16_0 : w_24.cell? ⟨gb16, 0, none⟩ = some (.slice AR15 t14.length cR15) := (blk_cell BKgb16.out 0).trans rfl; have hfzgb16_0 := blk_frozen BKgb16.out 0; have hczgb20_0 : w_24.cell? ⟨gb20, 0, none⟩ = some (.int .i64 t17) := (blk_cell BKgb20.out 0).trans rfl; have hfzgb20_0 := blk_frozen BKgb20.out 0; have hczgb20_1 : w_24.cell? ⟨gb20, 1, none⟩ = some (.slice AR19 t18.length cR19) := (blk_cell BKgb20.out 1).trans rfl; have hfzgb20_1 := blk_frozen BKgb20.out 1) | (go_at_call 8; (with_reducible refine (laws_eqInt64SS.calls k _ _ t21 _ _ t10 true _ ?side1 ?side2 ?side3 ?side4 E24.out).mono ?_); (case side1 => exact (Kd.S_reads' HOR24.out).2.2); (case side2 => exact (Kd.S_reads' HOR24.out).2.1); (case side3 => exact (Kd.S_reads' HOR13.out).2.2); (case side4 => exact (Kd.S_reads' HOR13.out).2.1); rintro e w_25 ⟨rfl, hd⟩; have hb := Drawn0.below hd; have n0_ := Aside0.mk (Kd.S_below HOR6.out hb); have n1_ := Aside0.mk (Kd.R_below HOR9.out hb); have n2_ := Aside0.mk (Kd.S_below HOR13.out hb); have n3_ := Aside0.mk (Kd.S_below HOR15.out hb); have n4_ := Aside0.mk (Kd.R_below HOR19.out hb); have n5_ := Aside0.mk (Kd.S_below HOR24.out hb); have n6_ := Aside0.mk (Kd.S_below HOR27.out hb); have n7_ := Aside0.mk (Kd.R_below HOR31.out hb); have n8_ := Aside0.mk (Nat.le_trans UPR6.out hb.size); have n9_ := Aside0.mk (Nat.le_trans UPR9.out hb.size); have n10_ := Aside0.mk (Nat.le_trans UPR13.out hb.size); have n11_ := Aside0.mk (Nat.le_trans UPR15.out hb.size); have n12_ := Aside0.mk (Nat.le_trans UPR19.out hb.size); have n13_ := Aside0.mk (Nat.le_trans UPR24.out hb.size); have n14_ := Aside0.mk (Nat.le_trans UPR27.out hb.size); have n15_ := Aside0.mk (Nat.le_trans UPR31.out hb.size); have n16_ := Aside0.mk (blk_below (g := gb1) BKgb1.out hb); have n17_ := Aside0.mk (blk_below (g := gb2) BKgb2.out hb); have n18_ := Aside0.mk (blk_below (g := gb16) BKgb16.out hb); have n19_ := Aside0.mk (blk_below (g := gb20) BKgb20.out hb); have n20_ := Aside0.mk (Nat.lt_of_lt_of_le GUgb1.out hb.size); have n21_ := Aside0.mk (Nat.lt_of_lt_of_le GUgb2.out hb.size); have n22_ := Aside0.mk (Nat.lt_of_lt_of_le GUgb16.out hb.size); have n23_ := Aside0.mk (Nat.lt_of_lt_of_le GUgb20.out hb.size); have n24_ := Aside0.mk (below_step HB.out hb); have n25_ := Aside0.mk (below_step HBM.out hb); clear HOR6; clear HOR9; clear HOR13; clear HOR15; clear HOR19; clear HOR24; clear HOR27; clear HOR31; clear UPR6; clear UPR9; clear UPR13; clear UPR15; clear UPR19; clear UPR24; clear UPR27; clear UPR31; clear BKgb1; clear BKgb2; clear BKgb16; clear BKgb20; clear GUgb1; clear GUgb2; clear GUgb16; clear GUgb20; clear HB; clear HBM; have HOR6 := n0_; have HOR9 := n1_; have HOR13 := n2_; have HOR15 := n3_; have HOR19 := n4_; have HOR24 := n5_; have HOR27 := n6_; have HOR31 := n7_; have UPR6 := n8_; have UPR9 := n9_; have UPR13 := n10_; have UPR15 := n11_; have UPR19 := n12_; have UPR24 := n13_; have UPR27 := n14_; have UPR31 := n15_; have BKgb1 := n16_; have BKgb2 := n17_; have BKgb16 := n18_; have BKgb20 := n19_; have GUgb1 := n20_; have GUgb2 := n21_; have GUgb16 := n22_; have GUgb20 := n23_; have HB := n24_; have HBM := n25_; clear n0_ n1_ n2_ n3_ n4_ n5_ n6_ n7_ n8_ n9_ n10_ n11_ n12_ n13_ n14_ n15_ n16_ n17_ n18_ n19_ n20_ n21_ n22_ n23_ n24_ n25_; clear hb; clear hd; (try clear hczgb1_0); (try clear hfzgb1_0); (try clear hczgb2_0); (try clear hfzgb2_0); (try clear hczgb2_1); (try clear hfzgb2_1); (try clear hczgb16_0); (try clear hfzgb16_0); (try clear hczgb20_0); (try clear hfzgb20_0); (try clear hczgb20_1); (try clear hfzgb20_1); have hczgb1_0 : w_25.cell? ⟨gb1, 0, none⟩ = some (.slice A0_0 l0_0.length c0_0) := (blk_cell BKgb1.out 0).trans rfl; have hfzgb1_0 := blk_frozen BKgb1.out 0; have hczgb2_0 : w_25.cell? ⟨gb2, 0, none⟩ = some (.int .i64 a1_0) := (blk_cell BKgb2.out 0).trans rfl; have hfzgb2_0 := blk_frozen BKgb2.out 0; have hczgb2_1 : w_25.cell? ⟨gb2, 1, none⟩ = some (.slice A1_1 l1_1.length c1_1) := (blk_cell BKgb2.out 1).trans rfl; have hfzgb2_1 := blk_frozen BKgb2.out 1; have hczgb16_0 : w_25.cell? ⟨gb16, 0, none⟩ = some (.slice AR15 t14.length cR15) := (blk_cell BKgb16.out 0).trans rfl; have hfzgb16_0 := blk_frozen BKgb16.out 0; have hczgb20_0 : w_25.cell? ⟨gb20, 0, none⟩ = some (.int .i64 t17) := (blk_cell BKgb20.out 0).trans rfl; have hfzgb20_0 := blk_frozen BKgb20.out 0; have hczgb20_1 : w_25.cell? ⟨gb20, 1, none⟩ = some (.slice AR19 t18.length cR19) := (blk_cell BKgb20.out 1).trans rfl; have hfzgb20_1 := blk_frozen BKgb20.out 1) | ((with_reducible refine gate_callee (f := 9) rfl ?_); refine goesL_ (some 104) rfl rfl Try.func9 (by kernel_rfl) rfl #[.slice AR24 t21.length cR24, .int .i64 1] rfl (by (try simp only [List.map_toArray, List.map_cons, List.map_nil]); first | done | rfl) ?_; (with_reducible refine (laws_markInt64SS.calls k (fun k_ => loR24 ≤ k_ ∧ k_ < hiR24) _ t21 1 t51 t39 w_8 _ ?side1 ?side2 E26.out).mono ?_); (case side1 => exact HBM.out); (case side2 => exact HOR24.out); rintro e w_26 ⟨rfl, hy, hb, hkp⟩; refine ⟨_, rfl, ?_⟩; have n0_ := Aside0.mk (Kd.S_kept HOR6.out hkp NRR6_R24.out); have n1_ := Aside0.mk (Nat.le_trans UPR6.out hkp.1); have n2_ := Aside0.mk (Kd.R_kept HOR9.out hkp NRR9_R24.out); have n3_ := Aside0.mk (Nat.le_trans UPR9.out hkp.1); have n4_ := Aside0.mk (Kd.S_kept HOR13.out hkp NRR13_R24.out); have n5_ := Aside0.mk (Nat.le_trans UPR13.out hkp.1); have n6_ := Aside0.mk (Kd.S_kept HOR15.out hkp NRR15_R24.out); have n7_ := Aside0.mk (Nat.le_trans UPR15.out hkp.1); have n8_ := Aside0.mk (Kd.R_kept HOR19.out hkp NRR19_R24.out); have n9_ := Aside0.mk (Nat.le_trans UPR19.out hkp.1); have n10_ := Aside0.mk (hy); have n11_ := Aside0.mk (Nat.le_trans UPR24.out hkp.1); have n12_ := Aside0.mk (Kd.S_kept HOR27.out hkp NRR27_R24.out); have n13_ := Aside0.mk (Nat.le_trans UPR27.out hkp.1); have n14_ := Aside0.mk (Kd.R_kept HOR31.out hkp NRR31_R24.out); have n15_ := Aside0.mk (Nat.le_trans UPR31.out hkp.1); have n16_ := Aside0.mk (blk_kept (g := gb1) BKgb1.out hkp (fun h_ => NER24_gb1.out _ h_ rfl)); have n17_ := Aside0.mk (Nat.lt_of_lt_of_le GUgb1.out hkp.1); have n18_ := Aside0.mk (blk_kept (g := gb2) BKgb2.out hkp (fun h_ => NER24_gb2.out _ h_ rfl)); have n19_ := Aside0.mk (Nat.lt_of_lt_of_le GUgb2.out hkp.1); have n20_ := Aside0.mk (blk_kept (g := gb16) BKgb16.out hkp (fun h_ => NER24_gb16.out _ h_ rfl)); have n21_ := Aside0.mk (Nat.lt_of_lt_of_le GUgb16.out hkp.1); have n22_ := Aside0.mk (blk_kept (g := gb20) BKgb20.out hkp (fun h_ => NER24_gb20.out _ h_ rfl)); have n23_ := Aside0.mk (Nat.lt_of_lt_of_le GUgb20.out hkp.1); have n24_ := Aside0.mk (below_step HWM.out hb); have n25_ := Aside0.mk (hb); clear HOR6; clear UPR6; clear HOR9; clear UPR9; clear HOR13; clear UPR13; clear HOR15; clear UPR15; clear HOR19; clear UPR19; clear HOR24; clear UPR24; clear HOR27; clear UPR27; clear HOR31; clear UPR31; clear BKgb1; clear GUgb1; clear BKgb2; clear GUgb2; clear BKgb16; clear GUgb16; clear BKgb20; clear GUgb20; clear HB; clear HBM; have HOR6 := n0_; have UPR6 := n1_; have HOR9 := n2_; have UPR9 := n3_; have HOR13 := n4_; have UPR13 := n5_; have HOR15 := n6_; have UPR15 := n7_; have HOR19 := n8_; have UPR19 := n9_; have HOR24 := n10_; have UPR24 := n11_; have HOR27 := n12_; have UPR27 := n13_; have HOR31 := n14_; have UPR31 := n15_; have BKgb1 := n16_; have GUgb1 := n17_; have BKgb2 := n18_; have GUgb2 := n19_; have BKgb16 := n20_; have GUgb16 := n21_; have BKgb20 := n22_; have GUgb20 := n23_; have HB := n24_; have HBM := n25_; clear n0_ n1_ n2_ n3_ n4_ n5_ n6_ n7_ n8_ n9_ n10_ n11_ n12_ n13_ n14_ n15_ n16_ n17_ n18_ n19_ n20_ n21_ n22_ n23_ n24_ n25_; clear hy hb hkp; (try clear hczgb1_0); (try clear hfzgb1_0); (try clear hczgb2_0); (try clear hfzgb2_0); (try clear hczgb2_1); (try clear hfzgb2_1); (try clear hczgb16_0); (try clear hfzgb16_0); (try clear hczgb20_0); (try clear hfzgb20_0); (try clear hczgb20_1); (try clear hfzgb20_1); have hczgb1_0 : w_26.cell? ⟨gb1, 0, none⟩ = some (.slice A0_0 l0_0.length c0_0) := (blk_cell BKgb1.out 0).trans rfl; have hfzgb1_0 := blk_frozen BKgb1.out 0; have hczgb2_0 : w_26.cell? ⟨gb2, 0, none⟩ = some (.int .i64 a1_0) := (blk_cell BKgb2.out 0).trans rfl; have hfzgb2_0 := blk_frozen BKgb2.out 0; have hczgb2_1 : w_26.cell? ⟨gb2, 1, none⟩ = some (.slice A1_1 l1_1.length c1_1) := (blk_cell BKgb2.out 1).trans rfl; have hfzgb2_1 := blk_frozen BKgb2.out 1; have hczgb16_0 : w_26.cell? ⟨gb16, 0, none⟩ = some (.slice AR15 t14.length cR15) := (blk_cell BKgb16.out 0).trans rfl; have hfzgb16_0 := blk_frozen BKgb16.out 0; have hczgb20_0 : w_26.cell? ⟨gb20, 0, none⟩ = some (.int .i64 t17) := (blk_cell BKgb20.out 0).trans rfl; have hfzgb20_0 := blk_frozen BKgb20.out 0; have hczgb20_1 : w_26.cell? ⟨gb20, 1, none⟩ = some (.slice AR19 t18.length cR19) := (blk_cell BKgb20.out 1).trans rfl; have hfzgb20_1 := blk_frozen BKgb20.out 1) | ((with_reducible refine gate_callee (f := 10) rfl ?_); refine goesL_ (some 107) rfl rfl Try.func10 (by kernel_rfl) rfl #[.slice AR24 t39.length cR24, .int .i64 1] rfl (by (try simp only [List.map_toArray, List.map_cons, List.map_nil]); first | done | rfl | (simp only [show t39.length = t21.length from (Kd.S_reads' HOR24.out).1.symm]; rfl)) ?_; (with_reducible refine (laws_heldInt64SS.calls k _ _ t39 1 t51 _ ?side1 ?side2 E27.out).mono ?_); (case side1 => exact (Kd.S_reads' HOR24.out).2.2); (case side2 => exact (fun h_ => h_.1 ▸ h_.2.1) (Kd.S_reads' HOR24.out)); rintro e w_27 ⟨rfl, hd⟩; have hb := Drawn0.below hd; refine ⟨_, rfl, ?_⟩; have n0_ := Aside0.mk (Kd.S_below HOR6.out hb); have n1_ := Aside0.mk (Kd.R_below HOR9.out hb); have n2_ := Aside0.mk (Kd.S_below HOR13.out hb); have n3_ := Aside0.mk (Kd.S_below HOR15.out hb); have n4_ := Aside0.mk (Kd.R_below HOR19.out hb); have n5_ := Aside0.mk (Kd.S_below HOR24.out hb); have n6_ := Aside0.mk (Kd.S_below HOR27.out hb); have n7_ := Aside0.mk (Kd.R_below HOR31.out hb); have n8_ := Aside0.mk (Nat.le_trans UPR6.out hb.size); have n9_ := Aside0.mk (Nat.le_trans UPR9.out hb.size); have n10_ := Aside0.mk (Nat.le_trans UPR13.out hb.size); have n11_ := Aside0.mk (Nat.le_trans UPR15.out hb.size); have n12_ := Aside0.mk (Nat.le_trans UPR19.out hb.size); have n13_ := Aside0.mk (Nat.le_trans UPR24.out hb.size); have n14_ := Aside0.mk (Nat.le_trans UPR27.out hb.size); have n15_ := Aside0.mk (Nat.le_trans UPR31.out hb.size); have n16_ := Aside0.mk (blk_below (g := gb1) BKgb1.out hb); have n17_ := Aside0.mk (blk_below (g := gb2) BKgb2.out hb); have n18_ := Aside0.mk (blk_below (g := gb16) BKgb16.out hb); have n19_ := Aside0.mk (blk_below (g := gb20) BKgb20.out hb); have n20_ := Aside0.mk (Nat.lt_of_lt_of_le GUgb1.out hb.size); have n21_ := Aside0.mk (Nat.lt_of_lt_of_le GUgb2.out hb.size); have n22_ := Aside0.mk (Nat.lt_of_lt_of_le GUgb16.out hb.size); have n23_ := Aside0.mk (Nat.lt_of_lt_of_le GUgb20.out hb.size); have n24_ := Aside0.mk (below_step HB.out hb); have n25_ := Aside0.mk (below_step HBM.out hb); clear HOR6; clear HOR9; clear HOR13; clear HOR15; clear HOR19; clear HOR24; clear HOR27; clear HOR31; clear UPR6; clear UPR9; clear UPR13; clear UPR15; clear UPR19; clear UPR24; clear UPR27; clear UPR31; clear BKgb1; clear BKgb2; clear BKgb16; clear BKgb20; clear GUgb1; clear GUgb2; clear GUgb16; clear GUgb20; clear HB; clear HBM; have HOR6 := n0_; have HOR9 := n1_; have HOR13 := n2_; have HOR15 := n3_; have HOR19 := n4_; have HOR24 := n5_; have HOR27 := n6_; have HOR31 := n7_; have UPR6 := n8_; have UPR9 := n9_; have UPR13 := n10_; have UPR15 := n11_; have UPR19 := n12_; have UPR24 := n13_; have UPR27 := n14_; have UPR31 := n15_; have BKgb1 := n16_; have BKgb2 := n17_; have BKgb16 := n18_; have BKgb20 := n19_; have GUgb1 := n20_; have GUgb2 := n21_; have GUgb16 := n22_; have GUgb20 := n23_; have HB := n24_; have HBM := n25_; clear n0_ n1_ n2_ n3_ n4_ n5_ n6_ n7_ n8_ n9_ n10_ n11_ n12_ n13_ n14_ n15_ n16_ n17_ n18_ n19_ n20_ n21_ n22_ n23_ n24_ n25_; clear hb; clear hd; (try clear hczgb1_0); (try clear hfzgb1_0); (try clear hczgb2_0); (try clear hfzgb2_0); (try clear hczgb2_1); (try clear hfzgb2_1); (try clear hczgb16_0); (try clear hfzgb16_0); (try clear hczgb20_0); (try clear hfzgb20_0); (try clear hczgb20_1); (try clear hfzgb20_1); have hczgb1_0 : w_27.cell? ⟨gb1, 0, none⟩ = some (.slice A0_0 l0_0.length c0_0) := (blk_cell BKgb1.out 0).trans rfl; have hfzgb1_0 := blk_frozen BKgb1.out 0; have hczgb2_0 : w_27.cell? ⟨gb2, 0, none⟩ = some (.int .i64 a1_0) := (blk_cell BKgb2.out 0).trans rfl; have hfzgb2_0 := blk_frozen BKgb2.out 0; have hczgb2_1 : w_27.cell? ⟨gb2, 1, none⟩ = some (.slice A1_1 l1_1.length c1_1) := (blk_cell BKgb2.out 1).trans rfl; have hfzgb2_1 := blk_frozen BKgb2.out 1; have hczgb16_0 : w_27.cell? ⟨gb16, 0, none⟩ = some (.slice AR15 t14.length cR15) := (blk_cell BKgb16.out 0).trans rfl; have hfzgb16_0 := blk_frozen BKgb16.out 0; have hczgb20_0 : w_27.cell? ⟨gb20, 0, none⟩ = some (.int .i64 t17) := (blk_cell BKgb20.out 0).trans rfl; have hfzgb20_0 := blk_frozen BKgb20.out 0; have hczgb20_1 : w_27.cell? ⟨gb20, 1, none⟩ = some (.slice AR19 t18.length cR19) := (blk_cell BKgb20.out 1).trans rfl; have hfzgb20_1 := blk_frozen BKgb20.out 1))
 have n0_ := Aside0.mk (Kd.S_drew HOR6.out)
 have n1_ := Aside0.mk (Kd.R_drew HOR9.out)
 have n2_ := Aside0.mk (Kd.S_drew HOR13.out)
 have n3_ := Aside0.mk (Kd.S_drew HOR15.out)
 have n4_ := Aside0.mk (Kd.R_drew HOR19.out)
 have n5_ := Aside0.mk (Kd.S_drew HOR24.out)
 have n6_ := Aside0.mk (Kd.S_drew HOR27.out)
 have n7_ := Aside0.mk (Kd.R_drew HOR31.out)
 have n8_ := Aside0.mk (show hiR6 ≤ w_27.drew.heap.size from UPR6.out)
 have n9_ := Aside0.mk (show hiR9 ≤ w_27.drew.heap.size from UPR9.out)
 have n10_ := Aside0.mk (show hiR13 ≤ w_27.drew.heap.size from UPR13.out)
 have n11_ := Aside0.mk (show hiR15 ≤ w_27.drew.heap.size from UPR15.out)
 have n12_ := Aside0.mk (show hiR19 ≤ w_27.drew.heap.size from UPR19.out)
 have n13_ := Aside0.mk (show hiR24 ≤ w_27.drew.heap.size from UPR24.out)
 have n14_ := Aside0.mk (show hiR27 ≤ w_27.drew.heap.size from UPR27.out)
 have n15_ := Aside0.mk (show hiR31 ≤ w_27.drew.heap.size from UPR31.out)
 have n16_ := Aside0.mk (blk_drew BKgb1.out)
 have n17_ := Aside0.mk (blk_drew BKgb2.out)
 have n18_ := Aside0.mk (blk_drew BKgb16.out)
 have n19_ := Aside0.mk (blk_drew BKgb20.out)
 have n20_ := Aside0.mk (show gb1 < w_27.drew.heap.size from GUgb1.out)
 have n21_ := Aside0.mk (show gb2 < w_27.drew.heap.size from GUgb2.out)
 have n22_ := Aside0.mk (show gb16 < w_27.drew.heap.size from GUgb16.out)
 have n23_ := Aside0.mk (show gb20 < w_27.drew.heap.size from GUgb20.out)
 have n24_ := Aside0.mk (below_drew1 HB.out)
 have n25_ := Aside0.mk (below_drew1 HBM.out)
 clear HOR6
 clear HOR9
 clear HOR13
 clear HOR15
 clear HOR19
 clear HOR24
 clear HOR27
 clear HOR31
 clear UPR6
 clear UPR9
 clear UPR13
 clear UPR15
 clear UPR19
 clear UPR24
 clear UPR27
 clear UPR31
 clear BKgb1
 clear BKgb2
 clear BKgb16
 clear BKgb20
 clear GUgb1
 clear GUgb2
 clear GUgb16
 clear GUgb20
 clear HB
 clear HBM
 have HOR6 := n0_
 have HOR9 := n1_
 have HOR13 := n2_
 have HOR15 := n3_
 have HOR19 := n4_
 have HOR24 := n5_
 have HOR27 := n6_
 have HOR31 := n7_
 have UPR6 := n8_
 have UPR9 := n9_
 have UPR13 := n10_
 have UPR15 := n11_
 have UPR19 := n12_
 have UPR24 := n13_
 have UPR27 := n14_
 have UPR31 := n15_
 have BKgb1 := n16_
 have BKgb2 := n17_
 have BKgb16 := n18_
 have BKgb20 := n19_
 have GUgb1 := n20_
 have GUgb2 := n21_
 have GUgb16 := n22_
 have GUgb20 := n23_
 have HB := n24_
 have HBM := n25_
 clear n0_ n1_ n2_ n3_ n4_ n5_ n6_ n7_ n8_ n9_ n10_ n11_ n12_ n13_ n14_ n15_ n16_ n17_ n18_ n19_ n20_ n21_ n22_ n23_ n24_ n25_
 (try clear hczgb1_0); (try clear hfzgb1_0)
 (try clear hczgb2_0); (try clear hfzgb2_0)
 (try clear hczgb2_1); (try clear hfzgb2_1)
 (try clear hczgb16_0); (try clear hfzgb16_0)
 (try clear hczgb20_0); (try clear hfzgb20_0)
 (try clear hczgb20_1); (try clear hfzgb20_1)
 refine start_ (n := 13) (S := fun w' => w'.cell? ⟨gb1, 0, none⟩ = some (.slice A0_0 l0_0.length c0_0) ∧ w'.cell? ⟨gb2, 0, none⟩ = some (.int .i64 a1_0) ∧ w'.cell? ⟨gb2, 1, none⟩ = some (.slice A1_1 l1_1.length c1_1)) (ds := []) #[false, false, false, false, false, false, false, false, false, false, false, false, false] (by kernel_rfl) rfl rfl ⟨(blk_cell BKgb1.out 0).trans rfl, (blk_cell BKgb2.out 0).trans rfl, (blk_cell BKgb2.out 1).trans rfl⟩ (fun hHeld => ?_)
 generalize w_27.drew = w_28 at HOR6 HOR9 HOR13 HOR15 HOR19 HOR24 HOR27 HOR31 UPR6 UPR9 UPR13 UPR15 UPR19 UPR24 UPR27 UPR31 BKgb1 BKgb2 BKgb16 BKgb20 GUgb1 GUgb2 GUgb16 GUgb20 HB HBM hHeld ⊢
 refine take_ (i := 0) (N := some 114) (v := ?_) (a' := ?_) #[true, false, false, false, false, false, false, false, false, false, false, false, false] rfl rfl (by kernel_rfl) (fun _ _ _ h => h) (Or.inl ⟨by rfl, ?_⟩) hHeld ?_ ?_
 rotate_left
 ·rintro w' ⟨s0, s1, s2⟩
  go_simp
  with_reducible rfl
 rotate_left
 ·simp only [Act.put, List.setIfInBounds_toArray, List.set_cons_zero, List.set_cons_succ, i64_w, i32_w]
  rfl
 refine take_ (i := 2) (N := some 116) (v := ?_) (a' := ?_) #[true, false, true, false, false, false, false, false, false, false, false, false, false] rfl rfl (by kernel_rfl) (fun _ _ _ h => h) (Or.inl ⟨by rfl, ?_⟩) hHeld ?_ ?_
 rotate_left
 ·rintro w' ⟨s0, s1, s2⟩
  go_simp
  with_reducible rfl
 rotate_left
 ·simp only [Act.put, List.setIfInBounds_toArray, List.set_cons_zero, List.set_cons_succ, i64_w, i32_w]
  rfl
 refine pure_ (i := 4) (N := some 118) (v := ?_) (a' := ?_) #[true, false, true, false, true, false, false, false, false, false, false, false, false] rfl rfl (by kernel_rfl) (fun _ _ _ h => h) (Or.inl ⟨by rfl, ?_⟩) ?_ ?_
 rotate_left
 ·intro w'
  go_simp
  with_reducible rfl
 rotate_left
 ·simp only [Act.put, List.setIfInBounds_toArray, List.set_cons_zero, List.set_cons_succ, i64_w, i32_w]
  rfl
 refine one_ (i := 1) (N := some 115) #[true, true, true, false, true, false, false, false, false, false, false, false, false] rfl rfl (by kernel_rfl) (by decide) (fun K hK => ?_)
 refine goes_ Try.func14 (by kernel_rfl) rfl #[.agg #[.slice A0_0 l0_0.length c0_0]] (by rfl) rfl rfl (by (try simp only [List.map_toArray, List.map_cons, List.map_nil]); first | done | rfl) ?_
 (with_reducible refine (laws_toPicture.calls k _ _ l0_0 t41 _ ?side1 ?side2 E30.out).mono ?_)
 (case side1 => exact Kd.C_below HR0_0.out HB.out)
 (case side2 => exact HC0_0.out)
 rintro e w_29 ⟨vR42, rfl, hoR42, hb⟩
 refine ⟨_, rfl, ?_⟩
 obtain ⟨loR42, hloR42⟩ : ∃ n_ : Nat, n_ = w_28.heap.size := ⟨_, rfl⟩
 obtain ⟨hiR42, hhiR42⟩ : ∃ n_ : Nat, n_ = w_29.heap.size := ⟨_, rfl⟩
 have n0_ := Aside0.mk (Kd.S_below HOR6.out hb)
 have n1_ := Aside0.mk (Kd.R_below HOR9.out hb)
 have n2_ := Aside0.mk (Kd.S_below HOR13.out hb)
 have n3_ := Aside0.mk (Kd.S_below HOR15.out hb)
 have n4_ := Aside0.mk (Kd.R_below HOR19.out hb)
 have n5_ := Aside0.mk (Kd.S_below HOR24.out hb)
 have n6_ := Aside0.mk (Kd.S_below HOR27.out hb)
 have n7_ := Aside0.mk (Kd.R_below HOR31.out hb)
 have n8_ := Aside0.mk (Nat.le_trans UPR6.out hb.size)
 have n9_ := Aside0.mk (Nat.le_trans UPR9.out hb.size)
 have n10_ := Aside0.mk (Nat.le_trans UPR13.out hb.size)
 have n11_ := Aside0.mk (Nat.le_trans UPR15.out hb.size)
 have n12_ := Aside0.mk (Nat.le_trans UPR19.out hb.size)
 have n13_ := Aside0.mk (Nat.le_trans UPR24.out hb.size)
 have n14_ := Aside0.mk (Nat.le_trans UPR27.out hb.size)
 have n15_ := Aside0.mk (Nat.le_trans UPR31.out hb.size)
 have n16_ := Aside0.mk (blk_below (g := gb1) BKgb1.out hb)
 have n17_ := Aside0.mk (blk_below (g := gb2) BKgb2.out hb)
 have n18_ := Aside0.mk (blk_below (g := gb16) BKgb16.out hb)
 have n19_ := Aside0.mk (blk_below (g := gb20) BKgb20.out hb)
 have n20_ := Aside0.mk (Nat.lt_of_lt_of_le GUgb1.out hb.size)
 have n21_ := Aside0.mk (Nat.lt_of_lt_of_le GUgb2.out hb.size)
 have n22_ := Aside0.mk (Nat.lt_of_lt_of_le GUgb16.out hb.size)
 have n23_ := Aside0.mk (Nat.lt_of_lt_of_le GUgb20.out hb.size)
 have n24_ := Aside0.mk (below_step HB.out hb)
 have n25_ := Aside0.mk (below_step HBM.out hb)
 have n26_ := Aside0.mk (Kd.S_lower (Kd.S_mono (ok' := fun k_ => loR42 ≤ k_ ∧ k_ < hiR42) (Kd.S_bound hoR42) (fun k_ hk_ => ⟨by rw [hloR42]; exact hk_.2.1, by rw [hhiR42]; exact hk_.2.2.1⟩)) (below_size HBM.out))
 have n27_ := Aside0.mk (by rw [hhiR42]; exact Nat.le_refl _ : hiR42 ≤ w_29.heap.size)
 have n28_ := Aside0.mk (fun k_ h1_ h2_ => by have := UPR6.out; rw [← hloR42] at this; omega : ∀ k_, loR6 ≤ k_ ∧ k_ < hiR6 → ¬ (loR42 ≤ k_ ∧ k_ < hiR42))
 have n29_ := Aside0.mk (fun k_ h1_ h2_ => by have := UPR6.out; rw [← hloR42] at this; omega : ∀ k_, loR42 ≤ k_ ∧ k_ < hiR42 → ¬ (loR6 ≤ k_ ∧ k_ < hiR6))
 have n30_ := Aside0.mk (fun k_ h1_ h2_ => by have := UPR9.out; rw [← hloR42] at this; omega : ∀ k_, loR9 ≤ k_ ∧ k_ < hiR9 → ¬ (loR42 ≤ k_ ∧ k_ < hiR42))
 have n31_ := Aside0.mk (fun k_ h1_ h2_ => by have := UPR9.out; rw [← hloR42] at this; omega : ∀ k_, loR42 ≤ k_ ∧ k_ < hiR42 → ¬ (loR9 ≤ k_ ∧ k_ < hiR9))
 have n32_ := Aside0.mk (fun k_ h1_ h2_ => by have := UPR13.out; rw [← hloR42] at this; omega : ∀ k_, loR13 ≤ k_ ∧ k_ < hiR13 → ¬ (loR42 ≤ k_ ∧ k_ < hiR42))
 have n33_ := Aside0.mk (fun k_ h1_ h2_ => by have := UPR13.out; rw [← hloR42] at this; omega : ∀ k_, loR42 ≤ k_ ∧ k_ < hiR42 → ¬ (loR13 ≤ k_ ∧ k_ < hiR13))
 have n34_ := Aside0.mk (fun k_ h1_ h2_ => by have := UPR15.out; rw [← hloR42] at this; omega : ∀ k_, loR15 ≤ k_ ∧ k_ < hiR15 → ¬ (loR42 ≤ k_ ∧ k_ < hiR42))
 have n35_ := Aside0.mk (fun k_ h1_ h2_ => by have := UPR15.out; rw [← hloR42] at this; omega : ∀ k_, loR42 ≤ k_ ∧ k_ < hiR42 → ¬ (loR15 ≤ k_ ∧ k_ < hiR15))
 have n36_ := Aside0.mk (fun k_ h1_ h2_ => by have := UPR19.out; rw [← hloR42] at this; omega : ∀ k_, loR19 ≤ k_ ∧ k_ < hiR19 → ¬ (loR42 ≤ k_ ∧ k_ < hiR42))
 have n37_ := Aside0.mk (fun k_ h1_ h2_ => by have := UPR19.out; rw [← hloR42] at this; omega : ∀ k_, loR42 ≤ k_ ∧ k_ < hiR42 → ¬ (loR19 ≤ k_ ∧ k_ < hiR19))
 have n38_ := Aside0.mk (fun k_ h1_ h2_ => by have := UPR24.out; rw [← hloR42] at this; omega : ∀ k_, loR24 ≤ k_ ∧ k_ < hiR24 → ¬ (loR42 ≤ k_ ∧ k_ < hiR42))
 have n39_ := Aside0.mk (fun k_ h1_ h2_ => by have := UPR24.out; rw [← hloR42] at this; omega : ∀ k_, loR42 ≤ k_ ∧ k_ < hiR42 → ¬ (loR24 ≤ k_ ∧ k_ < hiR24))
 have n40_ := Aside0.mk (fun k_ h1_ h2_ => by have := UPR27.out; rw [← hloR42] at this; omega : ∀ k_, loR27 ≤ k_ ∧ k_ < hiR27 → ¬ (loR42 ≤ k_ ∧ k_ < hiR42))
 have n41_ := Aside0.mk (fun k_ h1_ h2_ => by have := UPR27.out; rw [← hloR42] at this; omega : ∀ k_, loR42 ≤ k_ ∧ k_ < hiR42 → ¬ (loR27 ≤ k_ ∧ k_ < hiR27))
 have n42_ := Aside0.mk (fun k_ h1_ h2_ => by have := UPR31.out; rw [← hloR42] at this; omega : ∀ k_, loR31 ≤ k_ ∧ k_ < hiR31 → ¬ (loR42 ≤ k_ ∧ k_ < hiR42))
 have n43_ := Aside0.mk (fun k_ h1_ h2_ => by have := UPR31.out; rw [← hloR42] at this; omega : ∀ k_, loR42 ≤ k_ ∧ k_ < hiR42 → ¬ (loR31 ≤ k_ ∧ k_ < hiR31))
 have n44_ := Aside0.mk (fun k_ hk_ => by have := GUgb1.out; rw [← hloR42] at this; omega : ∀ k_, loR42 ≤ k_ ∧ k_ < hiR42 → k_ ≠ gb1)
 have n45_ := Aside0.mk (fun k_ hk_ => by have := GUgb2.out; rw [← hloR42] at this; omega : ∀ k_, loR42 ≤ k_ ∧ k_ < hiR42 → k_ ≠ gb2)
 have n46_ := Aside0.mk (fun k_ hk_ => by have := GUgb16.out; rw [← hloR42] at this; omega : ∀ k_, loR42 ≤ k_ ∧ k_ < hiR42 → k_ ≠ gb16)
 have n47_ := Aside0.mk (fun k_ hk_ => by have := GUgb20.out; rw [← hloR42] at this; omega : ∀ k_, loR42 ≤ k_ ∧ k_ < hiR42 → k_ ≠ gb20)
 clear HOR6
 clear HOR9
 clear HOR13
 clear HOR15
 clear HOR19
 clear HOR24
 clear HOR27
 clear HOR31
 clear UPR6
 clear UPR9
 clear UPR13
 clear UPR15
 clear UPR19
 clear UPR24
 clear UPR27
 clear UPR31
 clear BKgb1
 clear BKgb2
 clear BKgb16
 clear BKgb20
 clear GUgb1
 clear GUgb2
 clear GUgb16
 clear GUgb20
 clear HB
 clear HBM
 have HOR6 := n0_
 have HOR9 := n1_
 have HOR13 := n2_
 have HOR15 := n3_
 have HOR19 := n4_
 have HOR24 := n5_
 have HOR27 := n6_
 have HOR31 := n7_
 have UPR6 := n8_
 have UPR9 := n9_
 have UPR13 := n10_
 have UPR15 := n11_
 have UPR19 := n12_
 have UPR24 := n13_
 have UPR27 := n14_
 have UPR31 := n15_
 have BKgb1 := n16_
 have BKgb2 := n17_
 have BKgb16 := n18_
 have BKgb20 := n19_
 have GUgb1 := n20_
 have GUgb2 := n21_
 have GUgb16 := n22_
 have GUgb20 := n23_
 have HB := n24_
 have HBM := n25_
 have HOR42 := n26_
 have UPR42 := n27_
 have NRR6_R42 := n28_
 have NRR42_R6 := n29_
 have NRR9_R42 := n30_
 have NRR42_R9 := n31_
 have NRR13_R42 := n32_
 have NRR42_R13 := n33_
 have NRR15_R42 := n34_
 have NRR42_R15 := n35_
 have NRR19_R42 := n36_
 have NRR42_R19 := n37_
 have NRR24_R42 := n38_
 have NRR42_R24 := n39_
 have NRR27_R42 := n40_
 have NRR42_R27 := n41_
 have NRR31_R42 := n42_
 have NRR42_R31 := n43_
 have NER42_gb1 := n44_
 have NER42_gb2 := n45_
 have NER42_gb16 := n46_
 have NER42_gb20 := n47_
 clear n0_ n1_ n2_ n3_ n4_ n5_ n6_ n7_ n8_ n9_ n10_ n11_ n12_ n13_ n14_ n15_ n16_ n17_ n18_ n19_ n20_ n21_ n22_ n23_ n24_ n25_ n26_ n27_ n28_ n29_ n30_ n31_ n32_ n33_ n34_ n35_ n36_ n37_ n38_ n39_ n40_ n41_ n42_ n43_ n44_ n45_ n46_ n47_
 clear hb
 clear hoR42 hloR42 hhiR42
 obtain ⟨AR42, cR42, eqR42⟩ := Kd.S_slice HOR42.out
 subst eqR42
 refine hK.out _ _ ⟨(blk_cell BKgb1.out 0).trans rfl, (blk_cell BKgb2.out 0).trans rfl, (blk_cell BKgb2.out 1).trans rfl⟩ (fun hHeld => ?_)
 clear hK K
 refine norm_ (a' := ?_) ?_ ?_
 rotate_left
 ·show Act.put _ (some 115) _ = _
  simp only [Act.put, List.setIfInBounds_toArray, List.set_cons_zero, List.set_cons_succ, i64_w, i32_w]
  rfl
 refine one_ (i := 3) (N := some 117) #[true, true, true, true, true, false, false, false, false, false, false, false, false] rfl rfl (by kernel_rfl) (by decide) (fun K hK => ?_)
 refine goes_ Try.func15 (by kernel_rfl) rfl #[.agg #[.int .i64 a1_0, .slice A1_1 l1_1.length c1_1]] (by rfl) rfl rfl (by (try simp only [List.map_toArray, List.map_cons, List.map_nil]); first | done | rfl) ?_
 (with_reducible refine (laws_toKernel.calls k a1_0 _ _ l1_1 t43 t44 _ ?side1 ?side2 E31.out).mono ?_)
 (case side1 => exact Kd.C_below HR1_1.out HB.out)
 (case side2 => exact HC1_1.out)
 rintro e w_30 ⟨vR45, rfl, hoR45, hb⟩
 refine ⟨_, rfl, ?_⟩
 obtain ⟨loR45, hloR45⟩ : ∃ n_ : Nat, n_ = w_29.heap.size := ⟨_, rfl⟩
 obtain ⟨hiR45, hhiR45⟩ : ∃ n_ : Nat, n_ = w_30.heap.size := ⟨_, rfl⟩
 have n0_ := Aside0.mk (Kd.S_below HOR6.out hb)
 have n1_ := Aside0.mk (Kd.R_below HOR9.out hb)
 have n2_ := Aside0.mk (Kd.S_below HOR13.out hb)
 have n3_ := Aside0.mk (Kd.S_below HOR15.out hb)
 have n4_ := Aside0.mk (Kd.R_below HOR19.out hb)
 have n5_ := Aside0.mk (Kd.S_below HOR24.out hb)
 have n6_ := Aside0.mk (Kd.S_below HOR27.out hb)
 have n7_ := Aside0.mk (Kd.R_below HOR31.out hb)
 have n8_ := Aside0.mk (Kd.S_below HOR42.out hb)
 have n9_ := Aside0.mk (Nat.le_trans UPR6.out hb.size)
 have n10_ := Aside0.mk (Nat.le_trans UPR9.out hb.size)
 have n11_ := Aside0.mk (Nat.le_trans UPR13.out hb.size)
 have n12_ := Aside0.mk (Nat.le_trans UPR15.out hb.size)
 have n13_ := Aside0.mk (Nat.le_trans UPR19.out hb.size)
 have n14_ := Aside0.mk (Nat.le_trans UPR24.out hb.size)
 have n15_ := Aside0.mk (Nat.le_trans UPR27.out hb.size)
 have n16_ := Aside0.mk (Nat.le_trans UPR31.out hb.size)
 have n17_ := Aside0.mk (Nat.le_trans UPR42.out hb.size)
 have n18_ := Aside0.mk (blk_below (g := gb1) BKgb1.out hb)
 have n19_ := Aside0.mk (blk_below (g := gb2) BKgb2.out hb)
 have n20_ := Aside0.mk (blk_below (g := gb16) BKgb16.out hb)
 have n21_ := Aside0.mk (blk_below (g := gb20) BKgb20.out hb)
 have n22_ := Aside0.mk (Nat.lt_of_lt_of_le GUgb1.out hb.size)
 have n23_ := Aside0.mk (Nat.lt_of_lt_of_le GUgb2.out hb.size)
 have n24_ := Aside0.mk (Nat.lt_of_lt_of_le GUgb16.out hb.size)
 have n25_ := Aside0.mk (Nat.lt_of_lt_of_le GUgb20.out hb.size)
 have n26_ := Aside0.mk (below_step HB.out hb)
 have n27_ := Aside0.mk (below_step HBM.out hb)
 have n28_ := Aside0.mk (Kd.R_lower (Kd.R_mono (ok' := fun k_ => loR45 ≤ k_ ∧ k_ < hiR45) (Kd.R_bound hoR45) (fun k_ hk_ => ⟨by rw [hloR45]; exact hk_.2.1, by rw [hhiR45]; exact hk_.2.2.1⟩)) (below_size HBM.out))
 have n29_ := Aside0.mk (by rw [hhiR45]; exact Nat.le_refl _ : hiR45 ≤ w_30.heap.size)
 have n30_ := Aside0.mk (fun k_ h1_ h2_ => by have := UPR6.out; rw [← hloR45] at this; omega : ∀ k_, loR6 ≤ k_ ∧ k_ < hiR6 → ¬ (loR45 ≤ k_ ∧ k_ < hiR45))
 have n31_ := Aside0.mk (fun k_ h1_ h2_ => by have := UPR6.out; rw [← hloR45] at this; omega : ∀ k_, loR45 ≤ k_ ∧ k_ < hiR45 → ¬ (loR6 ≤ k_ ∧ k_ < hiR6))
 have n32_ := Aside0.mk (fun k_ h1_ h2_ => by have := UPR9.out; rw [← hloR45] at this; omega : ∀ k_, loR9 ≤ k_ ∧ k_ < hiR9 → ¬ (loR45 ≤ k_ ∧ k_ < hiR45))
 have n33_ := Aside0.mk (fun k_ h1_ h2_ => by have := UPR9.out; rw [← hloR45] at this; omega : ∀ k_, loR45 ≤ k_ ∧ k_ < hiR45 → ¬ (loR9 ≤ k_ ∧ k_ < hiR9))
 have n34_ := Aside0.mk (fun k_ h1_ h2_ => by have := UPR13.out; rw [← hloR45] at this; omega : ∀ k_, loR13 ≤ k_ ∧ k_ < hiR13 → ¬ (loR45 ≤ k_ ∧ k_ < hiR45))
 have n35_ := Aside0.mk (fun k_ h1_ h2_ => by have := UPR13.out; rw [← hloR45] at this; omega : ∀ k_, loR45 ≤ k_ ∧ k_ < hiR45 → ¬ (loR13 ≤ k_ ∧ k_ < hiR13))
 have n36_ := Aside0.mk (fun k_ h1_ h2_ => by have := UPR15.out; rw [← hloR45] at this; omega : ∀ k_, loR15 ≤ k_ ∧ k_ < hiR15 → ¬ (loR45 ≤ k_ ∧ k_ < hiR45))
 have n37_ := Aside0.mk (fun k_ h1_ h2_ => by have := UPR15.out; rw [← hloR45] at this; omega : ∀ k_, loR45 ≤ k_ ∧ k_ < hiR45 → ¬ (loR15 ≤ k_ ∧ k_ < hiR15))
 have n38_ := Aside0.mk (fun k_ h1_ h2_ => by have := UPR19.out; rw [← hloR45] at this; omega : ∀ k_, loR19 ≤ k_ ∧ k_ < hiR19 → ¬ (loR45 ≤ k_ ∧ k_ < hiR45))
 have n39_ := Aside0.mk (fun k_ h1_ h2_ => by have := UPR19.out; rw [← hloR45] at this; omega : ∀ k_, loR45 ≤ k_ ∧ k_ < hiR45 → ¬ (loR19 ≤ k_ ∧ k_ < hiR19))
 have n40_ := Aside0.mk (fun k_ h1_ h2_ => by have := UPR24.out; rw [← hloR45] at this; omega : ∀ k_, loR24 ≤ k_ ∧ k_ < hiR24 → ¬ (loR45 ≤ k_ ∧ k_ < hiR45))
 have n41_ := Aside0.mk (fun k_ h1_ h2_ => by have := UPR24.out; rw [← hloR45] at this; omega : ∀ k_, loR45 ≤ k_ ∧ k_ < hiR45 → ¬ (loR24 ≤ k_ ∧ k_ < hiR24))
 have n42_ := Aside0.mk (fun k_ h1_ h2_ => by have := UPR27.out; rw [← hloR45] at this; omega : ∀ k_, loR27 ≤ k_ ∧ k_ < hiR27 → ¬ (loR45 ≤ k_ ∧ k_ < hiR45))
 have n43_ := Aside0.mk (fun k_ h1_ h2_ => by have := UPR27.out; rw [← hloR45] at this; omega : ∀ k_, loR45 ≤ k_ ∧ k_ < hiR45 → ¬ (loR27 ≤ k_ ∧ k_ < hiR27))
 have n44_ := Aside0.mk (fun k_ h1_ h2_ => by have := UPR31.out; rw [← hloR45] at this; omega : ∀ k_, loR31 ≤ k_ ∧ k_ < hiR31 → ¬ (loR45 ≤ k_ ∧ k_ < hiR45))
 have n45_ := Aside0.mk (fun k_ h1_ h2_ => by have := UPR31.out; rw [← hloR45] at this; omega : ∀ k_, loR45 ≤ k_ ∧ k_ < hiR45 → ¬ (loR31 ≤ k_ ∧ k_ < hiR31))
 have n46_ := Aside0.mk (fun k_ h1_ h2_ => by have := UPR42.out; rw [← hloR45] at this; omega : ∀ k_, loR42 ≤ k_ ∧ k_ < hiR42 → ¬ (loR45 ≤ k_ ∧ k_ < hiR45))
 have n47_ := Aside0.mk (fun k_ h1_ h2_ => by have := UPR42.out; rw [← hloR45] at this; omega : ∀ k_, loR45 ≤ k_ ∧ k_ < hiR45 → ¬ (loR42 ≤ k_ ∧ k_ < hiR42))
 have n48_ := Aside0.mk (fun k_ hk_ => by have := GUgb1.out; rw [← hloR45] at this; omega : ∀ k_, loR45 ≤ k_ ∧ k_ < hiR45 → k_ ≠ gb1)
 have n49_ := Aside0.mk (fun k_ hk_ => by have := GUgb2.out; rw [← hloR45] at this; omega : ∀ k_, loR45 ≤ k_ ∧ k_ < hiR45 → k_ ≠ gb2)
 have n50_ := Aside0.mk (fun k_ hk_ => by have := GUgb16.out; rw [← hloR45] at this; omega : ∀ k_, loR45 ≤ k_ ∧ k_ < hiR45 → k_ ≠ gb16)
 have n51_ := Aside0.mk (fun k_ hk_ => by have := GUgb20.out; rw [← hloR45] at this; omega : ∀ k_, loR45 ≤ k_ ∧ k_ < hiR45 → k_ ≠ gb20)
 clear HOR6
 clear HOR9
 clear HOR13
 clear HOR15
 clear HOR19
 clear HOR24
 clear HOR27
 clear HOR31
 clear HOR42
 clear UPR6
 clear UPR9
 clear UPR13
 clear UPR15
 clear UPR19
 clear UPR24
 clear UPR27
 clear UPR31
 clear UPR42
 clear BKgb1
 clear BKgb2
 clear BKgb16
 clear BKgb20
 clear GUgb1
 clear GUgb2
 clear GUgb16
 clear GUgb20
 clear HB
 clear HBM
 have HOR6 := n0_
 have HOR9 := n1_
 have HOR13 := n2_
 have HOR15 := n3_
 have HOR19 := n4_
 have HOR24 := n5_
 have HOR27 := n6_
 have HOR31 := n7_
 have HOR42 := n8_
 have UPR6 := n9_
 have UPR9 := n10_
 have UPR13 := n11_
 have UPR15 := n12_
 have UPR19 := n13_
 have UPR24 := n14_
 have UPR27 := n15_
 have UPR31 := n16_
 have UPR42 := n17_
 have BKgb1 := n18_
 have BKgb2 := n19_
 have BKgb16 := n20_
 have BKgb20 := n21_
 have GUgb1 := n22_
 have GUgb2 := n23_
 have GUgb16 := n24_
 have GUgb20 := n25_
 have HB := n26_
 have HBM := n27_
 have HOR45 := n28_
 have UPR45 := n29_
 have NRR6_R45 := n30_
 have NRR45_R6 := n31_
 have NRR9_R45 := n32_
 have NRR45_R9 := n33_
 have NRR13_R45 := n34_
 have NRR45_R13 := n35_
 have NRR15_R45 := n36_
 have NRR45_R15 := n37_
 have NRR19_R45 := n38_
 have NRR45_R19 := n39_
 have NRR24_R45 := n40_
 have NRR45_R24 := n41_
 have NRR27_R45 := n42_
 have NRR45_R27 := n43_
 have NRR31_R45 := n44_
 have NRR45_R31 := n45_
 have NRR42_R45 := n46_
 have NRR45_R42 := n47_
 have NER45_gb1 := n48_
 have NER45_gb2 := n49_
 have NER45_gb16 := n50_
 have NER45_gb20 := n51_
 clear n0_ n1_ n2_ n3_ n4_ n5_ n6_ n7_ n8_ n9_ n10_ n11_ n12_ n13_ n14_ n15_ n16_ n17_ n18_ n19_ n20_ n21_ n22_ n23_ n24_ n25_ n26_ n27_ n28_ n29_ n30_ n31_ n32_ n33_ n34_ n35_ n36_ n37_ n38_ n39_ n40_ n41_ n42_ n43_ n44_ n45_ n46_ n47_ n48_ n49_ n50_ n51_
 clear hb
 clear hoR45 hloR45 hhiR45
 obtain ⟨AR45, cR45, eqR45⟩ := Kd.R_slice HOR45.out
 subst eqR45
 refine hK.out _ _ ⟨(blk_cell BKgb1.out 0).trans rfl, (blk_cell BKgb2.out 0).trans rfl, (blk_cell BKgb2.out 1).trans rfl⟩ (fun hHeld => ?_)
 clear hK K
 refine norm_ (a' := ?_) ?_ ?_
 rotate_left
 ·show Act.put _ (some 117) _ = _
  simp only [Act.put, List.setIfInBounds_toArray, List.set_cons_zero, List.set_cons_succ, i64_w, i32_w]
  rfl
 refine one_ (i := 5) (N := some 119) #[true, true, true, true, true, true, false, false, false, false, false, false, false] rfl rfl (by kernel_rfl) (by decide) (fun K hK => ?_)
 refine goes_ Try.func16 (by kernel_rfl) rfl #[.agg #[.slice AR42 t41.length cR42], .agg #[.int .i64 t43, .slice AR45 t44.length cR45], .bool a2] (by rfl) rfl rfl (by (try simp only [List.map_toArray, List.map_cons, List.map_nil]); first | done | rfl) ?_
 (with_reducible refine (impl_DiffuseDither.calls k _ _ t41 t43 _ _ t44 a2 t46 t47 t48 _ ?side1 ?side2 ?side3 ?side4 E32.out).mono ?_)
 (case side1 => exact (Kd.S_reads' HOR42.out).2.2)
 (case side2 => exact (Kd.S_reads' HOR42.out).2.1)
 (case side3 => exact (Kd.R_reads' HOR45.out).2.2)
 (case side4 => exact (Kd.R_reads' HOR45.out).2.1)
 rintro e w_31 ⟨vR49, rfl, hoR49, hb⟩
 refine ⟨_, rfl, ?_⟩
 obtain ⟨loR49, hloR49⟩ : ∃ n_ : Nat, n_ = w_30.heap.size := ⟨_, rfl⟩
 obtain ⟨hiR49, hhiR49⟩ : ∃ n_ : Nat, n_ = w_31.heap.size := ⟨_, rfl⟩
 have n0_ := Aside0.mk (Kd.S_below HOR6.out hb)
 have n1_ := Aside0.mk (Kd.R_below HOR9.out hb)
 have n2_ := Aside0.mk (Kd.S_below HOR13.out hb)
 have n3_ := Aside0.mk (Kd.S_below HOR15.out hb)
 have n4_ := Aside0.mk (Kd.R_below HOR19.out hb)
 have n5_ := Aside0.mk (Kd.S_below HOR24.out hb)
 have n6_ := Aside0.mk (Kd.S_below HOR27.out hb)
 have n7_ := Aside0.mk (Kd.R_below HOR31.out hb)
 have n8_ := Aside0.mk (Kd.S_below HOR42.out hb)
 have n9_ := Aside0.mk (Kd.R_below HOR45.out hb)
 have n10_ := Aside0.mk (Nat.le_trans UPR6.out hb.size)
 have n11_ := Aside0.mk (Nat.le_trans UPR9.out hb.size)
 have n12_ := Aside0.mk (Nat.le_trans UPR13.out hb.size)
 have n13_ := Aside0.mk (Nat.le_trans UPR15.out hb.size)
 have n14_ := Aside0.mk (Nat.le_trans UPR19.out hb.size)
 have n15_ := Aside0.mk (Nat.le_trans UPR24.out hb.size)
 have n16_ := Aside0.mk (Nat.le_trans UPR27.out hb.size)
 have n17_ := Aside0.mk (Nat.le_trans UPR31.out hb.size)
 have n18_ := Aside0.mk (Nat.le_trans UPR42.out hb.size)
 have n19_ := Aside0.mk (Nat.le_trans UPR45.out hb.size)
 have n20_ := Aside0.mk (blk_below (g := gb1) BKgb1.out hb)
 have n21_ := Aside0.mk (blk_below (g := gb2) BKgb2.out hb)
 have n22_ := Aside0.mk (blk_below (g := gb16) BKgb16.out hb)
 have n23_ := Aside0.mk (blk_below (g := gb20) BKgb20.out hb)
 have n24_ := Aside0.mk (Nat.lt_of_lt_of_le GUgb1.out hb.size)
 have n25_ := Aside0.mk (Nat.lt_of_lt_of_le GUgb2.out hb.size)
 have n26_ := Aside0.mk (Nat.lt_of_lt_of_le GUgb16.out hb.size)
 have n27_ := Aside0.mk (Nat.lt_of_lt_of_le GUgb20.out hb.size)
 have n28_ := Aside0.mk (below_step HB.out hb)
 have n29_ := Aside0.mk (below_step HBM.out hb)
 have n30_ := Aside0.mk (Kd.S_lower (Kd.S_mono (ok' := fun k_ => loR49 ≤ k_ ∧ k_ < hiR49) (Kd.S_bound hoR49) (fun k_ hk_ => ⟨by rw [hloR49]; exact hk_.2.1, by rw [hhiR49]; exact hk_.2.2.1⟩)) (below_size HBM.out))
 have n31_ := Aside0.mk (by rw [hhiR49]; exact Nat.le_refl _ : hiR49 ≤ w_31.heap.size)
 have n32_ := Aside0.mk (fun k_ h1_ h2_ => by have := UPR6.out; rw [← hloR49] at this; omega : ∀ k_, loR6 ≤ k_ ∧ k_ < hiR6 → ¬ (loR49 ≤ k_ ∧ k_ < hiR49))
 have n33_ := Aside0.mk (fun k_ h1_ h2_ => by have := UPR6.out; rw [← hloR49] at this; omega : ∀ k_, loR49 ≤ k_ ∧ k_ < hiR49 → ¬ (loR6 ≤ k_ ∧ k_ < hiR6))
 have n34_ := Aside0.mk (fun k_ h1_ h2_ => by have := UPR9.out; rw [← hloR49] at this; omega : ∀ k_, loR9 ≤ k_ ∧ k_ < hiR9 → ¬ (loR49 ≤ k_ ∧ k_ < hiR49))
 have n35_ := Aside0.mk (fun k_ h1_ h2_ => by have := UPR9.out; rw [← hloR49] at this; omega : ∀ k_, loR49 ≤ k_ ∧ k_ < hiR49 → ¬ (loR9 ≤ k_ ∧ k_ < hiR9))
 have n36_ := Aside0.mk (fun k_ h1_ h2_ => by have := UPR13.out; rw [← hloR49] at this; omega : ∀ k_, loR13 ≤ k_ ∧ k_ < hiR13 → ¬ (loR49 ≤ k_ ∧ k_ < hiR49))
 have n37_ := Aside0.mk (fun k_ h1_ h2_ => by have := UPR13.out; rw [← hloR49] at this; omega : ∀ k_, loR49 ≤ k_ ∧ k_ < hiR49 → ¬ (loR13 ≤ k_ ∧ k_ < hiR13))
 have n38_ := Aside0.mk (fun k_ h1_ h2_ => by have := UPR15.out; rw [← hloR49] at this; omega : ∀ k_, loR15 ≤ k_ ∧ k_ < hiR15 → ¬ (loR49 ≤ k_ ∧ k_ < hiR49))
 have n39_ := Aside0.mk (fun k_ h1_ h2_ => by have := UPR15.out; rw [← hloR49] at this; omega : ∀ k_, loR49 ≤ k_ ∧ k_ < hiR49 → ¬ (loR15 ≤ k_ ∧ k_ < hiR15))
 have n40_ := Aside0.mk (fun k_ h1_ h2_ => by have := UPR19.out; rw [← hloR49] at this; omega : ∀ k_, loR19 ≤ k_ ∧ k_ < hiR19 → ¬ (loR49 ≤ k_ ∧ k_ < hiR49))
 have n41_ := Aside0.mk (fun k_ h1_ h2_ => by have := UPR19.out; rw [← hloR49] at this; omega : ∀ k_, loR49 ≤ k_ ∧ k_ < hiR49 → ¬ (loR19 ≤ k_ ∧ k_ < hiR19))
 have n42_ := Aside0.mk (fun k_ h1_ h2_ => by have := UPR24.out; rw [← hloR49] at this; omega : ∀ k_, loR24 ≤ k_ ∧ k_ < hiR24 → ¬ (loR49 ≤ k_ ∧ k_ < hiR49))
 have n43_ := Aside0.mk (fun k_ h1_ h2_ => by have := UPR24.out; rw [← hloR49] at this; omega : ∀ k_, loR49 ≤ k_ ∧ k_ < hiR49 → ¬ (loR24 ≤ k_ ∧ k_ < hiR24))
 have n44_ := Aside0.mk (fun k_ h1_ h2_ => by have := UPR27.out; rw [← hloR49] at this; omega : ∀ k_, loR27 ≤ k_ ∧ k_ < hiR27 → ¬ (loR49 ≤ k_ ∧ k_ < hiR49))
 have n45_ := Aside0.mk (fun k_ h1_ h2_ => by have := UPR27.out; rw [← hloR49] at this; omega : ∀ k_, loR49 ≤ k_ ∧ k_ < hiR49 → ¬ (loR27 ≤ k_ ∧ k_ < hiR27))
 have n46_ := Aside0.mk (fun k_ h1_ h2_ => by have := UPR31.out; rw [← hloR49] at this; omega : ∀ k_, loR31 ≤ k_ ∧ k_ < hiR31 → ¬ (loR49 ≤ k_ ∧ k_ < hiR49))
 have n47_ := Aside0.mk (fun k_ h1_ h2_ => by have := UPR31.out; rw [← hloR49] at this; omega : ∀ k_, loR49 ≤ k_ ∧ k_ < hiR49 → ¬ (loR31 ≤ k_ ∧ k_ < hiR31))
 have n48_ := Aside0.mk (fun k_ h1_ h2_ => by have := UPR42.out; rw [← hloR49] at this; omega : ∀ k_, loR42 ≤ k_ ∧ k_ < hiR42 → ¬ (loR49 ≤ k_ ∧ k_ < hiR49))
 have n49_ := Aside0.mk (fun k_ h1_ h2_ => by have := UPR42.out; rw [← hloR49] at this; omega : ∀ k_, loR49 ≤ k_ ∧ k_ < hiR49 → ¬ (loR42 ≤ k_ ∧ k_ < hiR42))
 have n50_ := Aside0.mk (fun k_ h1_ h2_ => by have := UPR45.out; rw [← hloR49] at this; omega : ∀ k_, loR45 ≤ k_ ∧ k_ < hiR45 → ¬ (loR49 ≤ k_ ∧ k_ < hiR49))
 have n51_ := Aside0.mk (fun k_ h1_ h2_ => by have := UPR45.out; rw [← hloR49] at this; omega : ∀ k_, loR49 ≤ k_ ∧ k_ < hiR49 → ¬ (loR45 ≤ k_ ∧ k_ < hiR45))
 have n52_ := Aside0.mk (fun k_ hk_ => by have := GUgb1.out; rw [← hloR49] at this; omega : ∀ k_, loR49 ≤ k_ ∧ k_ < hiR49 → k_ ≠ gb1)
 have n53_ := Aside0.mk (fun k_ hk_ => by have := GUgb2.out; rw [← hloR49] at this; omega : ∀ k_, loR49 ≤ k_ ∧ k_ < hiR49 → k_ ≠ gb2)
 have n54_ := Aside0.mk (fun k_ hk_ => by have := GUgb16.out; rw [← hloR49] at this; omega : ∀ k_, loR49 ≤ k_ ∧ k_ < hiR49 → k_ ≠ gb16)
 have n55_ := Aside0.mk (fun k_ hk_ => by have := GUgb20.out; rw [← hloR49] at this; omega : ∀ k_, loR49 ≤ k_ ∧ k_ < hiR49 → k_ ≠ gb20)
 clear HOR6
 clear HOR9
 clear HOR13
 clear HOR15
 clear HOR19
 clear HOR24
 clear HOR27
 clear HOR31
 clear HOR42
 clear HOR45
 clear UPR6
 clear UPR9
 clear UPR13
 clear UPR15
 clear UPR19
 clear UPR24
 clear UPR27
 clear UPR31
 clear UPR42
 clear UPR45
 clear BKgb1
 clear BKgb2
 clear BKgb16
 clear BKgb20
 clear GUgb1
 clear GUgb2
 clear GUgb16
 clear GUgb20
 clear HB
 clear HBM
 have HOR6 := n0_
 have HOR9 := n1_
 have HOR13 := n2_
 have HOR15 := n3_
 have HOR19 := n4_
 have HOR24 := n5_
 have HOR27 := n6_
 have HOR31 := n7_
 have HOR42 := n8_
 have HOR45 := n9_
 have UPR6 := n10_
 have UPR9 := n11_
 have UPR13 := n12_
 have UPR15 := n13_
 have UPR19 := n14_
 have UPR24 := n15_
 have UPR27 := n16_
 have UPR31 := n17_
 have UPR42 := n18_
 have UPR45 := n19_
 have BKgb1 := n20_
 have BKgb2 := n21_
 have BKgb16 := n22_
 have BKgb20 := n23_
 have GUgb1 := n24_
 have GUgb2 := n25_
 have GUgb16 := n26_
 have GUgb20 := n27_
 have HB := n28_
 have HBM := n29_
 have HOR49 := n30_
 have UPR49 := n31_
 have NRR6_R49 := n32_
 have NRR49_R6 := n33_
 have NRR9_R49 := n34_
 have NRR49_R9 := n35_
 have NRR13_R49 := n36_
 have NRR49_R13 := n37_
 have NRR15_R49 := n38_
 have NRR49_R15 := n39_
 have NRR19_R49 := n40_
 have NRR49_R19 := n41_
 have NRR24_R49 := n42_
 have NRR49_R24 := n43_
 have NRR27_R49 := n44_
 have NRR49_R27 := n45_
 have NRR31_R49 := n46_
 have NRR49_R31 := n47_
 have NRR42_R49 := n48_
 have NRR49_R42 := n49_
 have NRR45_R49 := n50_
 have NRR49_R45 := n51_
 have NER49_gb1 := n52_
 have NER49_gb2 := n53_
 have NER49_gb16 := n54_
 have NER49_gb20 := n55_
 clear n0_ n1_ n2_ n3_ n4_ n5_ n6_ n7_ n8_ n9_ n10_ n11_ n12_ n13_ n14_ n15_ n16_ n17_ n18_ n19_ n20_ n21_ n22_ n23_ n24_ n25_ n26_ n27_ n28_ n29_ n30_ n31_ n32_ n33_ n34_ n35_ n36_ n37_ n38_ n39_ n40_ n41_ n42_ n43_ n44_ n45_ n46_ n47_ n48_ n49_ n50_ n51_ n52_ n53_ n54_ n55_
 clear hb
 clear hoR49 hloR49 hhiR49
 obtain ⟨AR49, cR49, eqR49⟩ := Kd.S_slice HOR49.out
 subst eqR49
 refine hK.out _ _ ⟨(blk_cell BKgb1.out 0).trans rfl, (blk_cell BKgb2.out 0).trans rfl, (blk_cell BKgb2.out 1).trans rfl⟩ (fun hHeld => ?_)
 clear hK K
 refine norm_ (a' := ?_) ?_ ?_
 rotate_left
 ·show Act.put _ (some 119) _ = _
  simp only [Act.put, List.setIfInBounds_toArray, List.set_cons_zero, List.set_cons_succ, i64_w, i32_w]
  rfl
 refine pure_ (i := 6) (N := some 113) (v := ?_) (a' := ?_) #[true, true, true, true, true, true, true, false, false, false, false, false, false] rfl rfl (by kernel_rfl) (fun _ _ _ h => h) (Or.inl ⟨by rfl, ?_⟩) ?_ ?_
 rotate_left
 ·intro w'
  go_simp
  with_reducible rfl
 rotate_left
 ·simp only [Act.put, List.setIfInBounds_toArray, List.set_cons_zero, List.set_cons_succ, i64_w, i32_w]
  rfl
 refine pure_ (i := 7) (N := some 120) (v := ?_) (a' := ?_) #[true, true, true, true, true, true, true, true, false, false, false, false, false] rfl rfl (by kernel_rfl) (fun _ _ _ h => h) (Or.inl ⟨by rfl, ?_⟩) ?_ ?_
 rotate_left
 ·intro w'
  go_simp
  with_reducible rfl
 rotate_left
 ·simp only [Act.put, List.setIfInBounds_toArray, List.set_cons_zero, List.set_cons_succ, i64_w, i32_w]
  rfl
 refine pure_ (i := 8) (N := some 121) (v := ?_) (a' := ?_) #[true, true, true, true, true, true, true, true, true, false, false, false, false] rfl rfl (by kernel_rfl) (fun _ _ _ h => h) (Or.inl ⟨by rfl, ?_⟩) ?_ ?_
 rotate_left
 ·intro w'
  go_simp
  with_reducible rfl
 rotate_left
 ·simp only [Act.put, List.setIfInBounds_toArray, List.set_cons_zero, List.set_cons_succ, i64_w, i32_w]
  rfl
 refine pure_ (i := 9) (N := some 122) (v := ?_) (a' := ?_) #[true, true, true, true, true, true, true, true, true, true, false, false, false] rfl rfl (by kernel_rfl) (fun _ _ _ h => h) (Or.inl ⟨by rfl, ?_⟩) ?_ ?_
 rotate_left
 ·intro w'
  go_simp
  with_reducible rfl
 rotate_left
 ·simp only [Act.put, List.setIfInBounds_toArray, List.set_cons_zero, List.set_cons_succ, i64_w, i32_w]
  rfl
 refine pure_ (i := 10) (N := some 19) (v := ?_) (a' := ?_) #[true, true, true, true, true, true, true, true, true, true, true, false, false] rfl rfl (by kernel_rfl) (fun _ _ _ h => h) (Or.inl ⟨by rfl, ?_⟩) ?_ ?_
 rotate_left
 ·intro w'
  go_simp
  with_reducible rfl
 rotate_left
 ·simp only [Act.put, List.setIfInBounds_toArray, List.set_cons_zero, List.set_cons_succ, i64_w, i32_w]
  rfl
 refine pure_ (i := 11) (N := some 20) (v := ?_) (a' := ?_) #[true, true, true, true, true, true, true, true, true, true, true, true, false] rfl rfl (by kernel_rfl) (fun _ _ _ h => h) (Or.inl ⟨by rfl, ?_⟩) ?_ ?_
 rotate_left
 ·intro w'
  go_simp
  with_reducible rfl
 rotate_left
 ·simp only [Act.put, List.setIfInBounds_toArray, List.set_cons_zero, List.set_cons_succ, i64_w, i32_w]
  rfl
 refine pure_ (i := 12) (N := some 21) (v := ?_) (a' := ?_) #[true, true, true, true, true, true, true, true, true, true, true, true, true] rfl rfl (by kernel_rfl) (fun _ _ _ h => h) (Or.inl ⟨by rfl, ?_⟩) ?_ ?_
 rotate_left
 ·intro w'
  go_simp
  with_reducible rfl
 rotate_left
 ·simp only [Act.put, List.setIfInBounds_toArray, List.set_cons_zero, List.set_cons_succ, i64_w, i32_w]
  rfl
 refine done_ (by kernel_rfl) ?_
 (try clear hczgb1_0)
 (try clear hfzgb1_0)
 (try clear hczgb2_0)
 (try clear hfzgb2_0)
 (try clear hczgb2_1)
 (try clear hfzgb2_1)
 (try clear hczgb16_0)
 (try clear hfzgb16_0)
 (try clear hczgb20_0)
 (try clear hfzgb20_0)
 (try clear hczgb20_1)
 (try clear hfzgb20_1)
 have hczgb1_0 : w_31.cell? ⟨gb1, 0, none⟩ = some (.slice A0_0 l0_0.length c0_0) := (blk_cell BKgb1.out 0).trans rfl
 have hfzgb1_0 := blk_frozen BKgb1.out 0
 have hczgb2_0 : w_31.cell? ⟨gb2, 0, none⟩ = some (.int .i64 a1_0) := (blk_cell BKgb2.out 0).trans rfl
 have hfzgb2_0 := blk_frozen BKgb2.out 0
 have hczgb2_1 : w_31.cell? ⟨gb2, 1, none⟩ = some (.slice A1_1 l1_1.length c1_1) := (blk_cell BKgb2.out 1).trans rfl
 have hfzgb2_1 := blk_frozen BKgb2.out 1
 have hczgb16_0 : w_31.cell? ⟨gb16, 0, none⟩ = some (.slice AR15 t14.length cR15) := (blk_cell BKgb16.out 0).trans rfl
 have hfzgb16_0 := blk_frozen BKgb16.out 0
 have hczgb20_0 : w_31.cell? ⟨gb20, 0, none⟩ = some (.int .i64 t17) := (blk_cell BKgb20.out 0).trans rfl
 have hfzgb20_0 := blk_frozen BKgb20.out 0
 have hczgb20_1 : w_31.cell? ⟨gb20, 1, none⟩ = some (.slice AR19 t18.length cR19) := (blk_cell BKgb20.out 1).trans rfl
 have hfzgb20_1 := blk_frozen BKgb20.out 1
 go_wp2_with (first | ((with_reducible refine gate_callee (f := 8) rfl ?_); refine goesL_ (some 125) rfl rfl Try.func8 (by kernel_rfl) rfl #[.slice AR49 t46.length cR49, .slice AR13 t10.length cR13] rfl (by (try simp only [List.map_toArray, List.map_cons, List.map_nil]); first | done | rfl) ?_; (with_reducible refine (laws_eqInt64SS.calls k _ _ t46 _ _ t10 true _ ?side1 ?side2 ?side3 ?side4 E33.out).mono ?_); (case side1 => exact (Kd.S_reads' HOR49.out).2.2); (case side2 => exact (Kd.S_reads' HOR49.out).2.1); (case side3 => exact (Kd.S_reads' HOR13.out).2.2); (case side4 => exact (Kd.S_reads' HOR13.out).2.1); rintro e w_32 ⟨rfl, hd⟩; have hb := Drawn0.below hd; refine ⟨_, rfl, ?_⟩; have n0_ := Aside0.mk (Kd.S_below HOR6.out hb); have n1_ := Aside0.mk (Kd.R_below HOR9.out hb); have n2_ := Aside0.mk (Kd.S_below HOR13.out hb); have n3_ := Aside0.mk (Kd.S_below HOR15.out hb); have n4_ := Aside0.mk (Kd.R_below HOR19.out hb); have n5_ := Aside0.mk (Kd.S_below HOR24.out hb); have n6_ := Aside0.mk (Kd.S_below HOR27.out hb); have n7_ := Aside0.mk (Kd.R_below HOR31.out hb); have n8_ := Aside0.mk (Kd.S_below HOR42.out hb); have n9_ := Aside0.mk (Kd.R_below HOR45.out hb); have n10_ := Aside0.mk (Kd.S_below HOR49.out hb); have n11_ := Aside0.mk (Nat.le_trans UPR6.out hb.size); have n12_ := Aside0.mk (Nat.le_trans UPR9.out hb.size); have n13_ := Aside0.mk (Nat.le_trans UPR13.out hb.size); have n14_ := Aside0.mk (Nat.le_trans UPR15.out hb.size); have n15_ := Aside0.mk (Nat.le_trans UPR19.out hb.size); have n16_ := Aside0.mk (Nat.le_trans UPR24.out hb.size); have n17_ := Aside0.mk (Nat.le_trans UPR27.out hb.size); have n18_ := Aside0.mk (Nat.le_trans UPR31.out hb.size); have n19_ := Aside0.mk (Nat.le_trans UPR42.out hb.size); have n20_ := Aside0.mk (Nat.le_trans UPR45.out hb.size); have n21_ := Aside0.mk (Nat.le_trans UPR49.out hb.size); have n22_ := Aside0.mk (blk_below (g := gb1) BKgb1.out hb); have n23_ := Aside0.mk (blk_below (g := gb2) BKgb2.out hb); have n24_ := Aside0.mk (blk_below (g := gb16) BKgb16.out hb); have n25_ := Aside0.mk (blk_below (g := gb20) BKgb20.out hb); have n26_ := Aside0.mk (Nat.lt_of_lt_of_le GUgb1.out hb.size); have n27_ := Aside0.mk (Nat.lt_of_lt_of_le GUgb2.out hb.size); have n28_ := Aside0.mk (Nat.lt_of_lt_of_le GUgb16.out hb.size); have n29_ := Aside0.mk (Nat.lt_of_lt_of_le GUgb20.out hb.size); have n30_ := Aside0.mk (below_step HB.out hb); have n31_ := Aside0.mk (below_step HBM.out hb); clear HOR6; clear HOR9; clear HOR13; clear HOR15; clear HOR19; clear HOR24; clear HOR27; clear HOR31; clear HOR42; clear HOR45; clear HOR49; clear UPR6; clear UPR9; clear UPR13; clear UPR15; clear UPR19; clear UPR24; clear UPR27; clear UPR31; clear UPR42; clear UPR45; clear UPR49; clear BKgb1; clear BKgb2; clear BKgb16; clear BKgb20; clear GUgb1; clear GUgb2; clear GUgb16; clear GUgb20; clear HB; clear HBM; have HOR6 := n0_; have HOR9 := n1_; have HOR13 := n2_; have HOR15 := n3_; have HOR19 := n4_; have HOR24 := n5_; have HOR27 := n6_; have HOR31 := n7_; have HOR42 := n8_; have HOR45 := n9_; have HOR49 := n10_; have UPR6 := n11_; have UPR9 := n12_; have UPR13 := n13_; have UPR15 := n14_; have UPR19 := n15_; have UPR24 := n16_; have UPR27 := n17_; have UPR31 := n18_; have UPR42 := n19_; have UPR45 := n20_; have UPR49 := n21_; have BKgb1 := n22_; have BKgb2 := n23_; have BKgb16 := n24_; have BKgb20 := n25_; have GUgb1 := n26_; have GUgb2 := n27_; have GUgb16 := n28_; have GUgb20 := n29_; have HB := n30_; have HBM := n31_; clear n0_ n1_ n2_ n3_ n4_ n5_ n6_ n7_ n8_ n9_ n10_ n11_ n12_ n13_ n14_ n15_ n16_ n17_ n18_ n19_ n20_ n21_ n22_ n23_ n24_ n25_ n26_ n27_ n28_ n29_ n30_ n31_; clear hb; clear hd; (try clear hczgb1_0); (try clear hfzgb1_0); (try clear hczgb2_0); (try clear hfzgb2_0); (try clear hczgb2_1); (try clear hfzgb2_1); (try clear hczgb16_0); (try clear hfzgb16_0); (try clear hczgb20_0); (try clear hfzgb20_0); (try clear hczgb20_1); (try clear hfzgb20_1); have hczgb1_0 : w_32.cell? ⟨gb1, 0, none⟩ = some (.slice A0_0 l0_0.length c0_0) := (blk_cell BKgb1.out 0).trans rfl; have hfzgb1_0 := blk_frozen BKgb1.out 0; have hczgb2_0 : w_32.cell? ⟨gb2, 0, none⟩ = some (.int .i64 a1_0) := (blk_cell BKgb2.out 0).trans rfl; have hfzgb2_0 := blk_frozen BKgb2.out 0; have hczgb2_1 : w_32.cell? ⟨gb2, 1, none⟩ = some (.slice A1_1 l1_1.length c1_1) := (blk_cell BKgb2.out 1).trans rfl; have hfzgb2_1 := blk_frozen BKgb2.out 1; have hczgb16_0 : w_32.cell? ⟨gb16, 0, none⟩ = some (.slice AR15 t14.length cR15) := (blk_cell BKgb16.out 0).trans rfl; have hfzgb16_0 := blk_frozen BKgb16.out 0; have hczgb20_0 : w_32.cell? ⟨gb20, 0, none⟩ = some (.int .i64 t17) := (blk_cell BKgb20.out 0).trans rfl; have hfzgb20_0 := blk_frozen BKgb20.out 0; have hczgb20_1 : w_32.cell? ⟨gb20, 1, none⟩ = some (.slice AR19 t18.length cR19) := (blk_cell BKgb20.out 1).trans rfl; have hfzgb20_1 := blk_frozen BKgb20.out 1) | ((with_reducible refine gate_callee (f := 10) rfl ?_); refine goesL_ (some 139) rfl rfl Try.func10 (by kernel_rfl) rfl #[.slice AR24 t39.length cR24, .int .i64 1] rfl (by (try simp only [List.map_toArray, List.map_cons, List.map_nil]); first | done | rfl | (simp only [show t39.length = t21.length from (Kd.S_reads' HOR24.out).1.symm]; rfl)) ?_; (with_reducible refine (laws_heldInt64SS.calls k _ _ t39 1 t51 _ ?side1 ?side2 E37.out).mono ?_); (case side1 => exact (Kd.S_reads' HOR24.out).2.2); (case side2 => exact (fun h_ => h_.1 ▸ h_.2.1) (Kd.S_reads' HOR24.out)); rintro e w_33 ⟨rfl, hd⟩; have hb := Drawn0.below hd; refine ⟨_, rfl, ?_⟩; have n0_ := Aside0.mk (Kd.S_below HOR6.out hb); have n1_ := Aside0.mk (Kd.R_below HOR9.out hb); have n2_ := Aside0.mk (Kd.S_below HOR13.out hb); have n3_ := Aside0.mk (Kd.S_below HOR15.out hb); have n4_ := Aside0.mk (Kd.R_below HOR19.out hb); have n5_ := Aside0.mk (Kd.S_below HOR24.out hb); have n6_ := Aside0.mk (Kd.S_below HOR27.out hb); have n7_ := Aside0.mk (Kd.R_below HOR31.out hb); have n8_ := Aside0.mk (Kd.S_below HOR42.out hb); have n9_ := Aside0.mk (Kd.R_below HOR45.out hb); have n10_ := Aside0.mk (Kd.S_below HOR49.out hb); have n11_ := Aside0.mk (Nat.le_trans UPR6.out hb.size); have n12_ := Aside0.mk (Nat.le_trans UPR9.out hb.size); have n13_ := Aside0.mk (Nat.le_trans UPR13.out hb.size); have n14_ := Aside0.mk (Nat.le_trans UPR15.out hb.size); have n15_ := Aside0.mk (Nat.le_trans UPR19.out hb.size); have n16_ := Aside0.mk (Nat.le_trans UPR24.out hb.size); have n17_ := Aside0.mk (Nat.le_trans UPR27.out hb.size); have n18_ := Aside0.mk (Nat.le_trans UPR31.out hb.size); have n19_ := Aside0.mk (Nat.le_trans UPR42.out hb.size); have n20_ := Aside0.mk (Nat.le_trans UPR45.out hb.size); have n21_ := Aside0.mk (Nat.le_trans UPR49.out hb.size); have n22_ := Aside0.mk (blk_below (g := gb1) BKgb1.out hb); have n23_ := Aside0.mk (blk_below (g := gb2) BKgb2.out hb); have n24_ := Aside0.mk (blk_below (g := gb16) BKgb16.out hb); have n25_ := Aside0.mk (blk_below (g := gb20) BKgb20.out hb); have n26_ := Aside0.mk (Nat.lt_of_lt_of_le GUgb1.out hb.size); have n27_ := Aside0.mk (Nat.lt_of_lt_of_le GUgb2.out hb.size); have n28_ := Aside0.mk (Nat.lt_of_lt_of_le GUgb16.out hb.size); have n29_ := Aside0.mk (Nat.lt_of_lt_of_le GUgb20.out hb.size); have n30_ := Aside0.mk (below_step HB.out hb); have n31_ := Aside0.mk (below_step HBM.out hb); clear HOR6; clear HOR9; clear HOR13; clear HOR15; clear HOR19; clear HOR24; clear HOR27; clear HOR31; clear HOR42; clear HOR45; clear HOR49; clear UPR6; clear UPR9; clear UPR13; clear UPR15; clear UPR19; clear UPR24; clear UPR27; clear UPR31; clear UPR42; clear UPR45; clear UPR49; clear BKgb1; clear BKgb2; clear BKgb16; clear BKgb20; clear GUgb1; clear GUgb2; clear GUgb16; clear GUgb20; clear HB; clear HBM; have HOR6 := n0_; have HOR9 := n1_; have HOR13 := n2_; have HOR15 := n3_; have HOR19 := n4_; have HOR24 := n5_; have HOR27 := n6_; have HOR31 := n7_; have HOR42 := n8_; have HOR45 := n9_; have HOR49 := n10_; have UPR6 := n11_; have UPR9 := n12_; have UPR13 := n13_; have UPR15 := n14_; have UPR19 := n15_; have UPR24 := n16_; have UPR27 := n17_; have UPR31 := n18_; have UPR42 := n19_; have UPR45 := n20_; have UPR49 := n21_; have BKgb1 := n22_; have BKgb2 := n23_; have BKgb16 := n24_; have BKgb20 := n25_; have GUgb1 := n26_; have GUgb2 := n27_; have GUgb16 := n28_; have GUgb20 := n29_; have HB := n30_; have HBM := n31_; clear n0_ n1_ n2_ n3_ n4_ n5_ n6_ n7_ n8_ n9_ n10_ n11_ n12_ n13_ n14_ n15_ n16_ n17_ n18_ n19_ n20_ n21_ n22_ n23_ n24_ n25_ n26_ n27_ n28_ n29_ n30_ n31_; clear hb; clear hd; (try clear hczgb1_0); (try clear hfzgb1_0); (try clear hczgb2_0); (try clear hfzgb2_0); (try clear hczgb2_1); (try clear hfzgb2_1); (try clear hczgb16_0); (try clear hfzgb16_0); (try clear hczgb20_0); (try clear hfzgb20_0); (try clear hczgb20_1); (try clear hfzgb20_1); have hczgb1_0 : w_33.cell? ⟨gb1, 0, none⟩ = some (.slice A0_0 l0_0.length c0_0) := (blk_cell BKgb1.out 0).trans rfl; have hfzgb1_0 := blk_frozen BKgb1.out 0; have hczgb2_0 : w_33.cell? ⟨gb2, 0, none⟩ = some (.int .i64 a1_0) := (blk_cell BKgb2.out 0).trans rfl; have hfzgb2_0 := blk_frozen BKgb2.out 0; have hczgb2_1 : w_33.cell? ⟨gb2, 1, none⟩ = some (.slice A1_1 l1_1.length c1_1) := (blk_cell BKgb2.out 1).trans rfl; have hfzgb2_1 := blk_frozen BKgb2.out 1; have hczgb16_0 : w_33.cell? ⟨gb16, 0, none⟩ = some (.slice AR15 t14.length cR15) := (blk_cell BKgb16.out 0).trans rfl; have hfzgb16_0 := blk_frozen BKgb16.out 0; have hczgb20_0 : w_33.cell? ⟨gb20, 0, none⟩ = some (.int .i64 t17) := (blk_cell BKgb20.out 0).trans rfl; have hfzgb20_0 := blk_frozen BKgb20.out 0; have hczgb20_1 : w_33.cell? ⟨gb20, 1, none⟩ = some (.slice AR19 t18.length cR19) := (blk_cell BKgb20.out 1).trans rfl; have hfzgb20_1 := blk_frozen BKgb20.out 1))
 go_ret
 exact ⟨by first | rfl | (simp; done) | (simp [*]; done), HB.out⟩
theorem laws_FnExactDiffuseDither.walk (P : laws_FnExactDiffuseDither.Pure) (A0_0 : Option Addr) (c0_0 : Nat) (l0_0 : List (List Int)) (a1_0 : Int) (A1_1 : Option Addr) (c1_1 : Nat) (l1_1 : List S96) (a2 : Bool) (w : World) (hr0_0 : Kd.C (Kd.slice 2 (Kd.int .i64)) w A0_0 l0_0.length l0_0) (hc0_0 : l0_0.length ≤ c0_0) (hr1_1 : Kd.C k96 w A1_1 l1_1.length l1_1) (hc1_1 : l1_1.length ≤ c1_1) (w0_0 : (l0_0.length ≤ maxLen ∧ ∀ y ∈ l0_0, (y.length ≤ maxLen ∧ ∀ y_ ∈ y, (Lit.int .i64 y_).wf = true))) (w1_0 : (Lit.int .i64 a1_0).wf = true) (w1_1 : (l1_1.length ≤ maxLen ∧ ∀ y ∈ l1_1, ((Lit.int .i64 y.f0).wf = true ∧ (Lit.int .i64 y.f1).wf = true ∧ (Lit.int .i64 y.f2).wf = true))) :
  Calls Try.prog 4 #[.agg #[.slice A0_0 l0_0.length c0_0], .agg #[.int .i64 a1_0, .slice A1_1 l1_1.length c1_1], .bool a2] w fun e w' => e = .returned (.bool true) ∧ Below w.heap.size w w' := by
 obtain ⟨k, h⟩ := P l0_0 a1_0 l1_1 a2 w0_0 w1_0 w1_1
 exact laws_FnExactDiffuseDither.calls k A0_0 c0_0 l0_0 a1_0 A1_1 c1_1 l1_1 a2 w hr0_0 hc0_0 hr1_1 hc1_1 h
end Go.Proofs.Ytpdkknfooblplaa.Q
namespace Go.Proofs.Ytpdkknfooblplaa.Com
open Go.RowKit Go.Proofs.YtpdkknfooblplaaW.PrintWords
theorem w64 {x : Int} (h1 : -9223372036854775808 ≤ x) (h2 : x ≤ 9223372036854775807) : wrap64 x = x := by
  unfold wrap64
  omega
theorem ev_of {α : Type} {g : Nat → Option α} {r : α} (h : Ev g r) : ∃ k, g k = some r := h.rounds
theorem ev_bind' {α β : Type} {o : Option α} {f : Nat → α → Option β} {a : α} {r : β} (h : o = some a) (k : Ev (fun n => f n a) r) : Ev (fun n => o.bind (f n)) r := by
  subst h
  exact k
end Go.Proofs.Ytpdkknfooblplaa.Com
namespace Go.Proofs.Ytpdkknfooblplaa.Com
set_option linter.unusedSimpArgs false
set_option linter.unusedVariables false
open Go.RowKit Go.Proofs.YtpdkknfooblplaaW.PrintWords
theorem ev_fold {α σ ρ : Type} (xs : List α) (g : Nat → σ → Nat → Option ρ) (F : List α → σ → ρ) (Inv : Nat → σ → Prop)
    (h0 : ∀ s, Inv xs.length s → Ev (g xs.length s) (F [] s))
    (hs : ∀ m (h : m < xs.length) s, Inv m s → (∀ s', Inv (m + 1) s' → Ev (g (m + 1) s') (F (xs.drop (m + 1)) s')) → Ev (g m s) (F (xs[m] :: xs.drop (m + 1)) s)) :
    ∀ m s, m ≤ xs.length → Inv m s → Ev (g m s) (F (xs.drop m) s) := by
  have key : ∀ d m s, m + d = xs.length → Inv m s → Ev (g m s) (F (xs.drop m) s) := by
    intro d
    induction d with
    | zero =>
      intro m s e hi
      obtain rfl : m = xs.length := by omega
      rw [List.drop_length]
      exact h0 s hi
    | succ d ih =>
      intro m s e hi
      have h : m < xs.length := by omega
      rw [List.drop_eq_getElem_cons h]
      exact hs m h s hi (fun s' hi' => ih (m + 1) s' (by omega) hi')
  intro m s hm hi
  exact key (xs.length - m) m s (by omega) hi
theorem ev_list {α ρ : Type} (xs : List α) (g : Nat → Nat → Option ρ) (F : List α → ρ) (h0 : Ev (g xs.length) (F []))
    (hs : ∀ m (h : m < xs.length), Ev (g (m + 1)) (F (xs.drop (m + 1))) → Ev (g m) (F (xs[m] :: xs.drop (m + 1)))) (m : Nat) (hm : m ≤ xs.length) : Ev (g m) (F (xs.drop m)) :=
  ev_fold xs (fun m (_ : Unit) => g m) (fun l _ => F l) (fun _ _ => True) (fun _ _ => h0) (fun m h _ _ ih => hs m h (ih () trivial)) m () hm trivial
theorem ev_count {σ ρ : Type} (n : Nat) (g : Nat → σ → Nat → Option ρ) (r : ρ) (Inv : Nat → σ → Prop) (h0 : ∀ s, Inv n s → Ev (g n s) r)
    (hs : ∀ m s, m < n → Inv m s → ∃ s', Inv (m + 1) s' ∧ (Ev (g (m + 1) s') r → Ev (g m s) r)) : ∀ m s, m ≤ n → Inv m s → Ev (g m s) r := by
  have key : ∀ d m s, m + d = n → Inv m s → Ev (g m s) r := by
    intro d
    induction d with
    | zero =>
      intro m s e hi
      obtain rfl : m = n := by omega
      exact h0 s hi
    | succ d ih =>
      intro m s e hi
      obtain ⟨s', hi', k⟩ := hs m s (by omega) hi
      exact k (ih (m + 1) s' (by omega) hi')
  intro m s hm hi
  exact key (n - m) m s (by omega) hi
theorem rd_nat {xs : List Int} {m : Nat} (h : m < xs.length) : rd xs (m : Int) = xs[m] := by
  unfold rd
  rw [Int.toNat_natCast, List.getD_eq_getElem?_getD, List.getElem?_eq_getElem h]
  rfl
theorem w_succ {m : Nat} (h : m < 9223372036854775807) : wrap64 ((m : Int) + 1) = ((m + 1 : Nat) : Int) := by
  rw [w64 (by omega) (by omega)]
  omega
end Go.Proofs.Ytpdkknfooblplaa.Com
namespace Go.Proofs.Ytpdkknfooblplaa.Com
set_option linter.unusedSimpArgs false
set_option linter.unusedVariables false
open Go.RowKit Go.Proofs.YtpdkknfooblplaaW.PrintWords Go.Proofs.Ytpdkknfooblplaa.Q
theorem set_take (xs : List Int) (m : Nat) (h : m < xs.length) : (xs.take m ++ List.replicate (xs.length - m) 0).set m xs[m] = xs.take (m + 1) ++ List.replicate (xs.length - (m + 1)) 0 := by
  have hl : (xs.take m).length = m := by rw [List.length_take]; omega
  rw [List.set_append_right _ _ (by omega), hl, Nat.sub_self]
  obtain ⟨q, hq⟩ : ∃ q, xs.length - m = q + 1 := ⟨xs.length - m - 1, by omega⟩
  rw [hq, List.replicate_succ, List.set_cons_zero, show xs.length - (m + 1) = q by omega, List.take_succ_eq_append_getElem h, List.append_assoc]
  rfl
theorem toInt64S_ev (xs : List Int) (hx : xs.length ≤ 1048576) : Ev (fun k => laws_toInt64S.f k xs) xs := by
  unfold laws_toInt64S.f
  simp only [if_pos (show 0 ≤ (xs.length : Int) by omega), if_pos (show ((xs.length : Int)).toNat ≤ 35184372088832 by omega)]
  have := ev_count xs.length (fun m s k => laws_toInt64S.l0 k xs s (m : Int)) xs (fun m s => s = xs.take m ++ List.replicate (xs.length - m) 0) (fun s hs => ?_) (fun m s hm hs => ⟨xs.take (m + 1) ++ List.replicate (xs.length - (m + 1)) 0, rfl, fun ih => ?_⟩) 0 (List.replicate xs.length 0) (by omega) (by simp)
  · simpa using this
  · refine Ev.step (fun k => by rw [laws_toInt64S.l0]) ?_
    simp only [if_neg (show ¬ (xs.length : Int) < (xs.length : Int) by omega)]
    subst hs
    simp
    exact Ev.now _
  · refine Ev.step (fun k => by rw [laws_toInt64S.l0]) ?_
    subst hs
    have hl : (xs.take m ++ List.replicate (xs.length - m) 0).length = xs.length := by simp; omega
    simp only [if_pos (show (m : Int) < (xs.length : Int) by omega), if_pos (show 0 ≤ (m : Int) by omega), hl, rd_nat hm, Int.toNat_natCast, set_take xs m hm, w_succ (m := m) (by omega)]
    exact ih
theorem eqInt64S_ev (xs ys : List Int) (hx : xs.length ≤ 1048576) : Ev (fun k => laws_eqInt64S.f k xs ys) (decide (xs = ys)) := by
  unfold laws_eqInt64S.f
  by_cases hl : (xs.length : Int) = (ys.length : Int)
  · simp only [if_pos hl]
    have key : ∀ m, m ≤ xs.length → Ev (fun k => laws_eqInt64S.l0 k xs ys (m : Int)) (decide (xs.drop m = ys.drop m)) := by
      have gen := ev_list xs (fun m k => laws_eqInt64S.l0 k xs ys (m : Int)) (fun l => decide (l = ys.drop (xs.length - l.length))) ?_ ?_
      · intro m hm
        have := gen m hm
        rwa [List.length_drop, show xs.length - (xs.length - m) = m by omega] at this
      · refine Ev.step (fun k => by rw [laws_eqInt64S.l0]) ?_
        simp only [if_neg (show ¬ (xs.length : Int) < (xs.length : Int) by omega)]
        have : ys.drop (xs.length - ([] : List Int).length) = [] := by simp; omega
        rw [this]
        exact Ev.now _
      · intro m hm ih
        refine Ev.step (fun k => by rw [laws_eqInt64S.l0]) ?_
        have hy : m < ys.length := by omega
        simp only [if_pos (show (m : Int) < (xs.length : Int) by omega), if_pos (show 0 ≤ (m : Int) by omega), if_pos (show (m : Int) < (ys.length : Int) by omega), rd_nat hm, rd_nat hy, w_succ (m := m) (by omega)]
        rw [List.length_drop, show xs.length - (xs.length - (m + 1)) = m + 1 by omega] at ih
        have e : xs.length - (xs[m] :: xs.drop (m + 1)).length = m := by simp; omega
        rw [e, List.drop_eq_getElem_cons hy]
        by_cases c : xs[m] = ys[m]
        · simp only [if_pos c]
          rw [show decide (xs[m] :: xs.drop (m + 1) = ys[m] :: ys.drop (m + 1)) = decide (xs.drop (m + 1) = ys.drop (m + 1)) from decide_eq_decide.2 (by rw [c]; exact ⟨fun h => (List.cons.inj h).2, fun h => by rw [h]⟩)]
          exact ih
        · simp only [if_neg c]
          rw [decide_eq_false (show ¬ xs[m] :: xs.drop (m + 1) = ys[m] :: ys.drop (m + 1) from fun h => c (List.cons.inj h).1)]
          exact Ev.now _
    have := key 0 (by omega)
    simpa using this
  · simp only [if_neg hl]
    have : xs ≠ ys := fun e => hl (by rw [e])
    rw [decide_eq_false this]
    exact Ev.now _
theorem sz_tells (xs : List Int) (a : Int) (hx : xs.length ≤ maxLen) (ha : -1 ≤ a ∧ a ≤ 1048576) : laws_szInt64S.f xs a = some (if a - xs.length < 0 then -1 else a - xs.length) := by
  unfold laws_szInt64S.f
  unfold maxLen at hx
  rw [w64 (by omega) (by omega)]
  split <;> rfl
end Go.Proofs.Ytpdkknfooblplaa.Com
namespace Go.Proofs.Ytpdkknfooblplaa.Com
set_option linter.unusedSimpArgs false
set_option linter.unusedVariables false
open Go.RowKit Go.Proofs.YtpdkknfooblplaaW.PrintWords Go.Proofs.Ytpdkknfooblplaa.Q
theorem within_tells (x a b : Int) : impl_within.f x a b = some (decide (a ≤ x ∧ x ≤ b)) := by
  unfold impl_within.f
  split <;> simp [*]
theorem in_tells (x a b : Int) : spec_l00In.f x a b = some (decide (a ≤ x ∧ x ≤ b)) := by
  unfold spec_l00In.f
  by_cases h : x ≥ a
  · have h' : a ≤ x := h
    simp [h, h']
  · have h' : ¬ a ≤ x := h
    simp [h, h']
end Go.Proofs.Ytpdkknfooblplaa.Com
namespace Go.Proofs.Ytpdkknfooblplaa.Com
set_option linter.unusedSimpArgs false
set_option linter.unusedVariables false
set_option linter.unusedSectionVars false
open Go.RowKit Go.Proofs.YtpdkknfooblplaaW.PrintWords Go.Proofs.YtpdkknfooblplaaW.PrintMore Go.Proofs.Ytpdkknfooblplaa.Q
theorem rdr_nat {xs : List (List Int)} {m : Nat} (h : m < xs.length) : rd_L1 xs (m : Int) = xs[m] := by
  unfold rd_L1
  rw [Int.toNat_natCast, List.getD_eq_getElem?_getD, List.getElem?_eq_getElem h]
  rfl
theorem setr_take (xs : List (List Int)) (m : Nat) (h : m < xs.length) : (xs.take m ++ List.replicate (xs.length - m) []).set m xs[m] = xs.take (m + 1) ++ List.replicate (xs.length - (m + 1)) [] := by
  have hl : (xs.take m).length = m := by rw [List.length_take]; omega
  rw [List.set_append_right _ _ (by omega), hl, Nat.sub_self]
  obtain ⟨q, hq⟩ : ∃ q, xs.length - m = q + 1 := ⟨xs.length - m - 1, by omega⟩
  rw [hq, List.replicate_succ, List.set_cons_zero, show xs.length - (m + 1) = q by omega, List.take_succ_eq_append_getElem h, List.append_assoc]
  rfl
theorem toInt64SS_ev (xs : List (List Int)) (hx : xs.length ≤ 1048576) (hr : ∀ x ∈ xs, x.length ≤ 1048576) : Ev (fun k => laws_toInt64SS.f k xs) xs := by
  unfold laws_toInt64SS.f
  simp only [if_pos (show 0 ≤ (xs.length : Int) by omega), if_pos (show ((xs.length : Int)).toNat ≤ 11728124029610 by omega)]
  have := ev_count xs.length (fun m s k => laws_toInt64SS.l0 k xs s (m : Int)) xs (fun m s => s = xs.take m ++ List.replicate (xs.length - m) []) (fun s hs => ?_) (fun m s hm hs => ⟨xs.take (m + 1) ++ List.replicate (xs.length - (m + 1)) [], rfl, fun ih => ?_⟩) 0 (List.replicate xs.length []) (by omega) (by simp)
  · simpa using this
  · refine Ev.step (fun k => by rw [laws_toInt64SS.l0]) ?_
    simp only [if_neg (show ¬ (xs.length : Int) < (xs.length : Int) by omega)]
    subst hs
    simp
    exact Ev.now _
  · refine Ev.step (fun k => by rw [laws_toInt64SS.l0]) ?_
    subst hs
    have hl : (xs.take m ++ List.replicate (xs.length - m) []).length = xs.length := by simp; omega
    simp only [if_pos (show (m : Int) < (xs.length : Int) by omega), if_pos (show 0 ≤ (m : Int) by omega), hl, rdr_nat hm, w_succ (m := m) (by omega)]
    refine Ev.bind (toInt64S_ev xs[m] (hr _ (List.getElem_mem hm))) ?_
    simp only [Int.toNat_natCast, setr_take xs m hm]
    exact ih
theorem eqInt64SS_ev (xs : List (List Int)) (hx : xs.length ≤ 1048576) (hr : ∀ x ∈ xs, x.length ≤ 1048576) : Ev (fun k => laws_eqInt64SS.f k xs xs) true := by
  unfold laws_eqInt64SS.f
  simp only [if_true]
  have gen := ev_list xs (fun m k => laws_eqInt64SS.l0 k xs xs (m : Int)) (fun _ => true) ?_ ?_ 0 (by omega)
  · exact gen
  · refine Ev.step (fun k => by rw [laws_eqInt64SS.l0]) ?_
    simp only [if_neg (show ¬ (xs.length : Int) < (xs.length : Int) by omega)]
    exact Ev.now _
  · intro m hm ih
    refine Ev.step (fun k => by rw [laws_eqInt64SS.l0]) ?_
    simp only [if_pos (show (m : Int) < (xs.length : Int) by omega), if_pos (show 0 ≤ (m : Int) by omega), rdr_nat hm, w_succ (m := m) (by omega)]
    refine Ev.bind (eqInt64S_ev xs[m] xs[m] (hr _ (List.getElem_mem hm))) ?_
    simp only [decide_true, if_true]
    exact ih
def szr (a : Int) : List (List Int) → Int
  | [] => a
  | x :: r => if a - x.length < 0 then -1 else szr (a - x.length) r
theorem szr_tells (l : List (List Int)) : ∀ a, a ≤ 1048576 → 0 ≤ szr a l → ∀ x ∈ l, x.length ≤ 1048576 := by
  induction l with
  | nil => intro a _ _ x hx; simp at hx
  | cons y r ih =>
    intro a ha h x hx
    unfold szr at h
    split at h
    · omega
    · rcases List.mem_cons.1 hx with rfl | hx
      · omega
      · exact ih _ (by omega) h x hx
theorem szr_ge (l : List (List Int)) : ∀ a, 0 ≤ a → -1 ≤ szr a l := by
  induction l with
  | nil => intro a h; unfold szr; omega
  | cons y r ih =>
    intro a h
    unfold szr
    split
    · omega
    · exact ih _ (by omega)
def rowOk (n : Nat) (b : Int) (x : List Int) : Bool := decide (x.length = n) && x.all fun z => decide (0 ≤ z ∧ z ≤ b)
def rowsForm (b : Int) (l : List (List Int)) : Bool := match l with
  | [] => false
  | y :: _ => decide (l.length ≤ 12) && decide (1 ≤ y.length ∧ y.length ≤ 12) && l.all (rowOk y.length b)
theorem areRows_tells (l : List (List Int)) (b : Int) : impl_areRows.f l b = some (rowsForm b l) := by
  cases l with
  | nil => rfl
  | cons y r =>
    unfold impl_areRows.f rowsForm
    simp only
    congr 1
    rw [List.not_any_eq_all_not]
    congr 2
    funext x
    unfold impl_areRows.p rowOk
    by_cases h : x.length = y.length <;> simp [h]
theorem form_ev (l : List (List Int)) (b : Int) (hx : l.length ≤ 1048576) (hr : ∀ x ∈ l, x.length ≤ 1048576) : Ev (fun k => spec_l09Form.f k l b) (rowsForm b l) := by
  have jf : Ev (fun k => spec_l09Form.j0 k l b true) false := Ev.step (fun k => by rw [spec_l09Form.j0]) (by simp only [if_true]; exact Ev.now _)
  unfold spec_l09Form.f
  cases l with
  | nil =>
    simp only [if_pos (show (([] : List (List Int)).length : Int) < 1 by decide)]
    exact jf
  | cons y r =>
    have e0 : rd_L1 (y :: r) 0 = y := rdr_nat (xs := y :: r) (m := 0) (by rw [List.length_cons]; omega)
    have hl : (y :: r).length = r.length + 1 := rfl
    simp only [if_neg (show ¬ ((y :: r).length : Int) < 1 by omega), if_pos (show 0 < ((y :: r).length : Int) by omega), e0]
    have ef : rowsForm b (y :: r) = (decide ((y :: r).length ≤ 12) && decide (1 ≤ y.length ∧ y.length ≤ 12) && (y :: r).all (rowOk y.length b)) := rfl
    by_cases h1 : ((y :: r).length : Int) > 12
    · simp only [if_pos h1]
      rw [ef, decide_eq_false (show ¬ (y :: r).length ≤ 12 by omega), Bool.false_and, Bool.false_and]
      exact jf
    · simp only [if_neg h1]
      rw [ef, decide_eq_true (show (y :: r).length ≤ 12 by omega), Bool.true_and]
      by_cases h2 : (y.length : Int) < 1
      · simp only [if_pos h2]
        rw [decide_eq_false (show ¬ (1 ≤ y.length ∧ y.length ≤ 12) by omega), Bool.false_and]
        exact jf
      · simp only [if_neg h2]
        by_cases h3 : (y.length : Int) > 12
        · rw [decide_eq_true h3, decide_eq_false (show ¬ (1 ≤ y.length ∧ y.length ≤ 12) by omega), Bool.false_and]
          exact jf
        · rw [decide_eq_false h3, decide_eq_true (show 1 ≤ y.length ∧ y.length ≤ 12 by omega), Bool.true_and]
          refine Ev.step (fun k => by rw [spec_l09Form.j0]) ?_
          simp only [Bool.false_eq_true, if_false]
          generalize y :: r = l at hx hr e0 hl h1
          have gen := ev_list l (fun m k => spec_l09Form.l0 k l b (m : Int)) (fun d => d.all (rowOk y.length b)) ?_ ?_ 0 (by omega)
          · exact gen
          · refine Ev.step (fun k => by rw [spec_l09Form.l0]) ?_
            simp only [if_neg (show ¬ (l.length : Int) < (l.length : Int) by omega), List.all_nil]
            exact Ev.now _
          · intro m hm ih
            have hrm := hr _ (List.getElem_mem hm)
            refine Ev.step (fun k => by rw [spec_l09Form.l0]) ?_
            simp only [if_pos (show (m : Int) < (l.length : Int) by omega), if_pos (show 0 ≤ (m : Int) by omega), if_pos (show 0 < (l.length : Int) by omega), rdr_nat hm, e0]
            rw [List.all_cons]
            by_cases q : l[m].length = y.length
            · simp only [if_pos (show (l[m].length : Int) = (y.length : Int) by omega)]
              have er : rowOk y.length b l[m] = l[m].all fun z => decide (0 ≤ z ∧ z ≤ b) := by unfold rowOk; rw [decide_eq_true q, Bool.true_and]
              rw [er]
              have gen := ev_list l[m] (fun j k => spec_l09Form.l1 k l b (m : Int) (j : Int)) (fun d => (d.all fun z => decide (0 ≤ z ∧ z ≤ b)) && (l.drop (m + 1)).all (rowOk y.length b)) ?_ ?_ 0 (by omega)
              · exact gen
              · refine Ev.step (fun k => by rw [spec_l09Form.l1]) ?_
                simp only [if_pos (show (m : Int) < (l.length : Int) by omega), if_pos (show 0 ≤ (m : Int) by omega), rdr_nat hm, if_neg (show ¬ (l[m].length : Int) < (l[m].length : Int) by omega), w_succ (m := m) (by omega), List.all_nil, Bool.true_and]
                exact ih
              · intro j hj ih2
                refine Ev.step (fun k => by rw [spec_l09Form.l1]) ?_
                simp only [if_pos (show (m : Int) < (l.length : Int) by omega), if_pos (show 0 ≤ (m : Int) by omega), rdr_nat hm, if_pos (show (j : Int) < (l[m].length : Int) by omega), if_pos (show 0 ≤ (j : Int) by omega), rd_nat hj, in_tells, Option.bind_some, decide_eq_true_eq, w_succ (m := j) (by omega)]
                rw [List.all_cons]
                by_cases c : 0 ≤ l[m][j] ∧ l[m][j] ≤ b
                · simp only [if_pos c]
                  rw [decide_eq_true c, Bool.true_and]
                  exact ih2
                · simp only [if_neg c]
                  rw [decide_eq_false c, Bool.false_and, Bool.false_and]
                  exact Ev.now _
            · simp only [if_neg (show ¬ (l[m].length : Int) = (y.length : Int) by omega)]
              have er : rowOk y.length b l[m] = false := by unfold rowOk; rw [decide_eq_false q, Bool.false_and]
              rw [er, Bool.false_and]
              exact Ev.now _
end Go.Proofs.Ytpdkknfooblplaa.Com
namespace Go.Proofs.Ytpdkknfooblplaa.Com
set_option linter.unusedSimpArgs false
set_option linter.unusedVariables false
open Go.RowKit Go.Proofs.YtpdkknfooblplaaW.PrintWords Go.Proofs.Ytpdkknfooblplaa.Q
def markL (n : Nat) (a : Int) : List Int := (List.range n).map fun (i : Nat) => a + (i : Int)
theorem markL_len (n : Nat) (a : Int) : (markL n a).length = n := by simp [markL]
theorem markL_at (n : Nat) (a : Int) (i : Nat) (h : i < (markL n a).length) : (markL n a)[i] = a + i := by simp [markL]
theorem markL_succ (n : Nat) (a : Int) : markL (n + 1) a = markL n a ++ [a + n] := by
  unfold markL
  rw [List.range_succ, List.map_append]
  rfl
theorem mark_set (xs : List Int) (m : Nat) (a : Int) (h : m < xs.length) : (markL m a ++ xs.drop m).set m (a + m) = markL (m + 1) a ++ xs.drop (m + 1) := by
  rw [List.set_append_right _ _ (by rw [markL_len]; omega), markL_len, Nat.sub_self, List.drop_eq_getElem_cons h, List.set_cons_zero, markL_succ, List.append_assoc]
  rfl
theorem markInt64S_ev (xs : List Int) (a : Int) (hx : xs.length ≤ 1048576) (ha : 0 ≤ a ∧ a ≤ 1000000000000) : Ev (fun k => laws_markInt64S.f k xs a) (a + xs.length, markL xs.length a) := by
  unfold laws_markInt64S.f
  have gen := ev_count xs.length (fun m (s : List Int × Int) k => laws_markInt64S.l0 k s.1 s.2 (m : Int)) (a + (xs.length : Int), markL xs.length a) (fun m s => s = (markL m a ++ xs.drop m, a + m)) ?_ ?_ 0 (xs, a) (by omega) (by simp [markL])
  · exact gen
  · rintro s rfl
    refine Ev.step (fun k => by rw [laws_markInt64S.l0]) ?_
    have hl : (markL xs.length a ++ xs.drop xs.length).length = xs.length := by rw [List.length_append, markL_len, List.length_drop]; omega
    rw [List.drop_length, List.append_nil] at hl ⊢
    simp only [hl, if_neg (show ¬ (xs.length : Int) < (xs.length : Int) by omega)]
    exact Ev.now _
  · rintro m s hm rfl
    refine ⟨_, rfl, fun ih => ?_⟩
    refine Ev.step (fun k => by rw [laws_markInt64S.l0]) ?_
    have hl : (markL m a ++ xs.drop m).length = xs.length := by rw [List.length_append, markL_len, List.length_drop]; omega
    simp only [hl, if_pos (show (m : Int) < (xs.length : Int) by omega), if_pos (show 0 ≤ (m : Int) by omega), Int.toNat_natCast, mark_set xs m a hm, w_succ (m := m) (by omega)]
    rw [w64 (by omega) (by omega)]
    simp only at ih
    rwa [show a + ((m + 1 : Nat) : Int) = a + (m : Int) + 1 by omega] at ih
theorem heldInt64S_ev (n : Nat) (a : Int) (hx : n ≤ 1048576) (ha : 0 ≤ a ∧ a ≤ 1000000000000) : Ev (fun k => laws_heldInt64S.f k (markL n a) a) (a + n) := by
  unfold laws_heldInt64S.f
  have gen := ev_count n (fun m (s : Int) k => laws_heldInt64S.l0 k (markL n a) s (m : Int)) (a + (n : Int)) (fun m s => s = a + m) ?_ ?_ 0 a (by omega) (by simp)
  · exact gen
  · rintro s rfl
    refine Ev.step (fun k => by rw [laws_heldInt64S.l0]) ?_
    simp only [markL_len, if_neg (show ¬ (n : Int) < (n : Int) by omega)]
    exact Ev.now _
  · rintro m s hm rfl
    refine ⟨_, rfl, fun ih => ?_⟩
    refine Ev.step (fun k => by rw [laws_heldInt64S.l0]) ?_
    have h : m < (markL n a).length := by rw [markL_len]; exact hm
    simp only [if_pos (show (m : Int) < ((markL n a).length : Int) by rw [markL_len]; omega), if_pos (show 0 ≤ (m : Int) by omega), rd_nat h, markL_at, if_true, w_succ (m := m) (by omega)]
    rw [w64 (by omega) (by omega)]
    rwa [show a + ((m + 1 : Nat) : Int) = a + (m : Int) + 1 by omega] at ih
end Go.Proofs.Ytpdkknfooblplaa.Com
namespace Go.Proofs.Ytpdkknfooblplaa.Com
set_option linter.unusedSimpArgs false
set_option linter.unusedVariables false
set_option linter.unusedSectionVars false
open Go.RowKit Go.Proofs.YtpdkknfooblplaaW.PrintWords Go.Proofs.YtpdkknfooblplaaW.PrintMore Go.Proofs.Ytpdkknfooblplaa.Q
def tot : List (List Int) → Int
  | [] => 0
  | x :: r => (x.length : Int) + tot r
theorem tot_nn (l : List (List Int)) : 0 ≤ tot l := by
  induction l with
  | nil => exact Int.le_refl _
  | cons x r ih => unfold tot; omega
theorem tot_le (l : List (List Int)) (c : Nat) (h : ∀ x ∈ l, x.length ≤ c) : tot l ≤ (l.length * c : Nat) := by
  induction l with
  | nil => simp [tot]
  | cons x r ih =>
    have h1 := h x (List.mem_cons_self ..)
    have h2 := ih (fun y hy => h y (List.mem_cons_of_mem _ hy))
    unfold tot
    rw [List.length_cons, Nat.add_mul, Nat.one_mul]
    omega
theorem tot_take (xs : List (List Int)) (m : Nat) (h : m < xs.length) : tot (xs.take (m + 1)) = tot (xs.take m) + xs[m].length := by
  induction xs generalizing m with
  | nil => simp at h
  | cons y r ih =>
    cases m with
    | zero => simp [tot]
    | succ m =>
      simp only [List.take_succ_cons, tot, List.getElem_cons_succ]
      rw [ih m (by simpa using h)]
      omega
theorem tot_take_le (xs : List (List Int)) (m : Nat) : tot (xs.take m) ≤ tot xs := by
  induction xs generalizing m with
  | nil => simp
  | cons y r ih =>
    cases m with
    | zero => simp [tot]; have := tot_nn r; omega
    | succ m => simp only [List.take_succ_cons, tot]; have := ih m; omega
theorem szr_tot (l : List (List Int)) : ∀ a, 0 ≤ szr a l → szr a l = a - tot l := by
  induction l with
  | nil => intro a _; simp [szr, tot]
  | cons y r ih =>
    intro a h
    unfold szr at h ⊢
    unfold tot
    split at h
    · omega
    · rename_i c
      rw [if_neg c, ih _ h]
      omega
theorem szSS_ev (l : List (List Int)) (a : Int) (ha : 0 ≤ a ∧ a ≤ 1048576) (hl : l.length ≤ maxLen) (hr : ∀ x ∈ l, x.length ≤ maxLen) :
    ∃ t, Ev (fun k => laws_szInt64SS.f k l a) t ∧ (t = -1 ∨ (0 ≤ t ∧ t ≤ a ∧ l.length ≤ 1048576 ∧ (∀ x ∈ l, x.length ≤ 1048576) ∧ tot l ≤ 1048576)) := by
  unfold laws_szInt64SS.f
  have hm : maxLen ≤ 9223372036854775807 := by decide
  rw [w64 (x := a - (l.length : Int)) (by omega) (by omega)]
  by_cases h : a - (l.length : Int) < 0
  · refine ⟨-1, ?_, .inl rfl⟩
    simp only [if_pos h]
    exact Ev.now _
  · refine ⟨szr (a - l.length) l, ?_, ?_⟩
    · simp only [if_neg h]
      have gen := ev_fold l (fun m (s : Int) k => laws_szInt64SS.l0 k l s (m : Int)) (fun d s => szr s d) (fun m s => 0 ≤ s ∧ s ≤ 1048576) ?_ ?_ 0 (a - (l.length : Int)) (by omega) ⟨by omega, by omega⟩
      · exact gen
      · intro s _
        refine Ev.step (fun k => by rw [laws_szInt64SS.l0]) ?_
        simp only [if_neg (show ¬ (l.length : Int) < (l.length : Int) by omega)]
        exact Ev.now _
      · rintro m hm s ⟨s0, s1⟩ k
        refine Ev.step (fun k => by rw [laws_szInt64SS.l0]) ?_
        simp only [if_pos (show (m : Int) < (l.length : Int) by omega), if_pos (show 0 ≤ (m : Int) by omega), rdr_nat hm, w_succ (m := m) (by omega), sz_tells l[m] s (hr _ (List.getElem_mem hm)) (by omega), Option.bind_some]
        unfold szr
        by_cases c : s - (l[m].length : Int) < 0
        · simp only [if_pos c, if_pos (show (-1 : Int) < 0 by omega)]
          exact Ev.now _
        · simp only [if_neg c]
          exact k _ ⟨by omega, by omega⟩
    · by_cases c : szr (a - l.length) l < 0
      · have := szr_ge l (a - l.length) (by omega)
        exact .inl (by omega)
      · have e := szr_tot l (a - l.length) (by omega)
        have := tot_nn l
        exact .inr ⟨by omega, by omega, by omega, szr_tells l (a - (l.length : Int)) (by omega) (by omega), by omega⟩
def markLL : List (List Int) → Int → List (List Int)
  | [], _ => []
  | x :: r, a => markL x.length a :: markLL r (a + x.length)
theorem markLL_len (xs : List (List Int)) : ∀ a, (markLL xs a).length = xs.length := by
  induction xs with
  | nil => intro a; rfl
  | cons x r ih => intro a; simp [markLL, ih]
theorem markLL_snoc (xs : List (List Int)) (x : List Int) : ∀ a, markLL (xs ++ [x]) a = markLL xs a ++ [markL x.length (a + tot xs)] := by
  induction xs with
  | nil => intro a; simp [markLL, tot]
  | cons y r ih => intro a; simp only [List.cons_append, markLL, tot, ih]; rw [Int.add_assoc]
theorem markLL_at (xs : List (List Int)) : ∀ a (m : Nat) (h : m < (markLL xs a).length) (h' : m < xs.length), (markLL xs a)[m] = markL xs[m].length (a + tot (xs.take m)) := by
  induction xs with
  | nil => intro a m h h'; simp at h'
  | cons y r ih =>
    intro a m h h'
    cases m with
    | zero => simp [markLL, tot]
    | succ m =>
      simp only [markLL, List.getElem_cons_succ, List.take_succ_cons, tot]
      rw [ih _ m (by rw [markLL_len]; simpa using h') (by simpa using h'), Int.add_assoc]
theorem setll (A : List (List Int)) (xs : List (List Int)) (m : Nat) (h : m < xs.length) (hA : A.length = m) (y : List Int) : (A ++ xs.drop m).set m y = A ++ [y] ++ xs.drop (m + 1) := by
  rw [List.drop_eq_getElem_cons h, List.set_append_right _ _ (by omega), hA, Nat.sub_self, List.set_cons_zero, List.append_assoc]
  rfl
theorem markSS_ev (xs : List (List Int)) (a : Int) (hx : xs.length ≤ 1048576) (hr : ∀ x ∈ xs, x.length ≤ 1048576) (ha : 0 ≤ a) (hb : a + tot xs ≤ 1000000000000) : Ev (fun k => laws_markInt64SS.f k xs a) (a + tot xs, markLL xs a) := by
  unfold laws_markInt64SS.f
  refine ev_count xs.length (fun m (s : List (List Int) × Int) k => laws_markInt64SS.l0 k s.1 s.2 (m : Int)) _ (fun m s => s = (markLL (xs.take m) a ++ xs.drop m, a + tot (xs.take m))) ?_ ?_ 0 (xs, a) (by omega) (by simp [markLL, tot])
  · rintro _ rfl
    refine Ev.step (fun k => by rw [laws_markInt64SS.l0]) ?_
    simp only [List.take_length, List.drop_length, List.append_nil, markLL_len, if_neg (show ¬ (xs.length : Int) < (xs.length : Int) by omega)]
    exact Ev.now _
  · rintro m _ hm rfl
    refine ⟨_, rfl, fun ih => ?_⟩
    have hA : (markLL (xs.take m) a).length = m := by rw [markLL_len, List.length_take]; omega
    have hl : (markLL (xs.take m) a ++ xs.drop m).length = xs.length := by rw [List.length_append, hA, List.length_drop]; omega
    have e : rd_L1 (markLL (xs.take m) a ++ xs.drop m) (m : Int) = xs[m] := by
      rw [rdr_nat (by omega), List.getElem_append_right (by omega)]
      simp [hA]
    have t1 := tot_take xs m hm
    have t2 := tot_take_le xs (m + 1)
    have t3 := tot_nn (xs.take m)
    refine Ev.step (fun k => by rw [laws_markInt64SS.l0]) ?_
    simp only [hl, if_pos (show (m : Int) < (xs.length : Int) by omega), if_pos (show 0 ≤ (m : Int) by omega), e, w_succ (m := m) (by omega), Int.toNat_natCast]
    refine Ev.bind (markInt64S_ev xs[m] (a + tot (xs.take m)) (hr _ (List.getElem_mem hm)) (by omega)) ?_
    simp only
    rw [setll _ xs m hm hA, ← markLL_snoc, ← List.take_succ_eq_append_getElem hm, Int.add_assoc, ← t1]
    exact ih
theorem heldSS_ev (xs : List (List Int)) (a : Int) (hx : xs.length ≤ 1048576) (hr : ∀ x ∈ xs, x.length ≤ 1048576) (ha : 0 ≤ a) (hb : a + tot xs ≤ 1000000000000) : Ev (fun k => laws_heldInt64SS.f k (markLL xs a) a) (a + tot xs) := by
  unfold laws_heldInt64SS.f
  refine ev_count xs.length (fun m (s : Int) k => laws_heldInt64SS.l0 k (markLL xs a) s (m : Int)) _ (fun m s => s = a + tot (xs.take m)) ?_ ?_ 0 a (by omega) (by simp [tot])
  · rintro _ rfl
    refine Ev.step (fun k => by rw [laws_heldInt64SS.l0]) ?_
    simp only [List.take_length, markLL_len, if_neg (show ¬ (xs.length : Int) < (xs.length : Int) by omega)]
    exact Ev.now _
  · rintro m _ hm rfl
    refine ⟨_, rfl, fun ih => ?_⟩
    have e : rd_L1 (markLL xs a) (m : Int) = markL xs[m].length (a + tot (xs.take m)) := by
      rw [rdr_nat (by rw [markLL_len]; exact hm), markLL_at xs a m (by rw [markLL_len]; exact hm) hm]
    have t1 := tot_take xs m hm
    have t2 := tot_take_le xs (m + 1)
    have t3 := tot_nn (xs.take m)
    refine Ev.step (fun k => by rw [laws_heldInt64SS.l0]) ?_
    simp only [markLL_len, if_pos (show (m : Int) < (xs.length : Int) by omega), if_pos (show 0 ≤ (m : Int) by omega), e, w_succ (m := m) (by omega)]
    refine Ev.bind (heldInt64S_ev xs[m].length (a + tot (xs.take m)) (hr _ (List.getElem_mem hm)) (by omega)) ?_
    simp only [if_neg (show ¬ a + tot (xs.take m) + (xs[m].length : Int) < 0 by omega)]
    rw [Int.add_assoc, ← t1]
    exact ih
def grid0 (R C : Nat) : List (List Int) := List.replicate R (List.replicate C 0)
theorem square_ev (R C : Nat) (hR : R ≤ 1000000) (hC : C ≤ 1000000) : Ev (fun k => spec_l09Square.f k (R : Int) (C : Int)) (grid0 R C) := by
  unfold spec_l09Square.f
  refine ev_count R (fun m (s : List (List Int)) k => spec_l09Square.l0 k (R : Int) (C : Int) s (m : Int)) _ (fun m s => s = List.replicate m (List.replicate C 0)) ?_ ?_ 0 [] (by omega) rfl
  · rintro _ rfl
    refine Ev.step (fun k => by rw [spec_l09Square.l0]) ?_
    simp only [if_neg (show ¬ (R : Int) < (R : Int) by omega)]
    exact Ev.now _
  · rintro m _ hm rfl
    refine ⟨_, rfl, fun ih => ?_⟩
    refine Ev.step (fun k => by rw [spec_l09Square.l0]) ?_
    simp only [if_pos (show (m : Int) < (R : Int) by omega), if_pos (show 0 ≤ (C : Int) by omega), Int.toNat_natCast, if_pos (show C ≤ 35184372088832 by omega), List.length_replicate, if_pos (show m < 5864062014805 by omega), w_succ (m := m) (by omega)]
    rw [← List.replicate_succ']
    exact ih
theorem noughts_ev (R C : Nat) (hR : R ≤ 1000000) (hC : C ≤ 1000000) : Ev (fun k => impl_noughts.f k (R : Int) (C : Int)) (grid0 R C) := by
  unfold impl_noughts.f
  simp only [if_pos (show 0 ≤ (R : Int) by omega), Int.toNat_natCast, if_pos (show R ≤ 11728124029610 by omega), Option.bind_some, List.length_replicate]
  refine ev_count R (fun m (s : List (List Int)) k => impl_noughts.l0 k (C : Int) s (R : Int) (m : Int)) _ (fun m s => s = List.replicate m (List.replicate C 0) ++ List.replicate (R - m) []) ?_ ?_ 0 _ (by omega) (by simp)
  · rintro _ rfl
    refine Ev.step (fun k => by rw [impl_noughts.l0]) ?_
    simp only [if_neg (show ¬ (R : Int) < (R : Int) by omega), Nat.sub_self, List.replicate_zero, List.append_nil]
    exact Ev.now _
  · rintro m _ hm rfl
    refine ⟨_, rfl, fun ih => ?_⟩
    refine Ev.step (fun k => by rw [impl_noughts.l0]) ?_
    have hl : (List.replicate m (List.replicate C (0 : Int)) ++ List.replicate (R - m) []).length = R := by simp; omega
    simp only [hl, if_pos (show (m : Int) < (R : Int) by omega), if_pos (show 0 ≤ (C : Int) by omega), Int.toNat_natCast, if_pos (show C ≤ 35184372088832 by omega), if_pos (show 0 ≤ (m : Int) by omega), w_succ (m := m) (by omega)]
    have es : (List.replicate m (List.replicate C (0 : Int)) ++ List.replicate (R - m) []).set m (List.replicate C 0) = List.replicate (m + 1) (List.replicate C 0) ++ List.replicate (R - (m + 1)) [] := by
      obtain ⟨q, hq⟩ : ∃ q, R - m = q + 1 := ⟨R - m - 1, by omega⟩
      rw [List.set_append_right _ _ (by simp), List.length_replicate, Nat.sub_self, hq, List.replicate_succ, List.set_cons_zero, List.replicate_succ', show R - (m + 1) = q by omega, List.append_assoc]
      rfl
    rw [es]
    exact ih
def Grid (R C : Nat) (g : List (List Int)) : Prop := g.length = R ∧ ∀ x ∈ g, x.length = C
theorem grid0_is (R C : Nat) : Grid R C (grid0 R C) := ⟨by simp [grid0], fun x hx => by unfold grid0 at hx; rw [List.eq_of_mem_replicate hx, List.length_replicate]⟩
theorem Grid.row {R C : Nat} {g : List (List Int)} (h : Grid R C g) {i : Nat} (hi : i < R) : i < g.length ∧ ∀ (h' : i < g.length), g[i].length = C := ⟨by rw [h.1]; exact hi, fun h' => h.2 _ (List.getElem_mem h')⟩
theorem Grid.rd {R C : Nat} {g : List (List Int)} (h : Grid R C g) {i : Nat} (hi : i < R) : (rd_L1 g (i : Int)).length = C := by
  rw [rdr_nat (h.row hi).1]
  exact (h.row hi).2 _
theorem Grid.put {R C : Nat} {g : List (List Int)} (h : Grid R C g) {i : Nat} (j : Nat) (v : Int) (hi : i < R) : Grid R C (g.set i ((rd_L1 g (i : Int)).set j v)) := by
  refine ⟨by rw [List.length_set]; exact h.1, fun x hx => ?_⟩
  rcases List.mem_or_eq_of_mem_set hx with hx | hx
  · exact h.2 x hx
  · rw [hx, List.length_set]; exact h.rd hi
end Go.Proofs.Ytpdkknfooblplaa.Com
namespace Go.Proofs.Ytpdkknfooblplaa.Com
set_option linter.unusedSimpArgs false
set_option linter.unusedVariables false
set_option linter.unusedSectionVars false
open Go.RowKit Go.Proofs.YtpdkknfooblplaaW.PrintWords Go.Proofs.YtpdkknfooblplaaW.PrintMore Go.Proofs.Ytpdkknfooblplaa.Q
theorem rowsForm_is {b : Int} {l : List (List Int)} (h : rowsForm b l = true) :
    ∃ R C : Nat, 1 ≤ R ∧ R ≤ 12 ∧ 1 ≤ C ∧ C ≤ 12 ∧ Grid R C l ∧ (rd_L1 l 0).length = C ∧ ∀ x ∈ l, ∀ z ∈ x, 0 ≤ z ∧ z ≤ b := by
  cases l with
  | nil => simp [rowsForm] at h
  | cons y r =>
    have ef : rowsForm b (y :: r) = (decide ((y :: r).length ≤ 12) && decide (1 ≤ y.length ∧ y.length ≤ 12) && (y :: r).all (rowOk y.length b)) := rfl
    rw [ef] at h
    simp only [Bool.and_eq_true, decide_eq_true_eq, List.all_eq_true] at h
    obtain ⟨⟨h1, h2⟩, h3⟩ := h
    have e0 : rd_L1 (y :: r) 0 = y := rdr_nat (xs := y :: r) (m := 0) (by rw [List.length_cons]; omega)
    refine ⟨(y :: r).length, y.length, by rw [List.length_cons]; omega, h1, h2.1, h2.2, ⟨rfl, fun x hx => ?_⟩, by rw [e0], fun x hx z hz => ?_⟩
    · have := h3 x hx
      unfold rowOk at this
      simp only [Bool.and_eq_true, decide_eq_true_eq] at this
      exact this.1
    · have := h3 x hx
      unfold rowOk at this
      simp only [Bool.and_eq_true, decide_eq_true_eq, List.all_eq_true] at this
      exact this.2 z hz
end Go.Proofs.Ytpdkknfooblplaa.Com
namespace Go.Proofs.Ytpdkknfooblplaa.Com
set_option linter.unusedSimpArgs false
set_option linter.unusedVariables false
set_option linter.unusedSectionVars false
open Go.RowKit Go.Proofs.YtpdkknfooblplaaW.PrintWords Go.Proofs.YtpdkknfooblplaaW.PrintMore Go.Proofs.Ytpdkknfooblplaa.Q
theorem toPicture_ev (xs : List (List Int)) (hx : xs.length ≤ 1048576) (hr : ∀ x ∈ xs, x.length ≤ 1048576) : Ev (fun k => laws_toPicture.f k xs) xs := by
  unfold laws_toPicture.f
  exact Ev.bind (toInt64SS_ev xs hx hr) (Ev.now _)
theorem eqPicture_ev (xs : List (List Int)) (hx : xs.length ≤ 1048576) (hr : ∀ x ∈ xs, x.length ≤ 1048576) : Ev (fun k => laws_eqPicture.f k xs xs) true := by
  unfold laws_eqPicture.f
  refine Ev.bind (eqInt64SS_ev xs hx hr) ?_
  simp only [if_true]
  exact Ev.now _
theorem szPic_ev (l : List (List Int)) (a : Int) (ha : 0 ≤ a ∧ a ≤ 1048576) (hl : l.length ≤ maxLen) (hr : ∀ x ∈ l, x.length ≤ maxLen) :
    ∃ t, Ev (fun k => laws_szPicture.f k l a) t ∧ (t = -1 ∨ (0 ≤ t ∧ t ≤ a ∧ l.length ≤ 1048576 ∧ (∀ x ∈ l, x.length ≤ 1048576) ∧ tot l ≤ 1048576)) := by
  obtain ⟨t, e, h⟩ := szSS_ev l a ha hl hr
  unfold laws_szPicture.f
  rcases h with rfl | h
  · refine ⟨-1, Ev.bind e ?_, .inl rfl⟩
    simp only [if_pos (show (-1 : Int) < 0 by omega)]
    exact Ev.now _
  · refine ⟨t, Ev.bind e ?_, .inr h⟩
    simp only [if_neg (show ¬ t < 0 by omega)]
    exact Ev.now _
theorem markPic_ev (xs : List (List Int)) (a : Int) (hx : xs.length ≤ 1048576) (hr : ∀ x ∈ xs, x.length ≤ 1048576) (ha : 0 ≤ a) (hb : a + tot xs ≤ 1000000000000) : Ev (fun k => laws_markPicture.f k xs a) (a + tot xs, markLL xs a) := by
  unfold laws_markPicture.f
  exact Ev.bind (markSS_ev xs a hx hr ha hb) (Ev.now _)
end Go.Proofs.Ytpdkknfooblplaa.Com
namespace Go.Proofs.Ytpdkknfooblplaa.Pure
set_option linter.unusedSimpArgs false
set_option linter.unusedVariables false
open Go.RowKit Go.Proofs.Ytpdkknfooblplaa.Q Go.Proofs.YtpdkknfooblplaaW.PrintWords Go.Proofs.YtpdkknfooblplaaW.PrintLast Go.Proofs.Ytpdkknfooblplaa.Com
theorem rdk_nat {xs : List S79} {m : Nat} (h : m < xs.length) : rd_T79 xs (m : Int) = xs[m] := by
  unfold rd_T79
  rw [Int.toNat_natCast, List.getD_eq_getElem?_getD, List.getElem?_eq_getElem h]
  rfl
theorem rdk1_nat {xs : List S96} {m : Nat} (h : m < xs.length) : rd_T96 xs (m : Int) = xs[m] := by
  unfold rd_T96
  rw [Int.toNat_natCast, List.getD_eq_getElem?_getD, List.getElem?_eq_getElem h]
  rfl
def tapTo (x : S96) : S79 := ⟨x.f0, x.f1, x.f2⟩
theorem setk_take (xs : List S79) (m : Nat) (h : m < xs.length) : (xs.take m ++ List.replicate (xs.length - m) z79).set m xs[m] = xs.take (m + 1) ++ List.replicate (xs.length - (m + 1)) z79 := by
  have hl : (xs.take m).length = m := by rw [List.length_take]; omega
  rw [List.set_append_right _ _ (by omega), hl, Nat.sub_self]
  obtain ⟨q, hq⟩ : ∃ q, xs.length - m = q + 1 := ⟨xs.length - m - 1, by omega⟩
  rw [hq, List.replicate_succ, List.set_cons_zero, show xs.length - (m + 1) = q by omega, List.take_succ_eq_append_getElem h, List.append_assoc]
  rfl
theorem toTapS_ev (l : List S96) (hx : l.length ≤ 1048576) : Ev (fun k => laws_toTapS.f k l) (l.map tapTo) := by
  unfold laws_toTapS.f
  have hn : (l.map tapTo).length = l.length := List.length_map ..
  simp only [if_pos (show 0 ≤ (l.length : Int) by omega), if_pos (show ((l.length : Int)).toNat ≤ 11728124029610 by omega)]
  have := ev_count l.length (fun m s k => laws_toTapS.l0 k l s (m : Int)) (l.map tapTo) (fun m s => s = (l.map tapTo).take m ++ List.replicate ((l.map tapTo).length - m) z79) (fun s hs => ?_) (fun m s hm hs => ⟨(l.map tapTo).take (m + 1) ++ List.replicate ((l.map tapTo).length - (m + 1)) z79, rfl, fun ih => ?_⟩) 0 (List.replicate l.length z79) (by omega) (by simp)
  · simpa using this
  · refine Ev.step (fun k => by rw [laws_toTapS.l0]) ?_
    simp only [if_neg (show ¬ (l.length : Int) < (l.length : Int) by omega)]
    subst hs
    rw [hn, Nat.sub_self, List.replicate_zero, List.append_nil, ← hn, List.take_length]
    exact Ev.now _
  · refine Ev.step (fun k => by rw [laws_toTapS.l0]) ?_
    subst hs
    have hl : ((l.map tapTo).take m ++ List.replicate ((l.map tapTo).length - m) z79).length = l.length := by simp; omega
    have hm' : m < (l.map tapTo).length := by omega
    have e : (⟨l[m].f0, l[m].f1, l[m].f2⟩ : S79) = (l.map tapTo)[m] := by rw [List.getElem_map]; rfl
    simp only [if_pos (show (m : Int) < (l.length : Int) by omega), if_pos (show 0 ≤ (m : Int) by omega), hl, rdk1_nat hm, w_succ (m := m) (by omega), laws_toTap.f, Option.bind_some, Int.toNat_natCast, e, setk_take _ m hm']
    exact ih
theorem toKernel_ev (a : Int) (l : List S96) (hx : l.length ≤ 1048576) : Ev (fun k => laws_toKernel.f k a l) (a, l.map tapTo) := by
  unfold laws_toKernel.f
  exact Ev.bind (toTapS_ev l hx) (Ev.now _)
theorem eqKernel_ev (a : Int) (l : List S79) (hx : l.length ≤ 1048576) : Ev (fun k => laws_eqKernel.f k a l a l) true := by
  unfold laws_eqKernel.f laws_eqTapS.f
  simp only [if_true]
  refine Ev.bind (a := true) ?_ (by simp only [if_true]; exact Ev.now _)
  have gen := ev_list l (fun m k => laws_eqTapS.l0 k l l (m : Int)) (fun _ => true) ?_ ?_ 0 (by omega)
  · exact gen
  · refine Ev.step (fun k => by rw [laws_eqTapS.l0]) ?_
    simp only [if_neg (show ¬ (l.length : Int) < (l.length : Int) by omega)]
    exact Ev.now _
  · intro m hm ih
    refine Ev.step (fun k => by rw [laws_eqTapS.l0]) ?_
    simp only [if_pos (show (m : Int) < (l.length : Int) by omega), if_pos (show 0 ≤ (m : Int) by omega), rdk_nat hm, w_succ (m := m) (by omega), laws_eqTap.f, if_true, Option.bind_some]
    exact ih
def dupIn (pre : List S79) (x : S79) : Bool := pre.any fun y => y.f0 == x.f0 && y.f1 == x.f1
def tapOk (P : Int) (x : S79) : Prop := (0 ≤ x.f0 ∧ x.f0 ≤ 2) ∧ (-2 ≤ x.f1 ∧ x.f1 ≤ 2) ∧ ¬ (x.f0 < 1 ∧ x.f1 < 1) ∧ (1 ≤ x.f2 ∧ x.f2 ≤ P)
instance (P : Int) (x : S79) : Decidable (tapOk P x) := by unfold tapOk; infer_instance
def run (B P : Int) : List S79 → List S79 → Int → Bool
  | [], _, s => decide (s ≤ P)
  | x :: r, pre, s => if tapOk B x ∧ dupIn pre x = false then run B P r (pre ++ [x]) (s + x.f2) else false
theorem run_le (B P : Int) (r : List S79) : ∀ pre s, run B P r pre s = true → s ≤ P := by
  induction r with
  | nil => intro pre s h; unfold run at h; exact of_decide_eq_true h
  | cons x r ih =>
    intro pre s h
    unfold run at h
    by_cases c : tapOk B x ∧ dupIn pre x = false
    · rw [if_pos c] at h
      have := ih _ _ h
      have := c.1.2.2.2.1
      omega
    · rw [if_neg c] at h; cases h
theorem run_same (P : Int) (hP : P ≤ 64) (r : List S79) : ∀ pre s, 0 ≤ s → run P P r pre s = run 64 P r pre s := by
  induction r with
  | nil => intro pre s _; rfl
  | cons x r ih =>
    intro pre s hs
    unfold run
    by_cases c : tapOk 64 x ∧ dupIn pre x = false
    · rw [if_pos c]
      by_cases d : x.f2 ≤ P
      · have c1 := c.1
        rw [if_pos ⟨⟨c1.1, c1.2.1, c1.2.2.1, c1.2.2.2.1, d⟩, c.2⟩]
        have := c1.2.2.2.1
        exact ih _ _ (by omega)
      · rw [if_neg (fun h => d h.1.2.2.2.2)]
        cases h : run 64 P r (pre ++ [x]) (s + x.f2) with
        | false => rfl
        | true => have := run_le _ _ _ _ _ h; omega
    · rw [if_neg c, if_neg]
      rintro ⟨h1, h2⟩
      refine c ⟨⟨h1.1, h1.2.1, h1.2.2.1, h1.2.2.2.1, ?_⟩, h2⟩
      have := h1.2.2.2.2
      omega
section
variable {l : List S79} (P : Int) (hl : l.length ≤ 12)
include hl
theorem dup_ev (m : Nat) (hm : m < l.length) (s a b c : Int) (r : Bool) (ih : Ev (fun k => spec_l09Kernel.l0 k (wrap64 (s + c)) (wrap64 ((m : Int) + 1)) P l) r) :
    Ev (fun k => spec_l09Kernel.l1 k s (m : Int) 0 P l a b c) (if (l.take m).any (fun y => y.f0 == a && y.f1 == b) then false else r) := by
  have hlen : (l.take m).length = m := by rw [List.length_take]; omega
  have gen := ev_list (l.take m) (fun j k => spec_l09Kernel.l1 k s (m : Int) (j : Int) P l a b c) (fun d => if d.any (fun y => y.f0 == a && y.f1 == b) then false else r) ?_ ?_ 0 (by omega)
  · exact gen
  · rw [hlen]
    refine Ev.step (fun k => by rw [spec_l09Kernel.l1]) ?_
    simp only [if_neg (show ¬ (m : Int) < (m : Int) by omega), List.any_nil, Bool.false_eq_true, if_false]
    exact ih
  · intro j hj ih'
    have hj' : j < m := by omega
    refine Ev.step (fun k => by rw [spec_l09Kernel.l1]) ?_
    have hjl : j < l.length := by omega
    have e : (l.take m)[j] = l[j] := List.getElem_take ..
    simp only [if_pos (show (j : Int) < (m : Int) by omega), if_pos (show 0 ≤ (j : Int) by omega), if_pos (show (j : Int) < (l.length : Int) by omega), rdk_nat hjl, w_succ (m := j) (by omega), e, List.any_cons]
    by_cases q1 : l[j].f0 = a
    · by_cases q2 : l[j].f1 = b
      · simp only [if_pos q1, if_pos q2, beq_iff_eq.mpr q1, beq_iff_eq.mpr q2, Bool.and_self, Bool.true_or, if_true]
        exact Ev.now _
      · simp only [if_pos q1, if_neg q2, beq_eq_false_iff_ne.mpr q2, Bool.and_false, Bool.false_or]
        exact ih'
    · simp only [if_neg q1, beq_eq_false_iff_ne.mpr q1, Bool.false_and, Bool.false_or]
      exact ih'
theorem specKern_ev (hP : 1 ≤ P ∧ P ≤ 64) : Ev (fun k => spec_l09Kernel.l0 k 0 0 P l) (run P P l [] 0) := by
  have gen := ev_fold l (fun m (s : Int) k => spec_l09Kernel.l0 k s (m : Int) P l) (fun d s => run P P d (l.take (l.length - d.length)) s) (fun m s => 0 ≤ s ∧ s ≤ 64 * (m : Int)) ?_ ?_ 0 0 (by omega) (by omega)
  · simpa using gen
  · intro s _
    refine Ev.step (fun k => by rw [spec_l09Kernel.l0]) ?_
    simp only [if_neg (show ¬ (l.length : Int) < (l.length : Int) by omega)]
    exact Ev.now _
  · intro m hm s hs ih
    refine Ev.step (fun k => by rw [spec_l09Kernel.l0]) ?_
    have hd : (l.drop (m + 1)).length = l.length - (m + 1) := List.length_drop ..
    have t1 : l.length - (l[m] :: l.drop (m + 1)).length = m := by rw [List.length_cons, hd]; omega
    have t2 : l.length - (l.drop (m + 1)).length = m + 1 := by rw [hd]; omega
    rw [t1]
    rw [t2] at ih
    simp only [if_pos (show (m : Int) < (l.length : Int) by omega), if_pos (show 0 ≤ (m : Int) by omega), rdk_nat hm, in_tells, Option.bind_some, decide_eq_true_eq]
    have tk : l.take m ++ [l[m]] = l.take (m + 1) := (List.take_succ_eq_append_getElem hm).symm
    have dup := dup_ev P hl m hm s l[m].f0 l[m].f1 l[m].f2
    have jt : Ev (fun k => spec_l09Kernel.j2 k s (m : Int) true P l l[m].f0 l[m].f1 l[m].f2) false := Ev.step (fun k => by rw [spec_l09Kernel.j2]) (by simp only [if_true]; exact Ev.now _)
    unfold run
    rw [tk]
    generalize l[m] = x at dup jt ⊢
    by_cases q1 : 0 ≤ x.f0 ∧ x.f0 ≤ 2
    · simp only [if_pos q1]
      by_cases q2 : -2 ≤ x.f1 ∧ x.f1 ≤ 2
      · simp only [if_pos q2]
        have rest : ∀ (h : ¬ (x.f0 < 1 ∧ x.f1 < 1)), Ev (fun k => spec_l09Kernel.j2 k s (m : Int) (!decide (1 ≤ x.f2 ∧ x.f2 ≤ P)) P l x.f0 x.f1 x.f2) (if tapOk P x ∧ dupIn (l.take m) x = false then run P P (l.drop (m + 1)) (l.take (m + 1)) (s + x.f2) else false) := by
          intro h
          by_cases q3 : 1 ≤ x.f2 ∧ x.f2 ≤ P
          · rw [decide_eq_true q3]
            refine Ev.step (fun k => by rw [spec_l09Kernel.j2]) ?_
            simp only [Bool.not_true, Bool.false_eq_true, if_false]
            have ok : tapOk P x := ⟨q1, q2, h, q3⟩
            have := dup (run P P (l.drop (m + 1)) (l.take (m + 1)) (s + x.f2)) (by rw [w64 (x := s + x.f2) (by omega) (by omega), w_succ (m := m) (by omega)]; exact ih _ (by omega))
            cases hd : dupIn (l.take m) x with
            | true => unfold dupIn at hd; rw [hd] at this; simpa using this
            | false => unfold dupIn at hd; rw [hd] at this; simpa [ok] using this
          · rw [decide_eq_false q3, if_neg (fun h => q3 h.1.2.2.2)]
            exact jt
        by_cases z : x.f0 = 0
        · simp only [if_pos z]
          by_cases z2 : x.f1 < 1
          · simp only [if_pos z2]
            rw [if_neg (fun h => h.1.2.2.1 ⟨by omega, z2⟩)]
            exact jt
          · simp only [if_neg z2]
            exact rest (fun h => z2 h.2)
        · simp only [if_neg z]
          exact rest (fun h => by omega)
      · simp only [if_neg q2]
        rw [if_neg (fun h => q2 h.1.2.1)]
        exact jt
    · simp only [if_neg q1]
      rw [if_neg (fun h => q1 h.1.1)]
      exact jt
theorem implKern_ev (hP : 1 ≤ P ∧ P ≤ 64) : Ev (fun k => impl_ValidKernel.l0 k 0 l (l.length : Int) 0 P l) (run 64 P l [] 0) := by
  have gen := ev_fold l (fun m (s : Int) k => impl_ValidKernel.l0 k s l (l.length : Int) (m : Int) P l) (fun d s => run 64 P d (l.take (l.length - d.length)) s) (fun m s => 0 ≤ s ∧ s ≤ 64 * (m : Int)) ?_ ?_ 0 0 (by omega) (by omega)
  · simpa using gen
  · intro s _
    refine Ev.step (fun k => by rw [impl_ValidKernel.l0]) ?_
    simp only [if_neg (show ¬ (l.length : Int) < (l.length : Int) by omega)]
    exact Ev.now _
  · intro m hm s hs ih
    refine Ev.step (fun k => by rw [impl_ValidKernel.l0]) ?_
    have hd : (l.drop (m + 1)).length = l.length - (m + 1) := List.length_drop ..
    have t1 : l.length - (l[m] :: l.drop (m + 1)).length = m := by rw [List.length_cons, hd]; omega
    have t2 : l.length - (l.drop (m + 1)).length = m + 1 := by rw [hd]; omega
    rw [t1]
    rw [t2] at ih
    simp only [if_pos (show (m : Int) < (l.length : Int) by omega), if_pos (show 0 ≤ (m : Int) by omega), if_pos (show (m : Int) ≤ (l.length : Int) by omega), rdk_nat hm, within_tells, impl_Tap_66.f, Int.toNat_natCast, Option.bind_some, decide_eq_true_eq]
    have tk : l.take m ++ [l[m]] = l.take (m + 1) := (List.take_succ_eq_append_getElem hm).symm
    unfold run
    rw [tk]
    generalize l[m] = x
    by_cases q0 : dupIn (l.take m) x = true
    · have q0' := q0
      unfold dupIn at q0'
      simp only [if_pos q0']
      rw [if_neg (fun h => by rw [q0] at h; exact absurd h.2 (by decide))]
      exact Ev.now _
    · have q0' := q0
      unfold dupIn at q0'
      simp only [if_neg q0']
      have q0f : dupIn (l.take m) x = false := by simpa using q0
      by_cases q1 : 0 ≤ x.f0 ∧ x.f0 ≤ 2
      · simp only [if_pos q1]
        by_cases q2 : -2 ≤ x.f1 ∧ x.f1 ≤ 2
        · simp only [if_pos q2]
          have rest : ∀ (h : ¬ (x.f0 < 1 ∧ x.f1 < 1)), Ev (fun k => if 1 ≤ x.f2 ∧ x.f2 ≤ 64 then impl_ValidKernel.l0 k (wrap64 (s + x.f2)) l (l.length : Int) (wrap64 ((m : Int) + 1)) P l else some false) (if tapOk 64 x ∧ dupIn (l.take m) x = false then run 64 P (l.drop (m + 1)) (l.take (m + 1)) (s + x.f2) else false) := by
            intro h
            by_cases q3 : 1 ≤ x.f2 ∧ x.f2 ≤ 64
            · have ok : tapOk 64 x := ⟨q1, q2, h, q3⟩
              simp only [if_pos q3]
              rw [if_pos ⟨ok, q0f⟩, w64 (x := s + x.f2) (by omega) (by omega), w_succ (m := m) (by omega)]
              exact ih _ (by omega)
            · simp only [if_neg q3]
              rw [if_neg (fun h => q3 h.1.2.2.2)]
              exact Ev.now _
          by_cases z : x.f0 < 1
          · simp only [if_pos z]
            by_cases z2 : x.f1 < 1
            · simp only [if_pos z2]
              rw [if_neg (fun h => h.1.2.2.1 ⟨z, z2⟩)]
              exact Ev.now _
            · simp only [if_neg z2]
              exact rest (fun h => z2 h.2)
          · simp only [if_neg z]
            exact rest (fun h => z h.1)
        · simp only [if_neg q2]
          rw [if_neg (fun h => q2 h.1.2.1)]
          exact Ev.now _
      · simp only [if_neg q1]
        rw [if_neg (fun h => q1 h.1.1)]
        exact Ev.now _
end
def kern (P : Int) (l : List S79) : Bool := if 1 ≤ P ∧ P ≤ 64 then if l.length ≤ 12 then run 64 P l [] 0 else false else false
theorem l09Kernel_ev (P : Int) (l : List S79) : Ev (fun k => spec_l09Kernel.f k P l) (kern P l) := by
  unfold spec_l09Kernel.f kern
  refine ev_bind' (in_tells _ _ _) ?_
  have no : Ev (fun k => spec_l09Kernel.j0 k true P l) false := Ev.step (fun k => by rw [spec_l09Kernel.j0]) (by simp only [if_true]; exact Ev.now _)
  by_cases hP : 1 ≤ P ∧ P ≤ 64
  · simp only [decide_eq_true hP, if_true, if_pos hP]
    by_cases hl : l.length ≤ 12
    · rw [decide_eq_false (show ¬ (l.length : Int) > 12 by omega), if_pos hl]
      refine Ev.step (fun k => by rw [spec_l09Kernel.j0]) ?_
      simp only [Bool.false_eq_true, if_false]
      rw [← run_same P hP.2 l [] 0 (by omega)]
      exact specKern_ev P hl hP
    · rw [decide_eq_true (show (l.length : Int) > 12 by omega), if_neg hl]
      exact no
  · simp only [decide_eq_false hP, Bool.false_eq_true, if_false, if_neg hP]
    exact no
theorem implKernel_ev (P : Int) (l : List S79) : Ev (fun k => impl_ValidKernel.f k P l) (kern P l) := by
  unfold impl_ValidKernel.f kern
  refine ev_bind' (within_tells _ _ _) ?_
  have no : Ev (fun k => impl_ValidKernel.j0 k true P l) false := Ev.step (fun k => by rw [impl_ValidKernel.j0]) (by simp only [if_true]; exact Ev.now _)
  by_cases hP : 1 ≤ P ∧ P ≤ 64
  · simp only [decide_eq_true hP, if_true, if_pos hP]
    by_cases hl : l.length ≤ 12
    · rw [decide_eq_false (show ¬ (l.length : Int) > 12 by omega), if_pos hl]
      refine Ev.step (fun k => by rw [impl_ValidKernel.j0]) ?_
      simp only [Bool.false_eq_true, if_false]
      exact implKern_ev P hl hP
    · rw [decide_eq_true (show (l.length : Int) > 12 by omega), if_neg hl]
      exact no
  · simp only [decide_eq_false hP, Bool.false_eq_true, if_false, if_neg hP]
    exact no
theorem run_ok (B P : Int) (r : List S79) : ∀ pre s, run B P r pre s = true → ∀ x ∈ r, tapOk B x := by
  induction r with
  | nil => intro pre s _ x hx; simp at hx
  | cons y r ih =>
    intro pre s h x hx
    unfold run at h
    by_cases c : tapOk B y ∧ dupIn pre y = false
    · rw [if_pos c] at h
      rcases List.mem_cons.1 hx with rfl | hx
      · exact c.1
      · exact ih _ _ h x hx
    · rw [if_neg c] at h; cases h
theorem kern_ok {P : Int} {l : List S79} (h : kern P l = true) : (1 ≤ P ∧ P ≤ 64) ∧ l.length ≤ 12 ∧ ∀ x ∈ l, tapOk 64 x := by
  unfold kern at h
  split at h
  · split at h
    · exact ⟨by assumption, by assumption, run_ok _ _ _ _ _ h⟩
    · cases h
  · cases h
end Go.Proofs.Ytpdkknfooblplaa.Pure
namespace Go.Proofs.Ytpdkknfooblplaa.Com
set_option linter.unusedSimpArgs false
set_option linter.unusedVariables false
set_option linter.unusedSectionVars false
open Go.RowKit Go.Proofs.YtpdkknfooblplaaW.PrintWords Go.Proofs.YtpdkknfooblplaaW.PrintMore Go.Proofs.Ytpdkknfooblplaa.Q Go.Proofs.Ytpdkknfooblplaa.Pure
theorem ww (x : Int) : wrap64 (wrap64 x) = wrap64 x := by unfold wrap64; omega
theorem in64 {x : Int} (h : wrap64 x = x) : -9223372036854775808 ≤ x ∧ x ≤ 9223372036854775807 := by unfold wrap64 at h; omega
def Wide (g : List (List Int)) : Prop := ∀ x ∈ g, ∀ z ∈ x, wrap64 z = z
def getG (g : List (List Int)) (i c : Nat) : Int := rd (rd_L1 g (i : Int)) (c : Int)
def putG (g : List (List Int)) (i c : Nat) (v : Int) : List (List Int) := g.set i ((rd_L1 g (i : Int)).set c v)
theorem put2_eq {R C : Nat} {g : List (List Int)} (h : Grid R C g) {i c : Nat} (hi : i < R) (hc : c < C) (v : Int) : put2 g (i : Int) (c : Int) v = some (putG g i c v) := by
  unfold put2 putG
  have hl : (rda g (i : Int)).length = C := h.rd hi
  rw [if_pos (by omega), if_pos (by rw [h.1]; omega), if_pos (by omega), if_pos (by omega), Int.toNat_natCast, Int.toNat_natCast]
  rfl
theorem put_grid {R C : Nat} {g : List (List Int)} (h : Grid R C g) {i : Nat} (hi : i < R) (c : Nat) (v : Int) : Grid R C (putG g i c v) := h.put c v hi
theorem put_wide {g : List (List Int)} (hw : Wide g) {i c : Nat} (hi : i < g.length) {v : Int} (hv : wrap64 v = v) : Wide (putG g i c v) := by
  intro x hx z hz
  unfold putG at hx
  rcases List.mem_or_eq_of_mem_set hx with hx | rfl
  · exact hw x hx z hz
  · rcases List.mem_or_eq_of_mem_set hz with hz | rfl
    · rw [rdr_nat hi] at hz
      exact hw _ (List.getElem_mem _) z hz
    · exact hv
theorem get_wide {R C : Nat} {g : List (List Int)} (h : Grid R C g) (hw : Wide g) {i c : Nat} (hi : i < R) (hc : c < C) : wrap64 (getG g i c) = getG g i c := by
  unfold getG
  have hi' : i < g.length := by rw [h.1]; exact hi
  have hl := h.rd hi
  rw [rdr_nat hi'] at hl ⊢
  rw [rd_nat (by omega)]
  exact hw _ (List.getElem_mem _) _ (List.getElem_mem _)
def fl (x b : Int) : Int := if Int.tmod x b < 0 then wrap64 (Int.tdiv x b - 1) else Int.tdiv x b
theorem tdiv_in {x b : Int} (hx : wrap64 x = x) (hb : 1 ≤ b) : wrap64 (Int.tdiv x b) = Int.tdiv x b ∧ wrap64 (Int.tdiv x b * b) = Int.tdiv x b * b ∧ (Int.tdiv x b * b > x ↔ Int.tmod x b < 0) := by
  have hx := in64 hx
  have e := Int.mul_tdiv_add_tmod x b
  have m : b * Int.tdiv x b = Int.tdiv x b * b := Int.mul_comm _ _
  rcases Int.lt_or_le x 0 with h | h
  · have h1 : Int.tdiv x b = -((-x) / b) := by rw [← Int.tdiv_eq_ediv_of_nonneg (show 0 ≤ -x by omega), Int.neg_tdiv, Int.neg_neg]
    have h2 : Int.tmod x b = -((-x) % b) := by rw [← Int.tmod_eq_emod_of_nonneg (show 0 ≤ -x by omega), Int.neg_tmod, Int.neg_neg]
    have h3 : 0 ≤ (-x) / b := Int.ediv_nonneg (by omega) (by omega)
    have h4 : (-x) / b ≤ -x := Int.ediv_le_self _ (by omega)
    have h5 : 0 ≤ (-x) % b := Int.emod_nonneg _ (by omega)
    have h6 : (-x) % b < b := Int.emod_lt_of_pos _ (by omega)
    have h7 : 0 ≤ (-x) / b * b := Int.mul_nonneg h3 (by omega)
    have h8 : Int.tdiv x b * b = -((-x) / b * b) := by rw [h1, Int.neg_mul]
    rw [m] at e
    refine ⟨w64 (by omega) (by omega), w64 (by omega) (by omega), by omega⟩
  · have h1 : Int.tdiv x b = x / b := Int.tdiv_eq_ediv_of_nonneg h
    have h2 : Int.tmod x b = x % b := Int.tmod_eq_emod_of_nonneg h
    have h3 : 0 ≤ x / b := Int.ediv_nonneg (by omega) (by omega)
    have h4 : x / b ≤ x := Int.ediv_le_self _ (by omega)
    have h5 : 0 ≤ x % b := Int.emod_nonneg _ (by omega)
    have h7 : 0 ≤ x / b * b := Int.mul_nonneg h3 (by omega)
    have h8 : Int.tdiv x b * b = x / b * b := by rw [h1]
    rw [m] at e
    refine ⟨w64 (by omega) (by omega), w64 (by omega) (by omega), by omega⟩
theorem implFl {x b : Int} (hx : wrap64 x = x) (hb : 1 ≤ b) : impl_floor.f x b = some (fl x b) := by
  have t := tdiv_in hx hb
  unfold impl_floor.f fl
  rw [if_neg (by omega), t.1]
  split <;> rfl
theorem specFl {x b : Int} (hx : wrap64 x = x) (hb : 1 ≤ b) : spec_l01Floor.f x b = some (fl x b) := by
  have t := tdiv_in hx hb
  unfold spec_l01Floor.f fl
  rw [if_neg (by omega), t.1, t.2.1]
  by_cases c : Int.tmod x b < 0
  · rw [if_pos c, if_pos (t.2.2.2 c)]
  · rw [if_neg c, if_neg (fun h => c (t.2.2.1 h))]
def eOne (z : Int) : Int := if wrap64 (2 * z) > 255 then 1 else 0
def eLeft (z : Int) : Int := if wrap64 (2 * z) > 255 then wrap64 (z - 255) else z
theorem specDot (z : Int) : spec_l09Dot.f z = some (eOne z, eLeft z) := by
  unfold spec_l09Dot.f eOne eLeft
  split <;> rfl
theorem implDot {z : Int} (hz : wrap64 z = z) : impl_dotOf.f z = some (eOne z, eLeft z) := by
  unfold impl_dotOf.f impl_bit.f eOne eLeft
  by_cases q : wrap64 (2 * z) > 255
  · simp only [decide_eq_true q, if_true, Option.bind_some, if_pos q]
    rw [w64 (x := 1 * 255) (by omega) (by omega)]
    rfl
  · simp only [decide_eq_false q, Bool.false_eq_true, if_false, Option.bind_some, if_neg q]
    rw [w64 (x := 0 * 255) (by omega) (by omega), show z - 0 * 255 = z by omega, hz]
def tapIn (R C i c : Nat) (way : Int) (t : S79) : Prop := (0 ≤ (i : Int) + t.f0 ∧ (i : Int) + t.f0 ≤ (R : Int) - 1) ∧ (0 ≤ (c : Int) + way * t.f1 ∧ (c : Int) + way * t.f1 ≤ (C : Int) - 1)
instance (R C i c : Nat) (way : Int) (t : S79) : Decidable (tapIn R C i c way t) := inferInstanceAs (Decidable (_ ∧ _))
def tStep (R C : Nat) (P : Int) (i c : Nat) (way e : Int) (s : List (List Int) × Int) (t : S79) : List (List Int) × Int :=
  if tapIn R C i c way t then (putG s.1 ((i : Int) + t.f0).toNat ((c : Int) + way * t.f1).toNat (wrap64 (getG s.1 ((i : Int) + t.f0).toNat ((c : Int) + way * t.f1).toNat + fl (wrap64 (e * t.f2)) P)), wrap64 (s.2 - fl (wrap64 (e * t.f2)) P)) else s
def colN (way : Int) (C n : Nat) : Nat := if way < 0 then C - 1 - n else n
theorem dway_is (a2 : Bool) (i : Int) : dway a2 i = 1 ∨ dway a2 i = -1 := by
  unfold dway
  split
  · split <;> simp
  · simp
theorem dcol_is {way : Int} {C n : Nat} (hC : C ≤ 12) (hn : n < C) : dcol way (C : Int) (n : Int) = ((colN way C n : Nat) : Int) := by
  unfold dcol colN
  split
  · rw [w64 (x := (C : Int) - 1) (by omega) (by omega), w64 (by omega) (by omega)]; omega
  · rfl
theorem idcol_is {a2 : Bool} {C n : Nat} {i : Int} (hC : C ≤ 12) (hn : n < C) : idcol a2 (C : Int) i (n : Int) = ((colN (dway a2 i) C n : Nat) : Int) := by
  unfold idcol colN dway
  rw [w64 (x := (C : Int) - 1) (by omega) (by omega), w64 (x := (C : Int) - 1 - (n : Int)) (by omega) (by omega)]
  cases a2
  · simp
  · simp only [if_true]
    by_cases c : Int.tmod i 2 = 1
    · simp only [if_pos c]; rw [if_pos (by omega)]; omega
    · simp only [if_neg c]; rw [if_neg (by omega)]
theorem colN_lt {way : Int} {C n : Nat} (hn : n < C) : colN way C n < C := by unfold colN; split <;> omega
abbrev DSt := List (List Int) × List (List Int) × Int
def cStep (R C : Nat) (P : Int) (l : List S79) (a2 : Bool) (i : Nat) (s : DSt) (n : Nat) : DSt :=
  ((l.foldl (tStep R C P i (colN (dway a2 (i : Int)) C n) (dway a2 (i : Int)) (eLeft (getG s.1 i (colN (dway a2 (i : Int)) C n)))) (s.1, eLeft (getG s.1 i (colN (dway a2 (i : Int)) C n)))).1,
   putG s.2.1 i (colN (dway a2 (i : Int)) C n) (eOne (getG s.1 i (colN (dway a2 (i : Int)) C n))),
   wrap64 (s.2.2 + (l.foldl (tStep R C P i (colN (dway a2 (i : Int)) C n) (dway a2 (i : Int)) (eLeft (getG s.1 i (colN (dway a2 (i : Int)) C n)))) (s.1, eLeft (getG s.1 i (colN (dway a2 (i : Int)) C n)))).2))
def rStep (R C : Nat) (P : Int) (l : List S79) (a2 : Bool) (s : DSt) (i : Nat) : DSt := (List.range C).foldl (cStep R C P l a2 i) s
def diffused (R C : Nat) (P : Int) (l : List S79) (a2 : Bool) (s : DSt) : DSt := (List.range R).foldl (rStep R C P l a2) s
def DInv (R C : Nat) (s : DSt) : Prop := Grid R C s.1 ∧ Wide s.1 ∧ Grid R C s.2.1
section
variable {R C : Nat} (hR : 1 ≤ R ∧ R ≤ 12) (hC : 1 ≤ C ∧ C ≤ 12) {P : Int} {l : List S79} (a2 : Bool) (hP : 1 ≤ P ∧ P ≤ 64) (hl : l.length ≤ 12) (hok : ∀ x ∈ l, tapOk 64 x)
include hR hC hP hl hok
theorem specTaps_ev {out : List (List Int)} {lost : Int} {i c n : Nat} {way : Int} (hi : i < R) (hc : c < C) (hway : way = 1 ∨ way = -1) (e : Int) (G : List (List Int) → Int → List (List Int) × Int × Bool)
    (cont : ∀ su left, Grid R C su → Wide su → Ev (fun k => spec_DiffuseDither.l1 k R C P l a2 su out (wrap64 (lost + left)) i way (wrap64 ((n : Int) + 1))) (G su left)) (su : List (List Int)) (hs : Grid R C su) (hw : Wide su) (left : Int) :
    Ev (fun k => spec_DiffuseDither.l2 k R C P l a2 su out lost i way n c e left 0) (G (l.foldl (tStep R C P i c way e) (su, left)).1 (l.foldl (tStep R C P i c way e) (su, left)).2) := by
  refine ev_fold l (fun m (s : List (List Int) × Int) k => spec_DiffuseDither.l2 k R C P l a2 s.1 out lost i way n c e s.2 (m : Int)) (fun d s => G (d.foldl (tStep R C P i c way e) s).1 (d.foldl (tStep R C P i c way e) s).2) (fun m s => Grid R C s.1 ∧ Wide s.1) ?_ ?_ 0 (su, left) (by omega) ⟨hs, hw⟩
  · rintro ⟨su, left⟩ ⟨h1, h2⟩
    refine Ev.step (fun k => by rw [spec_DiffuseDither.l2]) ?_
    simp only [if_neg (show ¬ (l.length : Int) < (l.length : Int) by omega), List.foldl_nil]
    exact cont _ _ h1 h2
  · rintro m hm ⟨su, left⟩ ⟨h1, h2⟩ ih
    have ok := hok _ (List.getElem_mem hm)
    refine Ev.step (fun k => by rw [spec_DiffuseDither.l2]) ?_
    simp only [if_pos (show (m : Int) < (l.length : Int) by omega), if_pos (show 0 ≤ (m : Int) by omega), rdk_nat hm, w_succ (m := m) (by omega), List.foldl_cons]
    simp only at h1 h2
    generalize l[m] = t at ok ⊢
    have ih' := ih (tStep R C P i c way e (su, left) t)
    revert ih'
    generalize List.drop (m + 1) l = d
    obtain ⟨o1, o2, _, o4⟩ := ok
    have hq : ∃ q, way * t.f1 = q ∧ -2 ≤ q ∧ q ≤ 2 := by
      rcases hway with rfl | rfl
      · exact ⟨_, rfl, by omega, by omega⟩
      · exact ⟨_, rfl, by omega, by omega⟩
    obtain ⟨q, hq, q1, q2⟩ := hq
    rw [hq, w64 (x := (i : Int) + t.f0) (by omega) (by omega), w64 (x := q) (by omega) (by omega), w64 (x := (c : Int) + q) (by omega) (by omega), w64 (x := (C : Int) - 1) (by omega) (by omega), specFl (ww _) hP.1]
    simp only [in_tells, Option.bind_some]
    by_cases b1 : (i : Int) + t.f0 < (R : Int)
    · simp only [if_pos b1]
      by_cases b2 : 0 ≤ (c : Int) + q ∧ (c : Int) + q ≤ (C : Int) - 1
      · simp only [decide_eq_true b2, if_true]
        have hin : tapIn R C i c way t := by unfold tapIn; rw [hq]; exact ⟨⟨by omega, by omega⟩, b2⟩
        obtain ⟨x, hx⟩ : ∃ x : Nat, (i : Int) + t.f0 = (x : Int) := ⟨((i : Int) + t.f0).toNat, by omega⟩
        obtain ⟨y, hy⟩ : ∃ y : Nat, (c : Int) + q = (y : Int) := ⟨((c : Int) + q).toNat, by omega⟩
        have hT : tStep R C P i c way e (su, left) t = (putG su x y (wrap64 (getG su x y + fl (wrap64 (e * t.f2)) P)), wrap64 (left - fl (wrap64 (e * t.f2)) P)) := by
          unfold tStep
          rw [if_pos hin]
          simp only [hq, hx, hy, Int.toNat_natCast]
        rw [hT]
        intro ih'
        simp only [hx, hy, put2_eq h1 (show x < R by omega) (show y < C by omega), Option.bind_some]
        exact ih' ⟨put_grid h1 (show x < R by omega) _ _, put_wide h2 (by rw [h1.1]; omega) (ww _)⟩
      · simp only [decide_eq_false b2, Bool.false_eq_true, if_false]
        have hin : ¬ tapIn R C i c way t := by unfold tapIn; rw [hq]; exact fun h => b2 h.2
        have hT : tStep R C P i c way e (su, left) t = (su, left) := by unfold tStep; rw [if_neg hin]
        rw [hT]
        intro ih'
        exact ih' ⟨h1, h2⟩
    · simp only [if_neg b1]
      have hin : ¬ tapIn R C i c way t := by unfold tapIn; exact fun h => b1 (by have := h.1.2; omega)
      have hT : tStep R C P i c way e (su, left) t = (su, left) := by unfold tStep; rw [if_neg hin]
      rw [hT]
      intro ih'
      exact ih' ⟨h1, h2⟩
theorem implTaps_ev {out : List (List Int)} {lost : Int} {i c n : Nat} {way : Int} (hi : i < R) (hc : c < C) (hway : way = 1 ∨ way = -1) (e : Int) (G : List (List Int) → Int → List (List Int) × Int × Bool)
    (cont : ∀ su left, Grid R C su → Wide su → Ev (fun k => impl_DiffuseDither.l1 k R C P l a2 su out (wrap64 (lost + left)) i (wrap64 ((n : Int) + 1))) (G su left)) (su : List (List Int)) (hs : Grid R C su) (hw : Wide su) (left : Int) :
    Ev (fun k => impl_DiffuseDither.l2 k R C P l a2 su out (wrap64 (lost + left)) i n c way e 0) (G (l.foldl (tStep R C P i c way e) (su, left)).1 (l.foldl (tStep R C P i c way e) (su, left)).2) := by
  refine ev_fold l (fun m (s : List (List Int) × Int) k => impl_DiffuseDither.l2 k R C P l a2 s.1 out (wrap64 (lost + s.2)) i n c way e (m : Int)) (fun d s => G (d.foldl (tStep R C P i c way e) s).1 (d.foldl (tStep R C P i c way e) s).2) (fun m s => Grid R C s.1 ∧ Wide s.1) ?_ ?_ 0 (su, left) (by omega) ⟨hs, hw⟩
  · rintro ⟨su, left⟩ ⟨h1, h2⟩
    refine Ev.step (fun k => by rw [impl_DiffuseDither.l2]) ?_
    simp only [if_neg (show ¬ (l.length : Int) < (l.length : Int) by omega), List.foldl_nil]
    exact cont _ _ h1 h2
  · rintro m hm ⟨su, left⟩ ⟨h1, h2⟩ ih
    have ok := hok _ (List.getElem_mem hm)
    refine Ev.step (fun k => by rw [impl_DiffuseDither.l2]) ?_
    simp only [if_pos (show (m : Int) < (l.length : Int) by omega), if_pos (show 0 ≤ (m : Int) by omega), rdk_nat hm, w_succ (m := m) (by omega), List.foldl_cons]
    simp only at h1 h2
    generalize l[m] = t at ok ⊢
    have ih' := ih (tStep R C P i c way e (su, left) t)
    revert ih'
    generalize List.drop (m + 1) l = d
    obtain ⟨o1, o2, _, o4⟩ := ok
    have hq : ∃ q, way * t.f1 = q ∧ -2 ≤ q ∧ q ≤ 2 := by
      rcases hway with rfl | rfl
      · exact ⟨_, rfl, by omega, by omega⟩
      · exact ⟨_, rfl, by omega, by omega⟩
    obtain ⟨q, hq, q1, q2⟩ := hq
    rw [hq, w64 (x := (i : Int) + t.f0) (by omega) (by omega), w64 (x := q) (by omega) (by omega), w64 (x := (c : Int) + q) (by omega) (by omega), w64 (x := (C : Int) - 1) (by omega) (by omega), w64 (x := (R : Int) - 1) (by omega) (by omega), implFl (ww _) hP.1]
    simp only [within_tells, Option.bind_some]
    by_cases b1 : 0 ≤ (i : Int) + t.f0 ∧ (i : Int) + t.f0 ≤ (R : Int) - 1
    · simp only [decide_eq_true b1, if_true]
      by_cases b2 : 0 ≤ (c : Int) + q ∧ (c : Int) + q ≤ (C : Int) - 1
      · simp only [decide_eq_true b2, if_true]
        have hin : tapIn R C i c way t := by unfold tapIn; rw [hq]; exact ⟨b1, b2⟩
        obtain ⟨x, hx⟩ : ∃ x : Nat, (i : Int) + t.f0 = (x : Int) := ⟨((i : Int) + t.f0).toNat, by omega⟩
        obtain ⟨y, hy⟩ : ∃ y : Nat, (c : Int) + q = (y : Int) := ⟨((c : Int) + q).toNat, by omega⟩
        have hT : tStep R C P i c way e (su, left) t = (putG su x y (wrap64 (getG su x y + fl (wrap64 (e * t.f2)) P)), wrap64 (left - fl (wrap64 (e * t.f2)) P)) := by
          unfold tStep
          rw [if_pos hin]
          simp only [hq, hx, hy, Int.toNat_natCast]
        rw [hT]
        intro ih'
        simp only [hx, hy, put2_eq h1 (show x < R by omega) (show y < C by omega), Option.bind_some]
        have := ih' ⟨put_grid h1 (show x < R by omega) _ _, put_wide h2 (by rw [h1.1]; omega) (ww _)⟩
        rwa [show wrap64 (lost + wrap64 (left - fl (wrap64 (e * t.f2)) P)) = wrap64 (wrap64 (lost + left) - fl (wrap64 (e * t.f2)) P) by unfold wrap64; omega] at this
      · simp only [decide_eq_false b2, Bool.false_eq_true, if_false]
        have hin : ¬ tapIn R C i c way t := by unfold tapIn; rw [hq]; exact fun h => b2 h.2
        have hT : tStep R C P i c way e (su, left) t = (su, left) := by unfold tStep; rw [if_neg hin]
        rw [hT]
        intro ih'
        exact ih' ⟨h1, h2⟩
    · simp only [decide_eq_false b1, Bool.false_eq_true, if_false]
      have hin : ¬ tapIn R C i c way t := by unfold tapIn; exact fun h => b1 h.1
      have hT : tStep R C P i c way e (su, left) t = (su, left) := by unfold tStep; rw [if_neg hin]
      rw [hT]
      intro ih'
      exact ih' ⟨h1, h2⟩
theorem specCells_ev {i : Nat} (hi : i < R) (G : DSt → List (List Int) × Int × Bool) (cont : ∀ s, DInv R C s → Ev (fun k => spec_DiffuseDither.l0 k R C P l a2 s.1 s.2.1 s.2.2 (wrap64 ((i : Int) + 1))) (G s)) (s : DSt) (hs : DInv R C s) :
    Ev (fun k => spec_DiffuseDither.l1 k R C P l a2 s.1 s.2.1 s.2.2 i (dway a2 (i : Int)) 0) (G (rStep R C P l a2 s i)) := by
  refine ev_fold (List.range C) (fun m (s : DSt) k => spec_DiffuseDither.l1 k R C P l a2 s.1 s.2.1 s.2.2 i (dway a2 (i : Int)) (m : Int)) (fun d s => G (d.foldl (cStep R C P l a2 i) s)) (fun m s => DInv R C s) ?_ ?_ 0 s (by omega) hs
  · intro s hs
    refine Ev.step (fun k => by rw [spec_DiffuseDither.l1]) ?_
    simp only [List.length_range, if_neg (show ¬ (C : Int) < (C : Int) by omega), List.foldl_nil]
    exact cont s hs
  · rintro m hm ⟨su, out, lost⟩ hs ih
    have hm' : m < C := by simpa using hm
    refine Ev.step (fun k => by rw [spec_DiffuseDither.l1]) ?_
    rw [List.getElem_range, List.foldl_cons]
    have hcl := colN_lt (way := dway a2 (i : Int)) hm'
    have hl1 : (rda su (i : Int)).length = C := hs.1.rd hi
    have hl0 : su.length = R := hs.1.1
    simp only [if_pos (show (m : Int) < (C : Int) by omega), if_pos (show 0 ≤ (i : Int) by omega), hl0, if_pos (show (i : Int) < (R : Int) by omega), dcol_is hC.2 hm', hl1, if_pos (show (0 : Int) ≤ ((colN (dway a2 (i : Int)) C m : Nat) : Int) by omega), if_pos (show ((colN (dway a2 (i : Int)) C m : Nat) : Int) < (C : Int) by omega), specDot, Option.bind_some, put2_eq hs.2.2 hi hcl]
    exact specTaps_ev hR hC a2 hP hl hok hi hcl (dway_is _ _) (eLeft (getG su i (colN (dway a2 (i : Int)) C m))) (fun su' left => G ((List.drop (m + 1) (List.range C)).foldl (cStep R C P l a2 i) (su', putG out i (colN (dway a2 (i : Int)) C m) (eOne (getG su i (colN (dway a2 (i : Int)) C m))), wrap64 (lost + left)))) (fun su' left h1 h2 => by
      have := ih (su', putG out i (colN (dway a2 (i : Int)) C m) (eOne (getG su i (colN (dway a2 (i : Int)) C m))), wrap64 (lost + left)) ⟨h1, h2, put_grid hs.2.2 hi _ _⟩
      rw [w_succ (m := m) (by omega)]
      exact this) su hs.1 hs.2.1 _
theorem implCells_ev {i : Nat} (hi : i < R) (G : DSt → List (List Int) × Int × Bool) (cont : ∀ s, DInv R C s → Ev (fun k => impl_DiffuseDither.l0 k R C P l a2 s.1 s.2.1 s.2.2 (wrap64 ((i : Int) + 1))) (G s)) (s : DSt) (hs : DInv R C s) :
    Ev (fun k => impl_DiffuseDither.l1 k R C P l a2 s.1 s.2.1 s.2.2 i 0) (G (rStep R C P l a2 s i)) := by
  refine ev_fold (List.range C) (fun m (s : DSt) k => impl_DiffuseDither.l1 k R C P l a2 s.1 s.2.1 s.2.2 i (m : Int)) (fun d s => G (d.foldl (cStep R C P l a2 i) s)) (fun m s => DInv R C s) ?_ ?_ 0 s (by omega) hs
  · intro s hs
    refine Ev.step (fun k => by rw [impl_DiffuseDither.l1]) ?_
    simp only [List.length_range, if_neg (show ¬ (C : Int) < (C : Int) by omega), List.foldl_nil]
    exact cont s hs
  · rintro m hm ⟨su, out, lost⟩ hs ih
    have hm' : m < C := by simpa using hm
    refine Ev.step (fun k => by rw [impl_DiffuseDither.l1]) ?_
    rw [List.getElem_range, List.foldl_cons]
    have hcl := colN_lt (way := dway a2 (i : Int)) hm'
    have hl1 : (rda su (i : Int)).length = C := hs.1.rd hi
    have hl0 : su.length = R := hs.1.1
    have hz : wrap64 (rd (rda su (i : Int)) ((colN (dway a2 (i : Int)) C m : Nat) : Int)) = rd (rda su (i : Int)) ((colN (dway a2 (i : Int)) C m : Nat) : Int) := get_wide hs.1 hs.2.1 hi hcl
    simp only [if_pos (show (m : Int) < (C : Int) by omega), if_pos (show 0 ≤ (i : Int) by omega), hl0, if_pos (show (i : Int) < (R : Int) by omega), idcol_is hC.2 hm', hl1, if_pos (show (0 : Int) ≤ ((colN (dway a2 (i : Int)) C m : Nat) : Int) by omega), if_pos (show ((colN (dway a2 (i : Int)) C m : Nat) : Int) < (C : Int) by omega), implDot hz, Option.bind_some, put2_eq hs.2.2 hi hcl]
    exact implTaps_ev hR hC a2 hP hl hok hi hcl (dway_is _ _) (eLeft (getG su i (colN (dway a2 (i : Int)) C m))) (fun su' left => G ((List.drop (m + 1) (List.range C)).foldl (cStep R C P l a2 i) (su', putG out i (colN (dway a2 (i : Int)) C m) (eOne (getG su i (colN (dway a2 (i : Int)) C m))), wrap64 (lost + left)))) (fun su' left h1 h2 => by
      have := ih (su', putG out i (colN (dway a2 (i : Int)) C m) (eOne (getG su i (colN (dway a2 (i : Int)) C m))), wrap64 (lost + left)) ⟨h1, h2, put_grid hs.2.2 hi _ _⟩
      rw [w_succ (m := m) (by omega)]
      exact this) su hs.1 hs.2.1 _
theorem specRows_ev (s : DSt) (hs : DInv R C s) : Ev (fun k => spec_DiffuseDither.l0 k R C P l a2 s.1 s.2.1 s.2.2 0) ((diffused R C P l a2 s).2.1, (diffused R C P l a2 s).2.2, true) := by
  refine ev_fold (List.range R) (fun m (s : DSt) k => spec_DiffuseDither.l0 k R C P l a2 s.1 s.2.1 s.2.2 (m : Int)) (fun d s => ((d.foldl (rStep R C P l a2) s).2.1, (d.foldl (rStep R C P l a2) s).2.2, true)) (fun m s => DInv R C s) ?_ ?_ 0 s (by omega) hs
  · intro s hs
    refine Ev.step (fun k => by rw [spec_DiffuseDither.l0]) ?_
    simp only [List.length_range, if_neg (show ¬ (R : Int) < (R : Int) by omega), List.foldl_nil]
    exact Ev.now _
  · intro m hm s hs ih
    have hm' : m < R := by simpa using hm
    refine Ev.step (fun k => by rw [spec_DiffuseDither.l0]) ?_
    rw [List.getElem_range, List.foldl_cons]
    simp only [if_pos (show (m : Int) < (R : Int) by omega)]
    exact specCells_ev hR hC a2 hP hl hok hm' (fun s => (((List.drop (m + 1) (List.range R)).foldl (rStep R C P l a2) s).2.1, ((List.drop (m + 1) (List.range R)).foldl (rStep R C P l a2) s).2.2, true)) (fun s hs => by rw [w_succ (m := m) (by omega)]; exact ih s hs) s hs
theorem implRows_ev (s : DSt) (hs : DInv R C s) : Ev (fun k => impl_DiffuseDither.l0 k R C P l a2 s.1 s.2.1 s.2.2 0) ((diffused R C P l a2 s).2.1, (diffused R C P l a2 s).2.2, true) := by
  refine ev_fold (List.range R) (fun m (s : DSt) k => impl_DiffuseDither.l0 k R C P l a2 s.1 s.2.1 s.2.2 (m : Int)) (fun d s => ((d.foldl (rStep R C P l a2) s).2.1, (d.foldl (rStep R C P l a2) s).2.2, true)) (fun m s => DInv R C s) ?_ ?_ 0 s (by omega) hs
  · intro s hs
    refine Ev.step (fun k => by rw [impl_DiffuseDither.l0]) ?_
    simp only [List.length_range, if_neg (show ¬ (R : Int) < (R : Int) by omega), List.foldl_nil]
    exact Ev.now _
  · intro m hm s hs ih
    have hm' : m < R := by simpa using hm
    refine Ev.step (fun k => by rw [impl_DiffuseDither.l0]) ?_
    rw [List.getElem_range, List.foldl_cons]
    simp only [if_pos (show (m : Int) < (R : Int) by omega)]
    exact implCells_ev hR hC a2 hP hl hok hm' (fun s => (((List.drop (m + 1) (List.range R)).foldl (rStep R C P l a2) s).2.1, ((List.drop (m + 1) (List.range R)).foldl (rStep R C P l a2) s).2.2, true)) (fun s hs => by rw [w_succ (m := m) (by omega)]; exact ih s hs) s hs
theorem tStep_inv {i c : Nat} {way e : Int} (hi : i < R) (hc : c < C) (d : List S79) (hd : ∀ x ∈ d, tapOk 64 x) (s : List (List Int) × Int) (h1 : Grid R C s.1) (h2 : Wide s.1) : Grid R C (d.foldl (tStep R C P i c way e) s).1 ∧ Wide (d.foldl (tStep R C P i c way e) s).1 := by
  induction d generalizing s with
  | nil => exact ⟨h1, h2⟩
  | cons t r ih =>
    rw [List.foldl_cons]
    have hn : Grid R C (tStep R C P i c way e s t).1 ∧ Wide (tStep R C P i c way e s t).1 := by
      unfold tStep
      by_cases q : tapIn R C i c way t
      · rw [if_pos q]
        have q1 := q.1
        exact ⟨put_grid h1 (by omega) _ _, put_wide h2 (by rw [h1.1]; omega) (ww _)⟩
      · rw [if_neg q]
        exact ⟨h1, h2⟩
    exact ih (fun x hx => hd x (List.mem_cons_of_mem _ hx)) _ hn.1 hn.2
theorem cStep_inv {i n : Nat} (hi : i < R) (hn : n < C) (s : DSt) (hs : DInv R C s) : DInv R C (cStep R C P l a2 i s n) := by
  have := tStep_inv (P := P) hR hC hP hl hok (way := dway a2 (i : Int)) (e := eLeft (getG s.1 i (colN (dway a2 (i : Int)) C n))) hi (colN_lt (way := dway a2 (i : Int)) hn) l hok (s.1, eLeft (getG s.1 i (colN (dway a2 (i : Int)) C n))) hs.1 hs.2.1
  exact ⟨this.1, this.2, put_grid hs.2.2 hi _ _⟩
theorem rStep_inv {i : Nat} (hi : i < R) (s : DSt) (hs : DInv R C s) : DInv R C (rStep R C P l a2 s i) := by
  have key : ∀ (ns : List Nat) (s : DSt), (∀ n ∈ ns, n < C) → DInv R C s → DInv R C (ns.foldl (cStep R C P l a2 i) s) := by
    intro ns
    induction ns with
    | nil => intro s _ h; exact h
    | cons n r ih => intro s h1 h2; exact ih _ (fun x hx => h1 x (List.mem_cons_of_mem _ hx)) (cStep_inv hR hC a2 hP hl hok hi (h1 n List.mem_cons_self) s h2)
  exact key _ s (fun n hn => List.mem_range.1 hn) hs
theorem diffused_inv (s : DSt) (hs : DInv R C s) : DInv R C (diffused R C P l a2 s) := by
  have key : ∀ (ns : List Nat) (s : DSt), (∀ n ∈ ns, n < R) → DInv R C s → DInv R C (ns.foldl (rStep R C P l a2) s) := by
    intro ns
    induction ns with
    | nil => intro s _ h; exact h
    | cons n r ih => intro s h1 h2; exact ih _ (fun x hx => h1 x (List.mem_cons_of_mem _ hx)) (rStep_inv hR hC a2 hP hl hok (h1 n List.mem_cons_self) s h2)
  exact key _ s (fun n hn => List.mem_range.1 hn) hs
end
theorem l05Copy_ev (l : List (List Int)) (hl : l.length ≤ 1048576) (hr : ∀ x ∈ l, x.length ≤ 1048576) : Ev (fun k => spec_l05Copy.f k l) l := by
  unfold spec_l05Copy.f
  refine ev_count l.length (fun m (s : List (List Int)) k => spec_l05Copy.l0 k l s (m : Int)) l (fun m s => s = l.take m) ?_ ?_ 0 [] (by omega) (by simp)
  · rintro _ rfl
    refine Ev.step (fun k => by rw [spec_l05Copy.l0]) ?_
    simp only [if_neg (show ¬ (l.length : Int) < (l.length : Int) by omega), List.take_length]
    exact Ev.now _
  · rintro m _ hm rfl
    refine ⟨_, rfl, fun ih => ?_⟩
    refine Ev.step (fun k => by rw [spec_l05Copy.l0]) ?_
    have hlen := hr _ (List.getElem_mem hm)
    have ht : (l.take m).length = m := by rw [List.length_take]; omega
    have ho : spec_l00Own.f l[m] = some l[m] := by
      unfold spec_l00Own.f
      rw [Option.bind_some, if_pos (by simp; omega), List.nil_append]
    simp only [if_pos (show (m : Int) < (l.length : Int) by omega), if_pos (show 0 ≤ (m : Int) by omega), rdr_nat hm, ho, Option.bind_some, ht, if_pos (show m < 5864062014805 by omega), w_succ (m := m) (by omega)]
    rw [← List.take_succ_eq_append_getElem hm]
    exact ih
theorem ownRows_ev (l : List (List Int)) (hl : l.length ≤ 1048576) (hr : ∀ x ∈ l, x.length ≤ 1048576) : Ev (fun k => impl_ownRows.f k l) l := by
  unfold impl_ownRows.f
  refine ev_count l.length (fun m (s : List (List Int)) k => impl_ownRows.l0 k s l (l.length : Int) (m : Int)) l (fun m s => s = l.take m) ?_ ?_ 0 [] (by omega) (by simp)
  · rintro _ rfl
    refine Ev.step (fun k => by rw [impl_ownRows.l0]) ?_
    simp only [if_neg (show ¬ (l.length : Int) < (l.length : Int) by omega), List.take_length]
    exact Ev.now _
  · rintro m _ hm rfl
    refine ⟨_, rfl, fun ih => ?_⟩
    refine Ev.step (fun k => by rw [impl_ownRows.l0]) ?_
    have hlen := hr _ (List.getElem_mem hm)
    have ht : (l.take m).length = m := by rw [List.length_take]; omega
    have ho : slices_Clone_int64_int64.f l[m] = some l[m] := by
      unfold slices_Clone_int64_int64.f
      rw [if_pos (by omega)]
    simp only [if_pos (show (m : Int) < (l.length : Int) by omega), if_pos (show 0 ≤ (m : Int) by omega), rdr_nat hm, ho, Option.bind_some, ht, if_pos (show m < 5864062014805 by omega), w_succ (m := m) (by omega)]
    rw [← List.take_succ_eq_append_getElem hm]
    exact ih
theorem dvp (p : List (List Int)) : impl_ValidPicture.f p = some (rowsForm 255 p) := by
  unfold impl_ValidPicture.f
  rw [areRows_tells]
  rfl
def diffOf (p : List (List Int)) (P : Int) (l : List S79) (a2 : Bool) : DSt := diffused p.length (rd_L1 p 0).length P l a2 (p, grid0 p.length (rd_L1 p 0).length, 0)
section
variable {p : List (List Int)} (P : Int) (l : List S79) (a2 : Bool) (hp : p.length ≤ 1048576) (hp' : ∀ x ∈ p, x.length ≤ 1048576)
include hp hp'
theorem diffBad (h : ¬ (rowsForm 255 p = true ∧ kern P l = true)) : Ev (fun k => spec_DiffuseDither.f k p P l a2) ([], 0, false) ∧ Ev (fun k => impl_DiffuseDither.f k p P l a2) ([], 0, false) := by
  have S0 : Ev (fun k => spec_l09Is.f k p) (rowsForm 255 p) := by unfold spec_l09Is.f; exact Ev.bind (form_ev p 255 hp hp') (Ev.now _)
  constructor
  · unfold spec_DiffuseDither.f
    refine Ev.bind S0 ?_
    by_cases v : rowsForm 255 p = true
    · simp only [v, if_true]
      have k0 : kern P l = false := by simpa [v] using h
      refine Ev.bind (l09Kernel_ev P l) ?_
      simp only [k0, Bool.false_eq_true, if_false]
      exact Ev.now _
    · simp only [if_neg v]
      exact Ev.now _
  · unfold impl_DiffuseDither.f
    refine ev_bind' (dvp p) ?_
    by_cases v : rowsForm 255 p = true
    · simp only [v, if_true]
      have k0 : kern P l = false := by simpa [v] using h
      refine Ev.bind (implKernel_ev P l) ?_
      simp only [k0, Bool.false_eq_true, if_false]
      exact Ev.now _
    · simp only [if_neg v]
      exact Ev.now _
theorem diffGood (v : rowsForm 255 p = true) (hk : kern P l = true) : Ev (fun k => spec_DiffuseDither.f k p P l a2) ((diffOf p P l a2).2.1, (diffOf p P l a2).2.2, true) ∧ Ev (fun k => impl_DiffuseDither.f k p P l a2) ((diffOf p P l a2).2.1, (diffOf p P l a2).2.2, true) ∧ Grid p.length (rd_L1 p 0).length (diffOf p P l a2).2.1 ∧ p.length ≤ 12 ∧ (rd_L1 p 0).length ≤ 12 := by
  have S0 : Ev (fun k => spec_l09Is.f k p) (rowsForm 255 p) := by unfold spec_l09Is.f; exact Ev.bind (form_ev p 255 hp hp') (Ev.now _)
  obtain ⟨R, C, R1, R2, C1, C2, gp, cp, hv⟩ := rowsForm_is v
  obtain ⟨kP, kl, kok⟩ := kern_ok hk
  unfold diffOf
  have wp : Wide p := fun x hx z hz => by have := hv x hx z hz; exact w64 (by omega) (by omega)
  rw [gp.1, cp]
  have i0 : DInv R C (p, grid0 R C, 0) := ⟨gp, wp, grid0_is R C⟩
  have inv := diffused_inv ⟨R1, R2⟩ ⟨C1, C2⟩ a2 kP kl kok _ i0
  have cp' : (rda p 0).length = C := cp
  refine ⟨?_, ?_, inv.2.2, R2, C2⟩
  · unfold spec_DiffuseDither.f
    refine Ev.bind S0 ?_
    simp only [v, if_true]
    refine Ev.bind (l09Kernel_ev P l) ?_
    simp only [hk, if_true, gp.1, cp', if_pos (show (0 : Int) < (R : Int) by omega)]
    exact Ev.bind (l05Copy_ev p hp hp') (Ev.bind (square_ev R C (by omega) (by omega)) (specRows_ev ⟨R1, R2⟩ ⟨C1, C2⟩ a2 kP kl kok _ i0))
  · unfold impl_DiffuseDither.f
    refine ev_bind' (dvp p) ?_
    simp only [v, if_true]
    refine Ev.bind (implKernel_ev P l) ?_
    simp only [hk, if_true, gp.1, cp', if_pos (show (0 : Int) < (R : Int) by omega)]
    exact Ev.bind (ownRows_ev p hp hp') (Ev.bind (noughts_ev R C (by omega) (by omega)) (implRows_ev ⟨R1, R2⟩ ⟨C1, C2⟩ a2 kP kl kok _ i0))
theorem diff_both : ∃ r : List (List Int) × Int × Bool, Ev (fun k => spec_DiffuseDither.f k p P l a2) r ∧ Ev (fun k => impl_DiffuseDither.f k p P l a2) r ∧ r.1.length ≤ 12 ∧ ∀ x ∈ r.1, x.length ≤ 12 := by
  by_cases h : rowsForm 255 p = true ∧ kern P l = true
  · obtain ⟨e1, e2, g, R2, C2⟩ := diffGood P l a2 hp hp' h.1 h.2
    exact ⟨_, e1, e2, by rw [g.1]; exact R2, fun x hx => by rw [g.2 x hx]; exact C2⟩
  · obtain ⟨e1, e2⟩ := diffBad P l a2 hp hp' h
    exact ⟨_, e1, e2, by simp, by simp⟩
end
end Go.Proofs.Ytpdkknfooblplaa.Com
namespace Go.Proofs.Ytpdkknfooblplaa.Pure
set_option linter.unusedSimpArgs false
set_option linter.unusedVariables false
set_option linter.unusedSectionVars false
open Go.RowKit Go.Proofs.Ytpdkknfooblplaa.Q Go.Proofs.YtpdkknfooblplaaW.PrintWords Go.Proofs.YtpdkknfooblplaaW.PrintLast Go.Proofs.Ytpdkknfooblplaa.Com
theorem szKern_tells (a : Int) (l : List S96) (b : Int) (hb : 0 ≤ b ∧ b ≤ 1048576) (hx : l.length ≤ maxLen) : (laws_szKernel.f a l b = some (-1)) ∨ (∃ t, laws_szKernel.f a l b = some t ∧ 0 ≤ t ∧ l.length ≤ 1048576) := by
  unfold laws_szKernel.f laws_szTapS.f
  unfold maxLen at hx
  rw [w64 (x := b - (l.length : Int)) (by omega) (by omega)]
  by_cases c : b - (l.length : Int) < 0
  · left
    simp [c]
  · right
    refine ⟨b - (l.length : Int), ?_, by omega, by omega⟩
    simp [c]
theorem markTapS_ev (l : List S79) (a : Int) (hx : l.length ≤ 1048576) (ha : 0 ≤ a ∧ a ≤ 100000000) : ∃ l', Ev (fun k => laws_markTapS.f k l a) (a + 3 * (l.length : Int), l') := by
  unfold laws_markTapS.f
  have key : ∀ (d m : Nat) (xs : List S79) (b : Int), m + d = l.length → xs.length = l.length → 0 ≤ b → b ≤ 100000000 + 3 * (m : Int) → ∃ l', Ev (fun k => laws_markTapS.l0 k xs b (m : Int)) (b + 3 * (d : Int), l') := by
    intro d
    induction d with
    | zero =>
      intro m xs b e h1 h2 h3
      refine ⟨xs, Ev.step (fun k => by rw [laws_markTapS.l0]) ?_⟩
      simp only [if_neg (show ¬ (m : Int) < (xs.length : Int) by omega)]
      rw [show b + 3 * ((0 : Nat) : Int) = b by omega]
      exact Ev.now _
    | succ d ih =>
      intro m xs b e h1 h2 h3
      obtain ⟨l', h'⟩ := ih (m + 1) (((xs.set m ⟨b, (rd_T79 xs (m : Int)).f1, (rd_T79 xs (m : Int)).f2⟩).set m ⟨(rd_T79 (xs.set m ⟨b, (rd_T79 xs (m : Int)).f1, (rd_T79 xs (m : Int)).f2⟩) (m : Int)).f0, b + 1, (rd_T79 (xs.set m ⟨b, (rd_T79 xs (m : Int)).f1, (rd_T79 xs (m : Int)).f2⟩) (m : Int)).f2⟩).set m ⟨(rd_T79 ((xs.set m ⟨b, (rd_T79 xs (m : Int)).f1, (rd_T79 xs (m : Int)).f2⟩).set m ⟨(rd_T79 (xs.set m ⟨b, (rd_T79 xs (m : Int)).f1, (rd_T79 xs (m : Int)).f2⟩) (m : Int)).f0, b + 1, (rd_T79 (xs.set m ⟨b, (rd_T79 xs (m : Int)).f1, (rd_T79 xs (m : Int)).f2⟩) (m : Int)).f2⟩) (m : Int)).f0, (rd_T79 ((xs.set m ⟨b, (rd_T79 xs (m : Int)).f1, (rd_T79 xs (m : Int)).f2⟩).set m ⟨(rd_T79 (xs.set m ⟨b, (rd_T79 xs (m : Int)).f1, (rd_T79 xs (m : Int)).f2⟩) (m : Int)).f0, b + 1, (rd_T79 (xs.set m ⟨b, (rd_T79 xs (m : Int)).f1, (rd_T79 xs (m : Int)).f2⟩) (m : Int)).f2⟩) (m : Int)).f1, b + 2⟩) (b + 3) (by omega) (by simp only [List.length_set]; exact h1) (by omega) (by omega)
      refine ⟨l', Ev.step (fun k => by rw [laws_markTapS.l0]) ?_⟩
      simp only [if_pos (show (m : Int) < (xs.length : Int) by omega), if_pos (show 0 ≤ (m : Int) by omega), Option.bind_some, Int.toNat_natCast, w_succ (m := m) (by omega)]
      rw [w64 (x := b + 1) (by omega) (by omega), w64 (x := b + 1 + 1) (by omega) (by omega), w64 (x := b + 1 + 1 + 1) (by omega) (by omega), show b + 1 + 1 = b + 2 by omega, show b + 2 + 1 = b + 3 by omega, show b + 3 * ((d + 1 : Nat) : Int) = b + 3 + 3 * (d : Int) by omega]
      exact h'
  obtain ⟨l', h⟩ := key l.length 0 l a (by omega) rfl ha.1 (by omega)
  exact ⟨l', h⟩
theorem markKernel_ev (P : Int) (l : List S79) (a : Int) (hx : l.length ≤ 1048576) (ha : 0 ≤ a ∧ a ≤ 100000000) : ∃ l', Ev (fun k => laws_markKernel.f k P l a) (a + 3 * (l.length : Int), l') := by
  obtain ⟨l', h⟩ := markTapS_ev l a hx ha
  refine ⟨l', ?_⟩
  unfold laws_markKernel.f
  exact Ev.bind h (Ev.now _)
theorem FnExactDiffuseDither : laws_FnExactDiffuseDither.Pure := by
  intro p a l t hp _ hl
  apply ev_of
  unfold laws_FnExactDiffuseDither.f
  obtain ⟨t1, e1, h1⟩ := szPic_ev p 1048576 (by omega) hp.1 (fun x hx => (hp.2 x hx).1)
  refine Ev.bind e1 ?_
  rcases h1 with rfl | ⟨a0, a1, p1, p2, p3⟩
  · simp only [if_pos (show (-1 : Int) < 0 by omega)]
    exact Ev.now _
  simp only [if_neg (show ¬ t1 < 0 by omega)]
  rcases szKern_tells a l t1 ⟨a0, a1⟩ hl.1 with e | ⟨t2, e, t20, hx⟩
  · refine ev_bind' e ?_
    simp only [if_pos (show (-1 : Int) < 0 by omega)]
    exact Ev.now _
  refine ev_bind' e ?_
  simp only [if_neg (show ¬ t2 < 0 by omega)]
  have T := toPicture_ev p p1 p2
  have K := toKernel_ev a l hx
  have hx' : (l.map tapTo).length ≤ 1048576 := by rw [List.length_map]; exact hx
  obtain ⟨⟨g, le, b⟩, E1, E2, g1, g2⟩ := diff_both a (l.map tapTo) t p1 p2
  simp only at g1 g2
  have c1 : g.length ≤ 1048576 := by omega
  have c2 : ∀ x ∈ g, x.length ≤ 1048576 := fun x hx => by have := g2 x hx; omega
  have c3 := tot_le g 12 g2
  have c4 := tot_nn g
  have c5 : g.length * 12 ≤ 12 * 12 := Nat.mul_le_mul_right _ g1
  have n1 := tot_nn p
  obtain ⟨l', M⟩ := markKernel_ev a (l.map tapTo) (1 + tot p) hx' ⟨by omega, by omega⟩
  refine Ev.bind T (Ev.bind K (Ev.bind E1 (Ev.bind T (Ev.bind K (Ev.bind E2 (Ev.bind (eqInt64SS_ev g c1 c2) ?_))))))
  simp only [if_true]
  refine Ev.bind T (Ev.bind (eqPicture_ev p p1 p2) ?_)
  simp only [if_true]
  refine Ev.bind K (Ev.bind (eqKernel_ev a (l.map tapTo) hx') ?_)
  simp only [if_true]
  refine Ev.bind (markPic_ev p 1 p1 p2 (by omega) (by omega)) (Ev.bind M ?_)
  simp only [if_neg (show ¬ 1 + tot p + 3 * ((l.map tapTo).length : Int) < 0 by omega)]
  refine Ev.bind (eqInt64SS_ev g c1 c2) ?_
  simp only [if_true]
  refine Ev.bind (markSS_ev g 1 c1 c2 (by omega) (by omega)) (Ev.bind (heldSS_ev g 1 c1 c2 (by omega) (by omega)) ?_)
  simp only [if_neg (show ¬ 1 + tot g < 0 by omega), if_true]
  refine Ev.bind T (Ev.bind K (Ev.bind E2 (Ev.bind (eqInt64SS_ev g c1 c2) ?_)))
  simp only [if_true]
  refine Ev.bind (heldSS_ev g 1 c1 c2 (by omega) (by omega)) ?_
  simp only [if_neg (show ¬ 1 + tot g < 0 by omega), if_true]
  exact Ev.now _
end Go.Proofs.Ytpdkknfooblplaa.Pure
