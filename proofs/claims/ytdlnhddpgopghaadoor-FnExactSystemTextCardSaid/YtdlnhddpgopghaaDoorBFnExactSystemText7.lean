/- The statement FnExactSystemText, with all that its proof stands on: functions of the program as plain functions, the program's walks, and the plain law. Conditions: none beyond the statement's own. -/
import Derived.ArgAppend
import Derived.Below
import Derived.BigQuiet
import Derived.BigRegion
import Derived.Deep.AppendLies
import Derived.Deep.CutBlock
import Derived.Deep.DeepCutAuto
import Derived.Deep.Draws
import Derived.Deep.LoopGhost
import Derived.Deep.OwnRows
import Derived.Deep.QuietTactic
import Derived.Deep.RegionHeld3
import Derived.KernelRfl
import Derived.Laws.BitsLemmas
import Derived.Laws.BytesArg
import Derived.Laws.IdiomCopy
import Derived.Laws.MakeOwn
import Derived.Laws.OwnMore
import Derived.Laws.Rows
import Derived.Laws.Slices
import Derived.Lib.AppendStr
import Derived.Lib.ConvBytes
import Derived.Lib.SlBytesConst
import Derived.Maps.AppendAt
import Derived.OrdersHeld
import Derived.OwnWalk
import Derived.ProofKit
import Derived.RowKit
import Derived.RowKit3
import Derived.Shelf.LaysM
import Derived.Shelf.Strconv.Itoa0
import Derived.Shelf.Strconv.Itoa1
import Derived.Shelf.Strconv.Itoa2
import Derived.Shelf.Strconv.Itoa3
import Derived.Shelf.Strconv.Itoa4
import Derived.Shelf.Strings.Builder1
import Derived.Shelf.Strings.Builder2
import Derived.Shelf.Strings.Count
import Derived.Shelf.Strings.Cut
import Derived.Shelf.Strings.Explode
import Derived.Shelf.Strings.OnBuilder
import Derived.Shelf.Strings.RuneCount
import Derived.Shelf.Strings.Search1
import Derived.Shelf.Strings.Search2
import Derived.Shelf.Strings.Search3
import Derived.Shelf.Strings.Shaped
import Derived.Shelf.Strings.Split
import Derived.Shelf.Strings.SplitShaped
import Derived.Shelf.Unicode.Decode
import Derived.Shelf.Unicode.DecodeAny
import Derived.Shelf.Unicode.DecodeSlow
import Derived.Shelf.Utf8.RuneCount
import Derived.Sort.OwnSortedInts
import Derived.Tactics
import Derived.Test.YtdlnhddpgopghaaDoorProg
import Derived.WalkKit
import Derived.WideLaws
import Derived.Test.YtdlnhddpgopghaaDoorBFnExactSystemText0
import Derived.Test.YtdlnhddpgopghaaDoorBFnExactSystemText1
import Derived.Test.YtdlnhddpgopghaaDoorBFnExactSystemText2
import Derived.Test.YtdlnhddpgopghaaDoorBFnExactSystemText3
import Derived.Test.YtdlnhddpgopghaaDoorBFnExactSystemText4
import Derived.Test.YtdlnhddpgopghaaDoorBFnExactSystemText6
set_option linter.unusedVariables false
set_option linter.unusedSimpArgs false
namespace Go.Proofs.YtdlnhddpgopghaaDoor.Q
open Go.RowKit Go.Proofs.YtdlnhddpgopghaaDoorW.PrintWords Go.Proofs.YtdlnhddpgopghaaDoorW.PrintLast Go.Proofs.YtdlnhddpgopghaaDoorW.PrintMore
attribute [local go_sem] max2_int min2_int max_two min_two max_three min_three max_four min_four   -- for this text's walks alone
set_option linter.unusedVariables false
set_option linter.unusedSimpArgs false
def laws_FnExactSystemText.j0 : Nat → Bool → Int → List Int → Int → List Int → Option (Bool)
 | 0, _, _, _, _, _ => none
 | k + 1, x34, x165000, x165001, x177000, x177001 => if x34 = true then (some false) else ((laws_toSystem.f k x165000 x165001).bind fun bt179 => ((laws_eqSystem.f k x177000 x177001 bt179.1 bt179.2).bind fun t183 => (if t183 = true then (some true) else (some false))))
def laws_FnExactSystemText.f (k : Nat) (a0_0 : Int) (l0_1 : List Int) : Option (Bool) := (laws_szSystem.f a0_0 l0_1 1048576).bind fun t165 => (if t165 < 0 then (some true) else ((laws_toSystem.f k a0_0 l0_1).bind fun bt166 => ((spec_SystemText.f k bt166.1 bt166.2).bind fun bt170 => ((laws_toSystem.f k a0_0 l0_1).bind fun bt172 => ((impl_SystemText.f k bt172.1 bt172.2).bind fun bt177 => (if bt177.1.toList = bt170.1.toList then (laws_FnExactSystemText.j0 k (bt177.2 != bt170.2) a0_0 l0_1 bt172.1 bt172.2) else (laws_FnExactSystemText.j0 k true a0_0 l0_1 bt172.1 bt172.2)))))))
theorem laws_FnExactSystemText.mono_l : ∀ k, (∀ y0 y1 y2 y3 y4, LeO (laws_FnExactSystemText.j0 k y0 y1 y2 y3 y4) (laws_FnExactSystemText.j0 (k + 1) y0 y1 y2 y3 y4))
 | 0 => fun _ _ _ _ _ r h => by simp [laws_FnExactSystemText.j0] at h
 | k + 1 => by
  have ih0 := laws_FnExactSystemText.mono_l k
  ·intro y0 y1 y2 y3 y4
   unfold laws_FnExactSystemText.j0
   repeat' first
   | (with_reducible exact ih0 _ _ _ _ _)
   | (with_reducible exact impl_SystemText.mono _ _ _)
   | (with_reducible exact laws_eqSystem.mono _ _ _ _ _)
   | (with_reducible exact laws_toSystem.mono _ _ _)
   | (with_reducible exact spec_SystemText.mono _ _ _)
   | (with_reducible exact LeO.refl _)
   | (with_reducible exact LeO.none _)
   | (with_reducible refine LeO.ite ?_ ?_)
   | (with_reducible refine LeO.bind ?_ (fun _ => ?_))
   | exact ih0 _ _ _ _ _
   | exact impl_SystemText.mono _ _ _
   | exact laws_eqSystem.mono _ _ _ _ _
   | exact laws_toSystem.mono _ _ _
   | exact spec_SystemText.mono _ _ _
   | exact LeO.none _
   | refine LeO.ite ?_ ?_
   | refine LeO.bind ?_ (fun _ => ?_)
theorem laws_FnExactSystemText.mono : ∀ a0 a1 k, LeO (laws_FnExactSystemText.f k a0 a1) (laws_FnExactSystemText.f (k + 1) a0 a1) := by
 intro a0 a1 k
 have ih0 := laws_FnExactSystemText.mono_l k
 unfold laws_FnExactSystemText.f
 repeat' first
   | (with_reducible exact ih0 _ _ _ _ _)
   | (with_reducible exact impl_SystemText.mono _ _ _)
   | (with_reducible exact laws_eqSystem.mono _ _ _ _ _)
   | (with_reducible exact laws_toSystem.mono _ _ _)
   | (with_reducible exact spec_SystemText.mono _ _ _)
   | (with_reducible exact LeO.refl _)
   | (with_reducible exact LeO.none _)
   | (with_reducible refine LeO.ite ?_ ?_)
   | (with_reducible refine LeO.bind ?_ (fun _ => ?_))
   | exact ih0 _ _ _ _ _
   | exact impl_SystemText.mono _ _ _
   | exact laws_eqSystem.mono _ _ _ _ _
   | exact laws_toSystem.mono _ _ _
   | exact spec_SystemText.mono _ _ _
   | exact LeO.none _
   | refine LeO.ite ?_ ?_
   | refine LeO.bind ?_ (fun _ => ?_)
set_option maxHeartbeats 8000000 in
set_option maxRecDepth 100000 in
theorem laws_FnExactSystemText.calls (k : Nat) (a0_0 : Int) (A0_1 : Option Addr) (c0_1 : Nat) (l0_1 : List Int) (r : Bool) (w : World) (hr0_1 : Kd.C (Kd.int .i64) w A0_1 l0_1.length l0_1) (hc0_1 : l0_1.length ≤ c0_1) (h : laws_FnExactSystemText.f k a0_0 l0_1 = some r) :
  Calls Tryd.prog 3 #[.agg #[.int .i64 a0_0, .slice A0_1 l0_1.length c0_1]] w fun e w' => e = .returned (.bool r) ∧ Below w.heap.size w w' := by
 have hu24 := Tryd.underlying24
 have hu28 := Tryd.underlying28
 have HR0_1 := Aside0.mk hr0_1
 have HC0_1 := Aside0.mk hc0_1
 clear hr0_1 hc0_1
 have HB := Aside0.mk (Below.refl w.heap.size w)
 have H : ((laws_szSystem.f a0_0 l0_1 1048576).bind fun t165 => (if t165 < 0 then (some true) else ((laws_toSystem.f k a0_0 l0_1).bind fun bt166 => ((spec_SystemText.f k bt166.1 bt166.2).bind fun bt170 => ((laws_toSystem.f k a0_0 l0_1).bind fun bt172 => ((impl_SystemText.f k bt172.1 bt172.2).bind fun bt177 => (if bt177.1.toList = bt170.1.toList then (laws_FnExactSystemText.j0 k (bt177.2 != bt170.2) a0_0 l0_1 bt172.1 bt172.2) else (laws_FnExactSystemText.j0 k true a0_0 l0_1 bt172.1 bt172.2)))))))) = some r := h
 clear h
 replace H := Option.bind_eq_some_iff.mp H
 obtain ⟨t165, A20, H⟩ := H
 replace H : (if t165 < 0 then (some true) else ((laws_toSystem.f k a0_0 l0_1).bind fun bt166 => ((spec_SystemText.f k bt166.1 bt166.2).bind fun bt170 => ((laws_toSystem.f k a0_0 l0_1).bind fun bt172 => ((impl_SystemText.f k bt172.1 bt172.2).bind fun bt177 => (if bt177.1.toList = bt170.1.toList then (laws_FnExactSystemText.j0 k (bt177.2 != bt170.2) a0_0 l0_1 bt172.1 bt172.2) else (laws_FnExactSystemText.j0 k true a0_0 l0_1 bt172.1 bt172.2))))))) = some r := H
 have A2 := Aside0.mk A20
 clear A20
 by_cases c3 : t165 < 0
 ·rw [if_pos c3] at H
  have c3b0 : decide (t165 < 0) = true := decide_eq_true c3
  clear c3
  obtain rfl := Option.some.inj H
  go_enter Tryd.func3, Tryd.ntmps3
  go_wp2_with (first | ((with_reducible refine gate_dst (N := 1) rfl ?_); refine box_event ?hg (N := 1) ?hd (cs := #[.int .i64 a0_0, .slice A0_1 l0_1.length c0_1]) (t := 24) ?hr ?_; (case hd => rfl); (case hg => rfl); (case hr => first | (go_simp; done) | (go_simp; rfl)); intro gb164 hg w4 hbox hb; have n0_ := Aside0.mk (below_step (by repeat (first | (with_reducible first | exact HB.out | apply below_alloc | apply pw_below_drewN | apply below_drew1) | exact HB.out)) hb); have n1_ := Aside0.mk (hbox); have n2_ := Aside0.mk ((by rw [hg]; exact (below_size (by repeat (first | (with_reducible first | exact HB.out | apply below_alloc | apply pw_below_drewN | apply below_drew1) | exact HB.out))) : w.heap.size ≤ gb164)); have n3_ := Aside0.mk ((by rw [hg]; exact (below_size (by repeat (first | (with_reducible first | exact HB.out | apply below_alloc | apply pw_below_drewN | apply below_drew1) | exact HB.out))) : w.heap.size ≤ gb164)); clear HB; have HB := n0_; have BK164 := n1_; have GW164 := n2_; have GE164 := n3_; clear n0_ n1_ n2_ n3_; clear hb hbox hg; have hcz5_0 : w4.cell? ⟨gb164, 0, none⟩ = some (.int .i64 a0_0) := (blk_cell BK164.out 0).trans rfl; have hcz5_1 : w4.cell? ⟨gb164, 1, none⟩ = some (.slice A0_1 l0_1.length c0_1) := (blk_cell BK164.out 1).trans rfl; have hfz5_0 := blk_frozen BK164.out 0; have hfz5_1 := blk_frozen BK164.out 1) | ((with_reducible refine gate_callee (f := 6) rfl ?_); refine goesL_ (some 11) rfl rfl Tryd.func6 (by kernel_rfl) rfl #[.agg #[.int .i64 a0_0, .slice A0_1 l0_1.length c0_1], .int .i64 1048576] rfl (by (try simp only [List.map_toArray, List.map_cons, List.map_nil]); first | done | rfl | (simp only [List.length_drop, List.length_take]; rfl) | (simp only [show ∀ (n_ : Nat) (b_ : Int), Int.tdiv (n_ : Int) b_ = (n_ : Int) / b_ from fun n_ b_ => Int.tdiv_eq_ediv_of_nonneg (Int.natCast_nonneg n_)]; rfl)) ?_; (with_reducible refine (laws_szSystem.calls a0_0 _ _ l0_1 1048576 t165 _ ?side1 ?side2 A2.out).mono ?_); (case side1 => repeat (first | exact (Kd.C_below HR0_1.out HB.out) | (with_reducible refine Kd.C_alloc ?_ _) | (with_reducible refine Kd.C_drewN ?_ _) | (with_reducible refine Kd.C_drew ?_))); (case side2 => exact HC0_1.out); rintro e w6 ⟨rfl, hb⟩; refine ⟨_, rfl, ?_⟩; have n0_ := Aside0.mk (blk_below (g := gb164) (o := .cells #[.int .i64 a0_0, .slice A0_1 l0_1.length c0_1] 24 (0, 0)) (by (with_reducible repeat (first | refine blk_drewN ?_ _ | refine blk_drew ?_ | refine blk_alloc ?_ _)); exact BK164.out) hb); have n1_ := Aside0.mk (below_step (by repeat (first | (with_reducible first | exact HB.out | apply below_alloc | apply pw_below_drewN | apply below_drew1 | refine below_set ?_ GE164.out) | exact HB.out)) hb); clear BK164; clear HB; have BK164 := n0_; have HB := n1_; clear n0_ n1_; (try clear hb); (try clear hb2); (try clear hk); (try clear hi)))
  go_ret
  exact ⟨by first | rfl | (simp [errW_none, errW_some] <;> rfl) | (simp [*, errW_none, errW_some] <;> rfl), by repeat (first | (with_reducible first | exact HB.out | apply below_alloc | apply pw_below_drewN | apply below_drew1 | refine below_set ?_ GE164.out) | exact HB.out)⟩
 ·rw [if_neg c3] at H
  have c3b0 : decide (t165 < 0) = false := decide_eq_false c3
  clear c3
  replace H := Option.bind_eq_some_iff.mp H
  obtain ⟨⟨t166, t167⟩, A70, H⟩ := H
  replace H : ((spec_SystemText.f k t166 t167).bind fun bt170 => ((laws_toSystem.f k a0_0 l0_1).bind fun bt172 => ((impl_SystemText.f k bt172.1 bt172.2).bind fun bt177 => (if bt177.1.toList = bt170.1.toList then (laws_FnExactSystemText.j0 k (bt177.2 != bt170.2) a0_0 l0_1 bt172.1 bt172.2) else (laws_FnExactSystemText.j0 k true a0_0 l0_1 bt172.1 bt172.2))))) = some r := H
  have A7 := Aside0.mk A70
  clear A70
  replace H := Option.bind_eq_some_iff.mp H
  obtain ⟨⟨t170, t171⟩, A80, H⟩ := H
  replace H : ((laws_toSystem.f k a0_0 l0_1).bind fun bt172 => ((impl_SystemText.f k bt172.1 bt172.2).bind fun bt177 => (if bt177.1.toList = t170.toList then (laws_FnExactSystemText.j0 k (bt177.2 != t171) a0_0 l0_1 bt172.1 bt172.2) else (laws_FnExactSystemText.j0 k true a0_0 l0_1 bt172.1 bt172.2)))) = some r := H
  have A8 := Aside0.mk A80
  clear A80
  replace H := Option.bind_eq_some_iff.mp H
  obtain ⟨⟨t172, t173⟩, A90, H⟩ := H
  replace H : ((impl_SystemText.f k t172 t173).bind fun bt177 => (if bt177.1.toList = t170.toList then (laws_FnExactSystemText.j0 k (bt177.2 != t171) a0_0 l0_1 t172 t173) else (laws_FnExactSystemText.j0 k true a0_0 l0_1 t172 t173))) = some r := H
  have A9 := Aside0.mk A90
  clear A90
  replace H := Option.bind_eq_some_iff.mp H
  obtain ⟨⟨t177, t178⟩, A100, H⟩ := H
  replace H : (if t177.toList = t170.toList then (laws_FnExactSystemText.j0 k (t178 != t171) a0_0 l0_1 t172 t173) else (laws_FnExactSystemText.j0 k true a0_0 l0_1 t172 t173)) = some r := H
  have A10 := Aside0.mk A100
  clear A100
  have HC11 := Aside0.mk H
  clear H
  go_enter Tryd.func3, Tryd.ntmps3
  go_upto_region 8 with (first | ((with_reducible refine gate_dst (N := 1) rfl ?_); refine box_event ?hg (N := 1) ?hd (cs := #[.int .i64 a0_0, .slice A0_1 l0_1.length c0_1]) (t := 24) ?hr ?_; (case hd => rfl); (case hg => rfl); (case hr => first | (go_simp; done) | (go_simp; rfl)); intro gb164 hg w12 hbox hb; have n0_ := Aside0.mk (below_step (by repeat (first | (with_reducible first | exact HB.out | apply below_alloc | apply pw_below_drewN | apply below_drew1) | exact HB.out)) hb); have n1_ := Aside0.mk (hbox); have n2_ := Aside0.mk ((by rw [hg]; exact (below_size (by repeat (first | (with_reducible first | exact HB.out | apply below_alloc | apply pw_below_drewN | apply below_drew1) | exact HB.out))) : w.heap.size ≤ gb164)); have n3_ := Aside0.mk ((by rw [hg]; exact (below_size (by repeat (first | (with_reducible first | exact HB.out | apply below_alloc | apply pw_below_drewN | apply below_drew1) | exact HB.out))) : w.heap.size ≤ gb164)); clear HB; have HB := n0_; have BK164 := n1_; have GW164 := n2_; have GE164 := n3_; clear n0_ n1_ n2_ n3_; clear hb hbox hg; have hcz13_0 : w12.cell? ⟨gb164, 0, none⟩ = some (.int .i64 a0_0) := (blk_cell BK164.out 0).trans rfl; have hcz13_1 : w12.cell? ⟨gb164, 1, none⟩ = some (.slice A0_1 l0_1.length c0_1) := (blk_cell BK164.out 1).trans rfl; have hfz13_0 := blk_frozen BK164.out 0; have hfz13_1 := blk_frozen BK164.out 1) | ((with_reducible refine gate_callee (f := 6) rfl ?_); refine goesL_ (some 11) rfl rfl Tryd.func6 (by kernel_rfl) rfl #[.agg #[.int .i64 a0_0, .slice A0_1 l0_1.length c0_1], .int .i64 1048576] rfl (by (try simp only [List.map_toArray, List.map_cons, List.map_nil]); first | done | rfl | (simp only [List.length_drop, List.length_take]; rfl) | (simp only [show ∀ (n_ : Nat) (b_ : Int), Int.tdiv (n_ : Int) b_ = (n_ : Int) / b_ from fun n_ b_ => Int.tdiv_eq_ediv_of_nonneg (Int.natCast_nonneg n_)]; rfl)) ?_; (with_reducible refine (laws_szSystem.calls a0_0 _ _ l0_1 1048576 t165 _ ?side1 ?side2 A2.out).mono ?_); (case side1 => repeat (first | exact (Kd.C_below HR0_1.out HB.out) | (with_reducible refine Kd.C_alloc ?_ _) | (with_reducible refine Kd.C_drewN ?_ _) | (with_reducible refine Kd.C_drew ?_))); (case side2 => exact HC0_1.out); rintro e w14 ⟨rfl, hb⟩; refine ⟨_, rfl, ?_⟩; have n0_ := Aside0.mk (blk_below (g := gb164) (o := .cells #[.int .i64 a0_0, .slice A0_1 l0_1.length c0_1] 24 (0, 0)) (by (with_reducible repeat (first | refine blk_drewN ?_ _ | refine blk_drew ?_ | refine blk_alloc ?_ _)); exact BK164.out) hb); have n1_ := Aside0.mk (below_step (by repeat (first | (with_reducible first | exact HB.out | apply below_alloc | apply pw_below_drewN | apply below_drew1 | refine below_set ?_ GE164.out) | exact HB.out)) hb); clear BK164; clear HB; have BK164 := n0_; have HB := n1_; clear n0_ n1_; (try clear hb); (try clear hb2); (try clear hk); (try clear hi); have hcz15_0 : w14.cell? ⟨gb164, 0, none⟩ = some (.int .i64 a0_0) := (blk_cell BK164.out 0).trans rfl; have hcz15_1 : w14.cell? ⟨gb164, 1, none⟩ = some (.slice A0_1 l0_1.length c0_1) := (blk_cell BK164.out 1).trans rfl; have hfz15_0 := blk_frozen BK164.out 0; have hfz15_1 := blk_frozen BK164.out 1) | ((with_reducible refine gate_callee (f := 8) rfl ?_); refine goesL_ (some 16) rfl rfl Tryd.func8 (by kernel_rfl) rfl #[.agg #[.int .i64 a0_0, .slice A0_1 l0_1.length c0_1]] rfl (by (try simp only [List.map_toArray, List.map_cons, List.map_nil]); first | done | rfl | (simp only [List.length_drop, List.length_take]; rfl) | (simp only [show ∀ (n_ : Nat) (b_ : Int), Int.tdiv (n_ : Int) b_ = (n_ : Int) / b_ from fun n_ b_ => Int.tdiv_eq_ediv_of_nonneg (Int.natCast_nonneg n_)]; rfl)) ?_; (with_reducible refine (laws_toSystem.calls k a0_0 _ _ l0_1 t166 t167 _ ?side1 ?side2 A7.out).mono ?_); (case side1 => repeat (first | exact (Kd.C_below HR0_1.out HB.out) | (with_reducible refine Kd.C_alloc ?_ _) | (with_reducible refine Kd.C_drewN ?_ _) | (with_reducible refine Kd.C_drew ?_))); (case side2 => exact HC0_1.out); rintro e w16 ⟨v168, rfl, ho0, hb⟩; refine ⟨_, rfl, ?_⟩; have n0_ := Aside0.mk (Kd.R_lower ho0 (below_size (by repeat (first | (with_reducible first | exact HB.out | apply below_alloc | apply pw_below_drewN | apply below_drew1 | refine below_set ?_ GE164.out) | exact HB.out)))); have n1_ := Aside0.mk (blk_below (g := gb164) (o := .cells #[.int .i64 a0_0, .slice A0_1 l0_1.length c0_1] 24 (0, 0)) (by (with_reducible repeat (first | refine blk_drewN ?_ _ | refine blk_drew ?_ | refine blk_alloc ?_ _)); exact BK164.out) hb); have n2_ := Aside0.mk (below_step (by repeat (first | (with_reducible first | exact HB.out | apply below_alloc | apply pw_below_drewN | apply below_drew1 | refine below_set ?_ GE164.out) | exact HB.out)) hb); clear BK164; clear HB; have HO169 := n0_; have BK164 := n1_; have HB := n2_; clear n0_ n1_ n2_; (try clear hb); (try clear hb2); (try clear hk); (try clear hi); (try clear ho0); obtain ⟨Ao17, co17, eo17⟩ := Kd.R_slice HO169.out; subst eo17) | ((with_reducible refine gate_callee (f := 7) rfl ?_); refine goesL_ (some 17) rfl rfl Tryd.func7 (by kernel_rfl) rfl #[.agg #[.int .i64 t166, .slice Ao17 t167.length co17]] rfl (by (try simp only [List.map_toArray, List.map_cons, List.map_nil]); first | done | rfl | (simp only [List.length_drop, List.length_take]; rfl) | (simp only [show ∀ (n_ : Nat) (b_ : Int), Int.tdiv (n_ : Int) b_ = (n_ : Int) / b_ from fun n_ b_ => Int.tdiv_eq_ediv_of_nonneg (Int.natCast_nonneg n_)]; rfl)) ?_; (with_reducible refine (spec_SystemText.calls k t166 _ _ t167 t170 t171 _ ?side1 ?side2 A8.out).mono ?_); (case side1 => repeat (first | exact (Kd.R_reads' HO169.out).2.2 | (with_reducible refine Kd.C_alloc ?_ _) | (with_reducible refine Kd.C_drewN ?_ _) | (with_reducible refine Kd.C_drew ?_))); (case side2 => exact (Kd.R_reads' HO169.out).2.1); rintro e w18 ⟨rfl, hb⟩; refine ⟨_, rfl, ?_⟩; have n0_ := Aside0.mk (Kd.R_below (by (with_reducible repeat (first | apply Kd.R_alloc | apply Kd.R_drewN | apply Kd.R_drew)); exact HO169.out) hb); have n1_ := Aside0.mk (blk_below (g := gb164) (o := .cells #[.int .i64 a0_0, .slice A0_1 l0_1.length c0_1] 24 (0, 0)) (by (with_reducible repeat (first | refine blk_drewN ?_ _ | refine blk_drew ?_ | refine blk_alloc ?_ _)); exact BK164.out) hb); have n2_ := Aside0.mk (below_step (by repeat (first | (with_reducible first | exact HB.out | apply below_alloc | apply pw_below_drewN | apply below_drew1 | refine below_set ?_ GE164.out) | exact HB.out)) hb); clear HO169; clear BK164; clear HB; have HO169 := n0_; have BK164 := n1_; have HB := n2_; clear n0_ n1_ n2_; (try clear hb); (try clear hb2); (try clear hk); (try clear hi); have hcz19_0 : w18.cell? ⟨gb164, 0, none⟩ = some (.int .i64 a0_0) := (blk_cell BK164.out 0).trans rfl; have hcz19_1 : w18.cell? ⟨gb164, 1, none⟩ = some (.slice A0_1 l0_1.length c0_1) := (blk_cell BK164.out 1).trans rfl; have hfz19_0 := blk_frozen BK164.out 0; have hfz19_1 := blk_frozen BK164.out 1) | ((with_reducible refine gate_callee (f := 8) rfl ?_); refine goesL_ (some 21) rfl rfl Tryd.func8 (by kernel_rfl) rfl #[.agg #[.int .i64 a0_0, .slice A0_1 l0_1.length c0_1]] rfl (by (try simp only [List.map_toArray, List.map_cons, List.map_nil]); first | done | rfl | (simp only [List.length_drop, List.length_take]; rfl) | (simp only [show ∀ (n_ : Nat) (b_ : Int), Int.tdiv (n_ : Int) b_ = (n_ : Int) / b_ from fun n_ b_ => Int.tdiv_eq_ediv_of_nonneg (Int.natCast_nonneg n_)]; rfl)) ?_; (with_reducible refine (laws_toSystem.calls k a0_0 _ _ l0_1 t172 t173 _ ?side1 ?side2 A9.out).mono ?_); (case side1 => repeat (first | exact (Kd.C_below HR0_1.out HB.out) | (with_reducible refine Kd.C_alloc ?_ _) | (with_reducible refine Kd.C_drewN ?_ _) | (with_reducible refine Kd.C_drew ?_))); (case side2 => exact HC0_1.out); rintro e w20 ⟨v174, rfl, ho0, hb⟩; refine ⟨_, rfl, ?_⟩; have n0_ := Aside0.mk (Kd.R_elder' (by (with_reducible repeat (first | apply Kd.R_alloc | apply Kd.R_drewN | apply Kd.R_drew)); exact HO169.out) (Kd.R_base ho0) hb); have n1_ := Aside0.mk (Kd.R_lower (Kd.R_new' ho0 (Kd.R_lt (by (with_reducible repeat (first | apply Kd.R_alloc | apply Kd.R_drewN | apply Kd.R_drew)); exact HO169.out))) (below_size (by repeat (first | (with_reducible first | exact HB.out | apply below_alloc | apply pw_below_drewN | apply below_drew1 | refine below_set ?_ GE164.out) | exact HB.out)))); have n2_ := Aside0.mk (blk_below (g := gb164) (o := .cells #[.int .i64 a0_0, .slice A0_1 l0_1.length c0_1] 24 (0, 0)) (by (with_reducible repeat (first | refine blk_drewN ?_ _ | refine blk_drew ?_ | refine blk_alloc ?_ _)); exact BK164.out) hb); have n3_ := Aside0.mk (below_step (by repeat (first | (with_reducible first | exact HB.out | apply below_alloc | apply pw_below_drewN | apply below_drew1 | refine below_set ?_ GE164.out) | exact HB.out)) hb); clear HO169; clear BK164; clear HB; have HO169 := n0_; have HO175 := n1_; have BK164 := n2_; have HB := n3_; clear n0_ n1_ n2_ n3_; (try clear hb); (try clear hb2); (try clear hk); (try clear hi); (try clear ho0)) | ((with_reducible refine gate_dst (N := 6) rfl ?_); refine box_event ?hg (N := 6) ?hd (cs := #[.int .i64 0, .slice none 0 0]) (t := 28) ?hr ?_; (case hd => rfl); (case hg => rfl); (case hr => first | (go_simp; done) | (go_simp; rfl)); intro gb176 hg w21 hbox hb; have n0_ := Aside0.mk (Kd.R_below (by (with_reducible repeat (first | apply Kd.R_alloc | apply Kd.R_drewN | apply Kd.R_drew)); exact HO169.out) hb); have n1_ := Aside0.mk (Kd.R_below (by (with_reducible repeat (first | apply Kd.R_alloc | apply Kd.R_drewN | apply Kd.R_drew)); exact HO175.out) hb); have n2_ := Aside0.mk (blk_below (g := gb164) (o := .cells #[.int .i64 a0_0, .slice A0_1 l0_1.length c0_1] 24 (0, 0)) (by (with_reducible repeat (first | refine blk_drewN ?_ _ | refine blk_drew ?_ | refine blk_alloc ?_ _)); exact BK164.out) hb); have n3_ := Aside0.mk (below_step (by repeat (first | (with_reducible first | exact HB.out | apply below_alloc | apply pw_below_drewN | apply below_drew1 | refine below_set ?_ GE164.out) | exact HB.out)) hb); have n4_ := Aside0.mk (hbox); have n5_ := Aside0.mk ((by rw [hg]; exact (below_size (by repeat (first | (with_reducible first | exact HB.out | apply below_alloc | apply pw_below_drewN | apply below_drew1 | refine below_set ?_ GE164.out) | exact HB.out))) : w.heap.size ≤ gb176)); have n6_ := Aside0.mk ((by rw [hg]; exact (below_size (by repeat (first | (with_reducible first | exact HB.out | apply below_alloc | apply pw_below_drewN | apply below_drew1 | refine below_set ?_ GE164.out) | exact HB.out))) : w.heap.size ≤ gb176)); have n7_ := Aside0.mk ((by rw [hg]; exact Nat.ne_of_lt (blk_lt (g := gb164) (o := .cells #[.int .i64 a0_0, .slice A0_1 l0_1.length c0_1] 24 (0, 0)) (by (with_reducible repeat (first | refine blk_drewN ?_ _ | refine blk_drew ?_ | refine blk_alloc ?_ _)); exact BK164.out)) : gb164 ≠ gb176)); have n8_ := Aside0.mk ((by rw [hg]; exact Nat.ne_of_gt (blk_lt (g := gb164) (o := .cells #[.int .i64 a0_0, .slice A0_1 l0_1.length c0_1] 24 (0, 0)) (by (with_reducible repeat (first | refine blk_drewN ?_ _ | refine blk_drew ?_ | refine blk_alloc ?_ _)); exact BK164.out)) : gb176 ≠ gb164)); clear HO169; clear HO175; clear BK164; clear HB; have HO169 := n0_; have HO175 := n1_; have BK164 := n2_; have HB := n3_; have BK176 := n4_; have GW176 := n5_; have GE176 := n6_; have NB164_176 := n7_; have NB176_164 := n8_; clear n0_ n1_ n2_ n3_ n4_ n5_ n6_ n7_ n8_; clear hb hbox hg; have hnb22 := NB176_164.out; have hnc22 := NB164_176.out; have hcz23_0 : w21.cell? ⟨gb176, 0, none⟩ = some (.int .i64 0) := (blk_cell BK176.out 0).trans rfl; have hcz23_1 : w21.cell? ⟨gb176, 1, none⟩ = some (.slice none 0 0) := (blk_cell BK176.out 1).trans rfl; have hfz23_0 := blk_frozen BK176.out 0; have hfz23_1 := blk_frozen BK176.out 1; obtain ⟨Ao24, co24, eo24⟩ := Kd.R_slice HO175.out; subst eo24) | ((with_reducible refine gate_callee (f := 9) rfl ?_); refine goesL_ (some 24) rfl rfl Tryd.func9 (by kernel_rfl) rfl #[.agg #[.int .i64 t172, .slice Ao24 t173.length co24]] rfl (by (try simp only [List.map_toArray, List.map_cons, List.map_nil]); first | done | rfl | (simp only [List.length_drop, List.length_take]; rfl) | (simp only [show ∀ (n_ : Nat) (b_ : Int), Int.tdiv (n_ : Int) b_ = (n_ : Int) / b_ from fun n_ b_ => Int.tdiv_eq_ediv_of_nonneg (Int.natCast_nonneg n_)]; rfl)) ?_; (with_reducible refine (impl_SystemText.calls k t172 _ _ t173 t177 t178 _ ?side1 ?side2 A10.out).mono ?_); (case side1 => refine (Kd.R_reads' (e := 2) (base := w.heap.size) (ok := fun k_ => (True ∧ some k_ ≠ (.slice Ao17 t167.length co17 : Value).ownBlock)) (n := t173.length) (c := co24) ?_).2.2; exact (by (with_reducible repeat (first | apply Kd.R_alloc | apply Kd.R_drewN | apply Kd.R_drew)); exact (Kd.R_mono (Kd.R_far (p := ⟨gb176, 1, none⟩) (Kd.R_far (p := ⟨gb176, 0, none⟩) (Kd.R_types HO175.out BK176.out (by decide)) (fun _ hk => hk.2) (.int .i64 t172)) (fun _ hk => hk.2) (.slice Ao24 t173.length co24)) (fun _ h_ => h_.1)))); (case side2 => exact (Kd.R_reads' HO175.out).2.1); rintro e w25 ⟨rfl, hb⟩; refine ⟨_, rfl, ?_⟩; have n0_ := Aside0.mk (Kd.R_below (by (with_reducible repeat (first | apply Kd.R_alloc | apply Kd.R_drewN | apply Kd.R_drew)); exact (Kd.R_mono (Kd.R_far (p := ⟨gb176, 1, none⟩) (Kd.R_far (p := ⟨gb176, 0, none⟩) (Kd.R_types HO169.out BK176.out (by decide)) (fun _ hk => hk.2) (.int .i64 t172)) (fun _ hk => hk.2) (.slice Ao24 t173.length co24)) (fun _ h_ => h_.1))) hb); have n1_ := Aside0.mk (Kd.R_below (by (with_reducible repeat (first | apply Kd.R_alloc | apply Kd.R_drewN | apply Kd.R_drew)); exact (Kd.R_mono (Kd.R_far (p := ⟨gb176, 1, none⟩) (Kd.R_far (p := ⟨gb176, 0, none⟩) (Kd.R_types HO175.out BK176.out (by decide)) (fun _ hk => hk.2) (.int .i64 t172)) (fun _ hk => hk.2) (.slice Ao24 t173.length co24)) (fun _ h_ => h_.1))) hb); have n2_ := Aside0.mk (blk_below (g := gb164) (o := .cells #[.int .i64 a0_0, .slice A0_1 l0_1.length c0_1] 24 (0, 0)) (by (with_reducible repeat (first | refine blk_drewN ?_ _ | refine blk_drew ?_ | refine blk_alloc ?_ _)); refine blk_far ?_ NB164_176.out _; (with_reducible repeat (first | refine blk_drewN ?_ _ | refine blk_drew ?_ | refine blk_alloc ?_ _)); refine blk_far ?_ NB164_176.out _; (with_reducible repeat (first | refine blk_drewN ?_ _ | refine blk_drew ?_ | refine blk_alloc ?_ _)); exact BK164.out) hb); have n3_ := Aside0.mk (blk_below (g := gb176) (o := .cells #[.int .i64 t172, .slice Ao24 t173.length co24] 28 (0, 0)) (by (with_reducible repeat (first | refine blk_drewN ?_ _ | refine blk_drew ?_ | refine blk_alloc ?_ _)); refine blk_put (cs := #[.int .i64 t172, .slice none 0 0]) ?_ 1 _ rfl; (with_reducible repeat (first | refine blk_drewN ?_ _ | refine blk_drew ?_ | refine blk_alloc ?_ _)); refine blk_put (cs := #[.int .i64 0, .slice none 0 0]) ?_ 0 _ rfl; (with_reducible repeat (first | refine blk_drewN ?_ _ | refine blk_drew ?_ | refine blk_alloc ?_ _)); exact BK176.out) hb); have n4_ := Aside0.mk (below_step (by repeat (first | (with_reducible first | exact HB.out | apply below_alloc | apply pw_below_drewN | apply below_drew1 | refine below_set ?_ GE164.out | refine below_set ?_ GE176.out) | exact HB.out)) hb); clear HO169; clear HO175; clear BK164; clear BK176; clear HB; have HO169 := n0_; have HO175 := n1_; have BK164 := n2_; have BK176 := n3_; have HB := n4_; clear n0_ n1_ n2_ n3_ n4_; (try clear hb); (try clear hb2); (try clear hk); (try clear hi)))
  (try simp only [Act.put, List.setIfInBounds_toArray, List.set_cons_zero, List.set_cons_succ])
  go_cut [34] (fun v34 wc => ∃ (kq : Nat) (x34_10 : Bool), v34 = .bool x34_10 ∧ Aside0 (laws_FnExactSystemText.j0 kq x34_10 a0_0 l0_1 t172 t173 = some r) ∧ Aside0 (kq ≤ k) ∧ Aside0 (Kd.R (Kd.int .i64) 2 wc w.heap.size (fun _ => True) (.slice Ao24 t173.length co24) t173) ∧ Aside0 (wc.heap[gb164]? = some (.cells #[.int .i64 a0_0, (.slice A0_1 l0_1.length c0_1)] 24 (0, 0))) ∧ Aside0 (wc.heap[gb176]? = some (.cells #[.int .i64 t172, (.slice Ao24 t173.length co24)] 28 (0, 0))) ∧ Aside0 (Below w.heap.size w wc))
  case first =>
   have H := HC11.out
   clear HC11
   by_cases c26 : t177.toList = t170.toList
   ·rw [if_pos c26] at H
    have c26b0 : (t177.toList == t170.toList) = true := beq_iff_eq.mpr c26
    have c26b1 : (t177.toList != t170.toList) = false := bne_eq_false_iff_eq.mpr c26
    clear c26
    (first | rw [c26b0] | (simp only [i64_w, i32_w]; rw [c26b0]) | skip)
    have H' := Aside0.mk H
    clear H
    go_wp2
    go_meet
    case rel => exact ⟨_, ((t178 != t171)), (by first | rfl | (simp; done) | (simp [*]; done)), H', ⟨by first | omega | exact Nat.le_refl _⟩, ⟨by (with_reducible repeat (first | apply Kd.R_alloc | apply Kd.R_drewN | apply Kd.R_drew)); exact Kd.R_mono HO175.out (fun _ hk => trivial)⟩, ⟨by (with_reducible repeat (first | refine blk_drewN ?_ _ | refine blk_drew ?_ | refine blk_alloc ?_ _)); exact BK164.out⟩, ⟨by (with_reducible repeat (first | refine blk_drewN ?_ _ | refine blk_drew ?_ | refine blk_alloc ?_ _)); exact BK176.out⟩, ⟨by repeat (first | (with_reducible first | exact HB.out | apply below_alloc | apply pw_below_drewN | apply below_drew1 | refine below_set ?_ GE164.out | refine below_set ?_ GE176.out) | exact HB.out)⟩⟩
   ·rw [if_neg c26] at H
    have c26b0 : (t177.toList == t170.toList) = false := beq_eq_false_iff_ne.mpr c26
    have c26b1 : (t177.toList != t170.toList) = true := bne_iff_ne.mpr c26
    (first | rw [c26b0] | (simp only [i64_w, i32_w]; rw [c26b0]) | skip)
    have H' := Aside0.mk H
    clear H
    go_wp2
    go_meet
    case rel => exact ⟨_, (true), (by first | rfl | (simp; done) | (simp [*]; done)), H', ⟨by first | omega | exact Nat.le_refl _⟩, ⟨by (with_reducible repeat (first | apply Kd.R_alloc | apply Kd.R_drewN | apply Kd.R_drew)); exact Kd.R_mono HO175.out (fun _ hk => trivial)⟩, ⟨by (with_reducible repeat (first | refine blk_drewN ?_ _ | refine blk_drew ?_ | refine blk_alloc ?_ _)); exact BK164.out⟩, ⟨by (with_reducible repeat (first | refine blk_drewN ?_ _ | refine blk_drew ?_ | refine blk_alloc ?_ _)); exact BK176.out⟩, ⟨by repeat (first | (with_reducible first | exact HB.out | apply below_alloc | apply pw_below_drewN | apply below_drew1 | refine below_set ?_ GE164.out | refine below_set ?_ GE176.out) | exact HB.out)⟩⟩
  case rest =>
   clear HC11
   try clear c2
   try clear p2
   try clear c3
   try clear c3b0
   try clear c6
   try clear c7
   try clear c8
   try clear c9
   try clear c22
   try clear c26
   try clear c26b0
   try clear c26b1
   try clear hcz13_0
   try clear hcz13_1
   try clear hcz15_0
   try clear hcz15_1
   try clear hcz19_0
   try clear hcz19_1
   try clear hcz23_0
   try clear hcz23_1
   try clear hcz5_0
   try clear hcz5_1
   try clear hfz13_0
   try clear hfz13_1
   try clear hfz15_0
   try clear hfz15_1
   try clear hfz19_0
   try clear hfz19_1
   try clear hfz23_0
   try clear hfz23_1
   try clear hfz5_0
   try clear hfz5_1
   obtain ⟨kq, x34_10, rfl, HA, HJ10, HO_177001, BK164, BK176, HB⟩ := hcut
   cases kq with
   | zero => exact absurd HA.out (by simp [laws_FnExactSystemText.j0])
   | succ kj10 =>
    have H := HA.out
    clear HA
    simp only [laws_FnExactSystemText.j0] at H
    by_cases c27 : x34_10 = true
    ·subst c27
     have H1 : (some false) = some r := by rw [if_pos rfl] at H; exact H
     clear H
     have H := H1
     clear H1
     obtain rfl := Option.some.inj H
     go_wp2
     go_ret
     exact ⟨by first | rfl | (simp [errW_none, errW_some] <;> rfl) | (simp [*, errW_none, errW_some] <;> rfl), by repeat (first | (with_reducible first | exact HB.out | apply below_alloc | apply pw_below_drewN | apply below_drew1 | refine below_set ?_ GE164.out | refine below_set ?_ GE176.out) | exact HB.out)⟩
    ·replace c27 := Bool.eq_false_iff.mpr c27
     subst c27
     have H1 : ((laws_toSystem.f kj10 a0_0 l0_1).bind fun bt179 => ((laws_eqSystem.f kj10 t172 t173 bt179.1 bt179.2).bind fun t183 => (if t183 = true then (some true) else (some false)))) = some r := by rw [if_neg (show ¬ (false = true) by decide)] at H; exact H
     clear H
     have H := H1
     clear H1
     replace H := Option.bind_eq_some_iff.mp H
     obtain ⟨⟨t179, t180⟩, A280, H⟩ := H
     replace H : ((laws_eqSystem.f kj10 t172 t173 t179 t180).bind fun t183 => (if t183 = true then (some true) else (some false))) = some r := H
     have A28 := Aside0.mk A280
     clear A280
     replace H := Option.bind_eq_some_iff.mp H
     obtain ⟨t183, A290, H⟩ := H
     replace H : (if t183 = true then (some true) else (some false)) = some r := H
     have A29 := Aside0.mk A290
     clear A290
     by_cases c30 : t183 = true
     ·subst c30
      have H1 : (some true) = some r := by rw [if_pos rfl] at H; exact H
      clear H
      have H := H1
      clear H1
      obtain rfl := Option.some.inj H
      try go_wp2
      have n0_ := Aside0.mk (Kd.R_drew HO_177001.out)
      have n1_ := Aside0.mk (blk_drew BK164.out)
      have n2_ := Aside0.mk (blk_drew BK176.out)
      have n3_ := Aside0.mk (below_drew1 HB.out)
      clear HO_177001
      clear BK164
      clear BK176
      clear HB
      have HO_177001 := n0_
      have BK164 := n1_
      have BK176 := n2_
      have HB := n3_
      clear n0_ n1_ n2_ n3_
      refine start_ (n := 5) (S := fun w' => w'.cell? ⟨gb176, 0, none⟩ = some (.int .i64 t172) ∧ w'.cell? ⟨gb176, 1, none⟩ = some (.slice Ao24 t173.length co24) ∧ w'.cell? ⟨gb164, 0, none⟩ = some (.int .i64 a0_0) ∧ w'.cell? ⟨gb164, 1, none⟩ = some (.slice A0_1 l0_1.length c0_1)) (ds := []) #[false, false, false, false, false] (by kernel_rfl) rfl rfl ⟨(blk_cell BK176.out 0).trans rfl, (blk_cell BK176.out 1).trans rfl, (blk_cell BK164.out 0).trans rfl, (blk_cell BK164.out 1).trans rfl⟩ (fun hHeld => ?_)
      generalize wc.drew = w31 at HO_177001 BK164 BK176 HB hHeld ⊢
      refine take_ (i := 0) (N := some 35) (v := ?_) (a' := ?_) #[true, false, false, false, false] rfl rfl (by kernel_rfl) (fun _ _ _ h => h) (Or.inl ⟨by rfl, ?_⟩) hHeld ?_ ?_
      rotate_left
      ·rintro w' ⟨s0, s1, s2, s3⟩
       go_simp
       with_reducible rfl
      rotate_left
      ·simp only [Act.put, List.setIfInBounds_toArray, List.set_cons_zero, List.set_cons_succ, i64_w, i32_w]
       rfl
      refine take_ (i := 1) (N := some 36) (v := ?_) (a' := ?_) #[true, true, false, false, false] rfl rfl (by kernel_rfl) (fun _ _ _ h => h) (Or.inl ⟨by rfl, ?_⟩) hHeld ?_ ?_
      rotate_left
      ·rintro w' ⟨s0, s1, s2, s3⟩
       go_simp
       with_reducible rfl
      rotate_left
      ·simp only [Act.put, List.setIfInBounds_toArray, List.set_cons_zero, List.set_cons_succ, i64_w, i32_w]
       rfl
      refine one_ (i := 2) (N := some 37) #[true, true, true, false, false] rfl rfl (by kernel_rfl) (by decide) (fun K hK => ?_)
      refine goes_ Tryd.func8 (by kernel_rfl) rfl #[.agg #[.int .i64 a0_0, .slice A0_1 l0_1.length c0_1]] (by rfl) rfl rfl (by (try simp only [List.map_toArray, List.map_cons, List.map_nil]); first | done | rfl | (simp only [List.length_drop, List.length_take]; rfl) | (simp only [show ∀ (n_ : Nat) (b_ : Int), Int.tdiv (n_ : Int) b_ = (n_ : Int) / b_ from fun n_ b_ => Int.tdiv_eq_ediv_of_nonneg (Int.natCast_nonneg n_)]; rfl)) ?_
      with_reducible refine (laws_toSystem.calls kj10 a0_0 _ _ l0_1 t179 t180 _ ?side1 ?side2 A28.out).mono ?_
      (case side1 => repeat (first | exact (Kd.C_below HR0_1.out HB.out) | (with_reducible refine Kd.C_alloc ?_ _) | (with_reducible refine Kd.C_drewN ?_ _) | (with_reducible refine Kd.C_drew ?_)))
      (case side2 => exact HC0_1.out)
      rintro e w32 ⟨v181, rfl, ho0, hb⟩
      refine ⟨_, rfl, ?_⟩
      have n0_ := Aside0.mk (Kd.R_elder' (by (with_reducible repeat (first | apply Kd.R_alloc | apply Kd.R_drewN | apply Kd.R_drew)); exact HO_177001.out) (Kd.R_base ho0) hb)
      have n1_ := Aside0.mk (Kd.R_lower (Kd.R_new' ho0 (Kd.R_lt (by (with_reducible repeat (first | apply Kd.R_alloc | apply Kd.R_drewN | apply Kd.R_drew)); exact HO_177001.out))) (below_size (by repeat (first | (with_reducible first | exact HB.out | apply below_alloc | apply pw_below_drewN | apply below_drew1 | refine below_set ?_ GE164.out | refine below_set ?_ GE176.out) | exact HB.out))))
      have n2_ := Aside0.mk (blk_below (g := gb164) (o := .cells #[.int .i64 a0_0, .slice A0_1 l0_1.length c0_1] 24 (0, 0)) (by (with_reducible repeat (first | refine blk_drewN ?_ _ | refine blk_drew ?_ | refine blk_alloc ?_ _)); exact BK164.out) hb)
      have n3_ := Aside0.mk (blk_below (g := gb176) (o := .cells #[.int .i64 t172, .slice Ao24 t173.length co24] 28 (0, 0)) (by (with_reducible repeat (first | refine blk_drewN ?_ _ | refine blk_drew ?_ | refine blk_alloc ?_ _)); exact BK176.out) hb)
      have n4_ := Aside0.mk (below_step (by repeat (first | (with_reducible first | exact HB.out | apply below_alloc | apply pw_below_drewN | apply below_drew1 | refine below_set ?_ GE164.out | refine below_set ?_ GE176.out) | exact HB.out)) hb)
      clear HO_177001
      clear BK164
      clear BK176
      clear HB
      have HO_177001 := n0_
      have HO182 := n1_
      have BK164 := n2_
      have BK176 := n3_
      have HB := n4_
      clear n0_ n1_ n2_ n3_ n4_
      (try clear hb)
      (try clear hb2)
      (try clear hk)
      (try clear hi)
      (try clear ho0)
      obtain ⟨Ao33, co33, eo33⟩ := Kd.R_slice HO182.out
      (first | subst eo33 | (injection eo33 with f1_ f2_ f3_; have f4_ := f1_.symm; have f5_ := f3_.symm; clear f1_ f2_ f3_; subst f4_; subst f5_))
      refine hK.out _ _ ⟨(blk_cell BK176.out 0).trans rfl, (blk_cell BK176.out 1).trans rfl, (blk_cell BK164.out 0).trans rfl, (blk_cell BK164.out 1).trans rfl⟩ (fun hHeld => ?_)
      clear hK K
      refine norm_ (a' := ?_) ?_ ?_
      rotate_left
      ·show Act.put _ (some 37) _ = _
       simp only [Act.put, List.setIfInBounds_toArray, List.set_cons_zero, List.set_cons_succ, i64_w, i32_w]
       rfl
      refine one_ (i := 3) (N := some 38) #[true, true, true, true, false] rfl rfl (by kernel_rfl) (by decide) (fun K hK => ?_)
      refine goes_ Tryd.func10 (by kernel_rfl) rfl #[.agg #[.int .i64 t172, .slice Ao24 t173.length co24], .agg #[.int .i64 t179, .slice Ao33 t180.length co33]] (by rfl) rfl rfl (by (try simp only [List.map_toArray, List.map_cons, List.map_nil]); first | done | rfl | (simp only [List.length_drop, List.length_take]; rfl) | (simp only [show ∀ (n_ : Nat) (b_ : Int), Int.tdiv (n_ : Int) b_ = (n_ : Int) / b_ from fun n_ b_ => Int.tdiv_eq_ediv_of_nonneg (Int.natCast_nonneg n_)]; rfl)) ?_
      with_reducible refine (laws_eqSystem.calls kj10 t172 _ _ t173 t179 _ _ t180 true _ ?side1 ?side2 ?side3 ?side4 A29.out).mono ?_
      (case side1 => repeat (first | exact (Kd.R_reads' HO_177001.out).2.2 | (with_reducible refine Kd.C_alloc ?_ _) | (with_reducible refine Kd.C_drewN ?_ _) | (with_reducible refine Kd.C_drew ?_)))
      (case side2 => exact (Kd.R_reads' HO_177001.out).2.1)
      (case side3 => repeat (first | exact (Kd.R_reads' HO182.out).2.2 | (with_reducible refine Kd.C_alloc ?_ _) | (with_reducible refine Kd.C_drewN ?_ _) | (with_reducible refine Kd.C_drew ?_)))
      (case side4 => exact (Kd.R_reads' HO182.out).2.1)
      rintro e w34 ⟨rfl, hb⟩
      refine ⟨_, rfl, ?_⟩
      have n0_ := Aside0.mk (Kd.R_below (by (with_reducible repeat (first | apply Kd.R_alloc | apply Kd.R_drewN | apply Kd.R_drew)); exact HO_177001.out) hb)
      have n1_ := Aside0.mk (Kd.R_below (by (with_reducible repeat (first | apply Kd.R_alloc | apply Kd.R_drewN | apply Kd.R_drew)); exact HO182.out) hb)
      have n2_ := Aside0.mk (blk_below (g := gb164) (o := .cells #[.int .i64 a0_0, .slice A0_1 l0_1.length c0_1] 24 (0, 0)) (by (with_reducible repeat (first | refine blk_drewN ?_ _ | refine blk_drew ?_ | refine blk_alloc ?_ _)); exact BK164.out) hb)
      have n3_ := Aside0.mk (blk_below (g := gb176) (o := .cells #[.int .i64 t172, .slice Ao24 t173.length co24] 28 (0, 0)) (by (with_reducible repeat (first | refine blk_drewN ?_ _ | refine blk_drew ?_ | refine blk_alloc ?_ _)); exact BK176.out) hb)
      have n4_ := Aside0.mk (below_step (by repeat (first | (with_reducible first | exact HB.out | apply below_alloc | apply pw_below_drewN | apply below_drew1 | refine below_set ?_ GE164.out | refine below_set ?_ GE176.out) | exact HB.out)) hb)
      clear HO_177001
      clear HO182
      clear BK164
      clear BK176
      clear HB
      have HO_177001 := n0_
      have HO182 := n1_
      have BK164 := n2_
      have BK176 := n3_
      have HB := n4_
      clear n0_ n1_ n2_ n3_ n4_
      (try clear hb)
      (try clear hb2)
      (try clear hk)
      (try clear hi)
      refine hK.out _ _ ⟨(blk_cell BK176.out 0).trans rfl, (blk_cell BK176.out 1).trans rfl, (blk_cell BK164.out 0).trans rfl, (blk_cell BK164.out 1).trans rfl⟩ (fun hHeld => ?_)
      clear hK K
      refine norm_ (a' := ?_) ?_ ?_
      rotate_left
      ·show Act.put _ (some 38) _ = _
       simp only [Act.put, List.setIfInBounds_toArray, List.set_cons_zero, List.set_cons_succ, i64_w, i32_w]
       rfl
      refine pure_ (i := 4) (N := some 39) (v := ?_) (a' := ?_) #[true, true, true, true, true] rfl rfl (by kernel_rfl) (fun _ _ _ h => h) (Or.inl ⟨by rfl, ?_⟩) ?_ ?_
      rotate_left
      ·intro w'
       go_simp
       with_reducible rfl
      rotate_left
      ·simp only [Act.put, List.setIfInBounds_toArray, List.set_cons_zero, List.set_cons_succ, i64_w, i32_w]
       rfl
      refine done_ (by kernel_rfl) ?_
      try go_wp2
      go_ret
      exact ⟨by first | rfl | (simp [errW_none, errW_some] <;> rfl) | (simp [*, errW_none, errW_some] <;> rfl), by repeat (first | (with_reducible first | exact HB.out | apply below_alloc | apply pw_below_drewN | apply below_drew1 | refine below_set ?_ GE164.out | refine below_set ?_ GE176.out) | exact HB.out)⟩
     ·replace c30 := Bool.eq_false_iff.mpr c30
      subst c30
      have H1 : (some false) = some r := by rw [if_neg (show ¬ (false = true) by decide)] at H; exact H
      clear H
      have H := H1
      clear H1
      obtain rfl := Option.some.inj H
      try go_wp2
      have n0_ := Aside0.mk (Kd.R_drew HO_177001.out)
      have n1_ := Aside0.mk (blk_drew BK164.out)
      have n2_ := Aside0.mk (blk_drew BK176.out)
      have n3_ := Aside0.mk (below_drew1 HB.out)
      clear HO_177001
      clear BK164
      clear BK176
      clear HB
      have HO_177001 := n0_
      have BK164 := n1_
      have BK176 := n2_
      have HB := n3_
      clear n0_ n1_ n2_ n3_
      refine start_ (n := 5) (S := fun w' => w'.cell? ⟨gb176, 0, none⟩ = some (.int .i64 t172) ∧ w'.cell? ⟨gb176, 1, none⟩ = some (.slice Ao24 t173.length co24) ∧ w'.cell? ⟨gb164, 0, none⟩ = some (.int .i64 a0_0) ∧ w'.cell? ⟨gb164, 1, none⟩ = some (.slice A0_1 l0_1.length c0_1)) (ds := []) #[false, false, false, false, false] (by kernel_rfl) rfl rfl ⟨(blk_cell BK176.out 0).trans rfl, (blk_cell BK176.out 1).trans rfl, (blk_cell BK164.out 0).trans rfl, (blk_cell BK164.out 1).trans rfl⟩ (fun hHeld => ?_)
      generalize wc.drew = w35 at HO_177001 BK164 BK176 HB hHeld ⊢
      refine take_ (i := 0) (N := some 35) (v := ?_) (a' := ?_) #[true, false, false, false, false] rfl rfl (by kernel_rfl) (fun _ _ _ h => h) (Or.inl ⟨by rfl, ?_⟩) hHeld ?_ ?_
      rotate_left
      ·rintro w' ⟨s0, s1, s2, s3⟩
       go_simp
       with_reducible rfl
      rotate_left
      ·simp only [Act.put, List.setIfInBounds_toArray, List.set_cons_zero, List.set_cons_succ, i64_w, i32_w]
       rfl
      refine take_ (i := 1) (N := some 36) (v := ?_) (a' := ?_) #[true, true, false, false, false] rfl rfl (by kernel_rfl) (fun _ _ _ h => h) (Or.inl ⟨by rfl, ?_⟩) hHeld ?_ ?_
      rotate_left
      ·rintro w' ⟨s0, s1, s2, s3⟩
       go_simp
       with_reducible rfl
      rotate_left
      ·simp only [Act.put, List.setIfInBounds_toArray, List.set_cons_zero, List.set_cons_succ, i64_w, i32_w]
       rfl
      refine one_ (i := 2) (N := some 37) #[true, true, true, false, false] rfl rfl (by kernel_rfl) (by decide) (fun K hK => ?_)
      refine goes_ Tryd.func8 (by kernel_rfl) rfl #[.agg #[.int .i64 a0_0, .slice A0_1 l0_1.length c0_1]] (by rfl) rfl rfl (by (try simp only [List.map_toArray, List.map_cons, List.map_nil]); first | done | rfl | (simp only [List.length_drop, List.length_take]; rfl) | (simp only [show ∀ (n_ : Nat) (b_ : Int), Int.tdiv (n_ : Int) b_ = (n_ : Int) / b_ from fun n_ b_ => Int.tdiv_eq_ediv_of_nonneg (Int.natCast_nonneg n_)]; rfl)) ?_
      with_reducible refine (laws_toSystem.calls kj10 a0_0 _ _ l0_1 t179 t180 _ ?side1 ?side2 A28.out).mono ?_
      (case side1 => repeat (first | exact (Kd.C_below HR0_1.out HB.out) | (with_reducible refine Kd.C_alloc ?_ _) | (with_reducible refine Kd.C_drewN ?_ _) | (with_reducible refine Kd.C_drew ?_)))
      (case side2 => exact HC0_1.out)
      rintro e w36 ⟨v181, rfl, ho0, hb⟩
      refine ⟨_, rfl, ?_⟩
      have n0_ := Aside0.mk (Kd.R_elder' (by (with_reducible repeat (first | apply Kd.R_alloc | apply Kd.R_drewN | apply Kd.R_drew)); exact HO_177001.out) (Kd.R_base ho0) hb)
      have n1_ := Aside0.mk (Kd.R_lower (Kd.R_new' ho0 (Kd.R_lt (by (with_reducible repeat (first | apply Kd.R_alloc | apply Kd.R_drewN | apply Kd.R_drew)); exact HO_177001.out))) (below_size (by repeat (first | (with_reducible first | exact HB.out | apply below_alloc | apply pw_below_drewN | apply below_drew1 | refine below_set ?_ GE164.out | refine below_set ?_ GE176.out) | exact HB.out))))
      have n2_ := Aside0.mk (blk_below (g := gb164) (o := .cells #[.int .i64 a0_0, .slice A0_1 l0_1.length c0_1] 24 (0, 0)) (by (with_reducible repeat (first | refine blk_drewN ?_ _ | refine blk_drew ?_ | refine blk_alloc ?_ _)); exact BK164.out) hb)
      have n3_ := Aside0.mk (blk_below (g := gb176) (o := .cells #[.int .i64 t172, .slice Ao24 t173.length co24] 28 (0, 0)) (by (with_reducible repeat (first | refine blk_drewN ?_ _ | refine blk_drew ?_ | refine blk_alloc ?_ _)); exact BK176.out) hb)
      have n4_ := Aside0.mk (below_step (by repeat (first | (with_reducible first | exact HB.out | apply below_alloc | apply pw_below_drewN | apply below_drew1 | refine below_set ?_ GE164.out | refine below_set ?_ GE176.out) | exact HB.out)) hb)
      clear HO_177001
      clear BK164
      clear BK176
      clear HB
      have HO_177001 := n0_
      have HO182 := n1_
      have BK164 := n2_
      have BK176 := n3_
      have HB := n4_
      clear n0_ n1_ n2_ n3_ n4_
      (try clear hb)
      (try clear hb2)
      (try clear hk)
      (try clear hi)
      (try clear ho0)
      obtain ⟨Ao37, co37, eo37⟩ := Kd.R_slice HO182.out
      (first | subst eo37 | (injection eo37 with f1_ f2_ f3_; have f4_ := f1_.symm; have f5_ := f3_.symm; clear f1_ f2_ f3_; subst f4_; subst f5_))
      refine hK.out _ _ ⟨(blk_cell BK176.out 0).trans rfl, (blk_cell BK176.out 1).trans rfl, (blk_cell BK164.out 0).trans rfl, (blk_cell BK164.out 1).trans rfl⟩ (fun hHeld => ?_)
      clear hK K
      refine norm_ (a' := ?_) ?_ ?_
      rotate_left
      ·show Act.put _ (some 37) _ = _
       simp only [Act.put, List.setIfInBounds_toArray, List.set_cons_zero, List.set_cons_succ, i64_w, i32_w]
       rfl
      refine one_ (i := 3) (N := some 38) #[true, true, true, true, false] rfl rfl (by kernel_rfl) (by decide) (fun K hK => ?_)
      refine goes_ Tryd.func10 (by kernel_rfl) rfl #[.agg #[.int .i64 t172, .slice Ao24 t173.length co24], .agg #[.int .i64 t179, .slice Ao37 t180.length co37]] (by rfl) rfl rfl (by (try simp only [List.map_toArray, List.map_cons, List.map_nil]); first | done | rfl | (simp only [List.length_drop, List.length_take]; rfl) | (simp only [show ∀ (n_ : Nat) (b_ : Int), Int.tdiv (n_ : Int) b_ = (n_ : Int) / b_ from fun n_ b_ => Int.tdiv_eq_ediv_of_nonneg (Int.natCast_nonneg n_)]; rfl)) ?_
      with_reducible refine (laws_eqSystem.calls kj10 t172 _ _ t173 t179 _ _ t180 false _ ?side1 ?side2 ?side3 ?side4 A29.out).mono ?_
      (case side1 => repeat (first | exact (Kd.R_reads' HO_177001.out).2.2 | (with_reducible refine Kd.C_alloc ?_ _) | (with_reducible refine Kd.C_drewN ?_ _) | (with_reducible refine Kd.C_drew ?_)))
      (case side2 => exact (Kd.R_reads' HO_177001.out).2.1)
      (case side3 => repeat (first | exact (Kd.R_reads' HO182.out).2.2 | (with_reducible refine Kd.C_alloc ?_ _) | (with_reducible refine Kd.C_drewN ?_ _) | (with_reducible refine Kd.C_drew ?_)))
      (case side4 => exact (Kd.R_reads' HO182.out).2.1)
      rintro e w38 ⟨rfl, hb⟩
      refine ⟨_, rfl, ?_⟩
      have n0_ := Aside0.mk (Kd.R_below (by (with_reducible repeat (first | apply Kd.R_alloc | apply Kd.R_drewN | apply Kd.R_drew)); exact HO_177001.out) hb)
      have n1_ := Aside0.mk (Kd.R_below (by (with_reducible repeat (first | apply Kd.R_alloc | apply Kd.R_drewN | apply Kd.R_drew)); exact HO182.out) hb)
      have n2_ := Aside0.mk (blk_below (g := gb164) (o := .cells #[.int .i64 a0_0, .slice A0_1 l0_1.length c0_1] 24 (0, 0)) (by (with_reducible repeat (first | refine blk_drewN ?_ _ | refine blk_drew ?_ | refine blk_alloc ?_ _)); exact BK164.out) hb)
      have n3_ := Aside0.mk (blk_below (g := gb176) (o := .cells #[.int .i64 t172, .slice Ao24 t173.length co24] 28 (0, 0)) (by (with_reducible repeat (first | refine blk_drewN ?_ _ | refine blk_drew ?_ | refine blk_alloc ?_ _)); exact BK176.out) hb)
      have n4_ := Aside0.mk (below_step (by repeat (first | (with_reducible first | exact HB.out | apply below_alloc | apply pw_below_drewN | apply below_drew1 | refine below_set ?_ GE164.out | refine below_set ?_ GE176.out) | exact HB.out)) hb)
      clear HO_177001
      clear HO182
      clear BK164
      clear BK176
      clear HB
      have HO_177001 := n0_
      have HO182 := n1_
      have BK164 := n2_
      have BK176 := n3_
      have HB := n4_
      clear n0_ n1_ n2_ n3_ n4_
      (try clear hb)
      (try clear hb2)
      (try clear hk)
      (try clear hi)
      refine hK.out _ _ ⟨(blk_cell BK176.out 0).trans rfl, (blk_cell BK176.out 1).trans rfl, (blk_cell BK164.out 0).trans rfl, (blk_cell BK164.out 1).trans rfl⟩ (fun hHeld => ?_)
      clear hK K
      refine norm_ (a' := ?_) ?_ ?_
      rotate_left
      ·show Act.put _ (some 38) _ = _
       simp only [Act.put, List.setIfInBounds_toArray, List.set_cons_zero, List.set_cons_succ, i64_w, i32_w]
       rfl
      refine pure_ (i := 4) (N := some 39) (v := ?_) (a' := ?_) #[true, true, true, true, true] rfl rfl (by kernel_rfl) (fun _ _ _ h => h) (Or.inl ⟨by rfl, ?_⟩) ?_ ?_
      rotate_left
      ·intro w'
       go_simp
       with_reducible rfl
      rotate_left
      ·simp only [Act.put, List.setIfInBounds_toArray, List.set_cons_zero, List.set_cons_succ, i64_w, i32_w]
       rfl
      refine done_ (by kernel_rfl) ?_
      try go_wp2
      go_ret
      exact ⟨by first | rfl | (simp [errW_none, errW_some] <;> rfl) | (simp [*, errW_none, errW_some] <;> rfl), by repeat (first | (with_reducible first | exact HB.out | apply below_alloc | apply pw_below_drewN | apply below_drew1 | refine below_set ?_ GE164.out | refine below_set ?_ GE176.out) | exact HB.out)⟩
def laws_FnExactSystemText.Pure : Prop := ∀ (a0_0 : Int) (l0_1 : List Int), (Lit.int .i64 a0_0).wf = true → (l0_1.length ≤ maxLen ∧ ∀ y ∈ l0_1, (Lit.int .i64 y).wf = true) → ∃ k, laws_FnExactSystemText.f k a0_0 l0_1 = some true
theorem laws_FnExactSystemText.walk (P : laws_FnExactSystemText.Pure) (a0_0 : Int) (A0_1 : Option Addr) (c0_1 : Nat) (l0_1 : List Int) (w : World) (hr0_1 : Kd.C (Kd.int .i64) w A0_1 l0_1.length l0_1) (hc0_1 : l0_1.length ≤ c0_1) (w0_0 : (Lit.int .i64 a0_0).wf = true) (w0_1 : (l0_1.length ≤ maxLen ∧ ∀ y ∈ l0_1, (Lit.int .i64 y).wf = true)) :
  Calls Tryd.prog 3 #[.agg #[.int .i64 a0_0, .slice A0_1 l0_1.length c0_1]] w fun e w' => e = .returned (.bool true) ∧ Below w.heap.size w w' := by
 obtain ⟨k, h⟩ := P a0_0 l0_1 w0_0 w0_1
 refine (laws_FnExactSystemText.calls k a0_0 A0_1 c0_1 l0_1 true w hr0_1 hc0_1 h).mono ?_
 rintro e w' ⟨rfl, hd⟩
 exact ⟨rfl, hd⟩
end Go.Proofs.YtdlnhddpgopghaaDoor.Q
namespace Go.Proofs.YtdlnhddpgopghaaDoor.Com
open Go.RowKit Go.Proofs.YtdlnhddpgopghaaDoorW.PrintWords
theorem w64 {x : Int} (h1 : -9223372036854775808 ≤ x) (h2 : x ≤ 9223372036854775807) : wrap64 x = x := by
 unfold wrap64
 omega
theorem ev_of {α : Type} {g : Nat → Option α} {r : α} (h : Ev g r) : ∃ k, g k = some r := h.rounds
theorem ev_bind' {α β : Type} {o : Option α} {f : Nat → α → Option β} {a : α} {r : β} (h : o = some a) (k : Ev (fun n => f n a) r) : Ev (fun n => o.bind (f n)) r := by
 subst h
 exact k
theorem tdiv_nn {a b : Int} (h : 0 ≤ a) : Int.tdiv a b = a / b := Int.tdiv_eq_ediv_of_nonneg h
theorem tmod_nn {a b : Int} (h : 0 ≤ a) : Int.tmod a b = a % b := Int.tmod_eq_emod_of_nonneg h
end Go.Proofs.YtdlnhddpgopghaaDoor.Com
namespace Go.Proofs.YtdlnhddpgopghaaDoor.Com
set_option linter.unusedSimpArgs false
set_option linter.unusedVariables false
open Go.RowKit Go.Proofs.YtdlnhddpgopghaaDoorW.PrintWords
theorem ev_fold {α σ ρ : Type} (xs : List α) (g : Nat → σ → Nat → Option ρ) (F : List α → σ → ρ) (Inv : Nat → σ → Prop)
  (h0 : ∀ s, Inv xs.length s → Ev (g xs.length s) (F [] s))
  (hs : ∀ m (h : m < xs.length) s, Inv m s → (∀ s', Inv (m + 1) s' → Ev (g (m + 1) s') (F (xs.drop (m + 1)) s')) → Ev (g m s) (F (xs[m] :: xs.drop (m + 1)) s)) :
  ∀ m s, m ≤ xs.length → Inv m s → Ev (g m s) (F (xs.drop m) s) := by
 have key : ∀ d m s, m + d = xs.length → Inv m s → Ev (g m s) (F (xs.drop m) s) := by
  intro d
  induction d with
  | zero =>
   intro m s e hi
   obtain rfl : m = xs.length := by omega
   rw [List.drop_length]
   exact h0 s hi
  | succ d ih =>
   intro m s e hi
   have h : m < xs.length := by omega
   rw [List.drop_eq_getElem_cons h]
   exact hs m h s hi (fun s' hi' => ih (m + 1) s' (by omega) hi')
 intro m s hm hi
 exact key (xs.length - m) m s (by omega) hi
theorem ev_list {α ρ : Type} (xs : List α) (g : Nat → Nat → Option ρ) (F : List α → ρ) (h0 : Ev (g xs.length) (F []))
  (hs : ∀ m (h : m < xs.length), Ev (g (m + 1)) (F (xs.drop (m + 1))) → Ev (g m) (F (xs[m] :: xs.drop (m + 1)))) (m : Nat) (hm : m ≤ xs.length) : Ev (g m) (F (xs.drop m)) :=
 ev_fold xs (fun m (_ : Unit) => g m) (fun l _ => F l) (fun _ _ => True) (fun _ _ => h0) (fun m h _ _ ih => hs m h (ih () trivial)) m () hm trivial
theorem ev_count {σ ρ : Type} (n : Nat) (g : Nat → σ → Nat → Option ρ) (r : ρ) (Inv : Nat → σ → Prop) (h0 : ∀ s, Inv n s → Ev (g n s) r)
  (hs : ∀ m s, m < n → Inv m s → ∃ s', Inv (m + 1) s' ∧ (Ev (g (m + 1) s') r → Ev (g m s) r)) : ∀ m s, m ≤ n → Inv m s → Ev (g m s) r := by
 have key : ∀ d m s, m + d = n → Inv m s → Ev (g m s) r := by
  intro d
  induction d with
  | zero =>
   intro m s e hi
   obtain rfl : m = n := by omega
   exact h0 s hi
  | succ d ih =>
   intro m s e hi
   obtain ⟨s', hi', k⟩ := hs m s (by omega) hi
   exact k (ih (m + 1) s' (by omega) hi')
 intro m s hm hi
 exact key (n - m) m s (by omega) hi
theorem rd_nat {xs : List Int} {m : Nat} (h : m < xs.length) : rd xs (m : Int) = xs[m] := by
 unfold rd
 rw [Int.toNat_natCast, List.getD_eq_getElem?_getD, List.getElem?_eq_getElem h]
 rfl
theorem w_succ {m : Nat} (h : m < 9223372036854775807) : wrap64 ((m : Int) + 1) = ((m + 1 : Nat) : Int) := by
 rw [w64 (by omega) (by omega)]
 omega
end Go.Proofs.YtdlnhddpgopghaaDoor.Com
namespace Go.Proofs.YtdlnhddpgopghaaDoor.Com
set_option linter.unusedSimpArgs false
set_option linter.unusedVariables false
open Go.RowKit Go.Proofs.YtdlnhddpgopghaaDoorW.PrintWords Go.Proofs.YtdlnhddpgopghaaDoor.Q
theorem within_tells (x a b : Int) : impl_within.f x a b = some (decide (a ≤ x ∧ x ≤ b)) := by
 unfold impl_within.f
 split <;> simp [*]
theorem in_tells (x a b : Int) : spec_l00In.f x a b = some (decide (a ≤ x ∧ x ≤ b)) := by
 unfold spec_l00In.f
 by_cases h : x ≥ a
 ·have h' : a ≤ x := h
  simp [h, h']
 ·have h' : ¬ a ≤ x := h
  simp [h, h']
end Go.Proofs.YtdlnhddpgopghaaDoor.Com
namespace Go.Proofs.YtdlnhddpgopghaaDoor.Com
set_option linter.unusedSimpArgs false
set_option linter.unusedVariables false
open Go.RowKit Go.Proofs.YtdlnhddpgopghaaDoorW.PrintWords Go.Proofs.YtdlnhddpgopghaaDoor.Q
theorem set_take (xs : List Int) (m : Nat) (h : m < xs.length) : (xs.take m ++ List.replicate (xs.length - m) 0).set m xs[m] = xs.take (m + 1) ++ List.replicate (xs.length - (m + 1)) 0 := by
 have hl : (xs.take m).length = m := by rw [List.length_take]; omega
 rw [List.set_append_right _ _ (by omega), hl, Nat.sub_self]
 obtain ⟨q, hq⟩ : ∃ q, xs.length - m = q + 1 := ⟨xs.length - m - 1, by omega⟩
 rw [hq, List.replicate_succ, List.set_cons_zero, show xs.length - (m + 1) = q by omega, List.take_succ_eq_append_getElem h, List.append_assoc]
 rfl
theorem toInt64S_ev (xs : List Int) (hx : xs.length ≤ 1048576) : Ev (fun k => laws_toInt64S.f k xs) xs := by
 unfold laws_toInt64S.f
 simp only [if_pos (show 0 ≤ (xs.length : Int) by omega), if_pos (show ((xs.length : Int)).toNat ≤ 35184372088832 by omega)]
 have := ev_count xs.length (fun m s k => laws_toInt64S.l0 k xs s (m : Int)) xs (fun m s => s = xs.take m ++ List.replicate (xs.length - m) 0) (fun s hs => ?_) (fun m s hm hs => ⟨xs.take (m + 1) ++ List.replicate (xs.length - (m + 1)) 0, rfl, fun ih => ?_⟩) 0 (List.replicate xs.length 0) (by omega) (by simp)
 ·simpa using this
 ·refine Ev.step (fun k => by rw [laws_toInt64S.l0]) ?_
  simp only [if_neg (show ¬ (xs.length : Int) < (xs.length : Int) by omega)]
  subst hs
  simp
  exact Ev.now _
 ·refine Ev.step (fun k => by rw [laws_toInt64S.l0]) ?_
  subst hs
  have hl : (xs.take m ++ List.replicate (xs.length - m) 0).length = xs.length := by simp; omega
  simp only [if_pos (show (m : Int) < (xs.length : Int) by omega), if_pos (show 0 ≤ (m : Int) by omega), hl, rd_nat hm, Int.toNat_natCast, set_take xs m hm, w_succ (m := m) (by omega)]
  exact ih
theorem eqInt64S_ev (xs ys : List Int) (hx : xs.length ≤ 1048576) : Ev (fun k => laws_eqInt64S.f k xs ys) (decide (xs = ys)) := by
 unfold laws_eqInt64S.f
 by_cases hl : (xs.length : Int) = (ys.length : Int)
 ·simp only [if_pos hl]
  have key : ∀ m, m ≤ xs.length → Ev (fun k => laws_eqInt64S.l0 k xs ys (m : Int)) (decide (xs.drop m = ys.drop m)) := by
   have gen := ev_list xs (fun m k => laws_eqInt64S.l0 k xs ys (m : Int)) (fun l => decide (l = ys.drop (xs.length - l.length))) ?_ ?_
   ·intro m hm
    have := gen m hm
    rwa [List.length_drop, show xs.length - (xs.length - m) = m by omega] at this
   ·refine Ev.step (fun k => by rw [laws_eqInt64S.l0]) ?_
    simp only [if_neg (show ¬ (xs.length : Int) < (xs.length : Int) by omega)]
    have : ys.drop (xs.length - ([] : List Int).length) = [] := by simp; omega
    rw [this]
    exact Ev.now _
   ·intro m hm ih
    refine Ev.step (fun k => by rw [laws_eqInt64S.l0]) ?_
    have hy : m < ys.length := by omega
    simp only [if_pos (show (m : Int) < (xs.length : Int) by omega), if_pos (show 0 ≤ (m : Int) by omega), if_pos (show (m : Int) < (ys.length : Int) by omega), rd_nat hm, rd_nat hy, w_succ (m := m) (by omega)]
    rw [List.length_drop, show xs.length - (xs.length - (m + 1)) = m + 1 by omega] at ih
    have e : xs.length - (xs[m] :: xs.drop (m + 1)).length = m := by simp; omega
    rw [e, List.drop_eq_getElem_cons hy]
    by_cases c : xs[m] = ys[m]
    ·simp only [if_pos c]
     rw [show decide (xs[m] :: xs.drop (m + 1) = ys[m] :: ys.drop (m + 1)) = decide (xs.drop (m + 1) = ys.drop (m + 1)) from decide_eq_decide.2 (by rw [c]; exact ⟨fun h => (List.cons.inj h).2, fun h => by rw [h]⟩)]
     exact ih
    ·simp only [if_neg c]
     rw [decide_eq_false (show ¬ xs[m] :: xs.drop (m + 1) = ys[m] :: ys.drop (m + 1) from fun h => c (List.cons.inj h).1)]
     exact Ev.now _
  have := key 0 (by omega)
  simpa using this
 ·simp only [if_neg hl]
  have : xs ≠ ys := fun e => hl (by rw [e])
  rw [decide_eq_false this]
  exact Ev.now _
theorem sz_tells (xs : List Int) (a : Int) (hx : xs.length ≤ maxLen) (ha : -1 ≤ a ∧ a ≤ 1048576) : laws_szInt64S.f xs a = some (if a - xs.length < 0 then -1 else a - xs.length) := by
 unfold laws_szInt64S.f
 unfold maxLen at hx
 rw [w64 (by omega) (by omega)]
 split <;> rfl
end Go.Proofs.YtdlnhddpgopghaaDoor.Com
namespace Go.Proofs.YtdlnhddpgopghaaDoor.Com
set_option linter.unusedSimpArgs false
set_option linter.unusedVariables false
open Go.RowKit Go.Proofs.YtdlnhddpgopghaaDoorW.PrintWords Go.Proofs.YtdlnhddpgopghaaDoorW.PrintMore
theorem wraps_i64 (n : Int) (h₀ : 0 ≤ n) (h₁ : n < 2 ^ 63) : IntKind.i64.wrap n = n := by rw [IntKind.wrap_i64]; omega
theorem and_nat (a b : Nat) (ha : a < 4096) (hb : b < 4096) : Go.bits .and .i64 (a : Int) (b : Int) = ((a &&& b : Nat) : Int) :=
 (Go.bits_nat .i64 63 (by decide) wraps_i64 a b (by omega) (by omega)).1
theorem uw (n : Int) (h : 0 ≤ n ∧ n ≤ 4096) : IntKind.u64.wrap n = n := by
 simp [IntKind.wrap, IntKind.bits, IntKind.signed]
 omega
def bitAt (s p : Nat) : Nat := s / 2 ^ p % 2
theorem bit_tells (s p : Nat) (hs : s < 4096) (hp : p ≤ 12) : Go.bits .and .i64 (shr .i64 (s : Int) (p : Int)) 1 = ((bitAt s p : Nat) : Int) := by
 have e : shr .i64 (s : Int) (p : Int) = ((s / 2 ^ p : Nat) : Int) := by
  unfold shr
  rw [Int.toNat_natCast, Nat.min_eq_left (by have : IntKind.i64.bits = 64 := rfl; omega)]
  exact_mod_cast rfl
 have hlt : s / 2 ^ p < 4096 := Nat.lt_of_le_of_lt (Nat.div_le_self _ _) hs
 rw [e]
 have := and_nat (s / 2 ^ p) 1 hlt (by omega)
 rw [Nat.and_one_is_mod] at this
 exact this
end Go.Proofs.YtdlnhddpgopghaaDoor.Com
namespace Go.Proofs.YtdlnhddpgopghaaDoor.Com
set_option linter.unusedSimpArgs false
set_option linter.unusedVariables false
open Go.RowKit Go.Proofs.YtdlnhddpgopghaaDoorW.PrintWords Go.Proofs.YtdlnhddpgopghaaDoorW.PrintMore Go.Proofs.YtdlnhddpgopghaaDoor.Q
def full (p : Int) : Int := wrap64 (shl .i64 1 p - 1)
def validSys (p : Int) (l : List Int) : Bool := decide (0 ≤ p ∧ p ≤ 12) && decide ((l.length : Int) ≤ 12) && l.all fun x => decide (0 ≤ x ∧ x ≤ full p)
theorem validSys_of {p : Int} {l : List Int} (h : validSys p l = true) : (∃ q : Nat, p = (q : Int) ∧ q ≤ 12) ∧ l.length ≤ 12 ∧ ∀ x ∈ l, 0 ≤ x ∧ x ≤ full p := by
 unfold validSys at h
 simp only [Bool.and_eq_true, decide_eq_true_eq, List.all_eq_true] at h
 exact ⟨⟨p.toNat, by omega, by omega⟩, by omega, h.2⟩
theorem set_tells (p x : Int) (hp : 0 ≤ p ∧ p ≤ 12) : spec_l10Set.f p x = some (decide (0 ≤ x ∧ x ≤ full p)) := by
 unfold spec_l10Set.f full
 rw [uw p (by omega), if_pos hp.1, in_tells]
 rfl
theorem specIs_ev (p : Int) (l : List Int) (hx : l.length ≤ 1048576) : Ev (fun k => spec_l10Is.f k p l) (validSys p l) := by
 unfold spec_l10Is.f validSys
 simp only [in_tells, Option.bind_some, decide_eq_true_eq]
 have jf : Ev (fun k => spec_l10Is.j0 k true p l) false := Ev.step (fun k => by rw [spec_l10Is.j0]) (by simp only [if_true]; exact Ev.now _)
 by_cases h1 : 0 ≤ p ∧ p ≤ 12
 ·simp only [if_pos h1, decide_eq_true h1, Bool.true_and]
  by_cases h2 : (l.length : Int) ≤ 12
  ·rw [decide_eq_false (show ¬ (l.length : Int) > 12 by omega), decide_eq_true h2, Bool.true_and]
   refine Ev.step (fun k => by rw [spec_l10Is.j0]) ?_
   simp only [Bool.false_eq_true, if_false]
   have gen := ev_list l (fun m k => spec_l10Is.l0 k (m : Int) p l) (fun r => r.all fun x => decide (0 ≤ x ∧ x ≤ full p)) ?_ ?_ 0 (by omega)
   ·exact gen
   ·refine Ev.step (fun k => by rw [spec_l10Is.l0]) ?_
    simp only [if_neg (show ¬ (l.length : Int) < (l.length : Int) by omega)]
    exact Ev.now _
   ·intro m hm ih
    refine Ev.step (fun k => by rw [spec_l10Is.l0]) ?_
    simp only [if_pos (show (m : Int) < (l.length : Int) by omega), if_pos (show 0 ≤ (m : Int) by omega), rd_nat hm, set_tells p _ h1, Option.bind_some, w_succ (m := m) (by omega), decide_eq_true_eq]
    rw [List.all_cons]
    by_cases c : 0 ≤ l[m] ∧ l[m] ≤ full p
    ·simp only [if_pos c, decide_eq_true c, Bool.true_and]
     exact ih
    ·simp only [if_neg c, decide_eq_false c, Bool.false_and]
     exact Ev.now _
  ·rw [decide_eq_true (show (l.length : Int) > 12 by omega), decide_eq_false h2, Bool.false_and]
   exact jf
 ·simp only [if_neg h1, decide_eq_false h1, Bool.false_and]
  exact jf
theorem implValidSys_tells (p : Int) (l : List Int) : impl_ValidSystem.f p l = some (validSys p l) := by
 unfold impl_ValidSystem.f validSys impl_areWithin.f full
 rw [within_tells]
 simp only [Option.bind_some, decide_eq_true_eq]
 by_cases h1 : 0 ≤ p ∧ p ≤ 12
 ·rw [if_pos h1, decide_eq_true h1, if_pos h1.1]
  by_cases h2 : (l.length : Int) ≤ 12
  ·rw [if_pos h2, decide_eq_true h2]
   rfl
  ·rw [if_neg h2, decide_eq_false h2]
   rfl
 ·rw [if_neg h1, decide_eq_false h1]
  rfl
theorem toSystem_ev (p : Int) (l : List Int) (hx : l.length ≤ 1048576) : Ev (fun k => laws_toSystem.f k p l) (p, l) := by
 unfold laws_toSystem.f
 exact Ev.bind (toInt64S_ev l hx) (Ev.now _)
theorem eqSystem_ev (p : Int) (l : List Int) (hx : l.length ≤ 1048576) : Ev (fun k => laws_eqSystem.f k p l p l) true := by
 unfold laws_eqSystem.f
 simp only [if_true]
 refine Ev.bind (eqInt64S_ev l l hx) ?_
 simp
 exact Ev.now _
theorem szSystem_tells (p : Int) (l : List Int) (hx : l.length ≤ maxLen) : (laws_szSystem.f p l 1048576 = some (-1) ∧ ¬ l.length ≤ 1048576) ∨ (∃ t, laws_szSystem.f p l 1048576 = some t ∧ 0 ≤ t ∧ l.length ≤ 1048576) := by
 unfold laws_szSystem.f
 rw [sz_tells l 1048576 hx (by omega), Option.bind_some]
 by_cases h : (1048576 : Int) - l.length < 0
 ·left
  rw [if_pos h]
  exact ⟨rfl, by omega⟩
 ·right
  rw [if_neg h, if_neg h]
  exact ⟨_, rfl, by omega, by omega⟩
end Go.Proofs.YtdlnhddpgopghaaDoor.Com
namespace Go.Proofs.YtdlnhddpgopghaaDoor.Com
set_option linter.unusedSimpArgs false
set_option linter.unusedVariables false
open Go.RowKit Go.Proofs.YtdlnhddpgopghaaDoorW.PrintWords Go.Proofs.YtdlnhddpgopghaaDoorW.PrintMore Go.Proofs.YtdlnhddpgopghaaDoor.Q
def bytesOf (s : List Int) : List UInt8 := s.map fun n => UInt8.ofNat n.toNat
theorem str_bytes (s : List Int) : strOfNums s = ⟨(bytesOf s).toArray⟩ := by
 apply ByteArray.ext
 simp [strOfNums, bytesOf]
theorem str_app (a b : List Int) : strOfNums a ++ strOfNums b = strOfNums (a ++ b) := by
 apply ByteArray.ext
 simp [strOfNums, ByteArray.data_append]
def digs (n : Nat) : List Int := if h : n < 10 then [48 + (n : Int)] else digs (n / 10) ++ [48 + ((n % 10 : Nat) : Int)]
termination_by n
decreasing_by omega
theorem digs_lt {n : Nat} (h : n < 10) : digs n = [48 + (n : Int)] := by rw [digs, dif_pos h]
theorem digs_ge {n : Nat} (h : ¬ n < 10) : digs n = digs (n / 10) ++ [48 + ((n % 10 : Nat) : Int)] := by rw [digs, dif_neg h]
theorem digs_len (d : Nat) : ∀ n, n < 10 ^ (d + 1) → (digs n).length ≤ d + 1 := by
 induction d with
 | zero => intro n h; rw [digs_lt (by simpa using h)]; simp
 | succ d ih =>
  intro n h
  by_cases q : n < 10
  ·rw [digs_lt q]; simp
  ·rw [digs_ge q, List.length_append, List.length_singleton]
   have := ih (n / 10) (by rw [Nat.pow_succ] at h; omega)
   omega
theorem digs_bytes (n : Nat) : Go.Lib.decDigits n = bytesOf (digs n) := by
 induction n using Nat.strongRecOn with
 | _ n ih =>
  rw [Go.Lib.decDigits]
  by_cases q : n < 10
  ·rw [dif_pos q, digs_lt q]
   show [UInt8.ofNat (48 + n)] = [UInt8.ofNat (48 + (n : Int)).toNat]
   rw [show (48 + (n : Int)).toNat = 48 + n by omega]
  ·rw [dif_neg q, digs_ge q, ih (n / 10) (by omega)]
   unfold bytesOf
   rw [List.map_append]
   show _ ++ [UInt8.ofNat (48 + n % 10)] = _ ++ [UInt8.ofNat (48 + ((n % 10 : Nat) : Int)).toNat]
   rw [show (48 + ((n % 10 : Nat) : Int)).toNat = 48 + n % 10 by omega]
theorem specDec_key (d : Nat) : ∀ (n : Nat) (s : List Int) (a : Int), n < 10 ^ (d + 1) → d ≤ 17 → s.length + d ≤ 1000 → 0 ≤ a → Ev (fun k => spec_l01Dec.l0 k a (strOfNums s) (n : Int)) (strOfNums (digs n ++ s)) := by
 induction d with
 | zero =>
  intro n s a h hd hs ha
  have q : n < 10 := by simpa using h
  refine Ev.step (fun k => by rw [spec_l01Dec.l0]) ?_
  rw [tmod_nn (by omega), tdiv_nn (by omega), show (n : Int) % 10 = (n : Int) by omega, show (n : Int) / 10 = 0 by omega, digs_lt q]
  rw [w64 (x := 48 + (n : Int)) (by omega) (by omega), w64 (x := 0) (by omega) (by omega), show (48 + (n : Int)) % 256 = 48 + (n : Int) by omega]
  simp only [if_neg (show ¬ (n : Int) < 0 by omega), Option.bind_some, strOfNums_size, List.length_singleton, if_pos (show 1 + s.length ≤ 9223372036854775807 by omega), if_true, if_neg (show ¬ a < 0 by omega), str_app]
  exact Ev.now _
 | succ d ih =>
  intro n s a h hd hs ha
  refine Ev.step (fun k => by rw [spec_l01Dec.l0]) ?_
  rw [tmod_nn (by omega), tdiv_nn (by omega)]
  have hb : n < 10 ^ 19 := Nat.lt_of_lt_of_le h (Nat.pow_le_pow_right (by omega) (by omega))
  rw [w64 (x := 48 + (n : Int) % 10) (by omega) (by omega), w64 (x := (n : Int) / 10) (by omega) (by omega), show (48 + (n : Int) % 10) % 256 = 48 + (n : Int) % 10 by omega]
  simp only [if_neg (show ¬ (n : Int) % 10 < 0 by omega), Option.bind_some, strOfNums_size, List.length_singleton, if_pos (show 1 + s.length ≤ 9223372036854775807 by omega), if_neg (show ¬ a < 0 by omega), str_app]
  by_cases q : n < 10
  ·simp only [if_pos (show (n : Int) / 10 = 0 by omega)]
   rw [digs_lt q, show (n : Int) % 10 = (n : Int) by omega]
   exact Ev.now _
  ·simp only [if_neg (show ¬ (n : Int) / 10 = 0 by omega)]
   rw [digs_ge q, List.append_assoc]
   have := ih (n / 10) ([48 + ((n % 10 : Nat) : Int)] ++ s) a (by rw [Nat.pow_succ] at h; omega) (by omega) (by rw [List.length_append]; simp; omega) ha
   rw [show ((n / 10 : Nat) : Int) = (n : Int) / 10 by omega, show ((n % 10 : Nat) : Int) = (n : Int) % 10 by omega] at this
   rw [show ((n % 10 : Nat) : Int) = (n : Int) % 10 by omega]
   exact this
theorem specDec_ev (n : Nat) (h : n < 1000000000000000000) : Ev (fun k => spec_l01Dec.f k (n : Int)) (strOfNums (digs n)) := by
 have h18 : n < 10 ^ (17 + 1) := h
 have := specDec_key 17 n [] (n : Int) h18 (by omega) (by simp) (by omega)
 rw [List.append_nil] at this
 exact this
end Go.Proofs.YtdlnhddpgopghaaDoor.Com
namespace Go.Proofs.YtdlnhddpgopghaaDoor.Com
set_option linter.unusedSimpArgs false
set_option linter.unusedVariables false
set_option linter.unusedSectionVars false
open Go.RowKit Go.Proofs.YtdlnhddpgopghaaDoorW.PrintWords Go.Proofs.YtdlnhddpgopghaaDoorW.PrintMore Go.Proofs.YtdlnhddpgopghaaDoor.Q
def hasB (s : Int) (i : Nat) : Bool := decide (Go.bits .and .i64 (shr .i64 s (i : Int)) 1 = 1)
def chars (s : Int) : List Nat → List Int
 | [] => []
 | i :: r => (if hasB s i = true then [97 + (i : Int)] else []) ++ chars s r
theorem chars_len (s : Int) (l : List Nat) : (chars s l).length ≤ l.length := by
 induction l with
 | nil => exact Nat.le_refl _
 | cons i r ih =>
  unfold chars
  rw [List.length_append, List.length_cons]
  split <;> simp <;> omega
theorem hasB_zero (i : Nat) (h : i ≤ 12) : hasB 0 i = false := by
 unfold hasB
 have := bit_tells 0 i (by omega) h
 rw [show ((0 : Nat) : Int) = 0 from rfl] at this
 rw [this]
 simp [bitAt]
theorem chars_zero (l : List Nat) (h : ∀ i ∈ l, i ≤ 12) : chars 0 l = [] := by
 induction l with
 | nil => rfl
 | cons i r ih =>
  unfold chars
  rw [hasB_zero i (h i List.mem_cons_self), ih (fun x hx => h x (List.mem_cons_of_mem _ hx))]
  rfl
def word (P : Nat) (s : Int) : List Int := if s = 0 then [45] else chars s (List.range P)
theorem word_len (P : Nat) (s : Int) (h : P ≤ 12) : (word P s).length ≤ 12 := by
 unfold word
 split
 ·simp
 ·have := chars_len s (List.range P)
  rw [List.length_range] at this
  omega
def rest (P : Nat) : Bool → List Int → List Int
 | _, [] => []
 | f, s :: r => (if f = true then [] else [44]) ++ (word P s ++ rest P false r)
theorem rest_join (P : Nat) (l : List Int) : bytesOf (rest P true l) = Go.Lib.join (l.map fun s => bytesOf (word P s)) [44] := by
 unfold Go.Lib.join
 cases l with
 | nil => rfl
 | cons s r =>
  have key : ∀ (r : List Int) (s : Int), bytesOf (word P s ++ rest P false r) = List.intercalate [44] ((s :: r).map fun s => bytesOf (word P s)) := by
   intro r
   induction r with
   | nil => intro s; simp [rest, bytesOf, List.intercalate]
   | cons t r ih =>
    intro s
    have := ih t
    simp only [rest, Bool.false_eq_true, if_false, List.map_cons] at this ⊢
    rw [show List.intercalate [44] (bytesOf (word P s) :: bytesOf (word P t) :: r.map fun s => bytesOf (word P s)) = bytesOf (word P s) ++ [44] ++ List.intercalate [44] (bytesOf (word P t) :: r.map fun s => bytesOf (word P s)) by simp [List.intercalate]]
    rw [← this]
    simp [bytesOf]
  have := key r s
  simpa [rest] using this
theorem dec12_len (q : Nat) (h : q ≤ 12) : (digs q).length ≤ 2 := digs_len 1 q (by omega)
theorem implDec_tells (q : Nat) (h : q ≤ 12) : impl_Decimal.f (q : Int) = some (strOfNums (digs q)) := by
 unfold impl_Decimal.f
 rw [if_pos (by omega), Int.toNat_natCast, digs_bytes, ← str_bytes]
section
variable {P : Nat} {l : List Int} (hP : P ≤ 12) (hl : l.length ≤ 12)
include hP hl
theorem specChars_ev (m : Nat) (hm : m < l.length) (G : List Int → ByteArray) (s : List Int) (hs : s.length ≤ 1000)
  (cont : ∀ s', s'.length ≤ s.length + 12 → Ev (fun k => spec_l10Text.l0 k (strOfNums s') (wrap64 ((m : Int) + 1)) (P : Int) l) (G s')) :
  Ev (fun k => spec_l10Text.l1 k (strOfNums s) (m : Int) 0 (P : Int) l) (G (s ++ chars l[m] (List.range P))) := by
 have gen := ev_fold (List.range P) (fun j (s : List Int) k => spec_l10Text.l1 k (strOfNums s) (m : Int) (j : Int) (P : Int) l) (fun d s => G (s ++ chars l[m] d)) (fun j t => t.length ≤ s.length + j) ?_ ?_ 0 s (by omega) (by omega)
 ·exact gen
 ·intro s hs
  rw [List.length_range] at hs
  refine Ev.step (fun k => by rw [spec_l10Text.l1]) ?_
  simp only [List.length_range, if_neg (show ¬ (P : Int) < (P : Int) by omega), chars, List.append_nil]
  exact cont s (by omega)
 ·intro j hj s hs ih
  have hj' : j < P := by simpa using hj
  refine Ev.step (fun k => by rw [spec_l10Text.l1]) ?_
  rw [List.getElem_range]
  have hz := strOfNums_size s
  simp only [if_pos (show (j : Int) < (P : Int) by omega), if_pos (show 0 ≤ (m : Int) by omega), if_pos (show (m : Int) < (l.length : Int) by omega), rd_nat hm, uw (j : Int) (by omega), if_pos (show 0 ≤ (j : Int) by omega), w_succ (m := j) (by omega), Option.bind_some]
  unfold chars
  by_cases c : Go.bits .and .i64 (shr .i64 l[m] (j : Int)) 1 = 1
  ·have hb : hasB l[m] j = true := by unfold hasB; exact decide_eq_true c
   rw [w64 (x := 97 + (j : Int)) (by omega) (by omega), show (97 + (j : Int)) % 256 = 97 + (j : Int) by omega]
   simp only [if_pos c, if_pos hb, str_app, strOfNums_size, List.length_singleton, if_pos (show s.length + 1 ≤ 9223372036854775807 by omega)]
   have := ih (s ++ [97 + (j : Int)]) (by rw [List.length_append]; simp; omega)
   rw [List.append_assoc] at this
   exact this
  ·have hb : hasB l[m] j = false := by unfold hasB; exact decide_eq_false c
   simp only [if_neg c, hb, Bool.false_eq_true, if_false, List.nil_append]
   exact ih s (by omega)
theorem specSets_ev (s : List Int) (hs : s.length ≤ 10) : Ev (fun k => spec_l10Text.l0 k (strOfNums s) 0 (P : Int) l) (strOfNums (s ++ rest P true l)) := by
 have gen := ev_fold l (fun m (st : List Int × Bool) k => spec_l10Text.l0 k (strOfNums st.1) (m : Int) (P : Int) l) (fun d st => strOfNums (st.1 ++ rest P st.2 d)) (fun m st => st.1.length ≤ 10 + 20 * m ∧ st.2 = decide (m = 0)) ?_ ?_ 0 (s, true) (by omega) ⟨by simp; omega, rfl⟩
 ·exact gen
 ·rintro ⟨s, f⟩ ⟨hs, _⟩
  refine Ev.step (fun k => by rw [spec_l10Text.l0]) ?_
  simp only [if_neg (show ¬ (l.length : Int) < (l.length : Int) by omega), rest, List.append_nil]
  exact Ev.now _
 ·rintro m hm ⟨s, f⟩ ⟨hs, hf⟩ ih
  simp only at hs hf
  refine Ev.step (fun k => by rw [spec_l10Text.l0]) ?_
  have hz := strOfNums_size s
  simp only [if_pos (show (m : Int) < (l.length : Int) by omega)]
  have j1 : ∀ s1 : List Int, s1.length ≤ 11 + 20 * m → Ev (fun k => spec_l10Text.j1 k (strOfNums s1) (m : Int) (P : Int) l) (strOfNums (s1 ++ (word P l[m] ++ rest P false (l.drop (m + 1))))) := by
   intro s1 h1
   have hz1 := strOfNums_size s1
   refine Ev.step (fun k => by rw [spec_l10Text.j1]) ?_
   simp only [if_pos (show 0 ≤ (m : Int) by omega), if_pos (show (m : Int) < (l.length : Int) by omega), rd_nat hm]
   have j2 : ∀ s2 : List Int, s2.length ≤ 12 + 20 * m → Ev (fun k => spec_l10Text.j2 k (strOfNums s2) (m : Int) (P : Int) l) (strOfNums (s2 ++ chars l[m] (List.range P) ++ rest P false (l.drop (m + 1)))) := by
    intro s2 h2
    refine Ev.step (fun k => by rw [spec_l10Text.j2]) ?_
    exact specChars_ev hP hl m hm (fun s' => strOfNums (s' ++ rest P false (l.drop (m + 1)))) s2 (by omega) (fun s' h' => by
     rw [w_succ (m := m) (by omega)]
     exact ih (s', false) ⟨by simp only; omega, (decide_eq_false (by omega)).symm⟩)
   by_cases c : l[m] = 0
   ·rw [show word P l[m] = [45] by unfold word; rw [if_pos c]]
    simp only [if_pos c, if_pos (show (strOfNums s1).size + 1 ≤ 9223372036854775807 by omega)]
    rw [show strOfNums s1 ++ (⟨#[45]⟩ : ByteArray) = strOfNums (s1 ++ [45]) from by rw [← str_app]; rfl]
    have := j2 (s1 ++ [45]) (by rw [List.length_append]; simp; omega)
    rw [c, chars_zero _ (fun i hi => by have := List.mem_range.1 hi; omega)] at this
    simpa [List.append_assoc] using this
   ·rw [show word P l[m] = chars l[m] (List.range P) by unfold word; rw [if_neg c]]
    simp only [if_neg c]
    have := j2 s1 (by omega)
    rwa [List.append_assoc] at this
  by_cases c : (m : Int) > 0
  ·have hf' : f = false := by rw [hf]; exact decide_eq_false (by omega)
   subst hf'
   simp only [if_pos c, if_pos (show (strOfNums s).size + 1 ≤ 9223372036854775807 by omega), rest, Bool.false_eq_true, if_false]
   rw [show strOfNums s ++ (⟨#[44]⟩ : ByteArray) = strOfNums (s ++ [44]) from by rw [← str_app]; rfl]
   have := j1 (s ++ [44]) (by rw [List.length_append]; simp; omega)
   rwa [List.append_assoc] at this
  ·have hf' : f = true := by rw [hf]; exact decide_eq_true (by omega)
   subst hf'
   simp only [if_neg c, rest, if_true, List.nil_append]
   exact j1 s (by omega)
def wordsOf (P : Nat) (d : List Int) : List ByteArray := d.map fun s => strOfNums (word P s)
theorem words_data (P : Nat) (d : List Int) : (wordsOf P d).map (·.data.toList) = d.map fun s => bytesOf (word P s) := by
 unfold wordsOf
 rw [List.map_map]
 refine List.map_congr_left fun s _ => ?_
 simp [str_bytes]
theorem rest_len (f : Bool) (d : List Int) : (rest P f d).length ≤ 13 * d.length := by
 induction d generalizing f with
 | nil => simp [rest]
 | cons s r ih =>
  have := ih false
  have hw := word_len P s hP
  unfold rest
  rw [List.length_append, List.length_append, List.length_cons]
  split <;> simp <;> omega
theorem implJoin : strings_Join.f (wordsOf P l) (⟨#[44]⟩ : ByteArray) = some (strOfNums (rest P true l)) := by
 unfold strings_Join.f
 rw [words_data hP hl P l, show ((⟨#[44]⟩ : ByteArray).data.toList) = ([44] : List UInt8) from rfl, ← rest_join]
 have h1 := rest_len hP hl true l
 have h2 : (wordsOf P l).length = l.length := by unfold wordsOf; rw [List.length_map]
 have h3 : (bytesOf (rest P true l)).length = (rest P true l).length := by unfold bytesOf; rw [List.length_map]
 rw [if_pos ⟨by omega, by omega⟩, str_bytes]
theorem implChars_ev (m : Nat) (hm : m < l.length) (ws : List ByteArray) (hw : ws.length ≤ 12) (G : ByteArray × Bool)
  (cont : Ev (fun k => impl_SystemText.l0 k (ws ++ [strOfNums (word P l[m])]) l (l.length : Int) (wrap64 ((m : Int) + 1)) (P : Int) l) G) :
  Ev (fun k => impl_SystemText.l1 k ws l[m] [] l (l.length : Int) (m : Int) (P : Int) 0 (P : Int) l) G := by
 have gen := ev_fold (List.range P) (fun j (t : List Int) k => impl_SystemText.l1 k ws l[m] t l (l.length : Int) (m : Int) (P : Int) (j : Int) (P : Int) l) (fun d t => G) (fun j t => t.length ≤ j ∧ t ++ chars l[m] ((List.range P).drop j) = chars l[m] (List.range P)) ?_ ?_ 0 [] (by omega) ⟨by simp, by simp⟩
 ·exact gen
 ·rintro t ⟨ht, he⟩
  refine Ev.step (fun k => by rw [impl_SystemText.l1]) ?_
  rw [List.drop_length, show chars l[m] [] = [] from rfl, List.append_nil] at he
  simp only [List.length_range, if_neg (show ¬ (P : Int) < (P : Int) by omega), if_pos (show ws.length < 8796093022208 by omega)]
  by_cases c : l[m] = 0
  ·simp only [if_pos c]
   rw [show word P l[m] = [45] by unfold word; rw [if_pos c]] at cont
   exact cont
  ·simp only [if_neg c]
   rw [show word P l[m] = chars l[m] (List.range P) by unfold word; rw [if_neg c]] at cont
   rw [he]
   exact cont
 ·rintro j hj t ⟨ht, he⟩ ih
  have hj' : j < P := by simpa using hj
  refine Ev.step (fun k => by rw [impl_SystemText.l1]) ?_
  rw [List.drop_eq_getElem_cons hj, List.getElem_range, show chars l[m] (j :: List.drop (j + 1) (List.range P)) = (if hasB l[m] j = true then [97 + (j : Int)] else []) ++ chars l[m] (List.drop (j + 1) (List.range P)) from rfl] at he
  simp only [if_pos (show (j : Int) < (P : Int) by omega), if_pos (show 0 ≤ (j : Int) by omega), w_succ (m := j) (by omega)]
  by_cases c : Go.bits .and .i64 (shr .i64 l[m] (j : Int)) 1 = 1
  ·have hb : hasB l[m] j = true := by unfold hasB; exact decide_eq_true c
   rw [if_pos hb, ← List.append_assoc] at he
   rw [w64 (x := 97 + (j : Int)) (by omega) (by omega), show (97 + (j : Int)) % 256 = 97 + (j : Int) by omega]
   simp only [if_pos c, if_pos (show t.length < 140737488355328 by omega)]
   exact ih _ ⟨by rw [List.length_append]; simp; omega, he⟩
  ·have hb : hasB l[m] j = false := by unfold hasB; exact decide_eq_false c
   rw [hb] at he
   simp only [Bool.false_eq_true, if_false, List.nil_append] at he
   simp only [if_neg c]
   exact ih _ ⟨by omega, he⟩
theorem implSets_ev : Ev (fun k => impl_SystemText.l0 k [] l (l.length : Int) 0 (P : Int) l) (strOfNums (digs P ++ [58] ++ rest P true l), true) := by
 have h1 := rest_len hP hl true l
 have h2 := dec12_len P hP
 have hd : strOfNums (digs P) ++ (⟨#[58]⟩ : ByteArray) = strOfNums (digs P ++ [58]) := by rw [← str_app]; rfl
 refine ev_fold l (fun m (ws : List ByteArray) k => impl_SystemText.l0 k ws l (l.length : Int) (m : Int) (P : Int) l) (fun d ws => (strOfNums (digs P ++ [58] ++ rest P true l), true)) (fun m ws => ws = wordsOf P (l.take m)) ?_ ?_ 0 [] (by omega) (by simp [wordsOf])
 ·rintro _ rfl
  refine Ev.step (fun k => by rw [impl_SystemText.l0]) ?_
  rw [List.take_length]
  simp only [if_neg (show ¬ (l.length : Int) < (l.length : Int) by omega), implDec_tells P hP, Option.bind_some, strOfNums_size, if_pos (show (digs P).length + 1 ≤ 9223372036854775807 by omega), implJoin hP hl, hd, str_app, List.length_append, List.length_singleton, if_pos (show (digs P).length + 1 + (rest P true l).length ≤ 9223372036854775807 by omega)]
  exact Ev.now _
 ·rintro m hm _ rfl ih
  refine Ev.step (fun k => by rw [impl_SystemText.l0]) ?_
  simp only [if_pos (show (m : Int) < (l.length : Int) by omega), if_pos (show 0 ≤ (m : Int) by omega), rd_nat hm]
  refine implChars_ev hP hl m hm _ (by unfold wordsOf; rw [List.length_map, List.length_take]; omega) _ ?_
  rw [w_succ (m := m) (by omega)]
  refine ih _ ?_
  rw [List.take_succ_eq_append_getElem hm]
  unfold wordsOf
  rw [List.map_append]
  rfl
end
theorem sysText_both (p : Int) (l : List Int) (hx : l.length ≤ 1048576) : ∃ r : ByteArray × Bool, Ev (fun k => spec_SystemText.f k p l) r ∧ Ev (fun k => impl_SystemText.f k p l) r := by
 by_cases v : validSys p l = true
 ·obtain ⟨⟨P, rfl, hP⟩, hl, _⟩ := validSys_of v
  have h2 := dec12_len P hP
  refine ⟨(strOfNums (digs P ++ [58] ++ rest P true l), true), ?_, ?_⟩
  ·unfold spec_SystemText.f
   refine Ev.bind (specIs_ev (P : Int) l hx) ?_
   simp only [v, if_true]
   refine Ev.bind (a := strOfNums (digs P ++ [58] ++ rest P true l)) ?_ (Ev.now _)
   unfold spec_l10Text.f
   refine Ev.bind (specDec_ev P (by omega)) ?_
   simp only [strOfNums_size, if_pos (show (digs P).length + 1 ≤ 9223372036854775807 by omega)]
   rw [show strOfNums (digs P) ++ (⟨#[58]⟩ : ByteArray) = strOfNums (digs P ++ [58]) by rw [← str_app]; rfl]
   exact specSets_ev hP hl _ (by rw [List.length_append]; simp; omega)
  ·unfold impl_SystemText.f
   refine ev_bind' (implValidSys_tells (P : Int) l) ?_
   simp only [v, if_true]
   exact implSets_ev hP hl
 ·have v0 : validSys p l = false := by simpa using v
  refine ⟨((⟨#[]⟩ : ByteArray), false), ?_, ?_⟩
  ·unfold spec_SystemText.f
   refine Ev.bind (specIs_ev p l hx) ?_
   simp only [v0, Bool.false_eq_true, if_false]
   exact Ev.now _
  ·unfold impl_SystemText.f
   refine ev_bind' (implValidSys_tells p l) ?_
   simp only [v0, Bool.false_eq_true, if_false]
   exact Ev.now _
end Go.Proofs.YtdlnhddpgopghaaDoor.Com
namespace Go.Proofs.YtdlnhddpgopghaaDoor.Pure
set_option linter.unusedSimpArgs false
set_option linter.unusedVariables false
open Go.RowKit Go.Proofs.YtdlnhddpgopghaaDoor.Q Go.Proofs.YtdlnhddpgopghaaDoorW.PrintWords Go.Proofs.YtdlnhddpgopghaaDoorW.PrintLast Go.Proofs.YtdlnhddpgopghaaDoor.Com
theorem FnExactSystemText : laws_FnExactSystemText.Pure := by
 intro p l _ hl
 apply ev_of
 unfold laws_FnExactSystemText.f
 rcases szSystem_tells p l hl.1 with ⟨e, _⟩ | ⟨t, e, ht, hx⟩
 ·simp only [e, Option.bind_some, if_pos (show (-1 : Int) < 0 by omega)]
  exact Ev.now _
 ·simp only [e, Option.bind_some, if_neg (show ¬ t < 0 by omega)]
  obtain ⟨r, hs, hi⟩ := sysText_both p l hx
  refine Ev.bind (toSystem_ev p l hx) (Ev.bind hs (Ev.bind (toSystem_ev p l hx) (Ev.bind hi ?_)))
  simp only [if_true, bne_self_eq_false]
  refine Ev.step (fun k => by rw [laws_FnExactSystemText.j0]) ?_
  simp only [Bool.false_eq_true, if_false]
  refine Ev.bind (toSystem_ev p l hx) (Ev.bind (eqSystem_ev p l hx) ?_)
  simp only [if_true]
  exact Ev.now _
end Go.Proofs.YtdlnhddpgopghaaDoor.Pure
