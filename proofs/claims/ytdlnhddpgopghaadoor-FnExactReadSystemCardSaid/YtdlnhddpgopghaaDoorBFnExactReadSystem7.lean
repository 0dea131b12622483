/- The statement FnExactReadSystem, with all that its proof stands on: functions of the program as plain functions, the program's walks, and the plain law. Conditions: none beyond the statement's own. -/
import Derived.ArgAppend
import Derived.Below
import Derived.BigQuiet
import Derived.BigRegion
import Derived.Deep.AppendLies
import Derived.Deep.CutBlock
import Derived.Deep.DeepCutAuto
import Derived.Deep.Draws
import Derived.Deep.LoopGhost
import Derived.Deep.OwnRows
import Derived.Deep.QuietTactic
import Derived.Deep.RegionHeld3
import Derived.KernelRfl
import Derived.Laws.BitsLemmas
import Derived.Laws.BytesArg
import Derived.Laws.IdiomCopy
import Derived.Laws.MakeOwn
import Derived.Laws.OwnMore
import Derived.Laws.Rows
import Derived.Laws.Slices
import Derived.Lib.AppendIntMem
import Derived.Lib.AppendStr
import Derived.Lib.ConvBytes
import Derived.Lib.ParseIntBTie
import Derived.Lib.SlBytesConst
import Derived.Maps.AppendAt
import Derived.OrdersHeld
import Derived.OwnWalk
import Derived.ProofKit
import Derived.RowKit
import Derived.RowKit3
import Derived.Shelf.LaysC
import Derived.Shelf.LaysM
import Derived.Shelf.Strconv.Clone
import Derived.Shelf.Strconv.ErrVarParseInt
import Derived.Shelf.Strconv.Itoa0
import Derived.Shelf.Strconv.Itoa1
import Derived.Shelf.Strconv.Itoa2
import Derived.Shelf.Strconv.Itoa3
import Derived.Shelf.Strconv.Itoa4
import Derived.Shelf.Strconv.Lower
import Derived.Shelf.Strconv.ParseInt10
import Derived.Shelf.Strconv.ParseInt10All
import Derived.Shelf.Strconv.ParseInt10At16
import Derived.Shelf.Strconv.ParseInt10At32
import Derived.Shelf.Strconv.ParseInt10At64
import Derived.Shelf.Strconv.ParseInt10At8
import Derived.Shelf.Strconv.ParseIntEmpty
import Derived.Shelf.Strconv.ParseIntPublic10
import Derived.Shelf.Strconv.ParseUint10
import Derived.Shelf.Strconv.ParseUint10Any
import Derived.Shelf.Strconv.ParseUint10At
import Derived.Shelf.Strconv.ParseUint10Empty
import Derived.Shelf.Strconv.ParseUint10b16
import Derived.Shelf.Strconv.ParseUint10b32
import Derived.Shelf.Strconv.ParseUint10b64
import Derived.Shelf.Strconv.ParseUint10b8
import Derived.Shelf.Strconv.ParseUintEmpty
import Derived.Shelf.Strconv.RangeError
import Derived.Shelf.Strconv.SyntaxError
import Derived.Shelf.Strconv.ToError
import Derived.Shelf.Strconv.ToErrorRange
import Derived.Shelf.Strings.Builder1
import Derived.Shelf.Strings.Builder2
import Derived.Shelf.Strings.Count
import Derived.Shelf.Strings.Cut
import Derived.Shelf.Strings.OnBuilder
import Derived.Shelf.Strings.Search1
import Derived.Shelf.Strings.Search2
import Derived.Shelf.Strings.Search3
import Derived.Shelf.Strings.Shaped
import Derived.Shelf.Unicode.DecodeSlow
import Derived.Sort.OwnSortedInts
import Derived.Tactics
import Derived.Test.YtdlnhddpgopghaaDoorProg
import Derived.WalkKit
import Derived.WalkSmall
import Derived.WideLaws
import Derived.Test.YtdlnhddpgopghaaDoorBFnExactReadSystem0
import Derived.Test.YtdlnhddpgopghaaDoorBFnExactReadSystem1
import Derived.Test.YtdlnhddpgopghaaDoorBFnExactReadSystem2
import Derived.Test.YtdlnhddpgopghaaDoorBFnExactReadSystem3
import Derived.Test.YtdlnhddpgopghaaDoorBFnExactReadSystem4
import Derived.Test.YtdlnhddpgopghaaDoorBFnExactReadSystem5
import Derived.Test.YtdlnhddpgopghaaDoorBFnExactReadSystem6
set_option linter.unusedVariables false
set_option linter.unusedSimpArgs false
namespace Go.Proofs.YtdlnhddpgopghaaDoor.Q
open Go.RowKit Go.Proofs.YtdlnhddpgopghaaDoorW.PrintWords Go.Proofs.YtdlnhddpgopghaaDoorW.PrintLast Go.Proofs.YtdlnhddpgopghaaDoorW.PrintMore
attribute [local go_sem] max2_int min2_int max_two min_two max_three min_three max_four min_four   -- for this text's walks alone
set_option linter.unusedVariables false
set_option linter.unusedSimpArgs false
mutual
def laws_FnExactReadSystem.j0 : Nat → ByteArray → Bool → Bool → Int → List Int → Int → List Int → Option (Bool)
 | 0, _, _, _, _, _, _, _ => none
 | k + 1, x0, x4, x32, x259000, x259001, x265000, x265001 => if x32 = true then (some false) else ((laws_markSystem.f k x265000 x265001 1).bind fun bt266 => ((laws_heldSystem.f k x265000 bt266.2 1).bind fun t268 => (if t268 < 0 then (some false) else (if t268 = bt266.1 then ((impl_ReadSystem.f k x0).bind fun bt269 => ((laws_eqSystem.f k bt269.1 bt269.2.1 x259000 x259001).bind fun t275 => (if t275 = true then (laws_FnExactReadSystem.j1 k bt266.1 (bt269.2.2 != x4) x265000 bt266.2) else (laws_FnExactReadSystem.j1 k bt266.1 true x265000 bt266.2)))) else (some false)))))
def laws_FnExactReadSystem.j1 : Nat → Int → Bool → Int → List Int → Option (Bool)
 | 0, _, _, _, _ => none
 | k + 1, x7, x57, x265000, x265001 => if x57 = true then (some false) else ((laws_heldSystem.f k x265000 x265001 1).bind fun t276 => (if t276 < 0 then (some false) else (if t276 = x7 then (some true) else (some false))))
end
def laws_FnExactReadSystem.f (k : Nat) (a0 : ByteArray) : Option (Bool) := if (a0.size : Int) > 1048576 then (some true) else ((spec_ReadSystem.f k a0).bind fun bt253 => ((impl_ReadSystem.f k a0).bind fun bt259 => ((laws_eqSystem.f k bt259.1 bt259.2.1 bt253.1 bt253.2.1).bind fun t265 => (if t265 = true then (laws_FnExactReadSystem.j0 k a0 bt253.2.2 (bt259.2.2 != bt253.2.2) bt253.1 bt253.2.1 bt259.1 bt259.2.1) else (laws_FnExactReadSystem.j0 k a0 bt253.2.2 true bt253.1 bt253.2.1 bt259.1 bt259.2.1)))))
theorem laws_FnExactReadSystem.mono_l : ∀ k, (∀ y0 y1 y2 y3 y4 y5 y6, LeO (laws_FnExactReadSystem.j0 k y0 y1 y2 y3 y4 y5 y6) (laws_FnExactReadSystem.j0 (k + 1) y0 y1 y2 y3 y4 y5 y6)) ∧ (∀ y0 y1 y2 y3, LeO (laws_FnExactReadSystem.j1 k y0 y1 y2 y3) (laws_FnExactReadSystem.j1 (k + 1) y0 y1 y2 y3))
 | 0 => ⟨fun _ _ _ _ _ _ _ r h => by simp [laws_FnExactReadSystem.j0] at h, fun _ _ _ _ r h => by simp [laws_FnExactReadSystem.j1] at h⟩
 | k + 1 => by
  obtain ⟨ih0, ih1⟩ := laws_FnExactReadSystem.mono_l k
  refine ⟨?_, ?_⟩
  ·intro y0 y1 y2 y3 y4 y5 y6
   unfold laws_FnExactReadSystem.j0
   repeat' first
   | (with_reducible exact ih0 _ _ _ _ _ _ _)
   | (with_reducible exact ih1 _ _ _ _)
   | (with_reducible exact impl_ReadSystem.mono _ _)
   | (with_reducible exact laws_eqSystem.mono _ _ _ _ _)
   | (with_reducible exact laws_heldSystem.mono _ _ _ _)
   | (with_reducible exact laws_markSystem.mono _ _ _ _)
   | (with_reducible exact spec_ReadSystem.mono _ _)
   | (with_reducible exact LeO.refl _)
   | (with_reducible exact LeO.none _)
   | (with_reducible refine LeO.ite ?_ ?_)
   | (with_reducible refine LeO.bind ?_ (fun _ => ?_))
   | exact ih0 _ _ _ _ _ _ _
   | exact ih1 _ _ _ _
   | exact impl_ReadSystem.mono _ _
   | exact laws_eqSystem.mono _ _ _ _ _
   | exact laws_heldSystem.mono _ _ _ _
   | exact laws_markSystem.mono _ _ _ _
   | exact spec_ReadSystem.mono _ _
   | exact LeO.none _
   | refine LeO.ite ?_ ?_
   | refine LeO.bind ?_ (fun _ => ?_)
  ·intro y0 y1 y2 y3
   unfold laws_FnExactReadSystem.j1
   repeat' first
   | (with_reducible exact ih0 _ _ _ _ _ _ _)
   | (with_reducible exact ih1 _ _ _ _)
   | (with_reducible exact impl_ReadSystem.mono _ _)
   | (with_reducible exact laws_eqSystem.mono _ _ _ _ _)
   | (with_reducible exact laws_heldSystem.mono _ _ _ _)
   | (with_reducible exact laws_markSystem.mono _ _ _ _)
   | (with_reducible exact spec_ReadSystem.mono _ _)
   | (with_reducible exact LeO.refl _)
   | (with_reducible exact LeO.none _)
   | (with_reducible refine LeO.ite ?_ ?_)
   | (with_reducible refine LeO.bind ?_ (fun _ => ?_))
   | exact ih0 _ _ _ _ _ _ _
   | exact ih1 _ _ _ _
   | exact impl_ReadSystem.mono _ _
   | exact laws_eqSystem.mono _ _ _ _ _
   | exact laws_heldSystem.mono _ _ _ _
   | exact laws_markSystem.mono _ _ _ _
   | exact spec_ReadSystem.mono _ _
   | exact LeO.none _
   | refine LeO.ite ?_ ?_
   | refine LeO.bind ?_ (fun _ => ?_)
theorem laws_FnExactReadSystem.mono : ∀ a0 k, LeO (laws_FnExactReadSystem.f k a0) (laws_FnExactReadSystem.f (k + 1) a0) := by
 intro a0 k
 obtain ⟨ih0, ih1⟩ := laws_FnExactReadSystem.mono_l k
 unfold laws_FnExactReadSystem.f
 repeat' first
   | (with_reducible exact ih0 _ _ _ _ _ _ _)
   | (with_reducible exact ih1 _ _ _ _)
   | (with_reducible exact impl_ReadSystem.mono _ _)
   | (with_reducible exact laws_eqSystem.mono _ _ _ _ _)
   | (with_reducible exact laws_heldSystem.mono _ _ _ _)
   | (with_reducible exact laws_markSystem.mono _ _ _ _)
   | (with_reducible exact spec_ReadSystem.mono _ _)
   | (with_reducible exact LeO.refl _)
   | (with_reducible exact LeO.none _)
   | (with_reducible refine LeO.ite ?_ ?_)
   | (with_reducible refine LeO.bind ?_ (fun _ => ?_))
   | exact ih0 _ _ _ _ _ _ _
   | exact ih1 _ _ _ _
   | exact impl_ReadSystem.mono _ _
   | exact laws_eqSystem.mono _ _ _ _ _
   | exact laws_heldSystem.mono _ _ _ _
   | exact laws_markSystem.mono _ _ _ _
   | exact spec_ReadSystem.mono _ _
   | exact LeO.none _
   | refine LeO.ite ?_ ?_
   | refine LeO.bind ?_ (fun _ => ?_)
set_option maxHeartbeats 8000000 in
set_option maxRecDepth 100000 in
theorem laws_FnExactReadSystem.calls (k : Nat) (a0 : ByteArray) (r : Bool) (w : World) (h : laws_FnExactReadSystem.f k a0 = some r) (hT_ : RdTab w) :
  Calls Tryd.prog 4 #[.string a0] w fun e w' => e = .returned (.bool r) ∧ Below w.heap.size w w' := by
 have HTX := Aside0.mk hT_
 clear hT_
 have hu28 := Tryd.underlying28
 have HB := Aside0.mk (Below.refl w.heap.size w)
 have H : (if (a0.size : Int) > 1048576 then (some true) else ((spec_ReadSystem.f k a0).bind fun bt253 => ((impl_ReadSystem.f k a0).bind fun bt259 => ((laws_eqSystem.f k bt259.1 bt259.2.1 bt253.1 bt253.2.1).bind fun t265 => (if t265 = true then (laws_FnExactReadSystem.j0 k a0 bt253.2.2 (bt259.2.2 != bt253.2.2) bt253.1 bt253.2.1 bt259.1 bt259.2.1) else (laws_FnExactReadSystem.j0 k a0 bt253.2.2 true bt253.1 bt253.2.1 bt259.1 bt259.2.1)))))) = some r := h
 clear h
 by_cases c2 : (a0.size : Int) > 1048576
 ·rw [if_pos c2] at H
  have c2b0 : decide (1048576 < (a0.size : Int)) = true := decide_eq_true c2
  have c2b1 : decide (1048576 < a0.size) = true := decide_eq_true (by omega)
  clear c2
  obtain rfl := Option.some.inj H
  go_enter Tryd.func4, Tryd.ntmps4
  go_wp2
  go_ret
  exact ⟨by first | rfl | (simp [errW_none, errW_some] <;> rfl) | (simp [*, errW_none, errW_some] <;> rfl), by repeat (first | (with_reducible first | exact HB.out | apply below_alloc | apply pw_below_drewN | apply below_drew1) | exact HB.out)⟩
 ·rw [if_neg c2] at H
  have c2b0 : decide (1048576 < (a0.size : Int)) = false := decide_eq_false c2
  have c2b1 : decide (1048576 < a0.size) = false := decide_eq_false (by omega)
  clear c2
  replace H := Option.bind_eq_some_iff.mp H
  obtain ⟨⟨t253, t254, t257⟩, A30, H⟩ := H
  replace H : ((impl_ReadSystem.f k a0).bind fun bt259 => ((laws_eqSystem.f k bt259.1 bt259.2.1 t253 t254).bind fun t265 => (if t265 = true then (laws_FnExactReadSystem.j0 k a0 t257 (bt259.2.2 != t257) t253 t254 bt259.1 bt259.2.1) else (laws_FnExactReadSystem.j0 k a0 t257 true t253 t254 bt259.1 bt259.2.1)))) = some r := H
  have A3 := Aside0.mk A30
  clear A30
  replace H := Option.bind_eq_some_iff.mp H
  obtain ⟨⟨t259, t260, t263⟩, A40, H⟩ := H
  replace H : ((laws_eqSystem.f k t259 t260 t253 t254).bind fun t265 => (if t265 = true then (laws_FnExactReadSystem.j0 k a0 t257 (t263 != t257) t253 t254 t259 t260) else (laws_FnExactReadSystem.j0 k a0 t257 true t253 t254 t259 t260))) = some r := H
  have A4 := Aside0.mk A40
  clear A40
  have HC5 := Aside0.mk H
  clear H
  go_enter Tryd.func4, Tryd.ntmps4
  go_upto_region 5 with (first | ((with_reducible refine gate_callee (f := 11) rfl ?_); refine goesL_ (some 16) rfl rfl Tryd.func11 (by kernel_rfl) rfl #[.string a0] rfl (by (try simp only [List.map_toArray, List.map_cons, List.map_nil]); first | done | rfl | (simp only [List.length_drop, List.length_take]; rfl) | (simp only [show ∀ (n_ : Nat) (b_ : Int), Int.tdiv (n_ : Int) b_ = (n_ : Int) / b_ from fun n_ b_ => Int.tdiv_eq_ediv_of_nonneg (Int.natCast_nonneg n_)]; rfl)) ?_; (with_reducible refine (spec_ReadSystem.calls k a0 t253 t254 t257 _ A3.out).mono ?_); rintro e w6 ⟨v255, rfl, ho0, hb⟩; refine ⟨_, rfl, ?_⟩; have n0_ := Aside0.mk (Kd.R_lower ho0 (below_size (by repeat (first | (with_reducible first | exact HB.out | apply below_alloc | apply pw_below_drewN | apply below_drew1) | exact HB.out)))); have n1_ := Aside0.mk (below_step (by repeat (first | (with_reducible first | exact HB.out | apply below_alloc | apply pw_below_drewN | apply below_drew1) | exact HB.out)) hb); clear HB; have HO256 := n0_; have HB := n1_; clear n0_ n1_; (try clear hb); (try clear hb2); (try clear hk); (try clear hi); (try clear ho0)) | ((with_reducible refine gate_dst (N := 3) rfl ?_); refine box_event ?hg (N := 3) ?hd (cs := #[.int .i64 0, .slice none 0 0]) (t := 28) ?hr ?_; (case hd => rfl); (case hg => rfl); (case hr => first | (go_simp; done) | (go_simp; rfl)); intro gb258 hg w7 hbox hb; have n0_ := Aside0.mk (Kd.R_below (by (with_reducible repeat (first | apply Kd.R_alloc | apply Kd.R_drewN | apply Kd.R_drew)); exact HO256.out) hb); have n1_ := Aside0.mk (below_step (by repeat (first | (with_reducible first | exact HB.out | apply below_alloc | apply pw_below_drewN | apply below_drew1) | exact HB.out)) hb); have n2_ := Aside0.mk (hbox); have n3_ := Aside0.mk ((by rw [hg]; exact (below_size (by repeat (first | (with_reducible first | exact HB.out | apply below_alloc | apply pw_below_drewN | apply below_drew1) | exact HB.out))) : w.heap.size ≤ gb258)); have n4_ := Aside0.mk ((by rw [hg]; exact (below_size (by repeat (first | (with_reducible first | exact HB.out | apply below_alloc | apply pw_below_drewN | apply below_drew1) | exact HB.out))) : w.heap.size ≤ gb258)); clear HO256; clear HB; have HO256 := n0_; have HB := n1_; have BK258 := n2_; have GW258 := n3_; have GE258 := n4_; clear n0_ n1_ n2_ n3_ n4_; clear hb hbox hg; have hcz8_0 : w7.cell? ⟨gb258, 0, none⟩ = some (.int .i64 0) := (blk_cell BK258.out 0).trans rfl; have hcz8_1 : w7.cell? ⟨gb258, 1, none⟩ = some (.slice none 0 0) := (blk_cell BK258.out 1).trans rfl; have hfz8_0 := blk_frozen BK258.out 0; have hfz8_1 := blk_frozen BK258.out 1; obtain ⟨Ao9, co9, eo9⟩ := Kd.R_slice HO256.out; subst eo9) | ((with_reducible refine gate_callee (f := 12) rfl ?_); refine goesL_ (some 21) rfl rfl Tryd.func12 (by kernel_rfl) rfl #[.string a0] rfl (by (try simp only [List.map_toArray, List.map_cons, List.map_nil]); first | done | rfl | (simp only [List.length_drop, List.length_take]; rfl) | (simp only [show ∀ (n_ : Nat) (b_ : Int), Int.tdiv (n_ : Int) b_ = (n_ : Int) / b_ from fun n_ b_ => Int.tdiv_eq_ediv_of_nonneg (Int.natCast_nonneg n_)]; rfl)) ?_; (with_reducible refine (impl_ReadSystem.calls k a0 t259 t260 t263 _ A4.out ?sideT).mono ?_); (case sideT => exact RdTab.below HTX.out (by repeat (first | (with_reducible first | exact HB.out | apply below_alloc | apply pw_below_drewN | apply below_drew1 | refine below_set ?_ GE258.out) | exact HB.out))); rintro e w10 ⟨v261, rfl, ho0, hb⟩; refine ⟨_, rfl, ?_⟩; have n0_ := Aside0.mk (Kd.R_elder' (by (with_reducible repeat (first | apply Kd.R_alloc | apply Kd.R_drewN | apply Kd.R_drew)); exact (Kd.R_mono (Kd.R_far (p := ⟨gb258, 1, none⟩) (Kd.R_far (p := ⟨gb258, 0, none⟩) (Kd.R_types HO256.out BK258.out (by decide)) (fun _ hk => hk.2) (.int .i64 t253)) (fun _ hk => hk.2) (.slice Ao9 t254.length co9)) (fun _ h_ => h_.1))) (Kd.R_base ho0) hb); have n1_ := Aside0.mk (Kd.R_lower (Kd.R_new' ho0 (Kd.R_lt (by (with_reducible repeat (first | apply Kd.R_alloc | apply Kd.R_drewN | apply Kd.R_drew)); exact (Kd.R_mono (Kd.R_far (p := ⟨gb258, 1, none⟩) (Kd.R_far (p := ⟨gb258, 0, none⟩) (Kd.R_types HO256.out BK258.out (by decide)) (fun _ hk => hk.2) (.int .i64 t253)) (fun _ hk => hk.2) (.slice Ao9 t254.length co9)) (fun _ h_ => h_.1))))) (below_size (by repeat (first | (with_reducible first | exact HB.out | apply below_alloc | apply pw_below_drewN | apply below_drew1 | refine below_set ?_ GE258.out) | exact HB.out)))); have n2_ := Aside0.mk (blk_below (g := gb258) (o := .cells #[.int .i64 t253, .slice Ao9 t254.length co9] 28 (0, 0)) (by (with_reducible repeat (first | refine blk_drewN ?_ _ | refine blk_drew ?_ | refine blk_alloc ?_ _)); refine blk_put (cs := #[.int .i64 t253, .slice none 0 0]) ?_ 1 _ rfl; (with_reducible repeat (first | refine blk_drewN ?_ _ | refine blk_drew ?_ | refine blk_alloc ?_ _)); refine blk_put (cs := #[.int .i64 0, .slice none 0 0]) ?_ 0 _ rfl; (with_reducible repeat (first | refine blk_drewN ?_ _ | refine blk_drew ?_ | refine blk_alloc ?_ _)); exact BK258.out) hb); have n3_ := Aside0.mk (below_step (by repeat (first | (with_reducible first | exact HB.out | apply below_alloc | apply pw_below_drewN | apply below_drew1 | refine below_set ?_ GE258.out) | exact HB.out)) hb); clear HO256; clear BK258; clear HB; have HO256 := n0_; have HO262 := n1_; have BK258 := n2_; have HB := n3_; clear n0_ n1_ n2_ n3_; (try clear hb); (try clear hb2); (try clear hk); (try clear hi); (try clear ho0)) | ((with_reducible refine gate_dst (N := 5) rfl ?_); refine box_event ?hg (N := 5) ?hd (cs := #[.int .i64 0, .slice none 0 0]) (t := 28) ?hr ?_; (case hd => rfl); (case hg => rfl); (case hr => first | (go_simp; done) | (go_simp; rfl)); intro gb264 hg w11 hbox hb; have n0_ := Aside0.mk (Kd.R_below (by (with_reducible repeat (first | apply Kd.R_alloc | apply Kd.R_drewN | apply Kd.R_drew)); exact HO256.out) hb); have n1_ := Aside0.mk (Kd.R_below (by (with_reducible repeat (first | apply Kd.R_alloc | apply Kd.R_drewN | apply Kd.R_drew)); exact HO262.out) hb); have n2_ := Aside0.mk (blk_below (g := gb258) (o := .cells #[.int .i64 t253, .slice Ao9 t254.length co9] 28 (0, 0)) (by (with_reducible repeat (first | refine blk_drewN ?_ _ | refine blk_drew ?_ | refine blk_alloc ?_ _)); exact BK258.out) hb); have n3_ := Aside0.mk (below_step (by repeat (first | (with_reducible first | exact HB.out | apply below_alloc | apply pw_below_drewN | apply below_drew1 | refine below_set ?_ GE258.out) | exact HB.out)) hb); have n4_ := Aside0.mk (hbox); have n5_ := Aside0.mk ((by rw [hg]; exact (below_size (by repeat (first | (with_reducible first | exact HB.out | apply below_alloc | apply pw_below_drewN | apply below_drew1 | refine below_set ?_ GE258.out) | exact HB.out))) : w.heap.size ≤ gb264)); have n6_ := Aside0.mk ((by rw [hg]; exact (below_size (by repeat (first | (with_reducible first | exact HB.out | apply below_alloc | apply pw_below_drewN | apply below_drew1 | refine below_set ?_ GE258.out) | exact HB.out))) : w.heap.size ≤ gb264)); have n7_ := Aside0.mk ((by rw [hg]; exact Nat.ne_of_lt (blk_lt (g := gb258) (o := .cells #[.int .i64 t253, .slice Ao9 t254.length co9] 28 (0, 0)) (by (with_reducible repeat (first | refine blk_drewN ?_ _ | refine blk_drew ?_ | refine blk_alloc ?_ _)); exact BK258.out)) : gb258 ≠ gb264)); have n8_ := Aside0.mk ((by rw [hg]; exact Nat.ne_of_gt (blk_lt (g := gb258) (o := .cells #[.int .i64 t253, .slice Ao9 t254.length co9] 28 (0, 0)) (by (with_reducible repeat (first | refine blk_drewN ?_ _ | refine blk_drew ?_ | refine blk_alloc ?_ _)); exact BK258.out)) : gb264 ≠ gb258)); clear HO256; clear HO262; clear BK258; clear HB; have HO256 := n0_; have HO262 := n1_; have BK258 := n2_; have HB := n3_; have BK264 := n4_; have GW264 := n5_; have GE264 := n6_; have NB258_264 := n7_; have NB264_258 := n8_; clear n0_ n1_ n2_ n3_ n4_ n5_ n6_ n7_ n8_; clear hb hbox hg; have hnb12 := NB264_258.out; have hnc12 := NB258_264.out; have hcz13_0 : w11.cell? ⟨gb264, 0, none⟩ = some (.int .i64 0) := (blk_cell BK264.out 0).trans rfl; have hcz13_1 : w11.cell? ⟨gb264, 1, none⟩ = some (.slice none 0 0) := (blk_cell BK264.out 1).trans rfl; have hfz13_0 := blk_frozen BK264.out 0; have hfz13_1 := blk_frozen BK264.out 1; obtain ⟨Ao14, co14, eo14⟩ := Kd.R_slice HO262.out; subst eo14))
  (try simp only [Act.put, List.setIfInBounds_toArray, List.set_cons_zero, List.set_cons_succ])
  go_cut [32] (fun v32 wc => ∃ (kq : Nat) (x32_4 : Bool), v32 = .bool x32_4 ∧ Aside0 (laws_FnExactReadSystem.j0 kq a0 t257 x32_4 t253 t254 t259 t260 = some r) ∧ Aside0 (kq ≤ k) ∧ Aside0 (Kd.R (Kd.int .i64) 2 wc w.heap.size (fun k_ => some k_ ≠ ((.slice Ao14 t260.length co14) : Value).ownBlock) (.slice Ao9 t254.length co9) t254) ∧ Aside0 (Kd.R (Kd.int .i64) 2 wc w.heap.size (fun k_ => some k_ ≠ ((.slice Ao9 t254.length co9) : Value).ownBlock) (.slice Ao14 t260.length co14) t260) ∧ Aside0 (wc.heap[gb258]? = some (.cells #[.int .i64 t253, (.slice Ao9 t254.length co9)] 28 (0, 0))) ∧ Aside0 (wc.heap[gb264]? = some (.cells #[.int .i64 t259, (.slice Ao14 t260.length co14)] 28 (0, 0))) ∧ Aside0 (Below w.heap.size w wc))
  case first =>
   have H := HC5.out
   clear HC5
   replace H := Option.bind_eq_some_iff.mp H
   obtain ⟨t265, A150, H⟩ := H
   replace H : (if t265 = true then (laws_FnExactReadSystem.j0 k a0 t257 (t263 != t257) t253 t254 t259 t260) else (laws_FnExactReadSystem.j0 k a0 t257 true t253 t254 t259 t260)) = some r := H
   have A15 := Aside0.mk A150
   clear A150
   by_cases c16 : t265 = true
   ·subst c16
    have H1 : (laws_FnExactReadSystem.j0 k a0 t257 (t263 != t257) t253 t254 t259 t260) = some r := by rw [if_pos rfl] at H; exact H
    clear H
    have H := H1
    clear H1
    have H' := Aside0.mk H
    clear H
    have hnb17 := NB264_258.out
    have hnc17 := NB258_264.out
    have hcz18_0 : w11.cell? ⟨gb264, 0, none⟩ = some (.int .i64 0) := (blk_cell BK264.out 0).trans rfl
    have hcz18_1 : w11.cell? ⟨gb264, 1, none⟩ = some (.slice none 0 0) := (blk_cell BK264.out 1).trans rfl
    have hfz18_0 := blk_frozen BK264.out 0
    have hfz18_1 := blk_frozen BK264.out 1
    have hcz19_0 : w11.cell? ⟨gb258, 0, none⟩ = some (.int .i64 t253) := (blk_cell BK258.out 0).trans rfl
    have hcz19_1 : w11.cell? ⟨gb258, 1, none⟩ = some (.slice Ao9 t254.length co9) := (blk_cell BK258.out 1).trans rfl
    have hfz19_0 := blk_frozen BK258.out 0
    have hfz19_1 := blk_frozen BK258.out 1
    go_wp2_with (first | ((with_reducible refine gate_callee (f := 10) rfl ?_); refine goesL_ (some 26) rfl rfl Tryd.func10 (by kernel_rfl) rfl #[.agg #[.int .i64 t259, .slice Ao14 t260.length co14], .agg #[.int .i64 t253, .slice Ao9 t254.length co9]] rfl (by (try simp only [List.map_toArray, List.map_cons, List.map_nil]); first | done | rfl | (simp only [List.length_drop, List.length_take]; rfl) | (simp only [show ∀ (n_ : Nat) (b_ : Int), Int.tdiv (n_ : Int) b_ = (n_ : Int) / b_ from fun n_ b_ => Int.tdiv_eq_ediv_of_nonneg (Int.natCast_nonneg n_)]; rfl)) ?_; (with_reducible refine (laws_eqSystem.calls k t259 _ _ t260 t253 _ _ t254 true _ ?side1 ?side2 ?side3 ?side4 A15.out).mono ?_); (case side1 => refine (Kd.R_reads' (e := 2) (base := w.heap.size) (ok := fun k_ => (True ∧ some k_ ≠ (.slice Ao9 t254.length co9 : Value).ownBlock)) (n := t260.length) (c := co14) ?_).2.2; exact (by (with_reducible repeat (first | apply Kd.R_alloc | apply Kd.R_drewN | apply Kd.R_drew)); exact (Kd.R_mono (Kd.R_far (p := ⟨gb264, 1, none⟩) (Kd.R_far (p := ⟨gb264, 0, none⟩) (Kd.R_types HO262.out BK264.out (by decide)) (fun _ hk => hk.2) (.int .i64 t259)) (fun _ hk => hk.2) (.slice Ao14 t260.length co14)) (fun _ h_ => h_.1)))); (case side2 => exact (Kd.R_reads' HO262.out).2.1); (case side3 => refine (Kd.R_reads' (e := 2) (base := w.heap.size) (ok := fun k_ => (True ∧ some k_ ≠ (.slice Ao14 t260.length co14 : Value).ownBlock)) (n := t254.length) (c := co9) ?_).2.2; exact (by (with_reducible repeat (first | apply Kd.R_alloc | apply Kd.R_drewN | apply Kd.R_drew)); exact (Kd.R_mono (Kd.R_far (p := ⟨gb264, 1, none⟩) (Kd.R_far (p := ⟨gb264, 0, none⟩) (Kd.R_types HO256.out BK264.out (by decide)) (fun _ hk => hk.2) (.int .i64 t259)) (fun _ hk => hk.2) (.slice Ao14 t260.length co14)) (fun _ h_ => h_.1)))); (case side4 => exact (Kd.R_reads' HO256.out).2.1); rintro e w20 ⟨rfl, hb⟩; refine ⟨_, rfl, ?_⟩; have n0_ := Aside0.mk (Kd.R_below (by (with_reducible repeat (first | apply Kd.R_alloc | apply Kd.R_drewN | apply Kd.R_drew)); exact (Kd.R_mono (Kd.R_far (p := ⟨gb264, 1, none⟩) (Kd.R_far (p := ⟨gb264, 0, none⟩) (Kd.R_types HO256.out BK264.out (by decide)) (fun _ hk => hk.2) (.int .i64 t259)) (fun _ hk => hk.2) (.slice Ao14 t260.length co14)) (fun _ h_ => h_.1))) hb); have n1_ := Aside0.mk (Kd.R_below (by (with_reducible repeat (first | apply Kd.R_alloc | apply Kd.R_drewN | apply Kd.R_drew)); exact (Kd.R_mono (Kd.R_far (p := ⟨gb264, 1, none⟩) (Kd.R_far (p := ⟨gb264, 0, none⟩) (Kd.R_types HO262.out BK264.out (by decide)) (fun _ hk => hk.2) (.int .i64 t259)) (fun _ hk => hk.2) (.slice Ao14 t260.length co14)) (fun _ h_ => h_.1))) hb); have n2_ := Aside0.mk (blk_below (g := gb258) (o := .cells #[.int .i64 t253, .slice Ao9 t254.length co9] 28 (0, 0)) (by (with_reducible repeat (first | refine blk_drewN ?_ _ | refine blk_drew ?_ | refine blk_alloc ?_ _)); refine blk_far ?_ NB258_264.out _; (with_reducible repeat (first | refine blk_drewN ?_ _ | refine blk_drew ?_ | refine blk_alloc ?_ _)); refine blk_far ?_ NB258_264.out _; (with_reducible repeat (first | refine blk_drewN ?_ _ | refine blk_drew ?_ | refine blk_alloc ?_ _)); exact BK258.out) hb); have n3_ := Aside0.mk (blk_below (g := gb264) (o := .cells #[.int .i64 t259, .slice Ao14 t260.length co14] 28 (0, 0)) (by (with_reducible repeat (first | refine blk_drewN ?_ _ | refine blk_drew ?_ | refine blk_alloc ?_ _)); refine blk_put (cs := #[.int .i64 t259, .slice none 0 0]) ?_ 1 _ rfl; (with_reducible repeat (first | refine blk_drewN ?_ _ | refine blk_drew ?_ | refine blk_alloc ?_ _)); refine blk_put (cs := #[.int .i64 0, .slice none 0 0]) ?_ 0 _ rfl; (with_reducible repeat (first | refine blk_drewN ?_ _ | refine blk_drew ?_ | refine blk_alloc ?_ _)); exact BK264.out) hb); have n4_ := Aside0.mk (below_step (by repeat (first | (with_reducible first | exact HB.out | apply below_alloc | apply pw_below_drewN | apply below_drew1 | refine below_set ?_ GE258.out | refine below_set ?_ GE264.out) | exact HB.out)) hb); clear HO256; clear HO262; clear BK258; clear BK264; clear HB; have HO256 := n0_; have HO262 := n1_; have BK258 := n2_; have BK264 := n3_; have HB := n4_; clear n0_ n1_ n2_ n3_ n4_; (try clear hb); (try clear hb2); (try clear hk); (try clear hi)))
    go_meet
    case rel => exact ⟨_, ((t263 != t257)), (by first | rfl | (simp; done) | (simp [*]; done)), H', ⟨by first | omega | exact Nat.le_refl _⟩, ⟨by (with_reducible repeat (first | apply Kd.R_alloc | apply Kd.R_drewN | apply Kd.R_drew)); exact Kd.R_mono HO256.out (fun _ hk => hk.2)⟩, ⟨by (with_reducible repeat (first | apply Kd.R_alloc | apply Kd.R_drewN | apply Kd.R_drew)); exact Kd.R_mono HO262.out (fun _ hk => hk.2)⟩, ⟨by (with_reducible repeat (first | refine blk_drewN ?_ _ | refine blk_drew ?_ | refine blk_alloc ?_ _)); exact BK258.out⟩, ⟨by (with_reducible repeat (first | refine blk_drewN ?_ _ | refine blk_drew ?_ | refine blk_alloc ?_ _)); exact BK264.out⟩, ⟨by repeat (first | (with_reducible first | exact HB.out | apply below_alloc | apply pw_below_drewN | apply below_drew1 | refine below_set ?_ GE258.out | refine below_set ?_ GE264.out) | exact HB.out)⟩⟩
   ·replace c16 := Bool.eq_false_iff.mpr c16
    subst c16
    have H1 : (laws_FnExactReadSystem.j0 k a0 t257 true t253 t254 t259 t260) = some r := by rw [if_neg (show ¬ (false = true) by decide)] at H; exact H
    clear H
    have H := H1
    clear H1
    have H' := Aside0.mk H
    clear H
    have hnb21 := NB264_258.out
    have hnc21 := NB258_264.out
    have hcz22_0 : w11.cell? ⟨gb264, 0, none⟩ = some (.int .i64 0) := (blk_cell BK264.out 0).trans rfl
    have hcz22_1 : w11.cell? ⟨gb264, 1, none⟩ = some (.slice none 0 0) := (blk_cell BK264.out 1).trans rfl
    have hfz22_0 := blk_frozen BK264.out 0
    have hfz22_1 := blk_frozen BK264.out 1
    have hcz23_0 : w11.cell? ⟨gb258, 0, none⟩ = some (.int .i64 t253) := (blk_cell BK258.out 0).trans rfl
    have hcz23_1 : w11.cell? ⟨gb258, 1, none⟩ = some (.slice Ao9 t254.length co9) := (blk_cell BK258.out 1).trans rfl
    have hfz23_0 := blk_frozen BK258.out 0
    have hfz23_1 := blk_frozen BK258.out 1
    go_wp2_with (first | ((with_reducible refine gate_callee (f := 10) rfl ?_); refine goesL_ (some 26) rfl rfl Tryd.func10 (by kernel_rfl) rfl #[.agg #[.int .i64 t259, .slice Ao14 t260.length co14], .agg #[.int .i64 t253, .slice Ao9 t254.length co9]] rfl (by (try simp only [List.map_toArray, List.map_cons, List.map_nil]); first | done | rfl | (simp only [List.length_drop, List.length_take]; rfl) | (simp only [show ∀ (n_ : Nat) (b_ : Int), Int.tdiv (n_ : Int) b_ = (n_ : Int) / b_ from fun n_ b_ => Int.tdiv_eq_ediv_of_nonneg (Int.natCast_nonneg n_)]; rfl)) ?_; (with_reducible refine (laws_eqSystem.calls k t259 _ _ t260 t253 _ _ t254 false _ ?side1 ?side2 ?side3 ?side4 A15.out).mono ?_); (case side1 => refine (Kd.R_reads' (e := 2) (base := w.heap.size) (ok := fun k_ => (True ∧ some k_ ≠ (.slice Ao9 t254.length co9 : Value).ownBlock)) (n := t260.length) (c := co14) ?_).2.2; exact (by (with_reducible repeat (first | apply Kd.R_alloc | apply Kd.R_drewN | apply Kd.R_drew)); exact (Kd.R_mono (Kd.R_far (p := ⟨gb264, 1, none⟩) (Kd.R_far (p := ⟨gb264, 0, none⟩) (Kd.R_types HO262.out BK264.out (by decide)) (fun _ hk => hk.2) (.int .i64 t259)) (fun _ hk => hk.2) (.slice Ao14 t260.length co14)) (fun _ h_ => h_.1)))); (case side2 => exact (Kd.R_reads' HO262.out).2.1); (case side3 => refine (Kd.R_reads' (e := 2) (base := w.heap.size) (ok := fun k_ => (True ∧ some k_ ≠ (.slice Ao14 t260.length co14 : Value).ownBlock)) (n := t254.length) (c := co9) ?_).2.2; exact (by (with_reducible repeat (first | apply Kd.R_alloc | apply Kd.R_drewN | apply Kd.R_drew)); exact (Kd.R_mono (Kd.R_far (p := ⟨gb264, 1, none⟩) (Kd.R_far (p := ⟨gb264, 0, none⟩) (Kd.R_types HO256.out BK264.out (by decide)) (fun _ hk => hk.2) (.int .i64 t259)) (fun _ hk => hk.2) (.slice Ao14 t260.length co14)) (fun _ h_ => h_.1)))); (case side4 => exact (Kd.R_reads' HO256.out).2.1); rintro e w24 ⟨rfl, hb⟩; refine ⟨_, rfl, ?_⟩; have n0_ := Aside0.mk (Kd.R_below (by (with_reducible repeat (first | apply Kd.R_alloc | apply Kd.R_drewN | apply Kd.R_drew)); exact (Kd.R_mono (Kd.R_far (p := ⟨gb264, 1, none⟩) (Kd.R_far (p := ⟨gb264, 0, none⟩) (Kd.R_types HO256.out BK264.out (by decide)) (fun _ hk => hk.2) (.int .i64 t259)) (fun _ hk => hk.2) (.slice Ao14 t260.length co14)) (fun _ h_ => h_.1))) hb); have n1_ := Aside0.mk (Kd.R_below (by (with_reducible repeat (first | apply Kd.R_alloc | apply Kd.R_drewN | apply Kd.R_drew)); exact (Kd.R_mono (Kd.R_far (p := ⟨gb264, 1, none⟩) (Kd.R_far (p := ⟨gb264, 0, none⟩) (Kd.R_types HO262.out BK264.out (by decide)) (fun _ hk => hk.2) (.int .i64 t259)) (fun _ hk => hk.2) (.slice Ao14 t260.length co14)) (fun _ h_ => h_.1))) hb); have n2_ := Aside0.mk (blk_below (g := gb258) (o := .cells #[.int .i64 t253, .slice Ao9 t254.length co9] 28 (0, 0)) (by (with_reducible repeat (first | refine blk_drewN ?_ _ | refine blk_drew ?_ | refine blk_alloc ?_ _)); refine blk_far ?_ NB258_264.out _; (with_reducible repeat (first | refine blk_drewN ?_ _ | refine blk_drew ?_ | refine blk_alloc ?_ _)); refine blk_far ?_ NB258_264.out _; (with_reducible repeat (first | refine blk_drewN ?_ _ | refine blk_drew ?_ | refine blk_alloc ?_ _)); exact BK258.out) hb); have n3_ := Aside0.mk (blk_below (g := gb264) (o := .cells #[.int .i64 t259, .slice Ao14 t260.length co14] 28 (0, 0)) (by (with_reducible repeat (first | refine blk_drewN ?_ _ | refine blk_drew ?_ | refine blk_alloc ?_ _)); refine blk_put (cs := #[.int .i64 t259, .slice none 0 0]) ?_ 1 _ rfl; (with_reducible repeat (first | refine blk_drewN ?_ _ | refine blk_drew ?_ | refine blk_alloc ?_ _)); refine blk_put (cs := #[.int .i64 0, .slice none 0 0]) ?_ 0 _ rfl; (with_reducible repeat (first | refine blk_drewN ?_ _ | refine blk_drew ?_ | refine blk_alloc ?_ _)); exact BK264.out) hb); have n4_ := Aside0.mk (below_step (by repeat (first | (with_reducible first | exact HB.out | apply below_alloc | apply pw_below_drewN | apply below_drew1 | refine below_set ?_ GE258.out | refine below_set ?_ GE264.out) | exact HB.out)) hb); clear HO256; clear HO262; clear BK258; clear BK264; clear HB; have HO256 := n0_; have HO262 := n1_; have BK258 := n2_; have BK264 := n3_; have HB := n4_; clear n0_ n1_ n2_ n3_ n4_; (try clear hb); (try clear hb2); (try clear hk); (try clear hi)))
    go_meet
    case rel => exact ⟨_, (true), (by first | rfl | (simp; done) | (simp [*]; done)), H', ⟨by first | omega | exact Nat.le_refl _⟩, ⟨by (with_reducible repeat (first | apply Kd.R_alloc | apply Kd.R_drewN | apply Kd.R_drew)); exact Kd.R_mono HO256.out (fun _ hk => hk.2)⟩, ⟨by (with_reducible repeat (first | apply Kd.R_alloc | apply Kd.R_drewN | apply Kd.R_drew)); exact Kd.R_mono HO262.out (fun _ hk => hk.2)⟩, ⟨by (with_reducible repeat (first | refine blk_drewN ?_ _ | refine blk_drew ?_ | refine blk_alloc ?_ _)); exact BK258.out⟩, ⟨by (with_reducible repeat (first | refine blk_drewN ?_ _ | refine blk_drew ?_ | refine blk_alloc ?_ _)); exact BK264.out⟩, ⟨by repeat (first | (with_reducible first | exact HB.out | apply below_alloc | apply pw_below_drewN | apply below_drew1 | refine below_set ?_ GE258.out | refine below_set ?_ GE264.out) | exact HB.out)⟩⟩
  case rest =>
   clear HC5
   try clear c1
   try clear c2
   try clear c2b0
   try clear c2b1
   try clear p2
   try clear c4
   try clear c10
   try clear c11
   try clear c12
   try clear c16
   try clear c17
   try clear c21
   try clear hcz13_0
   try clear hcz13_1
   try clear hcz18_0
   try clear hcz18_1
   try clear hcz19_0
   try clear hcz19_1
   try clear hcz22_0
   try clear hcz22_1
   try clear hcz23_0
   try clear hcz23_1
   try clear hcz8_0
   try clear hcz8_1
   try clear hfz13_0
   try clear hfz13_1
   try clear hfz18_0
   try clear hfz18_1
   try clear hfz19_0
   try clear hfz19_1
   try clear hfz22_0
   try clear hfz22_1
   try clear hfz23_0
   try clear hfz23_1
   try clear hfz8_0
   try clear hfz8_1
   obtain ⟨kq, x32_4, rfl, HA, HJ4, HO_259001, HO_265001, BK258, BK264, HB⟩ := hcut
   cases kq with
   | zero => exact absurd HA.out (by simp [laws_FnExactReadSystem.j0])
   | succ kj4 =>
    have H := HA.out
    clear HA
    simp only [laws_FnExactReadSystem.j0] at H
    by_cases c25 : x32_4 = true
    ·subst c25
     have H1 : (some false) = some r := by rw [if_pos rfl] at H; exact H
     clear H
     have H := H1
     clear H1
     obtain rfl := Option.some.inj H
     go_wp2
     go_ret
     exact ⟨by first | rfl | (simp [errW_none, errW_some] <;> rfl) | (simp [*, errW_none, errW_some] <;> rfl), by repeat (first | (with_reducible first | exact HB.out | apply below_alloc | apply pw_below_drewN | apply below_drew1 | refine below_set ?_ GE258.out | refine below_set ?_ GE264.out) | exact HB.out)⟩
    ·replace c25 := Bool.eq_false_iff.mpr c25
     subst c25
     have H1 : ((laws_markSystem.f kj4 t259 t260 1).bind fun bt266 => ((laws_heldSystem.f kj4 t259 bt266.2 1).bind fun t268 => (if t268 < 0 then (some false) else (if t268 = bt266.1 then ((impl_ReadSystem.f kj4 a0).bind fun bt269 => ((laws_eqSystem.f kj4 bt269.1 bt269.2.1 t253 t254).bind fun t275 => (if t275 = true then (laws_FnExactReadSystem.j1 kj4 bt266.1 (bt269.2.2 != t257) t259 bt266.2) else (laws_FnExactReadSystem.j1 kj4 bt266.1 true t259 bt266.2)))) else (some false))))) = some r := by rw [if_neg (show ¬ (false = true) by decide)] at H; exact H
     clear H
     have H := H1
     clear H1
     replace H := Option.bind_eq_some_iff.mp H
     obtain ⟨⟨t266, t267⟩, A260, H⟩ := H
     replace H : ((laws_heldSystem.f kj4 t259 t267 1).bind fun t268 => (if t268 < 0 then (some false) else (if t268 = t266 then ((impl_ReadSystem.f kj4 a0).bind fun bt269 => ((laws_eqSystem.f kj4 bt269.1 bt269.2.1 t253 t254).bind fun t275 => (if t275 = true then (laws_FnExactReadSystem.j1 kj4 t266 (bt269.2.2 != t257) t259 t267) else (laws_FnExactReadSystem.j1 kj4 t266 true t259 t267)))) else (some false)))) = some r := H
     have A26 := Aside0.mk A260
     clear A260
     replace H := Option.bind_eq_some_iff.mp H
     obtain ⟨t268, A270, H⟩ := H
     replace H : (if t268 < 0 then (some false) else (if t268 = t266 then ((impl_ReadSystem.f kj4 a0).bind fun bt269 => ((laws_eqSystem.f kj4 bt269.1 bt269.2.1 t253 t254).bind fun t275 => (if t275 = true then (laws_FnExactReadSystem.j1 kj4 t266 (bt269.2.2 != t257) t259 t267) else (laws_FnExactReadSystem.j1 kj4 t266 true t259 t267)))) else (some false))) = some r := H
     have A27 := Aside0.mk A270
     clear A270
     by_cases c28 : t268 < 0
     ·rw [if_pos c28] at H
      have c28b0 : decide (t268 < 0) = true := decide_eq_true c28
      clear c28
      obtain rfl := Option.some.inj H
      have hnb29 := NB264_258.out
      have hnc29 := NB258_264.out
      have hcz30_0 : wc.cell? ⟨gb264, 0, none⟩ = some (.int .i64 t259) := (blk_cell BK264.out 0).trans rfl
      have hcz30_1 : wc.cell? ⟨gb264, 1, none⟩ = some (.slice Ao14 t260.length co14) := (blk_cell BK264.out 1).trans rfl
      have hfz30_0 := blk_frozen BK264.out 0
      have hfz30_1 := blk_frozen BK264.out 1
      go_wp2_with (first | ((with_reducible refine gate_callee (f := 13) rfl ?_); refine goesL_ (some 35) rfl rfl Tryd.func13 (by kernel_rfl) rfl #[.agg #[.int .i64 t259, .slice Ao14 t260.length co14], .int .i64 1] rfl (by (try simp only [List.map_toArray, List.map_cons, List.map_nil]); first | done | rfl | (simp only [List.length_drop, List.length_take]; rfl) | (simp only [show ∀ (n_ : Nat) (b_ : Int), Int.tdiv (n_ : Int) b_ = (n_ : Int) / b_ from fun n_ b_ => Int.tdiv_eq_ediv_of_nonneg (Int.natCast_nonneg n_)]; rfl)) ?_; (with_reducible refine (laws_markSystem.calls kj4 t259 (fun k_ => some k_ = (.slice Ao14 t260.length co14 : Value).ownBlock) (.slice Ao14 t260.length co14) t260 1 t266 t267 w _ ?side1 ?side2 A26.out).mono ?_); (case side1 => repeat (first | (with_reducible first | exact HB.out | apply below_alloc | apply pw_below_drewN | apply below_drew1 | refine below_set ?_ GE258.out | refine below_set ?_ GE264.out) | exact HB.out)); (case side2 => exact Kd.R_tight rfl HO_265001.out); rintro e w31 ⟨rfl, hy0, hb, hkp⟩; refine ⟨_, rfl, ?_⟩; have n0_ := Aside0.mk (Kd.R_mono (ok' := fun k_ => some k_ ≠ (.slice Ao14 t260.length co14 : Value).ownBlock) (Kd.R_keptB (HO_259001.out) hkp (fun k_ hk_ hs_ => (hk_) hs_)) (fun k_ hk_ => hk_.1)); have n1_ := Aside0.mk (Kd.R_reok rfl hy0 (fun k_ e_ => HO_265001.out.1 k_ e_)); have n2_ := Aside0.mk (blk_kept (by (with_reducible repeat (first | refine blk_drewN ?_ _ | refine blk_drew ?_ | refine blk_alloc ?_ _)); exact BK258.out) hkp (fun hs_ => (fun e_ => (Kd.R_ne HO_265001.out BK258.out (by decide)) e_) hs_)); have n3_ := Aside0.mk (blk_kept (by (with_reducible repeat (first | refine blk_drewN ?_ _ | refine blk_drew ?_ | refine blk_alloc ?_ _)); exact BK264.out) hkp (fun hs_ => (fun e_ => (Kd.R_ne HO_265001.out BK264.out (by decide)) e_) hs_)); have n4_ := Aside0.mk (hb); clear HO_259001; clear HO_265001; clear BK258; clear BK264; clear HB; have HO_259001 := n0_; have HO_265001 := n1_; have BK258 := n2_; have BK264 := n3_; have HB := n4_; clear n0_ n1_ n2_ n3_ n4_; (try clear hb); (try clear hkp); (try clear hy0); have hcz32_0 : w31.cell? ⟨gb264, 0, none⟩ = some (.int .i64 t259) := (blk_cell BK264.out 0).trans rfl; have hcz32_1 : w31.cell? ⟨gb264, 1, none⟩ = some (.slice Ao14 t260.length co14) := (blk_cell BK264.out 1).trans rfl; have hfz32_0 := blk_frozen BK264.out 0; have hfz32_1 := blk_frozen BK264.out 1) | ((with_reducible refine gate_callee (f := 14) rfl ?_); refine goesL_ (some 38) rfl rfl Tryd.func14 (by kernel_rfl) rfl #[.agg #[.int .i64 t259, .slice Ao14 t267.length co14], .int .i64 1] rfl (by (try simp only [List.map_toArray, List.map_cons, List.map_nil]); first | done | (rw [show t267.length = t260.length from (Kd.R_reads' HO_265001.out).1.symm] <;> rfl) | rfl | (simp only [List.length_drop, List.length_take]; rfl)) ?_; (with_reducible refine (laws_heldSystem.calls kj4 t259 _ _ t267 1 t268 _ ?side1 ?side2 A27.out).mono ?_); (case side1 => repeat (first | exact (Kd.R_reads' HO_265001.out).2.2 | (with_reducible refine Kd.C_alloc ?_ _) | (with_reducible refine Kd.C_drewN ?_ _) | (with_reducible refine Kd.C_drew ?_))); (case side2 => rw [show t267.length = t260.length from (Kd.R_reads' HO_265001.out).1.symm]; exact (Kd.R_reads' HO_265001.out).2.1); rintro e w33 ⟨rfl, hb⟩; refine ⟨_, rfl, ?_⟩; have n0_ := Aside0.mk (Kd.R_below (by (with_reducible repeat (first | apply Kd.R_alloc | apply Kd.R_drewN | apply Kd.R_drew)); exact HO_259001.out) hb); have n1_ := Aside0.mk (Kd.R_below (by (with_reducible repeat (first | apply Kd.R_alloc | apply Kd.R_drewN | apply Kd.R_drew)); exact HO_265001.out) hb); have n2_ := Aside0.mk (blk_below (g := gb258) (o := .cells #[.int .i64 t253, .slice Ao9 t254.length co9] 28 (0, 0)) (by (with_reducible repeat (first | refine blk_drewN ?_ _ | refine blk_drew ?_ | refine blk_alloc ?_ _)); exact BK258.out) hb); have n3_ := Aside0.mk (blk_below (g := gb264) (o := .cells #[.int .i64 t259, .slice Ao14 t260.length co14] 28 (0, 0)) (by (with_reducible repeat (first | refine blk_drewN ?_ _ | refine blk_drew ?_ | refine blk_alloc ?_ _)); exact BK264.out) hb); have n4_ := Aside0.mk (below_step (by repeat (first | (with_reducible first | exact HB.out | apply below_alloc | apply pw_below_drewN | apply below_drew1 | refine below_set ?_ GE258.out | refine below_set ?_ GE264.out) | exact HB.out)) hb); clear HO_259001; clear HO_265001; clear BK258; clear BK264; clear HB; have HO_259001 := n0_; have HO_265001 := n1_; have BK258 := n2_; have BK264 := n3_; have HB := n4_; clear n0_ n1_ n2_ n3_ n4_; (try clear hb); (try clear hb2); (try clear hk); (try clear hi)))
      go_ret
      exact ⟨by first | rfl | (simp [errW_none, errW_some] <;> rfl) | (simp [*, errW_none, errW_some] <;> rfl), by repeat (first | (with_reducible first | exact HB.out | apply below_alloc | apply pw_below_drewN | apply below_drew1 | refine below_set ?_ GE258.out | refine below_set ?_ GE264.out) | exact HB.out)⟩
     ·rw [if_neg c28] at H
      have c28b0 : decide (t268 < 0) = false := decide_eq_false c28
      clear c28
      by_cases c34 : t268 = t266
      ·rw [if_pos c34] at H
       have c34b0 : (t268 == t266) = true := beq_iff_eq.mpr c34
       have c34b1 : (t268 != t266) = false := bne_eq_false_iff_eq.mpr c34
       clear c34
       replace H := Option.bind_eq_some_iff.mp H
       obtain ⟨⟨t269, t270, t273⟩, A350, H⟩ := H
       replace H : ((laws_eqSystem.f kj4 t269 t270 t253 t254).bind fun t275 => (if t275 = true then (laws_FnExactReadSystem.j1 kj4 t266 (t273 != t257) t259 t267) else (laws_FnExactReadSystem.j1 kj4 t266 true t259 t267))) = some r := H
       have A35 := Aside0.mk A350
       clear A350
       have HC36 := Aside0.mk H
       clear H
       have hnb37 := NB264_258.out
       have hnc37 := NB258_264.out
       have hcz38_0 : wc.cell? ⟨gb264, 0, none⟩ = some (.int .i64 t259) := (blk_cell BK264.out 0).trans rfl
       have hcz38_1 : wc.cell? ⟨gb264, 1, none⟩ = some (.slice Ao14 t260.length co14) := (blk_cell BK264.out 1).trans rfl
       have hfz38_0 := blk_frozen BK264.out 0
       have hfz38_1 := blk_frozen BK264.out 1
       go_upto_region 16 with (first | ((with_reducible refine gate_callee (f := 13) rfl ?_); refine goesL_ (some 35) rfl rfl Tryd.func13 (by kernel_rfl) rfl #[.agg #[.int .i64 t259, .slice Ao14 t260.length co14], .int .i64 1] rfl (by (try simp only [List.map_toArray, List.map_cons, List.map_nil]); first | done | rfl | (simp only [List.length_drop, List.length_take]; rfl) | (simp only [show ∀ (n_ : Nat) (b_ : Int), Int.tdiv (n_ : Int) b_ = (n_ : Int) / b_ from fun n_ b_ => Int.tdiv_eq_ediv_of_nonneg (Int.natCast_nonneg n_)]; rfl)) ?_; (with_reducible refine (laws_markSystem.calls kj4 t259 (fun k_ => some k_ = (.slice Ao14 t260.length co14 : Value).ownBlock) (.slice Ao14 t260.length co14) t260 1 t266 t267 w _ ?side1 ?side2 A26.out).mono ?_); (case side1 => repeat (first | (with_reducible first | exact HB.out | apply below_alloc | apply pw_below_drewN | apply below_drew1 | refine below_set ?_ GE258.out | refine below_set ?_ GE264.out) | exact HB.out)); (case side2 => exact Kd.R_tight rfl HO_265001.out); rintro e w39 ⟨rfl, hy0, hb, hkp⟩; refine ⟨_, rfl, ?_⟩; have n0_ := Aside0.mk (Kd.R_mono (ok' := fun k_ => some k_ ≠ (.slice Ao14 t260.length co14 : Value).ownBlock) (Kd.R_keptB (HO_259001.out) hkp (fun k_ hk_ hs_ => (hk_) hs_)) (fun k_ hk_ => hk_.1)); have n1_ := Aside0.mk (Kd.R_reok rfl hy0 (fun k_ e_ => HO_265001.out.1 k_ e_)); have n2_ := Aside0.mk (blk_kept (by (with_reducible repeat (first | refine blk_drewN ?_ _ | refine blk_drew ?_ | refine blk_alloc ?_ _)); exact BK258.out) hkp (fun hs_ => (fun e_ => (Kd.R_ne HO_265001.out BK258.out (by decide)) e_) hs_)); have n3_ := Aside0.mk (blk_kept (by (with_reducible repeat (first | refine blk_drewN ?_ _ | refine blk_drew ?_ | refine blk_alloc ?_ _)); exact BK264.out) hkp (fun hs_ => (fun e_ => (Kd.R_ne HO_265001.out BK264.out (by decide)) e_) hs_)); have n4_ := Aside0.mk (hb); clear HO_259001; clear HO_265001; clear BK258; clear BK264; clear HB; have HO_259001 := n0_; have HO_265001 := n1_; have BK258 := n2_; have BK264 := n3_; have HB := n4_; clear n0_ n1_ n2_ n3_ n4_; (try clear hb); (try clear hkp); (try clear hy0); have hcz40_0 : w39.cell? ⟨gb264, 0, none⟩ = some (.int .i64 t259) := (blk_cell BK264.out 0).trans rfl; have hcz40_1 : w39.cell? ⟨gb264, 1, none⟩ = some (.slice Ao14 t260.length co14) := (blk_cell BK264.out 1).trans rfl; have hfz40_0 := blk_frozen BK264.out 0; have hfz40_1 := blk_frozen BK264.out 1) | ((with_reducible refine gate_callee (f := 14) rfl ?_); refine goesL_ (some 38) rfl rfl Tryd.func14 (by kernel_rfl) rfl #[.agg #[.int .i64 t259, .slice Ao14 t267.length co14], .int .i64 1] rfl (by (try simp only [List.map_toArray, List.map_cons, List.map_nil]); first | done | (rw [show t267.length = t260.length from (Kd.R_reads' HO_265001.out).1.symm] <;> rfl) | rfl | (simp only [List.length_drop, List.length_take]; rfl)) ?_; (with_reducible refine (laws_heldSystem.calls kj4 t259 _ _ t267 1 t268 _ ?side1 ?side2 A27.out).mono ?_); (case side1 => repeat (first | exact (Kd.R_reads' HO_265001.out).2.2 | (with_reducible refine Kd.C_alloc ?_ _) | (with_reducible refine Kd.C_drewN ?_ _) | (with_reducible refine Kd.C_drew ?_))); (case side2 => rw [show t267.length = t260.length from (Kd.R_reads' HO_265001.out).1.symm]; exact (Kd.R_reads' HO_265001.out).2.1); rintro e w41 ⟨rfl, hb⟩; refine ⟨_, rfl, ?_⟩; have n0_ := Aside0.mk (Kd.R_below (by (with_reducible repeat (first | apply Kd.R_alloc | apply Kd.R_drewN | apply Kd.R_drew)); exact HO_259001.out) hb); have n1_ := Aside0.mk (Kd.R_below (by (with_reducible repeat (first | apply Kd.R_alloc | apply Kd.R_drewN | apply Kd.R_drew)); exact HO_265001.out) hb); have n2_ := Aside0.mk (blk_below (g := gb258) (o := .cells #[.int .i64 t253, .slice Ao9 t254.length co9] 28 (0, 0)) (by (with_reducible repeat (first | refine blk_drewN ?_ _ | refine blk_drew ?_ | refine blk_alloc ?_ _)); exact BK258.out) hb); have n3_ := Aside0.mk (blk_below (g := gb264) (o := .cells #[.int .i64 t259, .slice Ao14 t260.length co14] 28 (0, 0)) (by (with_reducible repeat (first | refine blk_drewN ?_ _ | refine blk_drew ?_ | refine blk_alloc ?_ _)); exact BK264.out) hb); have n4_ := Aside0.mk (below_step (by repeat (first | (with_reducible first | exact HB.out | apply below_alloc | apply pw_below_drewN | apply below_drew1 | refine below_set ?_ GE258.out | refine below_set ?_ GE264.out) | exact HB.out)) hb); clear HO_259001; clear HO_265001; clear BK258; clear BK264; clear HB; have HO_259001 := n0_; have HO_265001 := n1_; have BK258 := n2_; have BK264 := n3_; have HB := n4_; clear n0_ n1_ n2_ n3_ n4_; (try clear hb); (try clear hb2); (try clear hk); (try clear hi)) | ((with_reducible refine gate_callee (f := 12) rfl ?_); refine goesL_ (some 46) rfl rfl Tryd.func12 (by kernel_rfl) rfl #[.string a0] rfl (by (try simp only [List.map_toArray, List.map_cons, List.map_nil]); first | done | rfl | (simp only [List.length_drop, List.length_take]; rfl) | (simp only [show ∀ (n_ : Nat) (b_ : Int), Int.tdiv (n_ : Int) b_ = (n_ : Int) / b_ from fun n_ b_ => Int.tdiv_eq_ediv_of_nonneg (Int.natCast_nonneg n_)]; rfl)) ?_; (with_reducible refine (impl_ReadSystem.calls kj4 a0 t269 t270 t273 _ A35.out ?sideT).mono ?_); (case sideT => exact RdTab.below HTX.out (by repeat (first | (with_reducible first | exact HB.out | apply below_alloc | apply pw_below_drewN | apply below_drew1 | refine below_set ?_ GE258.out | refine below_set ?_ GE264.out) | exact HB.out))); rintro e w42 ⟨v271, rfl, ho0, hb⟩; refine ⟨_, rfl, ?_⟩; have n0_ := Aside0.mk (Kd.R_elder' (by (with_reducible repeat (first | apply Kd.R_alloc | apply Kd.R_drewN | apply Kd.R_drew)); exact HO_259001.out) (Kd.R_base ho0) hb); have n1_ := Aside0.mk (Kd.R_elder' (by (with_reducible repeat (first | apply Kd.R_alloc | apply Kd.R_drewN | apply Kd.R_drew)); exact HO_265001.out) (Kd.R_base ho0) hb); have n2_ := Aside0.mk (Kd.R_lower (Kd.R_new' (Kd.R_new' ho0 (Kd.R_lt (by (with_reducible repeat (first | apply Kd.R_alloc | apply Kd.R_drewN | apply Kd.R_drew)); exact HO_259001.out))) (Kd.R_lt (by (with_reducible repeat (first | apply Kd.R_alloc | apply Kd.R_drewN | apply Kd.R_drew)); exact HO_265001.out))) (below_size (by repeat (first | (with_reducible first | exact HB.out | apply below_alloc | apply pw_below_drewN | apply below_drew1 | refine below_set ?_ GE258.out | refine below_set ?_ GE264.out) | exact HB.out)))); have n3_ := Aside0.mk (blk_below (g := gb258) (o := .cells #[.int .i64 t253, .slice Ao9 t254.length co9] 28 (0, 0)) (by (with_reducible repeat (first | refine blk_drewN ?_ _ | refine blk_drew ?_ | refine blk_alloc ?_ _)); exact BK258.out) hb); have n4_ := Aside0.mk (blk_below (g := gb264) (o := .cells #[.int .i64 t259, .slice Ao14 t260.length co14] 28 (0, 0)) (by (with_reducible repeat (first | refine blk_drewN ?_ _ | refine blk_drew ?_ | refine blk_alloc ?_ _)); exact BK264.out) hb); have n5_ := Aside0.mk (below_step (by repeat (first | (with_reducible first | exact HB.out | apply below_alloc | apply pw_below_drewN | apply below_drew1 | refine below_set ?_ GE258.out | refine below_set ?_ GE264.out) | exact HB.out)) hb); clear HO_259001; clear HO_265001; clear BK258; clear BK264; clear HB; have HO_259001 := n0_; have HO_265001 := n1_; have HO272 := n2_; have BK258 := n3_; have BK264 := n4_; have HB := n5_; clear n0_ n1_ n2_ n3_ n4_ n5_; (try clear hb); (try clear hb2); (try clear hk); (try clear hi); (try clear ho0)) | ((with_reducible refine gate_dst (N := 9) rfl ?_); refine box_event ?hg (N := 9) ?hd (cs := #[.int .i64 0, .slice none 0 0]) (t := 28) ?hr ?_; (case hd => rfl); (case hg => rfl); (case hr => first | (go_simp; done) | (go_simp; rfl)); intro gb274 hg w43 hbox hb; have n0_ := Aside0.mk (Kd.R_below (by (with_reducible repeat (first | apply Kd.R_alloc | apply Kd.R_drewN | apply Kd.R_drew)); exact HO_259001.out) hb); have n1_ := Aside0.mk (Kd.R_below (by (with_reducible repeat (first | apply Kd.R_alloc | apply Kd.R_drewN | apply Kd.R_drew)); exact HO_265001.out) hb); have n2_ := Aside0.mk (Kd.R_below (by (with_reducible repeat (first | apply Kd.R_alloc | apply Kd.R_drewN | apply Kd.R_drew)); exact HO272.out) hb); have n3_ := Aside0.mk (blk_below (g := gb258) (o := .cells #[.int .i64 t253, .slice Ao9 t254.length co9] 28 (0, 0)) (by (with_reducible repeat (first | refine blk_drewN ?_ _ | refine blk_drew ?_ | refine blk_alloc ?_ _)); exact BK258.out) hb); have n4_ := Aside0.mk (blk_below (g := gb264) (o := .cells #[.int .i64 t259, .slice Ao14 t260.length co14] 28 (0, 0)) (by (with_reducible repeat (first | refine blk_drewN ?_ _ | refine blk_drew ?_ | refine blk_alloc ?_ _)); exact BK264.out) hb); have n5_ := Aside0.mk (below_step (by repeat (first | (with_reducible first | exact HB.out | apply below_alloc | apply pw_below_drewN | apply below_drew1 | refine below_set ?_ GE258.out | refine below_set ?_ GE264.out) | exact HB.out)) hb); have n6_ := Aside0.mk (hbox); have n7_ := Aside0.mk ((by rw [hg]; exact (below_size (by repeat (first | (with_reducible first | exact HB.out | apply below_alloc | apply pw_below_drewN | apply below_drew1 | refine below_set ?_ GE258.out | refine below_set ?_ GE264.out) | exact HB.out))) : w.heap.size ≤ gb274)); have n8_ := Aside0.mk ((by rw [hg]; exact (below_size (by repeat (first | (with_reducible first | exact HB.out | apply below_alloc | apply pw_below_drewN | apply below_drew1 | refine below_set ?_ GE258.out | refine below_set ?_ GE264.out) | exact HB.out))) : w.heap.size ≤ gb274)); have n9_ := Aside0.mk ((by rw [hg]; exact Nat.ne_of_lt (blk_lt (g := gb258) (o := .cells #[.int .i64 t253, .slice Ao9 t254.length co9] 28 (0, 0)) (by (with_reducible repeat (first | refine blk_drewN ?_ _ | refine blk_drew ?_ | refine blk_alloc ?_ _)); exact BK258.out)) : gb258 ≠ gb274)); have n10_ := Aside0.mk ((by rw [hg]; exact Nat.ne_of_gt (blk_lt (g := gb258) (o := .cells #[.int .i64 t253, .slice Ao9 t254.length co9] 28 (0, 0)) (by (with_reducible repeat (first | refine blk_drewN ?_ _ | refine blk_drew ?_ | refine blk_alloc ?_ _)); exact BK258.out)) : gb274 ≠ gb258)); have n11_ := Aside0.mk ((by rw [hg]; exact Nat.ne_of_lt (blk_lt (g := gb264) (o := .cells #[.int .i64 t259, .slice Ao14 t260.length co14] 28 (0, 0)) (by (with_reducible repeat (first | refine blk_drewN ?_ _ | refine blk_drew ?_ | refine blk_alloc ?_ _)); exact BK264.out)) : gb264 ≠ gb274)); have n12_ := Aside0.mk ((by rw [hg]; exact Nat.ne_of_gt (blk_lt (g := gb264) (o := .cells #[.int .i64 t259, .slice Ao14 t260.length co14] 28 (0, 0)) (by (with_reducible repeat (first | refine blk_drewN ?_ _ | refine blk_drew ?_ | refine blk_alloc ?_ _)); exact BK264.out)) : gb274 ≠ gb264)); clear HO_259001; clear HO_265001; clear HO272; clear BK258; clear BK264; clear HB; have HO_259001 := n0_; have HO_265001 := n1_; have HO272 := n2_; have BK258 := n3_; have BK264 := n4_; have HB := n5_; have BK274 := n6_; have GW274 := n7_; have GE274 := n8_; have NB258_274 := n9_; have NB274_258 := n10_; have NB264_274 := n11_; have NB274_264 := n12_; clear n0_ n1_ n2_ n3_ n4_ n5_ n6_ n7_ n8_ n9_ n10_ n11_ n12_; clear hb hbox hg; have hnb44 := NB274_258.out; have hnc44 := NB258_274.out; have hnb45 := NB274_264.out; have hnc45 := NB264_274.out; have hcz46_0 : w43.cell? ⟨gb274, 0, none⟩ = some (.int .i64 0) := (blk_cell BK274.out 0).trans rfl; have hcz46_1 : w43.cell? ⟨gb274, 1, none⟩ = some (.slice none 0 0) := (blk_cell BK274.out 1).trans rfl; have hfz46_0 := blk_frozen BK274.out 0; have hfz46_1 := blk_frozen BK274.out 1; obtain ⟨Ao47, co47, eo47⟩ := Kd.R_slice HO272.out; subst eo47))
       (try simp only [Act.put, List.setIfInBounds_toArray, List.set_cons_zero, List.set_cons_succ])
       go_cut [57] (fun v57 wc => ∃ (kq : Nat) (x57_35 : Bool), v57 = .bool x57_35 ∧ Aside0 (laws_FnExactReadSystem.j1 kq t266 x57_35 t259 t267 = some r) ∧ Aside0 (kq ≤ kj4) ∧ Aside0 (Kd.R (Kd.int .i64) 2 wc w.heap.size (fun k_ => some k_ ≠ ((.slice Ao14 t260.length co14) : Value).ownBlock ∧ some k_ ≠ ((.slice Ao47 t270.length co47) : Value).ownBlock) (.slice Ao9 t254.length co9) t254) ∧ Aside0 (Kd.R (Kd.int .i64) 2 wc w.heap.size (fun k_ => some k_ ≠ ((.slice Ao9 t254.length co9) : Value).ownBlock ∧ some k_ ≠ ((.slice Ao47 t270.length co47) : Value).ownBlock) (.slice Ao14 t260.length co14) t267) ∧ Aside0 (Kd.R (Kd.int .i64) 2 wc w.heap.size (fun k_ => some k_ ≠ ((.slice Ao9 t254.length co9) : Value).ownBlock ∧ some k_ ≠ ((.slice Ao14 t260.length co14) : Value).ownBlock) (.slice Ao47 t270.length co47) t270) ∧ Aside0 (wc.heap[gb258]? = some (.cells #[.int .i64 t253, (.slice Ao9 t254.length co9)] 28 (0, 0))) ∧ Aside0 (wc.heap[gb264]? = some (.cells #[.int .i64 t259, (.slice Ao14 t260.length co14)] 28 (0, 0))) ∧ Aside0 (wc.heap[gb274]? = some (.cells #[.int .i64 t269, (.slice Ao47 t270.length co47)] 28 (0, 0))) ∧ Aside0 (Below w.heap.size w wc))
       case first =>
        have H := HC36.out
        clear HC36
        replace H := Option.bind_eq_some_iff.mp H
        obtain ⟨t275, A480, H⟩ := H
        replace H : (if t275 = true then (laws_FnExactReadSystem.j1 kj4 t266 (t273 != t257) t259 t267) else (laws_FnExactReadSystem.j1 kj4 t266 true t259 t267)) = some r := H
        have A48 := Aside0.mk A480
        clear A480
        by_cases c49 : t275 = true
        ·subst c49
         have H1 : (laws_FnExactReadSystem.j1 kj4 t266 (t273 != t257) t259 t267) = some r := by rw [if_pos rfl] at H; exact H
         clear H
         have H := H1
         clear H1
         have H' := Aside0.mk H
         clear H
         have hnb50 := NB274_258.out
         have hnc50 := NB258_274.out
         have hnb51 := NB274_264.out
         have hnc51 := NB264_274.out
         have hcz52_0 : w43.cell? ⟨gb274, 0, none⟩ = some (.int .i64 0) := (blk_cell BK274.out 0).trans rfl
         have hcz52_1 : w43.cell? ⟨gb274, 1, none⟩ = some (.slice none 0 0) := (blk_cell BK274.out 1).trans rfl
         have hfz52_0 := blk_frozen BK274.out 0
         have hfz52_1 := blk_frozen BK274.out 1
         have hnb53 := NB258_264.out
         have hnc53 := NB264_258.out
         have hcz54_0 : w43.cell? ⟨gb258, 0, none⟩ = some (.int .i64 t253) := (blk_cell BK258.out 0).trans rfl
         have hcz54_1 : w43.cell? ⟨gb258, 1, none⟩ = some (.slice Ao9 t254.length co9) := (blk_cell BK258.out 1).trans rfl
         have hfz54_0 := blk_frozen BK258.out 0
         have hfz54_1 := blk_frozen BK258.out 1
         go_wp2_with (first | ((with_reducible refine gate_callee (f := 10) rfl ?_); refine goesL_ (some 51) rfl rfl Tryd.func10 (by kernel_rfl) rfl #[.agg #[.int .i64 t269, .slice Ao47 t270.length co47], .agg #[.int .i64 t253, .slice Ao9 t254.length co9]] rfl (by (try simp only [List.map_toArray, List.map_cons, List.map_nil]); first | done | rfl | (simp only [List.length_drop, List.length_take]; rfl) | (simp only [show ∀ (n_ : Nat) (b_ : Int), Int.tdiv (n_ : Int) b_ = (n_ : Int) / b_ from fun n_ b_ => Int.tdiv_eq_ediv_of_nonneg (Int.natCast_nonneg n_)]; rfl)) ?_; (with_reducible refine (laws_eqSystem.calls kj4 t269 _ _ t270 t253 _ _ t254 true _ ?side1 ?side2 ?side3 ?side4 A48.out).mono ?_); (case side1 => refine (Kd.R_reads' (e := 2) (base := w.heap.size) (ok := fun k_ => ((True ∧ some k_ ≠ (.slice Ao9 t254.length co9 : Value).ownBlock) ∧ some k_ ≠ (.slice Ao14 t260.length co14 : Value).ownBlock)) (n := t270.length) (c := co47) ?_).2.2; exact (by (with_reducible repeat (first | apply Kd.R_alloc | apply Kd.R_drewN | apply Kd.R_drew)); exact (Kd.R_mono (Kd.R_far (p := ⟨gb274, 1, none⟩) (Kd.R_far (p := ⟨gb274, 0, none⟩) (Kd.R_types HO272.out BK274.out (by decide)) (fun _ hk => hk.2) (.int .i64 t269)) (fun _ hk => hk.2) (.slice Ao47 t270.length co47)) (fun _ h_ => h_.1)))); (case side2 => exact (Kd.R_reads' HO272.out).2.1); (case side3 => refine (Kd.R_reads' (e := 2) (base := w.heap.size) (ok := fun k_ => (some k_ ≠ (.slice Ao14 t260.length co14 : Value).ownBlock ∧ some k_ ≠ (.slice Ao47 t270.length co47 : Value).ownBlock)) (n := t254.length) (c := co9) ?_).2.2; exact (by (with_reducible repeat (first | apply Kd.R_alloc | apply Kd.R_drewN | apply Kd.R_drew)); exact (Kd.R_mono (Kd.R_far (p := ⟨gb274, 1, none⟩) (Kd.R_far (p := ⟨gb274, 0, none⟩) (Kd.R_types HO_259001.out BK274.out (by decide)) (fun _ hk => hk.2) (.int .i64 t269)) (fun _ hk => hk.2) (.slice Ao47 t270.length co47)) (fun _ h_ => h_.1)))); (case side4 => exact (Kd.R_reads' HO_259001.out).2.1); rintro e w55 ⟨rfl, hb⟩; refine ⟨_, rfl, ?_⟩; have n0_ := Aside0.mk (Kd.R_below (by (with_reducible repeat (first | apply Kd.R_alloc | apply Kd.R_drewN | apply Kd.R_drew)); exact (Kd.R_mono (Kd.R_far (p := ⟨gb274, 1, none⟩) (Kd.R_far (p := ⟨gb274, 0, none⟩) (Kd.R_types HO_259001.out BK274.out (by decide)) (fun _ hk => hk.2) (.int .i64 t269)) (fun _ hk => hk.2) (.slice Ao47 t270.length co47)) (fun _ h_ => h_.1))) hb); have n1_ := Aside0.mk (Kd.R_below (by (with_reducible repeat (first | apply Kd.R_alloc | apply Kd.R_drewN | apply Kd.R_drew)); exact (Kd.R_mono (Kd.R_far (p := ⟨gb274, 1, none⟩) (Kd.R_far (p := ⟨gb274, 0, none⟩) (Kd.R_types HO_265001.out BK274.out (by decide)) (fun _ hk => hk.2) (.int .i64 t269)) (fun _ hk => hk.2) (.slice Ao47 t270.length co47)) (fun _ h_ => h_.1))) hb); have n2_ := Aside0.mk (Kd.R_below (by (with_reducible repeat (first | apply Kd.R_alloc | apply Kd.R_drewN | apply Kd.R_drew)); exact (Kd.R_mono (Kd.R_far (p := ⟨gb274, 1, none⟩) (Kd.R_far (p := ⟨gb274, 0, none⟩) (Kd.R_types HO272.out BK274.out (by decide)) (fun _ hk => hk.2) (.int .i64 t269)) (fun _ hk => hk.2) (.slice Ao47 t270.length co47)) (fun _ h_ => h_.1))) hb); have n3_ := Aside0.mk (blk_below (g := gb258) (o := .cells #[.int .i64 t253, .slice Ao9 t254.length co9] 28 (0, 0)) (by (with_reducible repeat (first | refine blk_drewN ?_ _ | refine blk_drew ?_ | refine blk_alloc ?_ _)); refine blk_far ?_ NB258_274.out _; (with_reducible repeat (first | refine blk_drewN ?_ _ | refine blk_drew ?_ | refine blk_alloc ?_ _)); refine blk_far ?_ NB258_274.out _; (with_reducible repeat (first | refine blk_drewN ?_ _ | refine blk_drew ?_ | refine blk_alloc ?_ _)); exact BK258.out) hb); have n4_ := Aside0.mk (blk_below (g := gb264) (o := .cells #[.int .i64 t259, .slice Ao14 t260.length co14] 28 (0, 0)) (by (with_reducible repeat (first | refine blk_drewN ?_ _ | refine blk_drew ?_ | refine blk_alloc ?_ _)); refine blk_far ?_ NB264_274.out _; (with_reducible repeat (first | refine blk_drewN ?_ _ | refine blk_drew ?_ | refine blk_alloc ?_ _)); refine blk_far ?_ NB264_274.out _; (with_reducible repeat (first | refine blk_drewN ?_ _ | refine blk_drew ?_ | refine blk_alloc ?_ _)); exact BK264.out) hb); have n5_ := Aside0.mk (blk_below (g := gb274) (o := .cells #[.int .i64 t269, .slice Ao47 t270.length co47] 28 (0, 0)) (by (with_reducible repeat (first | refine blk_drewN ?_ _ | refine blk_drew ?_ | refine blk_alloc ?_ _)); refine blk_put (cs := #[.int .i64 t269, .slice none 0 0]) ?_ 1 _ rfl; (with_reducible repeat (first | refine blk_drewN ?_ _ | refine blk_drew ?_ | refine blk_alloc ?_ _)); refine blk_put (cs := #[.int .i64 0, .slice none 0 0]) ?_ 0 _ rfl; (with_reducible repeat (first | refine blk_drewN ?_ _ | refine blk_drew ?_ | refine blk_alloc ?_ _)); exact BK274.out) hb); have n6_ := Aside0.mk (below_step (by repeat (first | (with_reducible first | exact HB.out | apply below_alloc | apply pw_below_drewN | apply below_drew1 | refine below_set ?_ GE258.out | refine below_set ?_ GE264.out | refine below_set ?_ GE274.out) | exact HB.out)) hb); clear HO_259001; clear HO_265001; clear HO272; clear BK258; clear BK264; clear BK274; clear HB; have HO_259001 := n0_; have HO_265001 := n1_; have HO272 := n2_; have BK258 := n3_; have BK264 := n4_; have BK274 := n5_; have HB := n6_; clear n0_ n1_ n2_ n3_ n4_ n5_ n6_; (try clear hb); (try clear hb2); (try clear hk); (try clear hi)))
         go_meet
         case rel => exact ⟨_, ((t273 != t257)), (by first | rfl | (simp; done) | (simp [*]; done)), H', ⟨by have := HJ4.out; first | omega | exact Nat.le_refl _⟩, ⟨by (with_reducible repeat (first | apply Kd.R_alloc | apply Kd.R_drewN | apply Kd.R_drew)); exact HO_259001.out⟩, ⟨by (with_reducible repeat (first | apply Kd.R_alloc | apply Kd.R_drewN | apply Kd.R_drew)); exact HO_265001.out⟩, ⟨by (with_reducible repeat (first | apply Kd.R_alloc | apply Kd.R_drewN | apply Kd.R_drew)); exact Kd.R_mono HO272.out (fun _ hk => ⟨hk.1.2, hk.2⟩)⟩, ⟨by (with_reducible repeat (first | refine blk_drewN ?_ _ | refine blk_drew ?_ | refine blk_alloc ?_ _)); exact BK258.out⟩, ⟨by (with_reducible repeat (first | refine blk_drewN ?_ _ | refine blk_drew ?_ | refine blk_alloc ?_ _)); exact BK264.out⟩, ⟨by (with_reducible repeat (first | refine blk_drewN ?_ _ | refine blk_drew ?_ | refine blk_alloc ?_ _)); exact BK274.out⟩, ⟨by repeat (first | (with_reducible first | exact HB.out | apply below_alloc | apply pw_below_drewN | apply below_drew1 | refine below_set ?_ GE258.out | refine below_set ?_ GE264.out | refine below_set ?_ GE274.out) | exact HB.out)⟩⟩
        ·replace c49 := Bool.eq_false_iff.mpr c49
         subst c49
         have H1 : (laws_FnExactReadSystem.j1 kj4 t266 true t259 t267) = some r := by rw [if_neg (show ¬ (false = true) by decide)] at H; exact H
         clear H
         have H := H1
         clear H1
         have H' := Aside0.mk H
         clear H
         have hnb56 := NB274_258.out
         have hnc56 := NB258_274.out
         have hnb57 := NB274_264.out
         have hnc57 := NB264_274.out
         have hcz58_0 : w43.cell? ⟨gb274, 0, none⟩ = some (.int .i64 0) := (blk_cell BK274.out 0).trans rfl
         have hcz58_1 : w43.cell? ⟨gb274, 1, none⟩ = some (.slice none 0 0) := (blk_cell BK274.out 1).trans rfl
         have hfz58_0 := blk_frozen BK274.out 0
         have hfz58_1 := blk_frozen BK274.out 1
         have hnb59 := NB258_264.out
         have hnc59 := NB264_258.out
         have hcz60_0 : w43.cell? ⟨gb258, 0, none⟩ = some (.int .i64 t253) := (blk_cell BK258.out 0).trans rfl
         have hcz60_1 : w43.cell? ⟨gb258, 1, none⟩ = some (.slice Ao9 t254.length co9) := (blk_cell BK258.out 1).trans rfl
         have hfz60_0 := blk_frozen BK258.out 0
         have hfz60_1 := blk_frozen BK258.out 1
         go_wp2_with (first | ((with_reducible refine gate_callee (f := 10) rfl ?_); refine goesL_ (some 51) rfl rfl Tryd.func10 (by kernel_rfl) rfl #[.agg #[.int .i64 t269, .slice Ao47 t270.length co47], .agg #[.int .i64 t253, .slice Ao9 t254.length co9]] rfl (by (try simp only [List.map_toArray, List.map_cons, List.map_nil]); first | done | rfl | (simp only [List.length_drop, List.length_take]; rfl) | (simp only [show ∀ (n_ : Nat) (b_ : Int), Int.tdiv (n_ : Int) b_ = (n_ : Int) / b_ from fun n_ b_ => Int.tdiv_eq_ediv_of_nonneg (Int.natCast_nonneg n_)]; rfl)) ?_; (with_reducible refine (laws_eqSystem.calls kj4 t269 _ _ t270 t253 _ _ t254 false _ ?side1 ?side2 ?side3 ?side4 A48.out).mono ?_); (case side1 => refine (Kd.R_reads' (e := 2) (base := w.heap.size) (ok := fun k_ => ((True ∧ some k_ ≠ (.slice Ao9 t254.length co9 : Value).ownBlock) ∧ some k_ ≠ (.slice Ao14 t260.length co14 : Value).ownBlock)) (n := t270.length) (c := co47) ?_).2.2; exact (by (with_reducible repeat (first | apply Kd.R_alloc | apply Kd.R_drewN | apply Kd.R_drew)); exact (Kd.R_mono (Kd.R_far (p := ⟨gb274, 1, none⟩) (Kd.R_far (p := ⟨gb274, 0, none⟩) (Kd.R_types HO272.out BK274.out (by decide)) (fun _ hk => hk.2) (.int .i64 t269)) (fun _ hk => hk.2) (.slice Ao47 t270.length co47)) (fun _ h_ => h_.1)))); (case side2 => exact (Kd.R_reads' HO272.out).2.1); (case side3 => refine (Kd.R_reads' (e := 2) (base := w.heap.size) (ok := fun k_ => (some k_ ≠ (.slice Ao14 t260.length co14 : Value).ownBlock ∧ some k_ ≠ (.slice Ao47 t270.length co47 : Value).ownBlock)) (n := t254.length) (c := co9) ?_).2.2; exact (by (with_reducible repeat (first | apply Kd.R_alloc | apply Kd.R_drewN | apply Kd.R_drew)); exact (Kd.R_mono (Kd.R_far (p := ⟨gb274, 1, none⟩) (Kd.R_far (p := ⟨gb274, 0, none⟩) (Kd.R_types HO_259001.out BK274.out (by decide)) (fun _ hk => hk.2) (.int .i64 t269)) (fun _ hk => hk.2) (.slice Ao47 t270.length co47)) (fun _ h_ => h_.1)))); (case side4 => exact (Kd.R_reads' HO_259001.out).2.1); rintro e w61 ⟨rfl, hb⟩; refine ⟨_, rfl, ?_⟩; have n0_ := Aside0.mk (Kd.R_below (by (with_reducible repeat (first | apply Kd.R_alloc | apply Kd.R_drewN | apply Kd.R_drew)); exact (Kd.R_mono (Kd.R_far (p := ⟨gb274, 1, none⟩) (Kd.R_far (p := ⟨gb274, 0, none⟩) (Kd.R_types HO_259001.out BK274.out (by decide)) (fun _ hk => hk.2) (.int .i64 t269)) (fun _ hk => hk.2) (.slice Ao47 t270.length co47)) (fun _ h_ => h_.1))) hb); have n1_ := Aside0.mk (Kd.R_below (by (with_reducible repeat (first | apply Kd.R_alloc | apply Kd.R_drewN | apply Kd.R_drew)); exact (Kd.R_mono (Kd.R_far (p := ⟨gb274, 1, none⟩) (Kd.R_far (p := ⟨gb274, 0, none⟩) (Kd.R_types HO_265001.out BK274.out (by decide)) (fun _ hk => hk.2) (.int .i64 t269)) (fun _ hk => hk.2) (.slice Ao47 t270.length co47)) (fun _ h_ => h_.1))) hb); have n2_ := Aside0.mk (Kd.R_below (by (with_reducible repeat (first | apply Kd.R_alloc | apply Kd.R_drewN | apply Kd.R_drew)); exact (Kd.R_mono (Kd.R_far (p := ⟨gb274, 1, none⟩) (Kd.R_far (p := ⟨gb274, 0, none⟩) (Kd.R_types HO272.out BK274.out (by decide)) (fun _ hk => hk.2) (.int .i64 t269)) (fun _ hk => hk.2) (.slice Ao47 t270.length co47)) (fun _ h_ => h_.1))) hb); have n3_ := Aside0.mk (blk_below (g := gb258) (o := .cells #[.int .i64 t253, .slice Ao9 t254.length co9] 28 (0, 0)) (by (with_reducible repeat (first | refine blk_drewN ?_ _ | refine blk_drew ?_ | refine blk_alloc ?_ _)); refine blk_far ?_ NB258_274.out _; (with_reducible repeat (first | refine blk_drewN ?_ _ | refine blk_drew ?_ | refine blk_alloc ?_ _)); refine blk_far ?_ NB258_274.out _; (with_reducible repeat (first | refine blk_drewN ?_ _ | refine blk_drew ?_ | refine blk_alloc ?_ _)); exact BK258.out) hb); have n4_ := Aside0.mk (blk_below (g := gb264) (o := .cells #[.int .i64 t259, .slice Ao14 t260.length co14] 28 (0, 0)) (by (with_reducible repeat (first | refine blk_drewN ?_ _ | refine blk_drew ?_ | refine blk_alloc ?_ _)); refine blk_far ?_ NB264_274.out _; (with_reducible repeat (first | refine blk_drewN ?_ _ | refine blk_drew ?_ | refine blk_alloc ?_ _)); refine blk_far ?_ NB264_274.out _; (with_reducible repeat (first | refine blk_drewN ?_ _ | refine blk_drew ?_ | refine blk_alloc ?_ _)); exact BK264.out) hb); have n5_ := Aside0.mk (blk_below (g := gb274) (o := .cells #[.int .i64 t269, .slice Ao47 t270.length co47] 28 (0, 0)) (by (with_reducible repeat (first | refine blk_drewN ?_ _ | refine blk_drew ?_ | refine blk_alloc ?_ _)); refine blk_put (cs := #[.int .i64 t269, .slice none 0 0]) ?_ 1 _ rfl; (with_reducible repeat (first | refine blk_drewN ?_ _ | refine blk_drew ?_ | refine blk_alloc ?_ _)); refine blk_put (cs := #[.int .i64 0, .slice none 0 0]) ?_ 0 _ rfl; (with_reducible repeat (first | refine blk_drewN ?_ _ | refine blk_drew ?_ | refine blk_alloc ?_ _)); exact BK274.out) hb); have n6_ := Aside0.mk (below_step (by repeat (first | (with_reducible first | exact HB.out | apply below_alloc | apply pw_below_drewN | apply below_drew1 | refine below_set ?_ GE258.out | refine below_set ?_ GE264.out | refine below_set ?_ GE274.out) | exact HB.out)) hb); clear HO_259001; clear HO_265001; clear HO272; clear BK258; clear BK264; clear BK274; clear HB; have HO_259001 := n0_; have HO_265001 := n1_; have HO272 := n2_; have BK258 := n3_; have BK264 := n4_; have BK274 := n5_; have HB := n6_; clear n0_ n1_ n2_ n3_ n4_ n5_ n6_; (try clear hb); (try clear hb2); (try clear hk); (try clear hi)))
         go_meet
         case rel => exact ⟨_, (true), (by first | rfl | (simp; done) | (simp [*]; done)), H', ⟨by have := HJ4.out; first | omega | exact Nat.le_refl _⟩, ⟨by (with_reducible repeat (first | apply Kd.R_alloc | apply Kd.R_drewN | apply Kd.R_drew)); exact HO_259001.out⟩, ⟨by (with_reducible repeat (first | apply Kd.R_alloc | apply Kd.R_drewN | apply Kd.R_drew)); exact HO_265001.out⟩, ⟨by (with_reducible repeat (first | apply Kd.R_alloc | apply Kd.R_drewN | apply Kd.R_drew)); exact Kd.R_mono HO272.out (fun _ hk => ⟨hk.1.2, hk.2⟩)⟩, ⟨by (with_reducible repeat (first | refine blk_drewN ?_ _ | refine blk_drew ?_ | refine blk_alloc ?_ _)); exact BK258.out⟩, ⟨by (with_reducible repeat (first | refine blk_drewN ?_ _ | refine blk_drew ?_ | refine blk_alloc ?_ _)); exact BK264.out⟩, ⟨by (with_reducible repeat (first | refine blk_drewN ?_ _ | refine blk_drew ?_ | refine blk_alloc ?_ _)); exact BK274.out⟩, ⟨by repeat (first | (with_reducible first | exact HB.out | apply below_alloc | apply pw_below_drewN | apply below_drew1 | refine below_set ?_ GE258.out | refine below_set ?_ GE264.out | refine below_set ?_ GE274.out) | exact HB.out)⟩⟩
       case rest =>
        clear HC36
        try clear c1
        try clear c2
        try clear c2b0
        try clear c2b1
        try clear p2
        try clear c3
        try clear c4
        try clear c5
        try clear c10
        try clear c11
        try clear c12
        try clear c13
        try clear c14
        try clear c16
        try clear c17
        try clear c21
        try clear c25
        try clear c28
        try clear c28b0
        try clear c29
        try clear c34
        try clear c34b0
        try clear c34b1
        try clear c37
        try clear c44
        try clear c45
        try clear c49
        try clear c50
        try clear c51
        try clear c53
        try clear c56
        try clear c57
        try clear c59
        try clear hcz13_0
        try clear hcz13_1
        try clear hcz18_0
        try clear hcz18_1
        try clear hcz19_0
        try clear hcz19_1
        try clear hcz22_0
        try clear hcz22_1
        try clear hcz23_0
        try clear hcz23_1
        try clear hcz30_0
        try clear hcz30_1
        try clear hcz32_0
        try clear hcz32_1
        try clear hcz38_0
        try clear hcz38_1
        try clear hcz40_0
        try clear hcz40_1
        try clear hcz46_0
        try clear hcz46_1
        try clear hcz52_0
        try clear hcz52_1
        try clear hcz54_0
        try clear hcz54_1
        try clear hcz58_0
        try clear hcz58_1
        try clear hcz60_0
        try clear hcz60_1
        try clear hcz8_0
        try clear hcz8_1
        try clear hfz13_0
        try clear hfz13_1
        try clear hfz18_0
        try clear hfz18_1
        try clear hfz19_0
        try clear hfz19_1
        try clear hfz22_0
        try clear hfz22_1
        try clear hfz23_0
        try clear hfz23_1
        try clear hfz30_0
        try clear hfz30_1
        try clear hfz32_0
        try clear hfz32_1
        try clear hfz38_0
        try clear hfz38_1
        try clear hfz40_0
        try clear hfz40_1
        try clear hfz46_0
        try clear hfz46_1
        try clear hfz52_0
        try clear hfz52_1
        try clear hfz54_0
        try clear hfz54_1
        try clear hfz58_0
        try clear hfz58_1
        try clear hfz60_0
        try clear hfz60_1
        try clear hfz8_0
        try clear hfz8_1
        try clear p2
        obtain ⟨kq, x57_35, rfl, HA, HJ35, HO_259001, HO_265001, HO_275001, BK258, BK264, BK274, HB⟩ := hcut
        have hl265001_35 := (Kd.R_reads' HO_265001.out).1
        rw [hl265001_35] at HO_265001
        (try simp only [hl265001_35])
        (try simp only [hl265001_35] at BK258)
        (try simp only [hl265001_35] at BK264)
        (try simp only [hl265001_35] at BK274)
        (try simp only [hl265001_35] at HO_259001)
        (try simp only [hl265001_35] at HO_275001)
        cases kq with
        | zero => exact absurd HA.out (by simp [laws_FnExactReadSystem.j1])
        | succ kj35 =>
         have H := HA.out
         clear HA
         simp only [laws_FnExactReadSystem.j1] at H
         by_cases c62 : x57_35 = true
         ·subst c62
          have H1 : (some false) = some r := by rw [if_pos rfl] at H; exact H
          clear H
          have H := H1
          clear H1
          obtain rfl := Option.some.inj H
          go_wp2
          go_ret
          exact ⟨by first | rfl | (simp [errW_none, errW_some] <;> rfl) | (simp [*, errW_none, errW_some] <;> rfl), by repeat (first | (with_reducible first | exact HB.out | apply below_alloc | apply pw_below_drewN | apply below_drew1 | refine below_set ?_ GE258.out | refine below_set ?_ GE264.out | refine below_set ?_ GE274.out) | exact HB.out)⟩
         ·replace c62 := Bool.eq_false_iff.mpr c62
          subst c62
          have H1 : ((laws_heldSystem.f kj35 t259 t267 1).bind fun t276 => (if t276 < 0 then (some false) else (if t276 = t266 then (some true) else (some false)))) = some r := by rw [if_neg (show ¬ (false = true) by decide)] at H; exact H
          clear H
          have H := H1
          clear H1
          replace H := Option.bind_eq_some_iff.mp H
          obtain ⟨t276, A630, H⟩ := H
          replace H : (if t276 < 0 then (some false) else (if t276 = t266 then (some true) else (some false))) = some r := H
          have A63 := Aside0.mk A630
          clear A630
          by_cases c64 : t276 < 0
          ·rw [if_pos c64] at H
           have c64b0 : decide (t276 < 0) = true := decide_eq_true c64
           clear c64
           obtain rfl := Option.some.inj H
           have hnb65 := NB264_258.out
           have hnc65 := NB258_264.out
           have hnb66 := NB264_274.out
           have hnc66 := NB274_264.out
           have hcz67_0 : wc.cell? ⟨gb264, 0, none⟩ = some (.int .i64 t259) := (blk_cell BK264.out 0).trans rfl
           have hcz67_1 : wc.cell? ⟨gb264, 1, none⟩ = some (.slice Ao14 t267.length co14) := (blk_cell BK264.out 1).trans rfl
           have hfz67_0 := blk_frozen BK264.out 0
           have hfz67_1 := blk_frozen BK264.out 1
           go_wp2_with (first | ((with_reducible refine gate_callee (f := 14) rfl ?_); refine goesL_ (some 60) rfl rfl Tryd.func14 (by kernel_rfl) rfl #[.agg #[.int .i64 t259, .slice Ao14 t267.length co14], .int .i64 1] rfl (by (try simp only [List.map_toArray, List.map_cons, List.map_nil]); first | done | rfl | (simp only [List.length_drop, List.length_take]; rfl) | (simp only [show ∀ (n_ : Nat) (b_ : Int), Int.tdiv (n_ : Int) b_ = (n_ : Int) / b_ from fun n_ b_ => Int.tdiv_eq_ediv_of_nonneg (Int.natCast_nonneg n_)]; rfl)) ?_; (with_reducible refine (laws_heldSystem.calls kj35 t259 _ _ t267 1 t276 _ ?side1 ?side2 A63.out).mono ?_); (case side1 => repeat (first | exact (Kd.R_reads' HO_265001.out).2.2 | (with_reducible refine Kd.C_alloc ?_ _) | (with_reducible refine Kd.C_drewN ?_ _) | (with_reducible refine Kd.C_drew ?_))); (case side2 => exact (Kd.R_reads' HO_265001.out).2.1); rintro e w68 ⟨rfl, hb⟩; refine ⟨_, rfl, ?_⟩; have n0_ := Aside0.mk (Kd.R_below (by (with_reducible repeat (first | apply Kd.R_alloc | apply Kd.R_drewN | apply Kd.R_drew)); exact HO_259001.out) hb); have n1_ := Aside0.mk (Kd.R_below (by (with_reducible repeat (first | apply Kd.R_alloc | apply Kd.R_drewN | apply Kd.R_drew)); exact HO_265001.out) hb); have n2_ := Aside0.mk (Kd.R_below (by (with_reducible repeat (first | apply Kd.R_alloc | apply Kd.R_drewN | apply Kd.R_drew)); exact HO_275001.out) hb); have n3_ := Aside0.mk (blk_below (g := gb258) (o := .cells #[.int .i64 t253, .slice Ao9 t254.length co9] 28 (0, 0)) (by (with_reducible repeat (first | refine blk_drewN ?_ _ | refine blk_drew ?_ | refine blk_alloc ?_ _)); exact BK258.out) hb); have n4_ := Aside0.mk (blk_below (g := gb264) (o := .cells #[.int .i64 t259, .slice Ao14 t267.length co14] 28 (0, 0)) (by (with_reducible repeat (first | refine blk_drewN ?_ _ | refine blk_drew ?_ | refine blk_alloc ?_ _)); exact BK264.out) hb); have n5_ := Aside0.mk (blk_below (g := gb274) (o := .cells #[.int .i64 t269, .slice Ao47 t270.length co47] 28 (0, 0)) (by (with_reducible repeat (first | refine blk_drewN ?_ _ | refine blk_drew ?_ | refine blk_alloc ?_ _)); exact BK274.out) hb); have n6_ := Aside0.mk (below_step (by repeat (first | (with_reducible first | exact HB.out | apply below_alloc | apply pw_below_drewN | apply below_drew1 | refine below_set ?_ GE258.out | refine below_set ?_ GE264.out | refine below_set ?_ GE274.out) | exact HB.out)) hb); clear HO_259001; clear HO_265001; clear HO_275001; clear BK258; clear BK264; clear BK274; clear HB; have HO_259001 := n0_; have HO_265001 := n1_; have HO_275001 := n2_; have BK258 := n3_; have BK264 := n4_; have BK274 := n5_; have HB := n6_; clear n0_ n1_ n2_ n3_ n4_ n5_ n6_; (try clear hb); (try clear hb2); (try clear hk); (try clear hi)))
           go_ret
           exact ⟨by first | rfl | (simp [errW_none, errW_some] <;> rfl) | (simp [*, errW_none, errW_some] <;> rfl), by repeat (first | (with_reducible first | exact HB.out | apply below_alloc | apply pw_below_drewN | apply below_drew1 | refine below_set ?_ GE258.out | refine below_set ?_ GE264.out | refine below_set ?_ GE274.out) | exact HB.out)⟩
          ·rw [if_neg c64] at H
           have c64b0 : decide (t276 < 0) = false := decide_eq_false c64
           clear c64
           by_cases c69 : t276 = t266
           ·rw [if_pos c69] at H
            have c69b0 : (t276 == t266) = true := beq_iff_eq.mpr c69
            have c69b1 : (t276 != t266) = false := bne_eq_false_iff_eq.mpr c69
            clear c69
            obtain rfl := Option.some.inj H
            have hnb70 := NB264_258.out
            have hnc70 := NB258_264.out
            have hnb71 := NB264_274.out
            have hnc71 := NB274_264.out
            have hcz72_0 : wc.cell? ⟨gb264, 0, none⟩ = some (.int .i64 t259) := (blk_cell BK264.out 0).trans rfl
            have hcz72_1 : wc.cell? ⟨gb264, 1, none⟩ = some (.slice Ao14 t267.length co14) := (blk_cell BK264.out 1).trans rfl
            have hfz72_0 := blk_frozen BK264.out 0
            have hfz72_1 := blk_frozen BK264.out 1
            go_wp2_with (first | ((with_reducible refine gate_callee (f := 14) rfl ?_); refine goesL_ (some 60) rfl rfl Tryd.func14 (by kernel_rfl) rfl #[.agg #[.int .i64 t259, .slice Ao14 t267.length co14], .int .i64 1] rfl (by (try simp only [List.map_toArray, List.map_cons, List.map_nil]); first | done | rfl | (simp only [List.length_drop, List.length_take]; rfl) | (simp only [show ∀ (n_ : Nat) (b_ : Int), Int.tdiv (n_ : Int) b_ = (n_ : Int) / b_ from fun n_ b_ => Int.tdiv_eq_ediv_of_nonneg (Int.natCast_nonneg n_)]; rfl)) ?_; (with_reducible refine (laws_heldSystem.calls kj35 t259 _ _ t267 1 t276 _ ?side1 ?side2 A63.out).mono ?_); (case side1 => repeat (first | exact (Kd.R_reads' HO_265001.out).2.2 | (with_reducible refine Kd.C_alloc ?_ _) | (with_reducible refine Kd.C_drewN ?_ _) | (with_reducible refine Kd.C_drew ?_))); (case side2 => exact (Kd.R_reads' HO_265001.out).2.1); rintro e w73 ⟨rfl, hb⟩; refine ⟨_, rfl, ?_⟩; have n0_ := Aside0.mk (Kd.R_below (by (with_reducible repeat (first | apply Kd.R_alloc | apply Kd.R_drewN | apply Kd.R_drew)); exact HO_259001.out) hb); have n1_ := Aside0.mk (Kd.R_below (by (with_reducible repeat (first | apply Kd.R_alloc | apply Kd.R_drewN | apply Kd.R_drew)); exact HO_265001.out) hb); have n2_ := Aside0.mk (Kd.R_below (by (with_reducible repeat (first | apply Kd.R_alloc | apply Kd.R_drewN | apply Kd.R_drew)); exact HO_275001.out) hb); have n3_ := Aside0.mk (blk_below (g := gb258) (o := .cells #[.int .i64 t253, .slice Ao9 t254.length co9] 28 (0, 0)) (by (with_reducible repeat (first | refine blk_drewN ?_ _ | refine blk_drew ?_ | refine blk_alloc ?_ _)); exact BK258.out) hb); have n4_ := Aside0.mk (blk_below (g := gb264) (o := .cells #[.int .i64 t259, .slice Ao14 t267.length co14] 28 (0, 0)) (by (with_reducible repeat (first | refine blk_drewN ?_ _ | refine blk_drew ?_ | refine blk_alloc ?_ _)); exact BK264.out) hb); have n5_ := Aside0.mk (blk_below (g := gb274) (o := .cells #[.int .i64 t269, .slice Ao47 t270.length co47] 28 (0, 0)) (by (with_reducible repeat (first | refine blk_drewN ?_ _ | refine blk_drew ?_ | refine blk_alloc ?_ _)); exact BK274.out) hb); have n6_ := Aside0.mk (below_step (by repeat (first | (with_reducible first | exact HB.out | apply below_alloc | apply pw_below_drewN | apply below_drew1 | refine below_set ?_ GE258.out | refine below_set ?_ GE264.out | refine below_set ?_ GE274.out) | exact HB.out)) hb); clear HO_259001; clear HO_265001; clear HO_275001; clear BK258; clear BK264; clear BK274; clear HB; have HO_259001 := n0_; have HO_265001 := n1_; have HO_275001 := n2_; have BK258 := n3_; have BK264 := n4_; have BK274 := n5_; have HB := n6_; clear n0_ n1_ n2_ n3_ n4_ n5_ n6_; (try clear hb); (try clear hb2); (try clear hk); (try clear hi)))
            go_ret
            exact ⟨by first | rfl | (simp [errW_none, errW_some] <;> rfl) | (simp [*, errW_none, errW_some] <;> rfl), by repeat (first | (with_reducible first | exact HB.out | apply below_alloc | apply pw_below_drewN | apply below_drew1 | refine below_set ?_ GE258.out | refine below_set ?_ GE264.out | refine below_set ?_ GE274.out) | exact HB.out)⟩
           ·rw [if_neg c69] at H
            have c69b0 : (t276 == t266) = false := beq_eq_false_iff_ne.mpr c69
            have c69b1 : (t276 != t266) = true := bne_iff_ne.mpr c69
            obtain rfl := Option.some.inj H
            have hnb74 := NB264_258.out
            have hnc74 := NB258_264.out
            have hnb75 := NB264_274.out
            have hnc75 := NB274_264.out
            have hcz76_0 : wc.cell? ⟨gb264, 0, none⟩ = some (.int .i64 t259) := (blk_cell BK264.out 0).trans rfl
            have hcz76_1 : wc.cell? ⟨gb264, 1, none⟩ = some (.slice Ao14 t267.length co14) := (blk_cell BK264.out 1).trans rfl
            have hfz76_0 := blk_frozen BK264.out 0
            have hfz76_1 := blk_frozen BK264.out 1
            go_wp2_with (first | ((with_reducible refine gate_callee (f := 14) rfl ?_); refine goesL_ (some 60) rfl rfl Tryd.func14 (by kernel_rfl) rfl #[.agg #[.int .i64 t259, .slice Ao14 t267.length co14], .int .i64 1] rfl (by (try simp only [List.map_toArray, List.map_cons, List.map_nil]); first | done | rfl | (simp only [List.length_drop, List.length_take]; rfl) | (simp only [show ∀ (n_ : Nat) (b_ : Int), Int.tdiv (n_ : Int) b_ = (n_ : Int) / b_ from fun n_ b_ => Int.tdiv_eq_ediv_of_nonneg (Int.natCast_nonneg n_)]; rfl)) ?_; (with_reducible refine (laws_heldSystem.calls kj35 t259 _ _ t267 1 t276 _ ?side1 ?side2 A63.out).mono ?_); (case side1 => repeat (first | exact (Kd.R_reads' HO_265001.out).2.2 | (with_reducible refine Kd.C_alloc ?_ _) | (with_reducible refine Kd.C_drewN ?_ _) | (with_reducible refine Kd.C_drew ?_))); (case side2 => exact (Kd.R_reads' HO_265001.out).2.1); rintro e w77 ⟨rfl, hb⟩; refine ⟨_, rfl, ?_⟩; have n0_ := Aside0.mk (Kd.R_below (by (with_reducible repeat (first | apply Kd.R_alloc | apply Kd.R_drewN | apply Kd.R_drew)); exact HO_259001.out) hb); have n1_ := Aside0.mk (Kd.R_below (by (with_reducible repeat (first | apply Kd.R_alloc | apply Kd.R_drewN | apply Kd.R_drew)); exact HO_265001.out) hb); have n2_ := Aside0.mk (Kd.R_below (by (with_reducible repeat (first | apply Kd.R_alloc | apply Kd.R_drewN | apply Kd.R_drew)); exact HO_275001.out) hb); have n3_ := Aside0.mk (blk_below (g := gb258) (o := .cells #[.int .i64 t253, .slice Ao9 t254.length co9] 28 (0, 0)) (by (with_reducible repeat (first | refine blk_drewN ?_ _ | refine blk_drew ?_ | refine blk_alloc ?_ _)); exact BK258.out) hb); have n4_ := Aside0.mk (blk_below (g := gb264) (o := .cells #[.int .i64 t259, .slice Ao14 t267.length co14] 28 (0, 0)) (by (with_reducible repeat (first | refine blk_drewN ?_ _ | refine blk_drew ?_ | refine blk_alloc ?_ _)); exact BK264.out) hb); have n5_ := Aside0.mk (blk_below (g := gb274) (o := .cells #[.int .i64 t269, .slice Ao47 t270.length co47] 28 (0, 0)) (by (with_reducible repeat (first | refine blk_drewN ?_ _ | refine blk_drew ?_ | refine blk_alloc ?_ _)); exact BK274.out) hb); have n6_ := Aside0.mk (below_step (by repeat (first | (with_reducible first | exact HB.out | apply below_alloc | apply pw_below_drewN | apply below_drew1 | refine below_set ?_ GE258.out | refine below_set ?_ GE264.out | refine below_set ?_ GE274.out) | exact HB.out)) hb); clear HO_259001; clear HO_265001; clear HO_275001; clear BK258; clear BK264; clear BK274; clear HB; have HO_259001 := n0_; have HO_265001 := n1_; have HO_275001 := n2_; have BK258 := n3_; have BK264 := n4_; have BK274 := n5_; have HB := n6_; clear n0_ n1_ n2_ n3_ n4_ n5_ n6_; (try clear hb); (try clear hb2); (try clear hk); (try clear hi)))
            go_ret
            exact ⟨by first | rfl | (simp [errW_none, errW_some] <;> rfl) | (simp [*, errW_none, errW_some] <;> rfl), by repeat (first | (with_reducible first | exact HB.out | apply below_alloc | apply pw_below_drewN | apply below_drew1 | refine below_set ?_ GE258.out | refine below_set ?_ GE264.out | refine below_set ?_ GE274.out) | exact HB.out)⟩
      ·rw [if_neg c34] at H
       have c34b0 : (t268 == t266) = false := beq_eq_false_iff_ne.mpr c34
       have c34b1 : (t268 != t266) = true := bne_iff_ne.mpr c34
       obtain rfl := Option.some.inj H
       have hnb78 := NB264_258.out
       have hnc78 := NB258_264.out
       have hcz79_0 : wc.cell? ⟨gb264, 0, none⟩ = some (.int .i64 t259) := (blk_cell BK264.out 0).trans rfl
       have hcz79_1 : wc.cell? ⟨gb264, 1, none⟩ = some (.slice Ao14 t260.length co14) := (blk_cell BK264.out 1).trans rfl
       have hfz79_0 := blk_frozen BK264.out 0
       have hfz79_1 := blk_frozen BK264.out 1
       go_wp2_with (first | ((with_reducible refine gate_callee (f := 13) rfl ?_); refine goesL_ (some 35) rfl rfl Tryd.func13 (by kernel_rfl) rfl #[.agg #[.int .i64 t259, .slice Ao14 t260.length co14], .int .i64 1] rfl (by (try simp only [List.map_toArray, List.map_cons, List.map_nil]); first | done | rfl | (simp only [List.length_drop, List.length_take]; rfl) | (simp only [show ∀ (n_ : Nat) (b_ : Int), Int.tdiv (n_ : Int) b_ = (n_ : Int) / b_ from fun n_ b_ => Int.tdiv_eq_ediv_of_nonneg (Int.natCast_nonneg n_)]; rfl)) ?_; (with_reducible refine (laws_markSystem.calls kj4 t259 (fun k_ => some k_ = (.slice Ao14 t260.length co14 : Value).ownBlock) (.slice Ao14 t260.length co14) t260 1 t266 t267 w _ ?side1 ?side2 A26.out).mono ?_); (case side1 => repeat (first | (with_reducible first | exact HB.out | apply below_alloc | apply pw_below_drewN | apply below_drew1 | refine below_set ?_ GE258.out | refine below_set ?_ GE264.out) | exact HB.out)); (case side2 => exact Kd.R_tight rfl HO_265001.out); rintro e w80 ⟨rfl, hy0, hb, hkp⟩; refine ⟨_, rfl, ?_⟩; have n0_ := Aside0.mk (Kd.R_mono (ok' := fun k_ => some k_ ≠ (.slice Ao14 t260.length co14 : Value).ownBlock) (Kd.R_keptB (HO_259001.out) hkp (fun k_ hk_ hs_ => (hk_) hs_)) (fun k_ hk_ => hk_.1)); have n1_ := Aside0.mk (Kd.R_reok rfl hy0 (fun k_ e_ => HO_265001.out.1 k_ e_)); have n2_ := Aside0.mk (blk_kept (by (with_reducible repeat (first | refine blk_drewN ?_ _ | refine blk_drew ?_ | refine blk_alloc ?_ _)); exact BK258.out) hkp (fun hs_ => (fun e_ => (Kd.R_ne HO_265001.out BK258.out (by decide)) e_) hs_)); have n3_ := Aside0.mk (blk_kept (by (with_reducible repeat (first | refine blk_drewN ?_ _ | refine blk_drew ?_ | refine blk_alloc ?_ _)); exact BK264.out) hkp (fun hs_ => (fun e_ => (Kd.R_ne HO_265001.out BK264.out (by decide)) e_) hs_)); have n4_ := Aside0.mk (hb); clear HO_259001; clear HO_265001; clear BK258; clear BK264; clear HB; have HO_259001 := n0_; have HO_265001 := n1_; have BK258 := n2_; have BK264 := n3_; have HB := n4_; clear n0_ n1_ n2_ n3_ n4_; (try clear hb); (try clear hkp); (try clear hy0); have hcz81_0 : w80.cell? ⟨gb264, 0, none⟩ = some (.int .i64 t259) := (blk_cell BK264.out 0).trans rfl; have hcz81_1 : w80.cell? ⟨gb264, 1, none⟩ = some (.slice Ao14 t260.length co14) := (blk_cell BK264.out 1).trans rfl; have hfz81_0 := blk_frozen BK264.out 0; have hfz81_1 := blk_frozen BK264.out 1) | ((with_reducible refine gate_callee (f := 14) rfl ?_); refine goesL_ (some 38) rfl rfl Tryd.func14 (by kernel_rfl) rfl #[.agg #[.int .i64 t259, .slice Ao14 t267.length co14], .int .i64 1] rfl (by (try simp only [List.map_toArray, List.map_cons, List.map_nil]); first | done | (rw [show t267.length = t260.length from (Kd.R_reads' HO_265001.out).1.symm] <;> rfl) | rfl | (simp only [List.length_drop, List.length_take]; rfl)) ?_; (with_reducible refine (laws_heldSystem.calls kj4 t259 _ _ t267 1 t268 _ ?side1 ?side2 A27.out).mono ?_); (case side1 => repeat (first | exact (Kd.R_reads' HO_265001.out).2.2 | (with_reducible refine Kd.C_alloc ?_ _) | (with_reducible refine Kd.C_drewN ?_ _) | (with_reducible refine Kd.C_drew ?_))); (case side2 => rw [show t267.length = t260.length from (Kd.R_reads' HO_265001.out).1.symm]; exact (Kd.R_reads' HO_265001.out).2.1); rintro e w82 ⟨rfl, hb⟩; refine ⟨_, rfl, ?_⟩; have n0_ := Aside0.mk (Kd.R_below (by (with_reducible repeat (first | apply Kd.R_alloc | apply Kd.R_drewN | apply Kd.R_drew)); exact HO_259001.out) hb); have n1_ := Aside0.mk (Kd.R_below (by (with_reducible repeat (first | apply Kd.R_alloc | apply Kd.R_drewN | apply Kd.R_drew)); exact HO_265001.out) hb); have n2_ := Aside0.mk (blk_below (g := gb258) (o := .cells #[.int .i64 t253, .slice Ao9 t254.length co9] 28 (0, 0)) (by (with_reducible repeat (first | refine blk_drewN ?_ _ | refine blk_drew ?_ | refine blk_alloc ?_ _)); exact BK258.out) hb); have n3_ := Aside0.mk (blk_below (g := gb264) (o := .cells #[.int .i64 t259, .slice Ao14 t260.length co14] 28 (0, 0)) (by (with_reducible repeat (first | refine blk_drewN ?_ _ | refine blk_drew ?_ | refine blk_alloc ?_ _)); exact BK264.out) hb); have n4_ := Aside0.mk (below_step (by repeat (first | (with_reducible first | exact HB.out | apply below_alloc | apply pw_below_drewN | apply below_drew1 | refine below_set ?_ GE258.out | refine below_set ?_ GE264.out) | exact HB.out)) hb); clear HO_259001; clear HO_265001; clear BK258; clear BK264; clear HB; have HO_259001 := n0_; have HO_265001 := n1_; have BK258 := n2_; have BK264 := n3_; have HB := n4_; clear n0_ n1_ n2_ n3_ n4_; (try clear hb); (try clear hb2); (try clear hk); (try clear hi)))
       go_ret
       exact ⟨by first | rfl | (simp [errW_none, errW_some] <;> rfl) | (simp [*, errW_none, errW_some] <;> rfl), by repeat (first | (with_reducible first | exact HB.out | apply below_alloc | apply pw_below_drewN | apply below_drew1 | refine below_set ?_ GE258.out | refine below_set ?_ GE264.out) | exact HB.out)⟩
def laws_FnExactReadSystem.Pure : Prop := ∀ (a0 : ByteArray), a0.size ≤ 140737488351232 → ∃ k, laws_FnExactReadSystem.f k a0 = some true
theorem laws_FnExactReadSystem.walk (P : laws_FnExactReadSystem.Pure) (a0 : ByteArray) (w : World) (w0 : a0.size ≤ 140737488351232) (hT_ : RdTab w) :
  Calls Tryd.prog 4 #[.string a0] w fun e w' => e = .returned (.bool true) ∧ Below w.heap.size w w' := by
 obtain ⟨k, h⟩ := P a0 w0
 refine (laws_FnExactReadSystem.calls k a0 true w h hT_).mono ?_
 rintro e w' ⟨rfl, hd⟩
 exact ⟨rfl, hd⟩
end Go.Proofs.YtdlnhddpgopghaaDoor.Q
namespace Go.Proofs.YtdlnhddpgopghaaDoor.Com
open Go.RowKit Go.Proofs.YtdlnhddpgopghaaDoorW.PrintWords
theorem w64 {x : Int} (h1 : -9223372036854775808 ≤ x) (h2 : x ≤ 9223372036854775807) : wrap64 x = x := by
 unfold wrap64
 omega
theorem ev_of {α : Type} {g : Nat → Option α} {r : α} (h : Ev g r) : ∃ k, g k = some r := h.rounds
theorem ev_bind' {α β : Type} {o : Option α} {f : Nat → α → Option β} {a : α} {r : β} (h : o = some a) (k : Ev (fun n => f n a) r) : Ev (fun n => o.bind (f n)) r := by
 subst h
 exact k
theorem tdiv_nn {a b : Int} (h : 0 ≤ a) : Int.tdiv a b = a / b := Int.tdiv_eq_ediv_of_nonneg h
theorem tmod_nn {a b : Int} (h : 0 ≤ a) : Int.tmod a b = a % b := Int.tmod_eq_emod_of_nonneg h
end Go.Proofs.YtdlnhddpgopghaaDoor.Com
namespace Go.Proofs.YtdlnhddpgopghaaDoor.Com
set_option linter.unusedSimpArgs false
set_option linter.unusedVariables false
open Go.RowKit Go.Proofs.YtdlnhddpgopghaaDoorW.PrintWords
theorem ev_fold {α σ ρ : Type} (xs : List α) (g : Nat → σ → Nat → Option ρ) (F : List α → σ → ρ) (Inv : Nat → σ → Prop)
  (h0 : ∀ s, Inv xs.length s → Ev (g xs.length s) (F [] s))
  (hs : ∀ m (h : m < xs.length) s, Inv m s → (∀ s', Inv (m + 1) s' → Ev (g (m + 1) s') (F (xs.drop (m + 1)) s')) → Ev (g m s) (F (xs[m] :: xs.drop (m + 1)) s)) :
  ∀ m s, m ≤ xs.length → Inv m s → Ev (g m s) (F (xs.drop m) s) := by
 have key : ∀ d m s, m + d = xs.length → Inv m s → Ev (g m s) (F (xs.drop m) s) := by
  intro d
  induction d with
  | zero =>
   intro m s e hi
   obtain rfl : m = xs.length := by omega
   rw [List.drop_length]
   exact h0 s hi
  | succ d ih =>
   intro m s e hi
   have h : m < xs.length := by omega
   rw [List.drop_eq_getElem_cons h]
   exact hs m h s hi (fun s' hi' => ih (m + 1) s' (by omega) hi')
 intro m s hm hi
 exact key (xs.length - m) m s (by omega) hi
theorem ev_list {α ρ : Type} (xs : List α) (g : Nat → Nat → Option ρ) (F : List α → ρ) (h0 : Ev (g xs.length) (F []))
  (hs : ∀ m (h : m < xs.length), Ev (g (m + 1)) (F (xs.drop (m + 1))) → Ev (g m) (F (xs[m] :: xs.drop (m + 1)))) (m : Nat) (hm : m ≤ xs.length) : Ev (g m) (F (xs.drop m)) :=
 ev_fold xs (fun m (_ : Unit) => g m) (fun l _ => F l) (fun _ _ => True) (fun _ _ => h0) (fun m h _ _ ih => hs m h (ih () trivial)) m () hm trivial
theorem ev_count {σ ρ : Type} (n : Nat) (g : Nat → σ → Nat → Option ρ) (r : ρ) (Inv : Nat → σ → Prop) (h0 : ∀ s, Inv n s → Ev (g n s) r)
  (hs : ∀ m s, m < n → Inv m s → ∃ s', Inv (m + 1) s' ∧ (Ev (g (m + 1) s') r → Ev (g m s) r)) : ∀ m s, m ≤ n → Inv m s → Ev (g m s) r := by
 have key : ∀ d m s, m + d = n → Inv m s → Ev (g m s) r := by
  intro d
  induction d with
  | zero =>
   intro m s e hi
   obtain rfl : m = n := by omega
   exact h0 s hi
  | succ d ih =>
   intro m s e hi
   obtain ⟨s', hi', k⟩ := hs m s (by omega) hi
   exact k (ih (m + 1) s' (by omega) hi')
 intro m s hm hi
 exact key (n - m) m s (by omega) hi
theorem rd_nat {xs : List Int} {m : Nat} (h : m < xs.length) : rd xs (m : Int) = xs[m] := by
 unfold rd
 rw [Int.toNat_natCast, List.getD_eq_getElem?_getD, List.getElem?_eq_getElem h]
 rfl
theorem w_succ {m : Nat} (h : m < 9223372036854775807) : wrap64 ((m : Int) + 1) = ((m + 1 : Nat) : Int) := by
 rw [w64 (by omega) (by omega)]
 omega
theorem w_pred {m : Nat} (h : 0 < m) (h' : m < 9223372036854775807) : wrap64 ((m : Int) - 1) = ((m - 1 : Nat) : Int) := by
 rw [w64 (by omega) (by omega)]
 omega
end Go.Proofs.YtdlnhddpgopghaaDoor.Com
namespace Go.Proofs.YtdlnhddpgopghaaDoor.Com
set_option linter.unusedSimpArgs false
set_option linter.unusedVariables false
open Go.RowKit Go.Proofs.YtdlnhddpgopghaaDoorW.PrintWords Go.Proofs.YtdlnhddpgopghaaDoor.Q
theorem within_tells (x a b : Int) : impl_within.f x a b = some (decide (a ≤ x ∧ x ≤ b)) := by
 unfold impl_within.f
 split <;> simp [*]
theorem in_tells (x a b : Int) : spec_l00In.f x a b = some (decide (a ≤ x ∧ x ≤ b)) := by
 unfold spec_l00In.f
 by_cases h : x ≥ a
 ·have h' : a ≤ x := h
  simp [h, h']
 ·have h' : ¬ a ≤ x := h
  simp [h, h']
end Go.Proofs.YtdlnhddpgopghaaDoor.Com
namespace Go.Proofs.YtdlnhddpgopghaaDoor.Com
set_option linter.unusedSimpArgs false
set_option linter.unusedVariables false
open Go.RowKit Go.Proofs.YtdlnhddpgopghaaDoorW.PrintWords Go.Proofs.YtdlnhddpgopghaaDoor.Q
theorem eqInt64S_ev (xs ys : List Int) (hx : xs.length ≤ 1048576) : Ev (fun k => laws_eqInt64S.f k xs ys) (decide (xs = ys)) := by
 unfold laws_eqInt64S.f
 by_cases hl : (xs.length : Int) = (ys.length : Int)
 ·simp only [if_pos hl]
  have key : ∀ m, m ≤ xs.length → Ev (fun k => laws_eqInt64S.l0 k xs ys (m : Int)) (decide (xs.drop m = ys.drop m)) := by
   have gen := ev_list xs (fun m k => laws_eqInt64S.l0 k xs ys (m : Int)) (fun l => decide (l = ys.drop (xs.length - l.length))) ?_ ?_
   ·intro m hm
    have := gen m hm
    rwa [List.length_drop, show xs.length - (xs.length - m) = m by omega] at this
   ·refine Ev.step (fun k => by rw [laws_eqInt64S.l0]) ?_
    simp only [if_neg (show ¬ (xs.length : Int) < (xs.length : Int) by omega)]
    have : ys.drop (xs.length - ([] : List Int).length) = [] := by simp; omega
    rw [this]
    exact Ev.now _
   ·intro m hm ih
    refine Ev.step (fun k => by rw [laws_eqInt64S.l0]) ?_
    have hy : m < ys.length := by omega
    simp only [if_pos (show (m : Int) < (xs.length : Int) by omega), if_pos (show 0 ≤ (m : Int) by omega), if_pos (show (m : Int) < (ys.length : Int) by omega), rd_nat hm, rd_nat hy, w_succ (m := m) (by omega)]
    rw [List.length_drop, show xs.length - (xs.length - (m + 1)) = m + 1 by omega] at ih
    have e : xs.length - (xs[m] :: xs.drop (m + 1)).length = m := by simp; omega
    rw [e, List.drop_eq_getElem_cons hy]
    by_cases c : xs[m] = ys[m]
    ·simp only [if_pos c]
     rw [show decide (xs[m] :: xs.drop (m + 1) = ys[m] :: ys.drop (m + 1)) = decide (xs.drop (m + 1) = ys.drop (m + 1)) from decide_eq_decide.2 (by rw [c]; exact ⟨fun h => (List.cons.inj h).2, fun h => by rw [h]⟩)]
     exact ih
    ·simp only [if_neg c]
     rw [decide_eq_false (show ¬ xs[m] :: xs.drop (m + 1) = ys[m] :: ys.drop (m + 1) from fun h => c (List.cons.inj h).1)]
     exact Ev.now _
  have := key 0 (by omega)
  simpa using this
 ·simp only [if_neg hl]
  have : xs ≠ ys := fun e => hl (by rw [e])
  rw [decide_eq_false this]
  exact Ev.now _
end Go.Proofs.YtdlnhddpgopghaaDoor.Com
namespace Go.Proofs.YtdlnhddpgopghaaDoor.Com
set_option linter.unusedSimpArgs false
set_option linter.unusedVariables false
open Go.RowKit Go.Proofs.YtdlnhddpgopghaaDoorW.PrintWords Go.Proofs.YtdlnhddpgopghaaDoorW.PrintMore
theorem wraps_i64 (n : Int) (h₀ : 0 ≤ n) (h₁ : n < 2 ^ 63) : IntKind.i64.wrap n = n := by rw [IntKind.wrap_i64]; omega
theorem and_nat (a b : Nat) (ha : a < 4096) (hb : b < 4096) : Go.bits .and .i64 (a : Int) (b : Int) = ((a &&& b : Nat) : Int) :=
 (Go.bits_nat .i64 63 (by decide) wraps_i64 a b (by omega) (by omega)).1
theorem or_nat (a b : Nat) (ha : a < 4096) (hb : b < 4096) : Go.bits .or .i64 (a : Int) (b : Int) = ((a ||| b : Nat) : Int) :=
 (Go.bits_nat .i64 63 (by decide) wraps_i64 a b (by omega) (by omega)).2
theorem uw (n : Int) (h : 0 ≤ n ∧ n ≤ 4096) : IntKind.u64.wrap n = n := by
 simp [IntKind.wrap, IntKind.bits, IntKind.signed]
 omega
theorem shl_one (p : Nat) (h : p ≤ 12) : shl .i64 1 (p : Int) = 2 ^ p := by
 have : ∀ q : Fin 13, shl .i64 1 (q.val : Int) = 2 ^ q.val := by decide +kernel
 exact this ⟨p, by omega⟩
theorem pow_bd {p : Nat} (h : p ≤ 12) : 1 ≤ 2 ^ p ∧ 2 ^ p ≤ 4096 := by
 have : ∀ q : Fin 13, 1 ≤ 2 ^ q.val ∧ 2 ^ q.val ≤ 4096 := by decide
 exact this ⟨p, by omega⟩
def bitAt (s p : Nat) : Nat := s / 2 ^ p % 2
theorem bitAt_le (s p : Nat) : bitAt s p ≤ 1 := by unfold bitAt; omega
theorem bit_tells (s p : Nat) (hs : s < 4096) (hp : p ≤ 12) : Go.bits .and .i64 (shr .i64 (s : Int) (p : Int)) 1 = ((bitAt s p : Nat) : Int) := by
 have e : shr .i64 (s : Int) (p : Int) = ((s / 2 ^ p : Nat) : Int) := by
  unfold shr
  rw [Int.toNat_natCast, Nat.min_eq_left (by have : IntKind.i64.bits = 64 := rfl; omega)]
  exact_mod_cast rfl
 have hlt : s / 2 ^ p < 4096 := Nat.lt_of_le_of_lt (Nat.div_le_self _ _) hs
 rw [e]
 have := and_nat (s / 2 ^ p) 1 hlt (by omega)
 rw [Nat.and_one_is_mod] at this
 exact this
end Go.Proofs.YtdlnhddpgopghaaDoor.Com
namespace Go.Proofs.YtdlnhddpgopghaaDoor.Com
set_option linter.unusedSimpArgs false
set_option linter.unusedVariables false
open Go.RowKit Go.Proofs.YtdlnhddpgopghaaDoorW.PrintWords Go.Proofs.YtdlnhddpgopghaaDoorW.PrintMore Go.Proofs.YtdlnhddpgopghaaDoor.Q
def full (p : Int) : Int := wrap64 (shl .i64 1 p - 1)
theorem full_nat (p : Nat) (h : p ≤ 12) : full (p : Int) = ((2 ^ p - 1 : Nat) : Int) := by
 have : ∀ q : Fin 13, full (q.val : Int) = ((2 ^ q.val - 1 : Nat) : Int) := by decide +kernel
 exact this ⟨p, by omega⟩
def validSys (p : Int) (l : List Int) : Bool := decide (0 ≤ p ∧ p ≤ 12) && decide ((l.length : Int) ≤ 12) && l.all fun x => decide (0 ≤ x ∧ x ≤ full p)
theorem validSys_of {p : Int} {l : List Int} (h : validSys p l = true) : (∃ q : Nat, p = (q : Int) ∧ q ≤ 12) ∧ l.length ≤ 12 ∧ ∀ x ∈ l, 0 ≤ x ∧ x ≤ full p := by
 unfold validSys at h
 simp only [Bool.and_eq_true, decide_eq_true_eq, List.all_eq_true] at h
 exact ⟨⟨p.toNat, by omega, by omega⟩, by omega, h.2⟩
theorem set_tells (p x : Int) (hp : 0 ≤ p ∧ p ≤ 12) : spec_l10Set.f p x = some (decide (0 ≤ x ∧ x ≤ full p)) := by
 unfold spec_l10Set.f full
 rw [uw p (by omega), if_pos hp.1, in_tells]
 rfl
theorem specIs_ev (p : Int) (l : List Int) (hx : l.length ≤ 1048576) : Ev (fun k => spec_l10Is.f k p l) (validSys p l) := by
 unfold spec_l10Is.f validSys
 simp only [in_tells, Option.bind_some, decide_eq_true_eq]
 have jf : Ev (fun k => spec_l10Is.j0 k true p l) false := Ev.step (fun k => by rw [spec_l10Is.j0]) (by simp only [if_true]; exact Ev.now _)
 by_cases h1 : 0 ≤ p ∧ p ≤ 12
 ·simp only [if_pos h1, decide_eq_true h1, Bool.true_and]
  by_cases h2 : (l.length : Int) ≤ 12
  ·rw [decide_eq_false (show ¬ (l.length : Int) > 12 by omega), decide_eq_true h2, Bool.true_and]
   refine Ev.step (fun k => by rw [spec_l10Is.j0]) ?_
   simp only [Bool.false_eq_true, if_false]
   have gen := ev_list l (fun m k => spec_l10Is.l0 k (m : Int) p l) (fun r => r.all fun x => decide (0 ≤ x ∧ x ≤ full p)) ?_ ?_ 0 (by omega)
   ·exact gen
   ·refine Ev.step (fun k => by rw [spec_l10Is.l0]) ?_
    simp only [if_neg (show ¬ (l.length : Int) < (l.length : Int) by omega)]
    exact Ev.now _
   ·intro m hm ih
    refine Ev.step (fun k => by rw [spec_l10Is.l0]) ?_
    simp only [if_pos (show (m : Int) < (l.length : Int) by omega), if_pos (show 0 ≤ (m : Int) by omega), rd_nat hm, set_tells p _ h1, Option.bind_some, w_succ (m := m) (by omega), decide_eq_true_eq]
    rw [List.all_cons]
    by_cases c : 0 ≤ l[m] ∧ l[m] ≤ full p
    ·simp only [if_pos c, decide_eq_true c, Bool.true_and]
     exact ih
    ·simp only [if_neg c, decide_eq_false c, Bool.false_and]
     exact Ev.now _
  ·rw [decide_eq_true (show (l.length : Int) > 12 by omega), decide_eq_false h2, Bool.false_and]
   exact jf
 ·simp only [if_neg h1, decide_eq_false h1, Bool.false_and]
  exact jf
theorem implValidSys_tells (p : Int) (l : List Int) : impl_ValidSystem.f p l = some (validSys p l) := by
 unfold impl_ValidSystem.f validSys impl_areWithin.f full
 rw [within_tells]
 simp only [Option.bind_some, decide_eq_true_eq]
 by_cases h1 : 0 ≤ p ∧ p ≤ 12
 ·rw [if_pos h1, decide_eq_true h1, if_pos h1.1]
  by_cases h2 : (l.length : Int) ≤ 12
  ·rw [if_pos h2, decide_eq_true h2]
   rfl
  ·rw [if_neg h2, decide_eq_false h2]
   rfl
 ·rw [if_neg h1, decide_eq_false h1]
  rfl
theorem eqSystem_ev (p : Int) (l : List Int) (hx : l.length ≤ 1048576) : Ev (fun k => laws_eqSystem.f k p l p l) true := by
 unfold laws_eqSystem.f
 simp only [if_true]
 refine Ev.bind (eqInt64S_ev l l hx) ?_
 simp
 exact Ev.now _
end Go.Proofs.YtdlnhddpgopghaaDoor.Com
namespace Go.Proofs.YtdlnhddpgopghaaDoor.Com
set_option linter.unusedSimpArgs false
set_option linter.unusedVariables false
open Go.RowKit Go.Proofs.YtdlnhddpgopghaaDoorW.PrintWords Go.Proofs.YtdlnhddpgopghaaDoorW.PrintMore Go.Proofs.YtdlnhddpgopghaaDoor.Q
def bytesOf (s : List Int) : List UInt8 := s.map fun n => UInt8.ofNat n.toNat
theorem str_bytes (s : List Int) : strOfNums s = ⟨(bytesOf s).toArray⟩ := by
 apply ByteArray.ext
 simp [strOfNums, bytesOf]
theorem str_app (a b : List Int) : strOfNums a ++ strOfNums b = strOfNums (a ++ b) := by
 apply ByteArray.ext
 simp [strOfNums, ByteArray.data_append]
def digs (n : Nat) : List Int := if h : n < 10 then [48 + (n : Int)] else digs (n / 10) ++ [48 + ((n % 10 : Nat) : Int)]
termination_by n
decreasing_by omega
theorem digs_lt {n : Nat} (h : n < 10) : digs n = [48 + (n : Int)] := by rw [digs, dif_pos h]
theorem digs_ge {n : Nat} (h : ¬ n < 10) : digs n = digs (n / 10) ++ [48 + ((n % 10 : Nat) : Int)] := by rw [digs, dif_neg h]
theorem digs_len (d : Nat) : ∀ n, n < 10 ^ (d + 1) → (digs n).length ≤ d + 1 := by
 induction d with
 | zero => intro n h; rw [digs_lt (by simpa using h)]; simp
 | succ d ih =>
  intro n h
  by_cases q : n < 10
  ·rw [digs_lt q]; simp
  ·rw [digs_ge q, List.length_append, List.length_singleton]
   have := ih (n / 10) (by rw [Nat.pow_succ] at h; omega)
   omega
theorem digs_bytes (n : Nat) : Go.Lib.decDigits n = bytesOf (digs n) := by
 induction n using Nat.strongRecOn with
 | _ n ih =>
  rw [Go.Lib.decDigits]
  by_cases q : n < 10
  ·rw [dif_pos q, digs_lt q]
   show [UInt8.ofNat (48 + n)] = [UInt8.ofNat (48 + (n : Int)).toNat]
   rw [show (48 + (n : Int)).toNat = 48 + n by omega]
  ·rw [dif_neg q, digs_ge q, ih (n / 10) (by omega)]
   unfold bytesOf
   rw [List.map_append]
   show _ ++ [UInt8.ofNat (48 + n % 10)] = _ ++ [UInt8.ofNat (48 + ((n % 10 : Nat) : Int)).toNat]
   rw [show (48 + ((n % 10 : Nat) : Int)).toNat = 48 + n % 10 by omega]
theorem specDec_key (d : Nat) : ∀ (n : Nat) (s : List Int) (a : Int), n < 10 ^ (d + 1) → d ≤ 17 → s.length + d ≤ 1000 → 0 ≤ a → Ev (fun k => spec_l01Dec.l0 k a (strOfNums s) (n : Int)) (strOfNums (digs n ++ s)) := by
 induction d with
 | zero =>
  intro n s a h hd hs ha
  have q : n < 10 := by simpa using h
  refine Ev.step (fun k => by rw [spec_l01Dec.l0]) ?_
  rw [tmod_nn (by omega), tdiv_nn (by omega), show (n : Int) % 10 = (n : Int) by omega, show (n : Int) / 10 = 0 by omega, digs_lt q]
  rw [w64 (x := 48 + (n : Int)) (by omega) (by omega), w64 (x := 0) (by omega) (by omega), show (48 + (n : Int)) % 256 = 48 + (n : Int) by omega]
  simp only [if_neg (show ¬ (n : Int) < 0 by omega), Option.bind_some, strOfNums_size, List.length_singleton, if_pos (show 1 + s.length ≤ 9223372036854775807 by omega), if_true, if_neg (show ¬ a < 0 by omega), str_app]
  exact Ev.now _
 | succ d ih =>
  intro n s a h hd hs ha
  refine Ev.step (fun k => by rw [spec_l01Dec.l0]) ?_
  rw [tmod_nn (by omega), tdiv_nn (by omega)]
  have hb : n < 10 ^ 19 := Nat.lt_of_lt_of_le h (Nat.pow_le_pow_right (by omega) (by omega))
  rw [w64 (x := 48 + (n : Int) % 10) (by omega) (by omega), w64 (x := (n : Int) / 10) (by omega) (by omega), show (48 + (n : Int) % 10) % 256 = 48 + (n : Int) % 10 by omega]
  simp only [if_neg (show ¬ (n : Int) % 10 < 0 by omega), Option.bind_some, strOfNums_size, List.length_singleton, if_pos (show 1 + s.length ≤ 9223372036854775807 by omega), if_neg (show ¬ a < 0 by omega), str_app]
  by_cases q : n < 10
  ·simp only [if_pos (show (n : Int) / 10 = 0 by omega)]
   rw [digs_lt q, show (n : Int) % 10 = (n : Int) by omega]
   exact Ev.now _
  ·simp only [if_neg (show ¬ (n : Int) / 10 = 0 by omega)]
   rw [digs_ge q, List.append_assoc]
   have := ih (n / 10) ([48 + ((n % 10 : Nat) : Int)] ++ s) a (by rw [Nat.pow_succ] at h; omega) (by omega) (by rw [List.length_append]; simp; omega) ha
   rw [show ((n / 10 : Nat) : Int) = (n : Int) / 10 by omega, show ((n % 10 : Nat) : Int) = (n : Int) % 10 by omega] at this
   rw [show ((n % 10 : Nat) : Int) = (n : Int) % 10 by omega]
   exact this
theorem specDec_ev (n : Nat) (h : n < 1000000000000000000) : Ev (fun k => spec_l01Dec.f k (n : Int)) (strOfNums (digs n)) := by
 have h18 : n < 10 ^ (17 + 1) := h
 have := specDec_key 17 n [] (n : Int) h18 (by omega) (by simp) (by omega)
 rw [List.append_nil] at this
 exact this
end Go.Proofs.YtdlnhddpgopghaaDoor.Com
namespace Go.Proofs.YtdlnhddpgopghaaDoor.Com
set_option linter.unusedSimpArgs false
set_option linter.unusedVariables false
set_option linter.unusedSectionVars false
open Go.RowKit Go.Proofs.YtdlnhddpgopghaaDoorW.PrintWords Go.Proofs.YtdlnhddpgopghaaDoorW.PrintMore Go.Proofs.YtdlnhddpgopghaaDoor.Q
def hasB (s : Int) (i : Nat) : Bool := decide (Go.bits .and .i64 (shr .i64 s (i : Int)) 1 = 1)
def chars (s : Int) : List Nat → List Int
 | [] => []
 | i :: r => (if hasB s i = true then [97 + (i : Int)] else []) ++ chars s r
theorem chars_len (s : Int) (l : List Nat) : (chars s l).length ≤ l.length := by
 induction l with
 | nil => exact Nat.le_refl _
 | cons i r ih =>
  unfold chars
  rw [List.length_append, List.length_cons]
  split <;> simp <;> omega
theorem hasB_zero (i : Nat) (h : i ≤ 12) : hasB 0 i = false := by
 unfold hasB
 have := bit_tells 0 i (by omega) h
 rw [show ((0 : Nat) : Int) = 0 from rfl] at this
 rw [this]
 simp [bitAt]
theorem chars_zero (l : List Nat) (h : ∀ i ∈ l, i ≤ 12) : chars 0 l = [] := by
 induction l with
 | nil => rfl
 | cons i r ih =>
  unfold chars
  rw [hasB_zero i (h i List.mem_cons_self), ih (fun x hx => h x (List.mem_cons_of_mem _ hx))]
  rfl
def word (P : Nat) (s : Int) : List Int := if s = 0 then [45] else chars s (List.range P)
theorem word_len (P : Nat) (s : Int) (h : P ≤ 12) : (word P s).length ≤ 12 := by
 unfold word
 split
 ·simp
 ·have := chars_len s (List.range P)
  rw [List.length_range] at this
  omega
def rest (P : Nat) : Bool → List Int → List Int
 | _, [] => []
 | f, s :: r => (if f = true then [] else [44]) ++ (word P s ++ rest P false r)
theorem rest_join (P : Nat) (l : List Int) : bytesOf (rest P true l) = Go.Lib.join (l.map fun s => bytesOf (word P s)) [44] := by
 unfold Go.Lib.join
 cases l with
 | nil => rfl
 | cons s r =>
  have key : ∀ (r : List Int) (s : Int), bytesOf (word P s ++ rest P false r) = List.intercalate [44] ((s :: r).map fun s => bytesOf (word P s)) := by
   intro r
   induction r with
   | nil => intro s; simp [rest, bytesOf, List.intercalate]
   | cons t r ih =>
    intro s
    have := ih t
    simp only [rest, Bool.false_eq_true, if_false, List.map_cons] at this ⊢
    rw [show List.intercalate [44] (bytesOf (word P s) :: bytesOf (word P t) :: r.map fun s => bytesOf (word P s)) = bytesOf (word P s) ++ [44] ++ List.intercalate [44] (bytesOf (word P t) :: r.map fun s => bytesOf (word P s)) by simp [List.intercalate]]
    rw [← this]
    simp [bytesOf]
  have := key r s
  simpa [rest] using this
theorem dec12_len (q : Nat) (h : q ≤ 12) : (digs q).length ≤ 2 := digs_len 1 q (by omega)
theorem implDec_tells (q : Nat) (h : q ≤ 12) : impl_Decimal.f (q : Int) = some (strOfNums (digs q)) := by
 unfold impl_Decimal.f
 rw [if_pos (by omega), Int.toNat_natCast, digs_bytes, ← str_bytes]
section
variable {P : Nat} {l : List Int} (hP : P ≤ 12) (hl : l.length ≤ 12)
include hP hl
theorem specChars_ev (m : Nat) (hm : m < l.length) (G : List Int → ByteArray) (s : List Int) (hs : s.length ≤ 1000)
  (cont : ∀ s', s'.length ≤ s.length + 12 → Ev (fun k => spec_l10Text.l0 k (strOfNums s') (wrap64 ((m : Int) + 1)) (P : Int) l) (G s')) :
  Ev (fun k => spec_l10Text.l1 k (strOfNums s) (m : Int) 0 (P : Int) l) (G (s ++ chars l[m] (List.range P))) := by
 have gen := ev_fold (List.range P) (fun j (s : List Int) k => spec_l10Text.l1 k (strOfNums s) (m : Int) (j : Int) (P : Int) l) (fun d s => G (s ++ chars l[m] d)) (fun j t => t.length ≤ s.length + j) ?_ ?_ 0 s (by omega) (by omega)
 ·exact gen
 ·intro s hs
  rw [List.length_range] at hs
  refine Ev.step (fun k => by rw [spec_l10Text.l1]) ?_
  simp only [List.length_range, if_neg (show ¬ (P : Int) < (P : Int) by omega), chars, List.append_nil]
  exact cont s (by omega)
 ·intro j hj s hs ih
  have hj' : j < P := by simpa using hj
  refine Ev.step (fun k => by rw [spec_l10Text.l1]) ?_
  rw [List.getElem_range]
  have hz := strOfNums_size s
  simp only [if_pos (show (j : Int) < (P : Int) by omega), if_pos (show 0 ≤ (m : Int) by omega), if_pos (show (m : Int) < (l.length : Int) by omega), rd_nat hm, uw (j : Int) (by omega), if_pos (show 0 ≤ (j : Int) by omega), w_succ (m := j) (by omega), Option.bind_some]
  unfold chars
  by_cases c : Go.bits .and .i64 (shr .i64 l[m] (j : Int)) 1 = 1
  ·have hb : hasB l[m] j = true := by unfold hasB; exact decide_eq_true c
   rw [w64 (x := 97 + (j : Int)) (by omega) (by omega), show (97 + (j : Int)) % 256 = 97 + (j : Int) by omega]
   simp only [if_pos c, if_pos hb, str_app, strOfNums_size, List.length_singleton, if_pos (show s.length + 1 ≤ 9223372036854775807 by omega)]
   have := ih (s ++ [97 + (j : Int)]) (by rw [List.length_append]; simp; omega)
   rw [List.append_assoc] at this
   exact this
  ·have hb : hasB l[m] j = false := by unfold hasB; exact decide_eq_false c
   simp only [if_neg c, hb, Bool.false_eq_true, if_false, List.nil_append]
   exact ih s (by omega)
theorem specSets_ev (s : List Int) (hs : s.length ≤ 10) : Ev (fun k => spec_l10Text.l0 k (strOfNums s) 0 (P : Int) l) (strOfNums (s ++ rest P true l)) := by
 have gen := ev_fold l (fun m (st : List Int × Bool) k => spec_l10Text.l0 k (strOfNums st.1) (m : Int) (P : Int) l) (fun d st => strOfNums (st.1 ++ rest P st.2 d)) (fun m st => st.1.length ≤ 10 + 20 * m ∧ st.2 = decide (m = 0)) ?_ ?_ 0 (s, true) (by omega) ⟨by simp; omega, rfl⟩
 ·exact gen
 ·rintro ⟨s, f⟩ ⟨hs, _⟩
  refine Ev.step (fun k => by rw [spec_l10Text.l0]) ?_
  simp only [if_neg (show ¬ (l.length : Int) < (l.length : Int) by omega), rest, List.append_nil]
  exact Ev.now _
 ·rintro m hm ⟨s, f⟩ ⟨hs, hf⟩ ih
  simp only at hs hf
  refine Ev.step (fun k => by rw [spec_l10Text.l0]) ?_
  have hz := strOfNums_size s
  simp only [if_pos (show (m : Int) < (l.length : Int) by omega)]
  have j1 : ∀ s1 : List Int, s1.length ≤ 11 + 20 * m → Ev (fun k => spec_l10Text.j1 k (strOfNums s1) (m : Int) (P : Int) l) (strOfNums (s1 ++ (word P l[m] ++ rest P false (l.drop (m + 1))))) := by
   intro s1 h1
   have hz1 := strOfNums_size s1
   refine Ev.step (fun k => by rw [spec_l10Text.j1]) ?_
   simp only [if_pos (show 0 ≤ (m : Int) by omega), if_pos (show (m : Int) < (l.length : Int) by omega), rd_nat hm]
   have j2 : ∀ s2 : List Int, s2.length ≤ 12 + 20 * m → Ev (fun k => spec_l10Text.j2 k (strOfNums s2) (m : Int) (P : Int) l) (strOfNums (s2 ++ chars l[m] (List.range P) ++ rest P false (l.drop (m + 1)))) := by
    intro s2 h2
    refine Ev.step (fun k => by rw [spec_l10Text.j2]) ?_
    exact specChars_ev hP hl m hm (fun s' => strOfNums (s' ++ rest P false (l.drop (m + 1)))) s2 (by omega) (fun s' h' => by
     rw [w_succ (m := m) (by omega)]
     exact ih (s', false) ⟨by simp only; omega, (decide_eq_false (by omega)).symm⟩)
   by_cases c : l[m] = 0
   ·rw [show word P l[m] = [45] by unfold word; rw [if_pos c]]
    simp only [if_pos c, if_pos (show (strOfNums s1).size + 1 ≤ 9223372036854775807 by omega)]
    rw [show strOfNums s1 ++ (⟨#[45]⟩ : ByteArray) = strOfNums (s1 ++ [45]) from by rw [← str_app]; rfl]
    have := j2 (s1 ++ [45]) (by rw [List.length_append]; simp; omega)
    rw [c, chars_zero _ (fun i hi => by have := List.mem_range.1 hi; omega)] at this
    simpa [List.append_assoc] using this
   ·rw [show word P l[m] = chars l[m] (List.range P) by unfold word; rw [if_neg c]]
    simp only [if_neg c]
    have := j2 s1 (by omega)
    rwa [List.append_assoc] at this
  by_cases c : (m : Int) > 0
  ·have hf' : f = false := by rw [hf]; exact decide_eq_false (by omega)
   subst hf'
   simp only [if_pos c, if_pos (show (strOfNums s).size + 1 ≤ 9223372036854775807 by omega), rest, Bool.false_eq_true, if_false]
   rw [show strOfNums s ++ (⟨#[44]⟩ : ByteArray) = strOfNums (s ++ [44]) from by rw [← str_app]; rfl]
   have := j1 (s ++ [44]) (by rw [List.length_append]; simp; omega)
   rwa [List.append_assoc] at this
  ·have hf' : f = true := by rw [hf]; exact decide_eq_true (by omega)
   subst hf'
   simp only [if_neg c, rest, if_true, List.nil_append]
   exact j1 s (by omega)
def wordsOf (P : Nat) (d : List Int) : List ByteArray := d.map fun s => strOfNums (word P s)
theorem words_data (P : Nat) (d : List Int) : (wordsOf P d).map (·.data.toList) = d.map fun s => bytesOf (word P s) := by
 unfold wordsOf
 rw [List.map_map]
 refine List.map_congr_left fun s _ => ?_
 simp [str_bytes]
theorem rest_len (f : Bool) (d : List Int) : (rest P f d).length ≤ 13 * d.length := by
 induction d generalizing f with
 | nil => simp [rest]
 | cons s r ih =>
  have := ih false
  have hw := word_len P s hP
  unfold rest
  rw [List.length_append, List.length_append, List.length_cons]
  split <;> simp <;> omega
theorem implJoin : strings_Join.f (wordsOf P l) (⟨#[44]⟩ : ByteArray) = some (strOfNums (rest P true l)) := by
 unfold strings_Join.f
 rw [words_data hP hl P l, show ((⟨#[44]⟩ : ByteArray).data.toList) = ([44] : List UInt8) from rfl, ← rest_join]
 have h1 := rest_len hP hl true l
 have h2 : (wordsOf P l).length = l.length := by unfold wordsOf; rw [List.length_map]
 have h3 : (bytesOf (rest P true l)).length = (rest P true l).length := by unfold bytesOf; rw [List.length_map]
 rw [if_pos ⟨by omega, by omega⟩, str_bytes]
theorem implChars_ev (m : Nat) (hm : m < l.length) (ws : List ByteArray) (hw : ws.length ≤ 12) (G : ByteArray × Bool)
  (cont : Ev (fun k => impl_SystemText.l0 k (ws ++ [strOfNums (word P l[m])]) l (l.length : Int) (wrap64 ((m : Int) + 1)) (P : Int) l) G) :
  Ev (fun k => impl_SystemText.l1 k ws l[m] [] l (l.length : Int) (m : Int) (P : Int) 0 (P : Int) l) G := by
 have gen := ev_fold (List.range P) (fun j (t : List Int) k => impl_SystemText.l1 k ws l[m] t l (l.length : Int) (m : Int) (P : Int) (j : Int) (P : Int) l) (fun d t => G) (fun j t => t.length ≤ j ∧ t ++ chars l[m] ((List.range P).drop j) = chars l[m] (List.range P)) ?_ ?_ 0 [] (by omega) ⟨by simp, by simp⟩
 ·exact gen
 ·rintro t ⟨ht, he⟩
  refine Ev.step (fun k => by rw [impl_SystemText.l1]) ?_
  rw [List.drop_length, show chars l[m] [] = [] from rfl, List.append_nil] at he
  simp only [List.length_range, if_neg (show ¬ (P : Int) < (P : Int) by omega), if_pos (show ws.length < 8796093022208 by omega)]
  by_cases c : l[m] = 0
  ·simp only [if_pos c]
   rw [show word P l[m] = [45] by unfold word; rw [if_pos c]] at cont
   exact cont
  ·simp only [if_neg c]
   rw [show word P l[m] = chars l[m] (List.range P) by unfold word; rw [if_neg c]] at cont
   rw [he]
   exact cont
 ·rintro j hj t ⟨ht, he⟩ ih
  have hj' : j < P := by simpa using hj
  refine Ev.step (fun k => by rw [impl_SystemText.l1]) ?_
  rw [List.drop_eq_getElem_cons hj, List.getElem_range, show chars l[m] (j :: List.drop (j + 1) (List.range P)) = (if hasB l[m] j = true then [97 + (j : Int)] else []) ++ chars l[m] (List.drop (j + 1) (List.range P)) from rfl] at he
  simp only [if_pos (show (j : Int) < (P : Int) by omega), if_pos (show 0 ≤ (j : Int) by omega), w_succ (m := j) (by omega)]
  by_cases c : Go.bits .and .i64 (shr .i64 l[m] (j : Int)) 1 = 1
  ·have hb : hasB l[m] j = true := by unfold hasB; exact decide_eq_true c
   rw [if_pos hb, ← List.append_assoc] at he
   rw [w64 (x := 97 + (j : Int)) (by omega) (by omega), show (97 + (j : Int)) % 256 = 97 + (j : Int) by omega]
   simp only [if_pos c, if_pos (show t.length < 140737488355328 by omega)]
   exact ih _ ⟨by rw [List.length_append]; simp; omega, he⟩
  ·have hb : hasB l[m] j = false := by unfold hasB; exact decide_eq_false c
   rw [hb] at he
   simp only [Bool.false_eq_true, if_false, List.nil_append] at he
   simp only [if_neg c]
   exact ih _ ⟨by omega, he⟩
theorem implSets_ev : Ev (fun k => impl_SystemText.l0 k [] l (l.length : Int) 0 (P : Int) l) (strOfNums (digs P ++ [58] ++ rest P true l), true) := by
 have h1 := rest_len hP hl true l
 have h2 := dec12_len P hP
 have hd : strOfNums (digs P) ++ (⟨#[58]⟩ : ByteArray) = strOfNums (digs P ++ [58]) := by rw [← str_app]; rfl
 refine ev_fold l (fun m (ws : List ByteArray) k => impl_SystemText.l0 k ws l (l.length : Int) (m : Int) (P : Int) l) (fun d ws => (strOfNums (digs P ++ [58] ++ rest P true l), true)) (fun m ws => ws = wordsOf P (l.take m)) ?_ ?_ 0 [] (by omega) (by simp [wordsOf])
 ·rintro _ rfl
  refine Ev.step (fun k => by rw [impl_SystemText.l0]) ?_
  rw [List.take_length]
  simp only [if_neg (show ¬ (l.length : Int) < (l.length : Int) by omega), implDec_tells P hP, Option.bind_some, strOfNums_size, if_pos (show (digs P).length + 1 ≤ 9223372036854775807 by omega), implJoin hP hl, hd, str_app, List.length_append, List.length_singleton, if_pos (show (digs P).length + 1 + (rest P true l).length ≤ 9223372036854775807 by omega)]
  exact Ev.now _
 ·rintro m hm _ rfl ih
  refine Ev.step (fun k => by rw [impl_SystemText.l0]) ?_
  simp only [if_pos (show (m : Int) < (l.length : Int) by omega), if_pos (show 0 ≤ (m : Int) by omega), rd_nat hm]
  refine implChars_ev hP hl m hm _ (by unfold wordsOf; rw [List.length_map, List.length_take]; omega) _ ?_
  rw [w_succ (m := m) (by omega)]
  refine ih _ ?_
  rw [List.take_succ_eq_append_getElem hm]
  unfold wordsOf
  rw [List.map_append]
  rfl
end
end Go.Proofs.YtdlnhddpgopghaaDoor.Com
namespace Go.Proofs.YtdlnhddpgopghaaDoor.Com
set_option linter.unusedSimpArgs false
set_option linter.unusedVariables false
set_option linter.unusedSectionVars false
open Go.RowKit Go.Proofs.YtdlnhddpgopghaaDoorW.PrintWords Go.Proofs.YtdlnhddpgopghaaDoorW.PrintMore Go.Proofs.YtdlnhddpgopghaaDoor.Q
def mkB (l : List UInt8) : ByteArray := ⟨l.toArray⟩
theorem mkB_data (l : List UInt8) : (mkB l).data.toList = l := by simp [mkB]
theorem mkB_size (l : List UInt8) : (mkB l).size = l.length := by show l.toArray.size = _; simp
theorem mkB_ext {a : ByteArray} {l : List UInt8} (h : a.data.toList = l) : a = mkB l := ByteArray.ext (Array.toList_inj.1 (by rw [h]; simp [mkB]))
theorem mkB_self (a : ByteArray) : mkB a.data.toList = a := (mkB_ext rfl).symm
theorem toList_iff (a b : ByteArray) : (a.toList = b.toList) = (a = b) := by
 rw [ByteArray.toList_eq, ByteArray.toList_eq]
 exact propext ⟨fun h => ByteArray.ext (Array.toList_inj.1 h), fun h => by rw [h]⟩
theorem toList_nil (l : List UInt8) : ((mkB l).toList = []) = (l = []) := by rw [ByteArray.toList_eq, mkB_data]
theorem extB (l : List UInt8) (a b : Nat) : (mkB l).extract a b = mkB ((l.drop a).take (b - a)) := mkB_ext (by rw [ByteArray.data_extract, Array.toList_extract, List.extract_eq_take_drop, mkB_data])
theorem bt_mk (l : List UInt8) (m : Nat) (h : m < l.length) : bt (mkB l) (m : Int) = ((l[m]).toNat : Int) := by
 have h' : m < (mkB l).size := by rw [mkB_size]; exact h
 unfold bt
 rw [dif_pos (by rw [Int.toNat_natCast]; exact h')]
 simp [ByteArray.getElem_eq_getElem_data, mkB]
def cAt (c : UInt8) (l : List UInt8) : Nat := (l.takeWhile (· != c)).length
theorem cAt_le (c : UInt8) (l : List UInt8) : cAt c l ≤ l.length := (List.takeWhile_prefix _).length_le
theorem cAt_self (c : UInt8) (r : List UInt8) : cAt c (c :: r) = 0 := by unfold cAt; rw [List.takeWhile_cons, if_neg (by simp)]; rfl
theorem cAt_cons {c b : UInt8} (h : b ≠ c) (r : List UInt8) : cAt c (b :: r) = cAt c r + 1 := by unfold cAt; rw [List.takeWhile_cons, if_pos (by simp [h])]; simp
theorem index_c (c : UInt8) : ∀ l : List UInt8, Go.Lib.indexByte l c = if cAt c l < l.length then (cAt c l : Int) else -1
 | [] => by simp [Go.Lib.indexByte, cAt]
 | b :: r => by
  have ih := index_c c r
  have hle := cAt_le c r
  unfold Go.Lib.indexByte
  by_cases hb : b = c
  ·subst hb
   rw [cAt_self, if_pos (by simp)]
   simp
  ·rw [if_neg (by simp [hb]), ih, cAt_cons hb]
   by_cases q : cAt c r < r.length
   ·rw [if_pos q, if_neg (by simp), if_pos (by simpa using q)]
    omega
   ·rw [if_neg q, if_pos (by simp), if_neg (by simpa using q)]
theorem cAt_app (c : UInt8) : ∀ (u d : List UInt8), (∀ b ∈ u, b ≠ c) → cAt c (u ++ c :: d) = u.length
 | [], d, _ => cAt_self c d
 | b :: u, d, h => by
  rw [List.cons_append, cAt_cons (h b (by simp)), cAt_app c u d (fun x hx => h x (List.mem_cons_of_mem _ hx))]
  rfl
theorem cAt_no (c : UInt8) : ∀ (u : List UInt8), (∀ b ∈ u, b ≠ c) → cAt c u = u.length
 | [], _ => rfl
 | b :: u, h => by
  rw [cAt_cons (h b (by simp)), cAt_no c u (fun x hx => h x (List.mem_cons_of_mem _ hx))]
  rfl
def splitC (c : UInt8) : List UInt8 → List (List UInt8)
 | [] => [[]]
 | b :: r => if b = c then [] :: splitC c r else match splitC c r with
  | [] => [[b]]
  | l :: ls => (b :: l) :: ls
theorem splitC_ne (c : UInt8) : ∀ l, splitC c l ≠ []
 | [] => by simp [splitC]
 | b :: r => by
  rw [splitC]
  split
  ·simp
  ·split <;> simp
theorem splitC_len (c : UInt8) : ∀ l, (splitC c l).length = l.count c + 1
 | [] => rfl
 | b :: r => by
  have ih := splitC_len c r
  rw [splitC]
  by_cases hb : b = c
  ·rw [if_pos hb, List.length_cons, ih, hb, List.count_cons_self]
  ·rw [if_neg hb, List.count_cons_of_ne hb]
   cases hs : splitC c r with
   | nil => exact absurd hs (splitC_ne c r)
   | cons l ls => rw [hs] at ih; simpa using ih
theorem splitC_at (c : UInt8) : ∀ l, cAt c l < l.length → splitC c l = l.take (cAt c l) :: splitC c (l.drop (cAt c l + 1))
 | [], h => by simp at h
 | b :: r, h => by
  by_cases hb : b = c
  ·subst hb
   rw [cAt_self, splitC, if_pos rfl]
   simp
  ·rw [cAt_cons hb] at h ⊢
   rw [splitC, if_neg hb, splitC_at c r (by simpa using h)]
   simp
theorem splitC_last (c : UInt8) : ∀ l, ¬ cAt c l < l.length → splitC c l = [l]
 | [], _ => rfl
 | b :: r, h => by
  by_cases hb : b = c
  ·subst hb
   rw [cAt_self] at h
   simp at h
  ·rw [cAt_cons hb] at h
   rw [splitC, if_neg hb, splitC_last c r (by simpa using h)]
theorem splitC_app (c : UInt8) : ∀ (u d : List UInt8), (∀ b ∈ u, b ≠ c) → splitC c (u ++ c :: d) = u :: splitC c d
 | [], d, _ => by simp [splitC]
 | b :: u, d, h => by
  rw [List.cons_append, splitC, if_neg (h b (by simp)), splitC_app c u d (fun x hx => h x (List.mem_cons_of_mem _ hx))]
theorem splitC_no (c : UInt8) (u : List UInt8) (h : ∀ b ∈ u, b ≠ c) : splitC c u = [u] := splitC_last c u (by rw [cAt_no c u h]; omega)
theorem splitC_join (c : UInt8) : ∀ (ws : List (List UInt8)), ws ≠ [] → (∀ w ∈ ws, ∀ b ∈ w, b ≠ c) → splitC c (Go.Lib.join ws [c]) = ws
 | [], h, _ => absurd rfl h
 | [w], _, hw => by
  rw [show Go.Lib.join [w] [c] = w by simp [Go.Lib.join, List.intercalate]]
  exact splitC_no c w (hw w (by simp))
 | w :: x :: ws, _, hw => by
  have e : Go.Lib.join (w :: x :: ws) [c] = w ++ c :: Go.Lib.join (x :: ws) [c] := by simp [Go.Lib.join, List.intercalate]
  rw [e, splitC_app c _ _ (hw w (by simp)), splitC_join c (x :: ws) (by simp) (fun y hy => hw y (List.mem_cons_of_mem _ hy))]
theorem one_data (c : UInt8) : ((⟨#[c]⟩ : ByteArray).data.toList.headD 0) = c := rfl
theorem one_size (c : UInt8) : (⟨#[c]⟩ : ByteArray).size = 1 := rfl
theorem cut_tells (l : List UInt8) (c : UInt8) (hl : l.length ≤ 1048576) :
  strings_Cut.f (mkB l) ⟨#[c]⟩ = some (if cAt c l < l.length then (mkB (l.take (cAt c l)), mkB (l.drop (cAt c l + 1)), true) else (mkB l, ⟨#[]⟩, false)) := by
 unfold strings_Cut.f stringslite_Cut.f stringslite_Index.f
 rw [if_pos (one_size c), one_data, mkB_data, index_c]
 have hle := cAt_le c l
 by_cases h : cAt c l < l.length
 ·simp only [if_pos h, Option.bind_some, mkB_size, one_size]
  rw [show ((1 : Nat) : Int) = 1 from rfl, w_succ (m := cAt c l) (by omega)]
  simp only [if_pos (show ((cAt c l : Nat) : Int) ≥ 0 by omega), if_pos (show (0 : Int) ≤ ((cAt c l : Nat) : Int) by omega), if_pos (show ((cAt c l : Nat) : Int) ≤ (l.length : Int) by omega), if_pos (show (0 : Int) ≤ ((cAt c l + 1 : Nat) : Int) by omega), if_pos (show ((cAt c l + 1 : Nat) : Int) ≤ (l.length : Int) by omega), Int.toNat_natCast, extB, Option.bind_some]
  rw [List.drop_zero, Nat.sub_zero, List.take_of_length_le (l := l.drop (cAt c l + 1)) (by rw [List.length_drop]; omega)]
 ·simp only [if_neg h, Option.bind_some, if_neg (show ¬ (-1 : Int) ≥ 0 by omega)]
theorem index_tells (l : List UInt8) (c : UInt8) : strings_Index.f (mkB l) ⟨#[c]⟩ = some (if cAt c l < l.length then (cAt c l : Int) else -1) := by
 unfold strings_Index.f
 rw [if_pos (one_size c), one_data, mkB_data, index_c]
theorem count_tells (l : List UInt8) (c : UInt8) : strings_Count.f (mkB l) ⟨#[c]⟩ = some ((l.count c : Nat) : Int) := by
 unfold strings_Count.f
 rw [if_pos (one_size c), one_data, mkB_data]
 rfl
theorem split_go (c : UInt8) (n : Nat) (hn : n ≤ 1048577) (all : List (List UInt8)) (hall : all.length = n) : ∀ (m : Nat) (d : List UInt8) (done : List (List UInt8)), d.length ≤ 1048576 → (splitC c d).length = m + 1 → done ++ splitC c d = all →
  Ev (fun k => strings_genSplit.l0 k (mkB d) ⟨#[c]⟩ 0 ((n - 1 : Nat) : Int) ((done.map mkB) ++ List.replicate (m + 1) (⟨#[]⟩ : ByteArray)) (done.length : Int)) (all.map mkB) := by
 intro m
 induction m with
 | zero =>
  intro d done hd hm he
  have hdl : done.length + 1 = n := by rw [← hall, ← he, List.length_append, hm]
  have hno : ¬ cAt c d < d.length := by
   intro h
   rw [splitC_at c d h] at hm
   have := splitC_ne c (d.drop (cAt c d + 1))
   have h2 := List.length_pos_iff.2 this
   rw [List.length_cons] at hm
   omega
  rw [splitC_last c d hno] at he
  refine Ev.step (fun k => by rw [strings_genSplit.l0]) ?_
  rw [w_succ (m := done.length) (by omega)]
  simp only [if_neg (show ¬ ((done.length : Nat) : Int) < ((n - 1 : Nat) : Int) by omega), if_pos (show (0 : Int) ≤ ((done.length : Nat) : Int) by omega), List.length_append, List.length_map, List.length_replicate, if_pos (show ((done.length : Nat) : Int) < ((done.length + (0 + 1) : Nat) : Int) by omega), if_pos (show (0 : Int) ≤ ((done.length + 1 : Nat) : Int) by omega), if_pos (show ((done.length + 1 : Nat) : Int) ≤ ((done.length + (0 + 1) : Nat) : Int) by omega), Int.toNat_natCast]
  have e : List.take (done.length + 1) ((done.map mkB ++ List.replicate (0 + 1) (⟨#[]⟩ : ByteArray)).set done.length (mkB d)) = all.map mkB := by
   rw [List.set_append_right _ _ (by rw [List.length_map]; omega), List.length_map, Nat.sub_self]
   rw [show List.replicate (0 + 1) (⟨#[]⟩ : ByteArray) = [⟨#[]⟩] from rfl, List.set_cons_zero, List.take_of_length_le (by simp), ← he]
   simp
  rw [e]
  exact Ev.now _
 | succ m ih =>
  intro d done hd hm he
  have hdl : done.length + m + 2 = n := by rw [← hall, ← he, List.length_append, hm]; omega
  have hyes : cAt c d < d.length := by
   by_cases h : cAt c d < d.length
   ·exact h
   ·rw [splitC_last c d h] at hm
    simp at hm
  have hs := splitC_at c d hyes
  refine Ev.step (fun k => by rw [strings_genSplit.l0]) ?_
  refine ?_
  have hi := index_tells d c
  rw [if_pos hyes] at hi
  simp only [if_pos (show ((done.length : Nat) : Int) < ((n - 1 : Nat) : Int) by omega)]
  refine ev_bind' hi ?_
  rw [w64 (x := (cAt c d : Int) + 0) (by omega) (by omega), w_succ (m := done.length) (by omega), one_size, show ((1 : Nat) : Int) = 1 from rfl, w_succ (m := cAt c d) (by omega)]
  simp only [if_neg (show ¬ ((cAt c d : Nat) : Int) < 0 by omega), Int.add_zero, mkB_size, if_pos (show (0 : Int) ≤ ((cAt c d : Nat) : Int) by omega), if_pos (show ((cAt c d : Nat) : Int) ≤ (d.length : Int) by omega), if_pos (show (0 : Int) ≤ ((done.length : Nat) : Int) by omega), List.length_append, List.length_map, List.length_replicate, if_pos (show ((done.length : Nat) : Int) < ((done.length + (m + 1 + 1) : Nat) : Int) by omega), if_pos (show (0 : Int) ≤ ((cAt c d + 1 : Nat) : Int) by omega), if_pos (show ((cAt c d + 1 : Nat) : Int) ≤ (d.length : Int) by omega), Int.toNat_natCast, extB]
  rw [List.drop_zero, Nat.sub_zero, List.take_of_length_le (l := d.drop (cAt c d + 1)) (by rw [List.length_drop]; omega)]
  rw [List.set_append_right _ _ (by rw [List.length_map]; omega), List.length_map, Nat.sub_self, List.replicate_succ, List.set_cons_zero]
  have hm' : (splitC c (d.drop (cAt c d + 1))).length = m + 1 := by rw [hs] at hm; simpa using hm
  have := ih (d.drop (cAt c d + 1)) (done ++ [d.take (cAt c d)]) (by rw [List.length_drop]; omega) hm' (by rw [← he, hs]; simp)
  rw [List.map_append, List.length_append, List.append_assoc] at this
  exact this
theorem split_ev (l : List UInt8) (c : UInt8) (hl : l.length ≤ 1048576) : Ev (fun k => strings_Split.f k (mkB l) ⟨#[c]⟩) ((splitC c l).map mkB) := by
 have hlen := splitC_len c l
 have hcl : l.count c ≤ l.length := List.count_le_length
 unfold strings_Split.f
 refine Ev.bind (a := (splitC c l).map mkB) ?_ (Ev.now _)
 unfold strings_genSplit.f
 have hne : ¬ (⟨#[c]⟩ : ByteArray).toList = ([] : List UInt8) := by rw [ByteArray.toList_eq]; simp
 simp only [if_neg (show ¬ (-1 : Int) = 0 by omega), if_neg hne, if_pos (show (-1 : Int) < 0 by omega)]
 refine ev_bind' (count_tells l c) ?_
 refine Ev.step (fun k => by rw [strings_genSplit.j0]) ?_
 rw [mkB_size, w_succ (m := l.count c) (by omega), w_succ (m := l.length) (by omega)]
 have hmn : mn ((l.count c + 1 : Nat) : Int) ((l.length + 1 : Nat) : Int) = ((l.count c + 1 : Nat) : Int) := by unfold mn; split <;> omega
 rw [hmn]
 simp only [if_pos (show (0 : Int) ≤ ((l.count c + 1 : Nat) : Int) by omega), Int.toNat_natCast, if_pos (show l.count c + 1 ≤ 17592186044416 by omega)]
 have hw : wrap64 (((l.count c + 1 : Nat) : Int) - 1) = ((l.count c + 1 - 1 : Nat) : Int) := w_pred (by omega) (by omega)
 rw [hw]
 have := split_go c (l.count c + 1) (by omega) (splitC c l) hlen (l.count c) l [] hl hlen rfl
 exact this
end Go.Proofs.YtdlnhddpgopghaaDoor.Com
namespace Go.Proofs.YtdlnhddpgopghaaDoor.Com
set_option linter.unusedSimpArgs false
set_option linter.unusedVariables false
set_option linter.unusedSectionVars false
open Go.RowKit Go.Proofs.YtdlnhddpgopghaaDoorW.PrintWords Go.Proofs.YtdlnhddpgopghaaDoorW.PrintMore Go.Proofs.YtdlnhddpgopghaaDoor.Q
def textS (p : Int) (l : List Int) : ByteArray := strOfNums (digs p.toNat ++ [58] ++ rest p.toNat true l)
def readRes (s : ByteArray) (p : Int) (l : List Int) : Int × List Int × Bool := if validSys p l = true ∧ textS p l = s then (p, l, true) else (0, [], false)
theorem specText_ev (P : Nat) (l : List Int) (v : validSys (P : Int) l = true) : Ev (fun k => spec_l10Text.f k (P : Int) l) (textS (P : Int) l) := by
 obtain ⟨⟨q, hq, hP⟩, hl, _⟩ := validSys_of v
 have hP : P ≤ 12 := by omega
 have h2 := dec12_len P hP
 unfold spec_l10Text.f
 refine Ev.bind (specDec_ev P (by omega)) ?_
 simp only [strOfNums_size, if_pos (show (digs P).length + 1 ≤ 9223372036854775807 by omega)]
 rw [show strOfNums (digs P) ++ (⟨#[58]⟩ : ByteArray) = strOfNums (digs P ++ [58]) by rw [← str_app]; rfl]
 have := specSets_ev hP hl (digs P ++ [58]) (by rw [List.length_append]; simp; omega)
 exact this
theorem implText_ev (p : Int) (l : List Int) (hx : l.length ≤ 1048576) : Ev (fun k => impl_SystemText.f k p l) (if validSys p l = true then (textS p l, true) else (⟨#[]⟩, false)) := by
 by_cases v : validSys p l = true
 ·obtain ⟨⟨P, rfl, hP⟩, hl, _⟩ := validSys_of v
  rw [if_pos v]
  unfold impl_SystemText.f
  refine ev_bind' (implValidSys_tells (P : Int) l) ?_
  simp only [v, if_true]
  exact implSets_ev hP hl
 ·have v0 : validSys p l = false := by simpa using v
  rw [if_neg v]
  unfold impl_SystemText.f
  refine ev_bind' (implValidSys_tells p l) ?_
  simp only [v0, Bool.false_eq_true, if_false]
  exact Ev.now _
def ptsL : Nat → List UInt8 → Int → Int × List UInt8
 | 0, d, p => (p, d)
 | n + 1, [], p => (p, [])
 | n + 1, b :: d, p => if b = 58 then (p, b :: d) else ptsL n d (10 * p + (b.toNat : Int) % 16)
def orTo (o : Int) (b : UInt8) : Int := if 97 ≤ b.toNat ∧ b.toNat < 109 then Go.bits .or .i64 o (shl .i64 1 ((b.toNat : Int) - 97)) else o
def stepS (b : UInt8) (l : List Int) : List Int := if b = 44 then l ++ [0] else l.set (l.length - 1) (orTo (l.getD (l.length - 1) 0) b)
def setsL : List UInt8 → List Int → List Int
 | [], l => l
 | b :: d, l => if l.length ≤ 12 then setsL d (stepS b l) else l
def specSets (rem : List UInt8) : List Int := setsL rem (if rem = [] then [] else [0])
def specP (L : List UInt8) : Int × List Int := ((ptsL 3 L 0).1, specSets ((ptsL 3 L 0).2.drop 1))
theorem specEnd_ev (s : ByteArray) (x : Int) (p : Int) (l : List Int) (hl : l.length ≤ 1048576) : Ev (fun k => spec_ReadSystem.j4 k s x false p l) (readRes s p l) := by
 refine Ev.step (fun k => by rw [spec_ReadSystem.j4]) ?_
 simp only [Bool.false_eq_true, if_false]
 refine Ev.bind (specIs_ev p l hl) ?_
 unfold readRes
 by_cases v : validSys p l = true
 ·obtain ⟨⟨P, rfl, hP⟩, _, _⟩ := validSys_of v
  simp only [v, if_true, true_and]
  refine Ev.bind (specText_ev P l v) ?_
  simp only [toList_iff]
  by_cases c : textS (P : Int) l = s
  ·simp only [if_pos c]
   exact Ev.now _
  ·simp only [if_neg c]
   exact Ev.now _
 ·have v0 : validSys p l = false := by simpa using v
  simp only [v0, Bool.false_eq_true, if_false, false_and]
  exact Ev.now _
section
variable (L : List UInt8) (hL : L.length ≤ 1048576)
include hL
theorem specLoop_ev (p : Int) : ∀ (n m : Nat) (l : List Int), L.length - m = n → (m < L.length → 0 < l.length) → l.length ≤ 13 →
  Ev (fun k => spec_ReadSystem.l1 k (mkB L) (m : Int) p l) (readRes (mkB L) p (setsL (L.drop m) l)) := by
 intro n
 induction n with
 | zero =>
  intro m l hn _ hl
  refine Ev.step (fun k => by rw [spec_ReadSystem.l1]) ?_
  simp only [mkB_size, if_neg (show ¬ (m : Int) < (L.length : Int) by omega)]
  rw [List.drop_eq_nil_of_le (by omega), setsL]
  exact specEnd_ev _ _ _ _ (by omega)
 | succ n ih =>
  intro m l hn hpos hl
  have hm : m < L.length := by omega
  have h0 := hpos hm
  refine Ev.step (fun k => by rw [spec_ReadSystem.l1]) ?_
  simp only [mkB_size, if_pos (show (m : Int) < (L.length : Int) by omega)]
  rw [List.drop_eq_getElem_cons hm, setsL]
  by_cases c12 : l.length ≤ 12
  ·rw [if_pos c12, show decide ((l.length : Int) ≤ 12) = true from decide_eq_true (by omega)]
   refine Ev.step (fun k => by rw [spec_ReadSystem.j4]) ?_
   have hb := bt_mk L m hm
   generalize hbb : L[m] = b at hb ⊢
   have hb2 := b.toNat_lt
   rw [hb, w_succ (m := m) (by omega)]
   simp only [if_true, if_pos (show (0 : Int) ≤ (m : Int) by omega), mkB_size, if_pos (show (m : Int) < (L.length : Int) by omega)]
   by_cases c44 : b = 44
   ·subst c44
    have e44 : (((44 : UInt8).toNat : Nat) : Int) = 44 := rfl
    simp only [e44, if_true, if_pos (show l.length < 17592186044416 by omega), Option.bind_some, if_neg (show ¬ (44 : Int) ≥ 97 by omega)]
    have := ih (m + 1) (stepS 44 l) (by omega) (fun _ => by unfold stepS; simp) (by unfold stepS; simp; omega)
    unfold stepS at this
    rw [if_pos rfl] at this
    exact this
   ·have n44 : ¬ (b.toNat : Int) = 44 := fun h => c44 (UInt8.toNat_inj.1 (by rw [show (44 : UInt8).toNat = 44 from rfl]; omega))
    simp only [if_neg n44]
    have hw : wrap64 ((l.length : Int) - 1) = ((l.length - 1 : Nat) : Int) := w_pred h0 (by omega)
    have next := ih (m + 1) (stepS b l) (by omega) (fun _ => by unfold stepS; simp [if_neg c44]; omega) (by unfold stepS; simp [if_neg c44]; omega)
    unfold stepS orTo at next
    rw [if_neg c44] at next
    have stay : l.set (l.length - 1) (l.getD (l.length - 1) 0) = l := by
     have : l.length - 1 < l.length := by omega
     rw [List.getD_eq_getElem?_getD, List.getElem?_eq_getElem this]
     simp
    have fin : stepS b l = l.set (l.length - 1) (orTo (l.getD (l.length - 1) 0) b) := by unfold stepS; rw [if_neg c44]
    rw [fin]
    unfold orTo
    by_cases c97 : 97 ≤ b.toNat
    ·by_cases c109 : b.toNat < 109
     ·simp only [if_pos (show (b.toNat : Int) ≥ 97 by omega), if_pos (show (b.toNat : Int) < 109 by omega), hw, if_pos (show (0 : Int) ≤ ((l.length - 1 : Nat) : Int) by omega), if_pos (show ((l.length - 1 : Nat) : Int) < (l.length : Int) by omega), Int.toNat_natCast, if_pos (show 97 ≤ b.toNat ∧ b.toNat < 109 from ⟨c97, c109⟩)]
      rw [show ((b.toNat : Int) - 97) % 256 = (b.toNat : Int) - 97 by omega, rd_nat (show l.length - 1 < l.length by omega)]
      simp only [if_pos (show 97 ≤ b.toNat ∧ b.toNat < 109 from ⟨c97, c109⟩)] at next
      have eg : l.getD (l.length - 1) 0 = l[l.length - 1] := by rw [List.getD_eq_getElem?_getD, List.getElem?_eq_getElem (by omega)]; rfl
      rw [eg] at next ⊢
      exact next
     ·simp only [if_pos (show (b.toNat : Int) ≥ 97 by omega), if_neg (show ¬ (b.toNat : Int) < 109 by omega), if_neg (show ¬ (97 ≤ b.toNat ∧ b.toNat < 109) by omega)] at next ⊢
      rw [stay] at next ⊢
      exact next
    ·simp only [if_neg (show ¬ (b.toNat : Int) ≥ 97 by omega), if_neg (show ¬ (97 ≤ b.toNat ∧ b.toNat < 109) by omega)] at next ⊢
     rw [stay] at next ⊢
     exact next
  ·rw [if_neg c12, show decide ((l.length : Int) ≤ 12) = false from decide_eq_false (by omega)]
   exact specEnd_ev _ _ _ _ (by omega)
theorem specJ1_ev (p : Int) (m : Nat) (hm : m ≤ L.length) : Ev (fun k => spec_ReadSystem.j1 k (mkB L) (m : Int) p []) (readRes (mkB L) p (specSets (L.drop (m + 1)))) := by
 refine Ev.step (fun k => by rw [spec_ReadSystem.j1]) ?_
 rw [w_succ (m := m) (by omega), mkB_size]
 unfold specSets
 by_cases c : m + 1 < L.length
 ·simp only [if_pos (show ((m + 1 : Nat) : Int) < (L.length : Int) by omega), List.length_nil, if_pos (show 0 < 17592186044416 by omega), List.nil_append]
  rw [if_neg (fun e => by have := congrArg List.length e; rw [List.length_drop] at this; simp at this; omega)]
  refine Ev.step (fun k => by rw [spec_ReadSystem.j2]) ?_
  exact specLoop_ev L hL p (L.length - (m + 1)) (m + 1) [0] rfl (fun _ => by simp) (by simp)
 ·simp only [if_neg (show ¬ ((m + 1 : Nat) : Int) < (L.length : Int) by omega)]
  rw [if_pos (List.drop_eq_nil_of_le (by omega))]
  refine Ev.step (fun k => by rw [spec_ReadSystem.j2]) ?_
  exact specLoop_ev L hL p (L.length - (m + 1)) (m + 1) [] rfl (fun _ => by omega) (by simp)
theorem specPts_ev : ∀ (n m : Nat) (p : Int), m + n = 3 → m ≤ L.length → 0 ≤ p → ((m = 0 → p ≤ 0) ∧ (m = 1 → p ≤ 15) ∧ (m = 2 → p ≤ 165) ∧ p ≤ 1665) →
  Ev (fun k => spec_ReadSystem.l0 k (mkB L) (m : Int) p []) (readRes (mkB L) (ptsL n (L.drop m) p).1 (specSets ((ptsL n (L.drop m) p).2.drop 1))) := by
 intro n
 induction n with
 | zero =>
  intro m p hn hm h0 hp
  have : m = 3 := by omega
  subst this
  refine Ev.step (fun k => by rw [spec_ReadSystem.l0]) ?_
  have key := specJ1_ev L hL p 3 hm
  simp only [ptsL, List.drop_drop]
  rw [mkB_size]
  by_cases c : 3 < L.length
  ·simp only [if_pos (show ((3 : Nat) : Int) < (L.length : Int) by omega), if_neg (show ¬ ((3 : Nat) : Int) < 3 by omega)]
   exact key
  ·simp only [if_neg (show ¬ ((3 : Nat) : Int) < (L.length : Int) by omega)]
   exact key
 | succ n ih =>
  intro m p hn hm h0 hp
  have hm2 : m ≤ 2 := by omega
  have hpb : p ≤ 1665 := hp.2.2.2
  refine Ev.step (fun k => by rw [spec_ReadSystem.l0]) ?_
  rw [mkB_size]
  by_cases c : m < L.length
  ·have hb := bt_mk L m c
   rw [List.drop_eq_getElem_cons c, ptsL, hb]
   generalize hbb : L[m] = b at hb ⊢
   have hb2 := b.toNat_lt
   simp only [if_pos (show (m : Int) < (L.length : Int) by omega), if_pos (show (m : Int) < 3 by omega), if_pos (show (0 : Int) ≤ (m : Int) by omega)]
   by_cases c58 : b = 58
   ·subst c58
    have e58 : (((58 : UInt8).toNat : Nat) : Int) = 58 := rfl
    simp only [e58, if_true, List.drop_succ_cons, List.drop_zero]
    exact specJ1_ev L hL p m (by omega)
   ·have n58 : ¬ (b.toNat : Int) = 58 := fun h => c58 (UInt8.toNat_inj.1 (by rw [show (58 : UInt8).toNat = 58 from rfl]; omega))
    simp only [if_neg n58, if_neg c58]
    rw [tmod_nn (by omega), w64 (x := 10 * p) (by omega) (by omega), w64 (x := (b.toNat : Int) % 16) (by omega) (by omega), w64 (x := 10 * p + (b.toNat : Int) % 16) (by omega) (by omega), w_succ (m := m) (by omega)]
    refine ih (m + 1) _ (by omega) (by omega) (by omega) ?_
    omega
  ·rw [List.drop_eq_nil_of_le (by omega), ptsL]
   simp only [if_neg (show ¬ (m : Int) < (L.length : Int) by omega)]
   have := specJ1_ev L hL p m hm
   rw [List.drop_eq_nil_of_le (by omega)] at this
   exact this
theorem specRead_ev : Ev (fun k => spec_ReadSystem.f k (mkB L)) (readRes (mkB L) (specP L).1 (specP L).2) := by
 have := specPts_ev L hL 3 0 0 rfl (by omega) (by omega) (by omega)
 exact this
end
def wordVal (w : List UInt8) : Int := w.foldl orTo 0
def headOf (L : List UInt8) : List UInt8 := if cAt 58 L < L.length then L.take (cAt 58 L) else L
def restOf (L : List UInt8) : List UInt8 := if cAt 58 L < L.length then L.drop (cAt 58 L + 1) else []
def implP (L : List UInt8) : Int × List Int := (((impl_ReadDecimal.f (mkB (headOf L))).getD (0, false)).1, if restOf L = [] then [] else (splitC 44 (restOf L)).map wordVal)
theorem implWord_ev (s rs : ByteArray) (ws : List ByteArray) (i : Nat) (p : Int) (l : List Int) (r : Int × List Int × Bool) (w : List UInt8) (hw : w.length ≤ 1048576) (hl : l.length ≤ 1048577) (hi : i ≤ 1048577)
  (cont : Ev (fun k => impl_ReadSystem.l0 k s rs ws (ws.length : Int) ((i + 1 : Nat) : Int) p (if rs.toList = [] then l else l ++ [wordVal w])) r) :
  Ev (fun k => impl_ReadSystem.l1 k s rs (mkB w) 0 ws (ws.length : Int) (i : Int) (w.length : Int) 0 p l) r := by
 have gen := ev_fold w (fun j (o : Int) k => impl_ReadSystem.l1 k s rs (mkB w) o ws (ws.length : Int) (i : Int) (w.length : Int) (j : Int) p l) (fun d o => r) (fun j o => (w.drop j).foldl orTo o = wordVal w) ?_ ?_ 0 0 (by omega) rfl
 ·exact gen
 ·intro o ho
  rw [List.drop_length, List.foldl_nil] at ho
  refine Ev.step (fun k => by rw [impl_ReadSystem.l1]) ?_
  rw [w_succ (m := i) (by omega)]
  simp only [if_neg (show ¬ (w.length : Int) < (w.length : Int) by omega)]
  by_cases c : rs.toList = ([] : List UInt8)
  ·simp only [if_pos c] at cont ⊢
   exact cont
  ·simp only [if_neg c] at cont
   simp only [if_neg c, if_pos (show l.length < 17592186044416 by omega), ho]
   exact cont
 ·intro j hj o ho ih
  rw [List.drop_eq_getElem_cons hj, List.foldl_cons] at ho
  refine Ev.step (fun k => by rw [impl_ReadSystem.l1]) ?_
  rw [bt_mk w j hj, w_succ (m := j) (by omega)]
  generalize w[j] = b at ho ⊢
  have hb2 := b.toNat_lt
  rw [w64 (x := (b.toNat : Int)) (by omega) (by omega), w64 (x := (b.toNat : Int) - 97) (by omega) (by omega)]
  simp only [if_pos (show (j : Int) < (w.length : Int) by omega), if_pos (show (0 : Int) ≤ (j : Int) by omega), mkB_size]
  by_cases c97 : 97 ≤ b.toNat
  ·by_cases c109 : b.toNat < 109
   ·simp only [if_pos (show (b.toNat : Int) - 97 ≥ 0 by omega), if_pos (show (b.toNat : Int) - 97 < 12 by omega)]
    refine ih _ ?_
    rw [← ho]
    unfold orTo
    rw [if_pos ⟨c97, c109⟩]
   ·simp only [if_pos (show (b.toNat : Int) - 97 ≥ 0 by omega), if_neg (show ¬ (b.toNat : Int) - 97 < 12 by omega)]
    refine ih _ ?_
    rw [← ho]
    unfold orTo
    rw [if_neg (by omega)]
  ·simp only [if_neg (show ¬ (b.toNat : Int) - 97 ≥ 0 by omega)]
   refine ih _ ?_
   rw [← ho]
   unfold orTo
   rw [if_neg (by omega)]
theorem implWords_ev (s : ByteArray) (rl : List UInt8) (ws : List (List UInt8)) (p : Int) (hws : ws.length ≤ 1048577) (hw : ∀ w ∈ ws, w.length ≤ 1048576) (hne : rl ≠ [] → ws.length ≤ 1048576) :
  Ev (fun k => impl_ReadSystem.l0 k s (mkB rl) (ws.map mkB) ((ws.map mkB).length : Int) 0 p []) (readRes s p (if rl = [] then [] else ws.map wordVal)) := by
 have hml : (ws.map mkB).length = ws.length := List.length_map _
 have gen := ev_fold ws (fun m (l : List Int) k => impl_ReadSystem.l0 k s (mkB rl) (ws.map mkB) ((ws.map mkB).length : Int) (m : Int) p l) (fun d l => readRes s p (if rl = [] then [] else ws.map wordVal)) (fun m l => l = if rl = [] then [] else (ws.take m).map wordVal) ?_ ?_ 0 [] (by omega) (by simp)
 ·exact gen
 ·rintro _ rfl
  refine Ev.step (fun k => by rw [impl_ReadSystem.l0]) ?_
  simp only [hml, if_neg (show ¬ (ws.length : Int) < (ws.length : Int) by omega), List.take_length]
  have hll : (if rl = [] then ([] : List Int) else ws.map wordVal).length ≤ 1048576 := by
   by_cases c : rl = []
   ·simp [c]
   ·rw [if_neg c, List.length_map]; exact hne c
  generalize (if rl = [] then ([] : List Int) else ws.map wordVal) = l at hll ⊢
  refine Ev.bind (implText_ev p l hll) ?_
  unfold readRes
  by_cases v : validSys p l = true
  ·simp only [v, if_true, true_and, toList_iff]
   by_cases c : textS p l = s
   ·simp only [if_pos c]
    exact Ev.now _
   ·simp only [if_neg c]
    exact Ev.now _
  ·have v0 : validSys p l = false := by simpa using v
   simp only [v0, Bool.false_eq_true, if_false, false_and]
   exact Ev.now _
 ·rintro m hm l hl ih
  have hml2 : m < (ws.map mkB).length := by rw [hml]; exact hm
  refine Ev.step (fun k => by rw [impl_ReadSystem.l0]) ?_
  have hrd : rdOf ByteArray.empty (ws.map mkB) (m : Int) = mkB ws[m] := by
   unfold rdOf
   rw [Int.toNat_natCast, List.getD_eq_getElem?_getD, List.getElem?_eq_getElem hml2]
   simp
  simp only [hml, if_pos (show (m : Int) < (ws.length : Int) by omega), if_pos (show (0 : Int) ≤ (m : Int) by omega), hrd, mkB_size]
  have hll : l.length ≤ m := by
   rw [hl]
   split
   ·simp
   ·rw [List.length_map, List.length_take]; omega
  have := implWord_ev s (mkB rl) (ws.map mkB) m p l (readRes s p (if rl = [] then [] else ws.map wordVal)) ws[m] (hw _ (List.getElem_mem hm)) (by omega) (by omega) (ih _ (by
   by_cases c : rl = []
   ·simp only [toList_nil, if_pos c] at hl ⊢; exact hl
   ·simp only [toList_nil, if_neg c] at hl ⊢
    rw [hl, List.take_succ_eq_append_getElem hm, List.map_append]
    rfl))
  rw [hml] at this
  exact this
theorem splitC_long (c : UInt8) : ∀ l, ∀ w ∈ splitC c l, w.length ≤ l.length
 | [], w, h => by simp [splitC] at h; simp [h]
 | b :: r, w, h => by
  have ih := splitC_long c r
  rw [splitC] at h
  split at h
  ·rcases List.mem_cons.1 h with rfl | h
   ·simp
   ·have := ih w h; simp; omega
  ·split at h
   ·simp at h; simp [h]
   ·rename_i l ls hs
    rcases List.mem_cons.1 h with rfl | h
    ·have := ih l (by rw [hs]; simp); simp; omega
    ·have := ih w (by rw [hs]; exact List.mem_cons_of_mem _ h); simp; omega
theorem dec_total (l : List UInt8) (h : l.length ≤ 1048576) : ∃ r, impl_ReadDecimal.f (mkB l) = some r := by
 unfold impl_ReadDecimal.f
 rw [if_pos (by rw [mkB_size]; omega)]
 cases Lib.parseIntB 64 (mkB l).data.toList with
 | ok v => by_cases c : (⟨(Go.Lib.itoa v).toArray⟩ : ByteArray) = mkB l ∧ -1000000000 ≤ v ∧ v ≤ 1000000000 <;> simp [c]
 | «syntax» => exact ⟨_, rfl⟩
 | range => exact ⟨_, rfl⟩
theorem implRead_ev (L : List UInt8) (hL : L.length ≤ 1048576) : Ev (fun k => impl_ReadSystem.f k (mkB L)) (readRes (mkB L) (implP L).1 (implP L).2) := by
 unfold impl_ReadSystem.f
 have hc := cut_tells L 58 hL
 have hle := cAt_le 58 L
 have hc2 : strings_Cut.f (mkB L) ⟨#[58]⟩ = some (mkB (headOf L), mkB (restOf L), decide (cAt 58 L < L.length)) := by
  rw [hc]
  unfold headOf restOf
  by_cases c : cAt 58 L < L.length
  ·simp only [if_pos c, decide_eq_true c]
  ·simp only [if_neg c, decide_eq_false c]
   rfl
 refine ev_bind' hc2 ?_
 have hh : (headOf L).length ≤ 1048576 := by
  unfold headOf
  split
  ·rw [List.length_take]; omega
  ·exact hL
 have hr : (restOf L).length + 1 ≤ 1048577 ∧ (restOf L ≠ [] → (restOf L).length + 1 ≤ 1048576) := by
  unfold restOf
  by_cases c : cAt 58 L < L.length
  ·simp only [if_pos c, List.length_drop]
   exact ⟨by omega, fun _ => by omega⟩
  ·simp only [if_neg c]
   exact ⟨by simp, fun h => absurd rfl h⟩
 obtain ⟨⟨v, b⟩, hd⟩ := dec_total (headOf L) hh
 refine ev_bind' hd ?_
 refine Ev.bind (split_ev (restOf L) 44 (by omega)) ?_
 have hcl : (restOf L).count 44 ≤ (restOf L).length := List.count_le_length
 have hsl := splitC_len 44 (restOf L)
 have := implWords_ev (mkB L) (restOf L) (splitC 44 (restOf L)) v (by omega) (fun w hw => by have := splitC_long 44 (restOf L) w hw; omega) (fun h => by have := hr.2 h; omega)
 unfold implP
 rw [hd]
 exact this
theorem bytes_app (a b : List Int) : bytesOf (a ++ b) = bytesOf a ++ bytesOf b := by unfold bytesOf; rw [List.map_append]
theorem textS_mk (P : Nat) (l : List Int) : textS (P : Int) l = mkB (bytesOf (digs P) ++ 58 :: bytesOf (rest P true l)) := by
 unfold textS
 rw [str_bytes, Int.toNat_natCast, List.append_assoc, bytes_app, bytes_app]
 rfl
theorem upto12 {P : Nat} (h : P ≤ 12) : P = 0 ∨ P = 1 ∨ P = 2 ∨ P = 3 ∨ P = 4 ∨ P = 5 ∨ P = 6 ∨ P = 7 ∨ P = 8 ∨ P = 9 ∨ P = 10 ∨ P = 11 ∨ P = 12 := by omega
theorem pts_text {P : Nat} (h : P ≤ 12) (R : List UInt8) : ptsL 3 (bytesOf (digs P) ++ 58 :: R) 0 = ((P : Int), 58 :: R) := by
 rcases upto12 h with rfl | rfl | rfl | rfl | rfl | rfl | rfl | rfl | rfl | rfl | rfl | rfl | rfl
 all_goals first | (rw [digs_lt (by omega)]; rfl) | (rw [digs_ge (by omega), digs_lt (by omega)]; rfl)
theorem digs_ne {P : Nat} (h : P ≤ 12) : ∀ b ∈ bytesOf (digs P), b ≠ 58 := by
 rcases upto12 h with rfl | rfl | rfl | rfl | rfl | rfl | rfl | rfl | rfl | rfl | rfl | rfl | rfl
 all_goals first | (rw [digs_lt (by omega)]; decide) | (rw [digs_ge (by omega), digs_lt (by omega)]; decide)
theorem parse_text {P : Nat} (h : P ≤ 12) : Lib.parseIntB 64 (bytesOf (digs P)) = .ok (P : Int) := by
 rcases upto12 h with rfl | rfl | rfl | rfl | rfl | rfl | rfl | rfl | rfl | rfl | rfl | rfl | rfl
 all_goals first | (rw [digs_lt (by omega)]; rfl) | (rw [digs_ge (by omega), digs_lt (by omega)]; rfl)
theorem dec_text {P : Nat} (h : P ≤ 12) : impl_ReadDecimal.f (mkB (bytesOf (digs P))) = some ((P : Int), true) := by
 unfold impl_ReadDecimal.f
 have hl : (bytesOf (digs P)).length ≤ 2 := by unfold bytesOf; rw [List.length_map]; exact dec12_len P h
 rw [if_pos (by rw [mkB_size]; omega), mkB_data, parse_text h]
 have e : (⟨(Go.Lib.itoa (P : Int)).toArray⟩ : ByteArray) = mkB (bytesOf (digs P)) := by
  unfold Go.Lib.itoa
  rw [if_neg (by omega), Int.toNat_natCast, digs_bytes]
  rfl
 simp only
 rw [if_pos ⟨e, by omega, by omega⟩]
theorem or_low (t j : Nat) (hj : j ≤ 11) (ht : t < 4096) (hb : bitAt t j = 1) : orTo ((t % 2 ^ j : Nat) : Int) (UInt8.ofNat (97 + (j : Int)).toNat) = ((t % 2 ^ (j + 1) : Nat) : Int) := by
 have e : (UInt8.ofNat (97 + (j : Int)).toNat).toNat = 97 + j := by
  rw [show (97 + (j : Int)).toNat = 97 + j by omega]
  simp
  omega
 have hp := pow_bd (p := j) (by omega)
 have hp2 : 2 ^ j ≤ 2048 := by
  have := pow_bd (p := j + 1) (by omega)
  rw [Nat.pow_succ] at this
  omega
 have hlt : t % 2 ^ j < 2 ^ j := Nat.mod_lt _ (by omega)
 unfold orTo
 rw [e, if_pos (by omega), show (((97 + j : Nat) : Int) - 97) = (j : Int) by omega, shl_one j (by omega)]
 have h2 : ((2 : Int) ^ j) = ((2 ^ j : Nat) : Int) := by exact_mod_cast rfl
 rw [h2, or_nat _ _ (by omega) (by omega)]
 have ho : t % 2 ^ j ||| 2 ^ j = t % 2 ^ (j + 1) := by
  have := Nat.two_pow_add_eq_or_of_lt hlt 1
  rw [Nat.mul_one] at this
  rw [Nat.or_comm, ← this, Nat.mod_pow_succ]
  unfold bitAt at hb
  rw [hb]
  omega
 rw [ho]
theorem low_no (t j : Nat) (hb : bitAt t j = 0) : t % 2 ^ (j + 1) = t % 2 ^ j := by
 unfold bitAt at hb
 rw [Nat.mod_pow_succ, hb]
 omega
theorem fold_chars (t : Nat) (ht : t < 4096) : ∀ (n j : Nat), j + n ≤ 12 → (bytesOf (chars (t : Int) (List.range' j n))).foldl orTo ((t % 2 ^ j : Nat) : Int) = ((t % 2 ^ (j + n) : Nat) : Int)
 | 0, j, _ => rfl
 | n + 1, j, h => by
  have ih := fold_chars t ht n (j + 1) (by omega)
  rw [List.range'_succ, chars, bytes_app, List.foldl_append]
  have hbt := bit_tells t j ht (by omega)
  have hb : hasB (t : Int) j = decide (bitAt t j = 1) := by
   unfold hasB
   rw [hbt]
   exact decide_eq_decide.2 ⟨fun h => by omega, fun h => by omega⟩
  have hle := bitAt_le t j
  rw [show j + (n + 1) = j + 1 + n by omega, ← ih]
  by_cases c : bitAt t j = 1
  ·rw [hb, decide_eq_true c, if_pos rfl]
   rw [show bytesOf [97 + (j : Int)] = [UInt8.ofNat (97 + (j : Int)).toNat] from rfl, List.foldl_cons, List.foldl_nil, or_low t j (by omega) ht c]
  ·rw [hb, decide_eq_false c, if_neg (by simp)]
   rw [show bytesOf [] = [] from rfl, List.foldl_nil, low_no t j (by omega)]
theorem word_val {P : Nat} (hP : P ≤ 12) {s : Int} (h0 : 0 ≤ s) (h1 : s ≤ full (P : Int)) : wordVal (bytesOf (word P s)) = s := by
 obtain ⟨t, rfl⟩ := Int.eq_ofNat_of_zero_le h0
 rw [full_nat P hP] at h1
 have hp := pow_bd hP
 unfold word
 by_cases c : ((t : Nat) : Int) = 0
 ·rw [if_pos c, c]
  rfl
 ·rw [if_neg c, List.range_eq_range']
  have := fold_chars t (by omega) P 0 (by omega)
  rw [Nat.pow_zero, Nat.mod_one, Nat.zero_add, Nat.mod_eq_of_lt (by omega)] at this
  exact this
theorem chars_ne (s : Int) : ∀ (l : List Nat), (∀ i ∈ l, i ≤ 12) → ∀ b ∈ bytesOf (chars s l), b ≠ 44
 | [], _, b, h => by simp [chars, bytesOf] at h
 | i :: r, hl, b, h => by
  rw [chars, bytes_app] at h
  rcases List.mem_append.1 h with h | h
  ·have hi := hl i (by simp)
   split at h
   ·simp [bytesOf] at h
    rw [h]
    intro e
    have := congrArg UInt8.toNat e
    rw [show (97 + (i : Int)).toNat = 97 + i by omega] at this
    simp at this
    omega
   ·simp [bytesOf] at h
  ·exact chars_ne s r (fun x hx => hl x (List.mem_cons_of_mem _ hx)) b h
theorem word_ne {P : Nat} (hP : P ≤ 12) (s : Int) : ∀ b ∈ bytesOf (word P s), b ≠ 44 := by
 unfold word
 split
 ·decide
 ·exact chars_ne s _ (fun i hi => by have := List.mem_range.1 hi; omega)
theorem word_some {P : Nat} (hP : P ≤ 12) {s : Int} (h0 : 0 ≤ s) (h1 : s ≤ full (P : Int)) : bytesOf (word P s) ≠ [] := by
 intro e
 have := word_val hP h0 h1
 rw [e] at this
 have hs : (0 : Int) = s := this
 subst hs
 simp [word, bytesOf] at e
theorem sets_word : ∀ (w d : List UInt8) (pre : List Int) (o : Int), (∀ b ∈ w, b ≠ 44) → pre.length ≤ 11 → setsL (w ++ d) (pre ++ [o]) = setsL d (pre ++ [w.foldl orTo o])
 | [], d, pre, o, _, _ => rfl
 | b :: w, d, pre, o, hw, hp => by
  rw [List.cons_append, setsL, if_pos (by simp; omega)]
  have : stepS b (pre ++ [o]) = pre ++ [orTo o b] := by
   unfold stepS
   rw [if_neg (hw b (by simp))]
   simp
  rw [this, sets_word w d pre _ (fun x hx => hw x (List.mem_cons_of_mem _ hx)) hp]
  rfl
theorem sets_rest {P : Nat} (hP : P ≤ 12) : ∀ (r pre : List Int), (∀ s ∈ r, 0 ≤ s ∧ s ≤ full (P : Int)) → pre.length + r.length ≤ 12 → setsL (bytesOf (rest P false r)) pre = pre ++ r
 | [], pre, _, _ => by simp [rest, bytesOf, setsL]
 | s :: r, pre, hr, hl => by
  rw [List.length_cons] at hl
  have hs := hr s (by simp)
  rw [rest, bytes_app, bytes_app]
  rw [show bytesOf (if false = true then [] else [44]) = [44] from rfl, List.singleton_append, setsL, if_pos (by omega)]
  rw [show stepS 44 pre = pre ++ [0] from rfl, sets_word _ _ pre 0 (word_ne hP s) (by omega)]
  rw [show (bytesOf (word P s)).foldl orTo 0 = s from word_val hP hs.1 hs.2]
  rw [sets_rest hP r (pre ++ [s]) (fun x hx => hr x (List.mem_cons_of_mem _ hx)) (by simp; omega)]
  simp
theorem sets_text {P : Nat} (hP : P ≤ 12) (l : List Int) (hl : l.length ≤ 12) (hr : ∀ s ∈ l, 0 ≤ s ∧ s ≤ full (P : Int)) : specSets (bytesOf (rest P true l)) = l := by
 unfold specSets
 cases l with
 | nil => rfl
 | cons s r =>
  rw [List.length_cons] at hl
  have hs := hr s (by simp)
  rw [rest, bytes_app, bytes_app, show bytesOf (if true = true then [] else [44]) = [] from rfl, List.nil_append]
  have hne : bytesOf (word P s) ++ bytesOf (rest P false r) ≠ [] := fun e => word_some hP hs.1 hs.2 (List.append_eq_nil_iff.1 e).1
  rw [if_neg hne]
  have := sets_word (bytesOf (word P s)) (bytesOf (rest P false r)) [] 0 (word_ne hP s) (by simp)
  rw [List.nil_append] at this
  rw [this, show (bytesOf (word P s)).foldl orTo 0 = s from word_val hP hs.1 hs.2]
  rw [sets_rest hP r _ (fun x hx => hr x (List.mem_cons_of_mem _ hx)) (by simp; omega)]
  rfl
theorem specP_text (p : Int) (l : List Int) (L : List UInt8) (v : validSys p l = true) (h : textS p l = mkB L) : specP L = (p, l) := by
 obtain ⟨⟨P, rfl, hP⟩, hl, hr⟩ := validSys_of v
 rw [textS_mk] at h
 have e : L = bytesOf (digs P) ++ 58 :: bytesOf (rest P true l) := by have := congrArg (fun b : ByteArray => b.data.toList) h; simpa [mkB_data] using this.symm
 subst e
 unfold specP
 rw [pts_text hP]
 simp only [List.drop_succ_cons, List.drop_zero]
 rw [sets_text hP l hl hr]
theorem implP_text (p : Int) (l : List Int) (L : List UInt8) (v : validSys p l = true) (h : textS p l = mkB L) : implP L = (p, l) := by
 obtain ⟨⟨P, rfl, hP⟩, hl, hr⟩ := validSys_of v
 rw [textS_mk] at h
 have e : L = bytesOf (digs P) ++ 58 :: bytesOf (rest P true l) := by have := congrArg (fun b : ByteArray => b.data.toList) h; simpa [mkB_data] using this.symm
 subst e
 have hc := cAt_app 58 (bytesOf (digs P)) (bytesOf (rest P true l)) (digs_ne hP)
 have hh : headOf (bytesOf (digs P) ++ 58 :: bytesOf (rest P true l)) = bytesOf (digs P) := by
  unfold headOf
  rw [hc, if_pos (by simp), List.take_left']
  rfl
 have hR : restOf (bytesOf (digs P) ++ 58 :: bytesOf (rest P true l)) = bytesOf (rest P true l) := by
  unfold restOf
  rw [hc, if_pos (by simp), List.drop_append]
  simp
 unfold implP
 rw [hh, hR, dec_text hP]
 simp only [Option.getD_some]
 cases l with
 | nil => rfl
 | cons s r =>
  have hj := rest_join P (s :: r)
  have hsp : splitC 44 (bytesOf (rest P true (s :: r))) = (s :: r).map fun s => bytesOf (word P s) := by
   rw [hj]
   exact splitC_join 44 _ (by simp) (fun w hw b hb => by
    obtain ⟨x, _, rfl⟩ := List.mem_map.1 hw
    exact word_ne hP x b hb)
  have hs := hr s (by simp)
  have hne : bytesOf (rest P true (s :: r)) ≠ [] := by
   rw [rest, bytes_app, bytes_app, show bytesOf (if true = true then [] else [44]) = [] from rfl, List.nil_append]
   exact fun e => word_some hP hs.1 hs.2 (List.append_eq_nil_iff.1 e).1
  rw [if_neg hne, hsp, List.map_map]
  have hmap : (s :: r).map (wordVal ∘ fun s => bytesOf (word P s)) = s :: r := by
   conv => rhs; rw [← List.map_id (s :: r)]
   exact List.map_congr_left fun x hx => word_val hP (hr x hx).1 (hr x hx).2
  rw [hmap]
theorem readRes_len (s : ByteArray) (p : Int) (l : List Int) : (readRes s p l).2.1.length ≤ 12 := by
 unfold readRes
 split
 ·rename_i h
  exact (validSys_of h.1).2.1
 ·simp
theorem sysRead_both (s : ByteArray) (hs : s.size ≤ 1048576) : ∃ r, Ev (fun k => spec_ReadSystem.f k s) r ∧ Ev (fun k => impl_ReadSystem.f k s) r ∧ r.2.1.length ≤ 12 := by
 obtain ⟨L, rfl⟩ : ∃ L, s = mkB L := ⟨_, (mkB_self s).symm⟩
 have hL : L.length ≤ 1048576 := by rw [mkB_size] at hs; exact hs
 have h1 := specRead_ev L hL
 have h2 := implRead_ev L hL
 have e : readRes (mkB L) (specP L).1 (specP L).2 = readRes (mkB L) (implP L).1 (implP L).2 := by
  unfold readRes
  by_cases c : validSys (specP L).1 (specP L).2 = true ∧ textS (specP L).1 (specP L).2 = mkB L
  ·rw [implP_text _ _ L c.1 c.2]
  ·by_cases d : validSys (implP L).1 (implP L).2 = true ∧ textS (implP L).1 (implP L).2 = mkB L
   ·rw [specP_text _ _ L d.1 d.2]
   ·rw [if_neg c, if_neg d]
 rw [← e] at h2
 exact ⟨_, h1, h2, readRes_len _ _ _⟩
end Go.Proofs.YtdlnhddpgopghaaDoor.Com
namespace Go.Proofs.YtdlnhddpgopghaaDoor.Com
set_option linter.unusedSimpArgs false
set_option linter.unusedVariables false
open Go.RowKit Go.Proofs.YtdlnhddpgopghaaDoorW.PrintWords Go.Proofs.YtdlnhddpgopghaaDoor.Q
def markL (n : Nat) (a : Int) : List Int := (List.range n).map fun (i : Nat) => a + (i : Int)
theorem markL_len (n : Nat) (a : Int) : (markL n a).length = n := by simp [markL]
theorem markL_at (n : Nat) (a : Int) (i : Nat) (h : i < (markL n a).length) : (markL n a)[i] = a + i := by simp [markL]
theorem markL_succ (n : Nat) (a : Int) : markL (n + 1) a = markL n a ++ [a + n] := by
 unfold markL
 rw [List.range_succ, List.map_append]
 rfl
theorem mark_set (xs : List Int) (m : Nat) (a : Int) (h : m < xs.length) : (markL m a ++ xs.drop m).set m (a + m) = markL (m + 1) a ++ xs.drop (m + 1) := by
 rw [List.set_append_right _ _ (by rw [markL_len]; omega), markL_len, Nat.sub_self, List.drop_eq_getElem_cons h, List.set_cons_zero, markL_succ, List.append_assoc]
 rfl
theorem markInt64S_ev (xs : List Int) (a : Int) (hx : xs.length ≤ 1048576) (ha : 0 ≤ a ∧ a ≤ 1000000000000) : Ev (fun k => laws_markInt64S.f k xs a) (a + xs.length, markL xs.length a) := by
 unfold laws_markInt64S.f
 have gen := ev_count xs.length (fun m (s : List Int × Int) k => laws_markInt64S.l0 k s.1 s.2 (m : Int)) (a + (xs.length : Int), markL xs.length a) (fun m s => s = (markL m a ++ xs.drop m, a + m)) ?_ ?_ 0 (xs, a) (by omega) (by simp [markL])
 ·exact gen
 ·rintro s rfl
  refine Ev.step (fun k => by rw [laws_markInt64S.l0]) ?_
  have hl : (markL xs.length a ++ xs.drop xs.length).length = xs.length := by rw [List.length_append, markL_len, List.length_drop]; omega
  rw [List.drop_length, List.append_nil] at hl ⊢
  simp only [hl, if_neg (show ¬ (xs.length : Int) < (xs.length : Int) by omega)]
  exact Ev.now _
 ·rintro m s hm rfl
  refine ⟨_, rfl, fun ih => ?_⟩
  refine Ev.step (fun k => by rw [laws_markInt64S.l0]) ?_
  have hl : (markL m a ++ xs.drop m).length = xs.length := by rw [List.length_append, markL_len, List.length_drop]; omega
  simp only [hl, if_pos (show (m : Int) < (xs.length : Int) by omega), if_pos (show 0 ≤ (m : Int) by omega), Int.toNat_natCast, mark_set xs m a hm, w_succ (m := m) (by omega)]
  rw [w64 (by omega) (by omega)]
  simp only at ih
  rwa [show a + ((m + 1 : Nat) : Int) = a + (m : Int) + 1 by omega] at ih
theorem heldInt64S_ev (n : Nat) (a : Int) (hx : n ≤ 1048576) (ha : 0 ≤ a ∧ a ≤ 1000000000000) : Ev (fun k => laws_heldInt64S.f k (markL n a) a) (a + n) := by
 unfold laws_heldInt64S.f
 have gen := ev_count n (fun m (s : Int) k => laws_heldInt64S.l0 k (markL n a) s (m : Int)) (a + (n : Int)) (fun m s => s = a + m) ?_ ?_ 0 a (by omega) (by simp)
 ·exact gen
 ·rintro s rfl
  refine Ev.step (fun k => by rw [laws_heldInt64S.l0]) ?_
  simp only [markL_len, if_neg (show ¬ (n : Int) < (n : Int) by omega)]
  exact Ev.now _
 ·rintro m s hm rfl
  refine ⟨_, rfl, fun ih => ?_⟩
  refine Ev.step (fun k => by rw [laws_heldInt64S.l0]) ?_
  have h : m < (markL n a).length := by rw [markL_len]; exact hm
  simp only [if_pos (show (m : Int) < ((markL n a).length : Int) by rw [markL_len]; omega), if_pos (show 0 ≤ (m : Int) by omega), rd_nat h, markL_at, if_true, w_succ (m := m) (by omega)]
  rw [w64 (by omega) (by omega)]
  rwa [show a + ((m + 1 : Nat) : Int) = a + (m : Int) + 1 by omega] at ih
end Go.Proofs.YtdlnhddpgopghaaDoor.Com
namespace Go.Proofs.YtdlnhddpgopghaaDoor.Com
set_option linter.unusedSimpArgs false
set_option linter.unusedVariables false
open Go.RowKit Go.Proofs.YtdlnhddpgopghaaDoorW.PrintWords Go.Proofs.YtdlnhddpgopghaaDoor.Q
theorem markSystem_ev (p : Int) (l : List Int) (hx : l.length ≤ 1048576) : Ev (fun k => laws_markSystem.f k p l 1) (1 + l.length, markL l.length 1) := by
 unfold laws_markSystem.f
 exact Ev.bind (markInt64S_ev l 1 hx (by omega)) (Ev.now _)
theorem heldSystem_ev (p : Int) (n : Nat) (hx : n ≤ 1048576) : Ev (fun k => laws_heldSystem.f k p (markL n 1) 1) (1 + n) := by
 unfold laws_heldSystem.f
 refine Ev.bind (heldInt64S_ev n 1 hx (by omega)) ?_
 simp only [if_neg (show ¬ (1 + (n : Int)) < 0 by omega)]
 exact Ev.now _
end Go.Proofs.YtdlnhddpgopghaaDoor.Com
namespace Go.Proofs.YtdlnhddpgopghaaDoor.Pure
set_option linter.unusedSimpArgs false
set_option linter.unusedVariables false
open Go.RowKit Go.Proofs.YtdlnhddpgopghaaDoor.Q Go.Proofs.YtdlnhddpgopghaaDoorW.PrintWords Go.Proofs.YtdlnhddpgopghaaDoorW.PrintLast Go.Proofs.YtdlnhddpgopghaaDoor.Com
theorem FnExactReadSystem : laws_FnExactReadSystem.Pure := by
 intro s _
 apply ev_of
 unfold laws_FnExactReadSystem.f
 by_cases hs : (s.size : Int) > 1048576
 ·simp only [if_pos hs]
  exact Ev.now _
 ·simp only [if_neg hs]
  obtain ⟨⟨q, y, b⟩, hr, hi, hy⟩ := sysRead_both s (by omega)
  have hy : y.length ≤ 12 := hy
  have hheld := heldSystem_ev q y.length (by omega)
  refine Ev.bind hr (Ev.bind hi (Ev.bind (eqSystem_ev q y (by omega)) ?_))
  simp only [if_true, bne_self_eq_false]
  refine Ev.step (fun k => by rw [laws_FnExactReadSystem.j0]) ?_
  simp only [Bool.false_eq_true, if_false]
  refine Ev.bind (markSystem_ev q y (by omega)) (Ev.bind hheld ?_)
  simp only [if_neg (show ¬ (1 + (y.length : Int)) < 0 by omega), if_true]
  refine Ev.bind hi (Ev.bind (eqSystem_ev q y (by omega)) ?_)
  simp only [if_true, bne_self_eq_false]
  refine Ev.step (fun k => by rw [laws_FnExactReadSystem.j1]) ?_
  simp only [Bool.false_eq_true, if_false]
  refine Ev.bind hheld ?_
  simp only [if_neg (show ¬ (1 + (y.length : Int)) < 0 by omega), if_true]
  exact Ev.now _
end Go.Proofs.YtdlnhddpgopghaaDoor.Pure
