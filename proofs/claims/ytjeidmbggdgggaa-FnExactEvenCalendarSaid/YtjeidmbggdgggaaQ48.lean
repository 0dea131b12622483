/- Functions of the given program as plain functions, and that the program's calls answer as they do; written by a program of this session over the kit's print. -/
import Derived.Test.YtjeidmbggdgggaaQ0
import Derived.Test.YtjeidmbggdgggaaQ18
import Derived.Test.YtjeidmbggdgggaaQ21
import Derived.Test.YtjeidmbggdgggaaQ44
import Derived.Test.YtjeidmbggdgggaaQ45
import Derived.Test.YtjeidmbggdgggaaQ47
namespace Go.Proofs.Ytjeidmbggdgggaa.Q
open Go.RowKit Go.Proofs.YtjeidmbggdgggaaW.PrintWords Go.Proofs.YtjeidmbggdgggaaW.PrintLast Go.Proofs.YtjeidmbggdgggaaW.PrintMore
attribute [local go_sem] max2_int min2_int max_two min_two max_three min_three max_four min_four   -- for this text's walks alone
set_option linter.unusedVariables false
set_option linter.unusedSimpArgs false

/-! ### laws_FnExactEvenCalendar: function 10 -/
mutual
def laws_FnExactEvenCalendar.j0 : Nat → Int → Int → Int → Int → Bool → Bool → Int → Int → List Int → Int → Int → List Int → Option (Bool)
  | 0, _, _, _, _, _, _, _, _, _, _, _, _ => none
  | k + 1, x0, x1, x2, x3, x10, x41, x413000, x413001, x413002, x420000, x420001, x420002 => if x41 = true then (some false) else ((laws_markCalendar.f k x420000 x420001 x420002 1).bind fun bt421 => ((laws_heldCalendar.f k x420000 x420001 bt421.2 1).bind fun t423 => (if t423 < 0 then (some false) else (if t423 = bt421.1 then ((impl_EvenCalendar.f k x0 x1 x2 x3).bind fun bt424 => ((laws_eqCalendar.f k bt424.1 bt424.2.1 bt424.2.2.1 x413000 x413001 x413002).bind fun t431 => (if t431 = true then (laws_FnExactEvenCalendar.j1 k bt421.1 (bt424.2.2.2 != x10) x420000 x420001 bt421.2) else (laws_FnExactEvenCalendar.j1 k bt421.1 true x420000 x420001 bt421.2)))) else (some false)))))
def laws_FnExactEvenCalendar.j1 : Nat → Int → Bool → Int → Int → List Int → Option (Bool)
  | 0, _, _, _, _, _ => none
  | k + 1, x13, x69, x420000, x420001, x420002 => if x69 = true then (some false) else ((laws_heldCalendar.f k x420000 x420001 x420002 1).bind fun t432 => (if t432 < 0 then (some false) else (if t432 = x13 then (some true) else (some false))))
end
def laws_FnExactEvenCalendar.f (k : Nat) (a0 : Int) (a1 : Int) (a2 : Int) (a3 : Int) : Option (Bool) := (spec_EvenCalendar.f k a0 a1 a2 a3).bind fun bt406 => ((impl_EvenCalendar.f k a0 a1 a2 a3).bind fun bt413 => ((laws_eqCalendar.f k bt413.1 bt413.2.1 bt413.2.2.1 bt406.1 bt406.2.1 bt406.2.2.1).bind fun t420 => (if t420 = true then (laws_FnExactEvenCalendar.j0 k a0 a1 a2 a3 bt406.2.2.2 (bt413.2.2.2 != bt406.2.2.2) bt406.1 bt406.2.1 bt406.2.2.1 bt413.1 bt413.2.1 bt413.2.2.1) else (laws_FnExactEvenCalendar.j0 k a0 a1 a2 a3 bt406.2.2.2 true bt406.1 bt406.2.1 bt406.2.2.1 bt413.1 bt413.2.1 bt413.2.2.1))))
theorem laws_FnExactEvenCalendar.mono_l : ∀ k, (∀ y0 y1 y2 y3 y4 y5 y6 y7 y8 y9 y10 y11, LeO (laws_FnExactEvenCalendar.j0 k y0 y1 y2 y3 y4 y5 y6 y7 y8 y9 y10 y11) (laws_FnExactEvenCalendar.j0 (k + 1) y0 y1 y2 y3 y4 y5 y6 y7 y8 y9 y10 y11)) ∧ (∀ y0 y1 y2 y3 y4, LeO (laws_FnExactEvenCalendar.j1 k y0 y1 y2 y3 y4) (laws_FnExactEvenCalendar.j1 (k + 1) y0 y1 y2 y3 y4))
  | 0 => ⟨fun _ _ _ _ _ _ _ _ _ _ _ _ r h => by simp [laws_FnExactEvenCalendar.j0] at h, fun _ _ _ _ _ r h => by simp [laws_FnExactEvenCalendar.j1] at h⟩
  | k + 1 => by
    obtain ⟨ih0, ih1⟩ := laws_FnExactEvenCalendar.mono_l k
    refine ⟨?_, ?_⟩
    · intro y0 y1 y2 y3 y4 y5 y6 y7 y8 y9 y10 y11
      unfold laws_FnExactEvenCalendar.j0
      repeat' first
      | (with_reducible exact ih0 _ _ _ _ _ _ _ _ _ _ _ _)
      | (with_reducible exact ih1 _ _ _ _ _)
      | (with_reducible exact impl_EvenCalendar.mono _ _ _ _ _)
      | (with_reducible exact laws_eqCalendar.mono _ _ _ _ _ _ _)
      | (with_reducible exact laws_heldCalendar.mono _ _ _ _ _)
      | (with_reducible exact laws_markCalendar.mono _ _ _ _ _)
      | (with_reducible exact spec_EvenCalendar.mono _ _ _ _ _)
      | (with_reducible exact LeO.refl _)
      | (with_reducible exact LeO.none _)
      | (with_reducible refine LeO.ite ?_ ?_)
      | (with_reducible refine LeO.bind ?_ (fun _ => ?_))
      | exact ih0 _ _ _ _ _ _ _ _ _ _ _ _
      | exact ih1 _ _ _ _ _
      | exact impl_EvenCalendar.mono _ _ _ _ _
      | exact laws_eqCalendar.mono _ _ _ _ _ _ _
      | exact laws_heldCalendar.mono _ _ _ _ _
      | exact laws_markCalendar.mono _ _ _ _ _
      | exact spec_EvenCalendar.mono _ _ _ _ _
      | exact LeO.none _
      | refine LeO.ite ?_ ?_
      | refine LeO.bind ?_ (fun _ => ?_)
    · intro y0 y1 y2 y3 y4
      unfold laws_FnExactEvenCalendar.j1
      repeat' first
      | (with_reducible exact ih0 _ _ _ _ _ _ _ _ _ _ _ _)
      | (with_reducible exact ih1 _ _ _ _ _)
      | (with_reducible exact impl_EvenCalendar.mono _ _ _ _ _)
      | (with_reducible exact laws_eqCalendar.mono _ _ _ _ _ _ _)
      | (with_reducible exact laws_heldCalendar.mono _ _ _ _ _)
      | (with_reducible exact laws_markCalendar.mono _ _ _ _ _)
      | (with_reducible exact spec_EvenCalendar.mono _ _ _ _ _)
      | (with_reducible exact LeO.refl _)
      | (with_reducible exact LeO.none _)
      | (with_reducible refine LeO.ite ?_ ?_)
      | (with_reducible refine LeO.bind ?_ (fun _ => ?_))
      | exact ih0 _ _ _ _ _ _ _ _ _ _ _ _
      | exact ih1 _ _ _ _ _
      | exact impl_EvenCalendar.mono _ _ _ _ _
      | exact laws_eqCalendar.mono _ _ _ _ _ _ _
      | exact laws_heldCalendar.mono _ _ _ _ _
      | exact laws_markCalendar.mono _ _ _ _ _
      | exact spec_EvenCalendar.mono _ _ _ _ _
      | exact LeO.none _
      | refine LeO.ite ?_ ?_
      | refine LeO.bind ?_ (fun _ => ?_)
theorem laws_FnExactEvenCalendar.mono : ∀ a0 a1 a2 a3 k, LeO (laws_FnExactEvenCalendar.f k a0 a1 a2 a3) (laws_FnExactEvenCalendar.f (k + 1) a0 a1 a2 a3) := by
  intro a0 a1 a2 a3 k
  obtain ⟨ih0, ih1⟩ := laws_FnExactEvenCalendar.mono_l k
  unfold laws_FnExactEvenCalendar.f
  repeat' first
      | (with_reducible exact ih0 _ _ _ _ _ _ _ _ _ _ _ _)
      | (with_reducible exact ih1 _ _ _ _ _)
      | (with_reducible exact impl_EvenCalendar.mono _ _ _ _ _)
      | (with_reducible exact laws_eqCalendar.mono _ _ _ _ _ _ _)
      | (with_reducible exact laws_heldCalendar.mono _ _ _ _ _)
      | (with_reducible exact laws_markCalendar.mono _ _ _ _ _)
      | (with_reducible exact spec_EvenCalendar.mono _ _ _ _ _)
      | (with_reducible exact LeO.refl _)
      | (with_reducible exact LeO.none _)
      | (with_reducible refine LeO.ite ?_ ?_)
      | (with_reducible refine LeO.bind ?_ (fun _ => ?_))
      | exact ih0 _ _ _ _ _ _ _ _ _ _ _ _
      | exact ih1 _ _ _ _ _
      | exact impl_EvenCalendar.mono _ _ _ _ _
      | exact laws_eqCalendar.mono _ _ _ _ _ _ _
      | exact laws_heldCalendar.mono _ _ _ _ _
      | exact laws_markCalendar.mono _ _ _ _ _
      | exact spec_EvenCalendar.mono _ _ _ _ _
      | exact LeO.none _
      | refine LeO.ite ?_ ?_
      | refine LeO.bind ?_ (fun _ => ?_)
set_option maxHeartbeats 8000000 in
set_option maxRecDepth 100000 in
theorem laws_FnExactEvenCalendar.calls (k : Nat) (a0 : Int) (a1 : Int) (a2 : Int) (a3 : Int) (r : Bool) (w : World) (h : laws_FnExactEvenCalendar.f k a0 a1 a2 a3 = some r) :
    Calls Try.prog 10 #[.int .i64 a0, .int .i64 a1, .int .i64 a2, .int .i64 a3] w fun e w' => e = .returned (.bool r) ∧ Below w.heap.size w w' := by
  have hu34 := Try.underlying34
  have HB := Aside0.mk (Below.refl w.heap.size w)
  have H : ((spec_EvenCalendar.f k a0 a1 a2 a3).bind fun bt406 => ((impl_EvenCalendar.f k a0 a1 a2 a3).bind fun bt413 => ((laws_eqCalendar.f k bt413.1 bt413.2.1 bt413.2.2.1 bt406.1 bt406.2.1 bt406.2.2.1).bind fun t420 => (if t420 = true then (laws_FnExactEvenCalendar.j0 k a0 a1 a2 a3 bt406.2.2.2 (bt413.2.2.2 != bt406.2.2.2) bt406.1 bt406.2.1 bt406.2.2.1 bt413.1 bt413.2.1 bt413.2.2.1) else (laws_FnExactEvenCalendar.j0 k a0 a1 a2 a3 bt406.2.2.2 true bt406.1 bt406.2.1 bt406.2.2.1 bt413.1 bt413.2.1 bt413.2.2.1))))) = some r := h
  clear h
  replace H := Option.bind_eq_some_iff.mp H
  obtain ⟨⟨t406, t407, t408, t411⟩, A50, H⟩ := H
  replace H : ((impl_EvenCalendar.f k a0 a1 a2 a3).bind fun bt413 => ((laws_eqCalendar.f k bt413.1 bt413.2.1 bt413.2.2.1 t406 t407 t408).bind fun t420 => (if t420 = true then (laws_FnExactEvenCalendar.j0 k a0 a1 a2 a3 t411 (bt413.2.2.2 != t411) t406 t407 t408 bt413.1 bt413.2.1 bt413.2.2.1) else (laws_FnExactEvenCalendar.j0 k a0 a1 a2 a3 t411 true t406 t407 t408 bt413.1 bt413.2.1 bt413.2.2.1)))) = some r := H
  have A5 := Aside0.mk A50
  clear A50
  replace H := Option.bind_eq_some_iff.mp H
  obtain ⟨⟨t413, t414, t415, t418⟩, A60, H⟩ := H
  replace H : ((laws_eqCalendar.f k t413 t414 t415 t406 t407 t408).bind fun t420 => (if t420 = true then (laws_FnExactEvenCalendar.j0 k a0 a1 a2 a3 t411 (t418 != t411) t406 t407 t408 t413 t414 t415) else (laws_FnExactEvenCalendar.j0 k a0 a1 a2 a3 t411 true t406 t407 t408 t413 t414 t415))) = some r := H
  have A6 := Aside0.mk A60
  clear A60
  have HC7 := Aside0.mk H
  clear H
  go_enter Try.func10, Try.ntmps10
  go_upto_region 3 with (first | ((with_reducible refine gate_callee (f := 33) rfl ?_); refine goesL_ (some 22) rfl rfl Try.func33 (by kernel_rfl) rfl #[.int .i64 a0, .int .i64 a1, .int .i64 a2, .int .i64 a3] rfl (by (try simp only [List.map_toArray, List.map_cons, List.map_nil]); first | done | rfl | (simp only [List.length_drop, List.length_take]; rfl) | (simp only [show ∀ (n_ : Nat) (b_ : Int), Int.tdiv (n_ : Int) b_ = (n_ : Int) / b_ from fun n_ b_ => Int.tdiv_eq_ediv_of_nonneg (Int.natCast_nonneg n_)]; rfl)) ?_; (with_reducible refine (spec_EvenCalendar.calls k a0 a1 a2 a3 t406 t407 t408 t411 _ A5.out).mono ?_); rintro e w8 ⟨v409, rfl, ho0, hb⟩; refine ⟨_, rfl, ?_⟩; have n0_ := Aside0.mk (Kd.R_lower ho0 (below_size (by repeat (first | (with_reducible first | exact HB.out | apply below_alloc | apply pw_below_drewN | apply below_drew1) | exact HB.out)))); have n1_ := Aside0.mk (below_step (by repeat (first | (with_reducible first | exact HB.out | apply below_alloc | apply pw_below_drewN | apply below_drew1) | exact HB.out)) hb); clear HB; have HO410 := n0_; have HB := n1_; clear n0_ n1_; (try clear hb); (try clear hb2); (try clear hk); (try clear hi); (try clear ho0)) | ((with_reducible refine gate_dst (N := 9) rfl ?_); refine box_event ?hg (N := 9) ?hd (cs := #[.int .i64 0, .int .i64 0, .slice none 0 0]) (t := 34) ?hr ?_; (case hd => rfl); (case hg => rfl); (case hr => first | (go_simp; done) | (go_simp; rfl)); intro gb412 hg w9 hbox hb; have n0_ := Aside0.mk (Kd.R_below (by (with_reducible repeat (first | apply Kd.R_alloc | apply Kd.R_drewN | apply Kd.R_drew)); exact HO410.out) hb); have n1_ := Aside0.mk (below_step (by repeat (first | (with_reducible first | exact HB.out | apply below_alloc | apply pw_below_drewN | apply below_drew1) | exact HB.out)) hb); have n2_ := Aside0.mk (hbox); have n3_ := Aside0.mk ((by rw [hg]; exact (below_size (by repeat (first | (with_reducible first | exact HB.out | apply below_alloc | apply pw_below_drewN | apply below_drew1) | exact HB.out))) : w.heap.size ≤ gb412)); have n4_ := Aside0.mk ((by rw [hg]; exact (below_size (by repeat (first | (with_reducible first | exact HB.out | apply below_alloc | apply pw_below_drewN | apply below_drew1) | exact HB.out))) : w.heap.size ≤ gb412)); clear HO410; clear HB; have HO410 := n0_; have HB := n1_; have BK412 := n2_; have GW412 := n3_; have GE412 := n4_; clear n0_ n1_ n2_ n3_ n4_; clear hb hbox hg; have hcz10_0 : w9.cell? ⟨gb412, 0, none⟩ = some (.int .i64 0) := (blk_cell BK412.out 0).trans rfl; have hcz10_1 : w9.cell? ⟨gb412, 1, none⟩ = some (.int .i64 0) := (blk_cell BK412.out 1).trans rfl; have hcz10_2 : w9.cell? ⟨gb412, 2, none⟩ = some (.slice none 0 0) := (blk_cell BK412.out 2).trans rfl; have hfz10_0 := blk_frozen BK412.out 0; have hfz10_1 := blk_frozen BK412.out 1; have hfz10_2 := blk_frozen BK412.out 2; obtain ⟨Ao11, co11, eo11⟩ := Kd.R_slice HO410.out; subst eo11) | ((with_reducible refine gate_callee (f := 25) rfl ?_); refine goesL_ (some 30) rfl rfl Try.func25 (by kernel_rfl) rfl #[.int .i64 a0, .int .i64 a1, .int .i64 a2, .int .i64 a3] rfl (by (try simp only [List.map_toArray, List.map_cons, List.map_nil]); first | done | rfl | (simp only [List.length_drop, List.length_take]; rfl) | (simp only [show ∀ (n_ : Nat) (b_ : Int), Int.tdiv (n_ : Int) b_ = (n_ : Int) / b_ from fun n_ b_ => Int.tdiv_eq_ediv_of_nonneg (Int.natCast_nonneg n_)]; rfl)) ?_; (with_reducible refine (impl_EvenCalendar.calls k a0 a1 a2 a3 t413 t414 t415 t418 _ A6.out).mono ?_); rintro e w12 ⟨v416, rfl, ho0, hb⟩; refine ⟨_, rfl, ?_⟩; have n0_ := Aside0.mk (Kd.R_elder' (by (with_reducible repeat (first | apply Kd.R_alloc | apply Kd.R_drewN | apply Kd.R_drew)); exact (Kd.R_mono (Kd.R_far (p := ⟨gb412, 2, none⟩) (Kd.R_far (p := ⟨gb412, 1, none⟩) (Kd.R_far (p := ⟨gb412, 0, none⟩) (Kd.R_types HO410.out BK412.out (by decide)) (fun _ hk => hk.2) (.int .i64 t406)) (fun _ hk => hk.2) (.int .i64 t407)) (fun _ hk => hk.2) (.slice Ao11 t408.length co11)) (fun _ h_ => h_.1))) (Kd.R_base ho0) hb); have n1_ := Aside0.mk (Kd.R_lower (Kd.R_new' ho0 (Kd.R_lt (by (with_reducible repeat (first | apply Kd.R_alloc | apply Kd.R_drewN | apply Kd.R_drew)); exact (Kd.R_mono (Kd.R_far (p := ⟨gb412, 2, none⟩) (Kd.R_far (p := ⟨gb412, 1, none⟩) (Kd.R_far (p := ⟨gb412, 0, none⟩) (Kd.R_types HO410.out BK412.out (by decide)) (fun _ hk => hk.2) (.int .i64 t406)) (fun _ hk => hk.2) (.int .i64 t407)) (fun _ hk => hk.2) (.slice Ao11 t408.length co11)) (fun _ h_ => h_.1))))) (below_size (by repeat (first | (with_reducible first | exact HB.out | apply below_alloc | apply pw_below_drewN | apply below_drew1 | refine below_set ?_ GE412.out) | exact HB.out)))); have n2_ := Aside0.mk (blk_below (g := gb412) (o := .cells #[.int .i64 t406, .int .i64 t407, .slice Ao11 t408.length co11] 34 (0, 0)) (by (with_reducible repeat (first | refine blk_drewN ?_ _ | refine blk_drew ?_ | refine blk_alloc ?_ _)); refine blk_put (cs := #[.int .i64 t406, .int .i64 t407, .slice none 0 0]) ?_ 2 _ rfl; (with_reducible repeat (first | refine blk_drewN ?_ _ | refine blk_drew ?_ | refine blk_alloc ?_ _)); refine blk_put (cs := #[.int .i64 t406, .int .i64 0, .slice none 0 0]) ?_ 1 _ rfl; (with_reducible repeat (first | refine blk_drewN ?_ _ | refine blk_drew ?_ | refine blk_alloc ?_ _)); refine blk_put (cs := #[.int .i64 0, .int .i64 0, .slice none 0 0]) ?_ 0 _ rfl; (with_reducible repeat (first | refine blk_drewN ?_ _ | refine blk_drew ?_ | refine blk_alloc ?_ _)); exact BK412.out) hb); have n3_ := Aside0.mk (below_step (by repeat (first | (with_reducible first | exact HB.out | apply below_alloc | apply pw_below_drewN | apply below_drew1 | refine below_set ?_ GE412.out) | exact HB.out)) hb); clear HO410; clear BK412; clear HB; have HO410 := n0_; have HO417 := n1_; have BK412 := n2_; have HB := n3_; clear n0_ n1_ n2_ n3_; (try clear hb); (try clear hb2); (try clear hk); (try clear hi); (try clear ho0)) | ((with_reducible refine gate_dst (N := 11) rfl ?_); refine box_event ?hg (N := 11) ?hd (cs := #[.int .i64 0, .int .i64 0, .slice none 0 0]) (t := 34) ?hr ?_; (case hd => rfl); (case hg => rfl); (case hr => first | (go_simp; done) | (go_simp; rfl)); intro gb419 hg w13 hbox hb; have n0_ := Aside0.mk (Kd.R_below (by (with_reducible repeat (first | apply Kd.R_alloc | apply Kd.R_drewN | apply Kd.R_drew)); exact HO410.out) hb); have n1_ := Aside0.mk (Kd.R_below (by (with_reducible repeat (first | apply Kd.R_alloc | apply Kd.R_drewN | apply Kd.R_drew)); exact HO417.out) hb); have n2_ := Aside0.mk (blk_below (g := gb412) (o := .cells #[.int .i64 t406, .int .i64 t407, .slice Ao11 t408.length co11] 34 (0, 0)) (by (with_reducible repeat (first | refine blk_drewN ?_ _ | refine blk_drew ?_ | refine blk_alloc ?_ _)); exact BK412.out) hb); have n3_ := Aside0.mk (below_step (by repeat (first | (with_reducible first | exact HB.out | apply below_alloc | apply pw_below_drewN | apply below_drew1 | refine below_set ?_ GE412.out) | exact HB.out)) hb); have n4_ := Aside0.mk (hbox); have n5_ := Aside0.mk ((by rw [hg]; exact (below_size (by repeat (first | (with_reducible first | exact HB.out | apply below_alloc | apply pw_below_drewN | apply below_drew1 | refine below_set ?_ GE412.out) | exact HB.out))) : w.heap.size ≤ gb419)); have n6_ := Aside0.mk ((by rw [hg]; exact (below_size (by repeat (first | (with_reducible first | exact HB.out | apply below_alloc | apply pw_below_drewN | apply below_drew1 | refine below_set ?_ GE412.out) | exact HB.out))) : w.heap.size ≤ gb419)); have n7_ := Aside0.mk ((by rw [hg]; exact Nat.ne_of_lt (blk_lt (g := gb412) (o := .cells #[.int .i64 t406, .int .i64 t407, .slice Ao11 t408.length co11] 34 (0, 0)) (by (with_reducible repeat (first | refine blk_drewN ?_ _ | refine blk_drew ?_ | refine blk_alloc ?_ _)); exact BK412.out)) : gb412 ≠ gb419)); have n8_ := Aside0.mk ((by rw [hg]; exact Nat.ne_of_gt (blk_lt (g := gb412) (o := .cells #[.int .i64 t406, .int .i64 t407, .slice Ao11 t408.length co11] 34 (0, 0)) (by (with_reducible repeat (first | refine blk_drewN ?_ _ | refine blk_drew ?_ | refine blk_alloc ?_ _)); exact BK412.out)) : gb419 ≠ gb412)); clear HO410; clear HO417; clear BK412; clear HB; have HO410 := n0_; have HO417 := n1_; have BK412 := n2_; have HB := n3_; have BK419 := n4_; have GW419 := n5_; have GE419 := n6_; have NB412_419 := n7_; have NB419_412 := n8_; clear n0_ n1_ n2_ n3_ n4_ n5_ n6_ n7_ n8_; clear hb hbox hg; have hnb14 := NB419_412.out; have hnc14 := NB412_419.out; have hcz15_0 : w13.cell? ⟨gb419, 0, none⟩ = some (.int .i64 0) := (blk_cell BK419.out 0).trans rfl; have hcz15_1 : w13.cell? ⟨gb419, 1, none⟩ = some (.int .i64 0) := (blk_cell BK419.out 1).trans rfl; have hcz15_2 : w13.cell? ⟨gb419, 2, none⟩ = some (.slice none 0 0) := (blk_cell BK419.out 2).trans rfl; have hfz15_0 := blk_frozen BK419.out 0; have hfz15_1 := blk_frozen BK419.out 1; have hfz15_2 := blk_frozen BK419.out 2; obtain ⟨Ao16, co16, eo16⟩ := Kd.R_slice HO417.out; subst eo16))
  (try simp only [Act.put, List.setIfInBounds_toArray, List.set_cons_zero, List.set_cons_succ])
  go_cut [41] (fun v41 wc => ∃ (kq : Nat) (x41_6 : Bool), v41 = .bool x41_6 ∧ Aside0 (laws_FnExactEvenCalendar.j0 kq a0 a1 a2 a3 t411 x41_6 t406 t407 t408 t413 t414 t415 = some r) ∧ Aside0 (kq ≤ k) ∧ Aside0 (Kd.R (Kd.int .i64) 2 wc w.heap.size (fun k_ => some k_ ≠ ((.slice Ao16 t415.length co16) : Value).ownBlock) (.slice Ao11 t408.length co11) t408) ∧ Aside0 (Kd.R (Kd.int .i64) 2 wc w.heap.size (fun k_ => some k_ ≠ ((.slice Ao11 t408.length co11) : Value).ownBlock) (.slice Ao16 t415.length co16) t415) ∧ Aside0 (wc.heap[gb412]? = some (.cells #[.int .i64 t406, .int .i64 t407, (.slice Ao11 t408.length co11)] 34 (0, 0))) ∧ Aside0 (wc.heap[gb419]? = some (.cells #[.int .i64 t413, .int .i64 t414, (.slice Ao16 t415.length co16)] 34 (0, 0))) ∧ Aside0 (Below w.heap.size w wc))
  case first =>
    have H := HC7.out
    clear HC7
    replace H := Option.bind_eq_some_iff.mp H
    obtain ⟨t420, A170, H⟩ := H
    replace H : (if t420 = true then (laws_FnExactEvenCalendar.j0 k a0 a1 a2 a3 t411 (t418 != t411) t406 t407 t408 t413 t414 t415) else (laws_FnExactEvenCalendar.j0 k a0 a1 a2 a3 t411 true t406 t407 t408 t413 t414 t415)) = some r := H
    have A17 := Aside0.mk A170
    clear A170
    by_cases c18 : t420 = true
    · subst c18
      have H1 : (laws_FnExactEvenCalendar.j0 k a0 a1 a2 a3 t411 (t418 != t411) t406 t407 t408 t413 t414 t415) = some r := by rw [if_pos rfl] at H; exact H
      clear H
      have H := H1
      clear H1
      have H' := Aside0.mk H
      clear H
      have hnb19 := NB419_412.out
      have hnc19 := NB412_419.out
      have hcz20_0 : w13.cell? ⟨gb419, 0, none⟩ = some (.int .i64 0) := (blk_cell BK419.out 0).trans rfl
      have hcz20_1 : w13.cell? ⟨gb419, 1, none⟩ = some (.int .i64 0) := (blk_cell BK419.out 1).trans rfl
      have hcz20_2 : w13.cell? ⟨gb419, 2, none⟩ = some (.slice none 0 0) := (blk_cell BK419.out 2).trans rfl
      have hfz20_0 := blk_frozen BK419.out 0
      have hfz20_1 := blk_frozen BK419.out 1
      have hfz20_2 := blk_frozen BK419.out 2
      have hcz21_0 : w13.cell? ⟨gb412, 0, none⟩ = some (.int .i64 t406) := (blk_cell BK412.out 0).trans rfl
      have hcz21_1 : w13.cell? ⟨gb412, 1, none⟩ = some (.int .i64 t407) := (blk_cell BK412.out 1).trans rfl
      have hcz21_2 : w13.cell? ⟨gb412, 2, none⟩ = some (.slice Ao11 t408.length co11) := (blk_cell BK412.out 2).trans rfl
      have hfz21_0 := blk_frozen BK412.out 0
      have hfz21_1 := blk_frozen BK412.out 1
      have hfz21_2 := blk_frozen BK412.out 2
      go_wp2_with (first | ((with_reducible refine gate_callee (f := 24) rfl ?_); refine goesL_ (some 35) rfl rfl Try.func24 (by kernel_rfl) rfl #[.agg #[.int .i64 t413, .int .i64 t414, .slice Ao16 t415.length co16], .agg #[.int .i64 t406, .int .i64 t407, .slice Ao11 t408.length co11]] rfl (by (try simp only [List.map_toArray, List.map_cons, List.map_nil]); first | done | rfl | (simp only [List.length_drop, List.length_take]; rfl) | (simp only [show ∀ (n_ : Nat) (b_ : Int), Int.tdiv (n_ : Int) b_ = (n_ : Int) / b_ from fun n_ b_ => Int.tdiv_eq_ediv_of_nonneg (Int.natCast_nonneg n_)]; rfl)) ?_; (with_reducible refine (laws_eqCalendar.calls k t413 t414 _ _ t415 t406 t407 _ _ t408 true _ ?side1 ?side2 ?side3 ?side4 A17.out).mono ?_); (case side1 => refine (Kd.R_reads' (e := 2) (base := w.heap.size) (ok := fun k_ => (True ∧ some k_ ≠ (.slice Ao11 t408.length co11 : Value).ownBlock)) (n := t415.length) (c := co16) ?_).2.2; exact (by (with_reducible repeat (first | apply Kd.R_alloc | apply Kd.R_drewN | apply Kd.R_drew)); exact (Kd.R_mono (Kd.R_far (p := ⟨gb419, 2, none⟩) (Kd.R_far (p := ⟨gb419, 1, none⟩) (Kd.R_far (p := ⟨gb419, 0, none⟩) (Kd.R_types HO417.out BK419.out (by decide)) (fun _ hk => hk.2) (.int .i64 t413)) (fun _ hk => hk.2) (.int .i64 t414)) (fun _ hk => hk.2) (.slice Ao16 t415.length co16)) (fun _ h_ => h_.1)))); (case side2 => exact (Kd.R_reads' HO417.out).2.1); (case side3 => refine (Kd.R_reads' (e := 2) (base := w.heap.size) (ok := fun k_ => (True ∧ some k_ ≠ (.slice Ao16 t415.length co16 : Value).ownBlock)) (n := t408.length) (c := co11) ?_).2.2; exact (by (with_reducible repeat (first | apply Kd.R_alloc | apply Kd.R_drewN | apply Kd.R_drew)); exact (Kd.R_mono (Kd.R_far (p := ⟨gb419, 2, none⟩) (Kd.R_far (p := ⟨gb419, 1, none⟩) (Kd.R_far (p := ⟨gb419, 0, none⟩) (Kd.R_types HO410.out BK419.out (by decide)) (fun _ hk => hk.2) (.int .i64 t413)) (fun _ hk => hk.2) (.int .i64 t414)) (fun _ hk => hk.2) (.slice Ao16 t415.length co16)) (fun _ h_ => h_.1)))); (case side4 => exact (Kd.R_reads' HO410.out).2.1); rintro e w22 ⟨rfl, hb⟩; refine ⟨_, rfl, ?_⟩; have n0_ := Aside0.mk (Kd.R_below (by (with_reducible repeat (first | apply Kd.R_alloc | apply Kd.R_drewN | apply Kd.R_drew)); exact (Kd.R_mono (Kd.R_far (p := ⟨gb419, 2, none⟩) (Kd.R_far (p := ⟨gb419, 1, none⟩) (Kd.R_far (p := ⟨gb419, 0, none⟩) (Kd.R_types HO410.out BK419.out (by decide)) (fun _ hk => hk.2) (.int .i64 t413)) (fun _ hk => hk.2) (.int .i64 t414)) (fun _ hk => hk.2) (.slice Ao16 t415.length co16)) (fun _ h_ => h_.1))) hb); have n1_ := Aside0.mk (Kd.R_below (by (with_reducible repeat (first | apply Kd.R_alloc | apply Kd.R_drewN | apply Kd.R_drew)); exact (Kd.R_mono (Kd.R_far (p := ⟨gb419, 2, none⟩) (Kd.R_far (p := ⟨gb419, 1, none⟩) (Kd.R_far (p := ⟨gb419, 0, none⟩) (Kd.R_types HO417.out BK419.out (by decide)) (fun _ hk => hk.2) (.int .i64 t413)) (fun _ hk => hk.2) (.int .i64 t414)) (fun _ hk => hk.2) (.slice Ao16 t415.length co16)) (fun _ h_ => h_.1))) hb); have n2_ := Aside0.mk (blk_below (g := gb412) (o := .cells #[.int .i64 t406, .int .i64 t407, .slice Ao11 t408.length co11] 34 (0, 0)) (by (with_reducible repeat (first | refine blk_drewN ?_ _ | refine blk_drew ?_ | refine blk_alloc ?_ _)); refine blk_far ?_ NB412_419.out _; (with_reducible repeat (first | refine blk_drewN ?_ _ | refine blk_drew ?_ | refine blk_alloc ?_ _)); refine blk_far ?_ NB412_419.out _; (with_reducible repeat (first | refine blk_drewN ?_ _ | refine blk_drew ?_ | refine blk_alloc ?_ _)); refine blk_far ?_ NB412_419.out _; (with_reducible repeat (first | refine blk_drewN ?_ _ | refine blk_drew ?_ | refine blk_alloc ?_ _)); exact BK412.out) hb); have n3_ := Aside0.mk (blk_below (g := gb419) (o := .cells #[.int .i64 t413, .int .i64 t414, .slice Ao16 t415.length co16] 34 (0, 0)) (by (with_reducible repeat (first | refine blk_drewN ?_ _ | refine blk_drew ?_ | refine blk_alloc ?_ _)); refine blk_put (cs := #[.int .i64 t413, .int .i64 t414, .slice none 0 0]) ?_ 2 _ rfl; (with_reducible repeat (first | refine blk_drewN ?_ _ | refine blk_drew ?_ | refine blk_alloc ?_ _)); refine blk_put (cs := #[.int .i64 t413, .int .i64 0, .slice none 0 0]) ?_ 1 _ rfl; (with_reducible repeat (first | refine blk_drewN ?_ _ | refine blk_drew ?_ | refine blk_alloc ?_ _)); refine blk_put (cs := #[.int .i64 0, .int .i64 0, .slice none 0 0]) ?_ 0 _ rfl; (with_reducible repeat (first | refine blk_drewN ?_ _ | refine blk_drew ?_ | refine blk_alloc ?_ _)); exact BK419.out) hb); have n4_ := Aside0.mk (below_step (by repeat (first | (with_reducible first | exact HB.out | apply below_alloc | apply pw_below_drewN | apply below_drew1 | refine below_set ?_ GE412.out | refine below_set ?_ GE419.out) | exact HB.out)) hb); clear HO410; clear HO417; clear BK412; clear BK419; clear HB; have HO410 := n0_; have HO417 := n1_; have BK412 := n2_; have BK419 := n3_; have HB := n4_; clear n0_ n1_ n2_ n3_ n4_; (try clear hb); (try clear hb2); (try clear hk); (try clear hi)))
      go_meet
      case rel => exact ⟨_, ((t418 != t411)), (by first | rfl | (simp; done) | (simp [*]; done)), H', ⟨by first | omega | exact Nat.le_refl _⟩, ⟨by (with_reducible repeat (first | apply Kd.R_alloc | apply Kd.R_drewN | apply Kd.R_drew)); exact Kd.R_mono HO410.out (fun _ hk => hk.2)⟩, ⟨by (with_reducible repeat (first | apply Kd.R_alloc | apply Kd.R_drewN | apply Kd.R_drew)); exact Kd.R_mono HO417.out (fun _ hk => hk.2)⟩, ⟨by (with_reducible repeat (first | refine blk_drewN ?_ _ | refine blk_drew ?_ | refine blk_alloc ?_ _)); exact BK412.out⟩, ⟨by (with_reducible repeat (first | refine blk_drewN ?_ _ | refine blk_drew ?_ | refine blk_alloc ?_ _)); exact BK419.out⟩, ⟨by repeat (first | (with_reducible first | exact HB.out | apply below_alloc | apply pw_below_drewN | apply below_drew1 | refine below_set ?_ GE412.out | refine below_set ?_ GE419.out) | exact HB.out)⟩⟩
    · replace c18 := Bool.eq_false_iff.mpr c18
      subst c18
      have H1 : (laws_FnExactEvenCalendar.j0 k a0 a1 a2 a3 t411 true t406 t407 t408 t413 t414 t415) = some r := by rw [if_neg (show ¬ (false = true) by decide)] at H; exact H
      clear H
      have H := H1
      clear H1
      have H' := Aside0.mk H
      clear H
      have hnb23 := NB419_412.out
      have hnc23 := NB412_419.out
      have hcz24_0 : w13.cell? ⟨gb419, 0, none⟩ = some (.int .i64 0) := (blk_cell BK419.out 0).trans rfl
      have hcz24_1 : w13.cell? ⟨gb419, 1, none⟩ = some (.int .i64 0) := (blk_cell BK419.out 1).trans rfl
      have hcz24_2 : w13.cell? ⟨gb419, 2, none⟩ = some (.slice none 0 0) := (blk_cell BK419.out 2).trans rfl
      have hfz24_0 := blk_frozen BK419.out 0
      have hfz24_1 := blk_frozen BK419.out 1
      have hfz24_2 := blk_frozen BK419.out 2
      have hcz25_0 : w13.cell? ⟨gb412, 0, none⟩ = some (.int .i64 t406) := (blk_cell BK412.out 0).trans rfl
      have hcz25_1 : w13.cell? ⟨gb412, 1, none⟩ = some (.int .i64 t407) := (blk_cell BK412.out 1).trans rfl
      have hcz25_2 : w13.cell? ⟨gb412, 2, none⟩ = some (.slice Ao11 t408.length co11) := (blk_cell BK412.out 2).trans rfl
      have hfz25_0 := blk_frozen BK412.out 0
      have hfz25_1 := blk_frozen BK412.out 1
      have hfz25_2 := blk_frozen BK412.out 2
      go_wp2_with (first | ((with_reducible refine gate_callee (f := 24) rfl ?_); refine goesL_ (some 35) rfl rfl Try.func24 (by kernel_rfl) rfl #[.agg #[.int .i64 t413, .int .i64 t414, .slice Ao16 t415.length co16], .agg #[.int .i64 t406, .int .i64 t407, .slice Ao11 t408.length co11]] rfl (by (try simp only [List.map_toArray, List.map_cons, List.map_nil]); first | done | rfl | (simp only [List.length_drop, List.length_take]; rfl) | (simp only [show ∀ (n_ : Nat) (b_ : Int), Int.tdiv (n_ : Int) b_ = (n_ : Int) / b_ from fun n_ b_ => Int.tdiv_eq_ediv_of_nonneg (Int.natCast_nonneg n_)]; rfl)) ?_; (with_reducible refine (laws_eqCalendar.calls k t413 t414 _ _ t415 t406 t407 _ _ t408 false _ ?side1 ?side2 ?side3 ?side4 A17.out).mono ?_); (case side1 => refine (Kd.R_reads' (e := 2) (base := w.heap.size) (ok := fun k_ => (True ∧ some k_ ≠ (.slice Ao11 t408.length co11 : Value).ownBlock)) (n := t415.length) (c := co16) ?_).2.2; exact (by (with_reducible repeat (first | apply Kd.R_alloc | apply Kd.R_drewN | apply Kd.R_drew)); exact (Kd.R_mono (Kd.R_far (p := ⟨gb419, 2, none⟩) (Kd.R_far (p := ⟨gb419, 1, none⟩) (Kd.R_far (p := ⟨gb419, 0, none⟩) (Kd.R_types HO417.out BK419.out (by decide)) (fun _ hk => hk.2) (.int .i64 t413)) (fun _ hk => hk.2) (.int .i64 t414)) (fun _ hk => hk.2) (.slice Ao16 t415.length co16)) (fun _ h_ => h_.1)))); (case side2 => exact (Kd.R_reads' HO417.out).2.1); (case side3 => refine (Kd.R_reads' (e := 2) (base := w.heap.size) (ok := fun k_ => (True ∧ some k_ ≠ (.slice Ao16 t415.length co16 : Value).ownBlock)) (n := t408.length) (c := co11) ?_).2.2; exact (by (with_reducible repeat (first | apply Kd.R_alloc | apply Kd.R_drewN | apply Kd.R_drew)); exact (Kd.R_mono (Kd.R_far (p := ⟨gb419, 2, none⟩) (Kd.R_far (p := ⟨gb419, 1, none⟩) (Kd.R_far (p := ⟨gb419, 0, none⟩) (Kd.R_types HO410.out BK419.out (by decide)) (fun _ hk => hk.2) (.int .i64 t413)) (fun _ hk => hk.2) (.int .i64 t414)) (fun _ hk => hk.2) (.slice Ao16 t415.length co16)) (fun _ h_ => h_.1)))); (case side4 => exact (Kd.R_reads' HO410.out).2.1); rintro e w26 ⟨rfl, hb⟩; refine ⟨_, rfl, ?_⟩; have n0_ := Aside0.mk (Kd.R_below (by (with_reducible repeat (first | apply Kd.R_alloc | apply Kd.R_drewN | apply Kd.R_drew)); exact (Kd.R_mono (Kd.R_far (p := ⟨gb419, 2, none⟩) (Kd.R_far (p := ⟨gb419, 1, none⟩) (Kd.R_far (p := ⟨gb419, 0, none⟩) (Kd.R_types HO410.out BK419.out (by decide)) (fun _ hk => hk.2) (.int .i64 t413)) (fun _ hk => hk.2) (.int .i64 t414)) (fun _ hk => hk.2) (.slice Ao16 t415.length co16)) (fun _ h_ => h_.1))) hb); have n1_ := Aside0.mk (Kd.R_below (by (with_reducible repeat (first | apply Kd.R_alloc | apply Kd.R_drewN | apply Kd.R_drew)); exact (Kd.R_mono (Kd.R_far (p := ⟨gb419, 2, none⟩) (Kd.R_far (p := ⟨gb419, 1, none⟩) (Kd.R_far (p := ⟨gb419, 0, none⟩) (Kd.R_types HO417.out BK419.out (by decide)) (fun _ hk => hk.2) (.int .i64 t413)) (fun _ hk => hk.2) (.int .i64 t414)) (fun _ hk => hk.2) (.slice Ao16 t415.length co16)) (fun _ h_ => h_.1))) hb); have n2_ := Aside0.mk (blk_below (g := gb412) (o := .cells #[.int .i64 t406, .int .i64 t407, .slice Ao11 t408.length co11] 34 (0, 0)) (by (with_reducible repeat (first | refine blk_drewN ?_ _ | refine blk_drew ?_ | refine blk_alloc ?_ _)); refine blk_far ?_ NB412_419.out _; (with_reducible repeat (first | refine blk_drewN ?_ _ | refine blk_drew ?_ | refine blk_alloc ?_ _)); refine blk_far ?_ NB412_419.out _; (with_reducible repeat (first | refine blk_drewN ?_ _ | refine blk_drew ?_ | refine blk_alloc ?_ _)); refine blk_far ?_ NB412_419.out _; (with_reducible repeat (first | refine blk_drewN ?_ _ | refine blk_drew ?_ | refine blk_alloc ?_ _)); exact BK412.out) hb); have n3_ := Aside0.mk (blk_below (g := gb419) (o := .cells #[.int .i64 t413, .int .i64 t414, .slice Ao16 t415.length co16] 34 (0, 0)) (by (with_reducible repeat (first | refine blk_drewN ?_ _ | refine blk_drew ?_ | refine blk_alloc ?_ _)); refine blk_put (cs := #[.int .i64 t413, .int .i64 t414, .slice none 0 0]) ?_ 2 _ rfl; (with_reducible repeat (first | refine blk_drewN ?_ _ | refine blk_drew ?_ | refine blk_alloc ?_ _)); refine blk_put (cs := #[.int .i64 t413, .int .i64 0, .slice none 0 0]) ?_ 1 _ rfl; (with_reducible repeat (first | refine blk_drewN ?_ _ | refine blk_drew ?_ | refine blk_alloc ?_ _)); refine blk_put (cs := #[.int .i64 0, .int .i64 0, .slice none 0 0]) ?_ 0 _ rfl; (with_reducible repeat (first | refine blk_drewN ?_ _ | refine blk_drew ?_ | refine blk_alloc ?_ _)); exact BK419.out) hb); have n4_ := Aside0.mk (below_step (by repeat (first | (with_reducible first | exact HB.out | apply below_alloc | apply pw_below_drewN | apply below_drew1 | refine below_set ?_ GE412.out | refine below_set ?_ GE419.out) | exact HB.out)) hb); clear HO410; clear HO417; clear BK412; clear BK419; clear HB; have HO410 := n0_; have HO417 := n1_; have BK412 := n2_; have BK419 := n3_; have HB := n4_; clear n0_ n1_ n2_ n3_ n4_; (try clear hb); (try clear hb2); (try clear hk); (try clear hi)))
      go_meet
      case rel => exact ⟨_, (true), (by first | rfl | (simp; done) | (simp [*]; done)), H', ⟨by first | omega | exact Nat.le_refl _⟩, ⟨by (with_reducible repeat (first | apply Kd.R_alloc | apply Kd.R_drewN | apply Kd.R_drew)); exact Kd.R_mono HO410.out (fun _ hk => hk.2)⟩, ⟨by (with_reducible repeat (first | apply Kd.R_alloc | apply Kd.R_drewN | apply Kd.R_drew)); exact Kd.R_mono HO417.out (fun _ hk => hk.2)⟩, ⟨by (with_reducible repeat (first | refine blk_drewN ?_ _ | refine blk_drew ?_ | refine blk_alloc ?_ _)); exact BK412.out⟩, ⟨by (with_reducible repeat (first | refine blk_drewN ?_ _ | refine blk_drew ?_ | refine blk_alloc ?_ _)); exact BK419.out⟩, ⟨by repeat (first | (with_reducible first | exact HB.out | apply below_alloc | apply pw_below_drewN | apply below_drew1 | refine below_set ?_ GE412.out | refine below_set ?_ GE419.out) | exact HB.out)⟩⟩
  case rest =>
    clear HC7
    try clear c1
    try clear c2
    try clear p2
    try clear c3
    try clear c10
    try clear c14
    try clear c18
    try clear c19
    try clear c23
    try clear c24
    try clear c25
    try clear hcz10_0
    try clear hcz10_1
    try clear hcz10_2
    try clear hcz15_0
    try clear hcz15_1
    try clear hcz15_2
    try clear hcz20_0
    try clear hcz20_1
    try clear hcz20_2
    try clear hcz21_0
    try clear hcz21_1
    try clear hcz21_2
    try clear hcz24_0
    try clear hcz24_1
    try clear hcz24_2
    try clear hcz25_0
    try clear hcz25_1
    try clear hcz25_2
    try clear hfz10_0
    try clear hfz10_1
    try clear hfz10_2
    try clear hfz15_0
    try clear hfz15_1
    try clear hfz15_2
    try clear hfz20_0
    try clear hfz20_1
    try clear hfz20_2
    try clear hfz21_0
    try clear hfz21_1
    try clear hfz21_2
    try clear hfz24_0
    try clear hfz24_1
    try clear hfz24_2
    try clear hfz25_0
    try clear hfz25_1
    try clear hfz25_2
    obtain ⟨kq, x41_6, rfl, HA, HJ6, HO_413002, HO_420002, BK412, BK419, HB⟩ := hcut
    cases kq with
    | zero => exact absurd HA.out (by simp [laws_FnExactEvenCalendar.j0])
    | succ kj6 =>
      have H := HA.out
      clear HA
      simp only [laws_FnExactEvenCalendar.j0] at H
      by_cases c27 : x41_6 = true
      · subst c27
        have H1 : (some false) = some r := by rw [if_pos rfl] at H; exact H
        clear H
        have H := H1
        clear H1
        obtain rfl := Option.some.inj H
        go_wp2
        go_ret
        exact ⟨by first | rfl | (simp [errW_none, errW_some] <;> rfl) | (simp [*, errW_none, errW_some] <;> rfl), by repeat (first | (with_reducible first | exact HB.out | apply below_alloc | apply pw_below_drewN | apply below_drew1 | refine below_set ?_ GE412.out | refine below_set ?_ GE419.out) | exact HB.out)⟩
      · replace c27 := Bool.eq_false_iff.mpr c27
        subst c27
        have H1 : ((laws_markCalendar.f kj6 t413 t414 t415 1).bind fun bt421 => ((laws_heldCalendar.f kj6 t413 t414 bt421.2 1).bind fun t423 => (if t423 < 0 then (some false) else (if t423 = bt421.1 then ((impl_EvenCalendar.f kj6 a0 a1 a2 a3).bind fun bt424 => ((laws_eqCalendar.f kj6 bt424.1 bt424.2.1 bt424.2.2.1 t406 t407 t408).bind fun t431 => (if t431 = true then (laws_FnExactEvenCalendar.j1 kj6 bt421.1 (bt424.2.2.2 != t411) t413 t414 bt421.2) else (laws_FnExactEvenCalendar.j1 kj6 bt421.1 true t413 t414 bt421.2)))) else (some false))))) = some r := by rw [if_neg (show ¬ (false = true) by decide)] at H; exact H
        clear H
        have H := H1
        clear H1
        replace H := Option.bind_eq_some_iff.mp H
        obtain ⟨⟨t421, t422⟩, A280, H⟩ := H
        replace H : ((laws_heldCalendar.f kj6 t413 t414 t422 1).bind fun t423 => (if t423 < 0 then (some false) else (if t423 = t421 then ((impl_EvenCalendar.f kj6 a0 a1 a2 a3).bind fun bt424 => ((laws_eqCalendar.f kj6 bt424.1 bt424.2.1 bt424.2.2.1 t406 t407 t408).bind fun t431 => (if t431 = true then (laws_FnExactEvenCalendar.j1 kj6 t421 (bt424.2.2.2 != t411) t413 t414 t422) else (laws_FnExactEvenCalendar.j1 kj6 t421 true t413 t414 t422)))) else (some false)))) = some r := H
        have A28 := Aside0.mk A280
        clear A280
        replace H := Option.bind_eq_some_iff.mp H
        obtain ⟨t423, A290, H⟩ := H
        replace H : (if t423 < 0 then (some false) else (if t423 = t421 then ((impl_EvenCalendar.f kj6 a0 a1 a2 a3).bind fun bt424 => ((laws_eqCalendar.f kj6 bt424.1 bt424.2.1 bt424.2.2.1 t406 t407 t408).bind fun t431 => (if t431 = true then (laws_FnExactEvenCalendar.j1 kj6 t421 (bt424.2.2.2 != t411) t413 t414 t422) else (laws_FnExactEvenCalendar.j1 kj6 t421 true t413 t414 t422)))) else (some false))) = some r := H
        have A29 := Aside0.mk A290
        clear A290
        by_cases c30 : t423 < 0
        · rw [if_pos c30] at H
          have c30b0 : decide (t423 < 0) = true := decide_eq_true c30
          clear c30
          obtain rfl := Option.some.inj H
          have hnb31 := NB419_412.out
          have hnc31 := NB412_419.out
          have hcz32_0 : wc.cell? ⟨gb419, 0, none⟩ = some (.int .i64 t413) := (blk_cell BK419.out 0).trans rfl
          have hcz32_1 : wc.cell? ⟨gb419, 1, none⟩ = some (.int .i64 t414) := (blk_cell BK419.out 1).trans rfl
          have hcz32_2 : wc.cell? ⟨gb419, 2, none⟩ = some (.slice Ao16 t415.length co16) := (blk_cell BK419.out 2).trans rfl
          have hfz32_0 := blk_frozen BK419.out 0
          have hfz32_1 := blk_frozen BK419.out 1
          have hfz32_2 := blk_frozen BK419.out 2
          go_wp2_with (first | ((with_reducible refine gate_callee (f := 34) rfl ?_); refine goesL_ (some 44) rfl rfl Try.func34 (by kernel_rfl) rfl #[.agg #[.int .i64 t413, .int .i64 t414, .slice Ao16 t415.length co16], .int .i64 1] rfl (by (try simp only [List.map_toArray, List.map_cons, List.map_nil]); first | done | rfl | (simp only [List.length_drop, List.length_take]; rfl) | (simp only [show ∀ (n_ : Nat) (b_ : Int), Int.tdiv (n_ : Int) b_ = (n_ : Int) / b_ from fun n_ b_ => Int.tdiv_eq_ediv_of_nonneg (Int.natCast_nonneg n_)]; rfl)) ?_; (with_reducible refine (laws_markCalendar.calls kj6 t413 t414 (fun k_ => some k_ = (.slice Ao16 t415.length co16 : Value).ownBlock) (.slice Ao16 t415.length co16) t415 1 t421 t422 w _ ?side1 ?side2 A28.out).mono ?_); (case side1 => repeat (first | (with_reducible first | exact HB.out | apply below_alloc | apply pw_below_drewN | apply below_drew1 | refine below_set ?_ GE412.out | refine below_set ?_ GE419.out) | exact HB.out)); (case side2 => exact Kd.R_tight rfl HO_420002.out); rintro e w33 ⟨rfl, hy0, hb, hkp⟩; refine ⟨_, rfl, ?_⟩; have n0_ := Aside0.mk (Kd.R_mono (ok' := fun k_ => some k_ ≠ (.slice Ao16 t415.length co16 : Value).ownBlock) (Kd.R_keptB (HO_413002.out) hkp (fun k_ hk_ hs_ => (hk_) hs_)) (fun k_ hk_ => hk_.1)); have n1_ := Aside0.mk (Kd.R_reok rfl hy0 (fun k_ e_ => HO_420002.out.1 k_ e_)); have n2_ := Aside0.mk (blk_kept (by (with_reducible repeat (first | refine blk_drewN ?_ _ | refine blk_drew ?_ | refine blk_alloc ?_ _)); exact BK412.out) hkp (fun hs_ => (fun e_ => (Kd.R_ne HO_420002.out BK412.out (by decide)) e_) hs_)); have n3_ := Aside0.mk (blk_kept (by (with_reducible repeat (first | refine blk_drewN ?_ _ | refine blk_drew ?_ | refine blk_alloc ?_ _)); exact BK419.out) hkp (fun hs_ => (fun e_ => (Kd.R_ne HO_420002.out BK419.out (by decide)) e_) hs_)); have n4_ := Aside0.mk (hb); clear HO_413002; clear HO_420002; clear BK412; clear BK419; clear HB; have HO_413002 := n0_; have HO_420002 := n1_; have BK412 := n2_; have BK419 := n3_; have HB := n4_; clear n0_ n1_ n2_ n3_ n4_; (try clear hb); (try clear hkp); (try clear hy0); have hcz34_0 : w33.cell? ⟨gb419, 0, none⟩ = some (.int .i64 t413) := (blk_cell BK419.out 0).trans rfl; have hcz34_1 : w33.cell? ⟨gb419, 1, none⟩ = some (.int .i64 t414) := (blk_cell BK419.out 1).trans rfl; have hcz34_2 : w33.cell? ⟨gb419, 2, none⟩ = some (.slice Ao16 t415.length co16) := (blk_cell BK419.out 2).trans rfl; have hfz34_0 := blk_frozen BK419.out 0; have hfz34_1 := blk_frozen BK419.out 1; have hfz34_2 := blk_frozen BK419.out 2) | ((with_reducible refine gate_callee (f := 35) rfl ?_); refine goesL_ (some 47) rfl rfl Try.func35 (by kernel_rfl) rfl #[.agg #[.int .i64 t413, .int .i64 t414, .slice Ao16 t422.length co16], .int .i64 1] rfl (by (try simp only [List.map_toArray, List.map_cons, List.map_nil]); first | done | (rw [show t422.length = t415.length from (Kd.R_reads' HO_420002.out).1.symm] <;> rfl) | rfl | (simp only [List.length_drop, List.length_take]; rfl)) ?_; (with_reducible refine (laws_heldCalendar.calls kj6 t413 t414 _ _ t422 1 t423 _ ?side1 ?side2 A29.out).mono ?_); (case side1 => repeat (first | exact (Kd.R_reads' HO_420002.out).2.2 | (with_reducible refine Kd.C_alloc ?_ _) | (with_reducible refine Kd.C_drewN ?_ _) | (with_reducible refine Kd.C_drew ?_))); (case side2 => rw [show t422.length = t415.length from (Kd.R_reads' HO_420002.out).1.symm]; exact (Kd.R_reads' HO_420002.out).2.1); rintro e w35 ⟨rfl, hb⟩; refine ⟨_, rfl, ?_⟩; have n0_ := Aside0.mk (Kd.R_below (by (with_reducible repeat (first | apply Kd.R_alloc | apply Kd.R_drewN | apply Kd.R_drew)); exact HO_413002.out) hb); have n1_ := Aside0.mk (Kd.R_below (by (with_reducible repeat (first | apply Kd.R_alloc | apply Kd.R_drewN | apply Kd.R_drew)); exact HO_420002.out) hb); have n2_ := Aside0.mk (blk_below (g := gb412) (o := .cells #[.int .i64 t406, .int .i64 t407, .slice Ao11 t408.length co11] 34 (0, 0)) (by (with_reducible repeat (first | refine blk_drewN ?_ _ | refine blk_drew ?_ | refine blk_alloc ?_ _)); exact BK412.out) hb); have n3_ := Aside0.mk (blk_below (g := gb419) (o := .cells #[.int .i64 t413, .int .i64 t414, .slice Ao16 t415.length co16] 34 (0, 0)) (by (with_reducible repeat (first | refine blk_drewN ?_ _ | refine blk_drew ?_ | refine blk_alloc ?_ _)); exact BK419.out) hb); have n4_ := Aside0.mk (below_step (by repeat (first | (with_reducible first | exact HB.out | apply below_alloc | apply pw_below_drewN | apply below_drew1 | refine below_set ?_ GE412.out | refine below_set ?_ GE419.out) | exact HB.out)) hb); clear HO_413002; clear HO_420002; clear BK412; clear BK419; clear HB; have HO_413002 := n0_; have HO_420002 := n1_; have BK412 := n2_; have BK419 := n3_; have HB := n4_; clear n0_ n1_ n2_ n3_ n4_; (try clear hb); (try clear hb2); (try clear hk); (try clear hi)))
          go_ret
          exact ⟨by first | rfl | (simp [errW_none, errW_some] <;> rfl) | (simp [*, errW_none, errW_some] <;> rfl), by repeat (first | (with_reducible first | exact HB.out | apply below_alloc | apply pw_below_drewN | apply below_drew1 | refine below_set ?_ GE412.out | refine below_set ?_ GE419.out) | exact HB.out)⟩
        · rw [if_neg c30] at H
          have c30b0 : decide (t423 < 0) = false := decide_eq_false c30
          clear c30
          by_cases c36 : t423 = t421
          · rw [if_pos c36] at H
            have c36b0 : (t423 == t421) = true := beq_iff_eq.mpr c36
            have c36b1 : (t423 != t421) = false := bne_eq_false_iff_eq.mpr c36
            clear c36
            replace H := Option.bind_eq_some_iff.mp H
            obtain ⟨⟨t424, t425, t426, t429⟩, A370, H⟩ := H
            replace H : ((laws_eqCalendar.f kj6 t424 t425 t426 t406 t407 t408).bind fun t431 => (if t431 = true then (laws_FnExactEvenCalendar.j1 kj6 t421 (t429 != t411) t413 t414 t422) else (laws_FnExactEvenCalendar.j1 kj6 t421 true t413 t414 t422))) = some r := H
            have A37 := Aside0.mk A370
            clear A370
            have HC38 := Aside0.mk H
            clear H
            have hnb39 := NB419_412.out
            have hnc39 := NB412_419.out
            have hcz40_0 : wc.cell? ⟨gb419, 0, none⟩ = some (.int .i64 t413) := (blk_cell BK419.out 0).trans rfl
            have hcz40_1 : wc.cell? ⟨gb419, 1, none⟩ = some (.int .i64 t414) := (blk_cell BK419.out 1).trans rfl
            have hcz40_2 : wc.cell? ⟨gb419, 2, none⟩ = some (.slice Ao16 t415.length co16) := (blk_cell BK419.out 2).trans rfl
            have hfz40_0 := blk_frozen BK419.out 0
            have hfz40_1 := blk_frozen BK419.out 1
            have hfz40_2 := blk_frozen BK419.out 2
            go_upto_region 14 with (first | ((with_reducible refine gate_callee (f := 34) rfl ?_); refine goesL_ (some 44) rfl rfl Try.func34 (by kernel_rfl) rfl #[.agg #[.int .i64 t413, .int .i64 t414, .slice Ao16 t415.length co16], .int .i64 1] rfl (by (try simp only [List.map_toArray, List.map_cons, List.map_nil]); first | done | rfl | (simp only [List.length_drop, List.length_take]; rfl) | (simp only [show ∀ (n_ : Nat) (b_ : Int), Int.tdiv (n_ : Int) b_ = (n_ : Int) / b_ from fun n_ b_ => Int.tdiv_eq_ediv_of_nonneg (Int.natCast_nonneg n_)]; rfl)) ?_; (with_reducible refine (laws_markCalendar.calls kj6 t413 t414 (fun k_ => some k_ = (.slice Ao16 t415.length co16 : Value).ownBlock) (.slice Ao16 t415.length co16) t415 1 t421 t422 w _ ?side1 ?side2 A28.out).mono ?_); (case side1 => repeat (first | (with_reducible first | exact HB.out | apply below_alloc | apply pw_below_drewN | apply below_drew1 | refine below_set ?_ GE412.out | refine below_set ?_ GE419.out) | exact HB.out)); (case side2 => exact Kd.R_tight rfl HO_420002.out); rintro e w41 ⟨rfl, hy0, hb, hkp⟩; refine ⟨_, rfl, ?_⟩; have n0_ := Aside0.mk (Kd.R_mono (ok' := fun k_ => some k_ ≠ (.slice Ao16 t415.length co16 : Value).ownBlock) (Kd.R_keptB (HO_413002.out) hkp (fun k_ hk_ hs_ => (hk_) hs_)) (fun k_ hk_ => hk_.1)); have n1_ := Aside0.mk (Kd.R_reok rfl hy0 (fun k_ e_ => HO_420002.out.1 k_ e_)); have n2_ := Aside0.mk (blk_kept (by (with_reducible repeat (first | refine blk_drewN ?_ _ | refine blk_drew ?_ | refine blk_alloc ?_ _)); exact BK412.out) hkp (fun hs_ => (fun e_ => (Kd.R_ne HO_420002.out BK412.out (by decide)) e_) hs_)); have n3_ := Aside0.mk (blk_kept (by (with_reducible repeat (first | refine blk_drewN ?_ _ | refine blk_drew ?_ | refine blk_alloc ?_ _)); exact BK419.out) hkp (fun hs_ => (fun e_ => (Kd.R_ne HO_420002.out BK419.out (by decide)) e_) hs_)); have n4_ := Aside0.mk (hb); clear HO_413002; clear HO_420002; clear BK412; clear BK419; clear HB; have HO_413002 := n0_; have HO_420002 := n1_; have BK412 := n2_; have BK419 := n3_; have HB := n4_; clear n0_ n1_ n2_ n3_ n4_; (try clear hb); (try clear hkp); (try clear hy0); have hcz42_0 : w41.cell? ⟨gb419, 0, none⟩ = some (.int .i64 t413) := (blk_cell BK419.out 0).trans rfl; have hcz42_1 : w41.cell? ⟨gb419, 1, none⟩ = some (.int .i64 t414) := (blk_cell BK419.out 1).trans rfl; have hcz42_2 : w41.cell? ⟨gb419, 2, none⟩ = some (.slice Ao16 t415.length co16) := (blk_cell BK419.out 2).trans rfl; have hfz42_0 := blk_frozen BK419.out 0; have hfz42_1 := blk_frozen BK419.out 1; have hfz42_2 := blk_frozen BK419.out 2) | ((with_reducible refine gate_callee (f := 35) rfl ?_); refine goesL_ (some 47) rfl rfl Try.func35 (by kernel_rfl) rfl #[.agg #[.int .i64 t413, .int .i64 t414, .slice Ao16 t422.length co16], .int .i64 1] rfl (by (try simp only [List.map_toArray, List.map_cons, List.map_nil]); first | done | (rw [show t422.length = t415.length from (Kd.R_reads' HO_420002.out).1.symm] <;> rfl) | rfl | (simp only [List.length_drop, List.length_take]; rfl)) ?_; (with_reducible refine (laws_heldCalendar.calls kj6 t413 t414 _ _ t422 1 t423 _ ?side1 ?side2 A29.out).mono ?_); (case side1 => repeat (first | exact (Kd.R_reads' HO_420002.out).2.2 | (with_reducible refine Kd.C_alloc ?_ _) | (with_reducible refine Kd.C_drewN ?_ _) | (with_reducible refine Kd.C_drew ?_))); (case side2 => rw [show t422.length = t415.length from (Kd.R_reads' HO_420002.out).1.symm]; exact (Kd.R_reads' HO_420002.out).2.1); rintro e w43 ⟨rfl, hb⟩; refine ⟨_, rfl, ?_⟩; have n0_ := Aside0.mk (Kd.R_below (by (with_reducible repeat (first | apply Kd.R_alloc | apply Kd.R_drewN | apply Kd.R_drew)); exact HO_413002.out) hb); have n1_ := Aside0.mk (Kd.R_below (by (with_reducible repeat (first | apply Kd.R_alloc | apply Kd.R_drewN | apply Kd.R_drew)); exact HO_420002.out) hb); have n2_ := Aside0.mk (blk_below (g := gb412) (o := .cells #[.int .i64 t406, .int .i64 t407, .slice Ao11 t408.length co11] 34 (0, 0)) (by (with_reducible repeat (first | refine blk_drewN ?_ _ | refine blk_drew ?_ | refine blk_alloc ?_ _)); exact BK412.out) hb); have n3_ := Aside0.mk (blk_below (g := gb419) (o := .cells #[.int .i64 t413, .int .i64 t414, .slice Ao16 t415.length co16] 34 (0, 0)) (by (with_reducible repeat (first | refine blk_drewN ?_ _ | refine blk_drew ?_ | refine blk_alloc ?_ _)); exact BK419.out) hb); have n4_ := Aside0.mk (below_step (by repeat (first | (with_reducible first | exact HB.out | apply below_alloc | apply pw_below_drewN | apply below_drew1 | refine below_set ?_ GE412.out | refine below_set ?_ GE419.out) | exact HB.out)) hb); clear HO_413002; clear HO_420002; clear BK412; clear BK419; clear HB; have HO_413002 := n0_; have HO_420002 := n1_; have BK412 := n2_; have BK419 := n3_; have HB := n4_; clear n0_ n1_ n2_ n3_ n4_; (try clear hb); (try clear hb2); (try clear hk); (try clear hi)) | ((with_reducible refine gate_callee (f := 25) rfl ?_); refine goesL_ (some 58) rfl rfl Try.func25 (by kernel_rfl) rfl #[.int .i64 a0, .int .i64 a1, .int .i64 a2, .int .i64 a3] rfl (by (try simp only [List.map_toArray, List.map_cons, List.map_nil]); first | done | rfl | (simp only [List.length_drop, List.length_take]; rfl) | (simp only [show ∀ (n_ : Nat) (b_ : Int), Int.tdiv (n_ : Int) b_ = (n_ : Int) / b_ from fun n_ b_ => Int.tdiv_eq_ediv_of_nonneg (Int.natCast_nonneg n_)]; rfl)) ?_; (with_reducible refine (impl_EvenCalendar.calls kj6 a0 a1 a2 a3 t424 t425 t426 t429 _ A37.out).mono ?_); rintro e w44 ⟨v427, rfl, ho0, hb⟩; refine ⟨_, rfl, ?_⟩; have n0_ := Aside0.mk (Kd.R_elder' (by (with_reducible repeat (first | apply Kd.R_alloc | apply Kd.R_drewN | apply Kd.R_drew)); exact HO_413002.out) (Kd.R_base ho0) hb); have n1_ := Aside0.mk (Kd.R_elder' (by (with_reducible repeat (first | apply Kd.R_alloc | apply Kd.R_drewN | apply Kd.R_drew)); exact HO_420002.out) (Kd.R_base ho0) hb); have n2_ := Aside0.mk (Kd.R_lower (Kd.R_new' (Kd.R_new' ho0 (Kd.R_lt (by (with_reducible repeat (first | apply Kd.R_alloc | apply Kd.R_drewN | apply Kd.R_drew)); exact HO_413002.out))) (Kd.R_lt (by (with_reducible repeat (first | apply Kd.R_alloc | apply Kd.R_drewN | apply Kd.R_drew)); exact HO_420002.out))) (below_size (by repeat (first | (with_reducible first | exact HB.out | apply below_alloc | apply pw_below_drewN | apply below_drew1 | refine below_set ?_ GE412.out | refine below_set ?_ GE419.out) | exact HB.out)))); have n3_ := Aside0.mk (blk_below (g := gb412) (o := .cells #[.int .i64 t406, .int .i64 t407, .slice Ao11 t408.length co11] 34 (0, 0)) (by (with_reducible repeat (first | refine blk_drewN ?_ _ | refine blk_drew ?_ | refine blk_alloc ?_ _)); exact BK412.out) hb); have n4_ := Aside0.mk (blk_below (g := gb419) (o := .cells #[.int .i64 t413, .int .i64 t414, .slice Ao16 t415.length co16] 34 (0, 0)) (by (with_reducible repeat (first | refine blk_drewN ?_ _ | refine blk_drew ?_ | refine blk_alloc ?_ _)); exact BK419.out) hb); have n5_ := Aside0.mk (below_step (by repeat (first | (with_reducible first | exact HB.out | apply below_alloc | apply pw_below_drewN | apply below_drew1 | refine below_set ?_ GE412.out | refine below_set ?_ GE419.out) | exact HB.out)) hb); clear HO_413002; clear HO_420002; clear BK412; clear BK419; clear HB; have HO_413002 := n0_; have HO_420002 := n1_; have HO428 := n2_; have BK412 := n3_; have BK419 := n4_; have HB := n5_; clear n0_ n1_ n2_ n3_ n4_ n5_; (try clear hb); (try clear hb2); (try clear hk); (try clear hi); (try clear ho0)) | ((with_reducible refine gate_dst (N := 15) rfl ?_); refine box_event ?hg (N := 15) ?hd (cs := #[.int .i64 0, .int .i64 0, .slice none 0 0]) (t := 34) ?hr ?_; (case hd => rfl); (case hg => rfl); (case hr => first | (go_simp; done) | (go_simp; rfl)); intro gb430 hg w45 hbox hb; have n0_ := Aside0.mk (Kd.R_below (by (with_reducible repeat (first | apply Kd.R_alloc | apply Kd.R_drewN | apply Kd.R_drew)); exact HO_413002.out) hb); have n1_ := Aside0.mk (Kd.R_below (by (with_reducible repeat (first | apply Kd.R_alloc | apply Kd.R_drewN | apply Kd.R_drew)); exact HO_420002.out) hb); have n2_ := Aside0.mk (Kd.R_below (by (with_reducible repeat (first | apply Kd.R_alloc | apply Kd.R_drewN | apply Kd.R_drew)); exact HO428.out) hb); have n3_ := Aside0.mk (blk_below (g := gb412) (o := .cells #[.int .i64 t406, .int .i64 t407, .slice Ao11 t408.length co11] 34 (0, 0)) (by (with_reducible repeat (first | refine blk_drewN ?_ _ | refine blk_drew ?_ | refine blk_alloc ?_ _)); exact BK412.out) hb); have n4_ := Aside0.mk (blk_below (g := gb419) (o := .cells #[.int .i64 t413, .int .i64 t414, .slice Ao16 t415.length co16] 34 (0, 0)) (by (with_reducible repeat (first | refine blk_drewN ?_ _ | refine blk_drew ?_ | refine blk_alloc ?_ _)); exact BK419.out) hb); have n5_ := Aside0.mk (below_step (by repeat (first | (with_reducible first | exact HB.out | apply below_alloc | apply pw_below_drewN | apply below_drew1 | refine below_set ?_ GE412.out | refine below_set ?_ GE419.out) | exact HB.out)) hb); have n6_ := Aside0.mk (hbox); have n7_ := Aside0.mk ((by rw [hg]; exact (below_size (by repeat (first | (with_reducible first | exact HB.out | apply below_alloc | apply pw_below_drewN | apply below_drew1 | refine below_set ?_ GE412.out | refine below_set ?_ GE419.out) | exact HB.out))) : w.heap.size ≤ gb430)); have n8_ := Aside0.mk ((by rw [hg]; exact (below_size (by repeat (first | (with_reducible first | exact HB.out | apply below_alloc | apply pw_below_drewN | apply below_drew1 | refine below_set ?_ GE412.out | refine below_set ?_ GE419.out) | exact HB.out))) : w.heap.size ≤ gb430)); have n9_ := Aside0.mk ((by rw [hg]; exact Nat.ne_of_lt (blk_lt (g := gb412) (o := .cells #[.int .i64 t406, .int .i64 t407, .slice Ao11 t408.length co11] 34 (0, 0)) (by (with_reducible repeat (first | refine blk_drewN ?_ _ | refine blk_drew ?_ | refine blk_alloc ?_ _)); exact BK412.out)) : gb412 ≠ gb430)); have n10_ := Aside0.mk ((by rw [hg]; exact Nat.ne_of_gt (blk_lt (g := gb412) (o := .cells #[.int .i64 t406, .int .i64 t407, .slice Ao11 t408.length co11] 34 (0, 0)) (by (with_reducible repeat (first | refine blk_drewN ?_ _ | refine blk_drew ?_ | refine blk_alloc ?_ _)); exact BK412.out)) : gb430 ≠ gb412)); have n11_ := Aside0.mk ((by rw [hg]; exact Nat.ne_of_lt (blk_lt (g := gb419) (o := .cells #[.int .i64 t413, .int .i64 t414, .slice Ao16 t415.length co16] 34 (0, 0)) (by (with_reducible repeat (first | refine blk_drewN ?_ _ | refine blk_drew ?_ | refine blk_alloc ?_ _)); exact BK419.out)) : gb419 ≠ gb430)); have n12_ := Aside0.mk ((by rw [hg]; exact Nat.ne_of_gt (blk_lt (g := gb419) (o := .cells #[.int .i64 t413, .int .i64 t414, .slice Ao16 t415.length co16] 34 (0, 0)) (by (with_reducible repeat (first | refine blk_drewN ?_ _ | refine blk_drew ?_ | refine blk_alloc ?_ _)); exact BK419.out)) : gb430 ≠ gb419)); clear HO_413002; clear HO_420002; clear HO428; clear BK412; clear BK419; clear HB; have HO_413002 := n0_; have HO_420002 := n1_; have HO428 := n2_; have BK412 := n3_; have BK419 := n4_; have HB := n5_; have BK430 := n6_; have GW430 := n7_; have GE430 := n8_; have NB412_430 := n9_; have NB430_412 := n10_; have NB419_430 := n11_; have NB430_419 := n12_; clear n0_ n1_ n2_ n3_ n4_ n5_ n6_ n7_ n8_ n9_ n10_ n11_ n12_; clear hb hbox hg; have hnb46 := NB430_412.out; have hnc46 := NB412_430.out; have hnb47 := NB430_419.out; have hnc47 := NB419_430.out; have hcz48_0 : w45.cell? ⟨gb430, 0, none⟩ = some (.int .i64 0) := (blk_cell BK430.out 0).trans rfl; have hcz48_1 : w45.cell? ⟨gb430, 1, none⟩ = some (.int .i64 0) := (blk_cell BK430.out 1).trans rfl; have hcz48_2 : w45.cell? ⟨gb430, 2, none⟩ = some (.slice none 0 0) := (blk_cell BK430.out 2).trans rfl; have hfz48_0 := blk_frozen BK430.out 0; have hfz48_1 := blk_frozen BK430.out 1; have hfz48_2 := blk_frozen BK430.out 2; obtain ⟨Ao49, co49, eo49⟩ := Kd.R_slice HO428.out; subst eo49))
            (try simp only [Act.put, List.setIfInBounds_toArray, List.set_cons_zero, List.set_cons_succ])
            go_cut [69] (fun v69 wc => ∃ (kq : Nat) (x69_37 : Bool), v69 = .bool x69_37 ∧ Aside0 (laws_FnExactEvenCalendar.j1 kq t421 x69_37 t413 t414 t422 = some r) ∧ Aside0 (kq ≤ kj6) ∧ Aside0 (Kd.R (Kd.int .i64) 2 wc w.heap.size (fun k_ => some k_ ≠ ((.slice Ao16 t415.length co16) : Value).ownBlock ∧ some k_ ≠ ((.slice Ao49 t426.length co49) : Value).ownBlock) (.slice Ao11 t408.length co11) t408) ∧ Aside0 (Kd.R (Kd.int .i64) 2 wc w.heap.size (fun k_ => some k_ ≠ ((.slice Ao11 t408.length co11) : Value).ownBlock ∧ some k_ ≠ ((.slice Ao49 t426.length co49) : Value).ownBlock) (.slice Ao16 t415.length co16) t422) ∧ Aside0 (Kd.R (Kd.int .i64) 2 wc w.heap.size (fun k_ => some k_ ≠ ((.slice Ao11 t408.length co11) : Value).ownBlock ∧ some k_ ≠ ((.slice Ao16 t415.length co16) : Value).ownBlock) (.slice Ao49 t426.length co49) t426) ∧ Aside0 (wc.heap[gb412]? = some (.cells #[.int .i64 t406, .int .i64 t407, (.slice Ao11 t408.length co11)] 34 (0, 0))) ∧ Aside0 (wc.heap[gb419]? = some (.cells #[.int .i64 t413, .int .i64 t414, (.slice Ao16 t415.length co16)] 34 (0, 0))) ∧ Aside0 (wc.heap[gb430]? = some (.cells #[.int .i64 t424, .int .i64 t425, (.slice Ao49 t426.length co49)] 34 (0, 0))) ∧ Aside0 (Below w.heap.size w wc))
            case first =>
              have H := HC38.out
              clear HC38
              replace H := Option.bind_eq_some_iff.mp H
              obtain ⟨t431, A500, H⟩ := H
              replace H : (if t431 = true then (laws_FnExactEvenCalendar.j1 kj6 t421 (t429 != t411) t413 t414 t422) else (laws_FnExactEvenCalendar.j1 kj6 t421 true t413 t414 t422)) = some r := H
              have A50 := Aside0.mk A500
              clear A500
              by_cases c51 : t431 = true
              · subst c51
                have H1 : (laws_FnExactEvenCalendar.j1 kj6 t421 (t429 != t411) t413 t414 t422) = some r := by rw [if_pos rfl] at H; exact H
                clear H
                have H := H1
                clear H1
                have H' := Aside0.mk H
                clear H
                have hnb52 := NB430_412.out
                have hnc52 := NB412_430.out
                have hnb53 := NB430_419.out
                have hnc53 := NB419_430.out
                have hcz54_0 : w45.cell? ⟨gb430, 0, none⟩ = some (.int .i64 0) := (blk_cell BK430.out 0).trans rfl
                have hcz54_1 : w45.cell? ⟨gb430, 1, none⟩ = some (.int .i64 0) := (blk_cell BK430.out 1).trans rfl
                have hcz54_2 : w45.cell? ⟨gb430, 2, none⟩ = some (.slice none 0 0) := (blk_cell BK430.out 2).trans rfl
                have hfz54_0 := blk_frozen BK430.out 0
                have hfz54_1 := blk_frozen BK430.out 1
                have hfz54_2 := blk_frozen BK430.out 2
                have hnb55 := NB412_419.out
                have hnc55 := NB419_412.out
                have hcz56_0 : w45.cell? ⟨gb412, 0, none⟩ = some (.int .i64 t406) := (blk_cell BK412.out 0).trans rfl
                have hcz56_1 : w45.cell? ⟨gb412, 1, none⟩ = some (.int .i64 t407) := (blk_cell BK412.out 1).trans rfl
                have hcz56_2 : w45.cell? ⟨gb412, 2, none⟩ = some (.slice Ao11 t408.length co11) := (blk_cell BK412.out 2).trans rfl
                have hfz56_0 := blk_frozen BK412.out 0
                have hfz56_1 := blk_frozen BK412.out 1
                have hfz56_2 := blk_frozen BK412.out 2
                go_wp2_with (first | ((with_reducible refine gate_callee (f := 24) rfl ?_); refine goesL_ (some 63) rfl rfl Try.func24 (by kernel_rfl) rfl #[.agg #[.int .i64 t424, .int .i64 t425, .slice Ao49 t426.length co49], .agg #[.int .i64 t406, .int .i64 t407, .slice Ao11 t408.length co11]] rfl (by (try simp only [List.map_toArray, List.map_cons, List.map_nil]); first | done | rfl | (simp only [List.length_drop, List.length_take]; rfl) | (simp only [show ∀ (n_ : Nat) (b_ : Int), Int.tdiv (n_ : Int) b_ = (n_ : Int) / b_ from fun n_ b_ => Int.tdiv_eq_ediv_of_nonneg (Int.natCast_nonneg n_)]; rfl)) ?_; (with_reducible refine (laws_eqCalendar.calls kj6 t424 t425 _ _ t426 t406 t407 _ _ t408 true _ ?side1 ?side2 ?side3 ?side4 A50.out).mono ?_); (case side1 => refine (Kd.R_reads' (e := 2) (base := w.heap.size) (ok := fun k_ => ((True ∧ some k_ ≠ (.slice Ao11 t408.length co11 : Value).ownBlock) ∧ some k_ ≠ (.slice Ao16 t415.length co16 : Value).ownBlock)) (n := t426.length) (c := co49) ?_).2.2; exact (by (with_reducible repeat (first | apply Kd.R_alloc | apply Kd.R_drewN | apply Kd.R_drew)); exact (Kd.R_mono (Kd.R_far (p := ⟨gb430, 2, none⟩) (Kd.R_far (p := ⟨gb430, 1, none⟩) (Kd.R_far (p := ⟨gb430, 0, none⟩) (Kd.R_types HO428.out BK430.out (by decide)) (fun _ hk => hk.2) (.int .i64 t424)) (fun _ hk => hk.2) (.int .i64 t425)) (fun _ hk => hk.2) (.slice Ao49 t426.length co49)) (fun _ h_ => h_.1)))); (case side2 => exact (Kd.R_reads' HO428.out).2.1); (case side3 => refine (Kd.R_reads' (e := 2) (base := w.heap.size) (ok := fun k_ => (some k_ ≠ (.slice Ao16 t415.length co16 : Value).ownBlock ∧ some k_ ≠ (.slice Ao49 t426.length co49 : Value).ownBlock)) (n := t408.length) (c := co11) ?_).2.2; exact (by (with_reducible repeat (first | apply Kd.R_alloc | apply Kd.R_drewN | apply Kd.R_drew)); exact (Kd.R_mono (Kd.R_far (p := ⟨gb430, 2, none⟩) (Kd.R_far (p := ⟨gb430, 1, none⟩) (Kd.R_far (p := ⟨gb430, 0, none⟩) (Kd.R_types HO_413002.out BK430.out (by decide)) (fun _ hk => hk.2) (.int .i64 t424)) (fun _ hk => hk.2) (.int .i64 t425)) (fun _ hk => hk.2) (.slice Ao49 t426.length co49)) (fun _ h_ => h_.1)))); (case side4 => exact (Kd.R_reads' HO_413002.out).2.1); rintro e w57 ⟨rfl, hb⟩; refine ⟨_, rfl, ?_⟩; have n0_ := Aside0.mk (Kd.R_below (by (with_reducible repeat (first | apply Kd.R_alloc | apply Kd.R_drewN | apply Kd.R_drew)); exact (Kd.R_mono (Kd.R_far (p := ⟨gb430, 2, none⟩) (Kd.R_far (p := ⟨gb430, 1, none⟩) (Kd.R_far (p := ⟨gb430, 0, none⟩) (Kd.R_types HO_413002.out BK430.out (by decide)) (fun _ hk => hk.2) (.int .i64 t424)) (fun _ hk => hk.2) (.int .i64 t425)) (fun _ hk => hk.2) (.slice Ao49 t426.length co49)) (fun _ h_ => h_.1))) hb); have n1_ := Aside0.mk (Kd.R_below (by (with_reducible repeat (first | apply Kd.R_alloc | apply Kd.R_drewN | apply Kd.R_drew)); exact (Kd.R_mono (Kd.R_far (p := ⟨gb430, 2, none⟩) (Kd.R_far (p := ⟨gb430, 1, none⟩) (Kd.R_far (p := ⟨gb430, 0, none⟩) (Kd.R_types HO_420002.out BK430.out (by decide)) (fun _ hk => hk.2) (.int .i64 t424)) (fun _ hk => hk.2) (.int .i64 t425)) (fun _ hk => hk.2) (.slice Ao49 t426.length co49)) (fun _ h_ => h_.1))) hb); have n2_ := Aside0.mk (Kd.R_below (by (with_reducible repeat (first | apply Kd.R_alloc | apply Kd.R_drewN | apply Kd.R_drew)); exact (Kd.R_mono (Kd.R_far (p := ⟨gb430, 2, none⟩) (Kd.R_far (p := ⟨gb430, 1, none⟩) (Kd.R_far (p := ⟨gb430, 0, none⟩) (Kd.R_types HO428.out BK430.out (by decide)) (fun _ hk => hk.2) (.int .i64 t424)) (fun _ hk => hk.2) (.int .i64 t425)) (fun _ hk => hk.2) (.slice Ao49 t426.length co49)) (fun _ h_ => h_.1))) hb); have n3_ := Aside0.mk (blk_below (g := gb412) (o := .cells #[.int .i64 t406, .int .i64 t407, .slice Ao11 t408.length co11] 34 (0, 0)) (by (with_reducible repeat (first | refine blk_drewN ?_ _ | refine blk_drew ?_ | refine blk_alloc ?_ _)); refine blk_far ?_ NB412_430.out _; (with_reducible repeat (first | refine blk_drewN ?_ _ | refine blk_drew ?_ | refine blk_alloc ?_ _)); refine blk_far ?_ NB412_430.out _; (with_reducible repeat (first | refine blk_drewN ?_ _ | refine blk_drew ?_ | refine blk_alloc ?_ _)); refine blk_far ?_ NB412_430.out _; (with_reducible repeat (first | refine blk_drewN ?_ _ | refine blk_drew ?_ | refine blk_alloc ?_ _)); exact BK412.out) hb); have n4_ := Aside0.mk (blk_below (g := gb419) (o := .cells #[.int .i64 t413, .int .i64 t414, .slice Ao16 t415.length co16] 34 (0, 0)) (by (with_reducible repeat (first | refine blk_drewN ?_ _ | refine blk_drew ?_ | refine blk_alloc ?_ _)); refine blk_far ?_ NB419_430.out _; (with_reducible repeat (first | refine blk_drewN ?_ _ | refine blk_drew ?_ | refine blk_alloc ?_ _)); refine blk_far ?_ NB419_430.out _; (with_reducible repeat (first | refine blk_drewN ?_ _ | refine blk_drew ?_ | refine blk_alloc ?_ _)); refine blk_far ?_ NB419_430.out _; (with_reducible repeat (first | refine blk_drewN ?_ _ | refine blk_drew ?_ | refine blk_alloc ?_ _)); exact BK419.out) hb); have n5_ := Aside0.mk (blk_below (g := gb430) (o := .cells #[.int .i64 t424, .int .i64 t425, .slice Ao49 t426.length co49] 34 (0, 0)) (by (with_reducible repeat (first | refine blk_drewN ?_ _ | refine blk_drew ?_ | refine blk_alloc ?_ _)); refine blk_put (cs := #[.int .i64 t424, .int .i64 t425, .slice none 0 0]) ?_ 2 _ rfl; (with_reducible repeat (first | refine blk_drewN ?_ _ | refine blk_drew ?_ | refine blk_alloc ?_ _)); refine blk_put (cs := #[.int .i64 t424, .int .i64 0, .slice none 0 0]) ?_ 1 _ rfl; (with_reducible repeat (first | refine blk_drewN ?_ _ | refine blk_drew ?_ | refine blk_alloc ?_ _)); refine blk_put (cs := #[.int .i64 0, .int .i64 0, .slice none 0 0]) ?_ 0 _ rfl; (with_reducible repeat (first | refine blk_drewN ?_ _ | refine blk_drew ?_ | refine blk_alloc ?_ _)); exact BK430.out) hb); have n6_ := Aside0.mk (below_step (by repeat (first | (with_reducible first | exact HB.out | apply below_alloc | apply pw_below_drewN | apply below_drew1 | refine below_set ?_ GE412.out | refine below_set ?_ GE419.out | refine below_set ?_ GE430.out) | exact HB.out)) hb); clear HO_413002; clear HO_420002; clear HO428; clear BK412; clear BK419; clear BK430; clear HB; have HO_413002 := n0_; have HO_420002 := n1_; have HO428 := n2_; have BK412 := n3_; have BK419 := n4_; have BK430 := n5_; have HB := n6_; clear n0_ n1_ n2_ n3_ n4_ n5_ n6_; (try clear hb); (try clear hb2); (try clear hk); (try clear hi)))
                go_meet
                case rel => exact ⟨_, ((t429 != t411)), (by first | rfl | (simp; done) | (simp [*]; done)), H', ⟨by have := HJ6.out; first | omega | exact Nat.le_refl _⟩, ⟨by (with_reducible repeat (first | apply Kd.R_alloc | apply Kd.R_drewN | apply Kd.R_drew)); exact HO_413002.out⟩, ⟨by (with_reducible repeat (first | apply Kd.R_alloc | apply Kd.R_drewN | apply Kd.R_drew)); exact HO_420002.out⟩, ⟨by (with_reducible repeat (first | apply Kd.R_alloc | apply Kd.R_drewN | apply Kd.R_drew)); exact Kd.R_mono HO428.out (fun _ hk => ⟨hk.1.2, hk.2⟩)⟩, ⟨by (with_reducible repeat (first | refine blk_drewN ?_ _ | refine blk_drew ?_ | refine blk_alloc ?_ _)); exact BK412.out⟩, ⟨by (with_reducible repeat (first | refine blk_drewN ?_ _ | refine blk_drew ?_ | refine blk_alloc ?_ _)); exact BK419.out⟩, ⟨by (with_reducible repeat (first | refine blk_drewN ?_ _ | refine blk_drew ?_ | refine blk_alloc ?_ _)); exact BK430.out⟩, ⟨by repeat (first | (with_reducible first | exact HB.out | apply below_alloc | apply pw_below_drewN | apply below_drew1 | refine below_set ?_ GE412.out | refine below_set ?_ GE419.out | refine below_set ?_ GE430.out) | exact HB.out)⟩⟩
              · replace c51 := Bool.eq_false_iff.mpr c51
                subst c51
                have H1 : (laws_FnExactEvenCalendar.j1 kj6 t421 true t413 t414 t422) = some r := by rw [if_neg (show ¬ (false = true) by decide)] at H; exact H
                clear H
                have H := H1
                clear H1
                have H' := Aside0.mk H
                clear H
                have hnb58 := NB430_412.out
                have hnc58 := NB412_430.out
                have hnb59 := NB430_419.out
                have hnc59 := NB419_430.out
                have hcz60_0 : w45.cell? ⟨gb430, 0, none⟩ = some (.int .i64 0) := (blk_cell BK430.out 0).trans rfl
                have hcz60_1 : w45.cell? ⟨gb430, 1, none⟩ = some (.int .i64 0) := (blk_cell BK430.out 1).trans rfl
                have hcz60_2 : w45.cell? ⟨gb430, 2, none⟩ = some (.slice none 0 0) := (blk_cell BK430.out 2).trans rfl
                have hfz60_0 := blk_frozen BK430.out 0
                have hfz60_1 := blk_frozen BK430.out 1
                have hfz60_2 := blk_frozen BK430.out 2
                have hnb61 := NB412_419.out
                have hnc61 := NB419_412.out
                have hcz62_0 : w45.cell? ⟨gb412, 0, none⟩ = some (.int .i64 t406) := (blk_cell BK412.out 0).trans rfl
                have hcz62_1 : w45.cell? ⟨gb412, 1, none⟩ = some (.int .i64 t407) := (blk_cell BK412.out 1).trans rfl
                have hcz62_2 : w45.cell? ⟨gb412, 2, none⟩ = some (.slice Ao11 t408.length co11) := (blk_cell BK412.out 2).trans rfl
                have hfz62_0 := blk_frozen BK412.out 0
                have hfz62_1 := blk_frozen BK412.out 1
                have hfz62_2 := blk_frozen BK412.out 2
                go_wp2_with (first | ((with_reducible refine gate_callee (f := 24) rfl ?_); refine goesL_ (some 63) rfl rfl Try.func24 (by kernel_rfl) rfl #[.agg #[.int .i64 t424, .int .i64 t425, .slice Ao49 t426.length co49], .agg #[.int .i64 t406, .int .i64 t407, .slice Ao11 t408.length co11]] rfl (by (try simp only [List.map_toArray, List.map_cons, List.map_nil]); first | done | rfl | (simp only [List.length_drop, List.length_take]; rfl) | (simp only [show ∀ (n_ : Nat) (b_ : Int), Int.tdiv (n_ : Int) b_ = (n_ : Int) / b_ from fun n_ b_ => Int.tdiv_eq_ediv_of_nonneg (Int.natCast_nonneg n_)]; rfl)) ?_; (with_reducible refine (laws_eqCalendar.calls kj6 t424 t425 _ _ t426 t406 t407 _ _ t408 false _ ?side1 ?side2 ?side3 ?side4 A50.out).mono ?_); (case side1 => refine (Kd.R_reads' (e := 2) (base := w.heap.size) (ok := fun k_ => ((True ∧ some k_ ≠ (.slice Ao11 t408.length co11 : Value).ownBlock) ∧ some k_ ≠ (.slice Ao16 t415.length co16 : Value).ownBlock)) (n := t426.length) (c := co49) ?_).2.2; exact (by (with_reducible repeat (first | apply Kd.R_alloc | apply Kd.R_drewN | apply Kd.R_drew)); exact (Kd.R_mono (Kd.R_far (p := ⟨gb430, 2, none⟩) (Kd.R_far (p := ⟨gb430, 1, none⟩) (Kd.R_far (p := ⟨gb430, 0, none⟩) (Kd.R_types HO428.out BK430.out (by decide)) (fun _ hk => hk.2) (.int .i64 t424)) (fun _ hk => hk.2) (.int .i64 t425)) (fun _ hk => hk.2) (.slice Ao49 t426.length co49)) (fun _ h_ => h_.1)))); (case side2 => exact (Kd.R_reads' HO428.out).2.1); (case side3 => refine (Kd.R_reads' (e := 2) (base := w.heap.size) (ok := fun k_ => (some k_ ≠ (.slice Ao16 t415.length co16 : Value).ownBlock ∧ some k_ ≠ (.slice Ao49 t426.length co49 : Value).ownBlock)) (n := t408.length) (c := co11) ?_).2.2; exact (by (with_reducible repeat (first | apply Kd.R_alloc | apply Kd.R_drewN | apply Kd.R_drew)); exact (Kd.R_mono (Kd.R_far (p := ⟨gb430, 2, none⟩) (Kd.R_far (p := ⟨gb430, 1, none⟩) (Kd.R_far (p := ⟨gb430, 0, none⟩) (Kd.R_types HO_413002.out BK430.out (by decide)) (fun _ hk => hk.2) (.int .i64 t424)) (fun _ hk => hk.2) (.int .i64 t425)) (fun _ hk => hk.2) (.slice Ao49 t426.length co49)) (fun _ h_ => h_.1)))); (case side4 => exact (Kd.R_reads' HO_413002.out).2.1); rintro e w63 ⟨rfl, hb⟩; refine ⟨_, rfl, ?_⟩; have n0_ := Aside0.mk (Kd.R_below (by (with_reducible repeat (first | apply Kd.R_alloc | apply Kd.R_drewN | apply Kd.R_drew)); exact (Kd.R_mono (Kd.R_far (p := ⟨gb430, 2, none⟩) (Kd.R_far (p := ⟨gb430, 1, none⟩) (Kd.R_far (p := ⟨gb430, 0, none⟩) (Kd.R_types HO_413002.out BK430.out (by decide)) (fun _ hk => hk.2) (.int .i64 t424)) (fun _ hk => hk.2) (.int .i64 t425)) (fun _ hk => hk.2) (.slice Ao49 t426.length co49)) (fun _ h_ => h_.1))) hb); have n1_ := Aside0.mk (Kd.R_below (by (with_reducible repeat (first | apply Kd.R_alloc | apply Kd.R_drewN | apply Kd.R_drew)); exact (Kd.R_mono (Kd.R_far (p := ⟨gb430, 2, none⟩) (Kd.R_far (p := ⟨gb430, 1, none⟩) (Kd.R_far (p := ⟨gb430, 0, none⟩) (Kd.R_types HO_420002.out BK430.out (by decide)) (fun _ hk => hk.2) (.int .i64 t424)) (fun _ hk => hk.2) (.int .i64 t425)) (fun _ hk => hk.2) (.slice Ao49 t426.length co49)) (fun _ h_ => h_.1))) hb); have n2_ := Aside0.mk (Kd.R_below (by (with_reducible repeat (first | apply Kd.R_alloc | apply Kd.R_drewN | apply Kd.R_drew)); exact (Kd.R_mono (Kd.R_far (p := ⟨gb430, 2, none⟩) (Kd.R_far (p := ⟨gb430, 1, none⟩) (Kd.R_far (p := ⟨gb430, 0, none⟩) (Kd.R_types HO428.out BK430.out (by decide)) (fun _ hk => hk.2) (.int .i64 t424)) (fun _ hk => hk.2) (.int .i64 t425)) (fun _ hk => hk.2) (.slice Ao49 t426.length co49)) (fun _ h_ => h_.1))) hb); have n3_ := Aside0.mk (blk_below (g := gb412) (o := .cells #[.int .i64 t406, .int .i64 t407, .slice Ao11 t408.length co11] 34 (0, 0)) (by (with_reducible repeat (first | refine blk_drewN ?_ _ | refine blk_drew ?_ | refine blk_alloc ?_ _)); refine blk_far ?_ NB412_430.out _; (with_reducible repeat (first | refine blk_drewN ?_ _ | refine blk_drew ?_ | refine blk_alloc ?_ _)); refine blk_far ?_ NB412_430.out _; (with_reducible repeat (first | refine blk_drewN ?_ _ | refine blk_drew ?_ | refine blk_alloc ?_ _)); refine blk_far ?_ NB412_430.out _; (with_reducible repeat (first | refine blk_drewN ?_ _ | refine blk_drew ?_ | refine blk_alloc ?_ _)); exact BK412.out) hb); have n4_ := Aside0.mk (blk_below (g := gb419) (o := .cells #[.int .i64 t413, .int .i64 t414, .slice Ao16 t415.length co16] 34 (0, 0)) (by (with_reducible repeat (first | refine blk_drewN ?_ _ | refine blk_drew ?_ | refine blk_alloc ?_ _)); refine blk_far ?_ NB419_430.out _; (with_reducible repeat (first | refine blk_drewN ?_ _ | refine blk_drew ?_ | refine blk_alloc ?_ _)); refine blk_far ?_ NB419_430.out _; (with_reducible repeat (first | refine blk_drewN ?_ _ | refine blk_drew ?_ | refine blk_alloc ?_ _)); refine blk_far ?_ NB419_430.out _; (with_reducible repeat (first | refine blk_drewN ?_ _ | refine blk_drew ?_ | refine blk_alloc ?_ _)); exact BK419.out) hb); have n5_ := Aside0.mk (blk_below (g := gb430) (o := .cells #[.int .i64 t424, .int .i64 t425, .slice Ao49 t426.length co49] 34 (0, 0)) (by (with_reducible repeat (first | refine blk_drewN ?_ _ | refine blk_drew ?_ | refine blk_alloc ?_ _)); refine blk_put (cs := #[.int .i64 t424, .int .i64 t425, .slice none 0 0]) ?_ 2 _ rfl; (with_reducible repeat (first | refine blk_drewN ?_ _ | refine blk_drew ?_ | refine blk_alloc ?_ _)); refine blk_put (cs := #[.int .i64 t424, .int .i64 0, .slice none 0 0]) ?_ 1 _ rfl; (with_reducible repeat (first | refine blk_drewN ?_ _ | refine blk_drew ?_ | refine blk_alloc ?_ _)); refine blk_put (cs := #[.int .i64 0, .int .i64 0, .slice none 0 0]) ?_ 0 _ rfl; (with_reducible repeat (first | refine blk_drewN ?_ _ | refine blk_drew ?_ | refine blk_alloc ?_ _)); exact BK430.out) hb); have n6_ := Aside0.mk (below_step (by repeat (first | (with_reducible first | exact HB.out | apply below_alloc | apply pw_below_drewN | apply below_drew1 | refine below_set ?_ GE412.out | refine below_set ?_ GE419.out | refine below_set ?_ GE430.out) | exact HB.out)) hb); clear HO_413002; clear HO_420002; clear HO428; clear BK412; clear BK419; clear BK430; clear HB; have HO_413002 := n0_; have HO_420002 := n1_; have HO428 := n2_; have BK412 := n3_; have BK419 := n4_; have BK430 := n5_; have HB := n6_; clear n0_ n1_ n2_ n3_ n4_ n5_ n6_; (try clear hb); (try clear hb2); (try clear hk); (try clear hi)))
                go_meet
                case rel => exact ⟨_, (true), (by first | rfl | (simp; done) | (simp [*]; done)), H', ⟨by have := HJ6.out; first | omega | exact Nat.le_refl _⟩, ⟨by (with_reducible repeat (first | apply Kd.R_alloc | apply Kd.R_drewN | apply Kd.R_drew)); exact HO_413002.out⟩, ⟨by (with_reducible repeat (first | apply Kd.R_alloc | apply Kd.R_drewN | apply Kd.R_drew)); exact HO_420002.out⟩, ⟨by (with_reducible repeat (first | apply Kd.R_alloc | apply Kd.R_drewN | apply Kd.R_drew)); exact Kd.R_mono HO428.out (fun _ hk => ⟨hk.1.2, hk.2⟩)⟩, ⟨by (with_reducible repeat (first | refine blk_drewN ?_ _ | refine blk_drew ?_ | refine blk_alloc ?_ _)); exact BK412.out⟩, ⟨by (with_reducible repeat (first | refine blk_drewN ?_ _ | refine blk_drew ?_ | refine blk_alloc ?_ _)); exact BK419.out⟩, ⟨by (with_reducible repeat (first | refine blk_drewN ?_ _ | refine blk_drew ?_ | refine blk_alloc ?_ _)); exact BK430.out⟩, ⟨by repeat (first | (with_reducible first | exact HB.out | apply below_alloc | apply pw_below_drewN | apply below_drew1 | refine below_set ?_ GE412.out | refine below_set ?_ GE419.out | refine below_set ?_ GE430.out) | exact HB.out)⟩⟩
            case rest =>
              clear HC38
              try clear c1
              try clear c2
              try clear p2
              try clear c3
              try clear c4
              try clear c5
              try clear c6
              try clear c10
              try clear c14
              try clear c18
              try clear c19
              try clear c23
              try clear c24
              try clear c25
              try clear c27
              try clear c30
              try clear c30b0
              try clear c31
              try clear c33
              try clear c34
              try clear c35
              try clear c36
              try clear c36b0
              try clear c36b1
              try clear c39
              try clear c46
              try clear c47
              try clear c51
              try clear c52
              try clear c53
              try clear c55
              try clear c58
              try clear c59
              try clear c61
              try clear hcz10_0
              try clear hcz10_1
              try clear hcz10_2
              try clear hcz15_0
              try clear hcz15_1
              try clear hcz15_2
              try clear hcz20_0
              try clear hcz20_1
              try clear hcz20_2
              try clear hcz21_0
              try clear hcz21_1
              try clear hcz21_2
              try clear hcz24_0
              try clear hcz24_1
              try clear hcz24_2
              try clear hcz25_0
              try clear hcz25_1
              try clear hcz25_2
              try clear hcz32_0
              try clear hcz32_1
              try clear hcz32_2
              try clear hcz34_0
              try clear hcz34_1
              try clear hcz34_2
              try clear hcz40_0
              try clear hcz40_1
              try clear hcz40_2
              try clear hcz42_0
              try clear hcz42_1
              try clear hcz42_2
              try clear hcz48_0
              try clear hcz48_1
              try clear hcz48_2
              try clear hcz54_0
              try clear hcz54_1
              try clear hcz54_2
              try clear hcz56_0
              try clear hcz56_1
              try clear hcz56_2
              try clear hcz60_0
              try clear hcz60_1
              try clear hcz60_2
              try clear hcz62_0
              try clear hcz62_1
              try clear hcz62_2
              try clear hfz10_0
              try clear hfz10_1
              try clear hfz10_2
              try clear hfz15_0
              try clear hfz15_1
              try clear hfz15_2
              try clear hfz20_0
              try clear hfz20_1
              try clear hfz20_2
              try clear hfz21_0
              try clear hfz21_1
              try clear hfz21_2
              try clear hfz24_0
              try clear hfz24_1
              try clear hfz24_2
              try clear hfz25_0
              try clear hfz25_1
              try clear hfz25_2
              try clear hfz32_0
              try clear hfz32_1
              try clear hfz32_2
              try clear hfz34_0
              try clear hfz34_1
              try clear hfz34_2
              try clear hfz40_0
              try clear hfz40_1
              try clear hfz40_2
              try clear hfz42_0
              try clear hfz42_1
              try clear hfz42_2
              try clear hfz48_0
              try clear hfz48_1
              try clear hfz48_2
              try clear hfz54_0
              try clear hfz54_1
              try clear hfz54_2
              try clear hfz56_0
              try clear hfz56_1
              try clear hfz56_2
              try clear hfz60_0
              try clear hfz60_1
              try clear hfz60_2
              try clear hfz62_0
              try clear hfz62_1
              try clear hfz62_2
              try clear p2
              obtain ⟨kq, x69_37, rfl, HA, HJ37, HO_413002, HO_420002, HO_431002, BK412, BK419, BK430, HB⟩ := hcut
              have hl420002_37 := (Kd.R_reads' HO_420002.out).1
              rw [hl420002_37] at HO_420002
              (try simp only [hl420002_37])
              (try simp only [hl420002_37] at BK412)
              (try simp only [hl420002_37] at BK419)
              (try simp only [hl420002_37] at BK430)
              (try simp only [hl420002_37] at HO_413002)
              (try simp only [hl420002_37] at HO_431002)
              cases kq with
              | zero => exact absurd HA.out (by simp [laws_FnExactEvenCalendar.j1])
              | succ kj37 =>
                have H := HA.out
                clear HA
                simp only [laws_FnExactEvenCalendar.j1] at H
                by_cases c64 : x69_37 = true
                · subst c64
                  have H1 : (some false) = some r := by rw [if_pos rfl] at H; exact H
                  clear H
                  have H := H1
                  clear H1
                  obtain rfl := Option.some.inj H
                  go_wp2
                  go_ret
                  exact ⟨by first | rfl | (simp [errW_none, errW_some] <;> rfl) | (simp [*, errW_none, errW_some] <;> rfl), by repeat (first | (with_reducible first | exact HB.out | apply below_alloc | apply pw_below_drewN | apply below_drew1 | refine below_set ?_ GE412.out | refine below_set ?_ GE419.out | refine below_set ?_ GE430.out) | exact HB.out)⟩
                · replace c64 := Bool.eq_false_iff.mpr c64
                  subst c64
                  have H1 : ((laws_heldCalendar.f kj37 t413 t414 t422 1).bind fun t432 => (if t432 < 0 then (some false) else (if t432 = t421 then (some true) else (some false)))) = some r := by rw [if_neg (show ¬ (false = true) by decide)] at H; exact H
                  clear H
                  have H := H1
                  clear H1
                  replace H := Option.bind_eq_some_iff.mp H
                  obtain ⟨t432, A650, H⟩ := H
                  replace H : (if t432 < 0 then (some false) else (if t432 = t421 then (some true) else (some false))) = some r := H
                  have A65 := Aside0.mk A650
                  clear A650
                  by_cases c66 : t432 < 0
                  · rw [if_pos c66] at H
                    have c66b0 : decide (t432 < 0) = true := decide_eq_true c66
                    clear c66
                    obtain rfl := Option.some.inj H
                    have hnb67 := NB419_412.out
                    have hnc67 := NB412_419.out
                    have hnb68 := NB419_430.out
                    have hnc68 := NB430_419.out
                    have hcz69_0 : wc.cell? ⟨gb419, 0, none⟩ = some (.int .i64 t413) := (blk_cell BK419.out 0).trans rfl
                    have hcz69_1 : wc.cell? ⟨gb419, 1, none⟩ = some (.int .i64 t414) := (blk_cell BK419.out 1).trans rfl
                    have hcz69_2 : wc.cell? ⟨gb419, 2, none⟩ = some (.slice Ao16 t422.length co16) := (blk_cell BK419.out 2).trans rfl
                    have hfz69_0 := blk_frozen BK419.out 0
                    have hfz69_1 := blk_frozen BK419.out 1
                    have hfz69_2 := blk_frozen BK419.out 2
                    go_wp2_with (first | ((with_reducible refine gate_callee (f := 35) rfl ?_); refine goesL_ (some 72) rfl rfl Try.func35 (by kernel_rfl) rfl #[.agg #[.int .i64 t413, .int .i64 t414, .slice Ao16 t422.length co16], .int .i64 1] rfl (by (try simp only [List.map_toArray, List.map_cons, List.map_nil]); first | done | rfl | (simp only [List.length_drop, List.length_take]; rfl) | (simp only [show ∀ (n_ : Nat) (b_ : Int), Int.tdiv (n_ : Int) b_ = (n_ : Int) / b_ from fun n_ b_ => Int.tdiv_eq_ediv_of_nonneg (Int.natCast_nonneg n_)]; rfl)) ?_; (with_reducible refine (laws_heldCalendar.calls kj37 t413 t414 _ _ t422 1 t432 _ ?side1 ?side2 A65.out).mono ?_); (case side1 => repeat (first | exact (Kd.R_reads' HO_420002.out).2.2 | (with_reducible refine Kd.C_alloc ?_ _) | (with_reducible refine Kd.C_drewN ?_ _) | (with_reducible refine Kd.C_drew ?_))); (case side2 => exact (Kd.R_reads' HO_420002.out).2.1); rintro e w70 ⟨rfl, hb⟩; refine ⟨_, rfl, ?_⟩; have n0_ := Aside0.mk (Kd.R_below (by (with_reducible repeat (first | apply Kd.R_alloc | apply Kd.R_drewN | apply Kd.R_drew)); exact HO_413002.out) hb); have n1_ := Aside0.mk (Kd.R_below (by (with_reducible repeat (first | apply Kd.R_alloc | apply Kd.R_drewN | apply Kd.R_drew)); exact HO_420002.out) hb); have n2_ := Aside0.mk (Kd.R_below (by (with_reducible repeat (first | apply Kd.R_alloc | apply Kd.R_drewN | apply Kd.R_drew)); exact HO_431002.out) hb); have n3_ := Aside0.mk (blk_below (g := gb412) (o := .cells #[.int .i64 t406, .int .i64 t407, .slice Ao11 t408.length co11] 34 (0, 0)) (by (with_reducible repeat (first | refine blk_drewN ?_ _ | refine blk_drew ?_ | refine blk_alloc ?_ _)); exact BK412.out) hb); have n4_ := Aside0.mk (blk_below (g := gb419) (o := .cells #[.int .i64 t413, .int .i64 t414, .slice Ao16 t422.length co16] 34 (0, 0)) (by (with_reducible repeat (first | refine blk_drewN ?_ _ | refine blk_drew ?_ | refine blk_alloc ?_ _)); exact BK419.out) hb); have n5_ := Aside0.mk (blk_below (g := gb430) (o := .cells #[.int .i64 t424, .int .i64 t425, .slice Ao49 t426.length co49] 34 (0, 0)) (by (with_reducible repeat (first | refine blk_drewN ?_ _ | refine blk_drew ?_ | refine blk_alloc ?_ _)); exact BK430.out) hb); have n6_ := Aside0.mk (below_step (by repeat (first | (with_reducible first | exact HB.out | apply below_alloc | apply pw_below_drewN | apply below_drew1 | refine below_set ?_ GE412.out | refine below_set ?_ GE419.out | refine below_set ?_ GE430.out) | exact HB.out)) hb); clear HO_413002; clear HO_420002; clear HO_431002; clear BK412; clear BK419; clear BK430; clear HB; have HO_413002 := n0_; have HO_420002 := n1_; have HO_431002 := n2_; have BK412 := n3_; have BK419 := n4_; have BK430 := n5_; have HB := n6_; clear n0_ n1_ n2_ n3_ n4_ n5_ n6_; (try clear hb); (try clear hb2); (try clear hk); (try clear hi)))
                    go_ret
                    exact ⟨by first | rfl | (simp [errW_none, errW_some] <;> rfl) | (simp [*, errW_none, errW_some] <;> rfl), by repeat (first | (with_reducible first | exact HB.out | apply below_alloc | apply pw_below_drewN | apply below_drew1 | refine below_set ?_ GE412.out | refine below_set ?_ GE419.out | refine below_set ?_ GE430.out) | exact HB.out)⟩
                  · rw [if_neg c66] at H
                    have c66b0 : decide (t432 < 0) = false := decide_eq_false c66
                    clear c66
                    by_cases c71 : t432 = t421
                    · rw [if_pos c71] at H
                      have c71b0 : (t432 == t421) = true := beq_iff_eq.mpr c71
                      have c71b1 : (t432 != t421) = false := bne_eq_false_iff_eq.mpr c71
                      clear c71
                      obtain rfl := Option.some.inj H
                      have hnb72 := NB419_412.out
                      have hnc72 := NB412_419.out
                      have hnb73 := NB419_430.out
                      have hnc73 := NB430_419.out
                      have hcz74_0 : wc.cell? ⟨gb419, 0, none⟩ = some (.int .i64 t413) := (blk_cell BK419.out 0).trans rfl
                      have hcz74_1 : wc.cell? ⟨gb419, 1, none⟩ = some (.int .i64 t414) := (blk_cell BK419.out 1).trans rfl
                      have hcz74_2 : wc.cell? ⟨gb419, 2, none⟩ = some (.slice Ao16 t422.length co16) := (blk_cell BK419.out 2).trans rfl
                      have hfz74_0 := blk_frozen BK419.out 0
                      have hfz74_1 := blk_frozen BK419.out 1
                      have hfz74_2 := blk_frozen BK419.out 2
                      go_wp2_with (first | ((with_reducible refine gate_callee (f := 35) rfl ?_); refine goesL_ (some 72) rfl rfl Try.func35 (by kernel_rfl) rfl #[.agg #[.int .i64 t413, .int .i64 t414, .slice Ao16 t422.length co16], .int .i64 1] rfl (by (try simp only [List.map_toArray, List.map_cons, List.map_nil]); first | done | rfl | (simp only [List.length_drop, List.length_take]; rfl) | (simp only [show ∀ (n_ : Nat) (b_ : Int), Int.tdiv (n_ : Int) b_ = (n_ : Int) / b_ from fun n_ b_ => Int.tdiv_eq_ediv_of_nonneg (Int.natCast_nonneg n_)]; rfl)) ?_; (with_reducible refine (laws_heldCalendar.calls kj37 t413 t414 _ _ t422 1 t432 _ ?side1 ?side2 A65.out).mono ?_); (case side1 => repeat (first | exact (Kd.R_reads' HO_420002.out).2.2 | (with_reducible refine Kd.C_alloc ?_ _) | (with_reducible refine Kd.C_drewN ?_ _) | (with_reducible refine Kd.C_drew ?_))); (case side2 => exact (Kd.R_reads' HO_420002.out).2.1); rintro e w75 ⟨rfl, hb⟩; refine ⟨_, rfl, ?_⟩; have n0_ := Aside0.mk (Kd.R_below (by (with_reducible repeat (first | apply Kd.R_alloc | apply Kd.R_drewN | apply Kd.R_drew)); exact HO_413002.out) hb); have n1_ := Aside0.mk (Kd.R_below (by (with_reducible repeat (first | apply Kd.R_alloc | apply Kd.R_drewN | apply Kd.R_drew)); exact HO_420002.out) hb); have n2_ := Aside0.mk (Kd.R_below (by (with_reducible repeat (first | apply Kd.R_alloc | apply Kd.R_drewN | apply Kd.R_drew)); exact HO_431002.out) hb); have n3_ := Aside0.mk (blk_below (g := gb412) (o := .cells #[.int .i64 t406, .int .i64 t407, .slice Ao11 t408.length co11] 34 (0, 0)) (by (with_reducible repeat (first | refine blk_drewN ?_ _ | refine blk_drew ?_ | refine blk_alloc ?_ _)); exact BK412.out) hb); have n4_ := Aside0.mk (blk_below (g := gb419) (o := .cells #[.int .i64 t413, .int .i64 t414, .slice Ao16 t422.length co16] 34 (0, 0)) (by (with_reducible repeat (first | refine blk_drewN ?_ _ | refine blk_drew ?_ | refine blk_alloc ?_ _)); exact BK419.out) hb); have n5_ := Aside0.mk (blk_below (g := gb430) (o := .cells #[.int .i64 t424, .int .i64 t425, .slice Ao49 t426.length co49] 34 (0, 0)) (by (with_reducible repeat (first | refine blk_drewN ?_ _ | refine blk_drew ?_ | refine blk_alloc ?_ _)); exact BK430.out) hb); have n6_ := Aside0.mk (below_step (by repeat (first | (with_reducible first | exact HB.out | apply below_alloc | apply pw_below_drewN | apply below_drew1 | refine below_set ?_ GE412.out | refine below_set ?_ GE419.out | refine below_set ?_ GE430.out) | exact HB.out)) hb); clear HO_413002; clear HO_420002; clear HO_431002; clear BK412; clear BK419; clear BK430; clear HB; have HO_413002 := n0_; have HO_420002 := n1_; have HO_431002 := n2_; have BK412 := n3_; have BK419 := n4_; have BK430 := n5_; have HB := n6_; clear n0_ n1_ n2_ n3_ n4_ n5_ n6_; (try clear hb); (try clear hb2); (try clear hk); (try clear hi)))
                      go_ret
                      exact ⟨by first | rfl | (simp [errW_none, errW_some] <;> rfl) | (simp [*, errW_none, errW_some] <;> rfl), by repeat (first | (with_reducible first | exact HB.out | apply below_alloc | apply pw_below_drewN | apply below_drew1 | refine below_set ?_ GE412.out | refine below_set ?_ GE419.out | refine below_set ?_ GE430.out) | exact HB.out)⟩
                    · rw [if_neg c71] at H
                      have c71b0 : (t432 == t421) = false := beq_eq_false_iff_ne.mpr c71
                      have c71b1 : (t432 != t421) = true := bne_iff_ne.mpr c71
                      obtain rfl := Option.some.inj H
                      have hnb76 := NB419_412.out
                      have hnc76 := NB412_419.out
                      have hnb77 := NB419_430.out
                      have hnc77 := NB430_419.out
                      have hcz78_0 : wc.cell? ⟨gb419, 0, none⟩ = some (.int .i64 t413) := (blk_cell BK419.out 0).trans rfl
                      have hcz78_1 : wc.cell? ⟨gb419, 1, none⟩ = some (.int .i64 t414) := (blk_cell BK419.out 1).trans rfl
                      have hcz78_2 : wc.cell? ⟨gb419, 2, none⟩ = some (.slice Ao16 t422.length co16) := (blk_cell BK419.out 2).trans rfl
                      have hfz78_0 := blk_frozen BK419.out 0
                      have hfz78_1 := blk_frozen BK419.out 1
                      have hfz78_2 := blk_frozen BK419.out 2
                      go_wp2_with (first | ((with_reducible refine gate_callee (f := 35) rfl ?_); refine goesL_ (some 72) rfl rfl Try.func35 (by kernel_rfl) rfl #[.agg #[.int .i64 t413, .int .i64 t414, .slice Ao16 t422.length co16], .int .i64 1] rfl (by (try simp only [List.map_toArray, List.map_cons, List.map_nil]); first | done | rfl | (simp only [List.length_drop, List.length_take]; rfl) | (simp only [show ∀ (n_ : Nat) (b_ : Int), Int.tdiv (n_ : Int) b_ = (n_ : Int) / b_ from fun n_ b_ => Int.tdiv_eq_ediv_of_nonneg (Int.natCast_nonneg n_)]; rfl)) ?_; (with_reducible refine (laws_heldCalendar.calls kj37 t413 t414 _ _ t422 1 t432 _ ?side1 ?side2 A65.out).mono ?_); (case side1 => repeat (first | exact (Kd.R_reads' HO_420002.out).2.2 | (with_reducible refine Kd.C_alloc ?_ _) | (with_reducible refine Kd.C_drewN ?_ _) | (with_reducible refine Kd.C_drew ?_))); (case side2 => exact (Kd.R_reads' HO_420002.out).2.1); rintro e w79 ⟨rfl, hb⟩; refine ⟨_, rfl, ?_⟩; have n0_ := Aside0.mk (Kd.R_below (by (with_reducible repeat (first | apply Kd.R_alloc | apply Kd.R_drewN | apply Kd.R_drew)); exact HO_413002.out) hb); have n1_ := Aside0.mk (Kd.R_below (by (with_reducible repeat (first | apply Kd.R_alloc | apply Kd.R_drewN | apply Kd.R_drew)); exact HO_420002.out) hb); have n2_ := Aside0.mk (Kd.R_below (by (with_reducible repeat (first | apply Kd.R_alloc | apply Kd.R_drewN | apply Kd.R_drew)); exact HO_431002.out) hb); have n3_ := Aside0.mk (blk_below (g := gb412) (o := .cells #[.int .i64 t406, .int .i64 t407, .slice Ao11 t408.length co11] 34 (0, 0)) (by (with_reducible repeat (first | refine blk_drewN ?_ _ | refine blk_drew ?_ | refine blk_alloc ?_ _)); exact BK412.out) hb); have n4_ := Aside0.mk (blk_below (g := gb419) (o := .cells #[.int .i64 t413, .int .i64 t414, .slice Ao16 t422.length co16] 34 (0, 0)) (by (with_reducible repeat (first | refine blk_drewN ?_ _ | refine blk_drew ?_ | refine blk_alloc ?_ _)); exact BK419.out) hb); have n5_ := Aside0.mk (blk_below (g := gb430) (o := .cells #[.int .i64 t424, .int .i64 t425, .slice Ao49 t426.length co49] 34 (0, 0)) (by (with_reducible repeat (first | refine blk_drewN ?_ _ | refine blk_drew ?_ | refine blk_alloc ?_ _)); exact BK430.out) hb); have n6_ := Aside0.mk (below_step (by repeat (first | (with_reducible first | exact HB.out | apply below_alloc | apply pw_below_drewN | apply below_drew1 | refine below_set ?_ GE412.out | refine below_set ?_ GE419.out | refine below_set ?_ GE430.out) | exact HB.out)) hb); clear HO_413002; clear HO_420002; clear HO_431002; clear BK412; clear BK419; clear BK430; clear HB; have HO_413002 := n0_; have HO_420002 := n1_; have HO_431002 := n2_; have BK412 := n3_; have BK419 := n4_; have BK430 := n5_; have HB := n6_; clear n0_ n1_ n2_ n3_ n4_ n5_ n6_; (try clear hb); (try clear hb2); (try clear hk); (try clear hi)))
                      go_ret
                      exact ⟨by first | rfl | (simp [errW_none, errW_some] <;> rfl) | (simp [*, errW_none, errW_some] <;> rfl), by repeat (first | (with_reducible first | exact HB.out | apply below_alloc | apply pw_below_drewN | apply below_drew1 | refine below_set ?_ GE412.out | refine below_set ?_ GE419.out | refine below_set ?_ GE430.out) | exact HB.out)⟩
          · rw [if_neg c36] at H
            have c36b0 : (t423 == t421) = false := beq_eq_false_iff_ne.mpr c36
            have c36b1 : (t423 != t421) = true := bne_iff_ne.mpr c36
            obtain rfl := Option.some.inj H
            have hnb80 := NB419_412.out
            have hnc80 := NB412_419.out
            have hcz81_0 : wc.cell? ⟨gb419, 0, none⟩ = some (.int .i64 t413) := (blk_cell BK419.out 0).trans rfl
            have hcz81_1 : wc.cell? ⟨gb419, 1, none⟩ = some (.int .i64 t414) := (blk_cell BK419.out 1).trans rfl
            have hcz81_2 : wc.cell? ⟨gb419, 2, none⟩ = some (.slice Ao16 t415.length co16) := (blk_cell BK419.out 2).trans rfl
            have hfz81_0 := blk_frozen BK419.out 0
            have hfz81_1 := blk_frozen BK419.out 1
            have hfz81_2 := blk_frozen BK419.out 2
            go_wp2_with (first | ((with_reducible refine gate_callee (f := 34) rfl ?_); refine goesL_ (some 44) rfl rfl Try.func34 (by kernel_rfl) rfl #[.agg #[.int .i64 t413, .int .i64 t414, .slice Ao16 t415.length co16], .int .i64 1] rfl (by (try simp only [List.map_toArray, List.map_cons, List.map_nil]); first | done | rfl | (simp only [List.length_drop, List.length_take]; rfl) | (simp only [show ∀ (n_ : Nat) (b_ : Int), Int.tdiv (n_ : Int) b_ = (n_ : Int) / b_ from fun n_ b_ => Int.tdiv_eq_ediv_of_nonneg (Int.natCast_nonneg n_)]; rfl)) ?_; (with_reducible refine (laws_markCalendar.calls kj6 t413 t414 (fun k_ => some k_ = (.slice Ao16 t415.length co16 : Value).ownBlock) (.slice Ao16 t415.length co16) t415 1 t421 t422 w _ ?side1 ?side2 A28.out).mono ?_); (case side1 => repeat (first | (with_reducible first | exact HB.out | apply below_alloc | apply pw_below_drewN | apply below_drew1 | refine below_set ?_ GE412.out | refine below_set ?_ GE419.out) | exact HB.out)); (case side2 => exact Kd.R_tight rfl HO_420002.out); rintro e w82 ⟨rfl, hy0, hb, hkp⟩; refine ⟨_, rfl, ?_⟩; have n0_ := Aside0.mk (Kd.R_mono (ok' := fun k_ => some k_ ≠ (.slice Ao16 t415.length co16 : Value).ownBlock) (Kd.R_keptB (HO_413002.out) hkp (fun k_ hk_ hs_ => (hk_) hs_)) (fun k_ hk_ => hk_.1)); have n1_ := Aside0.mk (Kd.R_reok rfl hy0 (fun k_ e_ => HO_420002.out.1 k_ e_)); have n2_ := Aside0.mk (blk_kept (by (with_reducible repeat (first | refine blk_drewN ?_ _ | refine blk_drew ?_ | refine blk_alloc ?_ _)); exact BK412.out) hkp (fun hs_ => (fun e_ => (Kd.R_ne HO_420002.out BK412.out (by decide)) e_) hs_)); have n3_ := Aside0.mk (blk_kept (by (with_reducible repeat (first | refine blk_drewN ?_ _ | refine blk_drew ?_ | refine blk_alloc ?_ _)); exact BK419.out) hkp (fun hs_ => (fun e_ => (Kd.R_ne HO_420002.out BK419.out (by decide)) e_) hs_)); have n4_ := Aside0.mk (hb); clear HO_413002; clear HO_420002; clear BK412; clear BK419; clear HB; have HO_413002 := n0_; have HO_420002 := n1_; have BK412 := n2_; have BK419 := n3_; have HB := n4_; clear n0_ n1_ n2_ n3_ n4_; (try clear hb); (try clear hkp); (try clear hy0); have hcz83_0 : w82.cell? ⟨gb419, 0, none⟩ = some (.int .i64 t413) := (blk_cell BK419.out 0).trans rfl; have hcz83_1 : w82.cell? ⟨gb419, 1, none⟩ = some (.int .i64 t414) := (blk_cell BK419.out 1).trans rfl; have hcz83_2 : w82.cell? ⟨gb419, 2, none⟩ = some (.slice Ao16 t415.length co16) := (blk_cell BK419.out 2).trans rfl; have hfz83_0 := blk_frozen BK419.out 0; have hfz83_1 := blk_frozen BK419.out 1; have hfz83_2 := blk_frozen BK419.out 2) | ((with_reducible refine gate_callee (f := 35) rfl ?_); refine goesL_ (some 47) rfl rfl Try.func35 (by kernel_rfl) rfl #[.agg #[.int .i64 t413, .int .i64 t414, .slice Ao16 t422.length co16], .int .i64 1] rfl (by (try simp only [List.map_toArray, List.map_cons, List.map_nil]); first | done | (rw [show t422.length = t415.length from (Kd.R_reads' HO_420002.out).1.symm] <;> rfl) | rfl | (simp only [List.length_drop, List.length_take]; rfl)) ?_; (with_reducible refine (laws_heldCalendar.calls kj6 t413 t414 _ _ t422 1 t423 _ ?side1 ?side2 A29.out).mono ?_); (case side1 => repeat (first | exact (Kd.R_reads' HO_420002.out).2.2 | (with_reducible refine Kd.C_alloc ?_ _) | (with_reducible refine Kd.C_drewN ?_ _) | (with_reducible refine Kd.C_drew ?_))); (case side2 => rw [show t422.length = t415.length from (Kd.R_reads' HO_420002.out).1.symm]; exact (Kd.R_reads' HO_420002.out).2.1); rintro e w84 ⟨rfl, hb⟩; refine ⟨_, rfl, ?_⟩; have n0_ := Aside0.mk (Kd.R_below (by (with_reducible repeat (first | apply Kd.R_alloc | apply Kd.R_drewN | apply Kd.R_drew)); exact HO_413002.out) hb); have n1_ := Aside0.mk (Kd.R_below (by (with_reducible repeat (first | apply Kd.R_alloc | apply Kd.R_drewN | apply Kd.R_drew)); exact HO_420002.out) hb); have n2_ := Aside0.mk (blk_below (g := gb412) (o := .cells #[.int .i64 t406, .int .i64 t407, .slice Ao11 t408.length co11] 34 (0, 0)) (by (with_reducible repeat (first | refine blk_drewN ?_ _ | refine blk_drew ?_ | refine blk_alloc ?_ _)); exact BK412.out) hb); have n3_ := Aside0.mk (blk_below (g := gb419) (o := .cells #[.int .i64 t413, .int .i64 t414, .slice Ao16 t415.length co16] 34 (0, 0)) (by (with_reducible repeat (first | refine blk_drewN ?_ _ | refine blk_drew ?_ | refine blk_alloc ?_ _)); exact BK419.out) hb); have n4_ := Aside0.mk (below_step (by repeat (first | (with_reducible first | exact HB.out | apply below_alloc | apply pw_below_drewN | apply below_drew1 | refine below_set ?_ GE412.out | refine below_set ?_ GE419.out) | exact HB.out)) hb); clear HO_413002; clear HO_420002; clear BK412; clear BK419; clear HB; have HO_413002 := n0_; have HO_420002 := n1_; have BK412 := n2_; have BK419 := n3_; have HB := n4_; clear n0_ n1_ n2_ n3_ n4_; (try clear hb); (try clear hb2); (try clear hk); (try clear hi)))
            go_ret
            exact ⟨by first | rfl | (simp [errW_none, errW_some] <;> rfl) | (simp [*, errW_none, errW_some] <;> rfl), by repeat (first | (with_reducible first | exact HB.out | apply below_alloc | apply pw_below_drewN | apply below_drew1 | refine below_set ?_ GE412.out | refine below_set ?_ GE419.out) | exact HB.out)⟩

/-- THE ONE PURE STATEMENT of laws_FnExactEvenCalendar: yours. -/
def laws_FnExactEvenCalendar.Pure : Prop := ∀ (a0 : Int) (a1 : Int) (a2 : Int) (a3 : Int), (Lit.int .i64 a0).wf = true → (Lit.int .i64 a1).wf = true → (Lit.int .i64 a2).wf = true → (Lit.int .i64 a3).wf = true → ∃ k, laws_FnExactEvenCalendar.f k a0 a1 a2 a3 = some true
theorem laws_FnExactEvenCalendar.walk (P : laws_FnExactEvenCalendar.Pure) (a0 : Int) (a1 : Int) (a2 : Int) (a3 : Int) (w : World) (w0 : (Lit.int .i64 a0).wf = true) (w1 : (Lit.int .i64 a1).wf = true) (w2 : (Lit.int .i64 a2).wf = true) (w3 : (Lit.int .i64 a3).wf = true) :
    Calls Try.prog 10 #[.int .i64 a0, .int .i64 a1, .int .i64 a2, .int .i64 a3] w fun e w' => e = .returned (.bool true) ∧ Below w.heap.size w w' := by
  obtain ⟨k, h⟩ := P a0 a1 a2 a3 w0 w1 w2 w3
  refine (laws_FnExactEvenCalendar.calls k a0 a1 a2 a3 true w h).mono ?_
  rintro e w' ⟨rfl, hd⟩
  exact ⟨rfl, hd⟩

end Go.Proofs.Ytjeidmbggdgggaa.Q
