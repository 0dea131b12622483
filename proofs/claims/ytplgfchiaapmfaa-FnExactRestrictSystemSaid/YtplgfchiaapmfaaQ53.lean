/- Functions of the given program as plain functions, and that the program's calls answer as they do; written by a program of this session over the kit's print. -/
import Derived.Test.YtplgfchiaapmfaaQ0
import Derived.Test.YtplgfchiaapmfaaQ1
import Derived.Test.YtplgfchiaapmfaaQ5
import Derived.Test.YtplgfchiaapmfaaQ9
import Derived.Test.YtplgfchiaapmfaaQ19
import Derived.Test.YtplgfchiaapmfaaQ21
import Derived.Test.YtplgfchiaapmfaaQ50
import Derived.Test.YtplgfchiaapmfaaQ52
namespace Go.Proofs.Ytplgfchiaapmfaa.Q
open Go.RowKit Go.Proofs.YtplgfchiaapmfaaW.PrintWords Go.Proofs.YtplgfchiaapmfaaW.PrintLast Go.Proofs.YtplgfchiaapmfaaW.PrintMore
attribute [local go_sem] max2_int min2_int max_two min_two max_three min_three max_four min_four   -- for this text's walks alone
set_option linter.unusedVariables false
set_option linter.unusedSimpArgs false

/-! ### laws_FnExactRestrictSystem: function 11 -/
mutual
def laws_FnExactRestrictSystem.j0 : Nat → Int → Bool → Bool → Bool → Int → List Int → Int → List Int → Int → List Int → Int → List Int → Option (Bool)
  | 0, _, _, _, _, _, _, _, _, _, _, _, _ => none
  | k + 1, x1, x7, x10, x44, x555000, x555001, x566000, x566001, x571000, x571001, x577000, x577001 => if x44 = true then (some false) else ((laws_toSystem.f k x555000 x555001).bind fun bt578 => ((laws_eqSystem.f k x571000 x571001 bt578.1 bt578.2).bind fun t582 => (if t582 = true then ((laws_markSystem.f k x571000 x571001 1).bind fun bt583 => (if bt583.1 < 0 then (laws_FnExactRestrictSystem.j1 k x1 x7 true x555000 x555001 x566000 x566001 x577000 x577001) else ((laws_eqSystem.f k x577000 x577001 x566000 x566001).bind fun t585 => (if t585 = true then (laws_FnExactRestrictSystem.j1 k x1 x7 (x10 != x7) x555000 x555001 x566000 x566001 x577000 x577001) else (laws_FnExactRestrictSystem.j1 k x1 x7 true x555000 x555001 x566000 x566001 x577000 x577001))))) else (some false))))
def laws_FnExactRestrictSystem.j1 : Nat → Int → Bool → Bool → Int → List Int → Int → List Int → Int → List Int → Option (Bool)
  | 0, _, _, _, _, _, _, _, _, _ => none
  | k + 1, x1, x7, x65, x555000, x555001, x566000, x566001, x577000, x577001 => if x65 = true then (some false) else ((laws_markSystem.f k x577000 x577001 1).bind fun bt586 => ((laws_heldSystem.f k x577000 bt586.2 1).bind fun t588 => (if t588 < 0 then (some false) else (if t588 = bt586.1 then ((laws_toSystem.f k x555000 x555001).bind fun bt589 => ((impl_RestrictSystem.f k bt589.1 bt589.2 x1).bind fun bt593 => ((laws_eqSystem.f k bt593.1 bt593.2.1 x566000 x566001).bind fun t599 => (if t599 = true then (laws_FnExactRestrictSystem.j2 k bt586.1 (bt593.2.2 != x7) x577000 bt586.2) else (laws_FnExactRestrictSystem.j2 k bt586.1 true x577000 bt586.2))))) else (some false)))))
def laws_FnExactRestrictSystem.j2 : Nat → Int → Bool → Int → List Int → Option (Bool)
  | 0, _, _, _, _ => none
  | k + 1, x12, x92, x577000, x577001 => if x92 = true then (some false) else ((laws_heldSystem.f k x577000 x577001 1).bind fun t600 => (if t600 < 0 then (some false) else (if t600 = x12 then (some true) else (some false))))
end
def laws_FnExactRestrictSystem.f (k : Nat) (a0_0 : Int) (l0_1 : List Int) (a1 : Int) : Option (Bool) := (laws_szSystem.f a0_0 l0_1 1048576).bind fun t555 => (if t555 < 0 then (some true) else ((laws_toSystem.f k a0_0 l0_1).bind fun bt556 => ((spec_RestrictSystem.f k bt556.1 bt556.2 a1).bind fun bt560 => ((laws_toSystem.f k a0_0 l0_1).bind fun bt566 => ((impl_RestrictSystem.f k bt566.1 bt566.2 a1).bind fun bt571 => ((laws_eqSystem.f k bt571.1 bt571.2.1 bt560.1 bt560.2.1).bind fun t577 => (if t577 = true then (laws_FnExactRestrictSystem.j0 k a1 bt560.2.2 bt571.2.2 (bt571.2.2 != bt560.2.2) a0_0 l0_1 bt560.1 bt560.2.1 bt566.1 bt566.2 bt571.1 bt571.2.1) else (laws_FnExactRestrictSystem.j0 k a1 bt560.2.2 bt571.2.2 true a0_0 l0_1 bt560.1 bt560.2.1 bt566.1 bt566.2 bt571.1 bt571.2.1))))))))
theorem laws_FnExactRestrictSystem.mono_l : ∀ k, (∀ y0 y1 y2 y3 y4 y5 y6 y7 y8 y9 y10 y11, LeO (laws_FnExactRestrictSystem.j0 k y0 y1 y2 y3 y4 y5 y6 y7 y8 y9 y10 y11) (laws_FnExactRestrictSystem.j0 (k + 1) y0 y1 y2 y3 y4 y5 y6 y7 y8 y9 y10 y11)) ∧ (∀ y0 y1 y2 y3 y4 y5 y6 y7 y8, LeO (laws_FnExactRestrictSystem.j1 k y0 y1 y2 y3 y4 y5 y6 y7 y8) (laws_FnExactRestrictSystem.j1 (k + 1) y0 y1 y2 y3 y4 y5 y6 y7 y8)) ∧ (∀ y0 y1 y2 y3, LeO (laws_FnExactRestrictSystem.j2 k y0 y1 y2 y3) (laws_FnExactRestrictSystem.j2 (k + 1) y0 y1 y2 y3))
  | 0 => ⟨fun _ _ _ _ _ _ _ _ _ _ _ _ r h => by simp [laws_FnExactRestrictSystem.j0] at h, fun _ _ _ _ _ _ _ _ _ r h => by simp [laws_FnExactRestrictSystem.j1] at h, fun _ _ _ _ r h => by simp [laws_FnExactRestrictSystem.j2] at h⟩
  | k + 1 => by
    obtain ⟨ih0, ih1, ih2⟩ := laws_FnExactRestrictSystem.mono_l k
    refine ⟨?_, ?_, ?_⟩
    · intro y0 y1 y2 y3 y4 y5 y6 y7 y8 y9 y10 y11
      unfold laws_FnExactRestrictSystem.j0
      repeat' first
      | (with_reducible exact ih0 _ _ _ _ _ _ _ _ _ _ _ _)
      | (with_reducible exact ih1 _ _ _ _ _ _ _ _ _)
      | (with_reducible exact ih2 _ _ _ _)
      | (with_reducible exact impl_RestrictSystem.mono _ _ _ _)
      | (with_reducible exact laws_eqSystem.mono _ _ _ _ _)
      | (with_reducible exact laws_heldSystem.mono _ _ _ _)
      | (with_reducible exact laws_markSystem.mono _ _ _ _)
      | (with_reducible exact laws_toSystem.mono _ _ _)
      | (with_reducible exact spec_RestrictSystem.mono _ _ _ _)
      | (with_reducible exact LeO.refl _)
      | (with_reducible exact LeO.none _)
      | (with_reducible refine LeO.ite ?_ ?_)
      | (with_reducible refine LeO.bind ?_ (fun _ => ?_))
      | exact ih0 _ _ _ _ _ _ _ _ _ _ _ _
      | exact ih1 _ _ _ _ _ _ _ _ _
      | exact ih2 _ _ _ _
      | exact impl_RestrictSystem.mono _ _ _ _
      | exact laws_eqSystem.mono _ _ _ _ _
      | exact laws_heldSystem.mono _ _ _ _
      | exact laws_markSystem.mono _ _ _ _
      | exact laws_toSystem.mono _ _ _
      | exact spec_RestrictSystem.mono _ _ _ _
      | exact LeO.none _
      | refine LeO.ite ?_ ?_
      | refine LeO.bind ?_ (fun _ => ?_)
    · intro y0 y1 y2 y3 y4 y5 y6 y7 y8
      unfold laws_FnExactRestrictSystem.j1
      repeat' first
      | (with_reducible exact ih0 _ _ _ _ _ _ _ _ _ _ _ _)
      | (with_reducible exact ih1 _ _ _ _ _ _ _ _ _)
      | (with_reducible exact ih2 _ _ _ _)
      | (with_reducible exact impl_RestrictSystem.mono _ _ _ _)
      | (with_reducible exact laws_eqSystem.mono _ _ _ _ _)
      | (with_reducible exact laws_heldSystem.mono _ _ _ _)
      | (with_reducible exact laws_markSystem.mono _ _ _ _)
      | (with_reducible exact laws_toSystem.mono _ _ _)
      | (with_reducible exact spec_RestrictSystem.mono _ _ _ _)
      | (with_reducible exact LeO.refl _)
      | (with_reducible exact LeO.none _)
      | (with_reducible refine LeO.ite ?_ ?_)
      | (with_reducible refine LeO.bind ?_ (fun _ => ?_))
      | exact ih0 _ _ _ _ _ _ _ _ _ _ _ _
      | exact ih1 _ _ _ _ _ _ _ _ _
      | exact ih2 _ _ _ _
      | exact impl_RestrictSystem.mono _ _ _ _
      | exact laws_eqSystem.mono _ _ _ _ _
      | exact laws_heldSystem.mono _ _ _ _
      | exact laws_markSystem.mono _ _ _ _
      | exact laws_toSystem.mono _ _ _
      | exact spec_RestrictSystem.mono _ _ _ _
      | exact LeO.none _
      | refine LeO.ite ?_ ?_
      | refine LeO.bind ?_ (fun _ => ?_)
    · intro y0 y1 y2 y3
      unfold laws_FnExactRestrictSystem.j2
      repeat' first
      | (with_reducible exact ih0 _ _ _ _ _ _ _ _ _ _ _ _)
      | (with_reducible exact ih1 _ _ _ _ _ _ _ _ _)
      | (with_reducible exact ih2 _ _ _ _)
      | (with_reducible exact impl_RestrictSystem.mono _ _ _ _)
      | (with_reducible exact laws_eqSystem.mono _ _ _ _ _)
      | (with_reducible exact laws_heldSystem.mono _ _ _ _)
      | (with_reducible exact laws_markSystem.mono _ _ _ _)
      | (with_reducible exact laws_toSystem.mono _ _ _)
      | (with_reducible exact spec_RestrictSystem.mono _ _ _ _)
      | (with_reducible exact LeO.refl _)
      | (with_reducible exact LeO.none _)
      | (with_reducible refine LeO.ite ?_ ?_)
      | (with_reducible refine LeO.bind ?_ (fun _ => ?_))
      | exact ih0 _ _ _ _ _ _ _ _ _ _ _ _
      | exact ih1 _ _ _ _ _ _ _ _ _
      | exact ih2 _ _ _ _
      | exact impl_RestrictSystem.mono _ _ _ _
      | exact laws_eqSystem.mono _ _ _ _ _
      | exact laws_heldSystem.mono _ _ _ _
      | exact laws_markSystem.mono _ _ _ _
      | exact laws_toSystem.mono _ _ _
      | exact spec_RestrictSystem.mono _ _ _ _
      | exact LeO.none _
      | refine LeO.ite ?_ ?_
      | refine LeO.bind ?_ (fun _ => ?_)
theorem laws_FnExactRestrictSystem.mono : ∀ a0 a1 a2 k, LeO (laws_FnExactRestrictSystem.f k a0 a1 a2) (laws_FnExactRestrictSystem.f (k + 1) a0 a1 a2) := by
  intro a0 a1 a2 k
  obtain ⟨ih0, ih1, ih2⟩ := laws_FnExactRestrictSystem.mono_l k
  unfold laws_FnExactRestrictSystem.f
  repeat' first
      | (with_reducible exact ih0 _ _ _ _ _ _ _ _ _ _ _ _)
      | (with_reducible exact ih1 _ _ _ _ _ _ _ _ _)
      | (with_reducible exact ih2 _ _ _ _)
      | (with_reducible exact impl_RestrictSystem.mono _ _ _ _)
      | (with_reducible exact laws_eqSystem.mono _ _ _ _ _)
      | (with_reducible exact laws_heldSystem.mono _ _ _ _)
      | (with_reducible exact laws_markSystem.mono _ _ _ _)
      | (with_reducible exact laws_toSystem.mono _ _ _)
      | (with_reducible exact spec_RestrictSystem.mono _ _ _ _)
      | (with_reducible exact LeO.refl _)
      | (with_reducible exact LeO.none _)
      | (with_reducible refine LeO.ite ?_ ?_)
      | (with_reducible refine LeO.bind ?_ (fun _ => ?_))
      | exact ih0 _ _ _ _ _ _ _ _ _ _ _ _
      | exact ih1 _ _ _ _ _ _ _ _ _
      | exact ih2 _ _ _ _
      | exact impl_RestrictSystem.mono _ _ _ _
      | exact laws_eqSystem.mono _ _ _ _ _
      | exact laws_heldSystem.mono _ _ _ _
      | exact laws_markSystem.mono _ _ _ _
      | exact laws_toSystem.mono _ _ _
      | exact spec_RestrictSystem.mono _ _ _ _
      | exact LeO.none _
      | refine LeO.ite ?_ ?_
      | refine LeO.bind ?_ (fun _ => ?_)
set_option maxHeartbeats 8000000 in
set_option maxRecDepth 100000 in
theorem laws_FnExactRestrictSystem.calls (k : Nat) (a0_0 : Int) (A0_1 : Option Addr) (c0_1 : Nat) (l0_1 : List Int) (a1 : Int) (r : Bool) (w : World) (hr0_1 : Kd.C (Kd.int .i64) w A0_1 l0_1.length l0_1) (hc0_1 : l0_1.length ≤ c0_1) (h : laws_FnExactRestrictSystem.f k a0_0 l0_1 a1 = some r) :
    Calls Try.prog 11 #[.agg #[.int .i64 a0_0, .slice A0_1 l0_1.length c0_1], .int .i64 a1] w fun e w' => e = .returned (.bool r) ∧ Below w.heap.size w w' := by
  have hu24 := Try.underlying24
  have hu27 := Try.underlying27
  have HR0_1 := Aside0.mk hr0_1
  have HC0_1 := Aside0.mk hc0_1
  clear hr0_1 hc0_1
  have HB := Aside0.mk (Below.refl w.heap.size w)
  have H : ((laws_szSystem.f a0_0 l0_1 1048576).bind fun t555 => (if t555 < 0 then (some true) else ((laws_toSystem.f k a0_0 l0_1).bind fun bt556 => ((spec_RestrictSystem.f k bt556.1 bt556.2 a1).bind fun bt560 => ((laws_toSystem.f k a0_0 l0_1).bind fun bt566 => ((impl_RestrictSystem.f k bt566.1 bt566.2 a1).bind fun bt571 => ((laws_eqSystem.f k bt571.1 bt571.2.1 bt560.1 bt560.2.1).bind fun t577 => (if t577 = true then (laws_FnExactRestrictSystem.j0 k a1 bt560.2.2 bt571.2.2 (bt571.2.2 != bt560.2.2) a0_0 l0_1 bt560.1 bt560.2.1 bt566.1 bt566.2 bt571.1 bt571.2.1) else (laws_FnExactRestrictSystem.j0 k a1 bt560.2.2 bt571.2.2 true a0_0 l0_1 bt560.1 bt560.2.1 bt566.1 bt566.2 bt571.1 bt571.2.1))))))))) = some r := h
  clear h
  replace H := Option.bind_eq_some_iff.mp H
  obtain ⟨t555, A30, H⟩ := H
  replace H : (if t555 < 0 then (some true) else ((laws_toSystem.f k a0_0 l0_1).bind fun bt556 => ((spec_RestrictSystem.f k bt556.1 bt556.2 a1).bind fun bt560 => ((laws_toSystem.f k a0_0 l0_1).bind fun bt566 => ((impl_RestrictSystem.f k bt566.1 bt566.2 a1).bind fun bt571 => ((laws_eqSystem.f k bt571.1 bt571.2.1 bt560.1 bt560.2.1).bind fun t577 => (if t577 = true then (laws_FnExactRestrictSystem.j0 k a1 bt560.2.2 bt571.2.2 (bt571.2.2 != bt560.2.2) a0_0 l0_1 bt560.1 bt560.2.1 bt566.1 bt566.2 bt571.1 bt571.2.1) else (laws_FnExactRestrictSystem.j0 k a1 bt560.2.2 bt571.2.2 true a0_0 l0_1 bt560.1 bt560.2.1 bt566.1 bt566.2 bt571.1 bt571.2.1)))))))) = some r := H
  have A3 := Aside0.mk A30
  clear A30
  by_cases c4 : t555 < 0
  · rw [if_pos c4] at H
    have c4b0 : decide (t555 < 0) = true := decide_eq_true c4
    clear c4
    obtain rfl := Option.some.inj H
    go_enter Try.func11, Try.ntmps11
    go_wp2_with (first | ((with_reducible refine gate_dst (N := 2) rfl ?_); refine box_event ?hg (N := 2) ?hd (cs := #[.int .i64 a0_0, .slice A0_1 l0_1.length c0_1]) (t := 24) ?hr ?_; (case hd => rfl); (case hg => rfl); (case hr => first | (go_simp; done) | (go_simp; rfl)); intro gb554 hg w5 hbox hb; have n0_ := Aside0.mk (below_step (by repeat (first | (with_reducible first | exact HB.out | apply below_alloc | apply pw_below_drewN | apply below_drew1) | exact HB.out)) hb); have n1_ := Aside0.mk (hbox); have n2_ := Aside0.mk ((by rw [hg]; exact (below_size (by repeat (first | (with_reducible first | exact HB.out | apply below_alloc | apply pw_below_drewN | apply below_drew1) | exact HB.out))) : w.heap.size ≤ gb554)); have n3_ := Aside0.mk ((by rw [hg]; exact (below_size (by repeat (first | (with_reducible first | exact HB.out | apply below_alloc | apply pw_below_drewN | apply below_drew1) | exact HB.out))) : w.heap.size ≤ gb554)); clear HB; have HB := n0_; have BK554 := n1_; have GW554 := n2_; have GE554 := n3_; clear n0_ n1_ n2_ n3_; clear hb hbox hg; have hcz6_0 : w5.cell? ⟨gb554, 0, none⟩ = some (.int .i64 a0_0) := (blk_cell BK554.out 0).trans rfl; have hcz6_1 : w5.cell? ⟨gb554, 1, none⟩ = some (.slice A0_1 l0_1.length c0_1) := (blk_cell BK554.out 1).trans rfl; have hfz6_0 := blk_frozen BK554.out 0; have hfz6_1 := blk_frozen BK554.out 1) | ((with_reducible refine gate_callee (f := 15) rfl ?_); refine goesL_ (some 18) rfl rfl Try.func15 (by kernel_rfl) rfl #[.agg #[.int .i64 a0_0, .slice A0_1 l0_1.length c0_1], .int .i64 1048576] rfl (by (try simp only [List.map_toArray, List.map_cons, List.map_nil]); first | done | rfl | (simp only [List.length_drop, List.length_take]; rfl)) ?_; (with_reducible refine (laws_szSystem.calls a0_0 _ _ l0_1 1048576 t555 _ ?side1 ?side2 A3.out).mono ?_); (case side1 => repeat (first | exact (Kd.C_below HR0_1.out HB.out) | (with_reducible refine Kd.C_alloc ?_ _) | (with_reducible refine Kd.C_drewN ?_ _) | (with_reducible refine Kd.C_drew ?_))); (case side2 => exact HC0_1.out); rintro e w7 ⟨rfl, hb⟩; refine ⟨_, rfl, ?_⟩; have n0_ := Aside0.mk (blk_below (g := gb554) (o := .cells #[.int .i64 a0_0, .slice A0_1 l0_1.length c0_1] 24 (0, 0)) (by (with_reducible repeat (first | refine blk_drewN ?_ _ | refine blk_drew ?_ | refine blk_alloc ?_ _)); exact BK554.out) hb); have n1_ := Aside0.mk (below_step (by repeat (first | (with_reducible first | exact HB.out | apply below_alloc | apply pw_below_drewN | apply below_drew1 | refine below_set ?_ GE554.out) | exact HB.out)) hb); clear BK554; clear HB; have BK554 := n0_; have HB := n1_; clear n0_ n1_; (try clear hb); (try clear hb2); (try clear hk); (try clear hi)))
    go_ret
    exact ⟨by first | rfl | (simp [errW_none, errW_some] <;> rfl) | (simp [*, errW_none, errW_some] <;> rfl), by repeat (first | (with_reducible first | exact HB.out | apply below_alloc | apply pw_below_drewN | apply below_drew1 | refine below_set ?_ GE554.out) | exact HB.out)⟩
  · rw [if_neg c4] at H
    have c4b0 : decide (t555 < 0) = false := decide_eq_false c4
    clear c4
    replace H := Option.bind_eq_some_iff.mp H
    obtain ⟨⟨t556, t557⟩, A80, H⟩ := H
    replace H : ((spec_RestrictSystem.f k t556 t557 a1).bind fun bt560 => ((laws_toSystem.f k a0_0 l0_1).bind fun bt566 => ((impl_RestrictSystem.f k bt566.1 bt566.2 a1).bind fun bt571 => ((laws_eqSystem.f k bt571.1 bt571.2.1 bt560.1 bt560.2.1).bind fun t577 => (if t577 = true then (laws_FnExactRestrictSystem.j0 k a1 bt560.2.2 bt571.2.2 (bt571.2.2 != bt560.2.2) a0_0 l0_1 bt560.1 bt560.2.1 bt566.1 bt566.2 bt571.1 bt571.2.1) else (laws_FnExactRestrictSystem.j0 k a1 bt560.2.2 bt571.2.2 true a0_0 l0_1 bt560.1 bt560.2.1 bt566.1 bt566.2 bt571.1 bt571.2.1)))))) = some r := H
    have A8 := Aside0.mk A80
    clear A80
    replace H := Option.bind_eq_some_iff.mp H
    obtain ⟨⟨t560, t561, t564⟩, A90, H⟩ := H
    replace H : ((laws_toSystem.f k a0_0 l0_1).bind fun bt566 => ((impl_RestrictSystem.f k bt566.1 bt566.2 a1).bind fun bt571 => ((laws_eqSystem.f k bt571.1 bt571.2.1 t560 t561).bind fun t577 => (if t577 = true then (laws_FnExactRestrictSystem.j0 k a1 t564 bt571.2.2 (bt571.2.2 != t564) a0_0 l0_1 t560 t561 bt566.1 bt566.2 bt571.1 bt571.2.1) else (laws_FnExactRestrictSystem.j0 k a1 t564 bt571.2.2 true a0_0 l0_1 t560 t561 bt566.1 bt566.2 bt571.1 bt571.2.1))))) = some r := H
    have A9 := Aside0.mk A90
    clear A90
    replace H := Option.bind_eq_some_iff.mp H
    obtain ⟨⟨t566, t567⟩, A100, H⟩ := H
    replace H : ((impl_RestrictSystem.f k t566 t567 a1).bind fun bt571 => ((laws_eqSystem.f k bt571.1 bt571.2.1 t560 t561).bind fun t577 => (if t577 = true then (laws_FnExactRestrictSystem.j0 k a1 t564 bt571.2.2 (bt571.2.2 != t564) a0_0 l0_1 t560 t561 t566 t567 bt571.1 bt571.2.1) else (laws_FnExactRestrictSystem.j0 k a1 t564 bt571.2.2 true a0_0 l0_1 t560 t561 t566 t567 bt571.1 bt571.2.1)))) = some r := H
    have A10 := Aside0.mk A100
    clear A100
    replace H := Option.bind_eq_some_iff.mp H
    obtain ⟨⟨t571, t572, t575⟩, A110, H⟩ := H
    replace H : ((laws_eqSystem.f k t571 t572 t560 t561).bind fun t577 => (if t577 = true then (laws_FnExactRestrictSystem.j0 k a1 t564 t575 (t575 != t564) a0_0 l0_1 t560 t561 t566 t567 t571 t572) else (laws_FnExactRestrictSystem.j0 k a1 t564 t575 true a0_0 l0_1 t560 t561 t566 t567 t571 t572))) = some r := H
    have A11 := Aside0.mk A110
    clear A110
    have HC12 := Aside0.mk H
    clear H
    go_enter Try.func11, Try.ntmps11
    go_upto_region 8 with (first | ((with_reducible refine gate_dst (N := 2) rfl ?_); refine box_event ?hg (N := 2) ?hd (cs := #[.int .i64 a0_0, .slice A0_1 l0_1.length c0_1]) (t := 24) ?hr ?_; (case hd => rfl); (case hg => rfl); (case hr => first | (go_simp; done) | (go_simp; rfl)); intro gb554 hg w13 hbox hb; have n0_ := Aside0.mk (below_step (by repeat (first | (with_reducible first | exact HB.out | apply below_alloc | apply pw_below_drewN | apply below_drew1) | exact HB.out)) hb); have n1_ := Aside0.mk (hbox); have n2_ := Aside0.mk ((by rw [hg]; exact (below_size (by repeat (first | (with_reducible first | exact HB.out | apply below_alloc | apply pw_below_drewN | apply below_drew1) | exact HB.out))) : w.heap.size ≤ gb554)); have n3_ := Aside0.mk ((by rw [hg]; exact (below_size (by repeat (first | (with_reducible first | exact HB.out | apply below_alloc | apply pw_below_drewN | apply below_drew1) | exact HB.out))) : w.heap.size ≤ gb554)); clear HB; have HB := n0_; have BK554 := n1_; have GW554 := n2_; have GE554 := n3_; clear n0_ n1_ n2_ n3_; clear hb hbox hg; have hcz14_0 : w13.cell? ⟨gb554, 0, none⟩ = some (.int .i64 a0_0) := (blk_cell BK554.out 0).trans rfl; have hcz14_1 : w13.cell? ⟨gb554, 1, none⟩ = some (.slice A0_1 l0_1.length c0_1) := (blk_cell BK554.out 1).trans rfl; have hfz14_0 := blk_frozen BK554.out 0; have hfz14_1 := blk_frozen BK554.out 1) | ((with_reducible refine gate_callee (f := 15) rfl ?_); refine goesL_ (some 18) rfl rfl Try.func15 (by kernel_rfl) rfl #[.agg #[.int .i64 a0_0, .slice A0_1 l0_1.length c0_1], .int .i64 1048576] rfl (by (try simp only [List.map_toArray, List.map_cons, List.map_nil]); first | done | rfl | (simp only [List.length_drop, List.length_take]; rfl)) ?_; (with_reducible refine (laws_szSystem.calls a0_0 _ _ l0_1 1048576 t555 _ ?side1 ?side2 A3.out).mono ?_); (case side1 => repeat (first | exact (Kd.C_below HR0_1.out HB.out) | (with_reducible refine Kd.C_alloc ?_ _) | (with_reducible refine Kd.C_drewN ?_ _) | (with_reducible refine Kd.C_drew ?_))); (case side2 => exact HC0_1.out); rintro e w15 ⟨rfl, hb⟩; refine ⟨_, rfl, ?_⟩; have n0_ := Aside0.mk (blk_below (g := gb554) (o := .cells #[.int .i64 a0_0, .slice A0_1 l0_1.length c0_1] 24 (0, 0)) (by (with_reducible repeat (first | refine blk_drewN ?_ _ | refine blk_drew ?_ | refine blk_alloc ?_ _)); exact BK554.out) hb); have n1_ := Aside0.mk (below_step (by repeat (first | (with_reducible first | exact HB.out | apply below_alloc | apply pw_below_drewN | apply below_drew1 | refine below_set ?_ GE554.out) | exact HB.out)) hb); clear BK554; clear HB; have BK554 := n0_; have HB := n1_; clear n0_ n1_; (try clear hb); (try clear hb2); (try clear hk); (try clear hi); have hcz16_0 : w15.cell? ⟨gb554, 0, none⟩ = some (.int .i64 a0_0) := (blk_cell BK554.out 0).trans rfl; have hcz16_1 : w15.cell? ⟨gb554, 1, none⟩ = some (.slice A0_1 l0_1.length c0_1) := (blk_cell BK554.out 1).trans rfl; have hfz16_0 := blk_frozen BK554.out 0; have hfz16_1 := blk_frozen BK554.out 1) | ((with_reducible refine gate_callee (f := 17) rfl ?_); refine goesL_ (some 23) rfl rfl Try.func17 (by kernel_rfl) rfl #[.agg #[.int .i64 a0_0, .slice A0_1 l0_1.length c0_1]] rfl (by (try simp only [List.map_toArray, List.map_cons, List.map_nil]); first | done | rfl | (simp only [List.length_drop, List.length_take]; rfl)) ?_; (with_reducible refine (laws_toSystem.calls k a0_0 _ _ l0_1 t556 t557 _ ?side1 ?side2 A8.out).mono ?_); (case side1 => repeat (first | exact (Kd.C_below HR0_1.out HB.out) | (with_reducible refine Kd.C_alloc ?_ _) | (with_reducible refine Kd.C_drewN ?_ _) | (with_reducible refine Kd.C_drew ?_))); (case side2 => exact HC0_1.out); rintro e w17 ⟨v558, rfl, ho0, hb⟩; refine ⟨_, rfl, ?_⟩; have n0_ := Aside0.mk (Kd.R_lower ho0 (below_size (by repeat (first | (with_reducible first | exact HB.out | apply below_alloc | apply pw_below_drewN | apply below_drew1 | refine below_set ?_ GE554.out) | exact HB.out)))); have n1_ := Aside0.mk (blk_below (g := gb554) (o := .cells #[.int .i64 a0_0, .slice A0_1 l0_1.length c0_1] 24 (0, 0)) (by (with_reducible repeat (first | refine blk_drewN ?_ _ | refine blk_drew ?_ | refine blk_alloc ?_ _)); exact BK554.out) hb); have n2_ := Aside0.mk (below_step (by repeat (first | (with_reducible first | exact HB.out | apply below_alloc | apply pw_below_drewN | apply below_drew1 | refine below_set ?_ GE554.out) | exact HB.out)) hb); clear BK554; clear HB; have HO559 := n0_; have BK554 := n1_; have HB := n2_; clear n0_ n1_ n2_; (try clear hb); (try clear hb2); (try clear hk); (try clear hi); (try clear ho0); obtain ⟨Ao18, co18, eo18⟩ := Kd.R_slice HO559.out; subst eo18) | ((with_reducible refine gate_callee (f := 48) rfl ?_); refine goesL_ (some 25) rfl rfl Try.func48 (by kernel_rfl) rfl #[.agg #[.int .i64 t556, .slice Ao18 t557.length co18], .int .i64 a1] rfl (by (try simp only [List.map_toArray, List.map_cons, List.map_nil]); first | done | rfl | (simp only [List.length_drop, List.length_take]; rfl)) ?_; (with_reducible refine (spec_RestrictSystem.calls k t556 _ _ t557 a1 t560 t561 t564 _ ?side1 ?side2 A9.out).mono ?_); (case side1 => repeat (first | exact (Kd.R_reads' HO559.out).2.2 | (with_reducible refine Kd.C_alloc ?_ _) | (with_reducible refine Kd.C_drewN ?_ _) | (with_reducible refine Kd.C_drew ?_))); (case side2 => exact (Kd.R_reads' HO559.out).2.1); rintro e w19 ⟨v562, rfl, ho0, hb⟩; refine ⟨_, rfl, ?_⟩; have n0_ := Aside0.mk (Kd.R_elder' (by (with_reducible repeat (first | apply Kd.R_alloc | apply Kd.R_drewN | apply Kd.R_drew)); exact HO559.out) (Kd.R_base ho0) hb); have n1_ := Aside0.mk (Kd.R_lower (Kd.R_new' ho0 (Kd.R_lt (by (with_reducible repeat (first | apply Kd.R_alloc | apply Kd.R_drewN | apply Kd.R_drew)); exact HO559.out))) (below_size (by repeat (first | (with_reducible first | exact HB.out | apply below_alloc | apply pw_below_drewN | apply below_drew1 | refine below_set ?_ GE554.out) | exact HB.out)))); have n2_ := Aside0.mk (blk_below (g := gb554) (o := .cells #[.int .i64 a0_0, .slice A0_1 l0_1.length c0_1] 24 (0, 0)) (by (with_reducible repeat (first | refine blk_drewN ?_ _ | refine blk_drew ?_ | refine blk_alloc ?_ _)); exact BK554.out) hb); have n3_ := Aside0.mk (below_step (by repeat (first | (with_reducible first | exact HB.out | apply below_alloc | apply pw_below_drewN | apply below_drew1 | refine below_set ?_ GE554.out) | exact HB.out)) hb); clear HO559; clear BK554; clear HB; have HO559 := n0_; have HO563 := n1_; have BK554 := n2_; have HB := n3_; clear n0_ n1_ n2_ n3_; (try clear hb); (try clear hb2); (try clear hk); (try clear hi); (try clear ho0)) | ((with_reducible refine gate_dst (N := 6) rfl ?_); refine box_event ?hg (N := 6) ?hd (cs := #[.int .i64 0, .slice none 0 0]) (t := 27) ?hr ?_; (case hd => rfl); (case hg => rfl); (case hr => first | (go_simp; done) | (go_simp; rfl)); intro gb565 hg w20 hbox hb; have n0_ := Aside0.mk (Kd.R_below (by (with_reducible repeat (first | apply Kd.R_alloc | apply Kd.R_drewN | apply Kd.R_drew)); exact HO559.out) hb); have n1_ := Aside0.mk (Kd.R_below (by (with_reducible repeat (first | apply Kd.R_alloc | apply Kd.R_drewN | apply Kd.R_drew)); exact HO563.out) hb); have n2_ := Aside0.mk (blk_below (g := gb554) (o := .cells #[.int .i64 a0_0, .slice A0_1 l0_1.length c0_1] 24 (0, 0)) (by (with_reducible repeat (first | refine blk_drewN ?_ _ | refine blk_drew ?_ | refine blk_alloc ?_ _)); exact BK554.out) hb); have n3_ := Aside0.mk (below_step (by repeat (first | (with_reducible first | exact HB.out | apply below_alloc | apply pw_below_drewN | apply below_drew1 | refine below_set ?_ GE554.out) | exact HB.out)) hb); have n4_ := Aside0.mk (hbox); have n5_ := Aside0.mk ((by rw [hg]; exact (below_size (by repeat (first | (with_reducible first | exact HB.out | apply below_alloc | apply pw_below_drewN | apply below_drew1 | refine below_set ?_ GE554.out) | exact HB.out))) : w.heap.size ≤ gb565)); have n6_ := Aside0.mk ((by rw [hg]; exact (below_size (by repeat (first | (with_reducible first | exact HB.out | apply below_alloc | apply pw_below_drewN | apply below_drew1 | refine below_set ?_ GE554.out) | exact HB.out))) : w.heap.size ≤ gb565)); have n7_ := Aside0.mk ((by rw [hg]; exact Nat.ne_of_lt (blk_lt (g := gb554) (o := .cells #[.int .i64 a0_0, .slice A0_1 l0_1.length c0_1] 24 (0, 0)) (by (with_reducible repeat (first | refine blk_drewN ?_ _ | refine blk_drew ?_ | refine blk_alloc ?_ _)); exact BK554.out)) : gb554 ≠ gb565)); have n8_ := Aside0.mk ((by rw [hg]; exact Nat.ne_of_gt (blk_lt (g := gb554) (o := .cells #[.int .i64 a0_0, .slice A0_1 l0_1.length c0_1] 24 (0, 0)) (by (with_reducible repeat (first | refine blk_drewN ?_ _ | refine blk_drew ?_ | refine blk_alloc ?_ _)); exact BK554.out)) : gb565 ≠ gb554)); clear HO559; clear HO563; clear BK554; clear HB; have HO559 := n0_; have HO563 := n1_; have BK554 := n2_; have HB := n3_; have BK565 := n4_; have GW565 := n5_; have GE565 := n6_; have NB554_565 := n7_; have NB565_554 := n8_; clear n0_ n1_ n2_ n3_ n4_ n5_ n6_ n7_ n8_; clear hb hbox hg; have hnb21 := NB565_554.out; have hnc21 := NB554_565.out; have hcz22_0 : w20.cell? ⟨gb565, 0, none⟩ = some (.int .i64 0) := (blk_cell BK565.out 0).trans rfl; have hcz22_1 : w20.cell? ⟨gb565, 1, none⟩ = some (.slice none 0 0) := (blk_cell BK565.out 1).trans rfl; have hfz22_0 := blk_frozen BK565.out 0; have hfz22_1 := blk_frozen BK565.out 1; obtain ⟨Ao23, co23, eo23⟩ := Kd.R_slice HO563.out; subst eo23; have hcz24_0 : w20.cell? ⟨gb554, 0, none⟩ = some (.int .i64 a0_0) := (blk_cell BK554.out 0).trans rfl; have hcz24_1 : w20.cell? ⟨gb554, 1, none⟩ = some (.slice A0_1 l0_1.length c0_1) := (blk_cell BK554.out 1).trans rfl; have hfz24_0 := blk_frozen BK554.out 0; have hfz24_1 := blk_frozen BK554.out 1) | ((with_reducible refine gate_callee (f := 17) rfl ?_); refine goesL_ (some 29) rfl rfl Try.func17 (by kernel_rfl) rfl #[.agg #[.int .i64 a0_0, .slice A0_1 l0_1.length c0_1]] rfl (by (try simp only [List.map_toArray, List.map_cons, List.map_nil]); first | done | rfl | (simp only [List.length_drop, List.length_take]; rfl)) ?_; (with_reducible refine (laws_toSystem.calls k a0_0 _ _ l0_1 t566 t567 _ ?side1 ?side2 A10.out).mono ?_); (case side1 => exact Kd.C_below HR0_1.out (by repeat (first | (with_reducible first | exact HB.out | apply below_alloc | apply pw_below_drewN | apply below_drew1 | refine below_set ?_ GE554.out | refine below_set ?_ GE565.out) | exact HB.out))); (case side2 => exact HC0_1.out); rintro e w25 ⟨v568, rfl, ho0, hb⟩; refine ⟨_, rfl, ?_⟩; have n0_ := Aside0.mk (Kd.R_elder' (by (with_reducible repeat (first | apply Kd.R_alloc | apply Kd.R_drewN | apply Kd.R_drew)); exact (Kd.R_mono (Kd.R_far (p := ⟨gb565, 1, none⟩) (Kd.R_far (p := ⟨gb565, 0, none⟩) (Kd.R_types HO559.out BK565.out (by decide)) (fun _ hk => hk.2) (.int .i64 t560)) (fun _ hk => hk.2) (.slice Ao23 t561.length co23)) (fun _ h_ => h_.1))) (Kd.R_base ho0) hb); have n1_ := Aside0.mk (Kd.R_elder' (by (with_reducible repeat (first | apply Kd.R_alloc | apply Kd.R_drewN | apply Kd.R_drew)); exact (Kd.R_mono (Kd.R_far (p := ⟨gb565, 1, none⟩) (Kd.R_far (p := ⟨gb565, 0, none⟩) (Kd.R_types HO563.out BK565.out (by decide)) (fun _ hk => hk.2) (.int .i64 t560)) (fun _ hk => hk.2) (.slice Ao23 t561.length co23)) (fun _ h_ => h_.1))) (Kd.R_base ho0) hb); have n2_ := Aside0.mk (Kd.R_lower (Kd.R_new' (Kd.R_new' ho0 (Kd.R_lt (by (with_reducible repeat (first | apply Kd.R_alloc | apply Kd.R_drewN | apply Kd.R_drew)); exact (Kd.R_mono (Kd.R_far (p := ⟨gb565, 1, none⟩) (Kd.R_far (p := ⟨gb565, 0, none⟩) (Kd.R_types HO559.out BK565.out (by decide)) (fun _ hk => hk.2) (.int .i64 t560)) (fun _ hk => hk.2) (.slice Ao23 t561.length co23)) (fun _ h_ => h_.1))))) (Kd.R_lt (by (with_reducible repeat (first | apply Kd.R_alloc | apply Kd.R_drewN | apply Kd.R_drew)); exact (Kd.R_mono (Kd.R_far (p := ⟨gb565, 1, none⟩) (Kd.R_far (p := ⟨gb565, 0, none⟩) (Kd.R_types HO563.out BK565.out (by decide)) (fun _ hk => hk.2) (.int .i64 t560)) (fun _ hk => hk.2) (.slice Ao23 t561.length co23)) (fun _ h_ => h_.1))))) (below_size (by repeat (first | (with_reducible first | exact HB.out | apply below_alloc | apply pw_below_drewN | apply below_drew1 | refine below_set ?_ GE554.out | refine below_set ?_ GE565.out) | exact HB.out)))); have n3_ := Aside0.mk (blk_below (g := gb554) (o := .cells #[.int .i64 a0_0, .slice A0_1 l0_1.length c0_1] 24 (0, 0)) (by (with_reducible repeat (first | refine blk_drewN ?_ _ | refine blk_drew ?_ | refine blk_alloc ?_ _)); refine blk_far ?_ NB554_565.out _; (with_reducible repeat (first | refine blk_drewN ?_ _ | refine blk_drew ?_ | refine blk_alloc ?_ _)); refine blk_far ?_ NB554_565.out _; (with_reducible repeat (first | refine blk_drewN ?_ _ | refine blk_drew ?_ | refine blk_alloc ?_ _)); exact BK554.out) hb); have n4_ := Aside0.mk (blk_below (g := gb565) (o := .cells #[.int .i64 t560, .slice Ao23 t561.length co23] 27 (0, 0)) (by (with_reducible repeat (first | refine blk_drewN ?_ _ | refine blk_drew ?_ | refine blk_alloc ?_ _)); refine blk_put (cs := #[.int .i64 t560, .slice none 0 0]) ?_ 1 _ rfl; (with_reducible repeat (first | refine blk_drewN ?_ _ | refine blk_drew ?_ | refine blk_alloc ?_ _)); refine blk_put (cs := #[.int .i64 0, .slice none 0 0]) ?_ 0 _ rfl; (with_reducible repeat (first | refine blk_drewN ?_ _ | refine blk_drew ?_ | refine blk_alloc ?_ _)); exact BK565.out) hb); have n5_ := Aside0.mk (below_step (by repeat (first | (with_reducible first | exact HB.out | apply below_alloc | apply pw_below_drewN | apply below_drew1 | refine below_set ?_ GE554.out | refine below_set ?_ GE565.out) | exact HB.out)) hb); clear HO559; clear HO563; clear BK554; clear BK565; clear HB; have HO559 := n0_; have HO563 := n1_; have HO569 := n2_; have BK554 := n3_; have BK565 := n4_; have HB := n5_; clear n0_ n1_ n2_ n3_ n4_ n5_; (try clear hb); (try clear hb2); (try clear hk); (try clear hi); (try clear ho0)) | ((with_reducible refine gate_dst (N := 8) rfl ?_); refine box_event ?hg (N := 8) ?hd (cs := #[.int .i64 0, .slice none 0 0]) (t := 27) ?hr ?_; (case hd => rfl); (case hg => rfl); (case hr => first | (go_simp; done) | (go_simp; rfl)); intro gb570 hg w26 hbox hb; have n0_ := Aside0.mk (Kd.R_below (by (with_reducible repeat (first | apply Kd.R_alloc | apply Kd.R_drewN | apply Kd.R_drew)); exact HO559.out) hb); have n1_ := Aside0.mk (Kd.R_below (by (with_reducible repeat (first | apply Kd.R_alloc | apply Kd.R_drewN | apply Kd.R_drew)); exact HO563.out) hb); have n2_ := Aside0.mk (Kd.R_below (by (with_reducible repeat (first | apply Kd.R_alloc | apply Kd.R_drewN | apply Kd.R_drew)); exact HO569.out) hb); have n3_ := Aside0.mk (blk_below (g := gb554) (o := .cells #[.int .i64 a0_0, .slice A0_1 l0_1.length c0_1] 24 (0, 0)) (by (with_reducible repeat (first | refine blk_drewN ?_ _ | refine blk_drew ?_ | refine blk_alloc ?_ _)); exact BK554.out) hb); have n4_ := Aside0.mk (blk_below (g := gb565) (o := .cells #[.int .i64 t560, .slice Ao23 t561.length co23] 27 (0, 0)) (by (with_reducible repeat (first | refine blk_drewN ?_ _ | refine blk_drew ?_ | refine blk_alloc ?_ _)); exact BK565.out) hb); have n5_ := Aside0.mk (below_step (by repeat (first | (with_reducible first | exact HB.out | apply below_alloc | apply pw_below_drewN | apply below_drew1 | refine below_set ?_ GE554.out | refine below_set ?_ GE565.out) | exact HB.out)) hb); have n6_ := Aside0.mk (hbox); have n7_ := Aside0.mk ((by rw [hg]; exact (below_size (by repeat (first | (with_reducible first | exact HB.out | apply below_alloc | apply pw_below_drewN | apply below_drew1 | refine below_set ?_ GE554.out | refine below_set ?_ GE565.out) | exact HB.out))) : w.heap.size ≤ gb570)); have n8_ := Aside0.mk ((by rw [hg]; exact (below_size (by repeat (first | (with_reducible first | exact HB.out | apply below_alloc | apply pw_below_drewN | apply below_drew1 | refine below_set ?_ GE554.out | refine below_set ?_ GE565.out) | exact HB.out))) : w.heap.size ≤ gb570)); have n9_ := Aside0.mk ((by rw [hg]; exact Nat.ne_of_lt (blk_lt (g := gb554) (o := .cells #[.int .i64 a0_0, .slice A0_1 l0_1.length c0_1] 24 (0, 0)) (by (with_reducible repeat (first | refine blk_drewN ?_ _ | refine blk_drew ?_ | refine blk_alloc ?_ _)); exact BK554.out)) : gb554 ≠ gb570)); have n10_ := Aside0.mk ((by rw [hg]; exact Nat.ne_of_gt (blk_lt (g := gb554) (o := .cells #[.int .i64 a0_0, .slice A0_1 l0_1.length c0_1] 24 (0, 0)) (by (with_reducible repeat (first | refine blk_drewN ?_ _ | refine blk_drew ?_ | refine blk_alloc ?_ _)); exact BK554.out)) : gb570 ≠ gb554)); have n11_ := Aside0.mk ((by rw [hg]; exact Nat.ne_of_lt (blk_lt (g := gb565) (o := .cells #[.int .i64 t560, .slice Ao23 t561.length co23] 27 (0, 0)) (by (with_reducible repeat (first | refine blk_drewN ?_ _ | refine blk_drew ?_ | refine blk_alloc ?_ _)); exact BK565.out)) : gb565 ≠ gb570)); have n12_ := Aside0.mk ((by rw [hg]; exact Nat.ne_of_gt (blk_lt (g := gb565) (o := .cells #[.int .i64 t560, .slice Ao23 t561.length co23] 27 (0, 0)) (by (with_reducible repeat (first | refine blk_drewN ?_ _ | refine blk_drew ?_ | refine blk_alloc ?_ _)); exact BK565.out)) : gb570 ≠ gb565)); clear HO559; clear HO563; clear HO569; clear BK554; clear BK565; clear HB; have HO559 := n0_; have HO563 := n1_; have HO569 := n2_; have BK554 := n3_; have BK565 := n4_; have HB := n5_; have BK570 := n6_; have GW570 := n7_; have GE570 := n8_; have NB554_570 := n9_; have NB570_554 := n10_; have NB565_570 := n11_; have NB570_565 := n12_; clear n0_ n1_ n2_ n3_ n4_ n5_ n6_ n7_ n8_ n9_ n10_ n11_ n12_; clear hb hbox hg; have hnb27 := NB570_554.out; have hnc27 := NB554_570.out; have hnb28 := NB570_565.out; have hnc28 := NB565_570.out; have hcz29_0 : w26.cell? ⟨gb570, 0, none⟩ = some (.int .i64 0) := (blk_cell BK570.out 0).trans rfl; have hcz29_1 : w26.cell? ⟨gb570, 1, none⟩ = some (.slice none 0 0) := (blk_cell BK570.out 1).trans rfl; have hfz29_0 := blk_frozen BK570.out 0; have hfz29_1 := blk_frozen BK570.out 1; obtain ⟨Ao30, co30, eo30⟩ := Kd.R_slice HO569.out; subst eo30) | ((with_reducible refine gate_callee (f := 46) rfl ?_); refine goesL_ (some 33) rfl rfl Try.func46 (by kernel_rfl) rfl #[.agg #[.int .i64 t566, .slice Ao30 t567.length co30], .int .i64 a1] rfl (by (try simp only [List.map_toArray, List.map_cons, List.map_nil]); first | done | rfl | (simp only [List.length_drop, List.length_take]; rfl)) ?_; (with_reducible refine (impl_RestrictSystem.calls k t566 _ _ t567 a1 t571 t572 t575 _ ?side1 ?side2 A11.out).mono ?_); (case side1 => refine (Kd.R_reads' (e := 2) (base := w.heap.size) (ok := fun k_ => ((True ∧ some k_ ≠ (.slice Ao18 t557.length co18 : Value).ownBlock) ∧ some k_ ≠ (.slice Ao23 t561.length co23 : Value).ownBlock)) (n := t567.length) (c := co30) ?_).2.2; exact (by (with_reducible repeat (first | apply Kd.R_alloc | apply Kd.R_drewN | apply Kd.R_drew)); exact (Kd.R_mono (Kd.R_far (p := ⟨gb570, 1, none⟩) (Kd.R_far (p := ⟨gb570, 0, none⟩) (Kd.R_types HO569.out BK570.out (by decide)) (fun _ hk => hk.2) (.int .i64 t566)) (fun _ hk => hk.2) (.slice Ao30 t567.length co30)) (fun _ h_ => h_.1)))); (case side2 => exact (Kd.R_reads' HO569.out).2.1); rintro e w31 ⟨v573, rfl, ho0, hb⟩; refine ⟨_, rfl, ?_⟩; have n0_ := Aside0.mk (Kd.R_elder' (by (with_reducible repeat (first | apply Kd.R_alloc | apply Kd.R_drewN | apply Kd.R_drew)); exact (Kd.R_mono (Kd.R_far (p := ⟨gb570, 1, none⟩) (Kd.R_far (p := ⟨gb570, 0, none⟩) (Kd.R_types HO559.out BK570.out (by decide)) (fun _ hk => hk.2) (.int .i64 t566)) (fun _ hk => hk.2) (.slice Ao30 t567.length co30)) (fun _ h_ => h_.1))) (Kd.R_base ho0) hb); have n1_ := Aside0.mk (Kd.R_elder' (by (with_reducible repeat (first | apply Kd.R_alloc | apply Kd.R_drewN | apply Kd.R_drew)); exact (Kd.R_mono (Kd.R_far (p := ⟨gb570, 1, none⟩) (Kd.R_far (p := ⟨gb570, 0, none⟩) (Kd.R_types HO563.out BK570.out (by decide)) (fun _ hk => hk.2) (.int .i64 t566)) (fun _ hk => hk.2) (.slice Ao30 t567.length co30)) (fun _ h_ => h_.1))) (Kd.R_base ho0) hb); have n2_ := Aside0.mk (Kd.R_elder' (by (with_reducible repeat (first | apply Kd.R_alloc | apply Kd.R_drewN | apply Kd.R_drew)); exact (Kd.R_mono (Kd.R_far (p := ⟨gb570, 1, none⟩) (Kd.R_far (p := ⟨gb570, 0, none⟩) (Kd.R_types HO569.out BK570.out (by decide)) (fun _ hk => hk.2) (.int .i64 t566)) (fun _ hk => hk.2) (.slice Ao30 t567.length co30)) (fun _ h_ => h_.1))) (Kd.R_base ho0) hb); have n3_ := Aside0.mk (Kd.R_lower (Kd.R_new' (Kd.R_new' (Kd.R_new' ho0 (Kd.R_lt (by (with_reducible repeat (first | apply Kd.R_alloc | apply Kd.R_drewN | apply Kd.R_drew)); exact (Kd.R_mono (Kd.R_far (p := ⟨gb570, 1, none⟩) (Kd.R_far (p := ⟨gb570, 0, none⟩) (Kd.R_types HO559.out BK570.out (by decide)) (fun _ hk => hk.2) (.int .i64 t566)) (fun _ hk => hk.2) (.slice Ao30 t567.length co30)) (fun _ h_ => h_.1))))) (Kd.R_lt (by (with_reducible repeat (first | apply Kd.R_alloc | apply Kd.R_drewN | apply Kd.R_drew)); exact (Kd.R_mono (Kd.R_far (p := ⟨gb570, 1, none⟩) (Kd.R_far (p := ⟨gb570, 0, none⟩) (Kd.R_types HO563.out BK570.out (by decide)) (fun _ hk => hk.2) (.int .i64 t566)) (fun _ hk => hk.2) (.slice Ao30 t567.length co30)) (fun _ h_ => h_.1))))) (Kd.R_lt (by (with_reducible repeat (first | apply Kd.R_alloc | apply Kd.R_drewN | apply Kd.R_drew)); exact (Kd.R_mono (Kd.R_far (p := ⟨gb570, 1, none⟩) (Kd.R_far (p := ⟨gb570, 0, none⟩) (Kd.R_types HO569.out BK570.out (by decide)) (fun _ hk => hk.2) (.int .i64 t566)) (fun _ hk => hk.2) (.slice Ao30 t567.length co30)) (fun _ h_ => h_.1))))) (below_size (by repeat (first | (with_reducible first | exact HB.out | apply below_alloc | apply pw_below_drewN | apply below_drew1 | refine below_set ?_ GE554.out | refine below_set ?_ GE565.out | refine below_set ?_ GE570.out) | exact HB.out)))); have n4_ := Aside0.mk (blk_below (g := gb554) (o := .cells #[.int .i64 a0_0, .slice A0_1 l0_1.length c0_1] 24 (0, 0)) (by (with_reducible repeat (first | refine blk_drewN ?_ _ | refine blk_drew ?_ | refine blk_alloc ?_ _)); refine blk_far ?_ NB554_570.out _; (with_reducible repeat (first | refine blk_drewN ?_ _ | refine blk_drew ?_ | refine blk_alloc ?_ _)); refine blk_far ?_ NB554_570.out _; (with_reducible repeat (first | refine blk_drewN ?_ _ | refine blk_drew ?_ | refine blk_alloc ?_ _)); exact BK554.out) hb); have n5_ := Aside0.mk (blk_below (g := gb565) (o := .cells #[.int .i64 t560, .slice Ao23 t561.length co23] 27 (0, 0)) (by (with_reducible repeat (first | refine blk_drewN ?_ _ | refine blk_drew ?_ | refine blk_alloc ?_ _)); refine blk_far ?_ NB565_570.out _; (with_reducible repeat (first | refine blk_drewN ?_ _ | refine blk_drew ?_ | refine blk_alloc ?_ _)); refine blk_far ?_ NB565_570.out _; (with_reducible repeat (first | refine blk_drewN ?_ _ | refine blk_drew ?_ | refine blk_alloc ?_ _)); exact BK565.out) hb); have n6_ := Aside0.mk (blk_below (g := gb570) (o := .cells #[.int .i64 t566, .slice Ao30 t567.length co30] 27 (0, 0)) (by (with_reducible repeat (first | refine blk_drewN ?_ _ | refine blk_drew ?_ | refine blk_alloc ?_ _)); refine blk_put (cs := #[.int .i64 t566, .slice none 0 0]) ?_ 1 _ rfl; (with_reducible repeat (first | refine blk_drewN ?_ _ | refine blk_drew ?_ | refine blk_alloc ?_ _)); refine blk_put (cs := #[.int .i64 0, .slice none 0 0]) ?_ 0 _ rfl; (with_reducible repeat (first | refine blk_drewN ?_ _ | refine blk_drew ?_ | refine blk_alloc ?_ _)); exact BK570.out) hb); have n7_ := Aside0.mk (below_step (by repeat (first | (with_reducible first | exact HB.out | apply below_alloc | apply pw_below_drewN | apply below_drew1 | refine below_set ?_ GE554.out | refine below_set ?_ GE565.out | refine below_set ?_ GE570.out) | exact HB.out)) hb); clear HO559; clear HO563; clear HO569; clear BK554; clear BK565; clear BK570; clear HB; have HO559 := n0_; have HO563 := n1_; have HO569 := n2_; have HO574 := n3_; have BK554 := n4_; have BK565 := n5_; have BK570 := n6_; have HB := n7_; clear n0_ n1_ n2_ n3_ n4_ n5_ n6_ n7_; (try clear hb); (try clear hb2); (try clear hk); (try clear hi); (try clear ho0)) | ((with_reducible refine gate_dst (N := 9) rfl ?_); refine box_event ?hg (N := 9) ?hd (cs := #[.int .i64 0, .slice none 0 0]) (t := 27) ?hr ?_; (case hd => rfl); (case hg => rfl); (case hr => first | (go_simp; done) | (go_simp; rfl)); intro gb576 hg w32 hbox hb; have n0_ := Aside0.mk (Kd.R_below (by (with_reducible repeat (first | apply Kd.R_alloc | apply Kd.R_drewN | apply Kd.R_drew)); exact HO559.out) hb); have n1_ := Aside0.mk (Kd.R_below (by (with_reducible repeat (first | apply Kd.R_alloc | apply Kd.R_drewN | apply Kd.R_drew)); exact HO563.out) hb); have n2_ := Aside0.mk (Kd.R_below (by (with_reducible repeat (first | apply Kd.R_alloc | apply Kd.R_drewN | apply Kd.R_drew)); exact HO569.out) hb); have n3_ := Aside0.mk (Kd.R_below (by (with_reducible repeat (first | apply Kd.R_alloc | apply Kd.R_drewN | apply Kd.R_drew)); exact HO574.out) hb); have n4_ := Aside0.mk (blk_below (g := gb554) (o := .cells #[.int .i64 a0_0, .slice A0_1 l0_1.length c0_1] 24 (0, 0)) (by (with_reducible repeat (first | refine blk_drewN ?_ _ | refine blk_drew ?_ | refine blk_alloc ?_ _)); exact BK554.out) hb); have n5_ := Aside0.mk (blk_below (g := gb565) (o := .cells #[.int .i64 t560, .slice Ao23 t561.length co23] 27 (0, 0)) (by (with_reducible repeat (first | refine blk_drewN ?_ _ | refine blk_drew ?_ | refine blk_alloc ?_ _)); exact BK565.out) hb); have n6_ := Aside0.mk (blk_below (g := gb570) (o := .cells #[.int .i64 t566, .slice Ao30 t567.length co30] 27 (0, 0)) (by (with_reducible repeat (first | refine blk_drewN ?_ _ | refine blk_drew ?_ | refine blk_alloc ?_ _)); exact BK570.out) hb); have n7_ := Aside0.mk (below_step (by repeat (first | (with_reducible first | exact HB.out | apply below_alloc | apply pw_below_drewN | apply below_drew1 | refine below_set ?_ GE554.out | refine below_set ?_ GE565.out | refine below_set ?_ GE570.out) | exact HB.out)) hb); have n8_ := Aside0.mk (hbox); have n9_ := Aside0.mk ((by rw [hg]; exact (below_size (by repeat (first | (with_reducible first | exact HB.out | apply below_alloc | apply pw_below_drewN | apply below_drew1 | refine below_set ?_ GE554.out | refine below_set ?_ GE565.out | refine below_set ?_ GE570.out) | exact HB.out))) : w.heap.size ≤ gb576)); have n10_ := Aside0.mk ((by rw [hg]; exact (below_size (by repeat (first | (with_reducible first | exact HB.out | apply below_alloc | apply pw_below_drewN | apply below_drew1 | refine below_set ?_ GE554.out | refine below_set ?_ GE565.out | refine below_set ?_ GE570.out) | exact HB.out))) : w.heap.size ≤ gb576)); have n11_ := Aside0.mk ((by rw [hg]; exact Nat.ne_of_lt (blk_lt (g := gb554) (o := .cells #[.int .i64 a0_0, .slice A0_1 l0_1.length c0_1] 24 (0, 0)) (by (with_reducible repeat (first | refine blk_drewN ?_ _ | refine blk_drew ?_ | refine blk_alloc ?_ _)); exact BK554.out)) : gb554 ≠ gb576)); have n12_ := Aside0.mk ((by rw [hg]; exact Nat.ne_of_gt (blk_lt (g := gb554) (o := .cells #[.int .i64 a0_0, .slice A0_1 l0_1.length c0_1] 24 (0, 0)) (by (with_reducible repeat (first | refine blk_drewN ?_ _ | refine blk_drew ?_ | refine blk_alloc ?_ _)); exact BK554.out)) : gb576 ≠ gb554)); have n13_ := Aside0.mk ((by rw [hg]; exact Nat.ne_of_lt (blk_lt (g := gb565) (o := .cells #[.int .i64 t560, .slice Ao23 t561.length co23] 27 (0, 0)) (by (with_reducible repeat (first | refine blk_drewN ?_ _ | refine blk_drew ?_ | refine blk_alloc ?_ _)); exact BK565.out)) : gb565 ≠ gb576)); have n14_ := Aside0.mk ((by rw [hg]; exact Nat.ne_of_gt (blk_lt (g := gb565) (o := .cells #[.int .i64 t560, .slice Ao23 t561.length co23] 27 (0, 0)) (by (with_reducible repeat (first | refine blk_drewN ?_ _ | refine blk_drew ?_ | refine blk_alloc ?_ _)); exact BK565.out)) : gb576 ≠ gb565)); have n15_ := Aside0.mk ((by rw [hg]; exact Nat.ne_of_lt (blk_lt (g := gb570) (o := .cells #[.int .i64 t566, .slice Ao30 t567.length co30] 27 (0, 0)) (by (with_reducible repeat (first | refine blk_drewN ?_ _ | refine blk_drew ?_ | refine blk_alloc ?_ _)); exact BK570.out)) : gb570 ≠ gb576)); have n16_ := Aside0.mk ((by rw [hg]; exact Nat.ne_of_gt (blk_lt (g := gb570) (o := .cells #[.int .i64 t566, .slice Ao30 t567.length co30] 27 (0, 0)) (by (with_reducible repeat (first | refine blk_drewN ?_ _ | refine blk_drew ?_ | refine blk_alloc ?_ _)); exact BK570.out)) : gb576 ≠ gb570)); clear HO559; clear HO563; clear HO569; clear HO574; clear BK554; clear BK565; clear BK570; clear HB; have HO559 := n0_; have HO563 := n1_; have HO569 := n2_; have HO574 := n3_; have BK554 := n4_; have BK565 := n5_; have BK570 := n6_; have HB := n7_; have BK576 := n8_; have GW576 := n9_; have GE576 := n10_; have NB554_576 := n11_; have NB576_554 := n12_; have NB565_576 := n13_; have NB576_565 := n14_; have NB570_576 := n15_; have NB576_570 := n16_; clear n0_ n1_ n2_ n3_ n4_ n5_ n6_ n7_ n8_ n9_ n10_ n11_ n12_ n13_ n14_ n15_ n16_; clear hb hbox hg; have hnb33 := NB576_554.out; have hnc33 := NB554_576.out; have hnb34 := NB576_565.out; have hnc34 := NB565_576.out; have hnb35 := NB576_570.out; have hnc35 := NB570_576.out; have hcz36_0 : w32.cell? ⟨gb576, 0, none⟩ = some (.int .i64 0) := (blk_cell BK576.out 0).trans rfl; have hcz36_1 : w32.cell? ⟨gb576, 1, none⟩ = some (.slice none 0 0) := (blk_cell BK576.out 1).trans rfl; have hfz36_0 := blk_frozen BK576.out 0; have hfz36_1 := blk_frozen BK576.out 1; obtain ⟨Ao37, co37, eo37⟩ := Kd.R_slice HO574.out; subst eo37))
    (try simp only [Act.put, List.setIfInBounds_toArray, List.set_cons_zero, List.set_cons_succ])
    go_cut [44] (fun v44 wc => ∃ (kq : Nat) (x44_11 : Bool), v44 = .bool x44_11 ∧ Aside0 (laws_FnExactRestrictSystem.j0 kq a1 t564 t575 x44_11 a0_0 l0_1 t560 t561 t566 t567 t571 t572 = some r) ∧ Aside0 (kq ≤ k) ∧ Aside0 (Kd.R (Kd.int .i64) 2 wc w.heap.size (fun k_ => some k_ ≠ ((.slice Ao30 t567.length co30) : Value).ownBlock ∧ some k_ ≠ ((.slice Ao37 t572.length co37) : Value).ownBlock) (.slice Ao23 t561.length co23) t561) ∧ Aside0 (Kd.R (Kd.int .i64) 2 wc w.heap.size (fun k_ => some k_ ≠ ((.slice Ao23 t561.length co23) : Value).ownBlock ∧ some k_ ≠ ((.slice Ao37 t572.length co37) : Value).ownBlock) (.slice Ao30 t567.length co30) t567) ∧ Aside0 (Kd.R (Kd.int .i64) 2 wc w.heap.size (fun k_ => some k_ ≠ ((.slice Ao23 t561.length co23) : Value).ownBlock ∧ some k_ ≠ ((.slice Ao30 t567.length co30) : Value).ownBlock) (.slice Ao37 t572.length co37) t572) ∧ Aside0 (wc.heap[gb554]? = some (.cells #[.int .i64 a0_0, (.slice A0_1 l0_1.length c0_1)] 24 (0, 0))) ∧ Aside0 (wc.heap[gb565]? = some (.cells #[.int .i64 t560, (.slice Ao23 t561.length co23)] 27 (0, 0))) ∧ Aside0 (wc.heap[gb570]? = some (.cells #[.int .i64 t566, (.slice Ao30 t567.length co30)] 27 (0, 0))) ∧ Aside0 (wc.heap[gb576]? = some (.cells #[.int .i64 t571, (.slice Ao37 t572.length co37)] 27 (0, 0))) ∧ Aside0 (Below w.heap.size w wc))
    case first =>
      have H := HC12.out
      clear HC12
      replace H := Option.bind_eq_some_iff.mp H
      obtain ⟨t577, A380, H⟩ := H
      replace H : (if t577 = true then (laws_FnExactRestrictSystem.j0 k a1 t564 t575 (t575 != t564) a0_0 l0_1 t560 t561 t566 t567 t571 t572) else (laws_FnExactRestrictSystem.j0 k a1 t564 t575 true a0_0 l0_1 t560 t561 t566 t567 t571 t572)) = some r := H
      have A38 := Aside0.mk A380
      clear A380
      by_cases c39 : t577 = true
      · subst c39
        have H1 : (laws_FnExactRestrictSystem.j0 k a1 t564 t575 (t575 != t564) a0_0 l0_1 t560 t561 t566 t567 t571 t572) = some r := by rw [if_pos rfl] at H; exact H
        clear H
        have H := H1
        clear H1
        have H' := Aside0.mk H
        clear H
        have hnb40 := NB576_554.out
        have hnc40 := NB554_576.out
        have hnb41 := NB576_565.out
        have hnc41 := NB565_576.out
        have hnb42 := NB576_570.out
        have hnc42 := NB570_576.out
        have hcz43_0 : w32.cell? ⟨gb576, 0, none⟩ = some (.int .i64 0) := (blk_cell BK576.out 0).trans rfl
        have hcz43_1 : w32.cell? ⟨gb576, 1, none⟩ = some (.slice none 0 0) := (blk_cell BK576.out 1).trans rfl
        have hfz43_0 := blk_frozen BK576.out 0
        have hfz43_1 := blk_frozen BK576.out 1
        have hnb44 := NB565_554.out
        have hnc44 := NB554_565.out
        have hnb45 := NB565_570.out
        have hnc45 := NB570_565.out
        have hcz46_0 : w32.cell? ⟨gb565, 0, none⟩ = some (.int .i64 t560) := (blk_cell BK565.out 0).trans rfl
        have hcz46_1 : w32.cell? ⟨gb565, 1, none⟩ = some (.slice Ao23 t561.length co23) := (blk_cell BK565.out 1).trans rfl
        have hfz46_0 := blk_frozen BK565.out 0
        have hfz46_1 := blk_frozen BK565.out 1
        go_wp2_with (first | ((with_reducible refine gate_callee (f := 19) rfl ?_); refine goesL_ (some 38) rfl rfl Try.func19 (by kernel_rfl) rfl #[.agg #[.int .i64 t571, .slice Ao37 t572.length co37], .agg #[.int .i64 t560, .slice Ao23 t561.length co23]] rfl (by (try simp only [List.map_toArray, List.map_cons, List.map_nil]); first | done | rfl | (simp only [List.length_drop, List.length_take]; rfl)) ?_; (with_reducible refine (laws_eqSystem.calls k t571 _ _ t572 t560 _ _ t561 true _ ?side1 ?side2 ?side3 ?side4 A38.out).mono ?_); (case side1 => refine (Kd.R_reads' (e := 2) (base := w.heap.size) (ok := fun k_ => (((True ∧ some k_ ≠ (.slice Ao18 t557.length co18 : Value).ownBlock) ∧ some k_ ≠ (.slice Ao23 t561.length co23 : Value).ownBlock) ∧ some k_ ≠ (.slice Ao30 t567.length co30 : Value).ownBlock)) (n := t572.length) (c := co37) ?_).2.2; exact (by (with_reducible repeat (first | apply Kd.R_alloc | apply Kd.R_drewN | apply Kd.R_drew)); exact (Kd.R_mono (Kd.R_far (p := ⟨gb576, 1, none⟩) (Kd.R_far (p := ⟨gb576, 0, none⟩) (Kd.R_types HO574.out BK576.out (by decide)) (fun _ hk => hk.2) (.int .i64 t571)) (fun _ hk => hk.2) (.slice Ao37 t572.length co37)) (fun _ h_ => h_.1)))); (case side2 => exact (Kd.R_reads' HO574.out).2.1); (case side3 => refine (Kd.R_reads' (e := 2) (base := w.heap.size) (ok := fun k_ => (((True ∧ some k_ ≠ (.slice Ao18 t557.length co18 : Value).ownBlock) ∧ some k_ ≠ (.slice Ao30 t567.length co30 : Value).ownBlock) ∧ some k_ ≠ (.slice Ao37 t572.length co37 : Value).ownBlock)) (n := t561.length) (c := co23) ?_).2.2; exact (by (with_reducible repeat (first | apply Kd.R_alloc | apply Kd.R_drewN | apply Kd.R_drew)); exact (Kd.R_mono (Kd.R_far (p := ⟨gb576, 1, none⟩) (Kd.R_far (p := ⟨gb576, 0, none⟩) (Kd.R_types HO563.out BK576.out (by decide)) (fun _ hk => hk.2) (.int .i64 t571)) (fun _ hk => hk.2) (.slice Ao37 t572.length co37)) (fun _ h_ => h_.1)))); (case side4 => exact (Kd.R_reads' HO563.out).2.1); rintro e w47 ⟨rfl, hb⟩; refine ⟨_, rfl, ?_⟩; have n0_ := Aside0.mk (Kd.R_below (by (with_reducible repeat (first | apply Kd.R_alloc | apply Kd.R_drewN | apply Kd.R_drew)); exact (Kd.R_mono (Kd.R_far (p := ⟨gb576, 1, none⟩) (Kd.R_far (p := ⟨gb576, 0, none⟩) (Kd.R_types HO559.out BK576.out (by decide)) (fun _ hk => hk.2) (.int .i64 t571)) (fun _ hk => hk.2) (.slice Ao37 t572.length co37)) (fun _ h_ => h_.1))) hb); have n1_ := Aside0.mk (Kd.R_below (by (with_reducible repeat (first | apply Kd.R_alloc | apply Kd.R_drewN | apply Kd.R_drew)); exact (Kd.R_mono (Kd.R_far (p := ⟨gb576, 1, none⟩) (Kd.R_far (p := ⟨gb576, 0, none⟩) (Kd.R_types HO563.out BK576.out (by decide)) (fun _ hk => hk.2) (.int .i64 t571)) (fun _ hk => hk.2) (.slice Ao37 t572.length co37)) (fun _ h_ => h_.1))) hb); have n2_ := Aside0.mk (Kd.R_below (by (with_reducible repeat (first | apply Kd.R_alloc | apply Kd.R_drewN | apply Kd.R_drew)); exact (Kd.R_mono (Kd.R_far (p := ⟨gb576, 1, none⟩) (Kd.R_far (p := ⟨gb576, 0, none⟩) (Kd.R_types HO569.out BK576.out (by decide)) (fun _ hk => hk.2) (.int .i64 t571)) (fun _ hk => hk.2) (.slice Ao37 t572.length co37)) (fun _ h_ => h_.1))) hb); have n3_ := Aside0.mk (Kd.R_below (by (with_reducible repeat (first | apply Kd.R_alloc | apply Kd.R_drewN | apply Kd.R_drew)); exact (Kd.R_mono (Kd.R_far (p := ⟨gb576, 1, none⟩) (Kd.R_far (p := ⟨gb576, 0, none⟩) (Kd.R_types HO574.out BK576.out (by decide)) (fun _ hk => hk.2) (.int .i64 t571)) (fun _ hk => hk.2) (.slice Ao37 t572.length co37)) (fun _ h_ => h_.1))) hb); have n4_ := Aside0.mk (blk_below (g := gb554) (o := .cells #[.int .i64 a0_0, .slice A0_1 l0_1.length c0_1] 24 (0, 0)) (by (with_reducible repeat (first | refine blk_drewN ?_ _ | refine blk_drew ?_ | refine blk_alloc ?_ _)); refine blk_far ?_ NB554_576.out _; (with_reducible repeat (first | refine blk_drewN ?_ _ | refine blk_drew ?_ | refine blk_alloc ?_ _)); refine blk_far ?_ NB554_576.out _; (with_reducible repeat (first | refine blk_drewN ?_ _ | refine blk_drew ?_ | refine blk_alloc ?_ _)); exact BK554.out) hb); have n5_ := Aside0.mk (blk_below (g := gb565) (o := .cells #[.int .i64 t560, .slice Ao23 t561.length co23] 27 (0, 0)) (by (with_reducible repeat (first | refine blk_drewN ?_ _ | refine blk_drew ?_ | refine blk_alloc ?_ _)); refine blk_far ?_ NB565_576.out _; (with_reducible repeat (first | refine blk_drewN ?_ _ | refine blk_drew ?_ | refine blk_alloc ?_ _)); refine blk_far ?_ NB565_576.out _; (with_reducible repeat (first | refine blk_drewN ?_ _ | refine blk_drew ?_ | refine blk_alloc ?_ _)); exact BK565.out) hb); have n6_ := Aside0.mk (blk_below (g := gb570) (o := .cells #[.int .i64 t566, .slice Ao30 t567.length co30] 27 (0, 0)) (by (with_reducible repeat (first | refine blk_drewN ?_ _ | refine blk_drew ?_ | refine blk_alloc ?_ _)); refine blk_far ?_ NB570_576.out _; (with_reducible repeat (first | refine blk_drewN ?_ _ | refine blk_drew ?_ | refine blk_alloc ?_ _)); refine blk_far ?_ NB570_576.out _; (with_reducible repeat (first | refine blk_drewN ?_ _ | refine blk_drew ?_ | refine blk_alloc ?_ _)); exact BK570.out) hb); have n7_ := Aside0.mk (blk_below (g := gb576) (o := .cells #[.int .i64 t571, .slice Ao37 t572.length co37] 27 (0, 0)) (by (with_reducible repeat (first | refine blk_drewN ?_ _ | refine blk_drew ?_ | refine blk_alloc ?_ _)); refine blk_put (cs := #[.int .i64 t571, .slice none 0 0]) ?_ 1 _ rfl; (with_reducible repeat (first | refine blk_drewN ?_ _ | refine blk_drew ?_ | refine blk_alloc ?_ _)); refine blk_put (cs := #[.int .i64 0, .slice none 0 0]) ?_ 0 _ rfl; (with_reducible repeat (first | refine blk_drewN ?_ _ | refine blk_drew ?_ | refine blk_alloc ?_ _)); exact BK576.out) hb); have n8_ := Aside0.mk (below_step (by repeat (first | (with_reducible first | exact HB.out | apply below_alloc | apply pw_below_drewN | apply below_drew1 | refine below_set ?_ GE554.out | refine below_set ?_ GE565.out | refine below_set ?_ GE570.out | refine below_set ?_ GE576.out) | exact HB.out)) hb); clear HO559; clear HO563; clear HO569; clear HO574; clear BK554; clear BK565; clear BK570; clear BK576; clear HB; have HO559 := n0_; have HO563 := n1_; have HO569 := n2_; have HO574 := n3_; have BK554 := n4_; have BK565 := n5_; have BK570 := n6_; have BK576 := n7_; have HB := n8_; clear n0_ n1_ n2_ n3_ n4_ n5_ n6_ n7_ n8_; (try clear hb); (try clear hb2); (try clear hk); (try clear hi)))
        go_meet
        case rel => exact ⟨_, ((t575 != t564)), (by first | rfl | (simp; done) | (simp [*]; done)), H', ⟨by first | omega | exact Nat.le_refl _⟩, ⟨by (with_reducible repeat (first | apply Kd.R_alloc | apply Kd.R_drewN | apply Kd.R_drew)); exact Kd.R_mono HO563.out (fun _ hk => ⟨hk.1.2, hk.2⟩)⟩, ⟨by (with_reducible repeat (first | apply Kd.R_alloc | apply Kd.R_drewN | apply Kd.R_drew)); exact Kd.R_mono HO569.out (fun _ hk => ⟨hk.1.2, hk.2⟩)⟩, ⟨by (with_reducible repeat (first | apply Kd.R_alloc | apply Kd.R_drewN | apply Kd.R_drew)); exact Kd.R_mono HO574.out (fun _ hk => ⟨hk.1.2, hk.2⟩)⟩, ⟨by (with_reducible repeat (first | refine blk_drewN ?_ _ | refine blk_drew ?_ | refine blk_alloc ?_ _)); exact BK554.out⟩, ⟨by (with_reducible repeat (first | refine blk_drewN ?_ _ | refine blk_drew ?_ | refine blk_alloc ?_ _)); exact BK565.out⟩, ⟨by (with_reducible repeat (first | refine blk_drewN ?_ _ | refine blk_drew ?_ | refine blk_alloc ?_ _)); exact BK570.out⟩, ⟨by (with_reducible repeat (first | refine blk_drewN ?_ _ | refine blk_drew ?_ | refine blk_alloc ?_ _)); exact BK576.out⟩, ⟨by repeat (first | (with_reducible first | exact HB.out | apply below_alloc | apply pw_below_drewN | apply below_drew1 | refine below_set ?_ GE554.out | refine below_set ?_ GE565.out | refine below_set ?_ GE570.out | refine below_set ?_ GE576.out) | exact HB.out)⟩⟩
      · replace c39 := Bool.eq_false_iff.mpr c39
        subst c39
        have H1 : (laws_FnExactRestrictSystem.j0 k a1 t564 t575 true a0_0 l0_1 t560 t561 t566 t567 t571 t572) = some r := by rw [if_neg (show ¬ (false = true) by decide)] at H; exact H
        clear H
        have H := H1
        clear H1
        have H' := Aside0.mk H
        clear H
        have hnb48 := NB576_554.out
        have hnc48 := NB554_576.out
        have hnb49 := NB576_565.out
        have hnc49 := NB565_576.out
        have hnb50 := NB576_570.out
        have hnc50 := NB570_576.out
        have hcz51_0 : w32.cell? ⟨gb576, 0, none⟩ = some (.int .i64 0) := (blk_cell BK576.out 0).trans rfl
        have hcz51_1 : w32.cell? ⟨gb576, 1, none⟩ = some (.slice none 0 0) := (blk_cell BK576.out 1).trans rfl
        have hfz51_0 := blk_frozen BK576.out 0
        have hfz51_1 := blk_frozen BK576.out 1
        have hnb52 := NB565_554.out
        have hnc52 := NB554_565.out
        have hnb53 := NB565_570.out
        have hnc53 := NB570_565.out
        have hcz54_0 : w32.cell? ⟨gb565, 0, none⟩ = some (.int .i64 t560) := (blk_cell BK565.out 0).trans rfl
        have hcz54_1 : w32.cell? ⟨gb565, 1, none⟩ = some (.slice Ao23 t561.length co23) := (blk_cell BK565.out 1).trans rfl
        have hfz54_0 := blk_frozen BK565.out 0
        have hfz54_1 := blk_frozen BK565.out 1
        go_wp2_with (first | ((with_reducible refine gate_callee (f := 19) rfl ?_); refine goesL_ (some 38) rfl rfl Try.func19 (by kernel_rfl) rfl #[.agg #[.int .i64 t571, .slice Ao37 t572.length co37], .agg #[.int .i64 t560, .slice Ao23 t561.length co23]] rfl (by (try simp only [List.map_toArray, List.map_cons, List.map_nil]); first | done | rfl | (simp only [List.length_drop, List.length_take]; rfl)) ?_; (with_reducible refine (laws_eqSystem.calls k t571 _ _ t572 t560 _ _ t561 false _ ?side1 ?side2 ?side3 ?side4 A38.out).mono ?_); (case side1 => refine (Kd.R_reads' (e := 2) (base := w.heap.size) (ok := fun k_ => (((True ∧ some k_ ≠ (.slice Ao18 t557.length co18 : Value).ownBlock) ∧ some k_ ≠ (.slice Ao23 t561.length co23 : Value).ownBlock) ∧ some k_ ≠ (.slice Ao30 t567.length co30 : Value).ownBlock)) (n := t572.length) (c := co37) ?_).2.2; exact (by (with_reducible repeat (first | apply Kd.R_alloc | apply Kd.R_drewN | apply Kd.R_drew)); exact (Kd.R_mono (Kd.R_far (p := ⟨gb576, 1, none⟩) (Kd.R_far (p := ⟨gb576, 0, none⟩) (Kd.R_types HO574.out BK576.out (by decide)) (fun _ hk => hk.2) (.int .i64 t571)) (fun _ hk => hk.2) (.slice Ao37 t572.length co37)) (fun _ h_ => h_.1)))); (case side2 => exact (Kd.R_reads' HO574.out).2.1); (case side3 => refine (Kd.R_reads' (e := 2) (base := w.heap.size) (ok := fun k_ => (((True ∧ some k_ ≠ (.slice Ao18 t557.length co18 : Value).ownBlock) ∧ some k_ ≠ (.slice Ao30 t567.length co30 : Value).ownBlock) ∧ some k_ ≠ (.slice Ao37 t572.length co37 : Value).ownBlock)) (n := t561.length) (c := co23) ?_).2.2; exact (by (with_reducible repeat (first | apply Kd.R_alloc | apply Kd.R_drewN | apply Kd.R_drew)); exact (Kd.R_mono (Kd.R_far (p := ⟨gb576, 1, none⟩) (Kd.R_far (p := ⟨gb576, 0, none⟩) (Kd.R_types HO563.out BK576.out (by decide)) (fun _ hk => hk.2) (.int .i64 t571)) (fun _ hk => hk.2) (.slice Ao37 t572.length co37)) (fun _ h_ => h_.1)))); (case side4 => exact (Kd.R_reads' HO563.out).2.1); rintro e w55 ⟨rfl, hb⟩; refine ⟨_, rfl, ?_⟩; have n0_ := Aside0.mk (Kd.R_below (by (with_reducible repeat (first | apply Kd.R_alloc | apply Kd.R_drewN | apply Kd.R_drew)); exact (Kd.R_mono (Kd.R_far (p := ⟨gb576, 1, none⟩) (Kd.R_far (p := ⟨gb576, 0, none⟩) (Kd.R_types HO559.out BK576.out (by decide)) (fun _ hk => hk.2) (.int .i64 t571)) (fun _ hk => hk.2) (.slice Ao37 t572.length co37)) (fun _ h_ => h_.1))) hb); have n1_ := Aside0.mk (Kd.R_below (by (with_reducible repeat (first | apply Kd.R_alloc | apply Kd.R_drewN | apply Kd.R_drew)); exact (Kd.R_mono (Kd.R_far (p := ⟨gb576, 1, none⟩) (Kd.R_far (p := ⟨gb576, 0, none⟩) (Kd.R_types HO563.out BK576.out (by decide)) (fun _ hk => hk.2) (.int .i64 t571)) (fun _ hk => hk.2) (.slice Ao37 t572.length co37)) (fun _ h_ => h_.1))) hb); have n2_ := Aside0.mk (Kd.R_below (by (with_reducible repeat (first | apply Kd.R_alloc | apply Kd.R_drewN | apply Kd.R_drew)); exact (Kd.R_mono (Kd.R_far (p := ⟨gb576, 1, none⟩) (Kd.R_far (p := ⟨gb576, 0, none⟩) (Kd.R_types HO569.out BK576.out (by decide)) (fun _ hk => hk.2) (.int .i64 t571)) (fun _ hk => hk.2) (.slice Ao37 t572.length co37)) (fun _ h_ => h_.1))) hb); have n3_ := Aside0.mk (Kd.R_below (by (with_reducible repeat (first | apply Kd.R_alloc | apply Kd.R_drewN | apply Kd.R_drew)); exact (Kd.R_mono (Kd.R_far (p := ⟨gb576, 1, none⟩) (Kd.R_far (p := ⟨gb576, 0, none⟩) (Kd.R_types HO574.out BK576.out (by decide)) (fun _ hk => hk.2) (.int .i64 t571)) (fun _ hk => hk.2) (.slice Ao37 t572.length co37)) (fun _ h_ => h_.1))) hb); have n4_ := Aside0.mk (blk_below (g := gb554) (o := .cells #[.int .i64 a0_0, .slice A0_1 l0_1.length c0_1] 24 (0, 0)) (by (with_reducible repeat (first | refine blk_drewN ?_ _ | refine blk_drew ?_ | refine blk_alloc ?_ _)); refine blk_far ?_ NB554_576.out _; (with_reducible repeat (first | refine blk_drewN ?_ _ | refine blk_drew ?_ | refine blk_alloc ?_ _)); refine blk_far ?_ NB554_576.out _; (with_reducible repeat (first | refine blk_drewN ?_ _ | refine blk_drew ?_ | refine blk_alloc ?_ _)); exact BK554.out) hb); have n5_ := Aside0.mk (blk_below (g := gb565) (o := .cells #[.int .i64 t560, .slice Ao23 t561.length co23] 27 (0, 0)) (by (with_reducible repeat (first | refine blk_drewN ?_ _ | refine blk_drew ?_ | refine blk_alloc ?_ _)); refine blk_far ?_ NB565_576.out _; (with_reducible repeat (first | refine blk_drewN ?_ _ | refine blk_drew ?_ | refine blk_alloc ?_ _)); refine blk_far ?_ NB565_576.out _; (with_reducible repeat (first | refine blk_drewN ?_ _ | refine blk_drew ?_ | refine blk_alloc ?_ _)); exact BK565.out) hb); have n6_ := Aside0.mk (blk_below (g := gb570) (o := .cells #[.int .i64 t566, .slice Ao30 t567.length co30] 27 (0, 0)) (by (with_reducible repeat (first | refine blk_drewN ?_ _ | refine blk_drew ?_ | refine blk_alloc ?_ _)); refine blk_far ?_ NB570_576.out _; (with_reducible repeat (first | refine blk_drewN ?_ _ | refine blk_drew ?_ | refine blk_alloc ?_ _)); refine blk_far ?_ NB570_576.out _; (with_reducible repeat (first | refine blk_drewN ?_ _ | refine blk_drew ?_ | refine blk_alloc ?_ _)); exact BK570.out) hb); have n7_ := Aside0.mk (blk_below (g := gb576) (o := .cells #[.int .i64 t571, .slice Ao37 t572.length co37] 27 (0, 0)) (by (with_reducible repeat (first | refine blk_drewN ?_ _ | refine blk_drew ?_ | refine blk_alloc ?_ _)); refine blk_put (cs := #[.int .i64 t571, .slice none 0 0]) ?_ 1 _ rfl; (with_reducible repeat (first | refine blk_drewN ?_ _ | refine blk_drew ?_ | refine blk_alloc ?_ _)); refine blk_put (cs := #[.int .i64 0, .slice none 0 0]) ?_ 0 _ rfl; (with_reducible repeat (first | refine blk_drewN ?_ _ | refine blk_drew ?_ | refine blk_alloc ?_ _)); exact BK576.out) hb); have n8_ := Aside0.mk (below_step (by repeat (first | (with_reducible first | exact HB.out | apply below_alloc | apply pw_below_drewN | apply below_drew1 | refine below_set ?_ GE554.out | refine below_set ?_ GE565.out | refine below_set ?_ GE570.out | refine below_set ?_ GE576.out) | exact HB.out)) hb); clear HO559; clear HO563; clear HO569; clear HO574; clear BK554; clear BK565; clear BK570; clear BK576; clear HB; have HO559 := n0_; have HO563 := n1_; have HO569 := n2_; have HO574 := n3_; have BK554 := n4_; have BK565 := n5_; have BK570 := n6_; have BK576 := n7_; have HB := n8_; clear n0_ n1_ n2_ n3_ n4_ n5_ n6_ n7_ n8_; (try clear hb); (try clear hb2); (try clear hk); (try clear hi)))
        go_meet
        case rel => exact ⟨_, (true), (by first | rfl | (simp; done) | (simp [*]; done)), H', ⟨by first | omega | exact Nat.le_refl _⟩, ⟨by (with_reducible repeat (first | apply Kd.R_alloc | apply Kd.R_drewN | apply Kd.R_drew)); exact Kd.R_mono HO563.out (fun _ hk => ⟨hk.1.2, hk.2⟩)⟩, ⟨by (with_reducible repeat (first | apply Kd.R_alloc | apply Kd.R_drewN | apply Kd.R_drew)); exact Kd.R_mono HO569.out (fun _ hk => ⟨hk.1.2, hk.2⟩)⟩, ⟨by (with_reducible repeat (first | apply Kd.R_alloc | apply Kd.R_drewN | apply Kd.R_drew)); exact Kd.R_mono HO574.out (fun _ hk => ⟨hk.1.2, hk.2⟩)⟩, ⟨by (with_reducible repeat (first | refine blk_drewN ?_ _ | refine blk_drew ?_ | refine blk_alloc ?_ _)); exact BK554.out⟩, ⟨by (with_reducible repeat (first | refine blk_drewN ?_ _ | refine blk_drew ?_ | refine blk_alloc ?_ _)); exact BK565.out⟩, ⟨by (with_reducible repeat (first | refine blk_drewN ?_ _ | refine blk_drew ?_ | refine blk_alloc ?_ _)); exact BK570.out⟩, ⟨by (with_reducible repeat (first | refine blk_drewN ?_ _ | refine blk_drew ?_ | refine blk_alloc ?_ _)); exact BK576.out⟩, ⟨by repeat (first | (with_reducible first | exact HB.out | apply below_alloc | apply pw_below_drewN | apply below_drew1 | refine below_set ?_ GE554.out | refine below_set ?_ GE565.out | refine below_set ?_ GE570.out | refine below_set ?_ GE576.out) | exact HB.out)⟩⟩
    case rest =>
      clear HC12
      try clear c1
      try clear c2
      try clear p2
      try clear c3
      try clear c4
      try clear c4b0
      try clear c5
      try clear c11
      try clear c15
      try clear c17
      try clear c19
      try clear c21
      try clear c27
      try clear c28
      try clear c33
      try clear c34
      try clear c35
      try clear c39
      try clear c40
      try clear c41
      try clear c42
      try clear c44
      try clear c45
      try clear c46
      try clear c48
      try clear c49
      try clear c50
      try clear c52
      try clear c53
      try clear hcz14_0
      try clear hcz14_1
      try clear hcz16_0
      try clear hcz16_1
      try clear hcz22_0
      try clear hcz22_1
      try clear hcz24_0
      try clear hcz24_1
      try clear hcz29_0
      try clear hcz29_1
      try clear hcz36_0
      try clear hcz36_1
      try clear hcz43_0
      try clear hcz43_1
      try clear hcz46_0
      try clear hcz46_1
      try clear hcz51_0
      try clear hcz51_1
      try clear hcz54_0
      try clear hcz54_1
      try clear hcz6_0
      try clear hcz6_1
      try clear hfz14_0
      try clear hfz14_1
      try clear hfz16_0
      try clear hfz16_1
      try clear hfz22_0
      try clear hfz22_1
      try clear hfz24_0
      try clear hfz24_1
      try clear hfz29_0
      try clear hfz29_1
      try clear hfz36_0
      try clear hfz36_1
      try clear hfz43_0
      try clear hfz43_1
      try clear hfz46_0
      try clear hfz46_1
      try clear hfz51_0
      try clear hfz51_1
      try clear hfz54_0
      try clear hfz54_1
      try clear hfz6_0
      try clear hfz6_1
      obtain ⟨kq, x44_11, rfl, HA, HJ11, HO_566001, HO_571001, HO_577001, BK554, BK565, BK570, BK576, HB⟩ := hcut
      cases kq with
      | zero => exact absurd HA.out (by simp [laws_FnExactRestrictSystem.j0])
      | succ kj11 =>
        have H := HA.out
        clear HA
        simp only [laws_FnExactRestrictSystem.j0] at H
        by_cases c56 : x44_11 = true
        · subst c56
          have H1 : (some false) = some r := by rw [if_pos rfl] at H; exact H
          clear H
          have H := H1
          clear H1
          obtain rfl := Option.some.inj H
          go_wp2
          go_ret
          exact ⟨by first | rfl | (simp [errW_none, errW_some] <;> rfl) | (simp [*, errW_none, errW_some] <;> rfl), by repeat (first | (with_reducible first | exact HB.out | apply below_alloc | apply pw_below_drewN | apply below_drew1 | refine below_set ?_ GE554.out | refine below_set ?_ GE565.out | refine below_set ?_ GE570.out | refine below_set ?_ GE576.out) | exact HB.out)⟩
        · replace c56 := Bool.eq_false_iff.mpr c56
          subst c56
          have H1 : ((laws_toSystem.f kj11 a0_0 l0_1).bind fun bt578 => ((laws_eqSystem.f kj11 t566 t567 bt578.1 bt578.2).bind fun t582 => (if t582 = true then ((laws_markSystem.f kj11 t566 t567 1).bind fun bt583 => (if bt583.1 < 0 then (laws_FnExactRestrictSystem.j1 kj11 a1 t564 true a0_0 l0_1 t560 t561 t571 t572) else ((laws_eqSystem.f kj11 t571 t572 t560 t561).bind fun t585 => (if t585 = true then (laws_FnExactRestrictSystem.j1 kj11 a1 t564 (t575 != t564) a0_0 l0_1 t560 t561 t571 t572) else (laws_FnExactRestrictSystem.j1 kj11 a1 t564 true a0_0 l0_1 t560 t561 t571 t572))))) else (some false)))) = some r := by rw [if_neg (show ¬ (false = true) by decide)] at H; exact H
          clear H
          have H := H1
          clear H1
          replace H := Option.bind_eq_some_iff.mp H
          obtain ⟨⟨t578, t579⟩, A570, H⟩ := H
          replace H : ((laws_eqSystem.f kj11 t566 t567 t578 t579).bind fun t582 => (if t582 = true then ((laws_markSystem.f kj11 t566 t567 1).bind fun bt583 => (if bt583.1 < 0 then (laws_FnExactRestrictSystem.j1 kj11 a1 t564 true a0_0 l0_1 t560 t561 t571 t572) else ((laws_eqSystem.f kj11 t571 t572 t560 t561).bind fun t585 => (if t585 = true then (laws_FnExactRestrictSystem.j1 kj11 a1 t564 (t575 != t564) a0_0 l0_1 t560 t561 t571 t572) else (laws_FnExactRestrictSystem.j1 kj11 a1 t564 true a0_0 l0_1 t560 t561 t571 t572))))) else (some false))) = some r := H
          have A57 := Aside0.mk A570
          clear A570
          replace H := Option.bind_eq_some_iff.mp H
          obtain ⟨t582, A580, H⟩ := H
          replace H : (if t582 = true then ((laws_markSystem.f kj11 t566 t567 1).bind fun bt583 => (if bt583.1 < 0 then (laws_FnExactRestrictSystem.j1 kj11 a1 t564 true a0_0 l0_1 t560 t561 t571 t572) else ((laws_eqSystem.f kj11 t571 t572 t560 t561).bind fun t585 => (if t585 = true then (laws_FnExactRestrictSystem.j1 kj11 a1 t564 (t575 != t564) a0_0 l0_1 t560 t561 t571 t572) else (laws_FnExactRestrictSystem.j1 kj11 a1 t564 true a0_0 l0_1 t560 t561 t571 t572))))) else (some false)) = some r := H
          have A58 := Aside0.mk A580
          clear A580
          by_cases c59 : t582 = true
          · subst c59
            have H1 : ((laws_markSystem.f kj11 t566 t567 1).bind fun bt583 => (if bt583.1 < 0 then (laws_FnExactRestrictSystem.j1 kj11 a1 t564 true a0_0 l0_1 t560 t561 t571 t572) else ((laws_eqSystem.f kj11 t571 t572 t560 t561).bind fun t585 => (if t585 = true then (laws_FnExactRestrictSystem.j1 kj11 a1 t564 (t575 != t564) a0_0 l0_1 t560 t561 t571 t572) else (laws_FnExactRestrictSystem.j1 kj11 a1 t564 true a0_0 l0_1 t560 t561 t571 t572))))) = some r := by rw [if_pos rfl] at H; exact H
            clear H
            have H := H1
            clear H1
            replace H := Option.bind_eq_some_iff.mp H
            obtain ⟨⟨t583, t584⟩, A600, H⟩ := H
            replace H : (if t583 < 0 then (laws_FnExactRestrictSystem.j1 kj11 a1 t564 true a0_0 l0_1 t560 t561 t571 t572) else ((laws_eqSystem.f kj11 t571 t572 t560 t561).bind fun t585 => (if t585 = true then (laws_FnExactRestrictSystem.j1 kj11 a1 t564 (t575 != t564) a0_0 l0_1 t560 t561 t571 t572) else (laws_FnExactRestrictSystem.j1 kj11 a1 t564 true a0_0 l0_1 t560 t561 t571 t572)))) = some r := H
            have A60 := Aside0.mk A600
            clear A600
            have HC61 := Aside0.mk H
            clear H
            try go_wp2
            have n0_ := Aside0.mk (Kd.R_drew HO_566001.out)
            have n1_ := Aside0.mk (Kd.R_drew HO_571001.out)
            have n2_ := Aside0.mk (Kd.R_drew HO_577001.out)
            have n3_ := Aside0.mk (blk_drew BK554.out)
            have n4_ := Aside0.mk (blk_drew BK565.out)
            have n5_ := Aside0.mk (blk_drew BK570.out)
            have n6_ := Aside0.mk (blk_drew BK576.out)
            have n7_ := Aside0.mk (below_drew1 HB.out)
            clear HO_566001
            clear HO_571001
            clear HO_577001
            clear BK554
            clear BK565
            clear BK570
            clear BK576
            clear HB
            have HO_566001 := n0_
            have HO_571001 := n1_
            have HO_577001 := n2_
            have BK554 := n3_
            have BK565 := n4_
            have BK570 := n5_
            have BK576 := n6_
            have HB := n7_
            clear n0_ n1_ n2_ n3_ n4_ n5_ n6_ n7_
            refine start_ (n := 5) (S := fun w' => w'.cell? ⟨gb570, 0, none⟩ = some (.int .i64 t566) ∧ w'.cell? ⟨gb570, 1, none⟩ = some (.slice Ao30 t567.length co30) ∧ w'.cell? ⟨gb554, 0, none⟩ = some (.int .i64 a0_0) ∧ w'.cell? ⟨gb554, 1, none⟩ = some (.slice A0_1 l0_1.length c0_1)) (ds := []) #[false, false, false, false, false] (by kernel_rfl) rfl rfl ⟨(blk_cell BK570.out 0).trans rfl, (blk_cell BK570.out 1).trans rfl, (blk_cell BK554.out 0).trans rfl, (blk_cell BK554.out 1).trans rfl⟩ (fun hHeld => ?_)
            generalize wc.drew = w62 at HO_566001 HO_571001 HO_577001 BK554 BK565 BK570 BK576 HB hHeld ⊢
            refine take_ (i := 0) (N := some 45) (v := ?_) (a' := ?_) #[true, false, false, false, false] rfl rfl (by kernel_rfl) (fun _ _ _ h => h) (Or.inl ⟨by rfl, ?_⟩) hHeld ?_ ?_
            rotate_left
            · rintro w' ⟨s0, s1, s2, s3⟩
              go_simp
              with_reducible rfl
            rotate_left
            · simp only [Act.put, List.setIfInBounds_toArray, List.set_cons_zero, List.set_cons_succ, i64_w, i32_w]
              rfl
            refine take_ (i := 1) (N := some 46) (v := ?_) (a' := ?_) #[true, true, false, false, false] rfl rfl (by kernel_rfl) (fun _ _ _ h => h) (Or.inl ⟨by rfl, ?_⟩) hHeld ?_ ?_
            rotate_left
            · rintro w' ⟨s0, s1, s2, s3⟩
              go_simp
              with_reducible rfl
            rotate_left
            · simp only [Act.put, List.setIfInBounds_toArray, List.set_cons_zero, List.set_cons_succ, i64_w, i32_w]
              rfl
            refine one_ (i := 2) (N := some 47) #[true, true, true, false, false] rfl rfl (by kernel_rfl) (by decide) (fun K hK => ?_)
            refine goes_ Try.func17 (by kernel_rfl) rfl #[.agg #[.int .i64 a0_0, .slice A0_1 l0_1.length c0_1]] (by rfl) rfl rfl (by (try simp only [List.map_toArray, List.map_cons, List.map_nil]); first | done | rfl | (simp only [List.length_drop, List.length_take]; rfl)) ?_
            with_reducible refine (laws_toSystem.calls kj11 a0_0 _ _ l0_1 t578 t579 _ ?side1 ?side2 A57.out).mono ?_
            (case side1 => repeat (first | exact (Kd.C_below HR0_1.out HB.out) | (with_reducible refine Kd.C_alloc ?_ _) | (with_reducible refine Kd.C_drewN ?_ _) | (with_reducible refine Kd.C_drew ?_)))
            (case side2 => exact HC0_1.out)
            rintro e w63 ⟨v580, rfl, ho0, hb⟩
            refine ⟨_, rfl, ?_⟩
            have n0_ := Aside0.mk (Kd.R_elder' (by (with_reducible repeat (first | apply Kd.R_alloc | apply Kd.R_drewN | apply Kd.R_drew)); exact HO_566001.out) (Kd.R_base ho0) hb)
            have n1_ := Aside0.mk (Kd.R_elder' (by (with_reducible repeat (first | apply Kd.R_alloc | apply Kd.R_drewN | apply Kd.R_drew)); exact HO_571001.out) (Kd.R_base ho0) hb)
            have n2_ := Aside0.mk (Kd.R_elder' (by (with_reducible repeat (first | apply Kd.R_alloc | apply Kd.R_drewN | apply Kd.R_drew)); exact HO_577001.out) (Kd.R_base ho0) hb)
            have n3_ := Aside0.mk (Kd.R_lower (Kd.R_new' (Kd.R_new' (Kd.R_new' ho0 (Kd.R_lt (by (with_reducible repeat (first | apply Kd.R_alloc | apply Kd.R_drewN | apply Kd.R_drew)); exact HO_566001.out))) (Kd.R_lt (by (with_reducible repeat (first | apply Kd.R_alloc | apply Kd.R_drewN | apply Kd.R_drew)); exact HO_571001.out))) (Kd.R_lt (by (with_reducible repeat (first | apply Kd.R_alloc | apply Kd.R_drewN | apply Kd.R_drew)); exact HO_577001.out))) (below_size (by repeat (first | (with_reducible first | exact HB.out | apply below_alloc | apply pw_below_drewN | apply below_drew1 | refine below_set ?_ GE554.out | refine below_set ?_ GE565.out | refine below_set ?_ GE570.out | refine below_set ?_ GE576.out) | exact HB.out))))
            have n4_ := Aside0.mk (blk_below (g := gb554) (o := .cells #[.int .i64 a0_0, .slice A0_1 l0_1.length c0_1] 24 (0, 0)) (by (with_reducible repeat (first | refine blk_drewN ?_ _ | refine blk_drew ?_ | refine blk_alloc ?_ _)); exact BK554.out) hb)
            have n5_ := Aside0.mk (blk_below (g := gb565) (o := .cells #[.int .i64 t560, .slice Ao23 t561.length co23] 27 (0, 0)) (by (with_reducible repeat (first | refine blk_drewN ?_ _ | refine blk_drew ?_ | refine blk_alloc ?_ _)); exact BK565.out) hb)
            have n6_ := Aside0.mk (blk_below (g := gb570) (o := .cells #[.int .i64 t566, .slice Ao30 t567.length co30] 27 (0, 0)) (by (with_reducible repeat (first | refine blk_drewN ?_ _ | refine blk_drew ?_ | refine blk_alloc ?_ _)); exact BK570.out) hb)
            have n7_ := Aside0.mk (blk_below (g := gb576) (o := .cells #[.int .i64 t571, .slice Ao37 t572.length co37] 27 (0, 0)) (by (with_reducible repeat (first | refine blk_drewN ?_ _ | refine blk_drew ?_ | refine blk_alloc ?_ _)); exact BK576.out) hb)
            have n8_ := Aside0.mk (below_step (by repeat (first | (with_reducible first | exact HB.out | apply below_alloc | apply pw_below_drewN | apply below_drew1 | refine below_set ?_ GE554.out | refine below_set ?_ GE565.out | refine below_set ?_ GE570.out | refine below_set ?_ GE576.out) | exact HB.out)) hb)
            clear HO_566001
            clear HO_571001
            clear HO_577001
            clear BK554
            clear BK565
            clear BK570
            clear BK576
            clear HB
            have HO_566001 := n0_
            have HO_571001 := n1_
            have HO_577001 := n2_
            have HO581 := n3_
            have BK554 := n4_
            have BK565 := n5_
            have BK570 := n6_
            have BK576 := n7_
            have HB := n8_
            clear n0_ n1_ n2_ n3_ n4_ n5_ n6_ n7_ n8_
            (try clear hb)
            (try clear hb2)
            (try clear hk)
            (try clear hi)
            (try clear ho0)
            obtain ⟨Ao64, co64, eo64⟩ := Kd.R_slice HO581.out
            (first | subst eo64 | (injection eo64 with f1_ f2_ f3_; have f4_ := f1_.symm; have f5_ := f3_.symm; clear f1_ f2_ f3_; subst f4_; subst f5_))
            refine hK.out _ _ ⟨(blk_cell BK570.out 0).trans rfl, (blk_cell BK570.out 1).trans rfl, (blk_cell BK554.out 0).trans rfl, (blk_cell BK554.out 1).trans rfl⟩ (fun hHeld => ?_)
            clear hK K
            refine norm_ (a' := ?_) ?_ ?_
            rotate_left
            · show Act.put _ (some 47) _ = _
              simp only [Act.put, List.setIfInBounds_toArray, List.set_cons_zero, List.set_cons_succ, i64_w, i32_w]
              rfl
            refine one_ (i := 3) (N := some 48) #[true, true, true, true, false] rfl rfl (by kernel_rfl) (by decide) (fun K hK => ?_)
            refine goes_ Try.func19 (by kernel_rfl) rfl #[.agg #[.int .i64 t566, .slice Ao30 t567.length co30], .agg #[.int .i64 t578, .slice Ao64 t579.length co64]] (by rfl) rfl rfl (by (try simp only [List.map_toArray, List.map_cons, List.map_nil]); first | done | rfl | (simp only [List.length_drop, List.length_take]; rfl)) ?_
            with_reducible refine (laws_eqSystem.calls kj11 t566 _ _ t567 t578 _ _ t579 true _ ?side1 ?side2 ?side3 ?side4 A58.out).mono ?_
            (case side1 => repeat (first | exact (Kd.R_reads' HO_571001.out).2.2 | (with_reducible refine Kd.C_alloc ?_ _) | (with_reducible refine Kd.C_drewN ?_ _) | (with_reducible refine Kd.C_drew ?_)))
            (case side2 => exact (Kd.R_reads' HO_571001.out).2.1)
            (case side3 => repeat (first | exact (Kd.R_reads' HO581.out).2.2 | (with_reducible refine Kd.C_alloc ?_ _) | (with_reducible refine Kd.C_drewN ?_ _) | (with_reducible refine Kd.C_drew ?_)))
            (case side4 => exact (Kd.R_reads' HO581.out).2.1)
            rintro e w65 ⟨rfl, hb⟩
            refine ⟨_, rfl, ?_⟩
            have n0_ := Aside0.mk (Kd.R_below (by (with_reducible repeat (first | apply Kd.R_alloc | apply Kd.R_drewN | apply Kd.R_drew)); exact HO_566001.out) hb)
            have n1_ := Aside0.mk (Kd.R_below (by (with_reducible repeat (first | apply Kd.R_alloc | apply Kd.R_drewN | apply Kd.R_drew)); exact HO_571001.out) hb)
            have n2_ := Aside0.mk (Kd.R_below (by (with_reducible repeat (first | apply Kd.R_alloc | apply Kd.R_drewN | apply Kd.R_drew)); exact HO_577001.out) hb)
            have n3_ := Aside0.mk (Kd.R_below (by (with_reducible repeat (first | apply Kd.R_alloc | apply Kd.R_drewN | apply Kd.R_drew)); exact HO581.out) hb)
            have n4_ := Aside0.mk (blk_below (g := gb554) (o := .cells #[.int .i64 a0_0, .slice A0_1 l0_1.length c0_1] 24 (0, 0)) (by (with_reducible repeat (first | refine blk_drewN ?_ _ | refine blk_drew ?_ | refine blk_alloc ?_ _)); exact BK554.out) hb)
            have n5_ := Aside0.mk (blk_below (g := gb565) (o := .cells #[.int .i64 t560, .slice Ao23 t561.length co23] 27 (0, 0)) (by (with_reducible repeat (first | refine blk_drewN ?_ _ | refine blk_drew ?_ | refine blk_alloc ?_ _)); exact BK565.out) hb)
            have n6_ := Aside0.mk (blk_below (g := gb570) (o := .cells #[.int .i64 t566, .slice Ao30 t567.length co30] 27 (0, 0)) (by (with_reducible repeat (first | refine blk_drewN ?_ _ | refine blk_drew ?_ | refine blk_alloc ?_ _)); exact BK570.out) hb)
            have n7_ := Aside0.mk (blk_below (g := gb576) (o := .cells #[.int .i64 t571, .slice Ao37 t572.length co37] 27 (0, 0)) (by (with_reducible repeat (first | refine blk_drewN ?_ _ | refine blk_drew ?_ | refine blk_alloc ?_ _)); exact BK576.out) hb)
            have n8_ := Aside0.mk (below_step (by repeat (first | (with_reducible first | exact HB.out | apply below_alloc | apply pw_below_drewN | apply below_drew1 | refine below_set ?_ GE554.out | refine below_set ?_ GE565.out | refine below_set ?_ GE570.out | refine below_set ?_ GE576.out) | exact HB.out)) hb)
            clear HO_566001
            clear HO_571001
            clear HO_577001
            clear HO581
            clear BK554
            clear BK565
            clear BK570
            clear BK576
            clear HB
            have HO_566001 := n0_
            have HO_571001 := n1_
            have HO_577001 := n2_
            have HO581 := n3_
            have BK554 := n4_
            have BK565 := n5_
            have BK570 := n6_
            have BK576 := n7_
            have HB := n8_
            clear n0_ n1_ n2_ n3_ n4_ n5_ n6_ n7_ n8_
            (try clear hb)
            (try clear hb2)
            (try clear hk)
            (try clear hi)
            refine hK.out _ _ ⟨(blk_cell BK570.out 0).trans rfl, (blk_cell BK570.out 1).trans rfl, (blk_cell BK554.out 0).trans rfl, (blk_cell BK554.out 1).trans rfl⟩ (fun hHeld => ?_)
            clear hK K
            refine norm_ (a' := ?_) ?_ ?_
            rotate_left
            · show Act.put _ (some 48) _ = _
              simp only [Act.put, List.setIfInBounds_toArray, List.set_cons_zero, List.set_cons_succ, i64_w, i32_w]
              rfl
            refine pure_ (i := 4) (N := some 49) (v := ?_) (a' := ?_) #[true, true, true, true, true] rfl rfl (by kernel_rfl) (fun _ _ _ h => h) (Or.inl ⟨by rfl, ?_⟩) ?_ ?_
            rotate_left
            · intro w'
              go_simp
              with_reducible rfl
            rotate_left
            · simp only [Act.put, List.setIfInBounds_toArray, List.set_cons_zero, List.set_cons_succ, i64_w, i32_w]
              rfl
            refine done_ (by kernel_rfl) ?_
            have hnb66 := NB570_554.out
            have hnc66 := NB554_570.out
            have hnb67 := NB570_565.out
            have hnc67 := NB565_570.out
            have hnb68 := NB570_576.out
            have hnc68 := NB576_570.out
            have hcz69_0 : w65.cell? ⟨gb570, 0, none⟩ = some (.int .i64 t566) := (blk_cell BK570.out 0).trans rfl
            have hcz69_1 : w65.cell? ⟨gb570, 1, none⟩ = some (.slice Ao30 t567.length co30) := (blk_cell BK570.out 1).trans rfl
            have hfz69_0 := blk_frozen BK570.out 0
            have hfz69_1 := blk_frozen BK570.out 1
            go_upto_region 14 with (first | ((with_reducible refine gate_callee (f := 24) rfl ?_); refine goesL_ (some 52) rfl rfl Try.func24 (by kernel_rfl) rfl #[.agg #[.int .i64 t566, .slice Ao30 t567.length co30], .int .i64 1] rfl (by (try simp only [List.map_toArray, List.map_cons, List.map_nil]); first | done | rfl | (simp only [List.length_drop, List.length_take]; rfl)) ?_; (with_reducible refine (laws_markSystem.calls kj11 t566 (fun k_ => some k_ = (.slice Ao30 t567.length co30 : Value).ownBlock) (.slice Ao30 t567.length co30) t567 1 t583 t584 w _ ?side1 ?side2 A60.out).mono ?_); (case side1 => repeat (first | (with_reducible first | exact HB.out | apply below_alloc | apply pw_below_drewN | apply below_drew1 | refine below_set ?_ GE554.out | refine below_set ?_ GE565.out | refine below_set ?_ GE570.out | refine below_set ?_ GE576.out) | exact HB.out)); (case side2 => exact Kd.R_tight rfl HO_571001.out); rintro e w70 ⟨rfl, hy0, hb, hkp⟩; refine ⟨_, rfl, ?_⟩; have n0_ := Aside0.mk (Kd.R_mono (ok' := fun k_ => some k_ ≠ (.slice Ao30 t567.length co30 : Value).ownBlock ∧ some k_ ≠ (.slice Ao37 t572.length co37 : Value).ownBlock ∧ some k_ ≠ (.slice Ao64 t579.length co64 : Value).ownBlock) (Kd.R_keptB (HO_566001.out) hkp (fun k_ hk_ hs_ => (hk_.1.1) hs_)) (fun k_ hk_ => ⟨hk_.1.1.1, hk_.1.1.2, hk_.1.2⟩)); have n1_ := Aside0.mk (Kd.R_reok rfl hy0 (fun k_ e_ => HO_571001.out.1 k_ e_)); have n2_ := Aside0.mk (Kd.R_mono (ok' := fun k_ => some k_ ≠ (.slice Ao23 t561.length co23 : Value).ownBlock ∧ some k_ ≠ (.slice Ao30 t567.length co30 : Value).ownBlock ∧ some k_ ≠ (.slice Ao64 t579.length co64 : Value).ownBlock) (Kd.R_keptB (HO_577001.out) hkp (fun k_ hk_ hs_ => (hk_.1.2) hs_)) (fun k_ hk_ => ⟨hk_.1.1.1, hk_.1.1.2, hk_.1.2⟩)); have n3_ := Aside0.mk (blk_kept (by (with_reducible repeat (first | refine blk_drewN ?_ _ | refine blk_drew ?_ | refine blk_alloc ?_ _)); exact BK554.out) hkp (fun hs_ => (fun e_ => (Kd.R_ne HO_571001.out BK554.out (by decide)) e_) hs_)); have n4_ := Aside0.mk (blk_kept (by (with_reducible repeat (first | refine blk_drewN ?_ _ | refine blk_drew ?_ | refine blk_alloc ?_ _)); exact BK565.out) hkp (fun hs_ => (fun e_ => (Kd.R_ne HO_571001.out BK565.out (by decide)) e_) hs_)); have n5_ := Aside0.mk (blk_kept (by (with_reducible repeat (first | refine blk_drewN ?_ _ | refine blk_drew ?_ | refine blk_alloc ?_ _)); exact BK570.out) hkp (fun hs_ => (fun e_ => (Kd.R_ne HO_571001.out BK570.out (by decide)) e_) hs_)); have n6_ := Aside0.mk (blk_kept (by (with_reducible repeat (first | refine blk_drewN ?_ _ | refine blk_drew ?_ | refine blk_alloc ?_ _)); exact BK576.out) hkp (fun hs_ => (fun e_ => (Kd.R_ne HO_571001.out BK576.out (by decide)) e_) hs_)); have n7_ := Aside0.mk (Kd.R_mono (ok' := fun k_ => some k_ ≠ (.slice Ao23 t561.length co23 : Value).ownBlock ∧ some k_ ≠ (.slice Ao30 t567.length co30 : Value).ownBlock ∧ some k_ ≠ (.slice Ao37 t572.length co37 : Value).ownBlock) (Kd.R_keptB (HO581.out) hkp (fun k_ hk_ hs_ => (hk_.1.2) hs_)) (fun k_ hk_ => ⟨hk_.1.1.1.2, hk_.1.1.2, hk_.1.2⟩)); have n8_ := Aside0.mk (hb); clear HO_566001; clear HO_571001; clear HO_577001; clear BK554; clear BK565; clear BK570; clear BK576; clear HO581; clear HB; have HO_566001 := n0_; have HO_571001 := n1_; have HO_577001 := n2_; have BK554 := n3_; have BK565 := n4_; have BK570 := n5_; have BK576 := n6_; have HO581 := n7_; have HB := n8_; clear n0_ n1_ n2_ n3_ n4_ n5_ n6_ n7_ n8_; (try clear hb); (try clear hkp); (try clear hy0)))
            (try simp only [Act.put, List.setIfInBounds_toArray, List.set_cons_zero, List.set_cons_succ])
            go_cut [65] (fun v65 wc => ∃ (kq : Nat) (x65_60 : Bool), v65 = .bool x65_60 ∧ Aside0 (laws_FnExactRestrictSystem.j1 kq a1 t564 x65_60 a0_0 l0_1 t560 t561 t571 t572 = some r) ∧ Aside0 (kq ≤ kj11) ∧ Aside0 (Kd.R (Kd.int .i64) 2 wc w.heap.size (fun k_ => some k_ ≠ ((.slice Ao30 t567.length co30) : Value).ownBlock ∧ some k_ ≠ ((.slice Ao37 t572.length co37) : Value).ownBlock) (.slice Ao23 t561.length co23) t561) ∧ Aside0 (Kd.R (Kd.int .i64) 2 wc w.heap.size (fun k_ => some k_ ≠ ((.slice Ao23 t561.length co23) : Value).ownBlock ∧ some k_ ≠ ((.slice Ao37 t572.length co37) : Value).ownBlock) (.slice Ao30 t567.length co30) t584) ∧ Aside0 (Kd.R (Kd.int .i64) 2 wc w.heap.size (fun k_ => some k_ ≠ ((.slice Ao23 t561.length co23) : Value).ownBlock ∧ some k_ ≠ ((.slice Ao30 t567.length co30) : Value).ownBlock) (.slice Ao37 t572.length co37) t572) ∧ Aside0 (wc.heap[gb554]? = some (.cells #[.int .i64 a0_0, (.slice A0_1 l0_1.length c0_1)] 24 (0, 0))) ∧ Aside0 (wc.heap[gb565]? = some (.cells #[.int .i64 t560, (.slice Ao23 t561.length co23)] 27 (0, 0))) ∧ Aside0 (wc.heap[gb570]? = some (.cells #[.int .i64 t566, (.slice Ao30 t567.length co30)] 27 (0, 0))) ∧ Aside0 (wc.heap[gb576]? = some (.cells #[.int .i64 t571, (.slice Ao37 t572.length co37)] 27 (0, 0))) ∧ Aside0 (Below w.heap.size w wc))
            case first =>
              have H := HC61.out
              clear HC61
              by_cases c71 : t583 < 0
              · rw [if_pos c71] at H
                have c71b0 : decide (t583 < 0) = true := decide_eq_true c71
                clear c71
                (first | rw [c71b0] | (simp only [i64_w, i32_w]; rw [c71b0]) | skip)
                have H' := Aside0.mk H
                clear H
                go_wp2
                go_meet
                case rel => exact ⟨_, (true), (by first | rfl | (simp; done) | (simp [*]; done)), H', ⟨by have := HJ11.out; first | omega | exact Nat.le_refl _⟩, ⟨by (with_reducible repeat (first | apply Kd.R_alloc | apply Kd.R_drewN | apply Kd.R_drew)); exact Kd.R_mono HO_566001.out (fun _ hk => ⟨hk.1, hk.2.1⟩)⟩, ⟨by (with_reducible repeat (first | apply Kd.R_alloc | apply Kd.R_drewN | apply Kd.R_drew)); exact Kd.R_mono HO_571001.out (fun _ hk => ⟨hk.1.1, hk.1.2⟩)⟩, ⟨by (with_reducible repeat (first | apply Kd.R_alloc | apply Kd.R_drewN | apply Kd.R_drew)); exact Kd.R_mono HO_577001.out (fun _ hk => ⟨hk.1, hk.2.1⟩)⟩, ⟨by (with_reducible repeat (first | refine blk_drewN ?_ _ | refine blk_drew ?_ | refine blk_alloc ?_ _)); exact BK554.out⟩, ⟨by (with_reducible repeat (first | refine blk_drewN ?_ _ | refine blk_drew ?_ | refine blk_alloc ?_ _)); exact BK565.out⟩, ⟨by (with_reducible repeat (first | refine blk_drewN ?_ _ | refine blk_drew ?_ | refine blk_alloc ?_ _)); exact BK570.out⟩, ⟨by (with_reducible repeat (first | refine blk_drewN ?_ _ | refine blk_drew ?_ | refine blk_alloc ?_ _)); exact BK576.out⟩, ⟨by repeat (first | (with_reducible first | exact HB.out | apply below_alloc | apply pw_below_drewN | apply below_drew1 | refine below_set ?_ GE554.out | refine below_set ?_ GE565.out | refine below_set ?_ GE570.out | refine below_set ?_ GE576.out) | exact HB.out)⟩⟩
              · rw [if_neg c71] at H
                have c71b0 : decide (t583 < 0) = false := decide_eq_false c71
                clear c71
                (first | rw [c71b0] | (simp only [i64_w, i32_w]; rw [c71b0]) | skip)
                replace H := Option.bind_eq_some_iff.mp H
                obtain ⟨t585, A720, H⟩ := H
                replace H : (if t585 = true then (laws_FnExactRestrictSystem.j1 kj11 a1 t564 (t575 != t564) a0_0 l0_1 t560 t561 t571 t572) else (laws_FnExactRestrictSystem.j1 kj11 a1 t564 true a0_0 l0_1 t560 t561 t571 t572)) = some r := H
                have A72 := Aside0.mk A720
                clear A720
                by_cases c73 : t585 = true
                · subst c73
                  have H1 : (laws_FnExactRestrictSystem.j1 kj11 a1 t564 (t575 != t564) a0_0 l0_1 t560 t561 t571 t572) = some r := by rw [if_pos rfl] at H; exact H
                  clear H
                  have H := H1
                  clear H1
                  have H' := Aside0.mk H
                  clear H
                  have hnb74 := NB576_554.out
                  have hnc74 := NB554_576.out
                  have hnb75 := NB576_565.out
                  have hnc75 := NB565_576.out
                  have hnb76 := NB576_570.out
                  have hnc76 := NB570_576.out
                  have hcz77_0 : w70.cell? ⟨gb576, 0, none⟩ = some (.int .i64 t571) := (blk_cell BK576.out 0).trans rfl
                  have hcz77_1 : w70.cell? ⟨gb576, 1, none⟩ = some (.slice Ao37 t572.length co37) := (blk_cell BK576.out 1).trans rfl
                  have hfz77_0 := blk_frozen BK576.out 0
                  have hfz77_1 := blk_frozen BK576.out 1
                  have hnb78 := NB565_554.out
                  have hnc78 := NB554_565.out
                  have hnb79 := NB565_570.out
                  have hnc79 := NB570_565.out
                  have hcz80_0 : w70.cell? ⟨gb565, 0, none⟩ = some (.int .i64 t560) := (blk_cell BK565.out 0).trans rfl
                  have hcz80_1 : w70.cell? ⟨gb565, 1, none⟩ = some (.slice Ao23 t561.length co23) := (blk_cell BK565.out 1).trans rfl
                  have hfz80_0 := blk_frozen BK565.out 0
                  have hfz80_1 := blk_frozen BK565.out 1
                  go_wp2_with (first | (go_at_call 19; (with_reducible refine (laws_eqSystem.calls kj11 t571 _ _ t572 t560 _ _ t561 true _ ?side1 ?side2 ?side3 ?side4 A72.out).mono ?_); (case side1 => repeat (first | exact (Kd.R_reads' HO_577001.out).2.2 | (with_reducible refine Kd.C_alloc ?_ _) | (with_reducible refine Kd.C_drewN ?_ _) | (with_reducible refine Kd.C_drew ?_))); (case side2 => exact (Kd.R_reads' HO_577001.out).2.1); (case side3 => repeat (first | exact (Kd.R_reads' HO_566001.out).2.2 | (with_reducible refine Kd.C_alloc ?_ _) | (with_reducible refine Kd.C_drewN ?_ _) | (with_reducible refine Kd.C_drew ?_))); (case side4 => exact (Kd.R_reads' HO_566001.out).2.1); rintro e w81 ⟨rfl, hb⟩; have n0_ := Aside0.mk (Kd.R_below (by (with_reducible repeat (first | apply Kd.R_alloc | apply Kd.R_drewN | apply Kd.R_drew)); exact HO_566001.out) hb); have n1_ := Aside0.mk (Kd.R_below (by (with_reducible repeat (first | apply Kd.R_alloc | apply Kd.R_drewN | apply Kd.R_drew)); exact HO_571001.out) hb); have n2_ := Aside0.mk (Kd.R_below (by (with_reducible repeat (first | apply Kd.R_alloc | apply Kd.R_drewN | apply Kd.R_drew)); exact HO_577001.out) hb); have n3_ := Aside0.mk (Kd.R_below (by (with_reducible repeat (first | apply Kd.R_alloc | apply Kd.R_drewN | apply Kd.R_drew)); exact HO581.out) hb); have n4_ := Aside0.mk (blk_below (g := gb554) (o := .cells #[.int .i64 a0_0, .slice A0_1 l0_1.length c0_1] 24 (0, 0)) (by (with_reducible repeat (first | refine blk_drewN ?_ _ | refine blk_drew ?_ | refine blk_alloc ?_ _)); exact BK554.out) hb); have n5_ := Aside0.mk (blk_below (g := gb565) (o := .cells #[.int .i64 t560, .slice Ao23 t561.length co23] 27 (0, 0)) (by (with_reducible repeat (first | refine blk_drewN ?_ _ | refine blk_drew ?_ | refine blk_alloc ?_ _)); exact BK565.out) hb); have n6_ := Aside0.mk (blk_below (g := gb570) (o := .cells #[.int .i64 t566, .slice Ao30 t567.length co30] 27 (0, 0)) (by (with_reducible repeat (first | refine blk_drewN ?_ _ | refine blk_drew ?_ | refine blk_alloc ?_ _)); exact BK570.out) hb); have n7_ := Aside0.mk (blk_below (g := gb576) (o := .cells #[.int .i64 t571, .slice Ao37 t572.length co37] 27 (0, 0)) (by (with_reducible repeat (first | refine blk_drewN ?_ _ | refine blk_drew ?_ | refine blk_alloc ?_ _)); exact BK576.out) hb); have n8_ := Aside0.mk (below_step (by repeat (first | (with_reducible first | exact HB.out | apply below_alloc | apply pw_below_drewN | apply below_drew1 | refine below_set ?_ GE554.out | refine below_set ?_ GE565.out | refine below_set ?_ GE570.out | refine below_set ?_ GE576.out) | exact HB.out)) hb); clear HO_566001; clear HO_571001; clear HO_577001; clear HO581; clear BK554; clear BK565; clear BK570; clear BK576; clear HB; have HO_566001 := n0_; have HO_571001 := n1_; have HO_577001 := n2_; have HO581 := n3_; have BK554 := n4_; have BK565 := n5_; have BK570 := n6_; have BK576 := n7_; have HB := n8_; clear n0_ n1_ n2_ n3_ n4_ n5_ n6_ n7_ n8_; (try clear hb); (try clear hb2); (try clear hk); (try clear hi)))
                  go_meet
                  case rel => exact ⟨_, ((t575 != t564)), (by first | rfl | (simp; done) | (simp [*]; done)), H', ⟨by have := HJ11.out; first | omega | exact Nat.le_refl _⟩, ⟨by (with_reducible repeat (first | apply Kd.R_alloc | apply Kd.R_drewN | apply Kd.R_drew)); exact Kd.R_mono HO_566001.out (fun _ hk => ⟨hk.1, hk.2.1⟩)⟩, ⟨by (with_reducible repeat (first | apply Kd.R_alloc | apply Kd.R_drewN | apply Kd.R_drew)); exact Kd.R_mono HO_571001.out (fun _ hk => ⟨hk.1.1, hk.1.2⟩)⟩, ⟨by (with_reducible repeat (first | apply Kd.R_alloc | apply Kd.R_drewN | apply Kd.R_drew)); exact Kd.R_mono HO_577001.out (fun _ hk => ⟨hk.1, hk.2.1⟩)⟩, ⟨by (with_reducible repeat (first | refine blk_drewN ?_ _ | refine blk_drew ?_ | refine blk_alloc ?_ _)); exact BK554.out⟩, ⟨by (with_reducible repeat (first | refine blk_drewN ?_ _ | refine blk_drew ?_ | refine blk_alloc ?_ _)); exact BK565.out⟩, ⟨by (with_reducible repeat (first | refine blk_drewN ?_ _ | refine blk_drew ?_ | refine blk_alloc ?_ _)); exact BK570.out⟩, ⟨by (with_reducible repeat (first | refine blk_drewN ?_ _ | refine blk_drew ?_ | refine blk_alloc ?_ _)); exact BK576.out⟩, ⟨by repeat (first | (with_reducible first | exact HB.out | apply below_alloc | apply pw_below_drewN | apply below_drew1 | refine below_set ?_ GE554.out | refine below_set ?_ GE565.out | refine below_set ?_ GE570.out | refine below_set ?_ GE576.out) | exact HB.out)⟩⟩
                · replace c73 := Bool.eq_false_iff.mpr c73
                  subst c73
                  have H1 : (laws_FnExactRestrictSystem.j1 kj11 a1 t564 true a0_0 l0_1 t560 t561 t571 t572) = some r := by rw [if_neg (show ¬ (false = true) by decide)] at H; exact H
                  clear H
                  have H := H1
                  clear H1
                  have H' := Aside0.mk H
                  clear H
                  have hnb82 := NB576_554.out
                  have hnc82 := NB554_576.out
                  have hnb83 := NB576_565.out
                  have hnc83 := NB565_576.out
                  have hnb84 := NB576_570.out
                  have hnc84 := NB570_576.out
                  have hcz85_0 : w70.cell? ⟨gb576, 0, none⟩ = some (.int .i64 t571) := (blk_cell BK576.out 0).trans rfl
                  have hcz85_1 : w70.cell? ⟨gb576, 1, none⟩ = some (.slice Ao37 t572.length co37) := (blk_cell BK576.out 1).trans rfl
                  have hfz85_0 := blk_frozen BK576.out 0
                  have hfz85_1 := blk_frozen BK576.out 1
                  have hnb86 := NB565_554.out
                  have hnc86 := NB554_565.out
                  have hnb87 := NB565_570.out
                  have hnc87 := NB570_565.out
                  have hcz88_0 : w70.cell? ⟨gb565, 0, none⟩ = some (.int .i64 t560) := (blk_cell BK565.out 0).trans rfl
                  have hcz88_1 : w70.cell? ⟨gb565, 1, none⟩ = some (.slice Ao23 t561.length co23) := (blk_cell BK565.out 1).trans rfl
                  have hfz88_0 := blk_frozen BK565.out 0
                  have hfz88_1 := blk_frozen BK565.out 1
                  go_wp2_with (first | (go_at_call 19; (with_reducible refine (laws_eqSystem.calls kj11 t571 _ _ t572 t560 _ _ t561 false _ ?side1 ?side2 ?side3 ?side4 A72.out).mono ?_); (case side1 => repeat (first | exact (Kd.R_reads' HO_577001.out).2.2 | (with_reducible refine Kd.C_alloc ?_ _) | (with_reducible refine Kd.C_drewN ?_ _) | (with_reducible refine Kd.C_drew ?_))); (case side2 => exact (Kd.R_reads' HO_577001.out).2.1); (case side3 => repeat (first | exact (Kd.R_reads' HO_566001.out).2.2 | (with_reducible refine Kd.C_alloc ?_ _) | (with_reducible refine Kd.C_drewN ?_ _) | (with_reducible refine Kd.C_drew ?_))); (case side4 => exact (Kd.R_reads' HO_566001.out).2.1); rintro e w89 ⟨rfl, hb⟩; have n0_ := Aside0.mk (Kd.R_below (by (with_reducible repeat (first | apply Kd.R_alloc | apply Kd.R_drewN | apply Kd.R_drew)); exact HO_566001.out) hb); have n1_ := Aside0.mk (Kd.R_below (by (with_reducible repeat (first | apply Kd.R_alloc | apply Kd.R_drewN | apply Kd.R_drew)); exact HO_571001.out) hb); have n2_ := Aside0.mk (Kd.R_below (by (with_reducible repeat (first | apply Kd.R_alloc | apply Kd.R_drewN | apply Kd.R_drew)); exact HO_577001.out) hb); have n3_ := Aside0.mk (Kd.R_below (by (with_reducible repeat (first | apply Kd.R_alloc | apply Kd.R_drewN | apply Kd.R_drew)); exact HO581.out) hb); have n4_ := Aside0.mk (blk_below (g := gb554) (o := .cells #[.int .i64 a0_0, .slice A0_1 l0_1.length c0_1] 24 (0, 0)) (by (with_reducible repeat (first | refine blk_drewN ?_ _ | refine blk_drew ?_ | refine blk_alloc ?_ _)); exact BK554.out) hb); have n5_ := Aside0.mk (blk_below (g := gb565) (o := .cells #[.int .i64 t560, .slice Ao23 t561.length co23] 27 (0, 0)) (by (with_reducible repeat (first | refine blk_drewN ?_ _ | refine blk_drew ?_ | refine blk_alloc ?_ _)); exact BK565.out) hb); have n6_ := Aside0.mk (blk_below (g := gb570) (o := .cells #[.int .i64 t566, .slice Ao30 t567.length co30] 27 (0, 0)) (by (with_reducible repeat (first | refine blk_drewN ?_ _ | refine blk_drew ?_ | refine blk_alloc ?_ _)); exact BK570.out) hb); have n7_ := Aside0.mk (blk_below (g := gb576) (o := .cells #[.int .i64 t571, .slice Ao37 t572.length co37] 27 (0, 0)) (by (with_reducible repeat (first | refine blk_drewN ?_ _ | refine blk_drew ?_ | refine blk_alloc ?_ _)); exact BK576.out) hb); have n8_ := Aside0.mk (below_step (by repeat (first | (with_reducible first | exact HB.out | apply below_alloc | apply pw_below_drewN | apply below_drew1 | refine below_set ?_ GE554.out | refine below_set ?_ GE565.out | refine below_set ?_ GE570.out | refine below_set ?_ GE576.out) | exact HB.out)) hb); clear HO_566001; clear HO_571001; clear HO_577001; clear HO581; clear BK554; clear BK565; clear BK570; clear BK576; clear HB; have HO_566001 := n0_; have HO_571001 := n1_; have HO_577001 := n2_; have HO581 := n3_; have BK554 := n4_; have BK565 := n5_; have BK570 := n6_; have BK576 := n7_; have HB := n8_; clear n0_ n1_ n2_ n3_ n4_ n5_ n6_ n7_ n8_; (try clear hb); (try clear hb2); (try clear hk); (try clear hi)))
                  go_meet
                  case rel => exact ⟨_, (true), (by first | rfl | (simp; done) | (simp [*]; done)), H', ⟨by have := HJ11.out; first | omega | exact Nat.le_refl _⟩, ⟨by (with_reducible repeat (first | apply Kd.R_alloc | apply Kd.R_drewN | apply Kd.R_drew)); exact Kd.R_mono HO_566001.out (fun _ hk => ⟨hk.1, hk.2.1⟩)⟩, ⟨by (with_reducible repeat (first | apply Kd.R_alloc | apply Kd.R_drewN | apply Kd.R_drew)); exact Kd.R_mono HO_571001.out (fun _ hk => ⟨hk.1.1, hk.1.2⟩)⟩, ⟨by (with_reducible repeat (first | apply Kd.R_alloc | apply Kd.R_drewN | apply Kd.R_drew)); exact Kd.R_mono HO_577001.out (fun _ hk => ⟨hk.1, hk.2.1⟩)⟩, ⟨by (with_reducible repeat (first | refine blk_drewN ?_ _ | refine blk_drew ?_ | refine blk_alloc ?_ _)); exact BK554.out⟩, ⟨by (with_reducible repeat (first | refine blk_drewN ?_ _ | refine blk_drew ?_ | refine blk_alloc ?_ _)); exact BK565.out⟩, ⟨by (with_reducible repeat (first | refine blk_drewN ?_ _ | refine blk_drew ?_ | refine blk_alloc ?_ _)); exact BK570.out⟩, ⟨by (with_reducible repeat (first | refine blk_drewN ?_ _ | refine blk_drew ?_ | refine blk_alloc ?_ _)); exact BK576.out⟩, ⟨by repeat (first | (with_reducible first | exact HB.out | apply below_alloc | apply pw_below_drewN | apply below_drew1 | refine below_set ?_ GE554.out | refine below_set ?_ GE565.out | refine below_set ?_ GE570.out | refine below_set ?_ GE576.out) | exact HB.out)⟩⟩
            case rest =>
              clear HC61
              try clear c1
              try clear c2
              try clear p2
              try clear c3
              try clear c4
              try clear c4b0
              try clear c5
              try clear c6
              try clear c7
              try clear c8
              try clear c11
              try clear c15
              try clear c17
              try clear c19
              try clear c21
              try clear c24
              try clear c27
              try clear c28
              try clear c33
              try clear c34
              try clear c35
              try clear c39
              try clear c40
              try clear c41
              try clear c42
              try clear c44
              try clear c45
              try clear c46
              try clear c48
              try clear c49
              try clear c50
              try clear c52
              try clear c53
              try clear c56
              try clear c59
              try clear c66
              try clear c67
              try clear c68
              try clear c71
              try clear c71b0
              try clear c73
              try clear c74
              try clear c75
              try clear c76
              try clear c78
              try clear c79
              try clear c82
              try clear c83
              try clear c84
              try clear c86
              try clear c87
              try clear hcz14_0
              try clear hcz14_1
              try clear hcz16_0
              try clear hcz16_1
              try clear hcz22_0
              try clear hcz22_1
              try clear hcz24_0
              try clear hcz24_1
              try clear hcz29_0
              try clear hcz29_1
              try clear hcz36_0
              try clear hcz36_1
              try clear hcz43_0
              try clear hcz43_1
              try clear hcz46_0
              try clear hcz46_1
              try clear hcz51_0
              try clear hcz51_1
              try clear hcz54_0
              try clear hcz54_1
              try clear hcz69_0
              try clear hcz69_1
              try clear hcz6_0
              try clear hcz6_1
              try clear hcz77_0
              try clear hcz77_1
              try clear hcz80_0
              try clear hcz80_1
              try clear hcz85_0
              try clear hcz85_1
              try clear hcz88_0
              try clear hcz88_1
              try clear hfz14_0
              try clear hfz14_1
              try clear hfz16_0
              try clear hfz16_1
              try clear hfz22_0
              try clear hfz22_1
              try clear hfz24_0
              try clear hfz24_1
              try clear hfz29_0
              try clear hfz29_1
              try clear hfz36_0
              try clear hfz36_1
              try clear hfz43_0
              try clear hfz43_1
              try clear hfz46_0
              try clear hfz46_1
              try clear hfz51_0
              try clear hfz51_1
              try clear hfz54_0
              try clear hfz54_1
              try clear hfz69_0
              try clear hfz69_1
              try clear hfz6_0
              try clear hfz6_1
              try clear hfz77_0
              try clear hfz77_1
              try clear hfz80_0
              try clear hfz80_1
              try clear hfz85_0
              try clear hfz85_1
              try clear hfz88_0
              try clear hfz88_1
              try clear p2
              obtain ⟨kq, x65_60, rfl, HA, HJ60, HO_566001, HO_571001, HO_577001, BK554, BK565, BK570, BK576, HB⟩ := hcut
              have hl571001_60 := (Kd.R_reads' HO_571001.out).1
              rw [hl571001_60] at HO_571001
              (try simp only [hl571001_60])
              (try simp only [hl571001_60] at BK554)
              (try simp only [hl571001_60] at BK565)
              (try simp only [hl571001_60] at BK570)
              (try simp only [hl571001_60] at BK576)
              (try simp only [hl571001_60] at HO_566001)
              (try simp only [hl571001_60] at HO_577001)
              cases kq with
              | zero => exact absurd HA.out (by simp [laws_FnExactRestrictSystem.j1])
              | succ kj60 =>
                have H := HA.out
                clear HA
                simp only [laws_FnExactRestrictSystem.j1] at H
                by_cases c90 : x65_60 = true
                · subst c90
                  have H1 : (some false) = some r := by rw [if_pos rfl] at H; exact H
                  clear H
                  have H := H1
                  clear H1
                  obtain rfl := Option.some.inj H
                  go_wp2
                  go_ret
                  exact ⟨by first | rfl | (simp [errW_none, errW_some] <;> rfl) | (simp [*, errW_none, errW_some] <;> rfl), by repeat (first | (with_reducible first | exact HB.out | apply below_alloc | apply pw_below_drewN | apply below_drew1 | refine below_set ?_ GE554.out | refine below_set ?_ GE565.out | refine below_set ?_ GE570.out | refine below_set ?_ GE576.out) | exact HB.out)⟩
                · replace c90 := Bool.eq_false_iff.mpr c90
                  subst c90
                  have H1 : ((laws_markSystem.f kj60 t571 t572 1).bind fun bt586 => ((laws_heldSystem.f kj60 t571 bt586.2 1).bind fun t588 => (if t588 < 0 then (some false) else (if t588 = bt586.1 then ((laws_toSystem.f kj60 a0_0 l0_1).bind fun bt589 => ((impl_RestrictSystem.f kj60 bt589.1 bt589.2 a1).bind fun bt593 => ((laws_eqSystem.f kj60 bt593.1 bt593.2.1 t560 t561).bind fun t599 => (if t599 = true then (laws_FnExactRestrictSystem.j2 kj60 bt586.1 (bt593.2.2 != t564) t571 bt586.2) else (laws_FnExactRestrictSystem.j2 kj60 bt586.1 true t571 bt586.2))))) else (some false))))) = some r := by rw [if_neg (show ¬ (false = true) by decide)] at H; exact H
                  clear H
                  have H := H1
                  clear H1
                  replace H := Option.bind_eq_some_iff.mp H
                  obtain ⟨⟨t586, t587⟩, A910, H⟩ := H
                  replace H : ((laws_heldSystem.f kj60 t571 t587 1).bind fun t588 => (if t588 < 0 then (some false) else (if t588 = t586 then ((laws_toSystem.f kj60 a0_0 l0_1).bind fun bt589 => ((impl_RestrictSystem.f kj60 bt589.1 bt589.2 a1).bind fun bt593 => ((laws_eqSystem.f kj60 bt593.1 bt593.2.1 t560 t561).bind fun t599 => (if t599 = true then (laws_FnExactRestrictSystem.j2 kj60 t586 (bt593.2.2 != t564) t571 t587) else (laws_FnExactRestrictSystem.j2 kj60 t586 true t571 t587))))) else (some false)))) = some r := H
                  have A91 := Aside0.mk A910
                  clear A910
                  replace H := Option.bind_eq_some_iff.mp H
                  obtain ⟨t588, A920, H⟩ := H
                  replace H : (if t588 < 0 then (some false) else (if t588 = t586 then ((laws_toSystem.f kj60 a0_0 l0_1).bind fun bt589 => ((impl_RestrictSystem.f kj60 bt589.1 bt589.2 a1).bind fun bt593 => ((laws_eqSystem.f kj60 bt593.1 bt593.2.1 t560 t561).bind fun t599 => (if t599 = true then (laws_FnExactRestrictSystem.j2 kj60 t586 (bt593.2.2 != t564) t571 t587) else (laws_FnExactRestrictSystem.j2 kj60 t586 true t571 t587))))) else (some false))) = some r := H
                  have A92 := Aside0.mk A920
                  clear A920
                  by_cases c93 : t588 < 0
                  · rw [if_pos c93] at H
                    have c93b0 : decide (t588 < 0) = true := decide_eq_true c93
                    clear c93
                    obtain rfl := Option.some.inj H
                    have hnb94 := NB576_554.out
                    have hnc94 := NB554_576.out
                    have hnb95 := NB576_565.out
                    have hnc95 := NB565_576.out
                    have hnb96 := NB576_570.out
                    have hnc96 := NB570_576.out
                    have hcz97_0 : wc.cell? ⟨gb576, 0, none⟩ = some (.int .i64 t571) := (blk_cell BK576.out 0).trans rfl
                    have hcz97_1 : wc.cell? ⟨gb576, 1, none⟩ = some (.slice Ao37 t572.length co37) := (blk_cell BK576.out 1).trans rfl
                    have hfz97_0 := blk_frozen BK576.out 0
                    have hfz97_1 := blk_frozen BK576.out 1
                    go_wp2_with (first | ((with_reducible refine gate_callee (f := 24) rfl ?_); refine goesL_ (some 68) rfl rfl Try.func24 (by kernel_rfl) rfl #[.agg #[.int .i64 t571, .slice Ao37 t572.length co37], .int .i64 1] rfl (by (try simp only [List.map_toArray, List.map_cons, List.map_nil]); first | done | rfl | (simp only [List.length_drop, List.length_take]; rfl)) ?_; (with_reducible refine (laws_markSystem.calls kj60 t571 (fun k_ => some k_ = (.slice Ao37 t572.length co37 : Value).ownBlock) (.slice Ao37 t572.length co37) t572 1 t586 t587 w _ ?side1 ?side2 A91.out).mono ?_); (case side1 => repeat (first | (with_reducible first | exact HB.out | apply below_alloc | apply pw_below_drewN | apply below_drew1 | refine below_set ?_ GE554.out | refine below_set ?_ GE565.out | refine below_set ?_ GE570.out | refine below_set ?_ GE576.out) | exact HB.out)); (case side2 => exact Kd.R_tight rfl HO_577001.out); rintro e w98 ⟨rfl, hy0, hb, hkp⟩; refine ⟨_, rfl, ?_⟩; have n0_ := Aside0.mk (Kd.R_mono (ok' := fun k_ => some k_ ≠ (.slice Ao30 t584.length co30 : Value).ownBlock ∧ some k_ ≠ (.slice Ao37 t572.length co37 : Value).ownBlock) (Kd.R_keptB (HO_566001.out) hkp (fun k_ hk_ hs_ => (hk_.2) hs_)) (fun k_ hk_ => ⟨hk_.1.1, hk_.1.2⟩)); have n1_ := Aside0.mk (Kd.R_mono (ok' := fun k_ => some k_ ≠ (.slice Ao23 t561.length co23 : Value).ownBlock ∧ some k_ ≠ (.slice Ao37 t572.length co37 : Value).ownBlock) (Kd.R_keptB (HO_571001.out) hkp (fun k_ hk_ hs_ => (hk_.2) hs_)) (fun k_ hk_ => ⟨hk_.1.1, hk_.1.2⟩)); have n2_ := Aside0.mk (Kd.R_reok rfl hy0 (fun k_ e_ => HO_577001.out.1 k_ e_)); have n3_ := Aside0.mk (blk_kept (by (with_reducible repeat (first | refine blk_drewN ?_ _ | refine blk_drew ?_ | refine blk_alloc ?_ _)); exact BK554.out) hkp (fun hs_ => (fun e_ => (Kd.R_ne HO_577001.out BK554.out (by decide)) e_) hs_)); have n4_ := Aside0.mk (blk_kept (by (with_reducible repeat (first | refine blk_drewN ?_ _ | refine blk_drew ?_ | refine blk_alloc ?_ _)); exact BK565.out) hkp (fun hs_ => (fun e_ => (Kd.R_ne HO_577001.out BK565.out (by decide)) e_) hs_)); have n5_ := Aside0.mk (blk_kept (by (with_reducible repeat (first | refine blk_drewN ?_ _ | refine blk_drew ?_ | refine blk_alloc ?_ _)); exact BK570.out) hkp (fun hs_ => (fun e_ => (Kd.R_ne HO_577001.out BK570.out (by decide)) e_) hs_)); have n6_ := Aside0.mk (blk_kept (by (with_reducible repeat (first | refine blk_drewN ?_ _ | refine blk_drew ?_ | refine blk_alloc ?_ _)); exact BK576.out) hkp (fun hs_ => (fun e_ => (Kd.R_ne HO_577001.out BK576.out (by decide)) e_) hs_)); have n7_ := Aside0.mk (hb); clear HO_566001; clear HO_571001; clear HO_577001; clear BK554; clear BK565; clear BK570; clear BK576; clear HB; have HO_566001 := n0_; have HO_571001 := n1_; have HO_577001 := n2_; have BK554 := n3_; have BK565 := n4_; have BK570 := n5_; have BK576 := n6_; have HB := n7_; clear n0_ n1_ n2_ n3_ n4_ n5_ n6_ n7_; (try clear hb); (try clear hkp); (try clear hy0); have hcz99_0 : w98.cell? ⟨gb576, 0, none⟩ = some (.int .i64 t571) := (blk_cell BK576.out 0).trans rfl; have hcz99_1 : w98.cell? ⟨gb576, 1, none⟩ = some (.slice Ao37 t572.length co37) := (blk_cell BK576.out 1).trans rfl; have hfz99_0 := blk_frozen BK576.out 0; have hfz99_1 := blk_frozen BK576.out 1) | ((with_reducible refine gate_callee (f := 25) rfl ?_); refine goesL_ (some 71) rfl rfl Try.func25 (by kernel_rfl) rfl #[.agg #[.int .i64 t571, .slice Ao37 t587.length co37], .int .i64 1] rfl (by (try simp only [List.map_toArray, List.map_cons, List.map_nil]); first | done | (rw [show t587.length = t572.length from (Kd.R_reads' HO_577001.out).1.symm] <;> rfl) | rfl | (simp only [List.length_drop, List.length_take]; rfl)) ?_; (with_reducible refine (laws_heldSystem.calls kj60 t571 _ _ t587 1 t588 _ ?side1 ?side2 A92.out).mono ?_); (case side1 => repeat (first | exact (Kd.R_reads' HO_577001.out).2.2 | (with_reducible refine Kd.C_alloc ?_ _) | (with_reducible refine Kd.C_drewN ?_ _) | (with_reducible refine Kd.C_drew ?_))); (case side2 => rw [show t587.length = t572.length from (Kd.R_reads' HO_577001.out).1.symm]; exact (Kd.R_reads' HO_577001.out).2.1); rintro e w100 ⟨rfl, hb⟩; refine ⟨_, rfl, ?_⟩; have n0_ := Aside0.mk (Kd.R_below (by (with_reducible repeat (first | apply Kd.R_alloc | apply Kd.R_drewN | apply Kd.R_drew)); exact HO_566001.out) hb); have n1_ := Aside0.mk (Kd.R_below (by (with_reducible repeat (first | apply Kd.R_alloc | apply Kd.R_drewN | apply Kd.R_drew)); exact HO_571001.out) hb); have n2_ := Aside0.mk (Kd.R_below (by (with_reducible repeat (first | apply Kd.R_alloc | apply Kd.R_drewN | apply Kd.R_drew)); exact HO_577001.out) hb); have n3_ := Aside0.mk (blk_below (g := gb554) (o := .cells #[.int .i64 a0_0, .slice A0_1 l0_1.length c0_1] 24 (0, 0)) (by (with_reducible repeat (first | refine blk_drewN ?_ _ | refine blk_drew ?_ | refine blk_alloc ?_ _)); exact BK554.out) hb); have n4_ := Aside0.mk (blk_below (g := gb565) (o := .cells #[.int .i64 t560, .slice Ao23 t561.length co23] 27 (0, 0)) (by (with_reducible repeat (first | refine blk_drewN ?_ _ | refine blk_drew ?_ | refine blk_alloc ?_ _)); exact BK565.out) hb); have n5_ := Aside0.mk (blk_below (g := gb570) (o := .cells #[.int .i64 t566, .slice Ao30 t584.length co30] 27 (0, 0)) (by (with_reducible repeat (first | refine blk_drewN ?_ _ | refine blk_drew ?_ | refine blk_alloc ?_ _)); exact BK570.out) hb); have n6_ := Aside0.mk (blk_below (g := gb576) (o := .cells #[.int .i64 t571, .slice Ao37 t572.length co37] 27 (0, 0)) (by (with_reducible repeat (first | refine blk_drewN ?_ _ | refine blk_drew ?_ | refine blk_alloc ?_ _)); exact BK576.out) hb); have n7_ := Aside0.mk (below_step (by repeat (first | (with_reducible first | exact HB.out | apply below_alloc | apply pw_below_drewN | apply below_drew1 | refine below_set ?_ GE554.out | refine below_set ?_ GE565.out | refine below_set ?_ GE570.out | refine below_set ?_ GE576.out) | exact HB.out)) hb); clear HO_566001; clear HO_571001; clear HO_577001; clear BK554; clear BK565; clear BK570; clear BK576; clear HB; have HO_566001 := n0_; have HO_571001 := n1_; have HO_577001 := n2_; have BK554 := n3_; have BK565 := n4_; have BK570 := n5_; have BK576 := n6_; have HB := n7_; clear n0_ n1_ n2_ n3_ n4_ n5_ n6_ n7_; (try clear hb); (try clear hb2); (try clear hk); (try clear hi)))
                    go_ret
                    exact ⟨by first | rfl | (simp [errW_none, errW_some] <;> rfl) | (simp [*, errW_none, errW_some] <;> rfl), by repeat (first | (with_reducible first | exact HB.out | apply below_alloc | apply pw_below_drewN | apply below_drew1 | refine below_set ?_ GE554.out | refine below_set ?_ GE565.out | refine below_set ?_ GE570.out | refine below_set ?_ GE576.out) | exact HB.out)⟩
                  · rw [if_neg c93] at H
                    have c93b0 : decide (t588 < 0) = false := decide_eq_false c93
                    clear c93
                    by_cases c101 : t588 = t586
                    · rw [if_pos c101] at H
                      have c101b0 : (t588 == t586) = true := beq_iff_eq.mpr c101
                      have c101b1 : (t588 != t586) = false := bne_eq_false_iff_eq.mpr c101
                      clear c101
                      replace H := Option.bind_eq_some_iff.mp H
                      obtain ⟨⟨t589, t590⟩, A1020, H⟩ := H
                      replace H : ((impl_RestrictSystem.f kj60 t589 t590 a1).bind fun bt593 => ((laws_eqSystem.f kj60 bt593.1 bt593.2.1 t560 t561).bind fun t599 => (if t599 = true then (laws_FnExactRestrictSystem.j2 kj60 t586 (bt593.2.2 != t564) t571 t587) else (laws_FnExactRestrictSystem.j2 kj60 t586 true t571 t587)))) = some r := H
                      have A102 := Aside0.mk A1020
                      clear A1020
                      replace H := Option.bind_eq_some_iff.mp H
                      obtain ⟨⟨t593, t594, t597⟩, A1030, H⟩ := H
                      replace H : ((laws_eqSystem.f kj60 t593 t594 t560 t561).bind fun t599 => (if t599 = true then (laws_FnExactRestrictSystem.j2 kj60 t586 (t597 != t564) t571 t587) else (laws_FnExactRestrictSystem.j2 kj60 t586 true t571 t587))) = some r := H
                      have A103 := Aside0.mk A1030
                      clear A1030
                      have HC104 := Aside0.mk H
                      clear H
                      have hnb105 := NB576_554.out
                      have hnc105 := NB554_576.out
                      have hnb106 := NB576_565.out
                      have hnc106 := NB565_576.out
                      have hnb107 := NB576_570.out
                      have hnc107 := NB570_576.out
                      have hcz108_0 : wc.cell? ⟨gb576, 0, none⟩ = some (.int .i64 t571) := (blk_cell BK576.out 0).trans rfl
                      have hcz108_1 : wc.cell? ⟨gb576, 1, none⟩ = some (.slice Ao37 t572.length co37) := (blk_cell BK576.out 1).trans rfl
                      have hfz108_0 := blk_frozen BK576.out 0
                      have hfz108_1 := blk_frozen BK576.out 1
                      go_upto_region 25 with (first | ((with_reducible refine gate_callee (f := 24) rfl ?_); refine goesL_ (some 68) rfl rfl Try.func24 (by kernel_rfl) rfl #[.agg #[.int .i64 t571, .slice Ao37 t572.length co37], .int .i64 1] rfl (by (try simp only [List.map_toArray, List.map_cons, List.map_nil]); first | done | rfl | (simp only [List.length_drop, List.length_take]; rfl)) ?_; (with_reducible refine (laws_markSystem.calls kj60 t571 (fun k_ => some k_ = (.slice Ao37 t572.length co37 : Value).ownBlock) (.slice Ao37 t572.length co37) t572 1 t586 t587 w _ ?side1 ?side2 A91.out).mono ?_); (case side1 => repeat (first | (with_reducible first | exact HB.out | apply below_alloc | apply pw_below_drewN | apply below_drew1 | refine below_set ?_ GE554.out | refine below_set ?_ GE565.out | refine below_set ?_ GE570.out | refine below_set ?_ GE576.out) | exact HB.out)); (case side2 => exact Kd.R_tight rfl HO_577001.out); rintro e w109 ⟨rfl, hy0, hb, hkp⟩; refine ⟨_, rfl, ?_⟩; have n0_ := Aside0.mk (Kd.R_mono (ok' := fun k_ => some k_ ≠ (.slice Ao30 t584.length co30 : Value).ownBlock ∧ some k_ ≠ (.slice Ao37 t572.length co37 : Value).ownBlock) (Kd.R_keptB (HO_566001.out) hkp (fun k_ hk_ hs_ => (hk_.2) hs_)) (fun k_ hk_ => ⟨hk_.1.1, hk_.1.2⟩)); have n1_ := Aside0.mk (Kd.R_mono (ok' := fun k_ => some k_ ≠ (.slice Ao23 t561.length co23 : Value).ownBlock ∧ some k_ ≠ (.slice Ao37 t572.length co37 : Value).ownBlock) (Kd.R_keptB (HO_571001.out) hkp (fun k_ hk_ hs_ => (hk_.2) hs_)) (fun k_ hk_ => ⟨hk_.1.1, hk_.1.2⟩)); have n2_ := Aside0.mk (Kd.R_reok rfl hy0 (fun k_ e_ => HO_577001.out.1 k_ e_)); have n3_ := Aside0.mk (blk_kept (by (with_reducible repeat (first | refine blk_drewN ?_ _ | refine blk_drew ?_ | refine blk_alloc ?_ _)); exact BK554.out) hkp (fun hs_ => (fun e_ => (Kd.R_ne HO_577001.out BK554.out (by decide)) e_) hs_)); have n4_ := Aside0.mk (blk_kept (by (with_reducible repeat (first | refine blk_drewN ?_ _ | refine blk_drew ?_ | refine blk_alloc ?_ _)); exact BK565.out) hkp (fun hs_ => (fun e_ => (Kd.R_ne HO_577001.out BK565.out (by decide)) e_) hs_)); have n5_ := Aside0.mk (blk_kept (by (with_reducible repeat (first | refine blk_drewN ?_ _ | refine blk_drew ?_ | refine blk_alloc ?_ _)); exact BK570.out) hkp (fun hs_ => (fun e_ => (Kd.R_ne HO_577001.out BK570.out (by decide)) e_) hs_)); have n6_ := Aside0.mk (blk_kept (by (with_reducible repeat (first | refine blk_drewN ?_ _ | refine blk_drew ?_ | refine blk_alloc ?_ _)); exact BK576.out) hkp (fun hs_ => (fun e_ => (Kd.R_ne HO_577001.out BK576.out (by decide)) e_) hs_)); have n7_ := Aside0.mk (hb); clear HO_566001; clear HO_571001; clear HO_577001; clear BK554; clear BK565; clear BK570; clear BK576; clear HB; have HO_566001 := n0_; have HO_571001 := n1_; have HO_577001 := n2_; have BK554 := n3_; have BK565 := n4_; have BK570 := n5_; have BK576 := n6_; have HB := n7_; clear n0_ n1_ n2_ n3_ n4_ n5_ n6_ n7_; (try clear hb); (try clear hkp); (try clear hy0); have hcz110_0 : w109.cell? ⟨gb576, 0, none⟩ = some (.int .i64 t571) := (blk_cell BK576.out 0).trans rfl; have hcz110_1 : w109.cell? ⟨gb576, 1, none⟩ = some (.slice Ao37 t572.length co37) := (blk_cell BK576.out 1).trans rfl; have hfz110_0 := blk_frozen BK576.out 0; have hfz110_1 := blk_frozen BK576.out 1) | ((with_reducible refine gate_callee (f := 25) rfl ?_); refine goesL_ (some 71) rfl rfl Try.func25 (by kernel_rfl) rfl #[.agg #[.int .i64 t571, .slice Ao37 t587.length co37], .int .i64 1] rfl (by (try simp only [List.map_toArray, List.map_cons, List.map_nil]); first | done | (rw [show t587.length = t572.length from (Kd.R_reads' HO_577001.out).1.symm] <;> rfl) | rfl | (simp only [List.length_drop, List.length_take]; rfl)) ?_; (with_reducible refine (laws_heldSystem.calls kj60 t571 _ _ t587 1 t588 _ ?side1 ?side2 A92.out).mono ?_); (case side1 => repeat (first | exact (Kd.R_reads' HO_577001.out).2.2 | (with_reducible refine Kd.C_alloc ?_ _) | (with_reducible refine Kd.C_drewN ?_ _) | (with_reducible refine Kd.C_drew ?_))); (case side2 => rw [show t587.length = t572.length from (Kd.R_reads' HO_577001.out).1.symm]; exact (Kd.R_reads' HO_577001.out).2.1); rintro e w111 ⟨rfl, hb⟩; refine ⟨_, rfl, ?_⟩; have n0_ := Aside0.mk (Kd.R_below (by (with_reducible repeat (first | apply Kd.R_alloc | apply Kd.R_drewN | apply Kd.R_drew)); exact HO_566001.out) hb); have n1_ := Aside0.mk (Kd.R_below (by (with_reducible repeat (first | apply Kd.R_alloc | apply Kd.R_drewN | apply Kd.R_drew)); exact HO_571001.out) hb); have n2_ := Aside0.mk (Kd.R_below (by (with_reducible repeat (first | apply Kd.R_alloc | apply Kd.R_drewN | apply Kd.R_drew)); exact HO_577001.out) hb); have n3_ := Aside0.mk (blk_below (g := gb554) (o := .cells #[.int .i64 a0_0, .slice A0_1 l0_1.length c0_1] 24 (0, 0)) (by (with_reducible repeat (first | refine blk_drewN ?_ _ | refine blk_drew ?_ | refine blk_alloc ?_ _)); exact BK554.out) hb); have n4_ := Aside0.mk (blk_below (g := gb565) (o := .cells #[.int .i64 t560, .slice Ao23 t561.length co23] 27 (0, 0)) (by (with_reducible repeat (first | refine blk_drewN ?_ _ | refine blk_drew ?_ | refine blk_alloc ?_ _)); exact BK565.out) hb); have n5_ := Aside0.mk (blk_below (g := gb570) (o := .cells #[.int .i64 t566, .slice Ao30 t584.length co30] 27 (0, 0)) (by (with_reducible repeat (first | refine blk_drewN ?_ _ | refine blk_drew ?_ | refine blk_alloc ?_ _)); exact BK570.out) hb); have n6_ := Aside0.mk (blk_below (g := gb576) (o := .cells #[.int .i64 t571, .slice Ao37 t572.length co37] 27 (0, 0)) (by (with_reducible repeat (first | refine blk_drewN ?_ _ | refine blk_drew ?_ | refine blk_alloc ?_ _)); exact BK576.out) hb); have n7_ := Aside0.mk (below_step (by repeat (first | (with_reducible first | exact HB.out | apply below_alloc | apply pw_below_drewN | apply below_drew1 | refine below_set ?_ GE554.out | refine below_set ?_ GE565.out | refine below_set ?_ GE570.out | refine below_set ?_ GE576.out) | exact HB.out)) hb); clear HO_566001; clear HO_571001; clear HO_577001; clear BK554; clear BK565; clear BK570; clear BK576; clear HB; have HO_566001 := n0_; have HO_571001 := n1_; have HO_577001 := n2_; have BK554 := n3_; have BK565 := n4_; have BK570 := n5_; have BK576 := n6_; have HB := n7_; clear n0_ n1_ n2_ n3_ n4_ n5_ n6_ n7_; (try clear hb); (try clear hb2); (try clear hk); (try clear hi); have hnb112 := NB554_565.out; have hnc112 := NB565_554.out; have hnb113 := NB554_570.out; have hnc113 := NB570_554.out; have hcz114_0 : w111.cell? ⟨gb554, 0, none⟩ = some (.int .i64 a0_0) := (blk_cell BK554.out 0).trans rfl; have hcz114_1 : w111.cell? ⟨gb554, 1, none⟩ = some (.slice A0_1 l0_1.length c0_1) := (blk_cell BK554.out 1).trans rfl; have hfz114_0 := blk_frozen BK554.out 0; have hfz114_1 := blk_frozen BK554.out 1) | ((with_reducible refine gate_callee (f := 17) rfl ?_); refine goesL_ (some 79) rfl rfl Try.func17 (by kernel_rfl) rfl #[.agg #[.int .i64 a0_0, .slice A0_1 l0_1.length c0_1]] rfl (by (try simp only [List.map_toArray, List.map_cons, List.map_nil]); first | done | rfl | (simp only [List.length_drop, List.length_take]; rfl)) ?_; (with_reducible refine (laws_toSystem.calls kj60 a0_0 _ _ l0_1 t589 t590 _ ?side1 ?side2 A102.out).mono ?_); (case side1 => repeat (first | exact (Kd.C_below HR0_1.out HB.out) | (with_reducible refine Kd.C_alloc ?_ _) | (with_reducible refine Kd.C_drewN ?_ _) | (with_reducible refine Kd.C_drew ?_))); (case side2 => exact HC0_1.out); rintro e w115 ⟨v591, rfl, ho0, hb⟩; refine ⟨_, rfl, ?_⟩; have n0_ := Aside0.mk (Kd.R_elder' (by (with_reducible repeat (first | apply Kd.R_alloc | apply Kd.R_drewN | apply Kd.R_drew)); exact HO_566001.out) (Kd.R_base ho0) hb); have n1_ := Aside0.mk (Kd.R_elder' (by (with_reducible repeat (first | apply Kd.R_alloc | apply Kd.R_drewN | apply Kd.R_drew)); exact HO_571001.out) (Kd.R_base ho0) hb); have n2_ := Aside0.mk (Kd.R_elder' (by (with_reducible repeat (first | apply Kd.R_alloc | apply Kd.R_drewN | apply Kd.R_drew)); exact HO_577001.out) (Kd.R_base ho0) hb); have n3_ := Aside0.mk (Kd.R_lower (Kd.R_new' (Kd.R_new' (Kd.R_new' ho0 (Kd.R_lt (by (with_reducible repeat (first | apply Kd.R_alloc | apply Kd.R_drewN | apply Kd.R_drew)); exact HO_566001.out))) (Kd.R_lt (by (with_reducible repeat (first | apply Kd.R_alloc | apply Kd.R_drewN | apply Kd.R_drew)); exact HO_571001.out))) (Kd.R_lt (by (with_reducible repeat (first | apply Kd.R_alloc | apply Kd.R_drewN | apply Kd.R_drew)); exact HO_577001.out))) (below_size (by repeat (first | (with_reducible first | exact HB.out | apply below_alloc | apply pw_below_drewN | apply below_drew1 | refine below_set ?_ GE554.out | refine below_set ?_ GE565.out | refine below_set ?_ GE570.out | refine below_set ?_ GE576.out) | exact HB.out)))); have n4_ := Aside0.mk (blk_below (g := gb554) (o := .cells #[.int .i64 a0_0, .slice A0_1 l0_1.length c0_1] 24 (0, 0)) (by (with_reducible repeat (first | refine blk_drewN ?_ _ | refine blk_drew ?_ | refine blk_alloc ?_ _)); exact BK554.out) hb); have n5_ := Aside0.mk (blk_below (g := gb565) (o := .cells #[.int .i64 t560, .slice Ao23 t561.length co23] 27 (0, 0)) (by (with_reducible repeat (first | refine blk_drewN ?_ _ | refine blk_drew ?_ | refine blk_alloc ?_ _)); exact BK565.out) hb); have n6_ := Aside0.mk (blk_below (g := gb570) (o := .cells #[.int .i64 t566, .slice Ao30 t584.length co30] 27 (0, 0)) (by (with_reducible repeat (first | refine blk_drewN ?_ _ | refine blk_drew ?_ | refine blk_alloc ?_ _)); exact BK570.out) hb); have n7_ := Aside0.mk (blk_below (g := gb576) (o := .cells #[.int .i64 t571, .slice Ao37 t572.length co37] 27 (0, 0)) (by (with_reducible repeat (first | refine blk_drewN ?_ _ | refine blk_drew ?_ | refine blk_alloc ?_ _)); exact BK576.out) hb); have n8_ := Aside0.mk (below_step (by repeat (first | (with_reducible first | exact HB.out | apply below_alloc | apply pw_below_drewN | apply below_drew1 | refine below_set ?_ GE554.out | refine below_set ?_ GE565.out | refine below_set ?_ GE570.out | refine below_set ?_ GE576.out) | exact HB.out)) hb); clear HO_566001; clear HO_571001; clear HO_577001; clear BK554; clear BK565; clear BK570; clear BK576; clear HB; have HO_566001 := n0_; have HO_571001 := n1_; have HO_577001 := n2_; have HO592 := n3_; have BK554 := n4_; have BK565 := n5_; have BK570 := n6_; have BK576 := n7_; have HB := n8_; clear n0_ n1_ n2_ n3_ n4_ n5_ n6_ n7_ n8_; (try clear hb); (try clear hb2); (try clear hk); (try clear hi); (try clear ho0); obtain ⟨Ao116, co116, eo116⟩ := Kd.R_slice HO592.out; subst eo116) | ((with_reducible refine gate_callee (f := 46) rfl ?_); refine goesL_ (some 81) rfl rfl Try.func46 (by kernel_rfl) rfl #[.agg #[.int .i64 t589, .slice Ao116 t590.length co116], .int .i64 a1] rfl (by (try simp only [List.map_toArray, List.map_cons, List.map_nil]); first | done | rfl | (simp only [List.length_drop, List.length_take]; rfl)) ?_; (with_reducible refine (impl_RestrictSystem.calls kj60 t589 _ _ t590 a1 t593 t594 t597 _ ?side1 ?side2 A103.out).mono ?_); (case side1 => repeat (first | exact (Kd.R_reads' HO592.out).2.2 | (with_reducible refine Kd.C_alloc ?_ _) | (with_reducible refine Kd.C_drewN ?_ _) | (with_reducible refine Kd.C_drew ?_))); (case side2 => exact (Kd.R_reads' HO592.out).2.1); rintro e w117 ⟨v595, rfl, ho0, hb⟩; refine ⟨_, rfl, ?_⟩; have n0_ := Aside0.mk (Kd.R_elder' (by (with_reducible repeat (first | apply Kd.R_alloc | apply Kd.R_drewN | apply Kd.R_drew)); exact HO_566001.out) (Kd.R_base ho0) hb); have n1_ := Aside0.mk (Kd.R_elder' (by (with_reducible repeat (first | apply Kd.R_alloc | apply Kd.R_drewN | apply Kd.R_drew)); exact HO_571001.out) (Kd.R_base ho0) hb); have n2_ := Aside0.mk (Kd.R_elder' (by (with_reducible repeat (first | apply Kd.R_alloc | apply Kd.R_drewN | apply Kd.R_drew)); exact HO_577001.out) (Kd.R_base ho0) hb); have n3_ := Aside0.mk (Kd.R_elder' (by (with_reducible repeat (first | apply Kd.R_alloc | apply Kd.R_drewN | apply Kd.R_drew)); exact HO592.out) (Kd.R_base ho0) hb); have n4_ := Aside0.mk (Kd.R_lower (Kd.R_new' (Kd.R_new' (Kd.R_new' (Kd.R_new' ho0 (Kd.R_lt (by (with_reducible repeat (first | apply Kd.R_alloc | apply Kd.R_drewN | apply Kd.R_drew)); exact HO_566001.out))) (Kd.R_lt (by (with_reducible repeat (first | apply Kd.R_alloc | apply Kd.R_drewN | apply Kd.R_drew)); exact HO_571001.out))) (Kd.R_lt (by (with_reducible repeat (first | apply Kd.R_alloc | apply Kd.R_drewN | apply Kd.R_drew)); exact HO_577001.out))) (Kd.R_lt (by (with_reducible repeat (first | apply Kd.R_alloc | apply Kd.R_drewN | apply Kd.R_drew)); exact HO592.out))) (below_size (by repeat (first | (with_reducible first | exact HB.out | apply below_alloc | apply pw_below_drewN | apply below_drew1 | refine below_set ?_ GE554.out | refine below_set ?_ GE565.out | refine below_set ?_ GE570.out | refine below_set ?_ GE576.out) | exact HB.out)))); have n5_ := Aside0.mk (blk_below (g := gb554) (o := .cells #[.int .i64 a0_0, .slice A0_1 l0_1.length c0_1] 24 (0, 0)) (by (with_reducible repeat (first | refine blk_drewN ?_ _ | refine blk_drew ?_ | refine blk_alloc ?_ _)); exact BK554.out) hb); have n6_ := Aside0.mk (blk_below (g := gb565) (o := .cells #[.int .i64 t560, .slice Ao23 t561.length co23] 27 (0, 0)) (by (with_reducible repeat (first | refine blk_drewN ?_ _ | refine blk_drew ?_ | refine blk_alloc ?_ _)); exact BK565.out) hb); have n7_ := Aside0.mk (blk_below (g := gb570) (o := .cells #[.int .i64 t566, .slice Ao30 t584.length co30] 27 (0, 0)) (by (with_reducible repeat (first | refine blk_drewN ?_ _ | refine blk_drew ?_ | refine blk_alloc ?_ _)); exact BK570.out) hb); have n8_ := Aside0.mk (blk_below (g := gb576) (o := .cells #[.int .i64 t571, .slice Ao37 t572.length co37] 27 (0, 0)) (by (with_reducible repeat (first | refine blk_drewN ?_ _ | refine blk_drew ?_ | refine blk_alloc ?_ _)); exact BK576.out) hb); have n9_ := Aside0.mk (below_step (by repeat (first | (with_reducible first | exact HB.out | apply below_alloc | apply pw_below_drewN | apply below_drew1 | refine below_set ?_ GE554.out | refine below_set ?_ GE565.out | refine below_set ?_ GE570.out | refine below_set ?_ GE576.out) | exact HB.out)) hb); clear HO_566001; clear HO_571001; clear HO_577001; clear HO592; clear BK554; clear BK565; clear BK570; clear BK576; clear HB; have HO_566001 := n0_; have HO_571001 := n1_; have HO_577001 := n2_; have HO592 := n3_; have HO596 := n4_; have BK554 := n5_; have BK565 := n6_; have BK570 := n7_; have BK576 := n8_; have HB := n9_; clear n0_ n1_ n2_ n3_ n4_ n5_ n6_ n7_ n8_ n9_; (try clear hb); (try clear hb2); (try clear hk); (try clear hi); (try clear ho0)) | ((with_reducible refine gate_dst (N := 14) rfl ?_); refine box_event ?hg (N := 14) ?hd (cs := #[.int .i64 0, .slice none 0 0]) (t := 27) ?hr ?_; (case hd => rfl); (case hg => rfl); (case hr => first | (go_simp; done) | (go_simp; rfl)); intro gb598 hg w118 hbox hb; have n0_ := Aside0.mk (Kd.R_below (by (with_reducible repeat (first | apply Kd.R_alloc | apply Kd.R_drewN | apply Kd.R_drew)); exact HO_566001.out) hb); have n1_ := Aside0.mk (Kd.R_below (by (with_reducible repeat (first | apply Kd.R_alloc | apply Kd.R_drewN | apply Kd.R_drew)); exact HO_571001.out) hb); have n2_ := Aside0.mk (Kd.R_below (by (with_reducible repeat (first | apply Kd.R_alloc | apply Kd.R_drewN | apply Kd.R_drew)); exact HO_577001.out) hb); have n3_ := Aside0.mk (Kd.R_below (by (with_reducible repeat (first | apply Kd.R_alloc | apply Kd.R_drewN | apply Kd.R_drew)); exact HO592.out) hb); have n4_ := Aside0.mk (Kd.R_below (by (with_reducible repeat (first | apply Kd.R_alloc | apply Kd.R_drewN | apply Kd.R_drew)); exact HO596.out) hb); have n5_ := Aside0.mk (blk_below (g := gb554) (o := .cells #[.int .i64 a0_0, .slice A0_1 l0_1.length c0_1] 24 (0, 0)) (by (with_reducible repeat (first | refine blk_drewN ?_ _ | refine blk_drew ?_ | refine blk_alloc ?_ _)); exact BK554.out) hb); have n6_ := Aside0.mk (blk_below (g := gb565) (o := .cells #[.int .i64 t560, .slice Ao23 t561.length co23] 27 (0, 0)) (by (with_reducible repeat (first | refine blk_drewN ?_ _ | refine blk_drew ?_ | refine blk_alloc ?_ _)); exact BK565.out) hb); have n7_ := Aside0.mk (blk_below (g := gb570) (o := .cells #[.int .i64 t566, .slice Ao30 t584.length co30] 27 (0, 0)) (by (with_reducible repeat (first | refine blk_drewN ?_ _ | refine blk_drew ?_ | refine blk_alloc ?_ _)); exact BK570.out) hb); have n8_ := Aside0.mk (blk_below (g := gb576) (o := .cells #[.int .i64 t571, .slice Ao37 t572.length co37] 27 (0, 0)) (by (with_reducible repeat (first | refine blk_drewN ?_ _ | refine blk_drew ?_ | refine blk_alloc ?_ _)); exact BK576.out) hb); have n9_ := Aside0.mk (below_step (by repeat (first | (with_reducible first | exact HB.out | apply below_alloc | apply pw_below_drewN | apply below_drew1 | refine below_set ?_ GE554.out | refine below_set ?_ GE565.out | refine below_set ?_ GE570.out | refine below_set ?_ GE576.out) | exact HB.out)) hb); have n10_ := Aside0.mk (hbox); have n11_ := Aside0.mk ((by rw [hg]; exact (below_size (by repeat (first | (with_reducible first | exact HB.out | apply below_alloc | apply pw_below_drewN | apply below_drew1 | refine below_set ?_ GE554.out | refine below_set ?_ GE565.out | refine below_set ?_ GE570.out | refine below_set ?_ GE576.out) | exact HB.out))) : w.heap.size ≤ gb598)); have n12_ := Aside0.mk ((by rw [hg]; exact (below_size (by repeat (first | (with_reducible first | exact HB.out | apply below_alloc | apply pw_below_drewN | apply below_drew1 | refine below_set ?_ GE554.out | refine below_set ?_ GE565.out | refine below_set ?_ GE570.out | refine below_set ?_ GE576.out) | exact HB.out))) : w.heap.size ≤ gb598)); have n13_ := Aside0.mk ((by rw [hg]; exact Nat.ne_of_lt (blk_lt (g := gb554) (o := .cells #[.int .i64 a0_0, .slice A0_1 l0_1.length c0_1] 24 (0, 0)) (by (with_reducible repeat (first | refine blk_drewN ?_ _ | refine blk_drew ?_ | refine blk_alloc ?_ _)); exact BK554.out)) : gb554 ≠ gb598)); have n14_ := Aside0.mk ((by rw [hg]; exact Nat.ne_of_gt (blk_lt (g := gb554) (o := .cells #[.int .i64 a0_0, .slice A0_1 l0_1.length c0_1] 24 (0, 0)) (by (with_reducible repeat (first | refine blk_drewN ?_ _ | refine blk_drew ?_ | refine blk_alloc ?_ _)); exact BK554.out)) : gb598 ≠ gb554)); have n15_ := Aside0.mk ((by rw [hg]; exact Nat.ne_of_lt (blk_lt (g := gb565) (o := .cells #[.int .i64 t560, .slice Ao23 t561.length co23] 27 (0, 0)) (by (with_reducible repeat (first | refine blk_drewN ?_ _ | refine blk_drew ?_ | refine blk_alloc ?_ _)); exact BK565.out)) : gb565 ≠ gb598)); have n16_ := Aside0.mk ((by rw [hg]; exact Nat.ne_of_gt (blk_lt (g := gb565) (o := .cells #[.int .i64 t560, .slice Ao23 t561.length co23] 27 (0, 0)) (by (with_reducible repeat (first | refine blk_drewN ?_ _ | refine blk_drew ?_ | refine blk_alloc ?_ _)); exact BK565.out)) : gb598 ≠ gb565)); have n17_ := Aside0.mk ((by rw [hg]; exact Nat.ne_of_lt (blk_lt (g := gb570) (o := .cells #[.int .i64 t566, .slice Ao30 t584.length co30] 27 (0, 0)) (by (with_reducible repeat (first | refine blk_drewN ?_ _ | refine blk_drew ?_ | refine blk_alloc ?_ _)); exact BK570.out)) : gb570 ≠ gb598)); have n18_ := Aside0.mk ((by rw [hg]; exact Nat.ne_of_gt (blk_lt (g := gb570) (o := .cells #[.int .i64 t566, .slice Ao30 t584.length co30] 27 (0, 0)) (by (with_reducible repeat (first | refine blk_drewN ?_ _ | refine blk_drew ?_ | refine blk_alloc ?_ _)); exact BK570.out)) : gb598 ≠ gb570)); have n19_ := Aside0.mk ((by rw [hg]; exact Nat.ne_of_lt (blk_lt (g := gb576) (o := .cells #[.int .i64 t571, .slice Ao37 t572.length co37] 27 (0, 0)) (by (with_reducible repeat (first | refine blk_drewN ?_ _ | refine blk_drew ?_ | refine blk_alloc ?_ _)); exact BK576.out)) : gb576 ≠ gb598)); have n20_ := Aside0.mk ((by rw [hg]; exact Nat.ne_of_gt (blk_lt (g := gb576) (o := .cells #[.int .i64 t571, .slice Ao37 t572.length co37] 27 (0, 0)) (by (with_reducible repeat (first | refine blk_drewN ?_ _ | refine blk_drew ?_ | refine blk_alloc ?_ _)); exact BK576.out)) : gb598 ≠ gb576)); clear HO_566001; clear HO_571001; clear HO_577001; clear HO592; clear HO596; clear BK554; clear BK565; clear BK570; clear BK576; clear HB; have HO_566001 := n0_; have HO_571001 := n1_; have HO_577001 := n2_; have HO592 := n3_; have HO596 := n4_; have BK554 := n5_; have BK565 := n6_; have BK570 := n7_; have BK576 := n8_; have HB := n9_; have BK598 := n10_; have GW598 := n11_; have GE598 := n12_; have NB554_598 := n13_; have NB598_554 := n14_; have NB565_598 := n15_; have NB598_565 := n16_; have NB570_598 := n17_; have NB598_570 := n18_; have NB576_598 := n19_; have NB598_576 := n20_; clear n0_ n1_ n2_ n3_ n4_ n5_ n6_ n7_ n8_ n9_ n10_ n11_ n12_ n13_ n14_ n15_ n16_ n17_ n18_ n19_ n20_; clear hb hbox hg; have hnb119 := NB598_554.out; have hnc119 := NB554_598.out; have hnb120 := NB598_565.out; have hnc120 := NB565_598.out; have hnb121 := NB598_570.out; have hnc121 := NB570_598.out; have hnb122 := NB598_576.out; have hnc122 := NB576_598.out; have hcz123_0 : w118.cell? ⟨gb598, 0, none⟩ = some (.int .i64 0) := (blk_cell BK598.out 0).trans rfl; have hcz123_1 : w118.cell? ⟨gb598, 1, none⟩ = some (.slice none 0 0) := (blk_cell BK598.out 1).trans rfl; have hfz123_0 := blk_frozen BK598.out 0; have hfz123_1 := blk_frozen BK598.out 1; obtain ⟨Ao124, co124, eo124⟩ := Kd.R_slice HO596.out; subst eo124))
                      (try simp only [Act.put, List.setIfInBounds_toArray, List.set_cons_zero, List.set_cons_succ])
                      go_cut [92] (fun v92 wc => ∃ (kq : Nat) (x92_103 : Bool), v92 = .bool x92_103 ∧ Aside0 (laws_FnExactRestrictSystem.j2 kq t586 x92_103 t571 t587 = some r) ∧ Aside0 (kq ≤ kj60) ∧ Aside0 (Kd.R (Kd.int .i64) 2 wc w.heap.size (fun k_ => some k_ ≠ ((.slice Ao30 t584.length co30) : Value).ownBlock ∧ some k_ ≠ ((.slice Ao37 t572.length co37) : Value).ownBlock ∧ some k_ ≠ ((.slice Ao124 t594.length co124) : Value).ownBlock) (.slice Ao23 t561.length co23) t561) ∧ Aside0 (Kd.R (Kd.int .i64) 2 wc w.heap.size (fun k_ => some k_ ≠ ((.slice Ao23 t561.length co23) : Value).ownBlock ∧ some k_ ≠ ((.slice Ao37 t572.length co37) : Value).ownBlock ∧ some k_ ≠ ((.slice Ao124 t594.length co124) : Value).ownBlock) (.slice Ao30 t584.length co30) t584) ∧ Aside0 (Kd.R (Kd.int .i64) 2 wc w.heap.size (fun k_ => some k_ ≠ ((.slice Ao23 t561.length co23) : Value).ownBlock ∧ some k_ ≠ ((.slice Ao30 t584.length co30) : Value).ownBlock ∧ some k_ ≠ ((.slice Ao124 t594.length co124) : Value).ownBlock) (.slice Ao37 t572.length co37) t587) ∧ Aside0 (Kd.R (Kd.int .i64) 2 wc w.heap.size (fun k_ => some k_ ≠ ((.slice Ao23 t561.length co23) : Value).ownBlock ∧ some k_ ≠ ((.slice Ao30 t584.length co30) : Value).ownBlock ∧ some k_ ≠ ((.slice Ao37 t572.length co37) : Value).ownBlock) (.slice Ao124 t594.length co124) t594) ∧ Aside0 (wc.heap[gb554]? = some (.cells #[.int .i64 a0_0, (.slice A0_1 l0_1.length c0_1)] 24 (0, 0))) ∧ Aside0 (wc.heap[gb565]? = some (.cells #[.int .i64 t560, (.slice Ao23 t561.length co23)] 27 (0, 0))) ∧ Aside0 (wc.heap[gb570]? = some (.cells #[.int .i64 t566, (.slice Ao30 t584.length co30)] 27 (0, 0))) ∧ Aside0 (wc.heap[gb576]? = some (.cells #[.int .i64 t571, (.slice Ao37 t572.length co37)] 27 (0, 0))) ∧ Aside0 (wc.heap[gb598]? = some (.cells #[.int .i64 t593, (.slice Ao124 t594.length co124)] 27 (0, 0))) ∧ Aside0 (Below w.heap.size w wc))
                      case first =>
                        have H := HC104.out
                        clear HC104
                        replace H := Option.bind_eq_some_iff.mp H
                        obtain ⟨t599, A1250, H⟩ := H
                        replace H : (if t599 = true then (laws_FnExactRestrictSystem.j2 kj60 t586 (t597 != t564) t571 t587) else (laws_FnExactRestrictSystem.j2 kj60 t586 true t571 t587)) = some r := H
                        have A125 := Aside0.mk A1250
                        clear A1250
                        by_cases c126 : t599 = true
                        · subst c126
                          have H1 : (laws_FnExactRestrictSystem.j2 kj60 t586 (t597 != t564) t571 t587) = some r := by rw [if_pos rfl] at H; exact H
                          clear H
                          have H := H1
                          clear H1
                          have H' := Aside0.mk H
                          clear H
                          have hnb127 := NB598_554.out
                          have hnc127 := NB554_598.out
                          have hnb128 := NB598_565.out
                          have hnc128 := NB565_598.out
                          have hnb129 := NB598_570.out
                          have hnc129 := NB570_598.out
                          have hnb130 := NB598_576.out
                          have hnc130 := NB576_598.out
                          have hcz131_0 : w118.cell? ⟨gb598, 0, none⟩ = some (.int .i64 0) := (blk_cell BK598.out 0).trans rfl
                          have hcz131_1 : w118.cell? ⟨gb598, 1, none⟩ = some (.slice none 0 0) := (blk_cell BK598.out 1).trans rfl
                          have hfz131_0 := blk_frozen BK598.out 0
                          have hfz131_1 := blk_frozen BK598.out 1
                          have hnb132 := NB565_554.out
                          have hnc132 := NB554_565.out
                          have hnb133 := NB565_570.out
                          have hnc133 := NB570_565.out
                          have hnb134 := NB565_576.out
                          have hnc134 := NB576_565.out
                          have hcz135_0 : w118.cell? ⟨gb565, 0, none⟩ = some (.int .i64 t560) := (blk_cell BK565.out 0).trans rfl
                          have hcz135_1 : w118.cell? ⟨gb565, 1, none⟩ = some (.slice Ao23 t561.length co23) := (blk_cell BK565.out 1).trans rfl
                          have hfz135_0 := blk_frozen BK565.out 0
                          have hfz135_1 := blk_frozen BK565.out 1
                          go_wp2_with (first | ((with_reducible refine gate_callee (f := 19) rfl ?_); refine goesL_ (some 86) rfl rfl Try.func19 (by kernel_rfl) rfl #[.agg #[.int .i64 t593, .slice Ao124 t594.length co124], .agg #[.int .i64 t560, .slice Ao23 t561.length co23]] rfl (by (try simp only [List.map_toArray, List.map_cons, List.map_nil]); first | done | rfl | (simp only [List.length_drop, List.length_take]; rfl)) ?_; (with_reducible refine (laws_eqSystem.calls kj60 t593 _ _ t594 t560 _ _ t561 true _ ?side1 ?side2 ?side3 ?side4 A125.out).mono ?_); (case side1 => refine (Kd.R_reads' (e := 2) (base := w.heap.size) (ok := fun k_ => ((((True ∧ some k_ ≠ (.slice Ao23 t561.length co23 : Value).ownBlock) ∧ some k_ ≠ (.slice Ao30 t584.length co30 : Value).ownBlock) ∧ some k_ ≠ (.slice Ao37 t572.length co37 : Value).ownBlock) ∧ some k_ ≠ (.slice Ao116 t590.length co116 : Value).ownBlock)) (n := t594.length) (c := co124) ?_).2.2; exact (by (with_reducible repeat (first | apply Kd.R_alloc | apply Kd.R_drewN | apply Kd.R_drew)); exact (Kd.R_mono (Kd.R_far (p := ⟨gb598, 1, none⟩) (Kd.R_far (p := ⟨gb598, 0, none⟩) (Kd.R_types HO596.out BK598.out (by decide)) (fun _ hk => hk.2) (.int .i64 t593)) (fun _ hk => hk.2) (.slice Ao124 t594.length co124)) (fun _ h_ => h_.1)))); (case side2 => exact (Kd.R_reads' HO596.out).2.1); (case side3 => refine (Kd.R_reads' (e := 2) (base := w.heap.size) (ok := fun k_ => (((some k_ ≠ (.slice Ao30 t584.length co30 : Value).ownBlock ∧ some k_ ≠ (.slice Ao37 t572.length co37 : Value).ownBlock) ∧ some k_ ≠ (.slice Ao116 t590.length co116 : Value).ownBlock) ∧ some k_ ≠ (.slice Ao124 t594.length co124 : Value).ownBlock)) (n := t561.length) (c := co23) ?_).2.2; exact (by (with_reducible repeat (first | apply Kd.R_alloc | apply Kd.R_drewN | apply Kd.R_drew)); exact (Kd.R_mono (Kd.R_far (p := ⟨gb598, 1, none⟩) (Kd.R_far (p := ⟨gb598, 0, none⟩) (Kd.R_types HO_566001.out BK598.out (by decide)) (fun _ hk => hk.2) (.int .i64 t593)) (fun _ hk => hk.2) (.slice Ao124 t594.length co124)) (fun _ h_ => h_.1)))); (case side4 => exact (Kd.R_reads' HO_566001.out).2.1); rintro e w136 ⟨rfl, hb⟩; refine ⟨_, rfl, ?_⟩; have n0_ := Aside0.mk (Kd.R_below (by (with_reducible repeat (first | apply Kd.R_alloc | apply Kd.R_drewN | apply Kd.R_drew)); exact (Kd.R_mono (Kd.R_far (p := ⟨gb598, 1, none⟩) (Kd.R_far (p := ⟨gb598, 0, none⟩) (Kd.R_types HO_566001.out BK598.out (by decide)) (fun _ hk => hk.2) (.int .i64 t593)) (fun _ hk => hk.2) (.slice Ao124 t594.length co124)) (fun _ h_ => h_.1))) hb); have n1_ := Aside0.mk (Kd.R_below (by (with_reducible repeat (first | apply Kd.R_alloc | apply Kd.R_drewN | apply Kd.R_drew)); exact (Kd.R_mono (Kd.R_far (p := ⟨gb598, 1, none⟩) (Kd.R_far (p := ⟨gb598, 0, none⟩) (Kd.R_types HO_571001.out BK598.out (by decide)) (fun _ hk => hk.2) (.int .i64 t593)) (fun _ hk => hk.2) (.slice Ao124 t594.length co124)) (fun _ h_ => h_.1))) hb); have n2_ := Aside0.mk (Kd.R_below (by (with_reducible repeat (first | apply Kd.R_alloc | apply Kd.R_drewN | apply Kd.R_drew)); exact (Kd.R_mono (Kd.R_far (p := ⟨gb598, 1, none⟩) (Kd.R_far (p := ⟨gb598, 0, none⟩) (Kd.R_types HO_577001.out BK598.out (by decide)) (fun _ hk => hk.2) (.int .i64 t593)) (fun _ hk => hk.2) (.slice Ao124 t594.length co124)) (fun _ h_ => h_.1))) hb); have n3_ := Aside0.mk (Kd.R_below (by (with_reducible repeat (first | apply Kd.R_alloc | apply Kd.R_drewN | apply Kd.R_drew)); exact (Kd.R_mono (Kd.R_far (p := ⟨gb598, 1, none⟩) (Kd.R_far (p := ⟨gb598, 0, none⟩) (Kd.R_types HO592.out BK598.out (by decide)) (fun _ hk => hk.2) (.int .i64 t593)) (fun _ hk => hk.2) (.slice Ao124 t594.length co124)) (fun _ h_ => h_.1))) hb); have n4_ := Aside0.mk (Kd.R_below (by (with_reducible repeat (first | apply Kd.R_alloc | apply Kd.R_drewN | apply Kd.R_drew)); exact (Kd.R_mono (Kd.R_far (p := ⟨gb598, 1, none⟩) (Kd.R_far (p := ⟨gb598, 0, none⟩) (Kd.R_types HO596.out BK598.out (by decide)) (fun _ hk => hk.2) (.int .i64 t593)) (fun _ hk => hk.2) (.slice Ao124 t594.length co124)) (fun _ h_ => h_.1))) hb); have n5_ := Aside0.mk (blk_below (g := gb554) (o := .cells #[.int .i64 a0_0, .slice A0_1 l0_1.length c0_1] 24 (0, 0)) (by (with_reducible repeat (first | refine blk_drewN ?_ _ | refine blk_drew ?_ | refine blk_alloc ?_ _)); refine blk_far ?_ NB554_598.out _; (with_reducible repeat (first | refine blk_drewN ?_ _ | refine blk_drew ?_ | refine blk_alloc ?_ _)); refine blk_far ?_ NB554_598.out _; (with_reducible repeat (first | refine blk_drewN ?_ _ | refine blk_drew ?_ | refine blk_alloc ?_ _)); exact BK554.out) hb); have n6_ := Aside0.mk (blk_below (g := gb565) (o := .cells #[.int .i64 t560, .slice Ao23 t561.length co23] 27 (0, 0)) (by (with_reducible repeat (first | refine blk_drewN ?_ _ | refine blk_drew ?_ | refine blk_alloc ?_ _)); refine blk_far ?_ NB565_598.out _; (with_reducible repeat (first | refine blk_drewN ?_ _ | refine blk_drew ?_ | refine blk_alloc ?_ _)); refine blk_far ?_ NB565_598.out _; (with_reducible repeat (first | refine blk_drewN ?_ _ | refine blk_drew ?_ | refine blk_alloc ?_ _)); exact BK565.out) hb); have n7_ := Aside0.mk (blk_below (g := gb570) (o := .cells #[.int .i64 t566, .slice Ao30 t584.length co30] 27 (0, 0)) (by (with_reducible repeat (first | refine blk_drewN ?_ _ | refine blk_drew ?_ | refine blk_alloc ?_ _)); refine blk_far ?_ NB570_598.out _; (with_reducible repeat (first | refine blk_drewN ?_ _ | refine blk_drew ?_ | refine blk_alloc ?_ _)); refine blk_far ?_ NB570_598.out _; (with_reducible repeat (first | refine blk_drewN ?_ _ | refine blk_drew ?_ | refine blk_alloc ?_ _)); exact BK570.out) hb); have n8_ := Aside0.mk (blk_below (g := gb576) (o := .cells #[.int .i64 t571, .slice Ao37 t572.length co37] 27 (0, 0)) (by (with_reducible repeat (first | refine blk_drewN ?_ _ | refine blk_drew ?_ | refine blk_alloc ?_ _)); refine blk_far ?_ NB576_598.out _; (with_reducible repeat (first | refine blk_drewN ?_ _ | refine blk_drew ?_ | refine blk_alloc ?_ _)); refine blk_far ?_ NB576_598.out _; (with_reducible repeat (first | refine blk_drewN ?_ _ | refine blk_drew ?_ | refine blk_alloc ?_ _)); exact BK576.out) hb); have n9_ := Aside0.mk (blk_below (g := gb598) (o := .cells #[.int .i64 t593, .slice Ao124 t594.length co124] 27 (0, 0)) (by (with_reducible repeat (first | refine blk_drewN ?_ _ | refine blk_drew ?_ | refine blk_alloc ?_ _)); refine blk_put (cs := #[.int .i64 t593, .slice none 0 0]) ?_ 1 _ rfl; (with_reducible repeat (first | refine blk_drewN ?_ _ | refine blk_drew ?_ | refine blk_alloc ?_ _)); refine blk_put (cs := #[.int .i64 0, .slice none 0 0]) ?_ 0 _ rfl; (with_reducible repeat (first | refine blk_drewN ?_ _ | refine blk_drew ?_ | refine blk_alloc ?_ _)); exact BK598.out) hb); have n10_ := Aside0.mk (below_step (by repeat (first | (with_reducible first | exact HB.out | apply below_alloc | apply pw_below_drewN | apply below_drew1 | refine below_set ?_ GE554.out | refine below_set ?_ GE565.out | refine below_set ?_ GE570.out | refine below_set ?_ GE576.out | refine below_set ?_ GE598.out) | exact HB.out)) hb); clear HO_566001; clear HO_571001; clear HO_577001; clear HO592; clear HO596; clear BK554; clear BK565; clear BK570; clear BK576; clear BK598; clear HB; have HO_566001 := n0_; have HO_571001 := n1_; have HO_577001 := n2_; have HO592 := n3_; have HO596 := n4_; have BK554 := n5_; have BK565 := n6_; have BK570 := n7_; have BK576 := n8_; have BK598 := n9_; have HB := n10_; clear n0_ n1_ n2_ n3_ n4_ n5_ n6_ n7_ n8_ n9_ n10_; (try clear hb); (try clear hb2); (try clear hk); (try clear hi)))
                          go_meet
                          case rel => exact ⟨_, ((t597 != t564)), (by first | rfl | (simp; done) | (simp [*]; done)), H', ⟨by have := HJ11.out; have := HJ60.out; first | omega | exact Nat.le_refl _⟩, ⟨by (try simp only [hl571001_60]); (with_reducible repeat (first | apply Kd.R_alloc | apply Kd.R_drewN | apply Kd.R_drew)); exact Kd.R_mono HO_566001.out (fun _ hk => ⟨hk.1.1.1, ⟨hk.1.1.2, hk.2⟩⟩)⟩, ⟨by (try simp only [hl571001_60]); (with_reducible repeat (first | apply Kd.R_alloc | apply Kd.R_drewN | apply Kd.R_drew)); exact Kd.R_mono HO_571001.out (fun _ hk => ⟨hk.1.1.1, ⟨hk.1.1.2, hk.2⟩⟩)⟩, ⟨by (try simp only [hl571001_60]); (with_reducible repeat (first | apply Kd.R_alloc | apply Kd.R_drewN | apply Kd.R_drew)); exact Kd.R_mono HO_577001.out (fun _ hk => ⟨hk.1.1.1, ⟨hk.1.1.2, hk.2⟩⟩)⟩, ⟨by (try simp only [hl571001_60]); (with_reducible repeat (first | apply Kd.R_alloc | apply Kd.R_drewN | apply Kd.R_drew)); exact Kd.R_mono HO596.out (fun _ hk => ⟨hk.1.1.1.2, ⟨hk.1.1.2, hk.1.2⟩⟩)⟩, ⟨by (try simp only [hl571001_60]); (with_reducible repeat (first | refine blk_drewN ?_ _ | refine blk_drew ?_ | refine blk_alloc ?_ _)); exact BK554.out⟩, ⟨by (try simp only [hl571001_60]); (with_reducible repeat (first | refine blk_drewN ?_ _ | refine blk_drew ?_ | refine blk_alloc ?_ _)); exact BK565.out⟩, ⟨by (try simp only [hl571001_60]); (with_reducible repeat (first | refine blk_drewN ?_ _ | refine blk_drew ?_ | refine blk_alloc ?_ _)); exact BK570.out⟩, ⟨by (try simp only [hl571001_60]); (with_reducible repeat (first | refine blk_drewN ?_ _ | refine blk_drew ?_ | refine blk_alloc ?_ _)); exact BK576.out⟩, ⟨by (try simp only [hl571001_60]); (with_reducible repeat (first | refine blk_drewN ?_ _ | refine blk_drew ?_ | refine blk_alloc ?_ _)); exact BK598.out⟩, ⟨by repeat (first | (with_reducible first | exact HB.out | apply below_alloc | apply pw_below_drewN | apply below_drew1 | refine below_set ?_ GE554.out | refine below_set ?_ GE565.out | refine below_set ?_ GE570.out | refine below_set ?_ GE576.out | refine below_set ?_ GE598.out) | exact HB.out)⟩⟩
                        · replace c126 := Bool.eq_false_iff.mpr c126
                          subst c126
                          have H1 : (laws_FnExactRestrictSystem.j2 kj60 t586 true t571 t587) = some r := by rw [if_neg (show ¬ (false = true) by decide)] at H; exact H
                          clear H
                          have H := H1
                          clear H1
                          have H' := Aside0.mk H
                          clear H
                          have hnb137 := NB598_554.out
                          have hnc137 := NB554_598.out
                          have hnb138 := NB598_565.out
                          have hnc138 := NB565_598.out
                          have hnb139 := NB598_570.out
                          have hnc139 := NB570_598.out
                          have hnb140 := NB598_576.out
                          have hnc140 := NB576_598.out
                          have hcz141_0 : w118.cell? ⟨gb598, 0, none⟩ = some (.int .i64 0) := (blk_cell BK598.out 0).trans rfl
                          have hcz141_1 : w118.cell? ⟨gb598, 1, none⟩ = some (.slice none 0 0) := (blk_cell BK598.out 1).trans rfl
                          have hfz141_0 := blk_frozen BK598.out 0
                          have hfz141_1 := blk_frozen BK598.out 1
                          have hnb142 := NB565_554.out
                          have hnc142 := NB554_565.out
                          have hnb143 := NB565_570.out
                          have hnc143 := NB570_565.out
                          have hnb144 := NB565_576.out
                          have hnc144 := NB576_565.out
                          have hcz145_0 : w118.cell? ⟨gb565, 0, none⟩ = some (.int .i64 t560) := (blk_cell BK565.out 0).trans rfl
                          have hcz145_1 : w118.cell? ⟨gb565, 1, none⟩ = some (.slice Ao23 t561.length co23) := (blk_cell BK565.out 1).trans rfl
                          have hfz145_0 := blk_frozen BK565.out 0
                          have hfz145_1 := blk_frozen BK565.out 1
                          go_wp2_with (first | ((with_reducible refine gate_callee (f := 19) rfl ?_); refine goesL_ (some 86) rfl rfl Try.func19 (by kernel_rfl) rfl #[.agg #[.int .i64 t593, .slice Ao124 t594.length co124], .agg #[.int .i64 t560, .slice Ao23 t561.length co23]] rfl (by (try simp only [List.map_toArray, List.map_cons, List.map_nil]); first | done | rfl | (simp only [List.length_drop, List.length_take]; rfl)) ?_; (with_reducible refine (laws_eqSystem.calls kj60 t593 _ _ t594 t560 _ _ t561 false _ ?side1 ?side2 ?side3 ?side4 A125.out).mono ?_); (case side1 => refine (Kd.R_reads' (e := 2) (base := w.heap.size) (ok := fun k_ => ((((True ∧ some k_ ≠ (.slice Ao23 t561.length co23 : Value).ownBlock) ∧ some k_ ≠ (.slice Ao30 t584.length co30 : Value).ownBlock) ∧ some k_ ≠ (.slice Ao37 t572.length co37 : Value).ownBlock) ∧ some k_ ≠ (.slice Ao116 t590.length co116 : Value).ownBlock)) (n := t594.length) (c := co124) ?_).2.2; exact (by (with_reducible repeat (first | apply Kd.R_alloc | apply Kd.R_drewN | apply Kd.R_drew)); exact (Kd.R_mono (Kd.R_far (p := ⟨gb598, 1, none⟩) (Kd.R_far (p := ⟨gb598, 0, none⟩) (Kd.R_types HO596.out BK598.out (by decide)) (fun _ hk => hk.2) (.int .i64 t593)) (fun _ hk => hk.2) (.slice Ao124 t594.length co124)) (fun _ h_ => h_.1)))); (case side2 => exact (Kd.R_reads' HO596.out).2.1); (case side3 => refine (Kd.R_reads' (e := 2) (base := w.heap.size) (ok := fun k_ => (((some k_ ≠ (.slice Ao30 t584.length co30 : Value).ownBlock ∧ some k_ ≠ (.slice Ao37 t572.length co37 : Value).ownBlock) ∧ some k_ ≠ (.slice Ao116 t590.length co116 : Value).ownBlock) ∧ some k_ ≠ (.slice Ao124 t594.length co124 : Value).ownBlock)) (n := t561.length) (c := co23) ?_).2.2; exact (by (with_reducible repeat (first | apply Kd.R_alloc | apply Kd.R_drewN | apply Kd.R_drew)); exact (Kd.R_mono (Kd.R_far (p := ⟨gb598, 1, none⟩) (Kd.R_far (p := ⟨gb598, 0, none⟩) (Kd.R_types HO_566001.out BK598.out (by decide)) (fun _ hk => hk.2) (.int .i64 t593)) (fun _ hk => hk.2) (.slice Ao124 t594.length co124)) (fun _ h_ => h_.1)))); (case side4 => exact (Kd.R_reads' HO_566001.out).2.1); rintro e w146 ⟨rfl, hb⟩; refine ⟨_, rfl, ?_⟩; have n0_ := Aside0.mk (Kd.R_below (by (with_reducible repeat (first | apply Kd.R_alloc | apply Kd.R_drewN | apply Kd.R_drew)); exact (Kd.R_mono (Kd.R_far (p := ⟨gb598, 1, none⟩) (Kd.R_far (p := ⟨gb598, 0, none⟩) (Kd.R_types HO_566001.out BK598.out (by decide)) (fun _ hk => hk.2) (.int .i64 t593)) (fun _ hk => hk.2) (.slice Ao124 t594.length co124)) (fun _ h_ => h_.1))) hb); have n1_ := Aside0.mk (Kd.R_below (by (with_reducible repeat (first | apply Kd.R_alloc | apply Kd.R_drewN | apply Kd.R_drew)); exact (Kd.R_mono (Kd.R_far (p := ⟨gb598, 1, none⟩) (Kd.R_far (p := ⟨gb598, 0, none⟩) (Kd.R_types HO_571001.out BK598.out (by decide)) (fun _ hk => hk.2) (.int .i64 t593)) (fun _ hk => hk.2) (.slice Ao124 t594.length co124)) (fun _ h_ => h_.1))) hb); have n2_ := Aside0.mk (Kd.R_below (by (with_reducible repeat (first | apply Kd.R_alloc | apply Kd.R_drewN | apply Kd.R_drew)); exact (Kd.R_mono (Kd.R_far (p := ⟨gb598, 1, none⟩) (Kd.R_far (p := ⟨gb598, 0, none⟩) (Kd.R_types HO_577001.out BK598.out (by decide)) (fun _ hk => hk.2) (.int .i64 t593)) (fun _ hk => hk.2) (.slice Ao124 t594.length co124)) (fun _ h_ => h_.1))) hb); have n3_ := Aside0.mk (Kd.R_below (by (with_reducible repeat (first | apply Kd.R_alloc | apply Kd.R_drewN | apply Kd.R_drew)); exact (Kd.R_mono (Kd.R_far (p := ⟨gb598, 1, none⟩) (Kd.R_far (p := ⟨gb598, 0, none⟩) (Kd.R_types HO592.out BK598.out (by decide)) (fun _ hk => hk.2) (.int .i64 t593)) (fun _ hk => hk.2) (.slice Ao124 t594.length co124)) (fun _ h_ => h_.1))) hb); have n4_ := Aside0.mk (Kd.R_below (by (with_reducible repeat (first | apply Kd.R_alloc | apply Kd.R_drewN | apply Kd.R_drew)); exact (Kd.R_mono (Kd.R_far (p := ⟨gb598, 1, none⟩) (Kd.R_far (p := ⟨gb598, 0, none⟩) (Kd.R_types HO596.out BK598.out (by decide)) (fun _ hk => hk.2) (.int .i64 t593)) (fun _ hk => hk.2) (.slice Ao124 t594.length co124)) (fun _ h_ => h_.1))) hb); have n5_ := Aside0.mk (blk_below (g := gb554) (o := .cells #[.int .i64 a0_0, .slice A0_1 l0_1.length c0_1] 24 (0, 0)) (by (with_reducible repeat (first | refine blk_drewN ?_ _ | refine blk_drew ?_ | refine blk_alloc ?_ _)); refine blk_far ?_ NB554_598.out _; (with_reducible repeat (first | refine blk_drewN ?_ _ | refine blk_drew ?_ | refine blk_alloc ?_ _)); refine blk_far ?_ NB554_598.out _; (with_reducible repeat (first | refine blk_drewN ?_ _ | refine blk_drew ?_ | refine blk_alloc ?_ _)); exact BK554.out) hb); have n6_ := Aside0.mk (blk_below (g := gb565) (o := .cells #[.int .i64 t560, .slice Ao23 t561.length co23] 27 (0, 0)) (by (with_reducible repeat (first | refine blk_drewN ?_ _ | refine blk_drew ?_ | refine blk_alloc ?_ _)); refine blk_far ?_ NB565_598.out _; (with_reducible repeat (first | refine blk_drewN ?_ _ | refine blk_drew ?_ | refine blk_alloc ?_ _)); refine blk_far ?_ NB565_598.out _; (with_reducible repeat (first | refine blk_drewN ?_ _ | refine blk_drew ?_ | refine blk_alloc ?_ _)); exact BK565.out) hb); have n7_ := Aside0.mk (blk_below (g := gb570) (o := .cells #[.int .i64 t566, .slice Ao30 t584.length co30] 27 (0, 0)) (by (with_reducible repeat (first | refine blk_drewN ?_ _ | refine blk_drew ?_ | refine blk_alloc ?_ _)); refine blk_far ?_ NB570_598.out _; (with_reducible repeat (first | refine blk_drewN ?_ _ | refine blk_drew ?_ | refine blk_alloc ?_ _)); refine blk_far ?_ NB570_598.out _; (with_reducible repeat (first | refine blk_drewN ?_ _ | refine blk_drew ?_ | refine blk_alloc ?_ _)); exact BK570.out) hb); have n8_ := Aside0.mk (blk_below (g := gb576) (o := .cells #[.int .i64 t571, .slice Ao37 t572.length co37] 27 (0, 0)) (by (with_reducible repeat (first | refine blk_drewN ?_ _ | refine blk_drew ?_ | refine blk_alloc ?_ _)); refine blk_far ?_ NB576_598.out _; (with_reducible repeat (first | refine blk_drewN ?_ _ | refine blk_drew ?_ | refine blk_alloc ?_ _)); refine blk_far ?_ NB576_598.out _; (with_reducible repeat (first | refine blk_drewN ?_ _ | refine blk_drew ?_ | refine blk_alloc ?_ _)); exact BK576.out) hb); have n9_ := Aside0.mk (blk_below (g := gb598) (o := .cells #[.int .i64 t593, .slice Ao124 t594.length co124] 27 (0, 0)) (by (with_reducible repeat (first | refine blk_drewN ?_ _ | refine blk_drew ?_ | refine blk_alloc ?_ _)); refine blk_put (cs := #[.int .i64 t593, .slice none 0 0]) ?_ 1 _ rfl; (with_reducible repeat (first | refine blk_drewN ?_ _ | refine blk_drew ?_ | refine blk_alloc ?_ _)); refine blk_put (cs := #[.int .i64 0, .slice none 0 0]) ?_ 0 _ rfl; (with_reducible repeat (first | refine blk_drewN ?_ _ | refine blk_drew ?_ | refine blk_alloc ?_ _)); exact BK598.out) hb); have n10_ := Aside0.mk (below_step (by repeat (first | (with_reducible first | exact HB.out | apply below_alloc | apply pw_below_drewN | apply below_drew1 | refine below_set ?_ GE554.out | refine below_set ?_ GE565.out | refine below_set ?_ GE570.out | refine below_set ?_ GE576.out | refine below_set ?_ GE598.out) | exact HB.out)) hb); clear HO_566001; clear HO_571001; clear HO_577001; clear HO592; clear HO596; clear BK554; clear BK565; clear BK570; clear BK576; clear BK598; clear HB; have HO_566001 := n0_; have HO_571001 := n1_; have HO_577001 := n2_; have HO592 := n3_; have HO596 := n4_; have BK554 := n5_; have BK565 := n6_; have BK570 := n7_; have BK576 := n8_; have BK598 := n9_; have HB := n10_; clear n0_ n1_ n2_ n3_ n4_ n5_ n6_ n7_ n8_ n9_ n10_; (try clear hb); (try clear hb2); (try clear hk); (try clear hi)))
                          go_meet
                          case rel => exact ⟨_, (true), (by first | rfl | (simp; done) | (simp [*]; done)), H', ⟨by have := HJ11.out; have := HJ60.out; first | omega | exact Nat.le_refl _⟩, ⟨by (try simp only [hl571001_60]); (with_reducible repeat (first | apply Kd.R_alloc | apply Kd.R_drewN | apply Kd.R_drew)); exact Kd.R_mono HO_566001.out (fun _ hk => ⟨hk.1.1.1, ⟨hk.1.1.2, hk.2⟩⟩)⟩, ⟨by (try simp only [hl571001_60]); (with_reducible repeat (first | apply Kd.R_alloc | apply Kd.R_drewN | apply Kd.R_drew)); exact Kd.R_mono HO_571001.out (fun _ hk => ⟨hk.1.1.1, ⟨hk.1.1.2, hk.2⟩⟩)⟩, ⟨by (try simp only [hl571001_60]); (with_reducible repeat (first | apply Kd.R_alloc | apply Kd.R_drewN | apply Kd.R_drew)); exact Kd.R_mono HO_577001.out (fun _ hk => ⟨hk.1.1.1, ⟨hk.1.1.2, hk.2⟩⟩)⟩, ⟨by (try simp only [hl571001_60]); (with_reducible repeat (first | apply Kd.R_alloc | apply Kd.R_drewN | apply Kd.R_drew)); exact Kd.R_mono HO596.out (fun _ hk => ⟨hk.1.1.1.2, ⟨hk.1.1.2, hk.1.2⟩⟩)⟩, ⟨by (try simp only [hl571001_60]); (with_reducible repeat (first | refine blk_drewN ?_ _ | refine blk_drew ?_ | refine blk_alloc ?_ _)); exact BK554.out⟩, ⟨by (try simp only [hl571001_60]); (with_reducible repeat (first | refine blk_drewN ?_ _ | refine blk_drew ?_ | refine blk_alloc ?_ _)); exact BK565.out⟩, ⟨by (try simp only [hl571001_60]); (with_reducible repeat (first | refine blk_drewN ?_ _ | refine blk_drew ?_ | refine blk_alloc ?_ _)); exact BK570.out⟩, ⟨by (try simp only [hl571001_60]); (with_reducible repeat (first | refine blk_drewN ?_ _ | refine blk_drew ?_ | refine blk_alloc ?_ _)); exact BK576.out⟩, ⟨by (try simp only [hl571001_60]); (with_reducible repeat (first | refine blk_drewN ?_ _ | refine blk_drew ?_ | refine blk_alloc ?_ _)); exact BK598.out⟩, ⟨by repeat (first | (with_reducible first | exact HB.out | apply below_alloc | apply pw_below_drewN | apply below_drew1 | refine below_set ?_ GE554.out | refine below_set ?_ GE565.out | refine below_set ?_ GE570.out | refine below_set ?_ GE576.out | refine below_set ?_ GE598.out) | exact HB.out)⟩⟩
                      case rest =>
                        clear HC104
                        try clear c1
                        try clear c2
                        try clear p2
                        try clear c3
                        try clear c4
                        try clear c4b0
                        try clear c5
                        try clear c6
                        try clear c7
                        try clear c8
                        try clear c9
                        try clear c10
                        try clear c11
                        try clear c12
                        try clear c13
                        try clear c14
                        try clear c15
                        try clear c17
                        try clear c19
                        try clear c21
                        try clear c24
                        try clear c25
                        try clear c27
                        try clear c28
                        try clear c33
                        try clear c34
                        try clear c35
                        try clear c39
                        try clear c40
                        try clear c41
                        try clear c42
                        try clear c44
                        try clear c45
                        try clear c46
                        try clear c48
                        try clear c49
                        try clear c50
                        try clear c52
                        try clear c53
                        try clear c56
                        try clear c59
                        try clear c66
                        try clear c67
                        try clear c68
                        try clear c71
                        try clear c71b0
                        try clear c73
                        try clear c74
                        try clear c75
                        try clear c76
                        try clear c78
                        try clear c79
                        try clear c82
                        try clear c83
                        try clear c84
                        try clear c86
                        try clear c87
                        try clear c90
                        try clear c93
                        try clear c93b0
                        try clear c94
                        try clear c95
                        try clear c96
                        try clear c101
                        try clear c101b0
                        try clear c101b1
                        try clear c105
                        try clear c106
                        try clear c107
                        try clear c112
                        try clear c113
                        try clear c119
                        try clear c120
                        try clear c121
                        try clear c122
                        try clear c126
                        try clear c127
                        try clear c128
                        try clear c129
                        try clear c130
                        try clear c132
                        try clear c133
                        try clear c134
                        try clear c137
                        try clear c138
                        try clear c139
                        try clear c140
                        try clear c142
                        try clear c143
                        try clear c144
                        try clear hcz108_0
                        try clear hcz108_1
                        try clear hcz110_0
                        try clear hcz110_1
                        try clear hcz114_0
                        try clear hcz114_1
                        try clear hcz123_0
                        try clear hcz123_1
                        try clear hcz131_0
                        try clear hcz131_1
                        try clear hcz135_0
                        try clear hcz135_1
                        try clear hcz141_0
                        try clear hcz141_1
                        try clear hcz145_0
                        try clear hcz145_1
                        try clear hcz14_0
                        try clear hcz14_1
                        try clear hcz16_0
                        try clear hcz16_1
                        try clear hcz22_0
                        try clear hcz22_1
                        try clear hcz24_0
                        try clear hcz24_1
                        try clear hcz29_0
                        try clear hcz29_1
                        try clear hcz36_0
                        try clear hcz36_1
                        try clear hcz43_0
                        try clear hcz43_1
                        try clear hcz46_0
                        try clear hcz46_1
                        try clear hcz51_0
                        try clear hcz51_1
                        try clear hcz54_0
                        try clear hcz54_1
                        try clear hcz69_0
                        try clear hcz69_1
                        try clear hcz6_0
                        try clear hcz6_1
                        try clear hcz77_0
                        try clear hcz77_1
                        try clear hcz80_0
                        try clear hcz80_1
                        try clear hcz85_0
                        try clear hcz85_1
                        try clear hcz88_0
                        try clear hcz88_1
                        try clear hcz97_0
                        try clear hcz97_1
                        try clear hcz99_0
                        try clear hcz99_1
                        try clear hfz108_0
                        try clear hfz108_1
                        try clear hfz110_0
                        try clear hfz110_1
                        try clear hfz114_0
                        try clear hfz114_1
                        try clear hfz123_0
                        try clear hfz123_1
                        try clear hfz131_0
                        try clear hfz131_1
                        try clear hfz135_0
                        try clear hfz135_1
                        try clear hfz141_0
                        try clear hfz141_1
                        try clear hfz145_0
                        try clear hfz145_1
                        try clear hfz14_0
                        try clear hfz14_1
                        try clear hfz16_0
                        try clear hfz16_1
                        try clear hfz22_0
                        try clear hfz22_1
                        try clear hfz24_0
                        try clear hfz24_1
                        try clear hfz29_0
                        try clear hfz29_1
                        try clear hfz36_0
                        try clear hfz36_1
                        try clear hfz43_0
                        try clear hfz43_1
                        try clear hfz46_0
                        try clear hfz46_1
                        try clear hfz51_0
                        try clear hfz51_1
                        try clear hfz54_0
                        try clear hfz54_1
                        try clear hfz69_0
                        try clear hfz69_1
                        try clear hfz6_0
                        try clear hfz6_1
                        try clear hfz77_0
                        try clear hfz77_1
                        try clear hfz80_0
                        try clear hfz80_1
                        try clear hfz85_0
                        try clear hfz85_1
                        try clear hfz88_0
                        try clear hfz88_1
                        try clear hfz97_0
                        try clear hfz97_1
                        try clear hfz99_0
                        try clear hfz99_1
                        try clear p2
                        obtain ⟨kq, x92_103, rfl, HA, HJ103, HO_566001, HO_571001, HO_577001, HO_599001, BK554, BK565, BK570, BK576, BK598, HB⟩ := hcut
                        have hl577001_103 := (Kd.R_reads' HO_577001.out).1
                        rw [hl577001_103] at HO_577001
                        (try simp only [hl577001_103])
                        (try simp only [hl577001_103] at BK554)
                        (try simp only [hl577001_103] at BK565)
                        (try simp only [hl577001_103] at BK570)
                        (try simp only [hl577001_103] at BK576)
                        (try simp only [hl577001_103] at BK598)
                        (try simp only [hl577001_103] at HO_566001)
                        (try simp only [hl577001_103] at HO_571001)
                        (try simp only [hl577001_103] at HO_599001)
                        cases kq with
                        | zero => exact absurd HA.out (by simp [laws_FnExactRestrictSystem.j2])
                        | succ kj103 =>
                          have H := HA.out
                          clear HA
                          simp only [laws_FnExactRestrictSystem.j2] at H
                          by_cases c147 : x92_103 = true
                          · subst c147
                            have H1 : (some false) = some r := by rw [if_pos rfl] at H; exact H
                            clear H
                            have H := H1
                            clear H1
                            obtain rfl := Option.some.inj H
                            go_wp2
                            go_ret
                            exact ⟨by first | rfl | (simp [errW_none, errW_some] <;> rfl) | (simp [*, errW_none, errW_some] <;> rfl), by repeat (first | (with_reducible first | exact HB.out | apply below_alloc | apply pw_below_drewN | apply below_drew1 | refine below_set ?_ GE554.out | refine below_set ?_ GE565.out | refine below_set ?_ GE570.out | refine below_set ?_ GE576.out | refine below_set ?_ GE598.out) | exact HB.out)⟩
                          · replace c147 := Bool.eq_false_iff.mpr c147
                            subst c147
                            have H1 : ((laws_heldSystem.f kj103 t571 t587 1).bind fun t600 => (if t600 < 0 then (some false) else (if t600 = t586 then (some true) else (some false)))) = some r := by rw [if_neg (show ¬ (false = true) by decide)] at H; exact H
                            clear H
                            have H := H1
                            clear H1
                            replace H := Option.bind_eq_some_iff.mp H
                            obtain ⟨t600, A1480, H⟩ := H
                            replace H : (if t600 < 0 then (some false) else (if t600 = t586 then (some true) else (some false))) = some r := H
                            have A148 := Aside0.mk A1480
                            clear A1480
                            by_cases c149 : t600 < 0
                            · rw [if_pos c149] at H
                              have c149b0 : decide (t600 < 0) = true := decide_eq_true c149
                              clear c149
                              obtain rfl := Option.some.inj H
                              have hnb150 := NB576_554.out
                              have hnc150 := NB554_576.out
                              have hnb151 := NB576_565.out
                              have hnc151 := NB565_576.out
                              have hnb152 := NB576_570.out
                              have hnc152 := NB570_576.out
                              have hnb153 := NB576_598.out
                              have hnc153 := NB598_576.out
                              have hcz154_0 : wc.cell? ⟨gb576, 0, none⟩ = some (.int .i64 t571) := (blk_cell BK576.out 0).trans rfl
                              have hcz154_1 : wc.cell? ⟨gb576, 1, none⟩ = some (.slice Ao37 t587.length co37) := (blk_cell BK576.out 1).trans rfl
                              have hfz154_0 := blk_frozen BK576.out 0
                              have hfz154_1 := blk_frozen BK576.out 1
                              go_wp2_with (first | ((with_reducible refine gate_callee (f := 25) rfl ?_); refine goesL_ (some 95) rfl rfl Try.func25 (by kernel_rfl) rfl #[.agg #[.int .i64 t571, .slice Ao37 t587.length co37], .int .i64 1] rfl (by (try simp only [List.map_toArray, List.map_cons, List.map_nil]); first | done | rfl | (simp only [List.length_drop, List.length_take]; rfl)) ?_; (with_reducible refine (laws_heldSystem.calls kj103 t571 _ _ t587 1 t600 _ ?side1 ?side2 A148.out).mono ?_); (case side1 => repeat (first | exact (Kd.R_reads' HO_577001.out).2.2 | (with_reducible refine Kd.C_alloc ?_ _) | (with_reducible refine Kd.C_drewN ?_ _) | (with_reducible refine Kd.C_drew ?_))); (case side2 => exact (Kd.R_reads' HO_577001.out).2.1); rintro e w155 ⟨rfl, hb⟩; refine ⟨_, rfl, ?_⟩; have n0_ := Aside0.mk (Kd.R_below (by (with_reducible repeat (first | apply Kd.R_alloc | apply Kd.R_drewN | apply Kd.R_drew)); exact HO_566001.out) hb); have n1_ := Aside0.mk (Kd.R_below (by (with_reducible repeat (first | apply Kd.R_alloc | apply Kd.R_drewN | apply Kd.R_drew)); exact HO_571001.out) hb); have n2_ := Aside0.mk (Kd.R_below (by (with_reducible repeat (first | apply Kd.R_alloc | apply Kd.R_drewN | apply Kd.R_drew)); exact HO_577001.out) hb); have n3_ := Aside0.mk (Kd.R_below (by (with_reducible repeat (first | apply Kd.R_alloc | apply Kd.R_drewN | apply Kd.R_drew)); exact HO_599001.out) hb); have n4_ := Aside0.mk (blk_below (g := gb554) (o := .cells #[.int .i64 a0_0, .slice A0_1 l0_1.length c0_1] 24 (0, 0)) (by (with_reducible repeat (first | refine blk_drewN ?_ _ | refine blk_drew ?_ | refine blk_alloc ?_ _)); exact BK554.out) hb); have n5_ := Aside0.mk (blk_below (g := gb565) (o := .cells #[.int .i64 t560, .slice Ao23 t561.length co23] 27 (0, 0)) (by (with_reducible repeat (first | refine blk_drewN ?_ _ | refine blk_drew ?_ | refine blk_alloc ?_ _)); exact BK565.out) hb); have n6_ := Aside0.mk (blk_below (g := gb570) (o := .cells #[.int .i64 t566, .slice Ao30 t584.length co30] 27 (0, 0)) (by (with_reducible repeat (first | refine blk_drewN ?_ _ | refine blk_drew ?_ | refine blk_alloc ?_ _)); exact BK570.out) hb); have n7_ := Aside0.mk (blk_below (g := gb576) (o := .cells #[.int .i64 t571, .slice Ao37 t587.length co37] 27 (0, 0)) (by (with_reducible repeat (first | refine blk_drewN ?_ _ | refine blk_drew ?_ | refine blk_alloc ?_ _)); exact BK576.out) hb); have n8_ := Aside0.mk (blk_below (g := gb598) (o := .cells #[.int .i64 t593, .slice Ao124 t594.length co124] 27 (0, 0)) (by (with_reducible repeat (first | refine blk_drewN ?_ _ | refine blk_drew ?_ | refine blk_alloc ?_ _)); exact BK598.out) hb); have n9_ := Aside0.mk (below_step (by repeat (first | (with_reducible first | exact HB.out | apply below_alloc | apply pw_below_drewN | apply below_drew1 | refine below_set ?_ GE554.out | refine below_set ?_ GE565.out | refine below_set ?_ GE570.out | refine below_set ?_ GE576.out | refine below_set ?_ GE598.out) | exact HB.out)) hb); clear HO_566001; clear HO_571001; clear HO_577001; clear HO_599001; clear BK554; clear BK565; clear BK570; clear BK576; clear BK598; clear HB; have HO_566001 := n0_; have HO_571001 := n1_; have HO_577001 := n2_; have HO_599001 := n3_; have BK554 := n4_; have BK565 := n5_; have BK570 := n6_; have BK576 := n7_; have BK598 := n8_; have HB := n9_; clear n0_ n1_ n2_ n3_ n4_ n5_ n6_ n7_ n8_ n9_; (try clear hb); (try clear hb2); (try clear hk); (try clear hi)))
                              go_ret
                              exact ⟨by first | rfl | (simp [errW_none, errW_some] <;> rfl) | (simp [*, errW_none, errW_some] <;> rfl), by repeat (first | (with_reducible first | exact HB.out | apply below_alloc | apply pw_below_drewN | apply below_drew1 | refine below_set ?_ GE554.out | refine below_set ?_ GE565.out | refine below_set ?_ GE570.out | refine below_set ?_ GE576.out | refine below_set ?_ GE598.out) | exact HB.out)⟩
                            · rw [if_neg c149] at H
                              have c149b0 : decide (t600 < 0) = false := decide_eq_false c149
                              clear c149
                              by_cases c156 : t600 = t586
                              · rw [if_pos c156] at H
                                have c156b0 : (t600 == t586) = true := beq_iff_eq.mpr c156
                                have c156b1 : (t600 != t586) = false := bne_eq_false_iff_eq.mpr c156
                                clear c156
                                obtain rfl := Option.some.inj H
                                have hnb157 := NB576_554.out
                                have hnc157 := NB554_576.out
                                have hnb158 := NB576_565.out
                                have hnc158 := NB565_576.out
                                have hnb159 := NB576_570.out
                                have hnc159 := NB570_576.out
                                have hnb160 := NB576_598.out
                                have hnc160 := NB598_576.out
                                have hcz161_0 : wc.cell? ⟨gb576, 0, none⟩ = some (.int .i64 t571) := (blk_cell BK576.out 0).trans rfl
                                have hcz161_1 : wc.cell? ⟨gb576, 1, none⟩ = some (.slice Ao37 t587.length co37) := (blk_cell BK576.out 1).trans rfl
                                have hfz161_0 := blk_frozen BK576.out 0
                                have hfz161_1 := blk_frozen BK576.out 1
                                go_wp2_with (first | ((with_reducible refine gate_callee (f := 25) rfl ?_); refine goesL_ (some 95) rfl rfl Try.func25 (by kernel_rfl) rfl #[.agg #[.int .i64 t571, .slice Ao37 t587.length co37], .int .i64 1] rfl (by (try simp only [List.map_toArray, List.map_cons, List.map_nil]); first | done | rfl | (simp only [List.length_drop, List.length_take]; rfl)) ?_; (with_reducible refine (laws_heldSystem.calls kj103 t571 _ _ t587 1 t600 _ ?side1 ?side2 A148.out).mono ?_); (case side1 => repeat (first | exact (Kd.R_reads' HO_577001.out).2.2 | (with_reducible refine Kd.C_alloc ?_ _) | (with_reducible refine Kd.C_drewN ?_ _) | (with_reducible refine Kd.C_drew ?_))); (case side2 => exact (Kd.R_reads' HO_577001.out).2.1); rintro e w162 ⟨rfl, hb⟩; refine ⟨_, rfl, ?_⟩; have n0_ := Aside0.mk (Kd.R_below (by (with_reducible repeat (first | apply Kd.R_alloc | apply Kd.R_drewN | apply Kd.R_drew)); exact HO_566001.out) hb); have n1_ := Aside0.mk (Kd.R_below (by (with_reducible repeat (first | apply Kd.R_alloc | apply Kd.R_drewN | apply Kd.R_drew)); exact HO_571001.out) hb); have n2_ := Aside0.mk (Kd.R_below (by (with_reducible repeat (first | apply Kd.R_alloc | apply Kd.R_drewN | apply Kd.R_drew)); exact HO_577001.out) hb); have n3_ := Aside0.mk (Kd.R_below (by (with_reducible repeat (first | apply Kd.R_alloc | apply Kd.R_drewN | apply Kd.R_drew)); exact HO_599001.out) hb); have n4_ := Aside0.mk (blk_below (g := gb554) (o := .cells #[.int .i64 a0_0, .slice A0_1 l0_1.length c0_1] 24 (0, 0)) (by (with_reducible repeat (first | refine blk_drewN ?_ _ | refine blk_drew ?_ | refine blk_alloc ?_ _)); exact BK554.out) hb); have n5_ := Aside0.mk (blk_below (g := gb565) (o := .cells #[.int .i64 t560, .slice Ao23 t561.length co23] 27 (0, 0)) (by (with_reducible repeat (first | refine blk_drewN ?_ _ | refine blk_drew ?_ | refine blk_alloc ?_ _)); exact BK565.out) hb); have n6_ := Aside0.mk (blk_below (g := gb570) (o := .cells #[.int .i64 t566, .slice Ao30 t584.length co30] 27 (0, 0)) (by (with_reducible repeat (first | refine blk_drewN ?_ _ | refine blk_drew ?_ | refine blk_alloc ?_ _)); exact BK570.out) hb); have n7_ := Aside0.mk (blk_below (g := gb576) (o := .cells #[.int .i64 t571, .slice Ao37 t587.length co37] 27 (0, 0)) (by (with_reducible repeat (first | refine blk_drewN ?_ _ | refine blk_drew ?_ | refine blk_alloc ?_ _)); exact BK576.out) hb); have n8_ := Aside0.mk (blk_below (g := gb598) (o := .cells #[.int .i64 t593, .slice Ao124 t594.length co124] 27 (0, 0)) (by (with_reducible repeat (first | refine blk_drewN ?_ _ | refine blk_drew ?_ | refine blk_alloc ?_ _)); exact BK598.out) hb); have n9_ := Aside0.mk (below_step (by repeat (first | (with_reducible first | exact HB.out | apply below_alloc | apply pw_below_drewN | apply below_drew1 | refine below_set ?_ GE554.out | refine below_set ?_ GE565.out | refine below_set ?_ GE570.out | refine below_set ?_ GE576.out | refine below_set ?_ GE598.out) | exact HB.out)) hb); clear HO_566001; clear HO_571001; clear HO_577001; clear HO_599001; clear BK554; clear BK565; clear BK570; clear BK576; clear BK598; clear HB; have HO_566001 := n0_; have HO_571001 := n1_; have HO_577001 := n2_; have HO_599001 := n3_; have BK554 := n4_; have BK565 := n5_; have BK570 := n6_; have BK576 := n7_; have BK598 := n8_; have HB := n9_; clear n0_ n1_ n2_ n3_ n4_ n5_ n6_ n7_ n8_ n9_; (try clear hb); (try clear hb2); (try clear hk); (try clear hi)))
                                go_ret
                                exact ⟨by first | rfl | (simp [errW_none, errW_some] <;> rfl) | (simp [*, errW_none, errW_some] <;> rfl), by repeat (first | (with_reducible first | exact HB.out | apply below_alloc | apply pw_below_drewN | apply below_drew1 | refine below_set ?_ GE554.out | refine below_set ?_ GE565.out | refine below_set ?_ GE570.out | refine below_set ?_ GE576.out | refine below_set ?_ GE598.out) | exact HB.out)⟩
                              · rw [if_neg c156] at H
                                have c156b0 : (t600 == t586) = false := beq_eq_false_iff_ne.mpr c156
                                have c156b1 : (t600 != t586) = true := bne_iff_ne.mpr c156
                                obtain rfl := Option.some.inj H
                                have hnb163 := NB576_554.out
                                have hnc163 := NB554_576.out
                                have hnb164 := NB576_565.out
                                have hnc164 := NB565_576.out
                                have hnb165 := NB576_570.out
                                have hnc165 := NB570_576.out
                                have hnb166 := NB576_598.out
                                have hnc166 := NB598_576.out
                                have hcz167_0 : wc.cell? ⟨gb576, 0, none⟩ = some (.int .i64 t571) := (blk_cell BK576.out 0).trans rfl
                                have hcz167_1 : wc.cell? ⟨gb576, 1, none⟩ = some (.slice Ao37 t587.length co37) := (blk_cell BK576.out 1).trans rfl
                                have hfz167_0 := blk_frozen BK576.out 0
                                have hfz167_1 := blk_frozen BK576.out 1
                                go_wp2_with (first | ((with_reducible refine gate_callee (f := 25) rfl ?_); refine goesL_ (some 95) rfl rfl Try.func25 (by kernel_rfl) rfl #[.agg #[.int .i64 t571, .slice Ao37 t587.length co37], .int .i64 1] rfl (by (try simp only [List.map_toArray, List.map_cons, List.map_nil]); first | done | rfl | (simp only [List.length_drop, List.length_take]; rfl)) ?_; (with_reducible refine (laws_heldSystem.calls kj103 t571 _ _ t587 1 t600 _ ?side1 ?side2 A148.out).mono ?_); (case side1 => repeat (first | exact (Kd.R_reads' HO_577001.out).2.2 | (with_reducible refine Kd.C_alloc ?_ _) | (with_reducible refine Kd.C_drewN ?_ _) | (with_reducible refine Kd.C_drew ?_))); (case side2 => exact (Kd.R_reads' HO_577001.out).2.1); rintro e w168 ⟨rfl, hb⟩; refine ⟨_, rfl, ?_⟩; have n0_ := Aside0.mk (Kd.R_below (by (with_reducible repeat (first | apply Kd.R_alloc | apply Kd.R_drewN | apply Kd.R_drew)); exact HO_566001.out) hb); have n1_ := Aside0.mk (Kd.R_below (by (with_reducible repeat (first | apply Kd.R_alloc | apply Kd.R_drewN | apply Kd.R_drew)); exact HO_571001.out) hb); have n2_ := Aside0.mk (Kd.R_below (by (with_reducible repeat (first | apply Kd.R_alloc | apply Kd.R_drewN | apply Kd.R_drew)); exact HO_577001.out) hb); have n3_ := Aside0.mk (Kd.R_below (by (with_reducible repeat (first | apply Kd.R_alloc | apply Kd.R_drewN | apply Kd.R_drew)); exact HO_599001.out) hb); have n4_ := Aside0.mk (blk_below (g := gb554) (o := .cells #[.int .i64 a0_0, .slice A0_1 l0_1.length c0_1] 24 (0, 0)) (by (with_reducible repeat (first | refine blk_drewN ?_ _ | refine blk_drew ?_ | refine blk_alloc ?_ _)); exact BK554.out) hb); have n5_ := Aside0.mk (blk_below (g := gb565) (o := .cells #[.int .i64 t560, .slice Ao23 t561.length co23] 27 (0, 0)) (by (with_reducible repeat (first | refine blk_drewN ?_ _ | refine blk_drew ?_ | refine blk_alloc ?_ _)); exact BK565.out) hb); have n6_ := Aside0.mk (blk_below (g := gb570) (o := .cells #[.int .i64 t566, .slice Ao30 t584.length co30] 27 (0, 0)) (by (with_reducible repeat (first | refine blk_drewN ?_ _ | refine blk_drew ?_ | refine blk_alloc ?_ _)); exact BK570.out) hb); have n7_ := Aside0.mk (blk_below (g := gb576) (o := .cells #[.int .i64 t571, .slice Ao37 t587.length co37] 27 (0, 0)) (by (with_reducible repeat (first | refine blk_drewN ?_ _ | refine blk_drew ?_ | refine blk_alloc ?_ _)); exact BK576.out) hb); have n8_ := Aside0.mk (blk_below (g := gb598) (o := .cells #[.int .i64 t593, .slice Ao124 t594.length co124] 27 (0, 0)) (by (with_reducible repeat (first | refine blk_drewN ?_ _ | refine blk_drew ?_ | refine blk_alloc ?_ _)); exact BK598.out) hb); have n9_ := Aside0.mk (below_step (by repeat (first | (with_reducible first | exact HB.out | apply below_alloc | apply pw_below_drewN | apply below_drew1 | refine below_set ?_ GE554.out | refine below_set ?_ GE565.out | refine below_set ?_ GE570.out | refine below_set ?_ GE576.out | refine below_set ?_ GE598.out) | exact HB.out)) hb); clear HO_566001; clear HO_571001; clear HO_577001; clear HO_599001; clear BK554; clear BK565; clear BK570; clear BK576; clear BK598; clear HB; have HO_566001 := n0_; have HO_571001 := n1_; have HO_577001 := n2_; have HO_599001 := n3_; have BK554 := n4_; have BK565 := n5_; have BK570 := n6_; have BK576 := n7_; have BK598 := n8_; have HB := n9_; clear n0_ n1_ n2_ n3_ n4_ n5_ n6_ n7_ n8_ n9_; (try clear hb); (try clear hb2); (try clear hk); (try clear hi)))
                                go_ret
                                exact ⟨by first | rfl | (simp [errW_none, errW_some] <;> rfl) | (simp [*, errW_none, errW_some] <;> rfl), by repeat (first | (with_reducible first | exact HB.out | apply below_alloc | apply pw_below_drewN | apply below_drew1 | refine below_set ?_ GE554.out | refine below_set ?_ GE565.out | refine below_set ?_ GE570.out | refine below_set ?_ GE576.out | refine below_set ?_ GE598.out) | exact HB.out)⟩
                    · rw [if_neg c101] at H
                      have c101b0 : (t588 == t586) = false := beq_eq_false_iff_ne.mpr c101
                      have c101b1 : (t588 != t586) = true := bne_iff_ne.mpr c101
                      obtain rfl := Option.some.inj H
                      have hnb169 := NB576_554.out
                      have hnc169 := NB554_576.out
                      have hnb170 := NB576_565.out
                      have hnc170 := NB565_576.out
                      have hnb171 := NB576_570.out
                      have hnc171 := NB570_576.out
                      have hcz172_0 : wc.cell? ⟨gb576, 0, none⟩ = some (.int .i64 t571) := (blk_cell BK576.out 0).trans rfl
                      have hcz172_1 : wc.cell? ⟨gb576, 1, none⟩ = some (.slice Ao37 t572.length co37) := (blk_cell BK576.out 1).trans rfl
                      have hfz172_0 := blk_frozen BK576.out 0
                      have hfz172_1 := blk_frozen BK576.out 1
                      go_wp2_with (first | ((with_reducible refine gate_callee (f := 24) rfl ?_); refine goesL_ (some 68) rfl rfl Try.func24 (by kernel_rfl) rfl #[.agg #[.int .i64 t571, .slice Ao37 t572.length co37], .int .i64 1] rfl (by (try simp only [List.map_toArray, List.map_cons, List.map_nil]); first | done | rfl | (simp only [List.length_drop, List.length_take]; rfl)) ?_; (with_reducible refine (laws_markSystem.calls kj60 t571 (fun k_ => some k_ = (.slice Ao37 t572.length co37 : Value).ownBlock) (.slice Ao37 t572.length co37) t572 1 t586 t587 w _ ?side1 ?side2 A91.out).mono ?_); (case side1 => repeat (first | (with_reducible first | exact HB.out | apply below_alloc | apply pw_below_drewN | apply below_drew1 | refine below_set ?_ GE554.out | refine below_set ?_ GE565.out | refine below_set ?_ GE570.out | refine below_set ?_ GE576.out) | exact HB.out)); (case side2 => exact Kd.R_tight rfl HO_577001.out); rintro e w173 ⟨rfl, hy0, hb, hkp⟩; refine ⟨_, rfl, ?_⟩; have n0_ := Aside0.mk (Kd.R_mono (ok' := fun k_ => some k_ ≠ (.slice Ao30 t584.length co30 : Value).ownBlock ∧ some k_ ≠ (.slice Ao37 t572.length co37 : Value).ownBlock) (Kd.R_keptB (HO_566001.out) hkp (fun k_ hk_ hs_ => (hk_.2) hs_)) (fun k_ hk_ => ⟨hk_.1.1, hk_.1.2⟩)); have n1_ := Aside0.mk (Kd.R_mono (ok' := fun k_ => some k_ ≠ (.slice Ao23 t561.length co23 : Value).ownBlock ∧ some k_ ≠ (.slice Ao37 t572.length co37 : Value).ownBlock) (Kd.R_keptB (HO_571001.out) hkp (fun k_ hk_ hs_ => (hk_.2) hs_)) (fun k_ hk_ => ⟨hk_.1.1, hk_.1.2⟩)); have n2_ := Aside0.mk (Kd.R_reok rfl hy0 (fun k_ e_ => HO_577001.out.1 k_ e_)); have n3_ := Aside0.mk (blk_kept (by (with_reducible repeat (first | refine blk_drewN ?_ _ | refine blk_drew ?_ | refine blk_alloc ?_ _)); exact BK554.out) hkp (fun hs_ => (fun e_ => (Kd.R_ne HO_577001.out BK554.out (by decide)) e_) hs_)); have n4_ := Aside0.mk (blk_kept (by (with_reducible repeat (first | refine blk_drewN ?_ _ | refine blk_drew ?_ | refine blk_alloc ?_ _)); exact BK565.out) hkp (fun hs_ => (fun e_ => (Kd.R_ne HO_577001.out BK565.out (by decide)) e_) hs_)); have n5_ := Aside0.mk (blk_kept (by (with_reducible repeat (first | refine blk_drewN ?_ _ | refine blk_drew ?_ | refine blk_alloc ?_ _)); exact BK570.out) hkp (fun hs_ => (fun e_ => (Kd.R_ne HO_577001.out BK570.out (by decide)) e_) hs_)); have n6_ := Aside0.mk (blk_kept (by (with_reducible repeat (first | refine blk_drewN ?_ _ | refine blk_drew ?_ | refine blk_alloc ?_ _)); exact BK576.out) hkp (fun hs_ => (fun e_ => (Kd.R_ne HO_577001.out BK576.out (by decide)) e_) hs_)); have n7_ := Aside0.mk (hb); clear HO_566001; clear HO_571001; clear HO_577001; clear BK554; clear BK565; clear BK570; clear BK576; clear HB; have HO_566001 := n0_; have HO_571001 := n1_; have HO_577001 := n2_; have BK554 := n3_; have BK565 := n4_; have BK570 := n5_; have BK576 := n6_; have HB := n7_; clear n0_ n1_ n2_ n3_ n4_ n5_ n6_ n7_; (try clear hb); (try clear hkp); (try clear hy0); have hcz174_0 : w173.cell? ⟨gb576, 0, none⟩ = some (.int .i64 t571) := (blk_cell BK576.out 0).trans rfl; have hcz174_1 : w173.cell? ⟨gb576, 1, none⟩ = some (.slice Ao37 t572.length co37) := (blk_cell BK576.out 1).trans rfl; have hfz174_0 := blk_frozen BK576.out 0; have hfz174_1 := blk_frozen BK576.out 1) | ((with_reducible refine gate_callee (f := 25) rfl ?_); refine goesL_ (some 71) rfl rfl Try.func25 (by kernel_rfl) rfl #[.agg #[.int .i64 t571, .slice Ao37 t587.length co37], .int .i64 1] rfl (by (try simp only [List.map_toArray, List.map_cons, List.map_nil]); first | done | (rw [show t587.length = t572.length from (Kd.R_reads' HO_577001.out).1.symm] <;> rfl) | rfl | (simp only [List.length_drop, List.length_take]; rfl)) ?_; (with_reducible refine (laws_heldSystem.calls kj60 t571 _ _ t587 1 t588 _ ?side1 ?side2 A92.out).mono ?_); (case side1 => repeat (first | exact (Kd.R_reads' HO_577001.out).2.2 | (with_reducible refine Kd.C_alloc ?_ _) | (with_reducible refine Kd.C_drewN ?_ _) | (with_reducible refine Kd.C_drew ?_))); (case side2 => rw [show t587.length = t572.length from (Kd.R_reads' HO_577001.out).1.symm]; exact (Kd.R_reads' HO_577001.out).2.1); rintro e w175 ⟨rfl, hb⟩; refine ⟨_, rfl, ?_⟩; have n0_ := Aside0.mk (Kd.R_below (by (with_reducible repeat (first | apply Kd.R_alloc | apply Kd.R_drewN | apply Kd.R_drew)); exact HO_566001.out) hb); have n1_ := Aside0.mk (Kd.R_below (by (with_reducible repeat (first | apply Kd.R_alloc | apply Kd.R_drewN | apply Kd.R_drew)); exact HO_571001.out) hb); have n2_ := Aside0.mk (Kd.R_below (by (with_reducible repeat (first | apply Kd.R_alloc | apply Kd.R_drewN | apply Kd.R_drew)); exact HO_577001.out) hb); have n3_ := Aside0.mk (blk_below (g := gb554) (o := .cells #[.int .i64 a0_0, .slice A0_1 l0_1.length c0_1] 24 (0, 0)) (by (with_reducible repeat (first | refine blk_drewN ?_ _ | refine blk_drew ?_ | refine blk_alloc ?_ _)); exact BK554.out) hb); have n4_ := Aside0.mk (blk_below (g := gb565) (o := .cells #[.int .i64 t560, .slice Ao23 t561.length co23] 27 (0, 0)) (by (with_reducible repeat (first | refine blk_drewN ?_ _ | refine blk_drew ?_ | refine blk_alloc ?_ _)); exact BK565.out) hb); have n5_ := Aside0.mk (blk_below (g := gb570) (o := .cells #[.int .i64 t566, .slice Ao30 t584.length co30] 27 (0, 0)) (by (with_reducible repeat (first | refine blk_drewN ?_ _ | refine blk_drew ?_ | refine blk_alloc ?_ _)); exact BK570.out) hb); have n6_ := Aside0.mk (blk_below (g := gb576) (o := .cells #[.int .i64 t571, .slice Ao37 t572.length co37] 27 (0, 0)) (by (with_reducible repeat (first | refine blk_drewN ?_ _ | refine blk_drew ?_ | refine blk_alloc ?_ _)); exact BK576.out) hb); have n7_ := Aside0.mk (below_step (by repeat (first | (with_reducible first | exact HB.out | apply below_alloc | apply pw_below_drewN | apply below_drew1 | refine below_set ?_ GE554.out | refine below_set ?_ GE565.out | refine below_set ?_ GE570.out | refine below_set ?_ GE576.out) | exact HB.out)) hb); clear HO_566001; clear HO_571001; clear HO_577001; clear BK554; clear BK565; clear BK570; clear BK576; clear HB; have HO_566001 := n0_; have HO_571001 := n1_; have HO_577001 := n2_; have BK554 := n3_; have BK565 := n4_; have BK570 := n5_; have BK576 := n6_; have HB := n7_; clear n0_ n1_ n2_ n3_ n4_ n5_ n6_ n7_; (try clear hb); (try clear hb2); (try clear hk); (try clear hi)))
                      go_ret
                      exact ⟨by first | rfl | (simp [errW_none, errW_some] <;> rfl) | (simp [*, errW_none, errW_some] <;> rfl), by repeat (first | (with_reducible first | exact HB.out | apply below_alloc | apply pw_below_drewN | apply below_drew1 | refine below_set ?_ GE554.out | refine below_set ?_ GE565.out | refine below_set ?_ GE570.out | refine below_set ?_ GE576.out) | exact HB.out)⟩
          · replace c59 := Bool.eq_false_iff.mpr c59
            subst c59
            have H1 : (some false) = some r := by rw [if_neg (show ¬ (false = true) by decide)] at H; exact H
            clear H
            have H := H1
            clear H1
            obtain rfl := Option.some.inj H
            try go_wp2
            have n0_ := Aside0.mk (Kd.R_drew HO_566001.out)
            have n1_ := Aside0.mk (Kd.R_drew HO_571001.out)
            have n2_ := Aside0.mk (Kd.R_drew HO_577001.out)
            have n3_ := Aside0.mk (blk_drew BK554.out)
            have n4_ := Aside0.mk (blk_drew BK565.out)
            have n5_ := Aside0.mk (blk_drew BK570.out)
            have n6_ := Aside0.mk (blk_drew BK576.out)
            have n7_ := Aside0.mk (below_drew1 HB.out)
            clear HO_566001
            clear HO_571001
            clear HO_577001
            clear BK554
            clear BK565
            clear BK570
            clear BK576
            clear HB
            have HO_566001 := n0_
            have HO_571001 := n1_
            have HO_577001 := n2_
            have BK554 := n3_
            have BK565 := n4_
            have BK570 := n5_
            have BK576 := n6_
            have HB := n7_
            clear n0_ n1_ n2_ n3_ n4_ n5_ n6_ n7_
            refine start_ (n := 5) (S := fun w' => w'.cell? ⟨gb570, 0, none⟩ = some (.int .i64 t566) ∧ w'.cell? ⟨gb570, 1, none⟩ = some (.slice Ao30 t567.length co30) ∧ w'.cell? ⟨gb554, 0, none⟩ = some (.int .i64 a0_0) ∧ w'.cell? ⟨gb554, 1, none⟩ = some (.slice A0_1 l0_1.length c0_1)) (ds := []) #[false, false, false, false, false] (by kernel_rfl) rfl rfl ⟨(blk_cell BK570.out 0).trans rfl, (blk_cell BK570.out 1).trans rfl, (blk_cell BK554.out 0).trans rfl, (blk_cell BK554.out 1).trans rfl⟩ (fun hHeld => ?_)
            generalize wc.drew = w176 at HO_566001 HO_571001 HO_577001 BK554 BK565 BK570 BK576 HB hHeld ⊢
            refine take_ (i := 0) (N := some 45) (v := ?_) (a' := ?_) #[true, false, false, false, false] rfl rfl (by kernel_rfl) (fun _ _ _ h => h) (Or.inl ⟨by rfl, ?_⟩) hHeld ?_ ?_
            rotate_left
            · rintro w' ⟨s0, s1, s2, s3⟩
              go_simp
              with_reducible rfl
            rotate_left
            · simp only [Act.put, List.setIfInBounds_toArray, List.set_cons_zero, List.set_cons_succ, i64_w, i32_w]
              rfl
            refine take_ (i := 1) (N := some 46) (v := ?_) (a' := ?_) #[true, true, false, false, false] rfl rfl (by kernel_rfl) (fun _ _ _ h => h) (Or.inl ⟨by rfl, ?_⟩) hHeld ?_ ?_
            rotate_left
            · rintro w' ⟨s0, s1, s2, s3⟩
              go_simp
              with_reducible rfl
            rotate_left
            · simp only [Act.put, List.setIfInBounds_toArray, List.set_cons_zero, List.set_cons_succ, i64_w, i32_w]
              rfl
            refine one_ (i := 2) (N := some 47) #[true, true, true, false, false] rfl rfl (by kernel_rfl) (by decide) (fun K hK => ?_)
            refine goes_ Try.func17 (by kernel_rfl) rfl #[.agg #[.int .i64 a0_0, .slice A0_1 l0_1.length c0_1]] (by rfl) rfl rfl (by (try simp only [List.map_toArray, List.map_cons, List.map_nil]); first | done | rfl | (simp only [List.length_drop, List.length_take]; rfl)) ?_
            with_reducible refine (laws_toSystem.calls kj11 a0_0 _ _ l0_1 t578 t579 _ ?side1 ?side2 A57.out).mono ?_
            (case side1 => repeat (first | exact (Kd.C_below HR0_1.out HB.out) | (with_reducible refine Kd.C_alloc ?_ _) | (with_reducible refine Kd.C_drewN ?_ _) | (with_reducible refine Kd.C_drew ?_)))
            (case side2 => exact HC0_1.out)
            rintro e w177 ⟨v580, rfl, ho0, hb⟩
            refine ⟨_, rfl, ?_⟩
            have n0_ := Aside0.mk (Kd.R_elder' (by (with_reducible repeat (first | apply Kd.R_alloc | apply Kd.R_drewN | apply Kd.R_drew)); exact HO_566001.out) (Kd.R_base ho0) hb)
            have n1_ := Aside0.mk (Kd.R_elder' (by (with_reducible repeat (first | apply Kd.R_alloc | apply Kd.R_drewN | apply Kd.R_drew)); exact HO_571001.out) (Kd.R_base ho0) hb)
            have n2_ := Aside0.mk (Kd.R_elder' (by (with_reducible repeat (first | apply Kd.R_alloc | apply Kd.R_drewN | apply Kd.R_drew)); exact HO_577001.out) (Kd.R_base ho0) hb)
            have n3_ := Aside0.mk (Kd.R_lower (Kd.R_new' (Kd.R_new' (Kd.R_new' ho0 (Kd.R_lt (by (with_reducible repeat (first | apply Kd.R_alloc | apply Kd.R_drewN | apply Kd.R_drew)); exact HO_566001.out))) (Kd.R_lt (by (with_reducible repeat (first | apply Kd.R_alloc | apply Kd.R_drewN | apply Kd.R_drew)); exact HO_571001.out))) (Kd.R_lt (by (with_reducible repeat (first | apply Kd.R_alloc | apply Kd.R_drewN | apply Kd.R_drew)); exact HO_577001.out))) (below_size (by repeat (first | (with_reducible first | exact HB.out | apply below_alloc | apply pw_below_drewN | apply below_drew1 | refine below_set ?_ GE554.out | refine below_set ?_ GE565.out | refine below_set ?_ GE570.out | refine below_set ?_ GE576.out) | exact HB.out))))
            have n4_ := Aside0.mk (blk_below (g := gb554) (o := .cells #[.int .i64 a0_0, .slice A0_1 l0_1.length c0_1] 24 (0, 0)) (by (with_reducible repeat (first | refine blk_drewN ?_ _ | refine blk_drew ?_ | refine blk_alloc ?_ _)); exact BK554.out) hb)
            have n5_ := Aside0.mk (blk_below (g := gb565) (o := .cells #[.int .i64 t560, .slice Ao23 t561.length co23] 27 (0, 0)) (by (with_reducible repeat (first | refine blk_drewN ?_ _ | refine blk_drew ?_ | refine blk_alloc ?_ _)); exact BK565.out) hb)
            have n6_ := Aside0.mk (blk_below (g := gb570) (o := .cells #[.int .i64 t566, .slice Ao30 t567.length co30] 27 (0, 0)) (by (with_reducible repeat (first | refine blk_drewN ?_ _ | refine blk_drew ?_ | refine blk_alloc ?_ _)); exact BK570.out) hb)
            have n7_ := Aside0.mk (blk_below (g := gb576) (o := .cells #[.int .i64 t571, .slice Ao37 t572.length co37] 27 (0, 0)) (by (with_reducible repeat (first | refine blk_drewN ?_ _ | refine blk_drew ?_ | refine blk_alloc ?_ _)); exact BK576.out) hb)
            have n8_ := Aside0.mk (below_step (by repeat (first | (with_reducible first | exact HB.out | apply below_alloc | apply pw_below_drewN | apply below_drew1 | refine below_set ?_ GE554.out | refine below_set ?_ GE565.out | refine below_set ?_ GE570.out | refine below_set ?_ GE576.out) | exact HB.out)) hb)
            clear HO_566001
            clear HO_571001
            clear HO_577001
            clear BK554
            clear BK565
            clear BK570
            clear BK576
            clear HB
            have HO_566001 := n0_
            have HO_571001 := n1_
            have HO_577001 := n2_
            have HO581 := n3_
            have BK554 := n4_
            have BK565 := n5_
            have BK570 := n6_
            have BK576 := n7_
            have HB := n8_
            clear n0_ n1_ n2_ n3_ n4_ n5_ n6_ n7_ n8_
            (try clear hb)
            (try clear hb2)
            (try clear hk)
            (try clear hi)
            (try clear ho0)
            obtain ⟨Ao178, co178, eo178⟩ := Kd.R_slice HO581.out
            (first | subst eo178 | (injection eo178 with f1_ f2_ f3_; have f4_ := f1_.symm; have f5_ := f3_.symm; clear f1_ f2_ f3_; subst f4_; subst f5_))
            refine hK.out _ _ ⟨(blk_cell BK570.out 0).trans rfl, (blk_cell BK570.out 1).trans rfl, (blk_cell BK554.out 0).trans rfl, (blk_cell BK554.out 1).trans rfl⟩ (fun hHeld => ?_)
            clear hK K
            refine norm_ (a' := ?_) ?_ ?_
            rotate_left
            · show Act.put _ (some 47) _ = _
              simp only [Act.put, List.setIfInBounds_toArray, List.set_cons_zero, List.set_cons_succ, i64_w, i32_w]
              rfl
            refine one_ (i := 3) (N := some 48) #[true, true, true, true, false] rfl rfl (by kernel_rfl) (by decide) (fun K hK => ?_)
            refine goes_ Try.func19 (by kernel_rfl) rfl #[.agg #[.int .i64 t566, .slice Ao30 t567.length co30], .agg #[.int .i64 t578, .slice Ao178 t579.length co178]] (by rfl) rfl rfl (by (try simp only [List.map_toArray, List.map_cons, List.map_nil]); first | done | rfl | (simp only [List.length_drop, List.length_take]; rfl)) ?_
            with_reducible refine (laws_eqSystem.calls kj11 t566 _ _ t567 t578 _ _ t579 false _ ?side1 ?side2 ?side3 ?side4 A58.out).mono ?_
            (case side1 => repeat (first | exact (Kd.R_reads' HO_571001.out).2.2 | (with_reducible refine Kd.C_alloc ?_ _) | (with_reducible refine Kd.C_drewN ?_ _) | (with_reducible refine Kd.C_drew ?_)))
            (case side2 => exact (Kd.R_reads' HO_571001.out).2.1)
            (case side3 => repeat (first | exact (Kd.R_reads' HO581.out).2.2 | (with_reducible refine Kd.C_alloc ?_ _) | (with_reducible refine Kd.C_drewN ?_ _) | (with_reducible refine Kd.C_drew ?_)))
            (case side4 => exact (Kd.R_reads' HO581.out).2.1)
            rintro e w179 ⟨rfl, hb⟩
            refine ⟨_, rfl, ?_⟩
            have n0_ := Aside0.mk (Kd.R_below (by (with_reducible repeat (first | apply Kd.R_alloc | apply Kd.R_drewN | apply Kd.R_drew)); exact HO_566001.out) hb)
            have n1_ := Aside0.mk (Kd.R_below (by (with_reducible repeat (first | apply Kd.R_alloc | apply Kd.R_drewN | apply Kd.R_drew)); exact HO_571001.out) hb)
            have n2_ := Aside0.mk (Kd.R_below (by (with_reducible repeat (first | apply Kd.R_alloc | apply Kd.R_drewN | apply Kd.R_drew)); exact HO_577001.out) hb)
            have n3_ := Aside0.mk (Kd.R_below (by (with_reducible repeat (first | apply Kd.R_alloc | apply Kd.R_drewN | apply Kd.R_drew)); exact HO581.out) hb)
            have n4_ := Aside0.mk (blk_below (g := gb554) (o := .cells #[.int .i64 a0_0, .slice A0_1 l0_1.length c0_1] 24 (0, 0)) (by (with_reducible repeat (first | refine blk_drewN ?_ _ | refine blk_drew ?_ | refine blk_alloc ?_ _)); exact BK554.out) hb)
            have n5_ := Aside0.mk (blk_below (g := gb565) (o := .cells #[.int .i64 t560, .slice Ao23 t561.length co23] 27 (0, 0)) (by (with_reducible repeat (first | refine blk_drewN ?_ _ | refine blk_drew ?_ | refine blk_alloc ?_ _)); exact BK565.out) hb)
            have n6_ := Aside0.mk (blk_below (g := gb570) (o := .cells #[.int .i64 t566, .slice Ao30 t567.length co30] 27 (0, 0)) (by (with_reducible repeat (first | refine blk_drewN ?_ _ | refine blk_drew ?_ | refine blk_alloc ?_ _)); exact BK570.out) hb)
            have n7_ := Aside0.mk (blk_below (g := gb576) (o := .cells #[.int .i64 t571, .slice Ao37 t572.length co37] 27 (0, 0)) (by (with_reducible repeat (first | refine blk_drewN ?_ _ | refine blk_drew ?_ | refine blk_alloc ?_ _)); exact BK576.out) hb)
            have n8_ := Aside0.mk (below_step (by repeat (first | (with_reducible first | exact HB.out | apply below_alloc | apply pw_below_drewN | apply below_drew1 | refine below_set ?_ GE554.out | refine below_set ?_ GE565.out | refine below_set ?_ GE570.out | refine below_set ?_ GE576.out) | exact HB.out)) hb)
            clear HO_566001
            clear HO_571001
            clear HO_577001
            clear HO581
            clear BK554
            clear BK565
            clear BK570
            clear BK576
            clear HB
            have HO_566001 := n0_
            have HO_571001 := n1_
            have HO_577001 := n2_
            have HO581 := n3_
            have BK554 := n4_
            have BK565 := n5_
            have BK570 := n6_
            have BK576 := n7_
            have HB := n8_
            clear n0_ n1_ n2_ n3_ n4_ n5_ n6_ n7_ n8_
            (try clear hb)
            (try clear hb2)
            (try clear hk)
            (try clear hi)
            refine hK.out _ _ ⟨(blk_cell BK570.out 0).trans rfl, (blk_cell BK570.out 1).trans rfl, (blk_cell BK554.out 0).trans rfl, (blk_cell BK554.out 1).trans rfl⟩ (fun hHeld => ?_)
            clear hK K
            refine norm_ (a' := ?_) ?_ ?_
            rotate_left
            · show Act.put _ (some 48) _ = _
              simp only [Act.put, List.setIfInBounds_toArray, List.set_cons_zero, List.set_cons_succ, i64_w, i32_w]
              rfl
            refine pure_ (i := 4) (N := some 49) (v := ?_) (a' := ?_) #[true, true, true, true, true] rfl rfl (by kernel_rfl) (fun _ _ _ h => h) (Or.inl ⟨by rfl, ?_⟩) ?_ ?_
            rotate_left
            · intro w'
              go_simp
              with_reducible rfl
            rotate_left
            · simp only [Act.put, List.setIfInBounds_toArray, List.set_cons_zero, List.set_cons_succ, i64_w, i32_w]
              rfl
            refine done_ (by kernel_rfl) ?_
            try go_wp2
            go_ret
            exact ⟨by first | rfl | (simp [errW_none, errW_some] <;> rfl) | (simp [*, errW_none, errW_some] <;> rfl), by repeat (first | (with_reducible first | exact HB.out | apply below_alloc | apply pw_below_drewN | apply below_drew1 | refine below_set ?_ GE554.out | refine below_set ?_ GE565.out | refine below_set ?_ GE570.out | refine below_set ?_ GE576.out) | exact HB.out)⟩

/-- THE ONE PURE STATEMENT of laws_FnExactRestrictSystem. -/
def laws_FnExactRestrictSystem.Pure : Prop := ∀ (a0_0 : Int) (l0_1 : List Int) (a1 : Int), (Lit.int .i64 a0_0).wf = true → (l0_1.length ≤ maxLen ∧ ∀ y ∈ l0_1, (Lit.int .i64 y).wf = true) → (Lit.int .i64 a1).wf = true → ∃ k, laws_FnExactRestrictSystem.f k a0_0 l0_1 a1 = some true
theorem laws_FnExactRestrictSystem.walk (P : laws_FnExactRestrictSystem.Pure) (a0_0 : Int) (A0_1 : Option Addr) (c0_1 : Nat) (l0_1 : List Int) (a1 : Int) (w : World) (hr0_1 : Kd.C (Kd.int .i64) w A0_1 l0_1.length l0_1) (hc0_1 : l0_1.length ≤ c0_1) (w0_0 : (Lit.int .i64 a0_0).wf = true) (w0_1 : (l0_1.length ≤ maxLen ∧ ∀ y ∈ l0_1, (Lit.int .i64 y).wf = true)) (w1 : (Lit.int .i64 a1).wf = true) :
    Calls Try.prog 11 #[.agg #[.int .i64 a0_0, .slice A0_1 l0_1.length c0_1], .int .i64 a1] w fun e w' => e = .returned (.bool true) ∧ Below w.heap.size w w' := by
  obtain ⟨k, h⟩ := P a0_0 l0_1 a1 w0_0 w0_1 w1
  refine (laws_FnExactRestrictSystem.calls k a0_0 A0_1 c0_1 l0_1 a1 true w hr0_1 hc0_1 h).mono ?_
  rintro e w' ⟨rfl, hd⟩
  exact ⟨rfl, hd⟩

end Go.Proofs.Ytplgfchiaapmfaa.Q
