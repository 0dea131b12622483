/- Functions of the given program as plain functions, and that the program's calls answer as they do; written by a program of this session over the kit's print. -/
import Derived.Test.YtjeidmbggdgggaaQ0
import Derived.Test.YtjeidmbggdgggaaQ1
import Derived.Test.YtjeidmbggdgggaaQ2
namespace Go.Proofs.Ytjeidmbggdgggaa.Q
open Go.RowKit Go.Proofs.YtjeidmbggdgggaaW.PrintWords Go.Proofs.YtjeidmbggdgggaaW.PrintLast Go.Proofs.YtjeidmbggdgggaaW.PrintMore
attribute [local go_sem] max2_int min2_int max_two min_two max_three min_three max_four min_four   -- for this text's walks alone
set_option linter.unusedVariables false
set_option linter.unusedSimpArgs false

/-! ### laws_FnBestCycle: function 3 -/
def laws_FnBestCycle.j0 : Nat → List Int → Int → Int → Int → Int → Int → Bool → Option (Bool)
  | 0, _, _, _, _, _, _, _ => none
  | k + 1, x1, x5, x6, x7, x8, x9, x55 => if x55 = true then (some false) else ((laws_b10At.f x1 1 x7).bind fun t126 => ((laws_b10At.f x1 2 (wrap64 ((wrap64 (1 + t126)) + 1))).bind fun t127 => ((laws_b10Abs.f (wrap64 ((wrap64 (t127 * x5)) - (wrap64 (x6 * (wrap64 (1 + t126))))))).bind fun t128 => ((laws_b10Abs.f (wrap64 ((wrap64 (x8 * x5)) - (wrap64 (x6 * x9))))).bind fun t129 => (if (wrap64 (t129 * (wrap64 (1 + t126)))) < (wrap64 (t128 * x9)) then (some true) else (if (wrap64 (t129 * (wrap64 (1 + t126)))) = (wrap64 (t128 * x9)) then (if x9 < (wrap64 (1 + t126)) then (some true) else (if x9 = (wrap64 (1 + t126)) then (some (decide (x8 ≤ t127))) else (some false))) else (some false)))))))
def laws_FnBestCycle.f (k : Nat) (l0 : List Int) (l1 : List Int) : Option (Bool) := (laws_b10Long.f l0 l1).bind fun t119 => (if t119 = true then (some true) else ((laws_b10At.f l0 0 250).bind fun t120 => ((laws_b10At.f l0 1 (wrap64 ((wrap64 (1 + t120)) + 1))).bind fun t121 => ((laws_b10At.f l1 0 60).bind fun t122 => ((impl_BestCycle.f k t121 (wrap64 (1 + t120)) (wrap64 (1 + t122))).bind fun bt123 => (if bt123.2.2 = true then (if bt123.2.1 < 1 then (laws_FnBestCycle.j0 k l1 (wrap64 (1 + t120)) t121 (wrap64 (1 + t122)) bt123.1 bt123.2.1 true) else (if bt123.2.1 > (wrap64 (1 + t122)) then (laws_FnBestCycle.j0 k l1 (wrap64 (1 + t120)) t121 (wrap64 (1 + t122)) bt123.1 bt123.2.1 true) else (if bt123.1 < 0 then (laws_FnBestCycle.j0 k l1 (wrap64 (1 + t120)) t121 (wrap64 (1 + t122)) bt123.1 bt123.2.1 true) else (laws_FnBestCycle.j0 k l1 (wrap64 (1 + t120)) t121 (wrap64 (1 + t122)) bt123.1 bt123.2.1 (decide (bt123.1 > bt123.2.1)))))) else (laws_FnBestCycle.j0 k l1 (wrap64 (1 + t120)) t121 (wrap64 (1 + t122)) bt123.1 bt123.2.1 true)))))))
theorem laws_FnBestCycle.mono_l : ∀ k, (∀ y0 y1 y2 y3 y4 y5 y6, LeO (laws_FnBestCycle.j0 k y0 y1 y2 y3 y4 y5 y6) (laws_FnBestCycle.j0 (k + 1) y0 y1 y2 y3 y4 y5 y6))
  | 0 => fun _ _ _ _ _ _ _ r h => by simp [laws_FnBestCycle.j0] at h
  | k + 1 => by
    have ih0 := laws_FnBestCycle.mono_l k
    · intro y0 y1 y2 y3 y4 y5 y6
      unfold laws_FnBestCycle.j0
      repeat' first
      | (with_reducible exact ih0 _ _ _ _ _ _ _)
      | (with_reducible exact impl_BestCycle.mono _ _ _ _)
      | (with_reducible exact LeO.refl _)
      | (with_reducible exact LeO.none _)
      | (with_reducible refine LeO.ite ?_ ?_)
      | (with_reducible refine LeO.bind ?_ (fun _ => ?_))
      | exact ih0 _ _ _ _ _ _ _
      | exact impl_BestCycle.mono _ _ _ _
      | exact LeO.none _
      | refine LeO.ite ?_ ?_
      | refine LeO.bind ?_ (fun _ => ?_)
theorem laws_FnBestCycle.mono : ∀ a0 a1 k, LeO (laws_FnBestCycle.f k a0 a1) (laws_FnBestCycle.f (k + 1) a0 a1) := by
  intro a0 a1 k
  have ih0 := laws_FnBestCycle.mono_l k
  unfold laws_FnBestCycle.f
  repeat' first
      | (with_reducible exact ih0 _ _ _ _ _ _ _)
      | (with_reducible exact impl_BestCycle.mono _ _ _ _)
      | (with_reducible exact LeO.refl _)
      | (with_reducible exact LeO.none _)
      | (with_reducible refine LeO.ite ?_ ?_)
      | (with_reducible refine LeO.bind ?_ (fun _ => ?_))
      | exact ih0 _ _ _ _ _ _ _
      | exact impl_BestCycle.mono _ _ _ _
      | exact LeO.none _
      | refine LeO.ite ?_ ?_
      | refine LeO.bind ?_ (fun _ => ?_)
set_option maxHeartbeats 8000000 in
set_option maxRecDepth 100000 in
theorem laws_FnBestCycle.calls (k : Nat) (A0 : Option Addr) (c0 : Nat) (l0 : List Int) (A1 : Option Addr) (c1 : Nat) (l1 : List Int) (r : Bool) (w : World) (hr0 : Kd.C (Kd.int .u8) w A0 l0.length l0) (hc0 : l0.length ≤ c0) (hr1 : Kd.C (Kd.int .u8) w A1 l1.length l1) (hc1 : l1.length ≤ c1) (h : laws_FnBestCycle.f k l0 l1 = some r) :
    Calls Try.prog 3 #[.slice A0 l0.length c0, .slice A1 l1.length c1] w fun e w' => e = .returned (.bool r) ∧ Below w.heap.size w w' := by
  have HR0 := Aside0.mk hr0
  have HC0 := Aside0.mk hc0
  clear hr0 hc0
  have HR1 := Aside0.mk hr1
  have HC1 := Aside0.mk hc1
  clear hr1 hc1
  have HB := Aside0.mk (Below.refl w.heap.size w)
  have H : ((laws_b10Long.f l0 l1).bind fun t119 => (if t119 = true then (some true) else ((laws_b10At.f l0 0 250).bind fun t120 => ((laws_b10At.f l0 1 (wrap64 ((wrap64 (1 + t120)) + 1))).bind fun t121 => ((laws_b10At.f l1 0 60).bind fun t122 => ((impl_BestCycle.f k t121 (wrap64 (1 + t120)) (wrap64 (1 + t122))).bind fun bt123 => (if bt123.2.2 = true then (if bt123.2.1 < 1 then (laws_FnBestCycle.j0 k l1 (wrap64 (1 + t120)) t121 (wrap64 (1 + t122)) bt123.1 bt123.2.1 true) else (if bt123.2.1 > (wrap64 (1 + t122)) then (laws_FnBestCycle.j0 k l1 (wrap64 (1 + t120)) t121 (wrap64 (1 + t122)) bt123.1 bt123.2.1 true) else (if bt123.1 < 0 then (laws_FnBestCycle.j0 k l1 (wrap64 (1 + t120)) t121 (wrap64 (1 + t122)) bt123.1 bt123.2.1 true) else (laws_FnBestCycle.j0 k l1 (wrap64 (1 + t120)) t121 (wrap64 (1 + t122)) bt123.1 bt123.2.1 (decide (bt123.1 > bt123.2.1)))))) else (laws_FnBestCycle.j0 k l1 (wrap64 (1 + t120)) t121 (wrap64 (1 + t122)) bt123.1 bt123.2.1 true)))))))) = some r := h
  clear h
  replace H := Option.bind_eq_some_iff.mp H
  obtain ⟨t119, A30, H⟩ := H
  replace H : (if t119 = true then (some true) else ((laws_b10At.f l0 0 250).bind fun t120 => ((laws_b10At.f l0 1 (wrap64 ((wrap64 (1 + t120)) + 1))).bind fun t121 => ((laws_b10At.f l1 0 60).bind fun t122 => ((impl_BestCycle.f k t121 (wrap64 (1 + t120)) (wrap64 (1 + t122))).bind fun bt123 => (if bt123.2.2 = true then (if bt123.2.1 < 1 then (laws_FnBestCycle.j0 k l1 (wrap64 (1 + t120)) t121 (wrap64 (1 + t122)) bt123.1 bt123.2.1 true) else (if bt123.2.1 > (wrap64 (1 + t122)) then (laws_FnBestCycle.j0 k l1 (wrap64 (1 + t120)) t121 (wrap64 (1 + t122)) bt123.1 bt123.2.1 true) else (if bt123.1 < 0 then (laws_FnBestCycle.j0 k l1 (wrap64 (1 + t120)) t121 (wrap64 (1 + t122)) bt123.1 bt123.2.1 true) else (laws_FnBestCycle.j0 k l1 (wrap64 (1 + t120)) t121 (wrap64 (1 + t122)) bt123.1 bt123.2.1 (decide (bt123.1 > bt123.2.1)))))) else (laws_FnBestCycle.j0 k l1 (wrap64 (1 + t120)) t121 (wrap64 (1 + t122)) bt123.1 bt123.2.1 true))))))) = some r := H
  have A3 := Aside0.mk A30
  clear A30
  by_cases c4 : t119 = true
  · subst c4
    have H1 : (some true) = some r := by rw [if_pos rfl] at H; exact H
    clear H
    have H := H1
    clear H1
    obtain rfl := Option.some.inj H
    go_enter Try.func3, Try.ntmps3
    go_wp2_with (first | ((with_reducible refine gate_callee (f := 15) rfl ?_); refine goesL_ (some 17) rfl rfl Try.func15 (by kernel_rfl) rfl #[.slice A0 l0.length c0, .slice A1 l1.length c1] rfl (by (try simp only [List.map_toArray, List.map_cons, List.map_nil]); first | done | rfl | (simp only [List.length_drop, List.length_take]; rfl)) ?_; (with_reducible refine (laws_b10Long.calls _ _ l0 _ _ l1 true _ ?side1 ?side2 ?side3 ?side4 A3.out).mono ?_); (case side1 => repeat (first | exact HR0.out | (with_reducible refine Kd.C_alloc ?_ _) | (with_reducible refine Kd.C_drewN ?_ _) | (with_reducible refine Kd.C_drew ?_))); (case side2 => exact HC0.out); (case side3 => repeat (first | exact HR1.out | (with_reducible refine Kd.C_alloc ?_ _) | (with_reducible refine Kd.C_drewN ?_ _) | (with_reducible refine Kd.C_drew ?_))); (case side4 => exact HC1.out); rintro e w' ⟨rfl, ⟨nd, rfl⟩⟩; refine ⟨_, rfl, ?_⟩))
    go_ret
    exact ⟨by first | rfl | (simp [errW_none, errW_some] <;> rfl) | (simp [*, errW_none, errW_some] <;> rfl), by repeat (first | (with_reducible first | exact HB.out | apply below_alloc | apply pw_below_drewN | apply below_drew1) | exact HB.out)⟩
  · replace c4 := Bool.eq_false_iff.mpr c4
    subst c4
    have H1 : ((laws_b10At.f l0 0 250).bind fun t120 => ((laws_b10At.f l0 1 (wrap64 ((wrap64 (1 + t120)) + 1))).bind fun t121 => ((laws_b10At.f l1 0 60).bind fun t122 => ((impl_BestCycle.f k t121 (wrap64 (1 + t120)) (wrap64 (1 + t122))).bind fun bt123 => (if bt123.2.2 = true then (if bt123.2.1 < 1 then (laws_FnBestCycle.j0 k l1 (wrap64 (1 + t120)) t121 (wrap64 (1 + t122)) bt123.1 bt123.2.1 true) else (if bt123.2.1 > (wrap64 (1 + t122)) then (laws_FnBestCycle.j0 k l1 (wrap64 (1 + t120)) t121 (wrap64 (1 + t122)) bt123.1 bt123.2.1 true) else (if bt123.1 < 0 then (laws_FnBestCycle.j0 k l1 (wrap64 (1 + t120)) t121 (wrap64 (1 + t122)) bt123.1 bt123.2.1 true) else (laws_FnBestCycle.j0 k l1 (wrap64 (1 + t120)) t121 (wrap64 (1 + t122)) bt123.1 bt123.2.1 (decide (bt123.1 > bt123.2.1)))))) else (laws_FnBestCycle.j0 k l1 (wrap64 (1 + t120)) t121 (wrap64 (1 + t122)) bt123.1 bt123.2.1 true)))))) = some r := by rw [if_neg (show ¬ (false = true) by decide)] at H; exact H
    clear H
    have H := H1
    clear H1
    replace H := Option.bind_eq_some_iff.mp H
    obtain ⟨t120, A50, H⟩ := H
    replace H : ((laws_b10At.f l0 1 (wrap64 ((wrap64 (1 + t120)) + 1))).bind fun t121 => ((laws_b10At.f l1 0 60).bind fun t122 => ((impl_BestCycle.f k t121 (wrap64 (1 + t120)) (wrap64 (1 + t122))).bind fun bt123 => (if bt123.2.2 = true then (if bt123.2.1 < 1 then (laws_FnBestCycle.j0 k l1 (wrap64 (1 + t120)) t121 (wrap64 (1 + t122)) bt123.1 bt123.2.1 true) else (if bt123.2.1 > (wrap64 (1 + t122)) then (laws_FnBestCycle.j0 k l1 (wrap64 (1 + t120)) t121 (wrap64 (1 + t122)) bt123.1 bt123.2.1 true) else (if bt123.1 < 0 then (laws_FnBestCycle.j0 k l1 (wrap64 (1 + t120)) t121 (wrap64 (1 + t122)) bt123.1 bt123.2.1 true) else (laws_FnBestCycle.j0 k l1 (wrap64 (1 + t120)) t121 (wrap64 (1 + t122)) bt123.1 bt123.2.1 (decide (bt123.1 > bt123.2.1)))))) else (laws_FnBestCycle.j0 k l1 (wrap64 (1 + t120)) t121 (wrap64 (1 + t122)) bt123.1 bt123.2.1 true))))) = some r := H
    have A5 := Aside0.mk A50
    clear A50
    replace H := Option.bind_eq_some_iff.mp H
    obtain ⟨t121, A60, H⟩ := H
    replace H : ((laws_b10At.f l1 0 60).bind fun t122 => ((impl_BestCycle.f k t121 (wrap64 (1 + t120)) (wrap64 (1 + t122))).bind fun bt123 => (if bt123.2.2 = true then (if bt123.2.1 < 1 then (laws_FnBestCycle.j0 k l1 (wrap64 (1 + t120)) t121 (wrap64 (1 + t122)) bt123.1 bt123.2.1 true) else (if bt123.2.1 > (wrap64 (1 + t122)) then (laws_FnBestCycle.j0 k l1 (wrap64 (1 + t120)) t121 (wrap64 (1 + t122)) bt123.1 bt123.2.1 true) else (if bt123.1 < 0 then (laws_FnBestCycle.j0 k l1 (wrap64 (1 + t120)) t121 (wrap64 (1 + t122)) bt123.1 bt123.2.1 true) else (laws_FnBestCycle.j0 k l1 (wrap64 (1 + t120)) t121 (wrap64 (1 + t122)) bt123.1 bt123.2.1 (decide (bt123.1 > bt123.2.1)))))) else (laws_FnBestCycle.j0 k l1 (wrap64 (1 + t120)) t121 (wrap64 (1 + t122)) bt123.1 bt123.2.1 true)))) = some r := H
    have A6 := Aside0.mk A60
    clear A60
    replace H := Option.bind_eq_some_iff.mp H
    obtain ⟨t122, A70, H⟩ := H
    replace H : ((impl_BestCycle.f k t121 (wrap64 (1 + t120)) (wrap64 (1 + t122))).bind fun bt123 => (if bt123.2.2 = true then (if bt123.2.1 < 1 then (laws_FnBestCycle.j0 k l1 (wrap64 (1 + t120)) t121 (wrap64 (1 + t122)) bt123.1 bt123.2.1 true) else (if bt123.2.1 > (wrap64 (1 + t122)) then (laws_FnBestCycle.j0 k l1 (wrap64 (1 + t120)) t121 (wrap64 (1 + t122)) bt123.1 bt123.2.1 true) else (if bt123.1 < 0 then (laws_FnBestCycle.j0 k l1 (wrap64 (1 + t120)) t121 (wrap64 (1 + t122)) bt123.1 bt123.2.1 true) else (laws_FnBestCycle.j0 k l1 (wrap64 (1 + t120)) t121 (wrap64 (1 + t122)) bt123.1 bt123.2.1 (decide (bt123.1 > bt123.2.1)))))) else (laws_FnBestCycle.j0 k l1 (wrap64 (1 + t120)) t121 (wrap64 (1 + t122)) bt123.1 bt123.2.1 true))) = some r := H
    have A7 := Aside0.mk A70
    clear A70
    replace H := Option.bind_eq_some_iff.mp H
    obtain ⟨⟨t123, t124, t125⟩, A80, H⟩ := H
    replace H : (if t125 = true then (if t124 < 1 then (laws_FnBestCycle.j0 k l1 (wrap64 (1 + t120)) t121 (wrap64 (1 + t122)) t123 t124 true) else (if t124 > (wrap64 (1 + t122)) then (laws_FnBestCycle.j0 k l1 (wrap64 (1 + t120)) t121 (wrap64 (1 + t122)) t123 t124 true) else (if t123 < 0 then (laws_FnBestCycle.j0 k l1 (wrap64 (1 + t120)) t121 (wrap64 (1 + t122)) t123 t124 true) else (laws_FnBestCycle.j0 k l1 (wrap64 (1 + t120)) t121 (wrap64 (1 + t122)) t123 t124 (decide (t123 > t124)))))) else (laws_FnBestCycle.j0 k l1 (wrap64 (1 + t120)) t121 (wrap64 (1 + t122)) t123 t124 true)) = some r := H
    have A8 := Aside0.mk A80
    clear A80
    have HC9 := Aside0.mk H
    clear H
    go_enter Try.func3, Try.ntmps3
    go_upto_region 7 with (first | ((with_reducible refine gate_callee (f := 15) rfl ?_); refine goesL_ (some 17) rfl rfl Try.func15 (by kernel_rfl) rfl #[.slice A0 l0.length c0, .slice A1 l1.length c1] rfl (by (try simp only [List.map_toArray, List.map_cons, List.map_nil]); first | done | rfl | (simp only [List.length_drop, List.length_take]; rfl)) ?_; (with_reducible refine (laws_b10Long.calls _ _ l0 _ _ l1 false _ ?side1 ?side2 ?side3 ?side4 A3.out).mono ?_); (case side1 => repeat (first | exact HR0.out | (with_reducible refine Kd.C_alloc ?_ _) | (with_reducible refine Kd.C_drewN ?_ _) | (with_reducible refine Kd.C_drew ?_))); (case side2 => exact HC0.out); (case side3 => repeat (first | exact HR1.out | (with_reducible refine Kd.C_alloc ?_ _) | (with_reducible refine Kd.C_drewN ?_ _) | (with_reducible refine Kd.C_drew ?_))); (case side4 => exact HC1.out); rintro e w' ⟨rfl, ⟨nd, rfl⟩⟩; refine ⟨_, rfl, ?_⟩) | ((with_reducible refine gate_callee (f := 16) rfl ?_); refine goesL_ (some 19) rfl rfl Try.func16 (by kernel_rfl) rfl #[.slice A0 l0.length c0, .int .i64 0, .int .i64 250] rfl (by (try simp only [List.map_toArray, List.map_cons, List.map_nil]); first | done | rfl | (simp only [List.length_drop, List.length_take]; rfl)) ?_; (with_reducible refine (laws_b10At.calls _ _ l0 0 250 t120 _ ?side1 ?side2 A5.out).mono ?_); (case side1 => repeat (first | exact HR0.out | (with_reducible refine Kd.C_alloc ?_ _) | (with_reducible refine Kd.C_drewN ?_ _) | (with_reducible refine Kd.C_drew ?_))); (case side2 => exact HC0.out); rintro e w' ⟨rfl, ⟨nd, rfl⟩⟩; refine ⟨_, rfl, ?_⟩) | ((with_reducible refine gate_callee (f := 16) rfl ?_); refine goesL_ (some 24) rfl rfl Try.func16 (by kernel_rfl) rfl #[.slice A0 l0.length c0, .int .i64 1, .int .i64 (wrap64 ((wrap64 (1 + t120)) + 1))] rfl (by (try simp only [List.map_toArray, List.map_cons, List.map_nil]); first | done | rfl | (simp only [List.length_drop, List.length_take]; rfl)) ?_; (with_reducible refine (laws_b10At.calls _ _ l0 1 (wrap64 ((wrap64 (1 + t120)) + 1)) t121 _ ?side1 ?side2 A6.out).mono ?_); (case side1 => repeat (first | exact HR0.out | (with_reducible refine Kd.C_alloc ?_ _) | (with_reducible refine Kd.C_drewN ?_ _) | (with_reducible refine Kd.C_drew ?_))); (case side2 => exact HC0.out); rintro e w' ⟨rfl, ⟨nd, rfl⟩⟩; refine ⟨_, rfl, ?_⟩) | ((with_reducible refine gate_callee (f := 16) rfl ?_); refine goesL_ (some 26) rfl rfl Try.func16 (by kernel_rfl) rfl #[.slice A1 l1.length c1, .int .i64 0, .int .i64 60] rfl (by (try simp only [List.map_toArray, List.map_cons, List.map_nil]); first | done | rfl | (simp only [List.length_drop, List.length_take]; rfl)) ?_; (with_reducible refine (laws_b10At.calls _ _ l1 0 60 t122 _ ?side1 ?side2 A7.out).mono ?_); (case side1 => repeat (first | exact HR1.out | (with_reducible refine Kd.C_alloc ?_ _) | (with_reducible refine Kd.C_drewN ?_ _) | (with_reducible refine Kd.C_drew ?_))); (case side2 => exact HC1.out); rintro e w' ⟨rfl, ⟨nd, rfl⟩⟩; refine ⟨_, rfl, ?_⟩) | ((with_reducible refine gate_callee (f := 17) rfl ?_); refine goesL_ (some 32) rfl rfl Try.func17 (by kernel_rfl) rfl #[.int .i64 t121, .int .i64 (wrap64 (1 + t120)), .int .i64 (wrap64 (1 + t122))] rfl (by (try simp only [List.map_toArray, List.map_cons, List.map_nil]); first | done | rfl | (simp only [List.length_drop, List.length_take]; rfl)) ?_; (with_reducible refine (impl_BestCycle.calls k t121 (wrap64 (1 + t120)) (wrap64 (1 + t122)) t123 t124 t125 _ A8.out).mono ?_); rintro e w10 ⟨rfl, hb⟩; refine ⟨_, rfl, ?_⟩; have n0_ := Aside0.mk (below_step (by repeat (first | (with_reducible first | exact HB.out | apply below_alloc | apply pw_below_drewN | apply below_drew1) | exact HB.out)) hb); clear HB; have HB := n0_; clear n0_; (try clear hb); (try clear hb2); (try clear hk); (try clear hi)))
    (try simp only [Act.put, List.setIfInBounds_toArray, List.set_cons_zero, List.set_cons_succ])
    go_cut [55] (fun v55 wc => ∃ (kq : Nat) (x55_8 : Bool), v55 = .bool x55_8 ∧ Aside0 (laws_FnBestCycle.j0 kq l1 (wrap64 (1 + t120)) t121 (wrap64 (1 + t122)) t123 t124 x55_8 = some r) ∧ Aside0 (kq ≤ k) ∧ Aside0 (Below w.heap.size w wc))
    case first =>
      have H := HC9.out
      clear HC9
      by_cases c11 : t125 = true
      · subst c11
        have H1 : (if t124 < 1 then (laws_FnBestCycle.j0 k l1 (wrap64 (1 + t120)) t121 (wrap64 (1 + t122)) t123 t124 true) else (if t124 > (wrap64 (1 + t122)) then (laws_FnBestCycle.j0 k l1 (wrap64 (1 + t120)) t121 (wrap64 (1 + t122)) t123 t124 true) else (if t123 < 0 then (laws_FnBestCycle.j0 k l1 (wrap64 (1 + t120)) t121 (wrap64 (1 + t122)) t123 t124 true) else (laws_FnBestCycle.j0 k l1 (wrap64 (1 + t120)) t121 (wrap64 (1 + t122)) t123 t124 (decide (t123 > t124)))))) = some r := by rw [if_pos rfl] at H; exact H
        clear H
        have H := H1
        clear H1
        by_cases c12 : t124 < 1
        · rw [if_pos c12] at H
          have c12b0 : decide (t124 < 1) = true := decide_eq_true c12
          clear c12
          (first | rw [c12b0] | (simp only [i64_w, i32_w]; rw [c12b0]) | skip)
          have H' := Aside0.mk H
          clear H
          go_wp2
          go_meet
          case rel => exact ⟨_, (true), (by first | rfl | (simp; done) | (simp [*]; done)), H', ⟨by first | omega | exact Nat.le_refl _⟩, ⟨by repeat (first | (with_reducible first | exact HB.out | apply below_alloc | apply pw_below_drewN | apply below_drew1) | exact HB.out)⟩⟩
        · rw [if_neg c12] at H
          have c12b0 : decide (t124 < 1) = false := decide_eq_false c12
          clear c12
          (first | rw [c12b0] | (simp only [i64_w, i32_w]; rw [c12b0]) | skip)
          by_cases c13 : t124 > (wrap64 (1 + t122))
          · rw [if_pos c13] at H
            have c13b0 : decide ((wrap64 (1 + t122)) < t124) = true := decide_eq_true c13
            clear c13
            have H' := Aside0.mk H
            clear H
            go_wp2
            go_meet
            case rel => exact ⟨_, (true), (by first | rfl | (simp; done) | (simp [*]; done)), H', ⟨by first | omega | exact Nat.le_refl _⟩, ⟨by repeat (first | (with_reducible first | exact HB.out | apply below_alloc | apply pw_below_drewN | apply below_drew1) | exact HB.out)⟩⟩
          · rw [if_neg c13] at H
            have c13b0 : decide ((wrap64 (1 + t122)) < t124) = false := decide_eq_false c13
            clear c13
            by_cases c14 : t123 < 0
            · rw [if_pos c14] at H
              have c14b0 : decide (t123 < 0) = true := decide_eq_true c14
              clear c14
              have H' := Aside0.mk H
              clear H
              go_wp2
              go_meet
              case rel => exact ⟨_, (true), (by first | rfl | (simp; done) | (simp [*]; done)), H', ⟨by first | omega | exact Nat.le_refl _⟩, ⟨by repeat (first | (with_reducible first | exact HB.out | apply below_alloc | apply pw_below_drewN | apply below_drew1) | exact HB.out)⟩⟩
            · rw [if_neg c14] at H
              have c14b0 : decide (t123 < 0) = false := decide_eq_false c14
              clear c14
              have H' := Aside0.mk H
              clear H
              go_wp2
              go_meet
              case rel => exact ⟨_, (decide (t123 > t124)), (by first | rfl | (simp; done) | (simp [*]; done)), H', ⟨by first | omega | exact Nat.le_refl _⟩, ⟨by repeat (first | (with_reducible first | exact HB.out | apply below_alloc | apply pw_below_drewN | apply below_drew1) | exact HB.out)⟩⟩
      · replace c11 := Bool.eq_false_iff.mpr c11
        subst c11
        have H1 : (laws_FnBestCycle.j0 k l1 (wrap64 (1 + t120)) t121 (wrap64 (1 + t122)) t123 t124 true) = some r := by rw [if_neg (show ¬ (false = true) by decide)] at H; exact H
        clear H
        have H := H1
        clear H1
        have H' := Aside0.mk H
        clear H
        go_wp2
        go_meet
        case rel => exact ⟨_, (true), (by first | rfl | (simp; done) | (simp [*]; done)), H', ⟨by first | omega | exact Nat.le_refl _⟩, ⟨by repeat (first | (with_reducible first | exact HB.out | apply below_alloc | apply pw_below_drewN | apply below_drew1) | exact HB.out)⟩⟩
    case rest =>
      clear HC9
      try clear c1
      try clear p2
      try clear c3
      try clear c4
      try clear p6
      try clear c11
      try clear c12
      try clear c12b0
      try clear c13
      try clear c13b0
      try clear c14
      try clear c14b0
      obtain ⟨kq, x55_8, rfl, HA, HJ8, HB⟩ := hcut
      cases kq with
      | zero => exact absurd HA.out (by simp [laws_FnBestCycle.j0])
      | succ kj8 =>
        have H := HA.out
        clear HA
        simp only [laws_FnBestCycle.j0] at H
        by_cases c15 : x55_8 = true
        · subst c15
          have H1 : (some false) = some r := by rw [if_pos rfl] at H; exact H
          clear H
          have H := H1
          clear H1
          obtain rfl := Option.some.inj H
          go_wp2
          go_ret
          exact ⟨by first | rfl | (simp [errW_none, errW_some] <;> rfl) | (simp [*, errW_none, errW_some] <;> rfl), by repeat (first | (with_reducible first | exact HB.out | apply below_alloc | apply pw_below_drewN | apply below_drew1) | exact HB.out)⟩
        · replace c15 := Bool.eq_false_iff.mpr c15
          subst c15
          have H1 : ((laws_b10At.f l1 1 (wrap64 (1 + t122))).bind fun t126 => ((laws_b10At.f l1 2 (wrap64 ((wrap64 (1 + t126)) + 1))).bind fun t127 => ((laws_b10Abs.f (wrap64 ((wrap64 (t127 * (wrap64 (1 + t120)))) - (wrap64 (t121 * (wrap64 (1 + t126))))))).bind fun t128 => ((laws_b10Abs.f (wrap64 ((wrap64 (t123 * (wrap64 (1 + t120)))) - (wrap64 (t121 * t124))))).bind fun t129 => (if (wrap64 (t129 * (wrap64 (1 + t126)))) < (wrap64 (t128 * t124)) then (some true) else (if (wrap64 (t129 * (wrap64 (1 + t126)))) = (wrap64 (t128 * t124)) then (if t124 < (wrap64 (1 + t126)) then (some true) else (if t124 = (wrap64 (1 + t126)) then (some (decide (t123 ≤ t127))) else (some false))) else (some false))))))) = some r := by rw [if_neg (show ¬ (false = true) by decide)] at H; exact H
          clear H
          have H := H1
          clear H1
          replace H := Option.bind_eq_some_iff.mp H
          obtain ⟨t126, A160, H⟩ := H
          replace H : ((laws_b10At.f l1 2 (wrap64 ((wrap64 (1 + t126)) + 1))).bind fun t127 => ((laws_b10Abs.f (wrap64 ((wrap64 (t127 * (wrap64 (1 + t120)))) - (wrap64 (t121 * (wrap64 (1 + t126))))))).bind fun t128 => ((laws_b10Abs.f (wrap64 ((wrap64 (t123 * (wrap64 (1 + t120)))) - (wrap64 (t121 * t124))))).bind fun t129 => (if (wrap64 (t129 * (wrap64 (1 + t126)))) < (wrap64 (t128 * t124)) then (some true) else (if (wrap64 (t129 * (wrap64 (1 + t126)))) = (wrap64 (t128 * t124)) then (if t124 < (wrap64 (1 + t126)) then (some true) else (if t124 = (wrap64 (1 + t126)) then (some (decide (t123 ≤ t127))) else (some false))) else (some false)))))) = some r := H
          have A16 := Aside0.mk A160
          clear A160
          replace H := Option.bind_eq_some_iff.mp H
          obtain ⟨t127, A170, H⟩ := H
          replace H : ((laws_b10Abs.f (wrap64 ((wrap64 (t127 * (wrap64 (1 + t120)))) - (wrap64 (t121 * (wrap64 (1 + t126))))))).bind fun t128 => ((laws_b10Abs.f (wrap64 ((wrap64 (t123 * (wrap64 (1 + t120)))) - (wrap64 (t121 * t124))))).bind fun t129 => (if (wrap64 (t129 * (wrap64 (1 + t126)))) < (wrap64 (t128 * t124)) then (some true) else (if (wrap64 (t129 * (wrap64 (1 + t126)))) = (wrap64 (t128 * t124)) then (if t124 < (wrap64 (1 + t126)) then (some true) else (if t124 = (wrap64 (1 + t126)) then (some (decide (t123 ≤ t127))) else (some false))) else (some false))))) = some r := H
          have A17 := Aside0.mk A170
          clear A170
          replace H := Option.bind_eq_some_iff.mp H
          obtain ⟨t128, A180, H⟩ := H
          replace H : ((laws_b10Abs.f (wrap64 ((wrap64 (t123 * (wrap64 (1 + t120)))) - (wrap64 (t121 * t124))))).bind fun t129 => (if (wrap64 (t129 * (wrap64 (1 + t126)))) < (wrap64 (t128 * t124)) then (some true) else (if (wrap64 (t129 * (wrap64 (1 + t126)))) = (wrap64 (t128 * t124)) then (if t124 < (wrap64 (1 + t126)) then (some true) else (if t124 = (wrap64 (1 + t126)) then (some (decide (t123 ≤ t127))) else (some false))) else (some false)))) = some r := H
          have A18 := Aside0.mk A180
          clear A180
          replace H := Option.bind_eq_some_iff.mp H
          obtain ⟨t129, A190, H⟩ := H
          replace H : (if (wrap64 (t129 * (wrap64 (1 + t126)))) < (wrap64 (t128 * t124)) then (some true) else (if (wrap64 (t129 * (wrap64 (1 + t126)))) = (wrap64 (t128 * t124)) then (if t124 < (wrap64 (1 + t126)) then (some true) else (if t124 = (wrap64 (1 + t126)) then (some (decide (t123 ≤ t127))) else (some false))) else (some false))) = some r := H
          have A19 := Aside0.mk A190
          clear A190
          by_cases c20 : (wrap64 (t129 * (wrap64 (1 + t126)))) < (wrap64 (t128 * t124))
          · rw [if_pos c20] at H
            have c20b0 : decide ((wrap64 (t129 * (wrap64 (1 + t126)))) < (wrap64 (t128 * t124))) = true := decide_eq_true c20
            clear c20
            obtain rfl := Option.some.inj H
            go_wp2_with (first | ((with_reducible refine gate_callee (f := 16) rfl ?_); refine goesL_ (some 58) rfl rfl Try.func16 (by kernel_rfl) rfl #[.slice A1 l1.length c1, .int .i64 1, .int .i64 (wrap64 (1 + t122))] rfl (by (try simp only [List.map_toArray, List.map_cons, List.map_nil]); first | done | rfl | (simp only [List.length_drop, List.length_take]; rfl)) ?_; (with_reducible refine (laws_b10At.calls _ _ l1 1 (wrap64 (1 + t122)) t126 _ ?side1 ?side2 A16.out).mono ?_); (case side1 => repeat (first | exact (Kd.C_below HR1.out HB.out) | (with_reducible refine Kd.C_alloc ?_ _) | (with_reducible refine Kd.C_drewN ?_ _) | (with_reducible refine Kd.C_drew ?_))); (case side2 => exact HC1.out); rintro e w' ⟨rfl, ⟨nd, rfl⟩⟩; refine ⟨_, rfl, ?_⟩) | ((with_reducible refine gate_callee (f := 16) rfl ?_); refine goesL_ (some 63) rfl rfl Try.func16 (by kernel_rfl) rfl #[.slice A1 l1.length c1, .int .i64 2, .int .i64 (wrap64 ((wrap64 (1 + t126)) + 1))] rfl (by (try simp only [List.map_toArray, List.map_cons, List.map_nil]); first | done | rfl | (simp only [List.length_drop, List.length_take]; rfl)) ?_; (with_reducible refine (laws_b10At.calls _ _ l1 2 (wrap64 ((wrap64 (1 + t126)) + 1)) t127 _ ?side1 ?side2 A17.out).mono ?_); (case side1 => repeat (first | exact (Kd.C_below HR1.out (by repeat (first | (with_reducible first | exact HB.out | apply below_alloc | apply pw_below_drewN | apply below_drew1) | exact HB.out))) | (with_reducible refine Kd.C_alloc ?_ _) | (with_reducible refine Kd.C_drewN ?_ _) | (with_reducible refine Kd.C_drew ?_))); (case side2 => exact HC1.out); rintro e w' ⟨rfl, ⟨nd, rfl⟩⟩; refine ⟨_, rfl, ?_⟩) | ((with_reducible refine gate_callee (f := 18) rfl ?_); refine goesL_ (some 71) rfl rfl Try.func18 (by kernel_rfl) rfl #[.int .i64 (wrap64 ((wrap64 (t127 * (wrap64 (1 + t120)))) - (wrap64 (t121 * (wrap64 (1 + t126))))))] rfl (by (try simp only [List.map_toArray, List.map_cons, List.map_nil]); first | done | rfl | (simp only [List.length_drop, List.length_take]; rfl)) ?_; (with_reducible refine (laws_b10Abs.calls (wrap64 ((wrap64 (t127 * (wrap64 (1 + t120)))) - (wrap64 (t121 * (wrap64 (1 + t126)))))) t128 _ A18.out).mono ?_); rintro e w' ⟨rfl, ⟨nd, rfl⟩⟩; refine ⟨_, rfl, ?_⟩) | ((with_reducible refine gate_callee (f := 18) rfl ?_); refine goesL_ (some 81) rfl rfl Try.func18 (by kernel_rfl) rfl #[.int .i64 (wrap64 ((wrap64 (t123 * (wrap64 (1 + t120)))) - (wrap64 (t121 * t124))))] rfl (by (try simp only [List.map_toArray, List.map_cons, List.map_nil]); first | done | rfl | (simp only [List.length_drop, List.length_take]; rfl)) ?_; (with_reducible refine (laws_b10Abs.calls (wrap64 ((wrap64 (t123 * (wrap64 (1 + t120)))) - (wrap64 (t121 * t124)))) t129 _ A19.out).mono ?_); rintro e w' ⟨rfl, ⟨nd, rfl⟩⟩; refine ⟨_, rfl, ?_⟩))
            go_ret
            exact ⟨by first | rfl | (simp [errW_none, errW_some] <;> rfl) | (simp [*, errW_none, errW_some] <;> rfl), by repeat (first | (with_reducible first | exact HB.out | apply below_alloc | apply pw_below_drewN | apply below_drew1) | exact HB.out)⟩
          · rw [if_neg c20] at H
            have c20b0 : decide ((wrap64 (t129 * (wrap64 (1 + t126)))) < (wrap64 (t128 * t124))) = false := decide_eq_false c20
            clear c20
            by_cases c21 : (wrap64 (t129 * (wrap64 (1 + t126)))) = (wrap64 (t128 * t124))
            · rw [if_pos c21] at H
              have c21b0 : ((wrap64 (t129 * (wrap64 (1 + t126)))) == (wrap64 (t128 * t124))) = true := beq_iff_eq.mpr c21
              have c21b1 : ((wrap64 (t129 * (wrap64 (1 + t126)))) != (wrap64 (t128 * t124))) = false := bne_eq_false_iff_eq.mpr c21
              clear c21
              by_cases c22 : t124 < (wrap64 (1 + t126))
              · rw [if_pos c22] at H
                have c22b0 : decide (t124 < (wrap64 (1 + t126))) = true := decide_eq_true c22
                clear c22
                obtain rfl := Option.some.inj H
                go_wp2_with (first | ((with_reducible refine gate_callee (f := 16) rfl ?_); refine goesL_ (some 58) rfl rfl Try.func16 (by kernel_rfl) rfl #[.slice A1 l1.length c1, .int .i64 1, .int .i64 (wrap64 (1 + t122))] rfl (by (try simp only [List.map_toArray, List.map_cons, List.map_nil]); first | done | rfl | (simp only [List.length_drop, List.length_take]; rfl)) ?_; (with_reducible refine (laws_b10At.calls _ _ l1 1 (wrap64 (1 + t122)) t126 _ ?side1 ?side2 A16.out).mono ?_); (case side1 => repeat (first | exact (Kd.C_below HR1.out HB.out) | (with_reducible refine Kd.C_alloc ?_ _) | (with_reducible refine Kd.C_drewN ?_ _) | (with_reducible refine Kd.C_drew ?_))); (case side2 => exact HC1.out); rintro e w' ⟨rfl, ⟨nd, rfl⟩⟩; refine ⟨_, rfl, ?_⟩) | ((with_reducible refine gate_callee (f := 16) rfl ?_); refine goesL_ (some 63) rfl rfl Try.func16 (by kernel_rfl) rfl #[.slice A1 l1.length c1, .int .i64 2, .int .i64 (wrap64 ((wrap64 (1 + t126)) + 1))] rfl (by (try simp only [List.map_toArray, List.map_cons, List.map_nil]); first | done | rfl | (simp only [List.length_drop, List.length_take]; rfl)) ?_; (with_reducible refine (laws_b10At.calls _ _ l1 2 (wrap64 ((wrap64 (1 + t126)) + 1)) t127 _ ?side1 ?side2 A17.out).mono ?_); (case side1 => repeat (first | exact (Kd.C_below HR1.out (by repeat (first | (with_reducible first | exact HB.out | apply below_alloc | apply pw_below_drewN | apply below_drew1) | exact HB.out))) | (with_reducible refine Kd.C_alloc ?_ _) | (with_reducible refine Kd.C_drewN ?_ _) | (with_reducible refine Kd.C_drew ?_))); (case side2 => exact HC1.out); rintro e w' ⟨rfl, ⟨nd, rfl⟩⟩; refine ⟨_, rfl, ?_⟩) | ((with_reducible refine gate_callee (f := 18) rfl ?_); refine goesL_ (some 71) rfl rfl Try.func18 (by kernel_rfl) rfl #[.int .i64 (wrap64 ((wrap64 (t127 * (wrap64 (1 + t120)))) - (wrap64 (t121 * (wrap64 (1 + t126))))))] rfl (by (try simp only [List.map_toArray, List.map_cons, List.map_nil]); first | done | rfl | (simp only [List.length_drop, List.length_take]; rfl)) ?_; (with_reducible refine (laws_b10Abs.calls (wrap64 ((wrap64 (t127 * (wrap64 (1 + t120)))) - (wrap64 (t121 * (wrap64 (1 + t126)))))) t128 _ A18.out).mono ?_); rintro e w' ⟨rfl, ⟨nd, rfl⟩⟩; refine ⟨_, rfl, ?_⟩) | ((with_reducible refine gate_callee (f := 18) rfl ?_); refine goesL_ (some 81) rfl rfl Try.func18 (by kernel_rfl) rfl #[.int .i64 (wrap64 ((wrap64 (t123 * (wrap64 (1 + t120)))) - (wrap64 (t121 * t124))))] rfl (by (try simp only [List.map_toArray, List.map_cons, List.map_nil]); first | done | rfl | (simp only [List.length_drop, List.length_take]; rfl)) ?_; (with_reducible refine (laws_b10Abs.calls (wrap64 ((wrap64 (t123 * (wrap64 (1 + t120)))) - (wrap64 (t121 * t124)))) t129 _ A19.out).mono ?_); rintro e w' ⟨rfl, ⟨nd, rfl⟩⟩; refine ⟨_, rfl, ?_⟩))
                go_ret
                exact ⟨by first | rfl | (simp [errW_none, errW_some] <;> rfl) | (simp [*, errW_none, errW_some] <;> rfl), by repeat (first | (with_reducible first | exact HB.out | apply below_alloc | apply pw_below_drewN | apply below_drew1) | exact HB.out)⟩
              · rw [if_neg c22] at H
                have c22b0 : decide (t124 < (wrap64 (1 + t126))) = false := decide_eq_false c22
                clear c22
                by_cases c23 : t124 = (wrap64 (1 + t126))
                · rw [if_pos c23] at H
                  have c23b0 : (t124 == (wrap64 (1 + t126))) = true := beq_iff_eq.mpr c23
                  have c23b1 : (t124 != (wrap64 (1 + t126))) = false := bne_eq_false_iff_eq.mpr c23
                  clear c23
                  obtain rfl := Option.some.inj H
                  go_wp2_with (first | ((with_reducible refine gate_callee (f := 16) rfl ?_); refine goesL_ (some 58) rfl rfl Try.func16 (by kernel_rfl) rfl #[.slice A1 l1.length c1, .int .i64 1, .int .i64 (wrap64 (1 + t122))] rfl (by (try simp only [List.map_toArray, List.map_cons, List.map_nil]); first | done | rfl | (simp only [List.length_drop, List.length_take]; rfl)) ?_; (with_reducible refine (laws_b10At.calls _ _ l1 1 (wrap64 (1 + t122)) t126 _ ?side1 ?side2 A16.out).mono ?_); (case side1 => repeat (first | exact (Kd.C_below HR1.out HB.out) | (with_reducible refine Kd.C_alloc ?_ _) | (with_reducible refine Kd.C_drewN ?_ _) | (with_reducible refine Kd.C_drew ?_))); (case side2 => exact HC1.out); rintro e w' ⟨rfl, ⟨nd, rfl⟩⟩; refine ⟨_, rfl, ?_⟩) | ((with_reducible refine gate_callee (f := 16) rfl ?_); refine goesL_ (some 63) rfl rfl Try.func16 (by kernel_rfl) rfl #[.slice A1 l1.length c1, .int .i64 2, .int .i64 (wrap64 ((wrap64 (1 + t126)) + 1))] rfl (by (try simp only [List.map_toArray, List.map_cons, List.map_nil]); first | done | rfl | (simp only [List.length_drop, List.length_take]; rfl)) ?_; (with_reducible refine (laws_b10At.calls _ _ l1 2 (wrap64 ((wrap64 (1 + t126)) + 1)) t127 _ ?side1 ?side2 A17.out).mono ?_); (case side1 => repeat (first | exact (Kd.C_below HR1.out (by repeat (first | (with_reducible first | exact HB.out | apply below_alloc | apply pw_below_drewN | apply below_drew1) | exact HB.out))) | (with_reducible refine Kd.C_alloc ?_ _) | (with_reducible refine Kd.C_drewN ?_ _) | (with_reducible refine Kd.C_drew ?_))); (case side2 => exact HC1.out); rintro e w' ⟨rfl, ⟨nd, rfl⟩⟩; refine ⟨_, rfl, ?_⟩) | ((with_reducible refine gate_callee (f := 18) rfl ?_); refine goesL_ (some 71) rfl rfl Try.func18 (by kernel_rfl) rfl #[.int .i64 (wrap64 ((wrap64 (t127 * (wrap64 (1 + t120)))) - (wrap64 (t121 * (wrap64 (1 + t126))))))] rfl (by (try simp only [List.map_toArray, List.map_cons, List.map_nil]); first | done | rfl | (simp only [List.length_drop, List.length_take]; rfl)) ?_; (with_reducible refine (laws_b10Abs.calls (wrap64 ((wrap64 (t127 * (wrap64 (1 + t120)))) - (wrap64 (t121 * (wrap64 (1 + t126)))))) t128 _ A18.out).mono ?_); rintro e w' ⟨rfl, ⟨nd, rfl⟩⟩; refine ⟨_, rfl, ?_⟩) | ((with_reducible refine gate_callee (f := 18) rfl ?_); refine goesL_ (some 81) rfl rfl Try.func18 (by kernel_rfl) rfl #[.int .i64 (wrap64 ((wrap64 (t123 * (wrap64 (1 + t120)))) - (wrap64 (t121 * t124))))] rfl (by (try simp only [List.map_toArray, List.map_cons, List.map_nil]); first | done | rfl | (simp only [List.length_drop, List.length_take]; rfl)) ?_; (with_reducible refine (laws_b10Abs.calls (wrap64 ((wrap64 (t123 * (wrap64 (1 + t120)))) - (wrap64 (t121 * t124)))) t129 _ A19.out).mono ?_); rintro e w' ⟨rfl, ⟨nd, rfl⟩⟩; refine ⟨_, rfl, ?_⟩))
                  go_ret
                  exact ⟨by first | rfl | (simp [errW_none, errW_some] <;> rfl) | (simp [*, errW_none, errW_some] <;> rfl), by repeat (first | (with_reducible first | exact HB.out | apply below_alloc | apply pw_below_drewN | apply below_drew1) | exact HB.out)⟩
                · rw [if_neg c23] at H
                  have c23b0 : (t124 == (wrap64 (1 + t126))) = false := beq_eq_false_iff_ne.mpr c23
                  have c23b1 : (t124 != (wrap64 (1 + t126))) = true := bne_iff_ne.mpr c23
                  obtain rfl := Option.some.inj H
                  go_wp2_with (first | ((with_reducible refine gate_callee (f := 16) rfl ?_); refine goesL_ (some 58) rfl rfl Try.func16 (by kernel_rfl) rfl #[.slice A1 l1.length c1, .int .i64 1, .int .i64 (wrap64 (1 + t122))] rfl (by (try simp only [List.map_toArray, List.map_cons, List.map_nil]); first | done | rfl | (simp only [List.length_drop, List.length_take]; rfl)) ?_; (with_reducible refine (laws_b10At.calls _ _ l1 1 (wrap64 (1 + t122)) t126 _ ?side1 ?side2 A16.out).mono ?_); (case side1 => repeat (first | exact (Kd.C_below HR1.out HB.out) | (with_reducible refine Kd.C_alloc ?_ _) | (with_reducible refine Kd.C_drewN ?_ _) | (with_reducible refine Kd.C_drew ?_))); (case side2 => exact HC1.out); rintro e w' ⟨rfl, ⟨nd, rfl⟩⟩; refine ⟨_, rfl, ?_⟩) | ((with_reducible refine gate_callee (f := 16) rfl ?_); refine goesL_ (some 63) rfl rfl Try.func16 (by kernel_rfl) rfl #[.slice A1 l1.length c1, .int .i64 2, .int .i64 (wrap64 ((wrap64 (1 + t126)) + 1))] rfl (by (try simp only [List.map_toArray, List.map_cons, List.map_nil]); first | done | rfl | (simp only [List.length_drop, List.length_take]; rfl)) ?_; (with_reducible refine (laws_b10At.calls _ _ l1 2 (wrap64 ((wrap64 (1 + t126)) + 1)) t127 _ ?side1 ?side2 A17.out).mono ?_); (case side1 => repeat (first | exact (Kd.C_below HR1.out (by repeat (first | (with_reducible first | exact HB.out | apply below_alloc | apply pw_below_drewN | apply below_drew1) | exact HB.out))) | (with_reducible refine Kd.C_alloc ?_ _) | (with_reducible refine Kd.C_drewN ?_ _) | (with_reducible refine Kd.C_drew ?_))); (case side2 => exact HC1.out); rintro e w' ⟨rfl, ⟨nd, rfl⟩⟩; refine ⟨_, rfl, ?_⟩) | ((with_reducible refine gate_callee (f := 18) rfl ?_); refine goesL_ (some 71) rfl rfl Try.func18 (by kernel_rfl) rfl #[.int .i64 (wrap64 ((wrap64 (t127 * (wrap64 (1 + t120)))) - (wrap64 (t121 * (wrap64 (1 + t126))))))] rfl (by (try simp only [List.map_toArray, List.map_cons, List.map_nil]); first | done | rfl | (simp only [List.length_drop, List.length_take]; rfl)) ?_; (with_reducible refine (laws_b10Abs.calls (wrap64 ((wrap64 (t127 * (wrap64 (1 + t120)))) - (wrap64 (t121 * (wrap64 (1 + t126)))))) t128 _ A18.out).mono ?_); rintro e w' ⟨rfl, ⟨nd, rfl⟩⟩; refine ⟨_, rfl, ?_⟩) | ((with_reducible refine gate_callee (f := 18) rfl ?_); refine goesL_ (some 81) rfl rfl Try.func18 (by kernel_rfl) rfl #[.int .i64 (wrap64 ((wrap64 (t123 * (wrap64 (1 + t120)))) - (wrap64 (t121 * t124))))] rfl (by (try simp only [List.map_toArray, List.map_cons, List.map_nil]); first | done | rfl | (simp only [List.length_drop, List.length_take]; rfl)) ?_; (with_reducible refine (laws_b10Abs.calls (wrap64 ((wrap64 (t123 * (wrap64 (1 + t120)))) - (wrap64 (t121 * t124)))) t129 _ A19.out).mono ?_); rintro e w' ⟨rfl, ⟨nd, rfl⟩⟩; refine ⟨_, rfl, ?_⟩))
                  go_ret
                  exact ⟨by first | rfl | (simp [errW_none, errW_some] <;> rfl) | (simp [*, errW_none, errW_some] <;> rfl), by repeat (first | (with_reducible first | exact HB.out | apply below_alloc | apply pw_below_drewN | apply below_drew1) | exact HB.out)⟩
            · rw [if_neg c21] at H
              have c21b0 : ((wrap64 (t129 * (wrap64 (1 + t126)))) == (wrap64 (t128 * t124))) = false := beq_eq_false_iff_ne.mpr c21
              have c21b1 : ((wrap64 (t129 * (wrap64 (1 + t126)))) != (wrap64 (t128 * t124))) = true := bne_iff_ne.mpr c21
              obtain rfl := Option.some.inj H
              go_wp2_with (first | ((with_reducible refine gate_callee (f := 16) rfl ?_); refine goesL_ (some 58) rfl rfl Try.func16 (by kernel_rfl) rfl #[.slice A1 l1.length c1, .int .i64 1, .int .i64 (wrap64 (1 + t122))] rfl (by (try simp only [List.map_toArray, List.map_cons, List.map_nil]); first | done | rfl | (simp only [List.length_drop, List.length_take]; rfl)) ?_; (with_reducible refine (laws_b10At.calls _ _ l1 1 (wrap64 (1 + t122)) t126 _ ?side1 ?side2 A16.out).mono ?_); (case side1 => repeat (first | exact (Kd.C_below HR1.out HB.out) | (with_reducible refine Kd.C_alloc ?_ _) | (with_reducible refine Kd.C_drewN ?_ _) | (with_reducible refine Kd.C_drew ?_))); (case side2 => exact HC1.out); rintro e w' ⟨rfl, ⟨nd, rfl⟩⟩; refine ⟨_, rfl, ?_⟩) | ((with_reducible refine gate_callee (f := 16) rfl ?_); refine goesL_ (some 63) rfl rfl Try.func16 (by kernel_rfl) rfl #[.slice A1 l1.length c1, .int .i64 2, .int .i64 (wrap64 ((wrap64 (1 + t126)) + 1))] rfl (by (try simp only [List.map_toArray, List.map_cons, List.map_nil]); first | done | rfl | (simp only [List.length_drop, List.length_take]; rfl)) ?_; (with_reducible refine (laws_b10At.calls _ _ l1 2 (wrap64 ((wrap64 (1 + t126)) + 1)) t127 _ ?side1 ?side2 A17.out).mono ?_); (case side1 => repeat (first | exact (Kd.C_below HR1.out (by repeat (first | (with_reducible first | exact HB.out | apply below_alloc | apply pw_below_drewN | apply below_drew1) | exact HB.out))) | (with_reducible refine Kd.C_alloc ?_ _) | (with_reducible refine Kd.C_drewN ?_ _) | (with_reducible refine Kd.C_drew ?_))); (case side2 => exact HC1.out); rintro e w' ⟨rfl, ⟨nd, rfl⟩⟩; refine ⟨_, rfl, ?_⟩) | ((with_reducible refine gate_callee (f := 18) rfl ?_); refine goesL_ (some 71) rfl rfl Try.func18 (by kernel_rfl) rfl #[.int .i64 (wrap64 ((wrap64 (t127 * (wrap64 (1 + t120)))) - (wrap64 (t121 * (wrap64 (1 + t126))))))] rfl (by (try simp only [List.map_toArray, List.map_cons, List.map_nil]); first | done | rfl | (simp only [List.length_drop, List.length_take]; rfl)) ?_; (with_reducible refine (laws_b10Abs.calls (wrap64 ((wrap64 (t127 * (wrap64 (1 + t120)))) - (wrap64 (t121 * (wrap64 (1 + t126)))))) t128 _ A18.out).mono ?_); rintro e w' ⟨rfl, ⟨nd, rfl⟩⟩; refine ⟨_, rfl, ?_⟩) | ((with_reducible refine gate_callee (f := 18) rfl ?_); refine goesL_ (some 81) rfl rfl Try.func18 (by kernel_rfl) rfl #[.int .i64 (wrap64 ((wrap64 (t123 * (wrap64 (1 + t120)))) - (wrap64 (t121 * t124))))] rfl (by (try simp only [List.map_toArray, List.map_cons, List.map_nil]); first | done | rfl | (simp only [List.length_drop, List.length_take]; rfl)) ?_; (with_reducible refine (laws_b10Abs.calls (wrap64 ((wrap64 (t123 * (wrap64 (1 + t120)))) - (wrap64 (t121 * t124)))) t129 _ A19.out).mono ?_); rintro e w' ⟨rfl, ⟨nd, rfl⟩⟩; refine ⟨_, rfl, ?_⟩))
              go_ret
              exact ⟨by first | rfl | (simp [errW_none, errW_some] <;> rfl) | (simp [*, errW_none, errW_some] <;> rfl), by repeat (first | (with_reducible first | exact HB.out | apply below_alloc | apply pw_below_drewN | apply below_drew1) | exact HB.out)⟩

/-- THE ONE PURE STATEMENT of laws_FnBestCycle: yours. -/
def laws_FnBestCycle.Pure : Prop := ∀ (l0 : List Int) (l1 : List Int), l0.length ≤ maxLen → l0.length * 1 ≤ 140737488351232 → (∀ x ∈ l0, (Lit.int .u8 x).wf = true) → l1.length ≤ maxLen → l1.length * 1 ≤ 140737488351232 → (∀ x ∈ l1, (Lit.int .u8 x).wf = true) → ∃ k, laws_FnBestCycle.f k l0 l1 = some true
theorem laws_FnBestCycle.walk (P : laws_FnBestCycle.Pure) (a0 : Option Addr) (len0 cap0 : Nat) (z0 : List Int) (a1 : Option Addr) (len1 cap1 : Nat) (z1 : List Int) (w : World) (w0 : (a0 = none ∧ len0 = 0 ∧ cap0 = 0 ∧ z0 = []) ∨ ∃ x, a0 = some x ∧ len0 ≤ cap0 ∧ cap0 ≤ maxLen ∧ z0.length = cap0 ∧ (∀ i, i < z0.length → w.cell? (x.add i) = some (.int .u8 (z0.getD i 0))) ∧ ∀ n ∈ z0, (Lit.int .u8 n).wf = true) (y0 : len0 * 1 ≤ 140737488351232) (w1 : (a1 = none ∧ len1 = 0 ∧ cap1 = 0 ∧ z1 = []) ∨ ∃ x, a1 = some x ∧ len1 ≤ cap1 ∧ cap1 ≤ maxLen ∧ z1.length = cap1 ∧ (∀ i, i < z1.length → w.cell? (x.add i) = some (.int .u8 (z1.getD i 0))) ∧ ∀ n ∈ z1, (Lit.int .u8 n).wf = true) (y1 : len1 * 1 ≤ 140737488351232) :
    Calls Try.prog 3 #[.slice a0 len0 cap0, .slice a1 len1 cap1] w fun e w' => e = .returned (.bool true) ∧ Below w.heap.size w w' := by
  obtain ⟨l0, rfl, hr0, hm0, hw0, hc0⟩ := ReadsInt.ofRowC w0
  obtain ⟨l1, rfl, hr1, hm1, hw1, hc1⟩ := ReadsInt.ofRowC w1
  obtain ⟨k, h⟩ := P l0 l1 hm0 y0 hw0 hm1 y1 hw1
  refine (laws_FnBestCycle.calls k _ _ l0 _ _ l1 true w (Kd.C_of_reads (d := (0 : Int)) (h1 := fun _ => rfl) hr0) hc0 (Kd.C_of_reads (d := (0 : Int)) (h1 := fun _ => rfl) hr1) hc1 h).mono ?_
  rintro e w' ⟨rfl, hd⟩
  exact ⟨rfl, hd⟩

/-! ### spec_l00In: function 48 -/
def spec_l00In.f (a0 : Int) (a1 : Int) (a2 : Int) : Option (Bool) := if a0 ≥ a1 then (some (decide (a0 ≤ a2))) else (some false)
set_option maxHeartbeats 8000000 in
set_option maxRecDepth 100000 in
theorem spec_l00In.calls (a0 : Int) (a1 : Int) (a2 : Int) (r : Bool) (w : World) (h : spec_l00In.f a0 a1 a2 = some r) :
    Calls Try.prog 48 #[.int .i64 a0, .int .i64 a1, .int .i64 a2] w fun e w' => e = .returned (.bool r) ∧ Drawn0 w w' := by
  have H : (if a0 ≥ a1 then (some (decide (a0 ≤ a2))) else (some false)) = some r := h
  clear h
  by_cases c4 : a0 ≥ a1
  · rw [if_pos c4] at H
    have c4b0 : decide (a1 ≤ a0) = true := decide_eq_true c4
    clear c4
    obtain rfl := Option.some.inj H
    go_enter Try.func48, Try.ntmps48
    go_wp2
    go_ret
    exact ⟨by first | rfl | (simp; done) | (simp [*]; done), by repeat (first | exact Drawn0.refl _ | apply Drawn0.step)⟩
  · rw [if_neg c4] at H
    have c4b0 : decide (a1 ≤ a0) = false := decide_eq_false c4
    clear c4
    obtain rfl := Option.some.inj H
    go_enter Try.func48, Try.ntmps48
    go_wp2
    go_ret
    exact ⟨by first | rfl | (simp; done) | (simp [*]; done), by repeat (first | exact Drawn0.refl _ | apply Drawn0.step)⟩

/-! ### spec_l00Max: function 49 -/
def spec_l00Max.f (a0 : Int) (a1 : Int) : Option (Int) := if a0 > a1 then (some a0) else (some a1)
set_option maxHeartbeats 8000000 in
set_option maxRecDepth 100000 in
theorem spec_l00Max.calls (a0 : Int) (a1 : Int) (r : Int) (w : World) (h : spec_l00Max.f a0 a1 = some r) :
    Calls Try.prog 49 #[.int .i64 a0, .int .i64 a1] w fun e w' => e = .returned (.int .i64 r) ∧ Drawn0 w w' := by
  have H : (if a0 > a1 then (some a0) else (some a1)) = some r := h
  clear h
  by_cases c3 : a0 > a1
  · rw [if_pos c3] at H
    have c3b0 : decide (a1 < a0) = true := decide_eq_true c3
    clear c3
    obtain rfl := Option.some.inj H
    go_enter Try.func49, Try.ntmps49
    go_wp2
    go_ret
    exact ⟨by first | rfl | (simp; done) | (simp [*]; done), by repeat (first | exact Drawn0.refl _ | apply Drawn0.step)⟩
  · rw [if_neg c3] at H
    have c3b0 : decide (a1 < a0) = false := decide_eq_false c3
    clear c3
    obtain rfl := Option.some.inj H
    go_enter Try.func49, Try.ntmps49
    go_wp2
    go_ret
    exact ⟨by first | rfl | (simp; done) | (simp [*]; done), by repeat (first | exact Drawn0.refl _ | apply Drawn0.step)⟩

/-! ### spec_BestCycle: function 19 -/
mutual
def spec_BestCycle.j0 : Nat → Int → Int → Int → Bool → Option (Int × Int × Bool)
  | 0, _, _, _, _ => none
  | k + 1, x0, x1, x2, x28 => if x28 = true then (some (0, 0, false)) else (spec_BestCycle.l0 k x0 x1 x2 0 1 1)
def spec_BestCycle.l0 : Nat → Int → Int → Int → Int → Int → Int → Option (Int × Int × Bool)
  | 0, _, _, _, _, _, _ => none
  | k + 1, x0, x1, x2, x9, x10, x11 => if x11 ≤ x2 then (spec_BestCycle.l1 k x0 x1 x2 x9 x10 x11 0) else (some (x9, x10, true))
def spec_BestCycle.l1 : Nat → Int → Int → Int → Int → Int → Int → Int → Option (Int × Int × Bool)
  | 0, _, _, _, _, _, _, _ => none
  | k + 1, x0, x1, x2, x9, x10, x11, x12 => if x12 ≤ x11 then ((spec_l00Max.f (wrap64 ((wrap64 (x12 * x1)) - (wrap64 (x0 * x11)))) (wrap64 ((wrap64 (x0 * x11)) - (wrap64 (x12 * x1))))).bind fun t133 => ((spec_l00Max.f (wrap64 ((wrap64 (x9 * x1)) - (wrap64 (x0 * x10)))) (wrap64 ((wrap64 (x0 * x10)) - (wrap64 (x9 * x1))))).bind fun t134 => (if (wrap64 (t133 * x10)) < (wrap64 (t134 * x11)) then (spec_BestCycle.l1 k x0 x1 x2 x12 x11 x11 (wrap64 (x12 + 1))) else (spec_BestCycle.l1 k x0 x1 x2 x9 x10 x11 (wrap64 (x12 + 1)))))) else (spec_BestCycle.l0 k x0 x1 x2 x9 x10 (wrap64 (x11 + 1)))
end
def spec_BestCycle.f (k : Nat) (a0 : Int) (a1 : Int) (a2 : Int) : Option (Int × Int × Bool) := (spec_l00In.f a1 1 1000).bind fun t130 => (if t130 = true then ((spec_l00In.f a0 0 a1).bind fun t131 => (if t131 = true then ((spec_l00In.f a2 1 400).bind fun t132 => (spec_BestCycle.j0 k a0 a1 a2 (!t132))) else (spec_BestCycle.j0 k a0 a1 a2 true))) else (spec_BestCycle.j0 k a0 a1 a2 true))
theorem spec_BestCycle.mono_l : ∀ k, (∀ y0 y1 y2 y3, LeO (spec_BestCycle.j0 k y0 y1 y2 y3) (spec_BestCycle.j0 (k + 1) y0 y1 y2 y3)) ∧ (∀ y0 y1 y2 y3 y4 y5, LeO (spec_BestCycle.l0 k y0 y1 y2 y3 y4 y5) (spec_BestCycle.l0 (k + 1) y0 y1 y2 y3 y4 y5)) ∧ (∀ y0 y1 y2 y3 y4 y5 y6, LeO (spec_BestCycle.l1 k y0 y1 y2 y3 y4 y5 y6) (spec_BestCycle.l1 (k + 1) y0 y1 y2 y3 y4 y5 y6))
  | 0 => ⟨fun _ _ _ _ r h => by simp [spec_BestCycle.j0] at h, fun _ _ _ _ _ _ r h => by simp [spec_BestCycle.l0] at h, fun _ _ _ _ _ _ _ r h => by simp [spec_BestCycle.l1] at h⟩
  | k + 1 => by
    obtain ⟨ih0, ih1, ih2⟩ := spec_BestCycle.mono_l k
    refine ⟨?_, ?_, ?_⟩
    · intro y0 y1 y2 y3
      unfold spec_BestCycle.j0
      repeat' first
      | (with_reducible exact ih0 _ _ _ _)
      | (with_reducible exact ih1 _ _ _ _ _ _)
      | (with_reducible exact ih2 _ _ _ _ _ _ _)
      | (with_reducible exact LeO.refl _)
      | (with_reducible exact LeO.none _)
      | (with_reducible refine LeO.ite ?_ ?_)
      | (with_reducible refine LeO.bind ?_ (fun _ => ?_))
      | exact ih0 _ _ _ _
      | exact ih1 _ _ _ _ _ _
      | exact ih2 _ _ _ _ _ _ _
      | exact LeO.none _
      | refine LeO.ite ?_ ?_
      | refine LeO.bind ?_ (fun _ => ?_)
    · intro y0 y1 y2 y3 y4 y5
      unfold spec_BestCycle.l0
      repeat' first
      | (with_reducible exact ih0 _ _ _ _)
      | (with_reducible exact ih1 _ _ _ _ _ _)
      | (with_reducible exact ih2 _ _ _ _ _ _ _)
      | (with_reducible exact LeO.refl _)
      | (with_reducible exact LeO.none _)
      | (with_reducible refine LeO.ite ?_ ?_)
      | (with_reducible refine LeO.bind ?_ (fun _ => ?_))
      | exact ih0 _ _ _ _
      | exact ih1 _ _ _ _ _ _
      | exact ih2 _ _ _ _ _ _ _
      | exact LeO.none _
      | refine LeO.ite ?_ ?_
      | refine LeO.bind ?_ (fun _ => ?_)
    · intro y0 y1 y2 y3 y4 y5 y6
      unfold spec_BestCycle.l1
      repeat' first
      | (with_reducible exact ih0 _ _ _ _)
      | (with_reducible exact ih1 _ _ _ _ _ _)
      | (with_reducible exact ih2 _ _ _ _ _ _ _)
      | (with_reducible exact LeO.refl _)
      | (with_reducible exact LeO.none _)
      | (with_reducible refine LeO.ite ?_ ?_)
      | (with_reducible refine LeO.bind ?_ (fun _ => ?_))
      | exact ih0 _ _ _ _
      | exact ih1 _ _ _ _ _ _
      | exact ih2 _ _ _ _ _ _ _
      | exact LeO.none _
      | refine LeO.ite ?_ ?_
      | refine LeO.bind ?_ (fun _ => ?_)
theorem spec_BestCycle.mono : ∀ a0 a1 a2 k, LeO (spec_BestCycle.f k a0 a1 a2) (spec_BestCycle.f (k + 1) a0 a1 a2) := by
  intro a0 a1 a2 k
  obtain ⟨ih0, ih1, ih2⟩ := spec_BestCycle.mono_l k
  unfold spec_BestCycle.f
  repeat' first
      | (with_reducible exact ih0 _ _ _ _)
      | (with_reducible exact ih1 _ _ _ _ _ _)
      | (with_reducible exact ih2 _ _ _ _ _ _ _)
      | (with_reducible exact LeO.refl _)
      | (with_reducible exact LeO.none _)
      | (with_reducible refine LeO.ite ?_ ?_)
      | (with_reducible refine LeO.bind ?_ (fun _ => ?_))
      | exact ih0 _ _ _ _
      | exact ih1 _ _ _ _ _ _
      | exact ih2 _ _ _ _ _ _ _
      | exact LeO.none _
      | refine LeO.ite ?_ ?_
      | refine LeO.bind ?_ (fun _ => ?_)
set_option maxHeartbeats 8000000 in
set_option maxRecDepth 100000 in
theorem spec_BestCycle.calls (k : Nat) (a0 : Int) (a1 : Int) (a2 : Int) (r1 : Int) (r2 : Int) (r3 : Bool) (w : World) (h : spec_BestCycle.f k a0 a1 a2 = some (r1, r2, r3)) :
    Calls Try.prog 19 #[.int .i64 a0, .int .i64 a1, .int .i64 a2] w fun e w' => e = .returned (.tuple #[.int .i64 r1, .int .i64 r2, .bool r3]) ∧ Drawn0 w w' := by
  have H : ((spec_l00In.f a1 1 1000).bind fun t130 => (if t130 = true then ((spec_l00In.f a0 0 a1).bind fun t131 => (if t131 = true then ((spec_l00In.f a2 1 400).bind fun t132 => (spec_BestCycle.j0 k a0 a1 a2 (!t132))) else (spec_BestCycle.j0 k a0 a1 a2 true))) else (spec_BestCycle.j0 k a0 a1 a2 true))) = some (r1, r2, r3) := h
  clear h
  have HC4 := Aside0.mk H
  clear H
  go_enter Try.func19, Try.ntmps19
  go_upto_region 1 with (fail)
  go_cut [28] (fun v28 wc => ∃ (kq : Nat) (x28_3 : Bool), v28 = .bool x28_3 ∧ Aside0 (spec_BestCycle.j0 kq a0 a1 a2 x28_3 = some (r1, r2, r3)) ∧ Aside0 (kq ≤ k) ∧ Drawn0 w wc)
  case first =>
    have H := HC4.out
    clear HC4
    replace H := Option.bind_eq_some_iff.mp H
    obtain ⟨t130, A50, H⟩ := H
    replace H : (if t130 = true then ((spec_l00In.f a0 0 a1).bind fun t131 => (if t131 = true then ((spec_l00In.f a2 1 400).bind fun t132 => (spec_BestCycle.j0 k a0 a1 a2 (!t132))) else (spec_BestCycle.j0 k a0 a1 a2 true))) else (spec_BestCycle.j0 k a0 a1 a2 true)) = some (r1, r2, r3) := H
    have A5 := Aside0.mk A50
    clear A50
    by_cases c6 : t130 = true
    · subst c6
      have H1 : ((spec_l00In.f a0 0 a1).bind fun t131 => (if t131 = true then ((spec_l00In.f a2 1 400).bind fun t132 => (spec_BestCycle.j0 k a0 a1 a2 (!t132))) else (spec_BestCycle.j0 k a0 a1 a2 true))) = some (r1, r2, r3) := by rw [if_pos rfl] at H; exact H
      clear H
      have H := H1
      clear H1
      replace H := Option.bind_eq_some_iff.mp H
      obtain ⟨t131, A70, H⟩ := H
      replace H : (if t131 = true then ((spec_l00In.f a2 1 400).bind fun t132 => (spec_BestCycle.j0 k a0 a1 a2 (!t132))) else (spec_BestCycle.j0 k a0 a1 a2 true)) = some (r1, r2, r3) := H
      have A7 := Aside0.mk A70
      clear A70
      by_cases c8 : t131 = true
      · subst c8
        have H1 : ((spec_l00In.f a2 1 400).bind fun t132 => (spec_BestCycle.j0 k a0 a1 a2 (!t132))) = some (r1, r2, r3) := by rw [if_pos rfl] at H; exact H
        clear H
        have H := H1
        clear H1
        replace H := Option.bind_eq_some_iff.mp H
        obtain ⟨t132, A90, H⟩ := H
        replace H : (spec_BestCycle.j0 k a0 a1 a2 (!t132)) = some (r1, r2, r3) := H
        have A9 := Aside0.mk A90
        clear A90
        have H' := Aside0.mk H
        clear H
        go_wp2_with (first | ((with_reducible refine gate_callee (f := 48) rfl ?_); refine goesL_ (some 16) rfl rfl Try.func48 (by kernel_rfl) rfl #[.int .i64 a1, .int .i64 1, .int .i64 1000] rfl (by (try simp only [List.map_toArray, List.map_cons, List.map_nil]); first | done | rfl | (simp only [List.length_drop, List.length_take]; rfl)) ?_; (with_reducible refine (spec_l00In.calls a1 1 1000 true _ A5.out).mono ?_); rintro e w' ⟨rfl, ⟨nd, rfl⟩⟩; refine ⟨_, rfl, ?_⟩) | (go_at_call 48; (with_reducible refine (spec_l00In.calls a0 0 a1 true _ A7.out).mono ?_); rintro e w' ⟨rfl, ⟨nd, rfl⟩⟩) | (go_at_call 48; (with_reducible refine (spec_l00In.calls a2 1 400 t132 _ A9.out).mono ?_); rintro e w' ⟨rfl, ⟨nd, rfl⟩⟩))
        go_meet
        case rel => exact ⟨_, (!t132), (by first | rfl | (simp; done) | (simp [*]; done)), H', ⟨by first | omega | exact Nat.le_refl _⟩, by repeat (first | exact Drawn0.refl _ | apply Drawn0.step)⟩
      · replace c8 := Bool.eq_false_iff.mpr c8
        subst c8
        have H1 : (spec_BestCycle.j0 k a0 a1 a2 true) = some (r1, r2, r3) := by rw [if_neg (show ¬ (false = true) by decide)] at H; exact H
        clear H
        have H := H1
        clear H1
        have H' := Aside0.mk H
        clear H
        go_wp2_with (first | ((with_reducible refine gate_callee (f := 48) rfl ?_); refine goesL_ (some 16) rfl rfl Try.func48 (by kernel_rfl) rfl #[.int .i64 a1, .int .i64 1, .int .i64 1000] rfl (by (try simp only [List.map_toArray, List.map_cons, List.map_nil]); first | done | rfl | (simp only [List.length_drop, List.length_take]; rfl)) ?_; (with_reducible refine (spec_l00In.calls a1 1 1000 true _ A5.out).mono ?_); rintro e w' ⟨rfl, ⟨nd, rfl⟩⟩; refine ⟨_, rfl, ?_⟩) | (go_at_call 48; (with_reducible refine (spec_l00In.calls a0 0 a1 false _ A7.out).mono ?_); rintro e w' ⟨rfl, ⟨nd, rfl⟩⟩))
        go_meet
        case rel => exact ⟨_, (true), (by first | rfl | (simp; done) | (simp [*]; done)), H', ⟨by first | omega | exact Nat.le_refl _⟩, by repeat (first | exact Drawn0.refl _ | apply Drawn0.step)⟩
    · replace c6 := Bool.eq_false_iff.mpr c6
      subst c6
      have H1 : (spec_BestCycle.j0 k a0 a1 a2 true) = some (r1, r2, r3) := by rw [if_neg (show ¬ (false = true) by decide)] at H; exact H
      clear H
      have H := H1
      clear H1
      have H' := Aside0.mk H
      clear H
      go_wp2_with (first | ((with_reducible refine gate_callee (f := 48) rfl ?_); refine goesL_ (some 16) rfl rfl Try.func48 (by kernel_rfl) rfl #[.int .i64 a1, .int .i64 1, .int .i64 1000] rfl (by (try simp only [List.map_toArray, List.map_cons, List.map_nil]); first | done | rfl | (simp only [List.length_drop, List.length_take]; rfl)) ?_; (with_reducible refine (spec_l00In.calls a1 1 1000 false _ A5.out).mono ?_); rintro e w' ⟨rfl, ⟨nd, rfl⟩⟩; refine ⟨_, rfl, ?_⟩))
      go_meet
      case rel => exact ⟨_, (true), (by first | rfl | (simp; done) | (simp [*]; done)), H', ⟨by first | omega | exact Nat.le_refl _⟩, by repeat (first | exact Drawn0.refl _ | apply Drawn0.step)⟩
  case rest =>
    clear HC4
    try clear c1
    try clear p2
    try clear c4
    try clear c6
    try clear c8
    obtain ⟨kq, x28_3, rfl, HA, HJ3, ⟨mc3, rfl⟩⟩ := hcut
    cases kq with
    | zero => exact absurd HA.out (by simp [spec_BestCycle.j0])
    | succ kj3 =>
      have H := HA.out
      clear HA
      simp only [spec_BestCycle.j0] at H
      by_cases c10 : x28_3 = true
      · subst c10
        have H1 : (some (0, 0, false)) = some (r1, r2, r3) := by rw [if_pos rfl] at H; exact H
        clear H
        have H := H1
        clear H1
        simp only [Option.some.injEq, Prod.mk.injEq] at H
        obtain ⟨rfl, rfl, rfl⟩ := H
        go_wp2
        go_ret3
        exact ⟨by first | rfl | (simp; done) | (simp [*]; done), by repeat (first | exact Drawn0.refl _ | apply Drawn0.step)⟩
      · replace c10 := Bool.eq_false_iff.mpr c10
        subst c10
        have H1 : (spec_BestCycle.l0 kj3 a0 a1 a2 0 1 1) = some (r1, r2, r3) := by rw [if_neg (show ¬ (false = true) by decide)] at H; exact H
        clear H
        have H := H1
        clear H1
        have H' := Aside0.mk H
        clear H
        go_wp2
        go_loopg [9, 10, 11] kj3 (fun kq v9 v10 v11 w' => ∃ (x9_2 : Int) (x10_2 : Int) (x11_2 : Int), v9 = .int .i64 x9_2 ∧ v10 = .int .i64 x10_2 ∧ v11 = .int .i64 x11_2 ∧ Aside0 (spec_BestCycle.l0 kq a0 a1 a2 x9_2 x10_2 x11_2 = some (r1, r2, r3)) ∧ Aside0 (kq ≤ kj3) ∧ Drawn0 w w')
        case atStart => exact ⟨(0), (1), (1), (by first | rfl | (simp; done) | (simp [*]; done)), (by first | rfl | (simp; done) | (simp [*]; done)), (by first | rfl | (simp; done) | (simp [*]; done)), H', ⟨Nat.le_refl _⟩, by repeat (first | exact Drawn0.refl _ | apply Drawn0.step)⟩
        case round =>
          clear H'
          try clear c1
          try clear p2
          try clear c3
          try clear c4
          try clear c6
          try clear c8
          try clear c10
          try clear p2
          obtain ⟨x9_2, x10_2, x11_2, rfl, rfl, rfl, HA, HK2, ⟨m2, rfl⟩⟩ := hrel
          cases gk with
          | zero => exact absurd HA.out (by simp [spec_BestCycle.l0])
          | succ k2 =>
            have H := HA.out
            clear HA
            simp only [spec_BestCycle.l0] at H
            by_cases c11 : x11_2 ≤ a2
            · rw [if_pos c11] at H
              have c11b0 : decide (x11_2 ≤ a2) = true := decide_eq_true c11
              clear c11
              have H' := Aside0.mk H
              clear H
              go_wp2
              go_loopg [9, 10, 12] k2 (fun kq v9 v10 v12 w' => ∃ (x9_3 : Int) (x10_3 : Int) (x12_3 : Int), v9 = .int .i64 x9_3 ∧ v10 = .int .i64 x10_3 ∧ v12 = .int .i64 x12_3 ∧ Aside0 (spec_BestCycle.l1 kq a0 a1 a2 x9_3 x10_3 x11_2 x12_3 = some (r1, r2, r3)) ∧ Aside0 (kq ≤ k2) ∧ Drawn0 w w')
              case atStart => exact ⟨(x9_2), (x10_2), (0), (by first | rfl | (simp; done) | (simp [*]; done)), (by first | rfl | (simp; done) | (simp [*]; done)), (by first | rfl | (simp; done) | (simp [*]; done)), H', ⟨Nat.le_refl _⟩, by repeat (first | exact Drawn0.refl _ | apply Drawn0.step)⟩
              case round =>
                clear H'
                try clear c1
                try clear p2
                try clear c3
                try clear c4
                try clear c6
                try clear c8
                try clear c10
                try clear c11
                try clear c11b0
                try clear p2
                obtain ⟨x9_3, x10_3, x12_3, rfl, rfl, rfl, HA, HK3, ⟨m3, rfl⟩⟩ := hrel
                cases gk with
                | zero => exact absurd HA.out (by simp [spec_BestCycle.l1])
                | succ k3 =>
                  have H := HA.out
                  clear HA
                  simp only [spec_BestCycle.l1] at H
                  by_cases c12 : x12_3 ≤ x11_2
                  · rw [if_pos c12] at H
                    have c12b0 : decide (x12_3 ≤ x11_2) = true := decide_eq_true c12
                    clear c12
                    replace H := Option.bind_eq_some_iff.mp H
                    obtain ⟨t133, A130, H⟩ := H
                    replace H : ((spec_l00Max.f (wrap64 ((wrap64 (x9_3 * a1)) - (wrap64 (a0 * x10_3)))) (wrap64 ((wrap64 (a0 * x10_3)) - (wrap64 (x9_3 * a1))))).bind fun t134 => (if (wrap64 (t133 * x10_3)) < (wrap64 (t134 * x11_2)) then (spec_BestCycle.l1 k3 a0 a1 a2 x12_3 x11_2 x11_2 (wrap64 (x12_3 + 1))) else (spec_BestCycle.l1 k3 a0 a1 a2 x9_3 x10_3 x11_2 (wrap64 (x12_3 + 1))))) = some (r1, r2, r3) := H
                    have A13 := Aside0.mk A130
                    clear A130
                    replace H := Option.bind_eq_some_iff.mp H
                    obtain ⟨t134, A140, H⟩ := H
                    replace H : (if (wrap64 (t133 * x10_3)) < (wrap64 (t134 * x11_2)) then (spec_BestCycle.l1 k3 a0 a1 a2 x12_3 x11_2 x11_2 (wrap64 (x12_3 + 1))) else (spec_BestCycle.l1 k3 a0 a1 a2 x9_3 x10_3 x11_2 (wrap64 (x12_3 + 1)))) = some (r1, r2, r3) := H
                    have A14 := Aside0.mk A140
                    clear A140
                    by_cases c15 : (wrap64 (t133 * x10_3)) < (wrap64 (t134 * x11_2))
                    · rw [if_pos c15] at H
                      have c15b0 : decide ((wrap64 (t133 * x10_3)) < (wrap64 (t134 * x11_2))) = true := decide_eq_true c15
                      clear c15
                      have H' := Aside0.mk H
                      clear H
                      go_wp2_with (first | ((with_reducible refine gate_callee (f := 49) rfl ?_); refine goesL_ (some 53) rfl rfl Try.func49 (by kernel_rfl) rfl #[.int .i64 (wrap64 ((wrap64 (x12_3 * a1)) - (wrap64 (a0 * x11_2)))), .int .i64 (wrap64 ((wrap64 (a0 * x11_2)) - (wrap64 (x12_3 * a1))))] rfl (by (try simp only [List.map_toArray, List.map_cons, List.map_nil]); first | done | rfl | (simp only [List.length_drop, List.length_take]; rfl)) ?_; (with_reducible refine (spec_l00Max.calls (wrap64 ((wrap64 (x12_3 * a1)) - (wrap64 (a0 * x11_2)))) (wrap64 ((wrap64 (a0 * x11_2)) - (wrap64 (x12_3 * a1)))) t133 _ A13.out).mono ?_); rintro e w' ⟨rfl, ⟨nd, rfl⟩⟩; refine ⟨_, rfl, ?_⟩) | ((with_reducible refine gate_callee (f := 49) rfl ?_); refine goesL_ (some 68) rfl rfl Try.func49 (by kernel_rfl) rfl #[.int .i64 (wrap64 ((wrap64 (x9_3 * a1)) - (wrap64 (a0 * x10_3)))), .int .i64 (wrap64 ((wrap64 (a0 * x10_3)) - (wrap64 (x9_3 * a1))))] rfl (by (try simp only [List.map_toArray, List.map_cons, List.map_nil]); first | done | rfl | (simp only [List.length_drop, List.length_take]; rfl)) ?_; (with_reducible refine (spec_l00Max.calls (wrap64 ((wrap64 (x9_3 * a1)) - (wrap64 (a0 * x10_3)))) (wrap64 ((wrap64 (a0 * x10_3)) - (wrap64 (x9_3 * a1)))) t134 _ A14.out).mono ?_); rintro e w' ⟨rfl, ⟨nd, rfl⟩⟩; refine ⟨_, rfl, ?_⟩))
                      go_roundg k3
                      case measure => have := HJ3.out; have := HK2.out; have := HK3.out; omega
                      case rel => exact ⟨(x12_3), (x11_2), (wrap64 (x12_3 + 1)), (by first | rfl | (simp; done) | (simp [*]; done)), (by first | rfl | (simp; done) | (simp [*]; done)), (by first | rfl | (simp; done) | (simp [*]; done)), H', ⟨by have := HJ3.out; have := HK2.out; have := HK3.out; omega⟩, by repeat (first | exact Drawn0.refl _ | apply Drawn0.step)⟩
                    · rw [if_neg c15] at H
                      have c15b0 : decide ((wrap64 (t133 * x10_3)) < (wrap64 (t134 * x11_2))) = false := decide_eq_false c15
                      clear c15
                      have H' := Aside0.mk H
                      clear H
                      go_wp2_with (first | ((with_reducible refine gate_callee (f := 49) rfl ?_); refine goesL_ (some 53) rfl rfl Try.func49 (by kernel_rfl) rfl #[.int .i64 (wrap64 ((wrap64 (x12_3 * a1)) - (wrap64 (a0 * x11_2)))), .int .i64 (wrap64 ((wrap64 (a0 * x11_2)) - (wrap64 (x12_3 * a1))))] rfl (by (try simp only [List.map_toArray, List.map_cons, List.map_nil]); first | done | rfl | (simp only [List.length_drop, List.length_take]; rfl)) ?_; (with_reducible refine (spec_l00Max.calls (wrap64 ((wrap64 (x12_3 * a1)) - (wrap64 (a0 * x11_2)))) (wrap64 ((wrap64 (a0 * x11_2)) - (wrap64 (x12_3 * a1)))) t133 _ A13.out).mono ?_); rintro e w' ⟨rfl, ⟨nd, rfl⟩⟩; refine ⟨_, rfl, ?_⟩) | ((with_reducible refine gate_callee (f := 49) rfl ?_); refine goesL_ (some 68) rfl rfl Try.func49 (by kernel_rfl) rfl #[.int .i64 (wrap64 ((wrap64 (x9_3 * a1)) - (wrap64 (a0 * x10_3)))), .int .i64 (wrap64 ((wrap64 (a0 * x10_3)) - (wrap64 (x9_3 * a1))))] rfl (by (try simp only [List.map_toArray, List.map_cons, List.map_nil]); first | done | rfl | (simp only [List.length_drop, List.length_take]; rfl)) ?_; (with_reducible refine (spec_l00Max.calls (wrap64 ((wrap64 (x9_3 * a1)) - (wrap64 (a0 * x10_3)))) (wrap64 ((wrap64 (a0 * x10_3)) - (wrap64 (x9_3 * a1)))) t134 _ A14.out).mono ?_); rintro e w' ⟨rfl, ⟨nd, rfl⟩⟩; refine ⟨_, rfl, ?_⟩))
                      go_roundg k3
                      case measure => have := HJ3.out; have := HK2.out; have := HK3.out; omega
                      case rel => exact ⟨(x9_3), (x10_3), (wrap64 (x12_3 + 1)), (by first | rfl | (simp; done) | (simp [*]; done)), (by first | rfl | (simp; done) | (simp [*]; done)), (by first | rfl | (simp; done) | (simp [*]; done)), H', ⟨by have := HJ3.out; have := HK2.out; have := HK3.out; omega⟩, by repeat (first | exact Drawn0.refl _ | apply Drawn0.step)⟩
                  · rw [if_neg c12] at H
                    have c12b0 : decide (x12_3 ≤ x11_2) = false := decide_eq_false c12
                    clear c12
                    have H' := Aside0.mk H
                    clear H
                    go_wp2
                    go_roundg k3
                    case measure => have := HJ3.out; have := HK2.out; have := HK3.out; omega
                    case rel => exact ⟨(x9_3), (x10_3), (wrap64 (x11_2 + 1)), (by first | rfl | (simp; done) | (simp [*]; done)), (by first | rfl | (simp; done) | (simp [*]; done)), (by first | rfl | (simp; done) | (simp [*]; done)), H', ⟨by have := HJ3.out; have := HK2.out; have := HK3.out; omega⟩, by repeat (first | exact Drawn0.refl _ | apply Drawn0.step)⟩
            · rw [if_neg c11] at H
              have c11b0 : decide (x11_2 ≤ a2) = false := decide_eq_false c11
              clear c11
              simp only [Option.some.injEq, Prod.mk.injEq] at H
              obtain ⟨rfl, rfl, rfl⟩ := H
              go_wp2
              go_ret3
              exact ⟨by first | rfl | (simp; done) | (simp [*]; done), by repeat (first | exact Drawn0.refl _ | apply Drawn0.step)⟩

end Go.Proofs.Ytjeidmbggdgggaa.Q
