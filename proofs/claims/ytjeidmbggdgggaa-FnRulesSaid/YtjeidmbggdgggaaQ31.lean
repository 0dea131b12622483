/- Functions of the given program as plain functions, and that the program's calls answer as they do; written by a program of this session over the kit's print. -/
import Derived.Test.YtjeidmbggdgggaaQ0
import Derived.Test.YtjeidmbggdgggaaQ1
import Derived.Test.YtjeidmbggdgggaaQ16
import Derived.Test.YtjeidmbggdgggaaQ24
import Derived.Test.YtjeidmbggdgggaaQ28
import Derived.Test.YtjeidmbggdgggaaQ30
namespace Go.Proofs.Ytjeidmbggdgggaa.Q
open Go.RowKit Go.Proofs.YtjeidmbggdgggaaW.PrintWords Go.Proofs.YtjeidmbggdgggaaW.PrintLast Go.Proofs.YtjeidmbggdgggaaW.PrintMore
attribute [local go_sem] max2_int min2_int max_two min_two max_three min_three max_four min_four   -- for this text's walks alone
set_option linter.unusedVariables false
set_option linter.unusedSimpArgs false

/-! ### laws_FnRules: function 7 -/
def laws_FnRules.j0 : Nat → List Int → Int → Int → Int → Bool → Int → Int → List Int → Option (Bool)
  | 0, _, _, _, _, _, _, _, _ => none
  | k + 1, x1, x5, x6, x7, x65, x279000, x279001, x279002 => if x65 = true then (some false) else ((laws_b10At.f x1 1 250).bind fun t280 => (if x5 = 0 then (none) else (if (Int.tmod t280 x5) = 0 then (if x6 = 0 then (none) else (if (Int.tmod t280 x6) = 0 then (if x7 = 0 then (none) else ((impl_MeanYear.f k x279000 x279001 x279002).bind fun bt281 => (if bt281.2.2 = true then ((impl_IsLeap.f k x279000 x279001 x279002 t280).bind fun t284 => (if (t284 == ((Int.tmod t280 x7) == 0)) = true then (some ((wrap64 (bt281.1 * x7)) == (wrap64 (bt281.2.1 * (wrap64 ((wrap64 (365 * x7)) + (x279002.length : Int))))))) else (some false))) else (some false)))) else ((impl_MeanYear.f k x279000 x279001 x279002).bind fun bt285 => (if bt285.2.2 = true then ((impl_IsLeap.f k x279000 x279001 x279002 t280).bind fun t288 => (if (t288 == true) = true then (some ((wrap64 (bt285.1 * x7)) == (wrap64 (bt285.2.1 * (wrap64 ((wrap64 (365 * x7)) + (x279002.length : Int))))))) else (some false))) else (some false))))) else ((impl_MeanYear.f k x279000 x279001 x279002).bind fun bt289 => (if bt289.2.2 = true then ((impl_IsLeap.f k x279000 x279001 x279002 t280).bind fun t292 => (if (t292 == false) = true then (some ((wrap64 (bt289.1 * x7)) == (wrap64 (bt289.2.1 * (wrap64 ((wrap64 (365 * x7)) + (x279002.length : Int))))))) else (some false))) else (some false))))))
def laws_FnRules.f (k : Nat) (l0 : List Int) (l1 : List Int) : Option (Bool) := (laws_b10Long.f l0 l1).bind fun t265 => (if t265 = true then (some true) else ((laws_b10At.f l0 0 8).bind fun t266 => ((laws_b10At.f l0 1 5).bind fun t267 => ((laws_b10At.f l1 0 4).bind fun t268 => ((impl_RuleCalendar.f k (([wrap64 (1 + t266), wrap64 ((wrap64 (1 + t266)) * (wrap64 (2 + t267))), wrap64 ((wrap64 ((wrap64 (1 + t266)) * (wrap64 (2 + t267)))) * (wrap64 (2 + t268)))] : List Int)) 365).bind fun bt272 => (if bt272.2.2.2 = true then (if bt272.1 = (wrap64 ((wrap64 ((wrap64 (1 + t266)) * (wrap64 (2 + t267)))) * (wrap64 (2 + t268)))) then ((impl_ValidCalendar.f k bt272.1 bt272.2.1 bt272.2.2.1).bind fun t279 => (if t279 = true then (if (wrap64 (1 + t266)) = 0 then (none) else (if (wrap64 ((wrap64 (1 + t266)) * (wrap64 (2 + t267)))) = 0 then (none) else (laws_FnRules.j0 k l1 (wrap64 (1 + t266)) (wrap64 ((wrap64 (1 + t266)) * (wrap64 (2 + t267)))) (wrap64 ((wrap64 ((wrap64 (1 + t266)) * (wrap64 (2 + t267)))) * (wrap64 (2 + t268)))) ((bt272.2.2.1.length : Int) != (wrap64 ((wrap64 ((wrap64 (Int.tdiv (wrap64 ((wrap64 ((wrap64 (1 + t266)) * (wrap64 (2 + t267)))) * (wrap64 (2 + t268)))) (wrap64 (1 + t266)))) - (wrap64 (Int.tdiv (wrap64 ((wrap64 ((wrap64 (1 + t266)) * (wrap64 (2 + t267)))) * (wrap64 (2 + t268)))) (wrap64 ((wrap64 (1 + t266)) * (wrap64 (2 + t267)))))))) + 1))) bt272.1 bt272.2.1 bt272.2.2.1))) else (laws_FnRules.j0 k l1 (wrap64 (1 + t266)) (wrap64 ((wrap64 (1 + t266)) * (wrap64 (2 + t267)))) (wrap64 ((wrap64 ((wrap64 (1 + t266)) * (wrap64 (2 + t267)))) * (wrap64 (2 + t268)))) true bt272.1 bt272.2.1 bt272.2.2.1))) else (laws_FnRules.j0 k l1 (wrap64 (1 + t266)) (wrap64 ((wrap64 (1 + t266)) * (wrap64 (2 + t267)))) (wrap64 ((wrap64 ((wrap64 (1 + t266)) * (wrap64 (2 + t267)))) * (wrap64 (2 + t268)))) true bt272.1 bt272.2.1 bt272.2.2.1)) else (laws_FnRules.j0 k l1 (wrap64 (1 + t266)) (wrap64 ((wrap64 (1 + t266)) * (wrap64 (2 + t267)))) (wrap64 ((wrap64 ((wrap64 (1 + t266)) * (wrap64 (2 + t267)))) * (wrap64 (2 + t268)))) true bt272.1 bt272.2.1 bt272.2.2.1)))))))
theorem laws_FnRules.mono_l : ∀ k, (∀ y0 y1 y2 y3 y4 y5 y6 y7, LeO (laws_FnRules.j0 k y0 y1 y2 y3 y4 y5 y6 y7) (laws_FnRules.j0 (k + 1) y0 y1 y2 y3 y4 y5 y6 y7))
  | 0 => fun _ _ _ _ _ _ _ _ r h => by simp [laws_FnRules.j0] at h
  | k + 1 => by
    have ih0 := laws_FnRules.mono_l k
    · intro y0 y1 y2 y3 y4 y5 y6 y7
      unfold laws_FnRules.j0
      repeat' first
      | (with_reducible exact ih0 _ _ _ _ _ _ _ _)
      | (with_reducible exact impl_IsLeap.mono _ _ _ _ _)
      | (with_reducible exact impl_MeanYear.mono _ _ _ _)
      | (with_reducible exact impl_RuleCalendar.mono _ _ _)
      | (with_reducible exact impl_ValidCalendar.mono _ _ _ _)
      | (with_reducible exact LeO.refl _)
      | (with_reducible exact LeO.none _)
      | (with_reducible refine LeO.ite ?_ ?_)
      | (with_reducible refine LeO.bind ?_ (fun _ => ?_))
      | exact ih0 _ _ _ _ _ _ _ _
      | exact impl_IsLeap.mono _ _ _ _ _
      | exact impl_MeanYear.mono _ _ _ _
      | exact impl_RuleCalendar.mono _ _ _
      | exact impl_ValidCalendar.mono _ _ _ _
      | exact LeO.none _
      | refine LeO.ite ?_ ?_
      | refine LeO.bind ?_ (fun _ => ?_)
theorem laws_FnRules.mono : ∀ a0 a1 k, LeO (laws_FnRules.f k a0 a1) (laws_FnRules.f (k + 1) a0 a1) := by
  intro a0 a1 k
  have ih0 := laws_FnRules.mono_l k
  unfold laws_FnRules.f
  repeat' first
      | (with_reducible exact ih0 _ _ _ _ _ _ _ _)
      | (with_reducible exact impl_IsLeap.mono _ _ _ _ _)
      | (with_reducible exact impl_MeanYear.mono _ _ _ _)
      | (with_reducible exact impl_RuleCalendar.mono _ _ _)
      | (with_reducible exact impl_ValidCalendar.mono _ _ _ _)
      | (with_reducible exact LeO.refl _)
      | (with_reducible exact LeO.none _)
      | (with_reducible refine LeO.ite ?_ ?_)
      | (with_reducible refine LeO.bind ?_ (fun _ => ?_))
      | exact ih0 _ _ _ _ _ _ _ _
      | exact impl_IsLeap.mono _ _ _ _ _
      | exact impl_MeanYear.mono _ _ _ _
      | exact impl_RuleCalendar.mono _ _ _
      | exact impl_ValidCalendar.mono _ _ _ _
      | exact LeO.none _
      | refine LeO.ite ?_ ?_
      | refine LeO.bind ?_ (fun _ => ?_)
def laws_FnRules.T7 : Bool × List (List Nat × List Nat) := (true, [([], []), ([0], [0]), ([1], [1]), ([2], [2]), ([3, 2], [2, 3]), ([2], [2]), ([4, 5, 2], [2, 4, 5]), ([2, 6], [2, 6]), ([7, 2], [7]), ([8], [8]), ([9, 8, 8], [8, 9]), ([10, 8], [8, 10]), ([8, 11], [8, 11]), ([12, 10], [12]), ([13], [13]), ([14, 13], [13, 14]), ([15, 13], [13, 15]), ([13], [13]), ([13], [13]), ([17, 18, 13], [13, 17, 18]), ([13], [13]), ([13], [13]), ([20, 21, 13], [13, 20, 21]), ([19, 22, 13], [13, 19, 22]), ([23, 13], [13, 23]), ([16, 24, 13], [13, 16, 24]), ([13, 25], [13, 25])])
def laws_FnRules.B7 : List Nat := [0, 1, 3, 7, 15, 7, 63, 127, 255, 511, 1023, 2047, 4095, 8191, 16383, 32767, 65535, 16383, 16383, 409599, 16383, 16383, 3162111, 8273919, 16662527, 33554431, 67108863]
theorem laws_FnRules.tab7 : rtab .any (opsOf Try.f7 7) = laws_FnRules.T7 := by kernel_rfl
theorem laws_FnRules.bits7 : waitsOk laws_FnRules.T7.2 laws_FnRules.B7 = true := by kernel_rfl
set_option maxHeartbeats 8000000 in
set_option maxRecDepth 100000 in
theorem laws_FnRules.calls (k : Nat) (A0 : Option Addr) (c0 : Nat) (l0 : List Int) (A1 : Option Addr) (c1 : Nat) (l1 : List Int) (r : Bool) (w : World) (hr0 : Kd.C (Kd.int .u8) w A0 l0.length l0) (hc0 : l0.length ≤ c0) (hr1 : Kd.C (Kd.int .u8) w A1 l1.length l1) (hc1 : l1.length ≤ c1) (h : laws_FnRules.f k l0 l1 = some r) :
    Calls Try.prog 7 #[.slice A0 l0.length c0, .slice A1 l1.length c1] w fun e w' => e = .returned (.bool r) ∧ Below w.heap.size w w' := by
  have hu34 := Try.underlying34
  have HR0 := Aside0.mk hr0
  have HC0 := Aside0.mk hc0
  clear hr0 hc0
  have HR1 := Aside0.mk hr1
  have HC1 := Aside0.mk hc1
  clear hr1 hc1
  have HB := Aside0.mk (Below.refl w.heap.size w)
  have H : ((laws_b10Long.f l0 l1).bind fun t265 => (if t265 = true then (some true) else ((laws_b10At.f l0 0 8).bind fun t266 => ((laws_b10At.f l0 1 5).bind fun t267 => ((laws_b10At.f l1 0 4).bind fun t268 => ((impl_RuleCalendar.f k (([wrap64 (1 + t266), wrap64 ((wrap64 (1 + t266)) * (wrap64 (2 + t267))), wrap64 ((wrap64 ((wrap64 (1 + t266)) * (wrap64 (2 + t267)))) * (wrap64 (2 + t268)))] : List Int)) 365).bind fun bt272 => (if bt272.2.2.2 = true then (if bt272.1 = (wrap64 ((wrap64 ((wrap64 (1 + t266)) * (wrap64 (2 + t267)))) * (wrap64 (2 + t268)))) then ((impl_ValidCalendar.f k bt272.1 bt272.2.1 bt272.2.2.1).bind fun t279 => (if t279 = true then (if (wrap64 (1 + t266)) = 0 then (none) else (if (wrap64 ((wrap64 (1 + t266)) * (wrap64 (2 + t267)))) = 0 then (none) else (laws_FnRules.j0 k l1 (wrap64 (1 + t266)) (wrap64 ((wrap64 (1 + t266)) * (wrap64 (2 + t267)))) (wrap64 ((wrap64 ((wrap64 (1 + t266)) * (wrap64 (2 + t267)))) * (wrap64 (2 + t268)))) ((bt272.2.2.1.length : Int) != (wrap64 ((wrap64 ((wrap64 (Int.tdiv (wrap64 ((wrap64 ((wrap64 (1 + t266)) * (wrap64 (2 + t267)))) * (wrap64 (2 + t268)))) (wrap64 (1 + t266)))) - (wrap64 (Int.tdiv (wrap64 ((wrap64 ((wrap64 (1 + t266)) * (wrap64 (2 + t267)))) * (wrap64 (2 + t268)))) (wrap64 ((wrap64 (1 + t266)) * (wrap64 (2 + t267)))))))) + 1))) bt272.1 bt272.2.1 bt272.2.2.1))) else (laws_FnRules.j0 k l1 (wrap64 (1 + t266)) (wrap64 ((wrap64 (1 + t266)) * (wrap64 (2 + t267)))) (wrap64 ((wrap64 ((wrap64 (1 + t266)) * (wrap64 (2 + t267)))) * (wrap64 (2 + t268)))) true bt272.1 bt272.2.1 bt272.2.2.1))) else (laws_FnRules.j0 k l1 (wrap64 (1 + t266)) (wrap64 ((wrap64 (1 + t266)) * (wrap64 (2 + t267)))) (wrap64 ((wrap64 ((wrap64 (1 + t266)) * (wrap64 (2 + t267)))) * (wrap64 (2 + t268)))) true bt272.1 bt272.2.1 bt272.2.2.1)) else (laws_FnRules.j0 k l1 (wrap64 (1 + t266)) (wrap64 ((wrap64 (1 + t266)) * (wrap64 (2 + t267)))) (wrap64 ((wrap64 ((wrap64 (1 + t266)) * (wrap64 (2 + t267)))) * (wrap64 (2 + t268)))) true bt272.1 bt272.2.1 bt272.2.2.1)))))))) = some r := h
  clear h
  replace H := Option.bind_eq_some_iff.mp H
  obtain ⟨t265, A30, H⟩ := H
  replace H : (if t265 = true then (some true) else ((laws_b10At.f l0 0 8).bind fun t266 => ((laws_b10At.f l0 1 5).bind fun t267 => ((laws_b10At.f l1 0 4).bind fun t268 => ((impl_RuleCalendar.f k (([wrap64 (1 + t266), wrap64 ((wrap64 (1 + t266)) * (wrap64 (2 + t267))), wrap64 ((wrap64 ((wrap64 (1 + t266)) * (wrap64 (2 + t267)))) * (wrap64 (2 + t268)))] : List Int)) 365).bind fun bt272 => (if bt272.2.2.2 = true then (if bt272.1 = (wrap64 ((wrap64 ((wrap64 (1 + t266)) * (wrap64 (2 + t267)))) * (wrap64 (2 + t268)))) then ((impl_ValidCalendar.f k bt272.1 bt272.2.1 bt272.2.2.1).bind fun t279 => (if t279 = true then (if (wrap64 (1 + t266)) = 0 then (none) else (if (wrap64 ((wrap64 (1 + t266)) * (wrap64 (2 + t267)))) = 0 then (none) else (laws_FnRules.j0 k l1 (wrap64 (1 + t266)) (wrap64 ((wrap64 (1 + t266)) * (wrap64 (2 + t267)))) (wrap64 ((wrap64 ((wrap64 (1 + t266)) * (wrap64 (2 + t267)))) * (wrap64 (2 + t268)))) ((bt272.2.2.1.length : Int) != (wrap64 ((wrap64 ((wrap64 (Int.tdiv (wrap64 ((wrap64 ((wrap64 (1 + t266)) * (wrap64 (2 + t267)))) * (wrap64 (2 + t268)))) (wrap64 (1 + t266)))) - (wrap64 (Int.tdiv (wrap64 ((wrap64 ((wrap64 (1 + t266)) * (wrap64 (2 + t267)))) * (wrap64 (2 + t268)))) (wrap64 ((wrap64 (1 + t266)) * (wrap64 (2 + t267)))))))) + 1))) bt272.1 bt272.2.1 bt272.2.2.1))) else (laws_FnRules.j0 k l1 (wrap64 (1 + t266)) (wrap64 ((wrap64 (1 + t266)) * (wrap64 (2 + t267)))) (wrap64 ((wrap64 ((wrap64 (1 + t266)) * (wrap64 (2 + t267)))) * (wrap64 (2 + t268)))) true bt272.1 bt272.2.1 bt272.2.2.1))) else (laws_FnRules.j0 k l1 (wrap64 (1 + t266)) (wrap64 ((wrap64 (1 + t266)) * (wrap64 (2 + t267)))) (wrap64 ((wrap64 ((wrap64 (1 + t266)) * (wrap64 (2 + t267)))) * (wrap64 (2 + t268)))) true bt272.1 bt272.2.1 bt272.2.2.1)) else (laws_FnRules.j0 k l1 (wrap64 (1 + t266)) (wrap64 ((wrap64 (1 + t266)) * (wrap64 (2 + t267)))) (wrap64 ((wrap64 ((wrap64 (1 + t266)) * (wrap64 (2 + t267)))) * (wrap64 (2 + t268)))) true bt272.1 bt272.2.1 bt272.2.2.1))))))) = some r := H
  have A3 := Aside0.mk A30
  clear A30
  by_cases c4 : t265 = true
  · subst c4
    have H1 : (some true) = some r := by rw [if_pos rfl] at H; exact H
    clear H
    have H := H1
    clear H1
    obtain rfl := Option.some.inj H
    go_enter Try.func7, Try.ntmps7
    go_wp2_with (first | ((with_reducible refine gate_callee (f := 15) rfl ?_); refine goesL_ (some 17) rfl rfl Try.func15 (by kernel_rfl) rfl #[.slice A0 l0.length c0, .slice A1 l1.length c1] rfl (by (try simp only [List.map_toArray, List.map_cons, List.map_nil]); first | done | rfl | (simp only [List.length_drop, List.length_take]; rfl)) ?_; (with_reducible refine (laws_b10Long.calls _ _ l0 _ _ l1 true _ ?side1 ?side2 ?side3 ?side4 A3.out).mono ?_); (case side1 => repeat (first | exact HR0.out | (with_reducible refine Kd.C_alloc ?_ _) | (with_reducible refine Kd.C_drewN ?_ _) | (with_reducible refine Kd.C_drew ?_))); (case side2 => exact HC0.out); (case side3 => repeat (first | exact HR1.out | (with_reducible refine Kd.C_alloc ?_ _) | (with_reducible refine Kd.C_drewN ?_ _) | (with_reducible refine Kd.C_drew ?_))); (case side4 => exact HC1.out); rintro e w' ⟨rfl, ⟨nd, rfl⟩⟩; refine ⟨_, rfl, ?_⟩))
    go_ret
    exact ⟨by first | rfl | (simp [errW_none, errW_some] <;> rfl) | (simp [*, errW_none, errW_some] <;> rfl), by repeat (first | (with_reducible first | exact HB.out | apply below_alloc | apply pw_below_drewN | apply below_drew1) | exact HB.out)⟩
  · replace c4 := Bool.eq_false_iff.mpr c4
    subst c4
    have H1 : ((laws_b10At.f l0 0 8).bind fun t266 => ((laws_b10At.f l0 1 5).bind fun t267 => ((laws_b10At.f l1 0 4).bind fun t268 => ((impl_RuleCalendar.f k (([wrap64 (1 + t266), wrap64 ((wrap64 (1 + t266)) * (wrap64 (2 + t267))), wrap64 ((wrap64 ((wrap64 (1 + t266)) * (wrap64 (2 + t267)))) * (wrap64 (2 + t268)))] : List Int)) 365).bind fun bt272 => (if bt272.2.2.2 = true then (if bt272.1 = (wrap64 ((wrap64 ((wrap64 (1 + t266)) * (wrap64 (2 + t267)))) * (wrap64 (2 + t268)))) then ((impl_ValidCalendar.f k bt272.1 bt272.2.1 bt272.2.2.1).bind fun t279 => (if t279 = true then (if (wrap64 (1 + t266)) = 0 then (none) else (if (wrap64 ((wrap64 (1 + t266)) * (wrap64 (2 + t267)))) = 0 then (none) else (laws_FnRules.j0 k l1 (wrap64 (1 + t266)) (wrap64 ((wrap64 (1 + t266)) * (wrap64 (2 + t267)))) (wrap64 ((wrap64 ((wrap64 (1 + t266)) * (wrap64 (2 + t267)))) * (wrap64 (2 + t268)))) ((bt272.2.2.1.length : Int) != (wrap64 ((wrap64 ((wrap64 (Int.tdiv (wrap64 ((wrap64 ((wrap64 (1 + t266)) * (wrap64 (2 + t267)))) * (wrap64 (2 + t268)))) (wrap64 (1 + t266)))) - (wrap64 (Int.tdiv (wrap64 ((wrap64 ((wrap64 (1 + t266)) * (wrap64 (2 + t267)))) * (wrap64 (2 + t268)))) (wrap64 ((wrap64 (1 + t266)) * (wrap64 (2 + t267)))))))) + 1))) bt272.1 bt272.2.1 bt272.2.2.1))) else (laws_FnRules.j0 k l1 (wrap64 (1 + t266)) (wrap64 ((wrap64 (1 + t266)) * (wrap64 (2 + t267)))) (wrap64 ((wrap64 ((wrap64 (1 + t266)) * (wrap64 (2 + t267)))) * (wrap64 (2 + t268)))) true bt272.1 bt272.2.1 bt272.2.2.1))) else (laws_FnRules.j0 k l1 (wrap64 (1 + t266)) (wrap64 ((wrap64 (1 + t266)) * (wrap64 (2 + t267)))) (wrap64 ((wrap64 ((wrap64 (1 + t266)) * (wrap64 (2 + t267)))) * (wrap64 (2 + t268)))) true bt272.1 bt272.2.1 bt272.2.2.1)) else (laws_FnRules.j0 k l1 (wrap64 (1 + t266)) (wrap64 ((wrap64 (1 + t266)) * (wrap64 (2 + t267)))) (wrap64 ((wrap64 ((wrap64 (1 + t266)) * (wrap64 (2 + t267)))) * (wrap64 (2 + t268)))) true bt272.1 bt272.2.1 bt272.2.2.1)))))) = some r := by rw [if_neg (show ¬ (false = true) by decide)] at H; exact H
    clear H
    have H := H1
    clear H1
    replace H := Option.bind_eq_some_iff.mp H
    obtain ⟨t266, A50, H⟩ := H
    replace H : ((laws_b10At.f l0 1 5).bind fun t267 => ((laws_b10At.f l1 0 4).bind fun t268 => ((impl_RuleCalendar.f k (([wrap64 (1 + t266), wrap64 ((wrap64 (1 + t266)) * (wrap64 (2 + t267))), wrap64 ((wrap64 ((wrap64 (1 + t266)) * (wrap64 (2 + t267)))) * (wrap64 (2 + t268)))] : List Int)) 365).bind fun bt272 => (if bt272.2.2.2 = true then (if bt272.1 = (wrap64 ((wrap64 ((wrap64 (1 + t266)) * (wrap64 (2 + t267)))) * (wrap64 (2 + t268)))) then ((impl_ValidCalendar.f k bt272.1 bt272.2.1 bt272.2.2.1).bind fun t279 => (if t279 = true then (if (wrap64 (1 + t266)) = 0 then (none) else (if (wrap64 ((wrap64 (1 + t266)) * (wrap64 (2 + t267)))) = 0 then (none) else (laws_FnRules.j0 k l1 (wrap64 (1 + t266)) (wrap64 ((wrap64 (1 + t266)) * (wrap64 (2 + t267)))) (wrap64 ((wrap64 ((wrap64 (1 + t266)) * (wrap64 (2 + t267)))) * (wrap64 (2 + t268)))) ((bt272.2.2.1.length : Int) != (wrap64 ((wrap64 ((wrap64 (Int.tdiv (wrap64 ((wrap64 ((wrap64 (1 + t266)) * (wrap64 (2 + t267)))) * (wrap64 (2 + t268)))) (wrap64 (1 + t266)))) - (wrap64 (Int.tdiv (wrap64 ((wrap64 ((wrap64 (1 + t266)) * (wrap64 (2 + t267)))) * (wrap64 (2 + t268)))) (wrap64 ((wrap64 (1 + t266)) * (wrap64 (2 + t267)))))))) + 1))) bt272.1 bt272.2.1 bt272.2.2.1))) else (laws_FnRules.j0 k l1 (wrap64 (1 + t266)) (wrap64 ((wrap64 (1 + t266)) * (wrap64 (2 + t267)))) (wrap64 ((wrap64 ((wrap64 (1 + t266)) * (wrap64 (2 + t267)))) * (wrap64 (2 + t268)))) true bt272.1 bt272.2.1 bt272.2.2.1))) else (laws_FnRules.j0 k l1 (wrap64 (1 + t266)) (wrap64 ((wrap64 (1 + t266)) * (wrap64 (2 + t267)))) (wrap64 ((wrap64 ((wrap64 (1 + t266)) * (wrap64 (2 + t267)))) * (wrap64 (2 + t268)))) true bt272.1 bt272.2.1 bt272.2.2.1)) else (laws_FnRules.j0 k l1 (wrap64 (1 + t266)) (wrap64 ((wrap64 (1 + t266)) * (wrap64 (2 + t267)))) (wrap64 ((wrap64 ((wrap64 (1 + t266)) * (wrap64 (2 + t267)))) * (wrap64 (2 + t268)))) true bt272.1 bt272.2.1 bt272.2.2.1))))) = some r := H
    have A5 := Aside0.mk A50
    clear A50
    replace H := Option.bind_eq_some_iff.mp H
    obtain ⟨t267, A60, H⟩ := H
    replace H : ((laws_b10At.f l1 0 4).bind fun t268 => ((impl_RuleCalendar.f k (([wrap64 (1 + t266), wrap64 ((wrap64 (1 + t266)) * (wrap64 (2 + t267))), wrap64 ((wrap64 ((wrap64 (1 + t266)) * (wrap64 (2 + t267)))) * (wrap64 (2 + t268)))] : List Int)) 365).bind fun bt272 => (if bt272.2.2.2 = true then (if bt272.1 = (wrap64 ((wrap64 ((wrap64 (1 + t266)) * (wrap64 (2 + t267)))) * (wrap64 (2 + t268)))) then ((impl_ValidCalendar.f k bt272.1 bt272.2.1 bt272.2.2.1).bind fun t279 => (if t279 = true then (if (wrap64 (1 + t266)) = 0 then (none) else (if (wrap64 ((wrap64 (1 + t266)) * (wrap64 (2 + t267)))) = 0 then (none) else (laws_FnRules.j0 k l1 (wrap64 (1 + t266)) (wrap64 ((wrap64 (1 + t266)) * (wrap64 (2 + t267)))) (wrap64 ((wrap64 ((wrap64 (1 + t266)) * (wrap64 (2 + t267)))) * (wrap64 (2 + t268)))) ((bt272.2.2.1.length : Int) != (wrap64 ((wrap64 ((wrap64 (Int.tdiv (wrap64 ((wrap64 ((wrap64 (1 + t266)) * (wrap64 (2 + t267)))) * (wrap64 (2 + t268)))) (wrap64 (1 + t266)))) - (wrap64 (Int.tdiv (wrap64 ((wrap64 ((wrap64 (1 + t266)) * (wrap64 (2 + t267)))) * (wrap64 (2 + t268)))) (wrap64 ((wrap64 (1 + t266)) * (wrap64 (2 + t267)))))))) + 1))) bt272.1 bt272.2.1 bt272.2.2.1))) else (laws_FnRules.j0 k l1 (wrap64 (1 + t266)) (wrap64 ((wrap64 (1 + t266)) * (wrap64 (2 + t267)))) (wrap64 ((wrap64 ((wrap64 (1 + t266)) * (wrap64 (2 + t267)))) * (wrap64 (2 + t268)))) true bt272.1 bt272.2.1 bt272.2.2.1))) else (laws_FnRules.j0 k l1 (wrap64 (1 + t266)) (wrap64 ((wrap64 (1 + t266)) * (wrap64 (2 + t267)))) (wrap64 ((wrap64 ((wrap64 (1 + t266)) * (wrap64 (2 + t267)))) * (wrap64 (2 + t268)))) true bt272.1 bt272.2.1 bt272.2.2.1)) else (laws_FnRules.j0 k l1 (wrap64 (1 + t266)) (wrap64 ((wrap64 (1 + t266)) * (wrap64 (2 + t267)))) (wrap64 ((wrap64 ((wrap64 (1 + t266)) * (wrap64 (2 + t267)))) * (wrap64 (2 + t268)))) true bt272.1 bt272.2.1 bt272.2.2.1)))) = some r := H
    have A6 := Aside0.mk A60
    clear A60
    replace H := Option.bind_eq_some_iff.mp H
    obtain ⟨t268, A70, H⟩ := H
    replace H : ((impl_RuleCalendar.f k (([wrap64 (1 + t266), wrap64 ((wrap64 (1 + t266)) * (wrap64 (2 + t267))), wrap64 ((wrap64 ((wrap64 (1 + t266)) * (wrap64 (2 + t267)))) * (wrap64 (2 + t268)))] : List Int)) 365).bind fun bt272 => (if bt272.2.2.2 = true then (if bt272.1 = (wrap64 ((wrap64 ((wrap64 (1 + t266)) * (wrap64 (2 + t267)))) * (wrap64 (2 + t268)))) then ((impl_ValidCalendar.f k bt272.1 bt272.2.1 bt272.2.2.1).bind fun t279 => (if t279 = true then (if (wrap64 (1 + t266)) = 0 then (none) else (if (wrap64 ((wrap64 (1 + t266)) * (wrap64 (2 + t267)))) = 0 then (none) else (laws_FnRules.j0 k l1 (wrap64 (1 + t266)) (wrap64 ((wrap64 (1 + t266)) * (wrap64 (2 + t267)))) (wrap64 ((wrap64 ((wrap64 (1 + t266)) * (wrap64 (2 + t267)))) * (wrap64 (2 + t268)))) ((bt272.2.2.1.length : Int) != (wrap64 ((wrap64 ((wrap64 (Int.tdiv (wrap64 ((wrap64 ((wrap64 (1 + t266)) * (wrap64 (2 + t267)))) * (wrap64 (2 + t268)))) (wrap64 (1 + t266)))) - (wrap64 (Int.tdiv (wrap64 ((wrap64 ((wrap64 (1 + t266)) * (wrap64 (2 + t267)))) * (wrap64 (2 + t268)))) (wrap64 ((wrap64 (1 + t266)) * (wrap64 (2 + t267)))))))) + 1))) bt272.1 bt272.2.1 bt272.2.2.1))) else (laws_FnRules.j0 k l1 (wrap64 (1 + t266)) (wrap64 ((wrap64 (1 + t266)) * (wrap64 (2 + t267)))) (wrap64 ((wrap64 ((wrap64 (1 + t266)) * (wrap64 (2 + t267)))) * (wrap64 (2 + t268)))) true bt272.1 bt272.2.1 bt272.2.2.1))) else (laws_FnRules.j0 k l1 (wrap64 (1 + t266)) (wrap64 ((wrap64 (1 + t266)) * (wrap64 (2 + t267)))) (wrap64 ((wrap64 ((wrap64 (1 + t266)) * (wrap64 (2 + t267)))) * (wrap64 (2 + t268)))) true bt272.1 bt272.2.1 bt272.2.2.1)) else (laws_FnRules.j0 k l1 (wrap64 (1 + t266)) (wrap64 ((wrap64 (1 + t266)) * (wrap64 (2 + t267)))) (wrap64 ((wrap64 ((wrap64 (1 + t266)) * (wrap64 (2 + t267)))) * (wrap64 (2 + t268)))) true bt272.1 bt272.2.1 bt272.2.2.1))) = some r := H
    have A7 := Aside0.mk A70
    clear A70
    obtain ⟨y269, hy269⟩ : ∃ y_ : List Int, y_ = (([wrap64 (1 + t266), wrap64 ((wrap64 (1 + t266)) * (wrap64 (2 + t267))), wrap64 ((wrap64 ((wrap64 (1 + t266)) * (wrap64 (2 + t267)))) * (wrap64 (2 + t268)))] : List Int)) := ⟨_, rfl⟩
    replace H : ((impl_RuleCalendar.f k y269 365).bind fun bt272 => (if bt272.2.2.2 = true then (if bt272.1 = (wrap64 ((wrap64 ((wrap64 (1 + t266)) * (wrap64 (2 + t267)))) * (wrap64 (2 + t268)))) then ((impl_ValidCalendar.f k bt272.1 bt272.2.1 bt272.2.2.1).bind fun t279 => (if t279 = true then (if (wrap64 (1 + t266)) = 0 then (none) else (if (wrap64 ((wrap64 (1 + t266)) * (wrap64 (2 + t267)))) = 0 then (none) else (laws_FnRules.j0 k l1 (wrap64 (1 + t266)) (wrap64 ((wrap64 (1 + t266)) * (wrap64 (2 + t267)))) (wrap64 ((wrap64 ((wrap64 (1 + t266)) * (wrap64 (2 + t267)))) * (wrap64 (2 + t268)))) ((bt272.2.2.1.length : Int) != (wrap64 ((wrap64 ((wrap64 (Int.tdiv (wrap64 ((wrap64 ((wrap64 (1 + t266)) * (wrap64 (2 + t267)))) * (wrap64 (2 + t268)))) (wrap64 (1 + t266)))) - (wrap64 (Int.tdiv (wrap64 ((wrap64 ((wrap64 (1 + t266)) * (wrap64 (2 + t267)))) * (wrap64 (2 + t268)))) (wrap64 ((wrap64 (1 + t266)) * (wrap64 (2 + t267)))))))) + 1))) bt272.1 bt272.2.1 bt272.2.2.1))) else (laws_FnRules.j0 k l1 (wrap64 (1 + t266)) (wrap64 ((wrap64 (1 + t266)) * (wrap64 (2 + t267)))) (wrap64 ((wrap64 ((wrap64 (1 + t266)) * (wrap64 (2 + t267)))) * (wrap64 (2 + t268)))) true bt272.1 bt272.2.1 bt272.2.2.1))) else (laws_FnRules.j0 k l1 (wrap64 (1 + t266)) (wrap64 ((wrap64 (1 + t266)) * (wrap64 (2 + t267)))) (wrap64 ((wrap64 ((wrap64 (1 + t266)) * (wrap64 (2 + t267)))) * (wrap64 (2 + t268)))) true bt272.1 bt272.2.1 bt272.2.2.1)) else (laws_FnRules.j0 k l1 (wrap64 (1 + t266)) (wrap64 ((wrap64 (1 + t266)) * (wrap64 (2 + t267)))) (wrap64 ((wrap64 ((wrap64 (1 + t266)) * (wrap64 (2 + t267)))) * (wrap64 (2 + t268)))) true bt272.1 bt272.2.1 bt272.2.2.1))) = some r := by first | (rw [hy269]; with_reducible exact H) | (have H2_ := (Option.bind_some _ _).symm.trans H; rw [hy269]; with_reducible exact H2_) | (have H2_ := (Option.bind_some _ _).symm.trans H; with_reducible exact H2_) | with_reducible exact H | (rw [hy269]; exact H) | exact H
    have Ny269 := Aside0.mk hy269
    clear hy269
    replace H := Option.bind_eq_some_iff.mp H
    obtain ⟨⟨t272, t273, t274, t277⟩, A80, H⟩ := H
    replace H : (if t277 = true then (if t272 = (wrap64 ((wrap64 ((wrap64 (1 + t266)) * (wrap64 (2 + t267)))) * (wrap64 (2 + t268)))) then ((impl_ValidCalendar.f k t272 t273 t274).bind fun t279 => (if t279 = true then (if (wrap64 (1 + t266)) = 0 then (none) else (if (wrap64 ((wrap64 (1 + t266)) * (wrap64 (2 + t267)))) = 0 then (none) else (laws_FnRules.j0 k l1 (wrap64 (1 + t266)) (wrap64 ((wrap64 (1 + t266)) * (wrap64 (2 + t267)))) (wrap64 ((wrap64 ((wrap64 (1 + t266)) * (wrap64 (2 + t267)))) * (wrap64 (2 + t268)))) ((t274.length : Int) != (wrap64 ((wrap64 ((wrap64 (Int.tdiv (wrap64 ((wrap64 ((wrap64 (1 + t266)) * (wrap64 (2 + t267)))) * (wrap64 (2 + t268)))) (wrap64 (1 + t266)))) - (wrap64 (Int.tdiv (wrap64 ((wrap64 ((wrap64 (1 + t266)) * (wrap64 (2 + t267)))) * (wrap64 (2 + t268)))) (wrap64 ((wrap64 (1 + t266)) * (wrap64 (2 + t267)))))))) + 1))) t272 t273 t274))) else (laws_FnRules.j0 k l1 (wrap64 (1 + t266)) (wrap64 ((wrap64 (1 + t266)) * (wrap64 (2 + t267)))) (wrap64 ((wrap64 ((wrap64 (1 + t266)) * (wrap64 (2 + t267)))) * (wrap64 (2 + t268)))) true t272 t273 t274))) else (laws_FnRules.j0 k l1 (wrap64 (1 + t266)) (wrap64 ((wrap64 (1 + t266)) * (wrap64 (2 + t267)))) (wrap64 ((wrap64 ((wrap64 (1 + t266)) * (wrap64 (2 + t267)))) * (wrap64 (2 + t268)))) true t272 t273 t274)) else (laws_FnRules.j0 k l1 (wrap64 (1 + t266)) (wrap64 ((wrap64 (1 + t266)) * (wrap64 (2 + t267)))) (wrap64 ((wrap64 ((wrap64 (1 + t266)) * (wrap64 (2 + t267)))) * (wrap64 (2 + t268)))) true t272 t273 t274)) = some r := H
    have A8 := Aside0.mk A80
    clear A80
    have HC9 := Aside0.mk H
    clear H
    go_enter Try.func7, Try.ntmps7
    go_upto_region 7 with (first | ((with_reducible refine gate_callee (f := 15) rfl ?_); refine goesL_ (some 17) rfl rfl Try.func15 (by kernel_rfl) rfl #[.slice A0 l0.length c0, .slice A1 l1.length c1] rfl (by (try simp only [List.map_toArray, List.map_cons, List.map_nil]); first | done | rfl | (simp only [List.length_drop, List.length_take]; rfl)) ?_; (with_reducible refine (laws_b10Long.calls _ _ l0 _ _ l1 false _ ?side1 ?side2 ?side3 ?side4 A3.out).mono ?_); (case side1 => repeat (first | exact HR0.out | (with_reducible refine Kd.C_alloc ?_ _) | (with_reducible refine Kd.C_drewN ?_ _) | (with_reducible refine Kd.C_drew ?_))); (case side2 => exact HC0.out); (case side3 => repeat (first | exact HR1.out | (with_reducible refine Kd.C_alloc ?_ _) | (with_reducible refine Kd.C_drewN ?_ _) | (with_reducible refine Kd.C_drew ?_))); (case side4 => exact HC1.out); rintro e w' ⟨rfl, ⟨nd, rfl⟩⟩; refine ⟨_, rfl, ?_⟩) | ((with_reducible refine gate_callee (f := 16) rfl ?_); refine goesL_ (some 19) rfl rfl Try.func16 (by kernel_rfl) rfl #[.slice A0 l0.length c0, .int .i64 0, .int .i64 8] rfl (by (try simp only [List.map_toArray, List.map_cons, List.map_nil]); first | done | rfl | (simp only [List.length_drop, List.length_take]; rfl)) ?_; (with_reducible refine (laws_b10At.calls _ _ l0 0 8 t266 _ ?side1 ?side2 A5.out).mono ?_); (case side1 => repeat (first | exact HR0.out | (with_reducible refine Kd.C_alloc ?_ _) | (with_reducible refine Kd.C_drewN ?_ _) | (with_reducible refine Kd.C_drew ?_))); (case side2 => exact HC0.out); rintro e w' ⟨rfl, ⟨nd, rfl⟩⟩; refine ⟨_, rfl, ?_⟩) | ((with_reducible refine gate_callee (f := 16) rfl ?_); refine goesL_ (some 23) rfl rfl Try.func16 (by kernel_rfl) rfl #[.slice A0 l0.length c0, .int .i64 1, .int .i64 5] rfl (by (try simp only [List.map_toArray, List.map_cons, List.map_nil]); first | done | rfl | (simp only [List.length_drop, List.length_take]; rfl)) ?_; (with_reducible refine (laws_b10At.calls _ _ l0 1 5 t267 _ ?side1 ?side2 A6.out).mono ?_); (case side1 => repeat (first | exact HR0.out | (with_reducible refine Kd.C_alloc ?_ _) | (with_reducible refine Kd.C_drewN ?_ _) | (with_reducible refine Kd.C_drew ?_))); (case side2 => exact HC0.out); rintro e w' ⟨rfl, ⟨nd, rfl⟩⟩; refine ⟨_, rfl, ?_⟩) | ((with_reducible refine gate_callee (f := 16) rfl ?_); refine goesL_ (some 28) rfl rfl Try.func16 (by kernel_rfl) rfl #[.slice A1 l1.length c1, .int .i64 0, .int .i64 4] rfl (by (try simp only [List.map_toArray, List.map_cons, List.map_nil]); first | done | rfl | (simp only [List.length_drop, List.length_take]; rfl)) ?_; (with_reducible refine (laws_b10At.calls _ _ l1 0 4 t268 _ ?side1 ?side2 A7.out).mono ?_); (case side1 => repeat (first | exact HR1.out | (with_reducible refine Kd.C_alloc ?_ _) | (with_reducible refine Kd.C_drewN ?_ _) | (with_reducible refine Kd.C_drew ?_))); (case side2 => exact HC1.out); rintro e w' ⟨rfl, ⟨nd, rfl⟩⟩; refine ⟨_, rfl, ?_⟩) | ((with_reducible refine gate_dst (N := 35) rfl ?_); (try (refine gate_guard (by rfl) ?_; dsimp only)); refine Kd.R_lit (Kd.int .i64) _ 2 ?hg (N := 35) ?hd (xs := ([wrap64 (1 + t266), wrap64 ((wrap64 (1 + t266)) * (wrap64 (2 + t267))), wrap64 ((wrap64 ((wrap64 (1 + t266)) * (wrap64 (2 + t267)))) * (wrap64 (2 + t268)))] : List Int)) (inner := [.int .i64 (wrap64 (1 + t266)), .int .i64 (wrap64 ((wrap64 (1 + t266)) * (wrap64 (2 + t267)))), .int .i64 (wrap64 ((wrap64 ((wrap64 (1 + t266)) * (wrap64 (2 + t267)))) * (wrap64 (2 + t268))))]) (ok := fun _ => True) (okp := fun _ => True) ?hr ?hp (fun _ hk => hk) trivial (Below.refl _ _) (Nat.le_refl _) (by simp) ?_; (case hd => rfl); (case hg => rfl); (case hr => first | (go_simp; done) | (go_simp; rfl)); (case hp => exact (Reps.one (show Kd.M (Kd.int .i64) _ _ _ (wrap64 (1 + t266)) [.int .i64 (wrap64 (1 + t266))] from rfl) (Reps.one (show Kd.M (Kd.int .i64) _ _ _ (wrap64 ((wrap64 (1 + t266)) * (wrap64 (2 + t267)))) [.int .i64 (wrap64 ((wrap64 (1 + t266)) * (wrap64 (2 + t267))))] from rfl) (Reps.one (show Kd.M (Kd.int .i64) _ _ _ (wrap64 ((wrap64 ((wrap64 (1 + t266)) * (wrap64 (2 + t267)))) * (wrap64 (2 + t268)))) [.int .i64 (wrap64 ((wrap64 ((wrap64 (1 + t266)) * (wrap64 (2 + t267)))) * (wrap64 (2 + t268))))] from rfl) (Reps.none _ _))))); intro v270 w10 ho11 hb hg_ hnew_; clear hg_ hnew_; (first | rw [← Ny269.out] at ho11 | (simp only [Int.reduceToNat] at ho11; rw [← Ny269.out] at ho11)); have n0_ := Aside0.mk (Kd.R_lower ho11 (below_size (by repeat (first | (with_reducible first | exact HB.out | apply below_alloc | apply pw_below_drewN | apply below_drew1) | exact HB.out)))); have n1_ := Aside0.mk (below_step (by repeat (first | (with_reducible first | exact HB.out | apply below_alloc | apply pw_below_drewN | apply below_drew1) | exact HB.out)) hb); clear HB; have HO271 := n0_; have HB := n1_; clear n0_ n1_; clear hb ho11; obtain ⟨Ao12, co12, eo12⟩ := Kd.R_slice HO271.out; subst eo12) | ((with_reducible refine gate_callee (f := 28) rfl ?_); refine goesL_ (some 36) rfl rfl Try.func28 (by kernel_rfl) rfl #[.slice Ao12 y269.length co12, .int .i64 365] rfl (by (try simp only [List.map_toArray, List.map_cons, List.map_nil]); first | done | rfl | (simp only [List.length_drop, List.length_take]; rfl)) ?_; (with_reducible refine (impl_RuleCalendar.calls k _ _ y269 365 t272 t273 t274 t277 _ ?side1 ?side2 A8.out).mono ?_); (case side1 => repeat (first | exact (Kd.R_reads' HO271.out).2.2 | (with_reducible refine Kd.C_alloc ?_ _) | (with_reducible refine Kd.C_drewN ?_ _) | (with_reducible refine Kd.C_drew ?_))); (case side2 => exact (Kd.R_reads' HO271.out).2.1); rintro e w13 ⟨v275, rfl, ho0, hb⟩; refine ⟨_, rfl, ?_⟩; have n0_ := Aside0.mk (Kd.R_elder' (by (with_reducible repeat (first | apply Kd.R_alloc | apply Kd.R_drewN | apply Kd.R_drew)); exact HO271.out) (Kd.R_base ho0) hb); have n1_ := Aside0.mk (Kd.R_lower (Kd.R_new' ho0 (Kd.R_lt (by (with_reducible repeat (first | apply Kd.R_alloc | apply Kd.R_drewN | apply Kd.R_drew)); exact HO271.out))) (below_size (by repeat (first | (with_reducible first | exact HB.out | apply below_alloc | apply pw_below_drewN | apply below_drew1) | exact HB.out)))); have n2_ := Aside0.mk (below_step (by repeat (first | (with_reducible first | exact HB.out | apply below_alloc | apply pw_below_drewN | apply below_drew1) | exact HB.out)) hb); clear HO271; clear HB; have HO271 := n0_; have HO276 := n1_; have HB := n2_; clear n0_ n1_ n2_; (try clear hb); (try clear hb2); (try clear hk); (try clear hi); (try clear ho0)) | ((with_reducible refine gate_dst (N := 8) rfl ?_); (try (refine gate_guard (by rfl) ?_; dsimp only)); refine box_event ?hg (N := 8) ?hd (cs := #[.int .i64 0, .int .i64 0, .slice none 0 0]) (t := 34) ?hr ?_; (case hd => rfl); (case hg => rfl); (case hr => first | (go_simp; done) | (go_simp; rfl)); intro gb278 hg w14 hbox hb; have n0_ := Aside0.mk (Kd.R_below (by (with_reducible repeat (first | apply Kd.R_alloc | apply Kd.R_drewN | apply Kd.R_drew)); exact HO271.out) hb); have n1_ := Aside0.mk (Kd.R_below (by (with_reducible repeat (first | apply Kd.R_alloc | apply Kd.R_drewN | apply Kd.R_drew)); exact HO276.out) hb); have n2_ := Aside0.mk (below_step (by repeat (first | (with_reducible first | exact HB.out | apply below_alloc | apply pw_below_drewN | apply below_drew1) | exact HB.out)) hb); have n3_ := Aside0.mk (hbox); have n4_ := Aside0.mk ((by rw [hg]; exact (below_size (by repeat (first | (with_reducible first | exact HB.out | apply below_alloc | apply pw_below_drewN | apply below_drew1) | exact HB.out))) : w.heap.size ≤ gb278)); have n5_ := Aside0.mk ((by rw [hg]; exact (below_size (by repeat (first | (with_reducible first | exact HB.out | apply below_alloc | apply pw_below_drewN | apply below_drew1) | exact HB.out))) : w.heap.size ≤ gb278)); clear HO271; clear HO276; clear HB; have HO271 := n0_; have HO276 := n1_; have HB := n2_; have BK278 := n3_; have GW278 := n4_; have GE278 := n5_; clear n0_ n1_ n2_ n3_ n4_ n5_; clear hb hbox hg; have hcz15_0 : w14.cell? ⟨gb278, 0, none⟩ = some (.int .i64 0) := (blk_cell BK278.out 0).trans rfl; have hcz15_1 : w14.cell? ⟨gb278, 1, none⟩ = some (.int .i64 0) := (blk_cell BK278.out 1).trans rfl; have hcz15_2 : w14.cell? ⟨gb278, 2, none⟩ = some (.slice none 0 0) := (blk_cell BK278.out 2).trans rfl; have hfz15_0 := blk_frozen BK278.out 0; have hfz15_1 := blk_frozen BK278.out 1; have hfz15_2 := blk_frozen BK278.out 2; obtain ⟨Ao16, co16, eo16⟩ := Kd.R_slice HO276.out; subst eo16))
    (try simp only [Act.put, List.setIfInBounds_toArray, List.set_cons_zero, List.set_cons_succ])
    go_cut [65] (fun v65 wc => ∃ (kq : Nat) (x65_8 : Bool), v65 = .bool x65_8 ∧ Aside0 (laws_FnRules.j0 kq l1 (wrap64 (1 + t266)) (wrap64 ((wrap64 (1 + t266)) * (wrap64 (2 + t267)))) (wrap64 ((wrap64 ((wrap64 (1 + t266)) * (wrap64 (2 + t267)))) * (wrap64 (2 + t268)))) x65_8 t272 t273 t274 = some r) ∧ Aside0 (kq ≤ k) ∧ Aside0 (Kd.R (Kd.int .i64) 2 wc w.heap.size (fun _ => True) (.slice Ao16 t274.length co16) t274) ∧ Aside0 (wc.heap[gb278]? = some (.cells #[.int .i64 t272, .int .i64 t273, (.slice Ao16 t274.length co16)] 34 (0, 0))) ∧ Aside0 (Below w.heap.size w wc))
    case first =>
      have H := HC9.out
      clear HC9
      by_cases c17 : t277 = true
      · subst c17
        have H1 : (if t272 = (wrap64 ((wrap64 ((wrap64 (1 + t266)) * (wrap64 (2 + t267)))) * (wrap64 (2 + t268)))) then ((impl_ValidCalendar.f k t272 t273 t274).bind fun t279 => (if t279 = true then (if (wrap64 (1 + t266)) = 0 then (none) else (if (wrap64 ((wrap64 (1 + t266)) * (wrap64 (2 + t267)))) = 0 then (none) else (laws_FnRules.j0 k l1 (wrap64 (1 + t266)) (wrap64 ((wrap64 (1 + t266)) * (wrap64 (2 + t267)))) (wrap64 ((wrap64 ((wrap64 (1 + t266)) * (wrap64 (2 + t267)))) * (wrap64 (2 + t268)))) ((t274.length : Int) != (wrap64 ((wrap64 ((wrap64 (Int.tdiv (wrap64 ((wrap64 ((wrap64 (1 + t266)) * (wrap64 (2 + t267)))) * (wrap64 (2 + t268)))) (wrap64 (1 + t266)))) - (wrap64 (Int.tdiv (wrap64 ((wrap64 ((wrap64 (1 + t266)) * (wrap64 (2 + t267)))) * (wrap64 (2 + t268)))) (wrap64 ((wrap64 (1 + t266)) * (wrap64 (2 + t267)))))))) + 1))) t272 t273 t274))) else (laws_FnRules.j0 k l1 (wrap64 (1 + t266)) (wrap64 ((wrap64 (1 + t266)) * (wrap64 (2 + t267)))) (wrap64 ((wrap64 ((wrap64 (1 + t266)) * (wrap64 (2 + t267)))) * (wrap64 (2 + t268)))) true t272 t273 t274))) else (laws_FnRules.j0 k l1 (wrap64 (1 + t266)) (wrap64 ((wrap64 (1 + t266)) * (wrap64 (2 + t267)))) (wrap64 ((wrap64 ((wrap64 (1 + t266)) * (wrap64 (2 + t267)))) * (wrap64 (2 + t268)))) true t272 t273 t274)) = some r := by rw [if_pos rfl] at H; exact H
        clear H
        have H := H1
        clear H1
        by_cases c18 : t272 = (wrap64 ((wrap64 ((wrap64 (1 + t266)) * (wrap64 (2 + t267)))) * (wrap64 (2 + t268))))
        · rw [if_pos c18] at H
          have c18b0 : (t272 == (wrap64 ((wrap64 ((wrap64 (1 + t266)) * (wrap64 (2 + t267)))) * (wrap64 (2 + t268))))) = true := beq_iff_eq.mpr c18
          have c18b1 : (t272 != (wrap64 ((wrap64 ((wrap64 (1 + t266)) * (wrap64 (2 + t267)))) * (wrap64 (2 + t268))))) = false := bne_eq_false_iff_eq.mpr c18
          clear c18
          (first | rw [c18b0] | (simp only [i64_w, i32_w]; rw [c18b0]) | skip)
          replace H := Option.bind_eq_some_iff.mp H
          obtain ⟨t279, A190, H⟩ := H
          replace H : (if t279 = true then (if (wrap64 (1 + t266)) = 0 then (none) else (if (wrap64 ((wrap64 (1 + t266)) * (wrap64 (2 + t267)))) = 0 then (none) else (laws_FnRules.j0 k l1 (wrap64 (1 + t266)) (wrap64 ((wrap64 (1 + t266)) * (wrap64 (2 + t267)))) (wrap64 ((wrap64 ((wrap64 (1 + t266)) * (wrap64 (2 + t267)))) * (wrap64 (2 + t268)))) ((t274.length : Int) != (wrap64 ((wrap64 ((wrap64 (Int.tdiv (wrap64 ((wrap64 ((wrap64 (1 + t266)) * (wrap64 (2 + t267)))) * (wrap64 (2 + t268)))) (wrap64 (1 + t266)))) - (wrap64 (Int.tdiv (wrap64 ((wrap64 ((wrap64 (1 + t266)) * (wrap64 (2 + t267)))) * (wrap64 (2 + t268)))) (wrap64 ((wrap64 (1 + t266)) * (wrap64 (2 + t267)))))))) + 1))) t272 t273 t274))) else (laws_FnRules.j0 k l1 (wrap64 (1 + t266)) (wrap64 ((wrap64 (1 + t266)) * (wrap64 (2 + t267)))) (wrap64 ((wrap64 ((wrap64 (1 + t266)) * (wrap64 (2 + t267)))) * (wrap64 (2 + t268)))) true t272 t273 t274)) = some r := H
          have A19 := Aside0.mk A190
          clear A190
          by_cases c20 : t279 = true
          · subst c20
            have H1 : (if (wrap64 (1 + t266)) = 0 then (none) else (if (wrap64 ((wrap64 (1 + t266)) * (wrap64 (2 + t267)))) = 0 then (none) else (laws_FnRules.j0 k l1 (wrap64 (1 + t266)) (wrap64 ((wrap64 (1 + t266)) * (wrap64 (2 + t267)))) (wrap64 ((wrap64 ((wrap64 (1 + t266)) * (wrap64 (2 + t267)))) * (wrap64 (2 + t268)))) ((t274.length : Int) != (wrap64 ((wrap64 ((wrap64 (Int.tdiv (wrap64 ((wrap64 ((wrap64 (1 + t266)) * (wrap64 (2 + t267)))) * (wrap64 (2 + t268)))) (wrap64 (1 + t266)))) - (wrap64 (Int.tdiv (wrap64 ((wrap64 ((wrap64 (1 + t266)) * (wrap64 (2 + t267)))) * (wrap64 (2 + t268)))) (wrap64 ((wrap64 (1 + t266)) * (wrap64 (2 + t267)))))))) + 1))) t272 t273 t274))) = some r := by rw [if_pos rfl] at H; exact H
            clear H
            have H := H1
            clear H1
            by_cases c21 : (wrap64 (1 + t266)) = 0
            · rw [if_pos c21] at H
              exact absurd H (by simp)
            · rw [if_neg c21] at H
              have c21b0 : ((wrap64 (1 + t266)) == 0) = false := beq_eq_false_iff_ne.mpr c21
              have c21b1 : ((wrap64 (1 + t266)) != 0) = true := bne_iff_ne.mpr c21
              by_cases c22 : (wrap64 ((wrap64 (1 + t266)) * (wrap64 (2 + t267)))) = 0
              · rw [if_pos c22] at H
                exact absurd H (by simp)
              · rw [if_neg c22] at H
                have c22b0 : ((wrap64 ((wrap64 (1 + t266)) * (wrap64 (2 + t267)))) == 0) = false := beq_eq_false_iff_ne.mpr c22
                have c22b1 : ((wrap64 ((wrap64 (1 + t266)) * (wrap64 (2 + t267)))) != 0) = true := bne_iff_ne.mpr c22
                have H' := Aside0.mk H
                clear H
                try go_wp2
                have n0_ : Aside0 (Kd.R (Kd.int .i64) 2 (((w14.setCell ⟨gb278, 0, none⟩ (.int .i64 t272)).setCell ⟨gb278, 1, none⟩ (.int .i64 t273)).setCell ⟨gb278, 2, none⟩ (.slice Ao16 t274.length co16)) w.heap.size (fun k_ => some k_ ≠ (.slice Ao16 t274.length co16 : Value).ownBlock) (.slice Ao12 y269.length co12) y269) := ⟨by (with_reducible repeat (first | apply Kd.R_alloc | apply Kd.R_drewN | apply Kd.R_drew)); exact Kd.R_mono (Kd.R_far (p := ⟨gb278, 2, none⟩) (Kd.R_far (p := ⟨gb278, 1, none⟩) (Kd.R_far (p := ⟨gb278, 0, none⟩) (Kd.R_types HO271.out BK278.out (by decide)) (fun _ hk => hk.2) (.int .i64 t272)) (fun _ hk => hk.2) (.int .i64 t273)) (fun _ hk => hk.2) (.slice Ao16 t274.length co16)) (fun _ hk => hk.1.2)⟩
                have n1_ : Aside0 (Kd.R (Kd.int .i64) 2 (((w14.setCell ⟨gb278, 0, none⟩ (.int .i64 t272)).setCell ⟨gb278, 1, none⟩ (.int .i64 t273)).setCell ⟨gb278, 2, none⟩ (.slice Ao16 t274.length co16)) w.heap.size (fun k_ => some k_ ≠ (.slice Ao12 y269.length co12 : Value).ownBlock) (.slice Ao16 t274.length co16) t274) := ⟨by (with_reducible repeat (first | apply Kd.R_alloc | apply Kd.R_drewN | apply Kd.R_drew)); exact Kd.R_mono (Kd.R_far (p := ⟨gb278, 2, none⟩) (Kd.R_far (p := ⟨gb278, 1, none⟩) (Kd.R_far (p := ⟨gb278, 0, none⟩) (Kd.R_types HO276.out BK278.out (by decide)) (fun _ hk => hk.2) (.int .i64 t272)) (fun _ hk => hk.2) (.int .i64 t273)) (fun _ hk => hk.2) (.slice Ao16 t274.length co16)) (fun _ hk => hk.1.2)⟩
                have n2_ : Aside0 ((((w14.setCell ⟨gb278, 0, none⟩ (.int .i64 t272)).setCell ⟨gb278, 1, none⟩ (.int .i64 t273)).setCell ⟨gb278, 2, none⟩ (.slice Ao16 t274.length co16)).heap[gb278]? = some (.cells #[.int .i64 t272, .int .i64 t273, .slice Ao16 t274.length co16] 34 (0, 0))) := ⟨by (with_reducible repeat (first | refine blk_drewN ?_ _ | refine blk_drew ?_ | refine blk_alloc ?_ _)); refine blk_put (cs := #[.int .i64 t272, .int .i64 t273, .slice none 0 0]) ?_ 2 _ rfl; (with_reducible repeat (first | refine blk_drewN ?_ _ | refine blk_drew ?_ | refine blk_alloc ?_ _)); refine blk_put (cs := #[.int .i64 t272, .int .i64 0, .slice none 0 0]) ?_ 1 _ rfl; (with_reducible repeat (first | refine blk_drewN ?_ _ | refine blk_drew ?_ | refine blk_alloc ?_ _)); refine blk_put (cs := #[.int .i64 0, .int .i64 0, .slice none 0 0]) ?_ 0 _ rfl; (with_reducible repeat (first | refine blk_drewN ?_ _ | refine blk_drew ?_ | refine blk_alloc ?_ _)); exact BK278.out⟩
                have n3_ : Aside0 (Below w.heap.size w (((w14.setCell ⟨gb278, 0, none⟩ (.int .i64 t272)).setCell ⟨gb278, 1, none⟩ (.int .i64 t273)).setCell ⟨gb278, 2, none⟩ (.slice Ao16 t274.length co16))) := ⟨by repeat (first | (with_reducible first | exact HB.out | apply below_alloc | apply pw_below_drewN | apply below_drew1 | refine below_set ?_ GE278.out) | exact HB.out)⟩
                (try clear HO271)
                (try clear HO276)
                (try clear BK278)
                (try clear HB)
                generalize (((w14.setCell ⟨gb278, 0, none⟩ (.int .i64 t272)).setCell ⟨gb278, 1, none⟩ (.int .i64 t273)).setCell ⟨gb278, 2, none⟩ (.slice Ao16 t274.length co16)) = w23 at n0_ n1_ n2_ n3_ ⊢
                have HO271 := n0_
                have HO276 := n1_
                have BK278 := n2_
                have HB := n3_
                clear n0_ n1_ n2_ n3_
                have n0_ := Aside0.mk (Kd.R_drew HO271.out)
                have n1_ := Aside0.mk (Kd.R_drew HO276.out)
                have n2_ := Aside0.mk (blk_drew BK278.out)
                have n3_ := Aside0.mk (below_drew1 HB.out)
                clear HO271
                clear HO276
                clear BK278
                clear HB
                have HO271 := n0_
                have HO276 := n1_
                have BK278 := n2_
                have HB := n3_
                clear n0_ n1_ n2_ n3_
                refine start_ (n := 27) (S := fun w' => w'.cell? ⟨gb278, 0, none⟩ = some (.int .i64 t272) ∧ w'.cell? ⟨gb278, 1, none⟩ = some (.int .i64 t273) ∧ w'.cell? ⟨gb278, 2, none⟩ = some (.slice Ao16 t274.length co16)) (ds := []) #[false, false, false, false, false, false, false, false, false, false, false, false, false, false, false, false, false, false, false, false, false, false, false, false, false, false, false] (by kernel_rfl) rfl rfl ⟨(blk_cell BK278.out 0).trans rfl, (blk_cell BK278.out 1).trans rfl, (blk_cell BK278.out 2).trans rfl⟩ (fun hHeld => ?_); refine with_tabW laws_FnRules.tab7 laws_FnRules.bits7 (fun HT_ HW_ => ?_)
                generalize w23.drew = w24 at HO271 HO276 BK278 HB hHeld ⊢
                refine pure_ (i := 0) (N := some 39) (v := ?_) (a' := ?_) #[true, false, false, false, false, false, false, false, false, false, false, false, false, false, false, false, false, false, false, false, false, false, false, false, false, false, false] rfl rfl (any_of HT_.out (by kernel_rfl)) (fun _ _ _ h => h) (Or.inl ⟨by rfl, ?_⟩) ?_ ?_
                rotate_left
                · intro w'
                  go_simp
                  with_reducible rfl
                rotate_left
                · simp only [Act.put, List.setIfInBounds_toArray, List.set_cons_zero, List.set_cons_succ, i64_w, i32_w]
                  rfl
                refine pure_ (i := 1) (N := some 40) (v := ?_) (a' := ?_) #[true, true, false, false, false, false, false, false, false, false, false, false, false, false, false, false, false, false, false, false, false, false, false, false, false, false, false] rfl rfl (any_of HT_.out (by kernel_rfl)) (fun _ _ _ h => h) (Or.inl ⟨by rfl, ?_⟩) ?_ ?_
                rotate_left
                · intro w'
                  go_simp
                  with_reducible rfl
                rotate_left
                · simp only [Act.put, List.setIfInBounds_toArray, List.set_cons_zero, List.set_cons_succ, i64_w, i32_w]
                  rfl
                refine pure_ (i := 2) (N := some 41) (v := ?_) (a' := ?_) #[true, true, true, false, false, false, false, false, false, false, false, false, false, false, false, false, false, false, false, false, false, false, false, false, false, false, false] rfl rfl (any_of HT_.out (by kernel_rfl)) (fun _ _ _ h => h) (Or.inl ⟨by rfl, ?_⟩) ?_ ?_
                rotate_left
                · intro w'
                  go_simp
                  with_reducible rfl
                rotate_left
                · simp only [Act.put, List.setIfInBounds_toArray, List.set_cons_zero, List.set_cons_succ, i64_w, i32_w]
                  rfl
                refine pure_ (i := 3) (N := some 42) (v := ?_) (a' := ?_) #[true, true, true, true, false, false, false, false, false, false, false, false, false, false, false, false, false, false, false, false, false, false, false, false, false, false, false] rfl rfl (any_of HT_.out (by kernel_rfl)) (fun _ _ _ h => h) (Or.inl ⟨by rfl, ?_⟩) ?_ ?_
                rotate_left
                · intro w'
                  go_simp
                  with_reducible rfl
                rotate_left
                · simp only [Act.put, List.setIfInBounds_toArray, List.set_cons_zero, List.set_cons_succ, i64_w, i32_w]
                  rfl
                refine pure_ (i := 5) (N := some 44) (v := ?_) (a' := ?_) #[true, true, true, true, false, true, false, false, false, false, false, false, false, false, false, false, false, false, false, false, false, false, false, false, false, false, false] rfl rfl (any_of HT_.out (by kernel_rfl)) (fun _ _ _ h => h) (Or.inl ⟨by rfl, ?_⟩) ?_ ?_
                rotate_left
                · intro w'
                  go_simp
                  with_reducible rfl
                rotate_left
                · simp only [Act.put, List.setIfInBounds_toArray, List.set_cons_zero, List.set_cons_succ, i64_w, i32_w]
                  rfl
                refine take_ (i := 4) (N := some 43) (v := ?_) (a' := ?_) #[true, true, true, true, true, true, false, false, false, false, false, false, false, false, false, false, false, false, false, false, false, false, false, false, false, false, false] rfl rfl (take_ofW HT_.out HW_.out (by kernel_rfl)) (fun _ _ _ h => h) (Or.inl ⟨by rfl, ?_⟩) hHeld ?_ ?_
                rotate_left
                · rintro w' ⟨s0, s1, s2⟩
                  go_simp
                  with_reducible rfl
                rotate_left
                · simp only [Act.put, List.setIfInBounds_toArray, List.set_cons_zero, List.set_cons_succ, i64_w, i32_w]
                  rfl
                refine pure_ (i := 6) (N := some 45) (v := ?_) (a' := ?_) #[true, true, true, true, true, true, true, false, false, false, false, false, false, false, false, false, false, false, false, false, false, false, false, false, false, false, false] rfl rfl (any_of HT_.out (by kernel_rfl)) (fun _ _ _ h => h) (Or.inl ⟨by rfl, ?_⟩) ?_ ?_
                rotate_left
                · intro w'
                  go_simp
                  with_reducible rfl
                rotate_left
                · simp only [Act.put, List.setIfInBounds_toArray, List.set_cons_zero, List.set_cons_succ, i64_w, i32_w]
                  rfl
                refine pure_ (i := 7) (N := some 46) (v := ?_) (a' := ?_) #[true, true, true, true, true, true, true, true, false, false, false, false, false, false, false, false, false, false, false, false, false, false, false, false, false, false, false] rfl rfl (any_of HT_.out (by kernel_rfl)) (fun _ _ _ h => h) (Or.inl ⟨by rfl, ?_⟩) ?_ ?_
                rotate_left
                · intro w'
                  go_simp
                  with_reducible rfl
                rotate_left
                · simp only [Act.put, List.setIfInBounds_toArray, List.set_cons_zero, List.set_cons_succ, i64_w, i32_w]
                  rfl
                refine pure_ (i := 8) (N := some 47) (v := ?_) (a' := ?_) #[true, true, true, true, true, true, true, true, true, false, false, false, false, false, false, false, false, false, false, false, false, false, false, false, false, false, false] rfl rfl (any_of HT_.out (by kernel_rfl)) (fun _ _ _ h => h) (Or.inl ⟨by rfl, ?_⟩) ?_ ?_
                rotate_left
                · intro w'
                  go_simp
                  with_reducible rfl
                rotate_left
                · simp only [Act.put, List.setIfInBounds_toArray, List.set_cons_zero, List.set_cons_succ, i64_w, i32_w]
                  rfl
                refine take_ (i := 9) (N := some 48) (v := ?_) (a' := ?_) #[true, true, true, true, true, true, true, true, true, true, false, false, false, false, false, false, false, false, false, false, false, false, false, false, false, false, false] rfl rfl (take_ofW HT_.out HW_.out (by kernel_rfl)) (fun _ _ _ h => h) (Or.inl ⟨by rfl, ?_⟩) hHeld ?_ ?_
                rotate_left
                · rintro w' ⟨s0, s1, s2⟩
                  go_simp
                  with_reducible rfl
                rotate_left
                · simp only [Act.put, List.setIfInBounds_toArray, List.set_cons_zero, List.set_cons_succ, i64_w, i32_w]
                  rfl
                refine one_ (i := 10) (N := some 49) #[true, true, true, true, true, true, true, true, true, true, true, false, false, false, false, false, false, false, false, false, false, false, false, false, false, false, false] rfl rfl (one_of HT_.out (by kernel_rfl)) (by decide) (fun K hK => ?_)
                refine goes_ Try.func23 (by kernel_rfl) rfl #[.agg #[.int .i64 t272, .int .i64 t273, .slice Ao16 t274.length co16]] (by rfl) rfl rfl (by (try simp only [List.map_toArray, List.map_cons, List.map_nil]); first | done | rfl | (simp only [List.length_drop, List.length_take]; rfl)) ?_
                with_reducible refine (impl_ValidCalendar.calls k t272 t273 _ _ t274 true _ ?side1 ?side2 A19.out).mono ?_
                (case side1 => repeat (first | exact (Kd.R_reads' HO276.out).2.2 | (with_reducible refine Kd.C_alloc ?_ _) | (with_reducible refine Kd.C_drewN ?_ _) | (with_reducible refine Kd.C_drew ?_)))
                (case side2 => exact (Kd.R_reads' HO276.out).2.1)
                rintro e w25 ⟨rfl, hb⟩
                refine ⟨_, rfl, ?_⟩
                have n0_ := Aside0.mk (Kd.R_below (by (with_reducible repeat (first | apply Kd.R_alloc | apply Kd.R_drewN | apply Kd.R_drew)); exact HO271.out) hb)
                have n1_ := Aside0.mk (Kd.R_below (by (with_reducible repeat (first | apply Kd.R_alloc | apply Kd.R_drewN | apply Kd.R_drew)); exact HO276.out) hb)
                have n2_ := Aside0.mk (blk_below (g := gb278) (o := .cells #[.int .i64 t272, .int .i64 t273, .slice Ao16 t274.length co16] 34 (0, 0)) (by (with_reducible repeat (first | refine blk_drewN ?_ _ | refine blk_drew ?_ | refine blk_alloc ?_ _)); exact BK278.out) hb)
                have n3_ := Aside0.mk (below_step (by repeat (first | (with_reducible first | exact HB.out | apply below_alloc | apply pw_below_drewN | apply below_drew1 | refine below_set ?_ GE278.out) | exact HB.out)) hb)
                clear HO271
                clear HO276
                clear BK278
                clear HB
                have HO271 := n0_
                have HO276 := n1_
                have BK278 := n2_
                have HB := n3_
                clear n0_ n1_ n2_ n3_
                (try clear hb)
                (try clear hb2)
                (try clear hk)
                (try clear hi)
                refine hK.out _ _ ⟨(blk_cell BK278.out 0).trans rfl, (blk_cell BK278.out 1).trans rfl, (blk_cell BK278.out 2).trans rfl⟩ (fun hHeld => ?_)
                clear hK K
                refine norm_ (a' := ?_) ?_ ?_
                rotate_left
                · show Act.put _ (some 49) _ = _
                  simp only [Act.put, List.setIfInBounds_toArray, List.set_cons_zero, List.set_cons_succ, i64_w, i32_w]
                  rfl
                refine pure_ (i := 11) (N := some 50) (v := ?_) (a' := ?_) #[true, true, true, true, true, true, true, true, true, true, true, true, false, false, false, false, false, false, false, false, false, false, false, false, false, false, false] rfl rfl (any_of HT_.out (by kernel_rfl)) (fun _ _ _ h => h) (Or.inl ⟨by rfl, ?_⟩) ?_ ?_
                rotate_left
                · intro w'
                  go_simp
                  with_reducible rfl
                rotate_left
                · simp only [Act.put, List.setIfInBounds_toArray, List.set_cons_zero, List.set_cons_succ, i64_w, i32_w]
                  rfl
                refine pure_ (i := 12) (N := some 51) (v := ?_) (a' := ?_) #[true, true, true, true, true, true, true, true, true, true, true, true, true, false, false, false, false, false, false, false, false, false, false, false, false, false, false] rfl rfl (any_of HT_.out (by kernel_rfl)) (fun _ _ _ h => h) (Or.inl ⟨by rfl, ?_⟩) ?_ ?_
                rotate_left
                · intro w'
                  go_simp
                  with_reducible rfl
                rotate_left
                · simp only [Act.put, List.setIfInBounds_toArray, List.set_cons_zero, List.set_cons_succ, i64_w, i32_w]
                  rfl
                refine pure_ (i := 13) (N := some 52) (v := ?_) (a' := ?_) #[true, true, true, true, true, true, true, true, true, true, true, true, true, true, false, false, false, false, false, false, false, false, false, false, false, false, false] rfl rfl (any_of HT_.out (by kernel_rfl)) (fun _ _ _ h => h) (Or.inl ⟨by rfl, ?_⟩) ?_ ?_
                rotate_left
                · intro w'
                  go_simp
                  with_reducible rfl
                rotate_left
                · simp only [Act.put, List.setIfInBounds_toArray, List.set_cons_zero, List.set_cons_succ, i64_w, i32_w]
                  rfl
                refine pure_ (i := 14) (N := some 53) (v := ?_) (a' := ?_) #[true, true, true, true, true, true, true, true, true, true, true, true, true, true, true, false, false, false, false, false, false, false, false, false, false, false, false] rfl rfl (any_of HT_.out (by kernel_rfl)) (fun _ _ _ h => h) (Or.inl ⟨by rfl, ?_⟩) ?_ ?_
                rotate_left
                · intro w'
                  go_simp
                  with_reducible rfl
                rotate_left
                · simp only [Act.put, List.setIfInBounds_toArray, List.set_cons_zero, List.set_cons_succ, i64_w, i32_w]
                  rfl
                refine pure_ (i := 17) (N := some 56) (v := ?_) (a' := ?_) #[true, true, true, true, true, true, true, true, true, true, true, true, true, true, true, false, false, true, false, false, false, false, false, false, false, false, false] rfl rfl (any_of HT_.out (by kernel_rfl)) (fun _ _ _ h => h) (Or.inl ⟨by rfl, ?_⟩) ?_ ?_
                rotate_left
                · intro w'
                  go_simp
                  with_reducible rfl
                rotate_left
                · simp only [Act.put, List.setIfInBounds_toArray, List.set_cons_zero, List.set_cons_succ, i64_w, i32_w]
                  rfl
                refine pure_ (i := 18) (N := some 57) (v := ?_) (a' := ?_) #[true, true, true, true, true, true, true, true, true, true, true, true, true, true, true, false, false, true, true, false, false, false, false, false, false, false, false] rfl rfl (any_of HT_.out (by kernel_rfl)) (fun _ _ _ h => h) (Or.inl ⟨by rfl, ?_⟩) ?_ ?_
                rotate_left
                · intro w'
                  go_simp
                  with_reducible rfl
                rotate_left
                · simp only [Act.put, List.setIfInBounds_toArray, List.set_cons_zero, List.set_cons_succ, i64_w, i32_w]
                  rfl
                refine pure_ (i := 19) (N := some 58) (v := ?_) (a' := ?_) #[true, true, true, true, true, true, true, true, true, true, true, true, true, true, true, false, false, true, true, true, false, false, false, false, false, false, false] rfl rfl (any_of HT_.out (by kernel_rfl)) (fun _ _ _ h => h) (Or.inl ⟨by rfl, ?_⟩) ?_ ?_
                rotate_left
                · intro w'
                  go_simp
                  with_reducible rfl
                rotate_left
                · simp only [Act.put, List.setIfInBounds_toArray, List.set_cons_zero, List.set_cons_succ, i64_w, i32_w]
                  rfl
                refine pure_ (i := 20) (N := some 59) (v := ?_) (a' := ?_) #[true, true, true, true, true, true, true, true, true, true, true, true, true, true, true, false, false, true, true, true, true, false, false, false, false, false, false] rfl rfl (any_of HT_.out (by kernel_rfl)) (fun _ _ _ h => h) (Or.inl ⟨by rfl, ?_⟩) ?_ ?_
                rotate_left
                · intro w'
                  go_simp
                  with_reducible rfl
                rotate_left
                · simp only [Act.put, List.setIfInBounds_toArray, List.set_cons_zero, List.set_cons_succ, i64_w, i32_w]
                  rfl
                refine pure_ (i := 21) (N := some 60) (v := ?_) (a' := ?_) #[true, true, true, true, true, true, true, true, true, true, true, true, true, true, true, false, false, true, true, true, true, true, false, false, false, false, false] rfl rfl (any_of HT_.out (by kernel_rfl)) (fun _ _ _ h => h) (Or.inl ⟨by rfl, ?_⟩) ?_ ?_
                rotate_left
                · intro w'
                  go_simp
                  with_reducible rfl
                rotate_left
                · simp only [Act.put, List.setIfInBounds_toArray, List.set_cons_zero, List.set_cons_succ, i64_w, i32_w]
                  rfl
                refine pure_ (i := 22) (N := some 61) (v := ?_) (a' := ?_) #[true, true, true, true, true, true, true, true, true, true, true, true, true, true, true, false, false, true, true, true, true, true, true, false, false, false, false] rfl rfl (any_of HT_.out (by kernel_rfl)) (fun _ _ _ h => h) (Or.inl ⟨by rfl, ?_⟩) ?_ ?_
                rotate_left
                · intro w'
                  go_simp
                  with_reducible rfl
                rotate_left
                · simp only [Act.put, List.setIfInBounds_toArray, List.set_cons_zero, List.set_cons_succ, i64_w, i32_w]
                  rfl
                refine pure_ (i := 23) (N := some 62) (v := ?_) (a' := ?_) #[true, true, true, true, true, true, true, true, true, true, true, true, true, true, true, false, false, true, true, true, true, true, true, true, false, false, false] rfl rfl (any_of HT_.out (by kernel_rfl)) (fun _ _ _ h => h) (Or.inl ⟨by rfl, ?_⟩) ?_ ?_
                rotate_left
                · intro w'
                  go_simp
                  with_reducible rfl
                rotate_left
                · simp only [Act.put, List.setIfInBounds_toArray, List.set_cons_zero, List.set_cons_succ, i64_w, i32_w]
                  rfl
                refine pure_ (i := 24) (N := some 63) (v := ?_) (a' := ?_) #[true, true, true, true, true, true, true, true, true, true, true, true, true, true, true, false, false, true, true, true, true, true, true, true, true, false, false] rfl rfl (any_of HT_.out (by kernel_rfl)) (fun _ _ _ h => h) (Or.inl ⟨by rfl, ?_⟩) ?_ ?_
                rotate_left
                · intro w'
                  go_simp
                  with_reducible rfl
                rotate_left
                · simp only [Act.put, List.setIfInBounds_toArray, List.set_cons_zero, List.set_cons_succ, i64_w, i32_w]
                  rfl
                refine take_ (i := 15) (N := some 54) (v := ?_) (a' := ?_) #[true, true, true, true, true, true, true, true, true, true, true, true, true, true, true, true, false, true, true, true, true, true, true, true, true, false, false] rfl rfl (take_ofW HT_.out HW_.out (by kernel_rfl)) (fun _ _ _ h => h) (Or.inl ⟨by rfl, ?_⟩) hHeld ?_ ?_
                rotate_left
                · rintro w' ⟨s0, s1, s2⟩
                  go_simp
                  with_reducible rfl
                rotate_left
                · simp only [Act.put, List.setIfInBounds_toArray, List.set_cons_zero, List.set_cons_succ, i64_w, i32_w]
                  rfl
                refine pure_ (i := 16) (N := some 55) (v := ?_) (a' := ?_) #[true, true, true, true, true, true, true, true, true, true, true, true, true, true, true, true, true, true, true, true, true, true, true, true, true, false, false] rfl rfl (any_of HT_.out (by kernel_rfl)) (fun _ _ _ h => h) (Or.inl ⟨by rfl, ?_⟩) ?_ ?_
                rotate_left
                · intro w'
                  go_simp
                  with_reducible rfl
                rotate_left
                · simp only [Act.put, List.setIfInBounds_toArray, List.set_cons_zero, List.set_cons_succ, i64_w, i32_w]
                  rfl
                refine pure_ (i := 25) (N := some 64) (v := ?_) (a' := ?_) #[true, true, true, true, true, true, true, true, true, true, true, true, true, true, true, true, true, true, true, true, true, true, true, true, true, true, false] rfl rfl (any_of HT_.out (by kernel_rfl)) (fun _ _ _ h => h) (Or.inl ⟨by rfl, ?_⟩) ?_ ?_
                rotate_left
                · intro w'
                  go_simp
                  with_reducible rfl
                rotate_left
                · simp only [Act.put, List.setIfInBounds_toArray, List.set_cons_zero, List.set_cons_succ, i64_w, i32_w]
                  rfl
                refine pure_ (i := 26) (N := some 65) (v := ?_) (a' := ?_) #[true, true, true, true, true, true, true, true, true, true, true, true, true, true, true, true, true, true, true, true, true, true, true, true, true, true, true] rfl rfl (any_of HT_.out (by kernel_rfl)) (fun _ _ _ h => h) (Or.inl ⟨by rfl, ?_⟩) ?_ ?_
                rotate_left
                · intro w'
                  go_simp
                  with_reducible rfl
                rotate_left
                · simp only [Act.put, List.setIfInBounds_toArray, List.set_cons_zero, List.set_cons_succ, i64_w, i32_w]
                  rfl
                refine done_ (done_of HT_.out (by kernel_rfl)) ?_
                try go_wp2
                go_meet
                case rel => exact ⟨_, (((t274.length : Int) != (wrap64 ((wrap64 ((wrap64 (Int.tdiv (wrap64 ((wrap64 ((wrap64 (1 + t266)) * (wrap64 (2 + t267)))) * (wrap64 (2 + t268)))) (wrap64 (1 + t266)))) - (wrap64 (Int.tdiv (wrap64 ((wrap64 ((wrap64 (1 + t266)) * (wrap64 (2 + t267)))) * (wrap64 (2 + t268)))) (wrap64 ((wrap64 (1 + t266)) * (wrap64 (2 + t267)))))))) + 1)))), (by first | rfl | (simp; done) | (simp [*]; done)), H', ⟨by first | omega | exact Nat.le_refl _⟩, ⟨by (with_reducible repeat (first | apply Kd.R_alloc | apply Kd.R_drewN | apply Kd.R_drew)); exact Kd.R_mono HO276.out (fun _ hk => trivial)⟩, ⟨by (with_reducible repeat (first | refine blk_drewN ?_ _ | refine blk_drew ?_ | refine blk_alloc ?_ _)); exact BK278.out⟩, ⟨by repeat (first | (with_reducible first | exact HB.out | apply below_alloc | apply pw_below_drewN | apply below_drew1 | refine below_set ?_ GE278.out) | exact HB.out)⟩⟩
          · replace c20 := Bool.eq_false_iff.mpr c20
            subst c20
            have H1 : (laws_FnRules.j0 k l1 (wrap64 (1 + t266)) (wrap64 ((wrap64 (1 + t266)) * (wrap64 (2 + t267)))) (wrap64 ((wrap64 ((wrap64 (1 + t266)) * (wrap64 (2 + t267)))) * (wrap64 (2 + t268)))) true t272 t273 t274) = some r := by rw [if_neg (show ¬ (false = true) by decide)] at H; exact H
            clear H
            have H := H1
            clear H1
            have H' := Aside0.mk H
            clear H
            try go_wp2
            have n0_ : Aside0 (Kd.R (Kd.int .i64) 2 (((w14.setCell ⟨gb278, 0, none⟩ (.int .i64 t272)).setCell ⟨gb278, 1, none⟩ (.int .i64 t273)).setCell ⟨gb278, 2, none⟩ (.slice Ao16 t274.length co16)) w.heap.size (fun k_ => some k_ ≠ (.slice Ao16 t274.length co16 : Value).ownBlock) (.slice Ao12 y269.length co12) y269) := ⟨by (with_reducible repeat (first | apply Kd.R_alloc | apply Kd.R_drewN | apply Kd.R_drew)); exact Kd.R_mono (Kd.R_far (p := ⟨gb278, 2, none⟩) (Kd.R_far (p := ⟨gb278, 1, none⟩) (Kd.R_far (p := ⟨gb278, 0, none⟩) (Kd.R_types HO271.out BK278.out (by decide)) (fun _ hk => hk.2) (.int .i64 t272)) (fun _ hk => hk.2) (.int .i64 t273)) (fun _ hk => hk.2) (.slice Ao16 t274.length co16)) (fun _ hk => hk.1.2)⟩
            have n1_ : Aside0 (Kd.R (Kd.int .i64) 2 (((w14.setCell ⟨gb278, 0, none⟩ (.int .i64 t272)).setCell ⟨gb278, 1, none⟩ (.int .i64 t273)).setCell ⟨gb278, 2, none⟩ (.slice Ao16 t274.length co16)) w.heap.size (fun k_ => some k_ ≠ (.slice Ao12 y269.length co12 : Value).ownBlock) (.slice Ao16 t274.length co16) t274) := ⟨by (with_reducible repeat (first | apply Kd.R_alloc | apply Kd.R_drewN | apply Kd.R_drew)); exact Kd.R_mono (Kd.R_far (p := ⟨gb278, 2, none⟩) (Kd.R_far (p := ⟨gb278, 1, none⟩) (Kd.R_far (p := ⟨gb278, 0, none⟩) (Kd.R_types HO276.out BK278.out (by decide)) (fun _ hk => hk.2) (.int .i64 t272)) (fun _ hk => hk.2) (.int .i64 t273)) (fun _ hk => hk.2) (.slice Ao16 t274.length co16)) (fun _ hk => hk.1.2)⟩
            have n2_ : Aside0 ((((w14.setCell ⟨gb278, 0, none⟩ (.int .i64 t272)).setCell ⟨gb278, 1, none⟩ (.int .i64 t273)).setCell ⟨gb278, 2, none⟩ (.slice Ao16 t274.length co16)).heap[gb278]? = some (.cells #[.int .i64 t272, .int .i64 t273, .slice Ao16 t274.length co16] 34 (0, 0))) := ⟨by (with_reducible repeat (first | refine blk_drewN ?_ _ | refine blk_drew ?_ | refine blk_alloc ?_ _)); refine blk_put (cs := #[.int .i64 t272, .int .i64 t273, .slice none 0 0]) ?_ 2 _ rfl; (with_reducible repeat (first | refine blk_drewN ?_ _ | refine blk_drew ?_ | refine blk_alloc ?_ _)); refine blk_put (cs := #[.int .i64 t272, .int .i64 0, .slice none 0 0]) ?_ 1 _ rfl; (with_reducible repeat (first | refine blk_drewN ?_ _ | refine blk_drew ?_ | refine blk_alloc ?_ _)); refine blk_put (cs := #[.int .i64 0, .int .i64 0, .slice none 0 0]) ?_ 0 _ rfl; (with_reducible repeat (first | refine blk_drewN ?_ _ | refine blk_drew ?_ | refine blk_alloc ?_ _)); exact BK278.out⟩
            have n3_ : Aside0 (Below w.heap.size w (((w14.setCell ⟨gb278, 0, none⟩ (.int .i64 t272)).setCell ⟨gb278, 1, none⟩ (.int .i64 t273)).setCell ⟨gb278, 2, none⟩ (.slice Ao16 t274.length co16))) := ⟨by repeat (first | (with_reducible first | exact HB.out | apply below_alloc | apply pw_below_drewN | apply below_drew1 | refine below_set ?_ GE278.out) | exact HB.out)⟩
            (try clear HO271)
            (try clear HO276)
            (try clear BK278)
            (try clear HB)
            generalize (((w14.setCell ⟨gb278, 0, none⟩ (.int .i64 t272)).setCell ⟨gb278, 1, none⟩ (.int .i64 t273)).setCell ⟨gb278, 2, none⟩ (.slice Ao16 t274.length co16)) = w26 at n0_ n1_ n2_ n3_ ⊢
            have HO271 := n0_
            have HO276 := n1_
            have BK278 := n2_
            have HB := n3_
            clear n0_ n1_ n2_ n3_
            have n0_ := Aside0.mk (Kd.R_drew HO271.out)
            have n1_ := Aside0.mk (Kd.R_drew HO276.out)
            have n2_ := Aside0.mk (blk_drew BK278.out)
            have n3_ := Aside0.mk (below_drew1 HB.out)
            clear HO271
            clear HO276
            clear BK278
            clear HB
            have HO271 := n0_
            have HO276 := n1_
            have BK278 := n2_
            have HB := n3_
            clear n0_ n1_ n2_ n3_
            refine start_ (n := 27) (S := fun w' => w'.cell? ⟨gb278, 0, none⟩ = some (.int .i64 t272) ∧ w'.cell? ⟨gb278, 1, none⟩ = some (.int .i64 t273) ∧ w'.cell? ⟨gb278, 2, none⟩ = some (.slice Ao16 t274.length co16)) (ds := []) #[false, false, false, false, false, false, false, false, false, false, false, false, false, false, false, false, false, false, false, false, false, false, false, false, false, false, false] (by kernel_rfl) rfl rfl ⟨(blk_cell BK278.out 0).trans rfl, (blk_cell BK278.out 1).trans rfl, (blk_cell BK278.out 2).trans rfl⟩ (fun hHeld => ?_); refine with_tabW laws_FnRules.tab7 laws_FnRules.bits7 (fun HT_ HW_ => ?_)
            generalize w26.drew = w27 at HO271 HO276 BK278 HB hHeld ⊢
            refine pure_ (i := 0) (N := some 39) (v := ?_) (a' := ?_) #[true, false, false, false, false, false, false, false, false, false, false, false, false, false, false, false, false, false, false, false, false, false, false, false, false, false, false] rfl rfl (any_of HT_.out (by kernel_rfl)) (fun _ _ _ h => h) (Or.inl ⟨by rfl, ?_⟩) ?_ ?_
            rotate_left
            · intro w'
              go_simp
              with_reducible rfl
            rotate_left
            · simp only [Act.put, List.setIfInBounds_toArray, List.set_cons_zero, List.set_cons_succ, i64_w, i32_w]
              rfl
            refine pure_ (i := 1) (N := some 40) (v := ?_) (a' := ?_) #[true, true, false, false, false, false, false, false, false, false, false, false, false, false, false, false, false, false, false, false, false, false, false, false, false, false, false] rfl rfl (any_of HT_.out (by kernel_rfl)) (fun _ _ _ h => h) (Or.inl ⟨by rfl, ?_⟩) ?_ ?_
            rotate_left
            · intro w'
              go_simp
              with_reducible rfl
            rotate_left
            · simp only [Act.put, List.setIfInBounds_toArray, List.set_cons_zero, List.set_cons_succ, i64_w, i32_w]
              rfl
            refine pure_ (i := 2) (N := some 41) (v := ?_) (a' := ?_) #[true, true, true, false, false, false, false, false, false, false, false, false, false, false, false, false, false, false, false, false, false, false, false, false, false, false, false] rfl rfl (any_of HT_.out (by kernel_rfl)) (fun _ _ _ h => h) (Or.inl ⟨by rfl, ?_⟩) ?_ ?_
            rotate_left
            · intro w'
              go_simp
              with_reducible rfl
            rotate_left
            · simp only [Act.put, List.setIfInBounds_toArray, List.set_cons_zero, List.set_cons_succ, i64_w, i32_w]
              rfl
            refine pure_ (i := 3) (N := some 42) (v := ?_) (a' := ?_) #[true, true, true, true, false, false, false, false, false, false, false, false, false, false, false, false, false, false, false, false, false, false, false, false, false, false, false] rfl rfl (any_of HT_.out (by kernel_rfl)) (fun _ _ _ h => h) (Or.inl ⟨by rfl, ?_⟩) ?_ ?_
            rotate_left
            · intro w'
              go_simp
              with_reducible rfl
            rotate_left
            · simp only [Act.put, List.setIfInBounds_toArray, List.set_cons_zero, List.set_cons_succ, i64_w, i32_w]
              rfl
            refine pure_ (i := 5) (N := some 44) (v := ?_) (a' := ?_) #[true, true, true, true, false, true, false, false, false, false, false, false, false, false, false, false, false, false, false, false, false, false, false, false, false, false, false] rfl rfl (any_of HT_.out (by kernel_rfl)) (fun _ _ _ h => h) (Or.inl ⟨by rfl, ?_⟩) ?_ ?_
            rotate_left
            · intro w'
              go_simp
              with_reducible rfl
            rotate_left
            · simp only [Act.put, List.setIfInBounds_toArray, List.set_cons_zero, List.set_cons_succ, i64_w, i32_w]
              rfl
            refine take_ (i := 4) (N := some 43) (v := ?_) (a' := ?_) #[true, true, true, true, true, true, false, false, false, false, false, false, false, false, false, false, false, false, false, false, false, false, false, false, false, false, false] rfl rfl (take_ofW HT_.out HW_.out (by kernel_rfl)) (fun _ _ _ h => h) (Or.inl ⟨by rfl, ?_⟩) hHeld ?_ ?_
            rotate_left
            · rintro w' ⟨s0, s1, s2⟩
              go_simp
              with_reducible rfl
            rotate_left
            · simp only [Act.put, List.setIfInBounds_toArray, List.set_cons_zero, List.set_cons_succ, i64_w, i32_w]
              rfl
            refine pure_ (i := 6) (N := some 45) (v := ?_) (a' := ?_) #[true, true, true, true, true, true, true, false, false, false, false, false, false, false, false, false, false, false, false, false, false, false, false, false, false, false, false] rfl rfl (any_of HT_.out (by kernel_rfl)) (fun _ _ _ h => h) (Or.inl ⟨by rfl, ?_⟩) ?_ ?_
            rotate_left
            · intro w'
              go_simp
              with_reducible rfl
            rotate_left
            · simp only [Act.put, List.setIfInBounds_toArray, List.set_cons_zero, List.set_cons_succ, i64_w, i32_w]
              rfl
            refine pure_ (i := 7) (N := some 46) (v := ?_) (a' := ?_) #[true, true, true, true, true, true, true, true, false, false, false, false, false, false, false, false, false, false, false, false, false, false, false, false, false, false, false] rfl rfl (any_of HT_.out (by kernel_rfl)) (fun _ _ _ h => h) (Or.inl ⟨by rfl, ?_⟩) ?_ ?_
            rotate_left
            · intro w'
              go_simp
              with_reducible rfl
            rotate_left
            · simp only [Act.put, List.setIfInBounds_toArray, List.set_cons_zero, List.set_cons_succ, i64_w, i32_w]
              rfl
            refine pure_ (i := 8) (N := some 47) (v := ?_) (a' := ?_) #[true, true, true, true, true, true, true, true, true, false, false, false, false, false, false, false, false, false, false, false, false, false, false, false, false, false, false] rfl rfl (any_of HT_.out (by kernel_rfl)) (fun _ _ _ h => h) (Or.inl ⟨by rfl, ?_⟩) ?_ ?_
            rotate_left
            · intro w'
              go_simp
              with_reducible rfl
            rotate_left
            · simp only [Act.put, List.setIfInBounds_toArray, List.set_cons_zero, List.set_cons_succ, i64_w, i32_w]
              rfl
            refine take_ (i := 9) (N := some 48) (v := ?_) (a' := ?_) #[true, true, true, true, true, true, true, true, true, true, false, false, false, false, false, false, false, false, false, false, false, false, false, false, false, false, false] rfl rfl (take_ofW HT_.out HW_.out (by kernel_rfl)) (fun _ _ _ h => h) (Or.inl ⟨by rfl, ?_⟩) hHeld ?_ ?_
            rotate_left
            · rintro w' ⟨s0, s1, s2⟩
              go_simp
              with_reducible rfl
            rotate_left
            · simp only [Act.put, List.setIfInBounds_toArray, List.set_cons_zero, List.set_cons_succ, i64_w, i32_w]
              rfl
            refine one_ (i := 10) (N := some 49) #[true, true, true, true, true, true, true, true, true, true, true, false, false, false, false, false, false, false, false, false, false, false, false, false, false, false, false] rfl rfl (one_of HT_.out (by kernel_rfl)) (by decide) (fun K hK => ?_)
            refine goes_ Try.func23 (by kernel_rfl) rfl #[.agg #[.int .i64 t272, .int .i64 t273, .slice Ao16 t274.length co16]] (by rfl) rfl rfl (by (try simp only [List.map_toArray, List.map_cons, List.map_nil]); first | done | rfl | (simp only [List.length_drop, List.length_take]; rfl)) ?_
            with_reducible refine (impl_ValidCalendar.calls k t272 t273 _ _ t274 false _ ?side1 ?side2 A19.out).mono ?_
            (case side1 => repeat (first | exact (Kd.R_reads' HO276.out).2.2 | (with_reducible refine Kd.C_alloc ?_ _) | (with_reducible refine Kd.C_drewN ?_ _) | (with_reducible refine Kd.C_drew ?_)))
            (case side2 => exact (Kd.R_reads' HO276.out).2.1)
            rintro e w28 ⟨rfl, hb⟩
            refine ⟨_, rfl, ?_⟩
            have n0_ := Aside0.mk (Kd.R_below (by (with_reducible repeat (first | apply Kd.R_alloc | apply Kd.R_drewN | apply Kd.R_drew)); exact HO271.out) hb)
            have n1_ := Aside0.mk (Kd.R_below (by (with_reducible repeat (first | apply Kd.R_alloc | apply Kd.R_drewN | apply Kd.R_drew)); exact HO276.out) hb)
            have n2_ := Aside0.mk (blk_below (g := gb278) (o := .cells #[.int .i64 t272, .int .i64 t273, .slice Ao16 t274.length co16] 34 (0, 0)) (by (with_reducible repeat (first | refine blk_drewN ?_ _ | refine blk_drew ?_ | refine blk_alloc ?_ _)); exact BK278.out) hb)
            have n3_ := Aside0.mk (below_step (by repeat (first | (with_reducible first | exact HB.out | apply below_alloc | apply pw_below_drewN | apply below_drew1 | refine below_set ?_ GE278.out) | exact HB.out)) hb)
            clear HO271
            clear HO276
            clear BK278
            clear HB
            have HO271 := n0_
            have HO276 := n1_
            have BK278 := n2_
            have HB := n3_
            clear n0_ n1_ n2_ n3_
            (try clear hb)
            (try clear hb2)
            (try clear hk)
            (try clear hi)
            refine hK.out _ _ ⟨(blk_cell BK278.out 0).trans rfl, (blk_cell BK278.out 1).trans rfl, (blk_cell BK278.out 2).trans rfl⟩ (fun hHeld => ?_)
            clear hK K
            refine norm_ (a' := ?_) ?_ ?_
            rotate_left
            · show Act.put _ (some 49) _ = _
              simp only [Act.put, List.setIfInBounds_toArray, List.set_cons_zero, List.set_cons_succ, i64_w, i32_w]
              rfl
            refine pure_ (i := 11) (N := some 50) (v := ?_) (a' := ?_) #[true, true, true, true, true, true, true, true, true, true, true, true, false, false, false, false, false, false, false, false, false, false, false, false, false, false, false] rfl rfl (any_of HT_.out (by kernel_rfl)) (fun _ _ _ h => h) (Or.inl ⟨by rfl, ?_⟩) ?_ ?_
            rotate_left
            · intro w'
              go_simp
              with_reducible rfl
            rotate_left
            · simp only [Act.put, List.setIfInBounds_toArray, List.set_cons_zero, List.set_cons_succ, i64_w, i32_w]
              rfl
            refine pure_ (i := 12) (N := some 51) (v := ?_) (a' := ?_) #[true, true, true, true, true, true, true, true, true, true, true, true, true, false, false, false, false, false, false, false, false, false, false, false, false, false, false] rfl rfl (any_of HT_.out (by kernel_rfl)) (fun _ _ _ h => h) (Or.inl ⟨by rfl, ?_⟩) ?_ ?_
            rotate_left
            · intro w'
              go_simp
              with_reducible rfl
            rotate_left
            · simp only [Act.put, List.setIfInBounds_toArray, List.set_cons_zero, List.set_cons_succ, i64_w, i32_w]
              rfl
            refine pure_ (i := 13) (N := some 52) (v := ?_) (a' := ?_) #[true, true, true, true, true, true, true, true, true, true, true, true, true, true, false, false, false, false, false, false, false, false, false, false, false, false, false] rfl rfl (any_of HT_.out (by kernel_rfl)) (fun _ _ _ h => h) (Or.inl ⟨by rfl, ?_⟩) ?_ ?_
            rotate_left
            · intro w'
              go_simp
              with_reducible rfl
            rotate_left
            · simp only [Act.put, List.setIfInBounds_toArray, List.set_cons_zero, List.set_cons_succ, i64_w, i32_w]
              rfl
            refine pure_ (i := 14) (N := some 53) (v := undef) (a' := ?_) #[true, true, true, true, true, true, true, true, true, true, true, true, true, true, true, false, false, false, false, false, false, false, false, false, false, false, false] rfl rfl (any_of HT_.out (by kernel_rfl)) (fun _ _ _ h => h) (Or.inr ⟨by rfl, rfl⟩) ?_ ?_
            rotate_left
            · simp only [Act.put, List.setIfInBounds_toArray, List.set_cons_zero, List.set_cons_succ, i64_w, i32_w]
              rfl
            refine pure_ (i := 15) (N := some 54) (v := undef) (a' := ?_) #[true, true, true, true, true, true, true, true, true, true, true, true, true, true, true, true, false, false, false, false, false, false, false, false, false, false, false] rfl rfl (any_of HT_.out (by kernel_rfl)) (fun _ _ _ h => h) (Or.inr ⟨by rfl, rfl⟩) ?_ ?_
            rotate_left
            · simp only [Act.put, List.setIfInBounds_toArray, List.set_cons_zero, List.set_cons_succ, i64_w, i32_w]
              rfl
            refine pure_ (i := 16) (N := some 55) (v := undef) (a' := ?_) #[true, true, true, true, true, true, true, true, true, true, true, true, true, true, true, true, true, false, false, false, false, false, false, false, false, false, false] rfl rfl (any_of HT_.out (by kernel_rfl)) (fun _ _ _ h => h) (Or.inr ⟨by rfl, rfl⟩) ?_ ?_
            rotate_left
            · simp only [Act.put, List.setIfInBounds_toArray, List.set_cons_zero, List.set_cons_succ, i64_w, i32_w]
              rfl
            refine pure_ (i := 17) (N := some 56) (v := undef) (a' := ?_) #[true, true, true, true, true, true, true, true, true, true, true, true, true, true, true, true, true, true, false, false, false, false, false, false, false, false, false] rfl rfl (any_of HT_.out (by kernel_rfl)) (fun _ _ _ h => h) (Or.inr ⟨by rfl, rfl⟩) ?_ ?_
            rotate_left
            · simp only [Act.put, List.setIfInBounds_toArray, List.set_cons_zero, List.set_cons_succ, i64_w, i32_w]
              rfl
            refine pure_ (i := 18) (N := some 57) (v := undef) (a' := ?_) #[true, true, true, true, true, true, true, true, true, true, true, true, true, true, true, true, true, true, true, false, false, false, false, false, false, false, false] rfl rfl (any_of HT_.out (by kernel_rfl)) (fun _ _ _ h => h) (Or.inr ⟨by rfl, rfl⟩) ?_ ?_
            rotate_left
            · simp only [Act.put, List.setIfInBounds_toArray, List.set_cons_zero, List.set_cons_succ, i64_w, i32_w]
              rfl
            refine pure_ (i := 19) (N := some 58) (v := undef) (a' := ?_) #[true, true, true, true, true, true, true, true, true, true, true, true, true, true, true, true, true, true, true, true, false, false, false, false, false, false, false] rfl rfl (any_of HT_.out (by kernel_rfl)) (fun _ _ _ h => h) (Or.inr ⟨by rfl, rfl⟩) ?_ ?_
            rotate_left
            · simp only [Act.put, List.setIfInBounds_toArray, List.set_cons_zero, List.set_cons_succ, i64_w, i32_w]
              rfl
            refine pure_ (i := 20) (N := some 59) (v := undef) (a' := ?_) #[true, true, true, true, true, true, true, true, true, true, true, true, true, true, true, true, true, true, true, true, true, false, false, false, false, false, false] rfl rfl (any_of HT_.out (by kernel_rfl)) (fun _ _ _ h => h) (Or.inr ⟨by rfl, rfl⟩) ?_ ?_
            rotate_left
            · simp only [Act.put, List.setIfInBounds_toArray, List.set_cons_zero, List.set_cons_succ, i64_w, i32_w]
              rfl
            refine pure_ (i := 21) (N := some 60) (v := undef) (a' := ?_) #[true, true, true, true, true, true, true, true, true, true, true, true, true, true, true, true, true, true, true, true, true, true, false, false, false, false, false] rfl rfl (any_of HT_.out (by kernel_rfl)) (fun _ _ _ h => h) (Or.inr ⟨by rfl, rfl⟩) ?_ ?_
            rotate_left
            · simp only [Act.put, List.setIfInBounds_toArray, List.set_cons_zero, List.set_cons_succ, i64_w, i32_w]
              rfl
            refine pure_ (i := 22) (N := some 61) (v := undef) (a' := ?_) #[true, true, true, true, true, true, true, true, true, true, true, true, true, true, true, true, true, true, true, true, true, true, true, false, false, false, false] rfl rfl (any_of HT_.out (by kernel_rfl)) (fun _ _ _ h => h) (Or.inr ⟨by rfl, rfl⟩) ?_ ?_
            rotate_left
            · simp only [Act.put, List.setIfInBounds_toArray, List.set_cons_zero, List.set_cons_succ, i64_w, i32_w]
              rfl
            refine pure_ (i := 23) (N := some 62) (v := undef) (a' := ?_) #[true, true, true, true, true, true, true, true, true, true, true, true, true, true, true, true, true, true, true, true, true, true, true, true, false, false, false] rfl rfl (any_of HT_.out (by kernel_rfl)) (fun _ _ _ h => h) (Or.inr ⟨by rfl, rfl⟩) ?_ ?_
            rotate_left
            · simp only [Act.put, List.setIfInBounds_toArray, List.set_cons_zero, List.set_cons_succ, i64_w, i32_w]
              rfl
            refine pure_ (i := 24) (N := some 63) (v := undef) (a' := ?_) #[true, true, true, true, true, true, true, true, true, true, true, true, true, true, true, true, true, true, true, true, true, true, true, true, true, false, false] rfl rfl (any_of HT_.out (by kernel_rfl)) (fun _ _ _ h => h) (Or.inr ⟨by rfl, rfl⟩) ?_ ?_
            rotate_left
            · simp only [Act.put, List.setIfInBounds_toArray, List.set_cons_zero, List.set_cons_succ, i64_w, i32_w]
              rfl
            refine pure_ (i := 25) (N := some 64) (v := undef) (a' := ?_) #[true, true, true, true, true, true, true, true, true, true, true, true, true, true, true, true, true, true, true, true, true, true, true, true, true, true, false] rfl rfl (any_of HT_.out (by kernel_rfl)) (fun _ _ _ h => h) (Or.inr ⟨by rfl, rfl⟩) ?_ ?_
            rotate_left
            · simp only [Act.put, List.setIfInBounds_toArray, List.set_cons_zero, List.set_cons_succ, i64_w, i32_w]
              rfl
            refine pure_ (i := 26) (N := some 65) (v := ?_) (a' := ?_) #[true, true, true, true, true, true, true, true, true, true, true, true, true, true, true, true, true, true, true, true, true, true, true, true, true, true, true] rfl rfl (any_of HT_.out (by kernel_rfl)) (fun _ _ _ h => h) (Or.inl ⟨by rfl, ?_⟩) ?_ ?_
            rotate_left
            · intro w'
              go_simp
              with_reducible rfl
            rotate_left
            · simp only [Act.put, List.setIfInBounds_toArray, List.set_cons_zero, List.set_cons_succ, i64_w, i32_w]
              rfl
            refine done_ (done_of HT_.out (by kernel_rfl)) ?_
            try go_wp2
            go_meet
            case rel => exact ⟨_, (true), (by first | rfl | (simp; done) | (simp [*]; done)), H', ⟨by first | omega | exact Nat.le_refl _⟩, ⟨by (with_reducible repeat (first | apply Kd.R_alloc | apply Kd.R_drewN | apply Kd.R_drew)); exact Kd.R_mono HO276.out (fun _ hk => trivial)⟩, ⟨by (with_reducible repeat (first | refine blk_drewN ?_ _ | refine blk_drew ?_ | refine blk_alloc ?_ _)); exact BK278.out⟩, ⟨by repeat (first | (with_reducible first | exact HB.out | apply below_alloc | apply pw_below_drewN | apply below_drew1 | refine below_set ?_ GE278.out) | exact HB.out)⟩⟩
        · rw [if_neg c18] at H
          have c18b0 : (t272 == (wrap64 ((wrap64 ((wrap64 (1 + t266)) * (wrap64 (2 + t267)))) * (wrap64 (2 + t268))))) = false := beq_eq_false_iff_ne.mpr c18
          have c18b1 : (t272 != (wrap64 ((wrap64 ((wrap64 (1 + t266)) * (wrap64 (2 + t267)))) * (wrap64 (2 + t268))))) = true := bne_iff_ne.mpr c18
          (first | rw [c18b0] | (simp only [i64_w, i32_w]; rw [c18b0]) | skip)
          have H' := Aside0.mk H
          clear H
          try go_wp2
          have n0_ : Aside0 (Kd.R (Kd.int .i64) 2 (((w14.setCell ⟨gb278, 0, none⟩ (.int .i64 t272)).setCell ⟨gb278, 1, none⟩ (.int .i64 t273)).setCell ⟨gb278, 2, none⟩ (.slice Ao16 t274.length co16)) w.heap.size (fun k_ => some k_ ≠ (.slice Ao16 t274.length co16 : Value).ownBlock) (.slice Ao12 y269.length co12) y269) := ⟨by (with_reducible repeat (first | apply Kd.R_alloc | apply Kd.R_drewN | apply Kd.R_drew)); exact Kd.R_mono (Kd.R_far (p := ⟨gb278, 2, none⟩) (Kd.R_far (p := ⟨gb278, 1, none⟩) (Kd.R_far (p := ⟨gb278, 0, none⟩) (Kd.R_types HO271.out BK278.out (by decide)) (fun _ hk => hk.2) (.int .i64 t272)) (fun _ hk => hk.2) (.int .i64 t273)) (fun _ hk => hk.2) (.slice Ao16 t274.length co16)) (fun _ hk => hk.1.2)⟩
          have n1_ : Aside0 (Kd.R (Kd.int .i64) 2 (((w14.setCell ⟨gb278, 0, none⟩ (.int .i64 t272)).setCell ⟨gb278, 1, none⟩ (.int .i64 t273)).setCell ⟨gb278, 2, none⟩ (.slice Ao16 t274.length co16)) w.heap.size (fun k_ => some k_ ≠ (.slice Ao12 y269.length co12 : Value).ownBlock) (.slice Ao16 t274.length co16) t274) := ⟨by (with_reducible repeat (first | apply Kd.R_alloc | apply Kd.R_drewN | apply Kd.R_drew)); exact Kd.R_mono (Kd.R_far (p := ⟨gb278, 2, none⟩) (Kd.R_far (p := ⟨gb278, 1, none⟩) (Kd.R_far (p := ⟨gb278, 0, none⟩) (Kd.R_types HO276.out BK278.out (by decide)) (fun _ hk => hk.2) (.int .i64 t272)) (fun _ hk => hk.2) (.int .i64 t273)) (fun _ hk => hk.2) (.slice Ao16 t274.length co16)) (fun _ hk => hk.1.2)⟩
          have n2_ : Aside0 ((((w14.setCell ⟨gb278, 0, none⟩ (.int .i64 t272)).setCell ⟨gb278, 1, none⟩ (.int .i64 t273)).setCell ⟨gb278, 2, none⟩ (.slice Ao16 t274.length co16)).heap[gb278]? = some (.cells #[.int .i64 t272, .int .i64 t273, .slice Ao16 t274.length co16] 34 (0, 0))) := ⟨by (with_reducible repeat (first | refine blk_drewN ?_ _ | refine blk_drew ?_ | refine blk_alloc ?_ _)); refine blk_put (cs := #[.int .i64 t272, .int .i64 t273, .slice none 0 0]) ?_ 2 _ rfl; (with_reducible repeat (first | refine blk_drewN ?_ _ | refine blk_drew ?_ | refine blk_alloc ?_ _)); refine blk_put (cs := #[.int .i64 t272, .int .i64 0, .slice none 0 0]) ?_ 1 _ rfl; (with_reducible repeat (first | refine blk_drewN ?_ _ | refine blk_drew ?_ | refine blk_alloc ?_ _)); refine blk_put (cs := #[.int .i64 0, .int .i64 0, .slice none 0 0]) ?_ 0 _ rfl; (with_reducible repeat (first | refine blk_drewN ?_ _ | refine blk_drew ?_ | refine blk_alloc ?_ _)); exact BK278.out⟩
          have n3_ : Aside0 (Below w.heap.size w (((w14.setCell ⟨gb278, 0, none⟩ (.int .i64 t272)).setCell ⟨gb278, 1, none⟩ (.int .i64 t273)).setCell ⟨gb278, 2, none⟩ (.slice Ao16 t274.length co16))) := ⟨by repeat (first | (with_reducible first | exact HB.out | apply below_alloc | apply pw_below_drewN | apply below_drew1 | refine below_set ?_ GE278.out) | exact HB.out)⟩
          (try clear HO271)
          (try clear HO276)
          (try clear BK278)
          (try clear HB)
          generalize (((w14.setCell ⟨gb278, 0, none⟩ (.int .i64 t272)).setCell ⟨gb278, 1, none⟩ (.int .i64 t273)).setCell ⟨gb278, 2, none⟩ (.slice Ao16 t274.length co16)) = w29 at n0_ n1_ n2_ n3_ ⊢
          have HO271 := n0_
          have HO276 := n1_
          have BK278 := n2_
          have HB := n3_
          clear n0_ n1_ n2_ n3_
          have n0_ := Aside0.mk (Kd.R_drew HO271.out)
          have n1_ := Aside0.mk (Kd.R_drew HO276.out)
          have n2_ := Aside0.mk (blk_drew BK278.out)
          have n3_ := Aside0.mk (below_drew1 HB.out)
          clear HO271
          clear HO276
          clear BK278
          clear HB
          have HO271 := n0_
          have HO276 := n1_
          have BK278 := n2_
          have HB := n3_
          clear n0_ n1_ n2_ n3_
          refine start_ (n := 27) (S := fun w' => w'.cell? ⟨gb278, 0, none⟩ = some (.int .i64 t272) ∧ w'.cell? ⟨gb278, 1, none⟩ = some (.int .i64 t273) ∧ w'.cell? ⟨gb278, 2, none⟩ = some (.slice Ao16 t274.length co16)) (ds := []) #[false, false, false, false, false, false, false, false, false, false, false, false, false, false, false, false, false, false, false, false, false, false, false, false, false, false, false] (by kernel_rfl) rfl rfl ⟨(blk_cell BK278.out 0).trans rfl, (blk_cell BK278.out 1).trans rfl, (blk_cell BK278.out 2).trans rfl⟩ (fun hHeld => ?_); refine with_tabW laws_FnRules.tab7 laws_FnRules.bits7 (fun HT_ HW_ => ?_)
          generalize w29.drew = w30 at HO271 HO276 BK278 HB hHeld ⊢
          refine pure_ (i := 0) (N := some 39) (v := ?_) (a' := ?_) #[true, false, false, false, false, false, false, false, false, false, false, false, false, false, false, false, false, false, false, false, false, false, false, false, false, false, false] rfl rfl (any_of HT_.out (by kernel_rfl)) (fun _ _ _ h => h) (Or.inl ⟨by rfl, ?_⟩) ?_ ?_
          rotate_left
          · intro w'
            go_simp
            with_reducible rfl
          rotate_left
          · simp only [Act.put, List.setIfInBounds_toArray, List.set_cons_zero, List.set_cons_succ, i64_w, i32_w]
            rfl
          refine pure_ (i := 1) (N := some 40) (v := ?_) (a' := ?_) #[true, true, false, false, false, false, false, false, false, false, false, false, false, false, false, false, false, false, false, false, false, false, false, false, false, false, false] rfl rfl (any_of HT_.out (by kernel_rfl)) (fun _ _ _ h => h) (Or.inl ⟨by rfl, ?_⟩) ?_ ?_
          rotate_left
          · intro w'
            go_simp
            with_reducible rfl
          rotate_left
          · simp only [Act.put, List.setIfInBounds_toArray, List.set_cons_zero, List.set_cons_succ, i64_w, i32_w]
            rfl
          refine pure_ (i := 2) (N := some 41) (v := ?_) (a' := ?_) #[true, true, true, false, false, false, false, false, false, false, false, false, false, false, false, false, false, false, false, false, false, false, false, false, false, false, false] rfl rfl (any_of HT_.out (by kernel_rfl)) (fun _ _ _ h => h) (Or.inl ⟨by rfl, ?_⟩) ?_ ?_
          rotate_left
          · intro w'
            go_simp
            with_reducible rfl
          rotate_left
          · simp only [Act.put, List.setIfInBounds_toArray, List.set_cons_zero, List.set_cons_succ, i64_w, i32_w]
            rfl
          refine pure_ (i := 3) (N := some 42) (v := ?_) (a' := ?_) #[true, true, true, true, false, false, false, false, false, false, false, false, false, false, false, false, false, false, false, false, false, false, false, false, false, false, false] rfl rfl (any_of HT_.out (by kernel_rfl)) (fun _ _ _ h => h) (Or.inl ⟨by rfl, ?_⟩) ?_ ?_
          rotate_left
          · intro w'
            go_simp
            with_reducible rfl
          rotate_left
          · simp only [Act.put, List.setIfInBounds_toArray, List.set_cons_zero, List.set_cons_succ, i64_w, i32_w]
            rfl
          refine pure_ (i := 5) (N := some 44) (v := ?_) (a' := ?_) #[true, true, true, true, false, true, false, false, false, false, false, false, false, false, false, false, false, false, false, false, false, false, false, false, false, false, false] rfl rfl (any_of HT_.out (by kernel_rfl)) (fun _ _ _ h => h) (Or.inl ⟨by rfl, ?_⟩) ?_ ?_
          rotate_left
          · intro w'
            go_simp
            with_reducible rfl
          rotate_left
          · simp only [Act.put, List.setIfInBounds_toArray, List.set_cons_zero, List.set_cons_succ, i64_w, i32_w]
            rfl
          refine take_ (i := 4) (N := some 43) (v := ?_) (a' := ?_) #[true, true, true, true, true, true, false, false, false, false, false, false, false, false, false, false, false, false, false, false, false, false, false, false, false, false, false] rfl rfl (take_ofW HT_.out HW_.out (by kernel_rfl)) (fun _ _ _ h => h) (Or.inl ⟨by rfl, ?_⟩) hHeld ?_ ?_
          rotate_left
          · rintro w' ⟨s0, s1, s2⟩
            go_simp
            with_reducible rfl
          rotate_left
          · simp only [Act.put, List.setIfInBounds_toArray, List.set_cons_zero, List.set_cons_succ, i64_w, i32_w]
            rfl
          refine pure_ (i := 6) (N := some 45) (v := ?_) (a' := ?_) #[true, true, true, true, true, true, true, false, false, false, false, false, false, false, false, false, false, false, false, false, false, false, false, false, false, false, false] rfl rfl (any_of HT_.out (by kernel_rfl)) (fun _ _ _ h => h) (Or.inl ⟨by rfl, ?_⟩) ?_ ?_
          rotate_left
          · intro w'
            go_simp
            with_reducible rfl
          rotate_left
          · simp only [Act.put, List.setIfInBounds_toArray, List.set_cons_zero, List.set_cons_succ, i64_w, i32_w]
            rfl
          refine pure_ (i := 7) (N := some 46) (v := ?_) (a' := ?_) #[true, true, true, true, true, true, true, true, false, false, false, false, false, false, false, false, false, false, false, false, false, false, false, false, false, false, false] rfl rfl (any_of HT_.out (by kernel_rfl)) (fun _ _ _ h => h) (Or.inl ⟨by rfl, ?_⟩) ?_ ?_
          rotate_left
          · intro w'
            go_simp
            with_reducible rfl
          rotate_left
          · simp only [Act.put, List.setIfInBounds_toArray, List.set_cons_zero, List.set_cons_succ, i64_w, i32_w]
            rfl
          refine pure_ (i := 8) (N := some 47) (v := ?_) (a' := ?_) #[true, true, true, true, true, true, true, true, true, false, false, false, false, false, false, false, false, false, false, false, false, false, false, false, false, false, false] rfl rfl (any_of HT_.out (by kernel_rfl)) (fun _ _ _ h => h) (Or.inl ⟨by rfl, ?_⟩) ?_ ?_
          rotate_left
          · intro w'
            go_simp
            with_reducible rfl
          rotate_left
          · simp only [Act.put, List.setIfInBounds_toArray, List.set_cons_zero, List.set_cons_succ, i64_w, i32_w]
            rfl
          refine pure_ (i := 9) (N := some 48) (v := undef) (a' := ?_) #[true, true, true, true, true, true, true, true, true, true, false, false, false, false, false, false, false, false, false, false, false, false, false, false, false, false, false] rfl rfl (any_of HT_.out (by kernel_rfl)) (fun _ _ _ h => h) (Or.inr ⟨by rfl, rfl⟩) ?_ ?_
          rotate_left
          · simp only [Act.put, List.setIfInBounds_toArray, List.set_cons_zero, List.set_cons_succ, i64_w, i32_w]
            rfl
          refine pure_ (i := 10) (N := some 49) (v := undef) (a' := ?_) #[true, true, true, true, true, true, true, true, true, true, true, false, false, false, false, false, false, false, false, false, false, false, false, false, false, false, false] rfl rfl (any_of HT_.out (by kernel_rfl)) (fun _ _ _ h => h) (Or.inr ⟨by rfl, rfl⟩) ?_ ?_
          rotate_left
          · simp only [Act.put, List.setIfInBounds_toArray, List.set_cons_zero, List.set_cons_succ, i64_w, i32_w]
            rfl
          refine pure_ (i := 11) (N := some 50) (v := undef) (a' := ?_) #[true, true, true, true, true, true, true, true, true, true, true, true, false, false, false, false, false, false, false, false, false, false, false, false, false, false, false] rfl rfl (any_of HT_.out (by kernel_rfl)) (fun _ _ _ h => h) (Or.inr ⟨by rfl, rfl⟩) ?_ ?_
          rotate_left
          · simp only [Act.put, List.setIfInBounds_toArray, List.set_cons_zero, List.set_cons_succ, i64_w, i32_w]
            rfl
          refine pure_ (i := 12) (N := some 51) (v := ?_) (a' := ?_) #[true, true, true, true, true, true, true, true, true, true, true, true, true, false, false, false, false, false, false, false, false, false, false, false, false, false, false] rfl rfl (any_of HT_.out (by kernel_rfl)) (fun _ _ _ h => h) (Or.inl ⟨by rfl, ?_⟩) ?_ ?_
          rotate_left
          · intro w'
            go_simp
            with_reducible rfl
          rotate_left
          · simp only [Act.put, List.setIfInBounds_toArray, List.set_cons_zero, List.set_cons_succ, i64_w, i32_w]
            rfl
          refine pure_ (i := 13) (N := some 52) (v := ?_) (a' := ?_) #[true, true, true, true, true, true, true, true, true, true, true, true, true, true, false, false, false, false, false, false, false, false, false, false, false, false, false] rfl rfl (any_of HT_.out (by kernel_rfl)) (fun _ _ _ h => h) (Or.inl ⟨by rfl, ?_⟩) ?_ ?_
          rotate_left
          · intro w'
            go_simp
            with_reducible rfl
          rotate_left
          · simp only [Act.put, List.setIfInBounds_toArray, List.set_cons_zero, List.set_cons_succ, i64_w, i32_w]
            rfl
          refine pure_ (i := 14) (N := some 53) (v := undef) (a' := ?_) #[true, true, true, true, true, true, true, true, true, true, true, true, true, true, true, false, false, false, false, false, false, false, false, false, false, false, false] rfl rfl (any_of HT_.out (by kernel_rfl)) (fun _ _ _ h => h) (Or.inr ⟨by rfl, rfl⟩) ?_ ?_
          rotate_left
          · simp only [Act.put, List.setIfInBounds_toArray, List.set_cons_zero, List.set_cons_succ, i64_w, i32_w]
            rfl
          refine pure_ (i := 15) (N := some 54) (v := undef) (a' := ?_) #[true, true, true, true, true, true, true, true, true, true, true, true, true, true, true, true, false, false, false, false, false, false, false, false, false, false, false] rfl rfl (any_of HT_.out (by kernel_rfl)) (fun _ _ _ h => h) (Or.inr ⟨by rfl, rfl⟩) ?_ ?_
          rotate_left
          · simp only [Act.put, List.setIfInBounds_toArray, List.set_cons_zero, List.set_cons_succ, i64_w, i32_w]
            rfl
          refine pure_ (i := 16) (N := some 55) (v := undef) (a' := ?_) #[true, true, true, true, true, true, true, true, true, true, true, true, true, true, true, true, true, false, false, false, false, false, false, false, false, false, false] rfl rfl (any_of HT_.out (by kernel_rfl)) (fun _ _ _ h => h) (Or.inr ⟨by rfl, rfl⟩) ?_ ?_
          rotate_left
          · simp only [Act.put, List.setIfInBounds_toArray, List.set_cons_zero, List.set_cons_succ, i64_w, i32_w]
            rfl
          refine pure_ (i := 17) (N := some 56) (v := undef) (a' := ?_) #[true, true, true, true, true, true, true, true, true, true, true, true, true, true, true, true, true, true, false, false, false, false, false, false, false, false, false] rfl rfl (any_of HT_.out (by kernel_rfl)) (fun _ _ _ h => h) (Or.inr ⟨by rfl, rfl⟩) ?_ ?_
          rotate_left
          · simp only [Act.put, List.setIfInBounds_toArray, List.set_cons_zero, List.set_cons_succ, i64_w, i32_w]
            rfl
          refine pure_ (i := 18) (N := some 57) (v := undef) (a' := ?_) #[true, true, true, true, true, true, true, true, true, true, true, true, true, true, true, true, true, true, true, false, false, false, false, false, false, false, false] rfl rfl (any_of HT_.out (by kernel_rfl)) (fun _ _ _ h => h) (Or.inr ⟨by rfl, rfl⟩) ?_ ?_
          rotate_left
          · simp only [Act.put, List.setIfInBounds_toArray, List.set_cons_zero, List.set_cons_succ, i64_w, i32_w]
            rfl
          refine pure_ (i := 19) (N := some 58) (v := undef) (a' := ?_) #[true, true, true, true, true, true, true, true, true, true, true, true, true, true, true, true, true, true, true, true, false, false, false, false, false, false, false] rfl rfl (any_of HT_.out (by kernel_rfl)) (fun _ _ _ h => h) (Or.inr ⟨by rfl, rfl⟩) ?_ ?_
          rotate_left
          · simp only [Act.put, List.setIfInBounds_toArray, List.set_cons_zero, List.set_cons_succ, i64_w, i32_w]
            rfl
          refine pure_ (i := 20) (N := some 59) (v := undef) (a' := ?_) #[true, true, true, true, true, true, true, true, true, true, true, true, true, true, true, true, true, true, true, true, true, false, false, false, false, false, false] rfl rfl (any_of HT_.out (by kernel_rfl)) (fun _ _ _ h => h) (Or.inr ⟨by rfl, rfl⟩) ?_ ?_
          rotate_left
          · simp only [Act.put, List.setIfInBounds_toArray, List.set_cons_zero, List.set_cons_succ, i64_w, i32_w]
            rfl
          refine pure_ (i := 21) (N := some 60) (v := undef) (a' := ?_) #[true, true, true, true, true, true, true, true, true, true, true, true, true, true, true, true, true, true, true, true, true, true, false, false, false, false, false] rfl rfl (any_of HT_.out (by kernel_rfl)) (fun _ _ _ h => h) (Or.inr ⟨by rfl, rfl⟩) ?_ ?_
          rotate_left
          · simp only [Act.put, List.setIfInBounds_toArray, List.set_cons_zero, List.set_cons_succ, i64_w, i32_w]
            rfl
          refine pure_ (i := 22) (N := some 61) (v := undef) (a' := ?_) #[true, true, true, true, true, true, true, true, true, true, true, true, true, true, true, true, true, true, true, true, true, true, true, false, false, false, false] rfl rfl (any_of HT_.out (by kernel_rfl)) (fun _ _ _ h => h) (Or.inr ⟨by rfl, rfl⟩) ?_ ?_
          rotate_left
          · simp only [Act.put, List.setIfInBounds_toArray, List.set_cons_zero, List.set_cons_succ, i64_w, i32_w]
            rfl
          refine pure_ (i := 23) (N := some 62) (v := undef) (a' := ?_) #[true, true, true, true, true, true, true, true, true, true, true, true, true, true, true, true, true, true, true, true, true, true, true, true, false, false, false] rfl rfl (any_of HT_.out (by kernel_rfl)) (fun _ _ _ h => h) (Or.inr ⟨by rfl, rfl⟩) ?_ ?_
          rotate_left
          · simp only [Act.put, List.setIfInBounds_toArray, List.set_cons_zero, List.set_cons_succ, i64_w, i32_w]
            rfl
          refine pure_ (i := 24) (N := some 63) (v := undef) (a' := ?_) #[true, true, true, true, true, true, true, true, true, true, true, true, true, true, true, true, true, true, true, true, true, true, true, true, true, false, false] rfl rfl (any_of HT_.out (by kernel_rfl)) (fun _ _ _ h => h) (Or.inr ⟨by rfl, rfl⟩) ?_ ?_
          rotate_left
          · simp only [Act.put, List.setIfInBounds_toArray, List.set_cons_zero, List.set_cons_succ, i64_w, i32_w]
            rfl
          refine pure_ (i := 25) (N := some 64) (v := undef) (a' := ?_) #[true, true, true, true, true, true, true, true, true, true, true, true, true, true, true, true, true, true, true, true, true, true, true, true, true, true, false] rfl rfl (any_of HT_.out (by kernel_rfl)) (fun _ _ _ h => h) (Or.inr ⟨by rfl, rfl⟩) ?_ ?_
          rotate_left
          · simp only [Act.put, List.setIfInBounds_toArray, List.set_cons_zero, List.set_cons_succ, i64_w, i32_w]
            rfl
          refine pure_ (i := 26) (N := some 65) (v := ?_) (a' := ?_) #[true, true, true, true, true, true, true, true, true, true, true, true, true, true, true, true, true, true, true, true, true, true, true, true, true, true, true] rfl rfl (any_of HT_.out (by kernel_rfl)) (fun _ _ _ h => h) (Or.inl ⟨by rfl, ?_⟩) ?_ ?_
          rotate_left
          · intro w'
            go_simp
            with_reducible rfl
          rotate_left
          · simp only [Act.put, List.setIfInBounds_toArray, List.set_cons_zero, List.set_cons_succ, i64_w, i32_w]
            rfl
          refine done_ (done_of HT_.out (by kernel_rfl)) ?_
          try go_wp2
          go_meet
          case rel => exact ⟨_, (true), (by first | rfl | (simp; done) | (simp [*]; done)), H', ⟨by first | omega | exact Nat.le_refl _⟩, ⟨by (with_reducible repeat (first | apply Kd.R_alloc | apply Kd.R_drewN | apply Kd.R_drew)); exact Kd.R_mono HO276.out (fun _ hk => trivial)⟩, ⟨by (with_reducible repeat (first | refine blk_drewN ?_ _ | refine blk_drew ?_ | refine blk_alloc ?_ _)); exact BK278.out⟩, ⟨by repeat (first | (with_reducible first | exact HB.out | apply below_alloc | apply pw_below_drewN | apply below_drew1 | refine below_set ?_ GE278.out) | exact HB.out)⟩⟩
      · replace c17 := Bool.eq_false_iff.mpr c17
        subst c17
        have H1 : (laws_FnRules.j0 k l1 (wrap64 (1 + t266)) (wrap64 ((wrap64 (1 + t266)) * (wrap64 (2 + t267)))) (wrap64 ((wrap64 ((wrap64 (1 + t266)) * (wrap64 (2 + t267)))) * (wrap64 (2 + t268)))) true t272 t273 t274) = some r := by rw [if_neg (show ¬ (false = true) by decide)] at H; exact H
        clear H
        have H := H1
        clear H1
        have H' := Aside0.mk H
        clear H
        try go_wp2
        have n0_ : Aside0 (Kd.R (Kd.int .i64) 2 (((w14.setCell ⟨gb278, 0, none⟩ (.int .i64 t272)).setCell ⟨gb278, 1, none⟩ (.int .i64 t273)).setCell ⟨gb278, 2, none⟩ (.slice Ao16 t274.length co16)) w.heap.size (fun k_ => some k_ ≠ (.slice Ao16 t274.length co16 : Value).ownBlock) (.slice Ao12 y269.length co12) y269) := ⟨by (with_reducible repeat (first | apply Kd.R_alloc | apply Kd.R_drewN | apply Kd.R_drew)); exact Kd.R_mono (Kd.R_far (p := ⟨gb278, 2, none⟩) (Kd.R_far (p := ⟨gb278, 1, none⟩) (Kd.R_far (p := ⟨gb278, 0, none⟩) (Kd.R_types HO271.out BK278.out (by decide)) (fun _ hk => hk.2) (.int .i64 t272)) (fun _ hk => hk.2) (.int .i64 t273)) (fun _ hk => hk.2) (.slice Ao16 t274.length co16)) (fun _ hk => hk.1.2)⟩
        have n1_ : Aside0 (Kd.R (Kd.int .i64) 2 (((w14.setCell ⟨gb278, 0, none⟩ (.int .i64 t272)).setCell ⟨gb278, 1, none⟩ (.int .i64 t273)).setCell ⟨gb278, 2, none⟩ (.slice Ao16 t274.length co16)) w.heap.size (fun k_ => some k_ ≠ (.slice Ao12 y269.length co12 : Value).ownBlock) (.slice Ao16 t274.length co16) t274) := ⟨by (with_reducible repeat (first | apply Kd.R_alloc | apply Kd.R_drewN | apply Kd.R_drew)); exact Kd.R_mono (Kd.R_far (p := ⟨gb278, 2, none⟩) (Kd.R_far (p := ⟨gb278, 1, none⟩) (Kd.R_far (p := ⟨gb278, 0, none⟩) (Kd.R_types HO276.out BK278.out (by decide)) (fun _ hk => hk.2) (.int .i64 t272)) (fun _ hk => hk.2) (.int .i64 t273)) (fun _ hk => hk.2) (.slice Ao16 t274.length co16)) (fun _ hk => hk.1.2)⟩
        have n2_ : Aside0 ((((w14.setCell ⟨gb278, 0, none⟩ (.int .i64 t272)).setCell ⟨gb278, 1, none⟩ (.int .i64 t273)).setCell ⟨gb278, 2, none⟩ (.slice Ao16 t274.length co16)).heap[gb278]? = some (.cells #[.int .i64 t272, .int .i64 t273, .slice Ao16 t274.length co16] 34 (0, 0))) := ⟨by (with_reducible repeat (first | refine blk_drewN ?_ _ | refine blk_drew ?_ | refine blk_alloc ?_ _)); refine blk_put (cs := #[.int .i64 t272, .int .i64 t273, .slice none 0 0]) ?_ 2 _ rfl; (with_reducible repeat (first | refine blk_drewN ?_ _ | refine blk_drew ?_ | refine blk_alloc ?_ _)); refine blk_put (cs := #[.int .i64 t272, .int .i64 0, .slice none 0 0]) ?_ 1 _ rfl; (with_reducible repeat (first | refine blk_drewN ?_ _ | refine blk_drew ?_ | refine blk_alloc ?_ _)); refine blk_put (cs := #[.int .i64 0, .int .i64 0, .slice none 0 0]) ?_ 0 _ rfl; (with_reducible repeat (first | refine blk_drewN ?_ _ | refine blk_drew ?_ | refine blk_alloc ?_ _)); exact BK278.out⟩
        have n3_ : Aside0 (Below w.heap.size w (((w14.setCell ⟨gb278, 0, none⟩ (.int .i64 t272)).setCell ⟨gb278, 1, none⟩ (.int .i64 t273)).setCell ⟨gb278, 2, none⟩ (.slice Ao16 t274.length co16))) := ⟨by repeat (first | (with_reducible first | exact HB.out | apply below_alloc | apply pw_below_drewN | apply below_drew1 | refine below_set ?_ GE278.out) | exact HB.out)⟩
        (try clear HO271)
        (try clear HO276)
        (try clear BK278)
        (try clear HB)
        generalize (((w14.setCell ⟨gb278, 0, none⟩ (.int .i64 t272)).setCell ⟨gb278, 1, none⟩ (.int .i64 t273)).setCell ⟨gb278, 2, none⟩ (.slice Ao16 t274.length co16)) = w31 at n0_ n1_ n2_ n3_ ⊢
        have HO271 := n0_
        have HO276 := n1_
        have BK278 := n2_
        have HB := n3_
        clear n0_ n1_ n2_ n3_
        have n0_ := Aside0.mk (Kd.R_drew HO271.out)
        have n1_ := Aside0.mk (Kd.R_drew HO276.out)
        have n2_ := Aside0.mk (blk_drew BK278.out)
        have n3_ := Aside0.mk (below_drew1 HB.out)
        clear HO271
        clear HO276
        clear BK278
        clear HB
        have HO271 := n0_
        have HO276 := n1_
        have BK278 := n2_
        have HB := n3_
        clear n0_ n1_ n2_ n3_
        refine start_ (n := 27) (S := fun w' => True) (ds := []) #[false, false, false, false, false, false, false, false, false, false, false, false, false, false, false, false, false, false, false, false, false, false, false, false, false, false, false] (by kernel_rfl) rfl rfl trivial (fun hHeld => ?_); refine with_tabW laws_FnRules.tab7 laws_FnRules.bits7 (fun HT_ HW_ => ?_)
        generalize w31.drew = w32 at HO271 HO276 BK278 HB hHeld ⊢
        refine pure_ (i := 0) (N := some 39) (v := ?_) (a' := ?_) #[true, false, false, false, false, false, false, false, false, false, false, false, false, false, false, false, false, false, false, false, false, false, false, false, false, false, false] rfl rfl (any_of HT_.out (by kernel_rfl)) (fun _ _ _ h => h) (Or.inl ⟨by rfl, ?_⟩) ?_ ?_
        rotate_left
        · intro w'
          go_simp
          with_reducible rfl
        rotate_left
        · simp only [Act.put, List.setIfInBounds_toArray, List.set_cons_zero, List.set_cons_succ, i64_w, i32_w]
          rfl
        refine pure_ (i := 1) (N := some 40) (v := ?_) (a' := ?_) #[true, true, false, false, false, false, false, false, false, false, false, false, false, false, false, false, false, false, false, false, false, false, false, false, false, false, false] rfl rfl (any_of HT_.out (by kernel_rfl)) (fun _ _ _ h => h) (Or.inl ⟨by rfl, ?_⟩) ?_ ?_
        rotate_left
        · intro w'
          go_simp
          with_reducible rfl
        rotate_left
        · simp only [Act.put, List.setIfInBounds_toArray, List.set_cons_zero, List.set_cons_succ, i64_w, i32_w]
          rfl
        refine pure_ (i := 2) (N := some 41) (v := ?_) (a' := ?_) #[true, true, true, false, false, false, false, false, false, false, false, false, false, false, false, false, false, false, false, false, false, false, false, false, false, false, false] rfl rfl (any_of HT_.out (by kernel_rfl)) (fun _ _ _ h => h) (Or.inl ⟨by rfl, ?_⟩) ?_ ?_
        rotate_left
        · intro w'
          go_simp
          with_reducible rfl
        rotate_left
        · simp only [Act.put, List.setIfInBounds_toArray, List.set_cons_zero, List.set_cons_succ, i64_w, i32_w]
          rfl
        refine pure_ (i := 3) (N := some 42) (v := undef) (a' := ?_) #[true, true, true, true, false, false, false, false, false, false, false, false, false, false, false, false, false, false, false, false, false, false, false, false, false, false, false] rfl rfl (any_of HT_.out (by kernel_rfl)) (fun _ _ _ h => h) (Or.inr ⟨by rfl, rfl⟩) ?_ ?_
        rotate_left
        · simp only [Act.put, List.setIfInBounds_toArray, List.set_cons_zero, List.set_cons_succ, i64_w, i32_w]
          rfl
        refine pure_ (i := 4) (N := some 43) (v := undef) (a' := ?_) #[true, true, true, true, true, false, false, false, false, false, false, false, false, false, false, false, false, false, false, false, false, false, false, false, false, false, false] rfl rfl (any_of HT_.out (by kernel_rfl)) (fun _ _ _ h => h) (Or.inr ⟨by rfl, rfl⟩) ?_ ?_
        rotate_left
        · simp only [Act.put, List.setIfInBounds_toArray, List.set_cons_zero, List.set_cons_succ, i64_w, i32_w]
          rfl
        refine pure_ (i := 5) (N := some 44) (v := undef) (a' := ?_) #[true, true, true, true, true, true, false, false, false, false, false, false, false, false, false, false, false, false, false, false, false, false, false, false, false, false, false] rfl rfl (any_of HT_.out (by kernel_rfl)) (fun _ _ _ h => h) (Or.inr ⟨by rfl, rfl⟩) ?_ ?_
        rotate_left
        · simp only [Act.put, List.setIfInBounds_toArray, List.set_cons_zero, List.set_cons_succ, i64_w, i32_w]
          rfl
        refine pure_ (i := 6) (N := some 45) (v := undef) (a' := ?_) #[true, true, true, true, true, true, true, false, false, false, false, false, false, false, false, false, false, false, false, false, false, false, false, false, false, false, false] rfl rfl (any_of HT_.out (by kernel_rfl)) (fun _ _ _ h => h) (Or.inr ⟨by rfl, rfl⟩) ?_ ?_
        rotate_left
        · simp only [Act.put, List.setIfInBounds_toArray, List.set_cons_zero, List.set_cons_succ, i64_w, i32_w]
          rfl
        refine pure_ (i := 7) (N := some 46) (v := ?_) (a' := ?_) #[true, true, true, true, true, true, true, true, false, false, false, false, false, false, false, false, false, false, false, false, false, false, false, false, false, false, false] rfl rfl (any_of HT_.out (by kernel_rfl)) (fun _ _ _ h => h) (Or.inl ⟨by rfl, ?_⟩) ?_ ?_
        rotate_left
        · intro w'
          go_simp
          with_reducible rfl
        rotate_left
        · simp only [Act.put, List.setIfInBounds_toArray, List.set_cons_zero, List.set_cons_succ, i64_w, i32_w]
          rfl
        refine pure_ (i := 8) (N := some 47) (v := ?_) (a' := ?_) #[true, true, true, true, true, true, true, true, true, false, false, false, false, false, false, false, false, false, false, false, false, false, false, false, false, false, false] rfl rfl (any_of HT_.out (by kernel_rfl)) (fun _ _ _ h => h) (Or.inl ⟨by rfl, ?_⟩) ?_ ?_
        rotate_left
        · intro w'
          go_simp
          with_reducible rfl
        rotate_left
        · simp only [Act.put, List.setIfInBounds_toArray, List.set_cons_zero, List.set_cons_succ, i64_w, i32_w]
          rfl
        refine pure_ (i := 9) (N := some 48) (v := undef) (a' := ?_) #[true, true, true, true, true, true, true, true, true, true, false, false, false, false, false, false, false, false, false, false, false, false, false, false, false, false, false] rfl rfl (any_of HT_.out (by kernel_rfl)) (fun _ _ _ h => h) (Or.inr ⟨by rfl, rfl⟩) ?_ ?_
        rotate_left
        · simp only [Act.put, List.setIfInBounds_toArray, List.set_cons_zero, List.set_cons_succ, i64_w, i32_w]
          rfl
        refine pure_ (i := 10) (N := some 49) (v := undef) (a' := ?_) #[true, true, true, true, true, true, true, true, true, true, true, false, false, false, false, false, false, false, false, false, false, false, false, false, false, false, false] rfl rfl (any_of HT_.out (by kernel_rfl)) (fun _ _ _ h => h) (Or.inr ⟨by rfl, rfl⟩) ?_ ?_
        rotate_left
        · simp only [Act.put, List.setIfInBounds_toArray, List.set_cons_zero, List.set_cons_succ, i64_w, i32_w]
          rfl
        refine pure_ (i := 11) (N := some 50) (v := undef) (a' := ?_) #[true, true, true, true, true, true, true, true, true, true, true, true, false, false, false, false, false, false, false, false, false, false, false, false, false, false, false] rfl rfl (any_of HT_.out (by kernel_rfl)) (fun _ _ _ h => h) (Or.inr ⟨by rfl, rfl⟩) ?_ ?_
        rotate_left
        · simp only [Act.put, List.setIfInBounds_toArray, List.set_cons_zero, List.set_cons_succ, i64_w, i32_w]
          rfl
        refine pure_ (i := 12) (N := some 51) (v := ?_) (a' := ?_) #[true, true, true, true, true, true, true, true, true, true, true, true, true, false, false, false, false, false, false, false, false, false, false, false, false, false, false] rfl rfl (any_of HT_.out (by kernel_rfl)) (fun _ _ _ h => h) (Or.inl ⟨by rfl, ?_⟩) ?_ ?_
        rotate_left
        · intro w'
          go_simp
          with_reducible rfl
        rotate_left
        · simp only [Act.put, List.setIfInBounds_toArray, List.set_cons_zero, List.set_cons_succ, i64_w, i32_w]
          rfl
        refine pure_ (i := 13) (N := some 52) (v := ?_) (a' := ?_) #[true, true, true, true, true, true, true, true, true, true, true, true, true, true, false, false, false, false, false, false, false, false, false, false, false, false, false] rfl rfl (any_of HT_.out (by kernel_rfl)) (fun _ _ _ h => h) (Or.inl ⟨by rfl, ?_⟩) ?_ ?_
        rotate_left
        · intro w'
          go_simp
          with_reducible rfl
        rotate_left
        · simp only [Act.put, List.setIfInBounds_toArray, List.set_cons_zero, List.set_cons_succ, i64_w, i32_w]
          rfl
        refine pure_ (i := 14) (N := some 53) (v := undef) (a' := ?_) #[true, true, true, true, true, true, true, true, true, true, true, true, true, true, true, false, false, false, false, false, false, false, false, false, false, false, false] rfl rfl (any_of HT_.out (by kernel_rfl)) (fun _ _ _ h => h) (Or.inr ⟨by rfl, rfl⟩) ?_ ?_
        rotate_left
        · simp only [Act.put, List.setIfInBounds_toArray, List.set_cons_zero, List.set_cons_succ, i64_w, i32_w]
          rfl
        refine pure_ (i := 15) (N := some 54) (v := undef) (a' := ?_) #[true, true, true, true, true, true, true, true, true, true, true, true, true, true, true, true, false, false, false, false, false, false, false, false, false, false, false] rfl rfl (any_of HT_.out (by kernel_rfl)) (fun _ _ _ h => h) (Or.inr ⟨by rfl, rfl⟩) ?_ ?_
        rotate_left
        · simp only [Act.put, List.setIfInBounds_toArray, List.set_cons_zero, List.set_cons_succ, i64_w, i32_w]
          rfl
        refine pure_ (i := 16) (N := some 55) (v := undef) (a' := ?_) #[true, true, true, true, true, true, true, true, true, true, true, true, true, true, true, true, true, false, false, false, false, false, false, false, false, false, false] rfl rfl (any_of HT_.out (by kernel_rfl)) (fun _ _ _ h => h) (Or.inr ⟨by rfl, rfl⟩) ?_ ?_
        rotate_left
        · simp only [Act.put, List.setIfInBounds_toArray, List.set_cons_zero, List.set_cons_succ, i64_w, i32_w]
          rfl
        refine pure_ (i := 17) (N := some 56) (v := undef) (a' := ?_) #[true, true, true, true, true, true, true, true, true, true, true, true, true, true, true, true, true, true, false, false, false, false, false, false, false, false, false] rfl rfl (any_of HT_.out (by kernel_rfl)) (fun _ _ _ h => h) (Or.inr ⟨by rfl, rfl⟩) ?_ ?_
        rotate_left
        · simp only [Act.put, List.setIfInBounds_toArray, List.set_cons_zero, List.set_cons_succ, i64_w, i32_w]
          rfl
        refine pure_ (i := 18) (N := some 57) (v := undef) (a' := ?_) #[true, true, true, true, true, true, true, true, true, true, true, true, true, true, true, true, true, true, true, false, false, false, false, false, false, false, false] rfl rfl (any_of HT_.out (by kernel_rfl)) (fun _ _ _ h => h) (Or.inr ⟨by rfl, rfl⟩) ?_ ?_
        rotate_left
        · simp only [Act.put, List.setIfInBounds_toArray, List.set_cons_zero, List.set_cons_succ, i64_w, i32_w]
          rfl
        refine pure_ (i := 19) (N := some 58) (v := undef) (a' := ?_) #[true, true, true, true, true, true, true, true, true, true, true, true, true, true, true, true, true, true, true, true, false, false, false, false, false, false, false] rfl rfl (any_of HT_.out (by kernel_rfl)) (fun _ _ _ h => h) (Or.inr ⟨by rfl, rfl⟩) ?_ ?_
        rotate_left
        · simp only [Act.put, List.setIfInBounds_toArray, List.set_cons_zero, List.set_cons_succ, i64_w, i32_w]
          rfl
        refine pure_ (i := 20) (N := some 59) (v := undef) (a' := ?_) #[true, true, true, true, true, true, true, true, true, true, true, true, true, true, true, true, true, true, true, true, true, false, false, false, false, false, false] rfl rfl (any_of HT_.out (by kernel_rfl)) (fun _ _ _ h => h) (Or.inr ⟨by rfl, rfl⟩) ?_ ?_
        rotate_left
        · simp only [Act.put, List.setIfInBounds_toArray, List.set_cons_zero, List.set_cons_succ, i64_w, i32_w]
          rfl
        refine pure_ (i := 21) (N := some 60) (v := undef) (a' := ?_) #[true, true, true, true, true, true, true, true, true, true, true, true, true, true, true, true, true, true, true, true, true, true, false, false, false, false, false] rfl rfl (any_of HT_.out (by kernel_rfl)) (fun _ _ _ h => h) (Or.inr ⟨by rfl, rfl⟩) ?_ ?_
        rotate_left
        · simp only [Act.put, List.setIfInBounds_toArray, List.set_cons_zero, List.set_cons_succ, i64_w, i32_w]
          rfl
        refine pure_ (i := 22) (N := some 61) (v := undef) (a' := ?_) #[true, true, true, true, true, true, true, true, true, true, true, true, true, true, true, true, true, true, true, true, true, true, true, false, false, false, false] rfl rfl (any_of HT_.out (by kernel_rfl)) (fun _ _ _ h => h) (Or.inr ⟨by rfl, rfl⟩) ?_ ?_
        rotate_left
        · simp only [Act.put, List.setIfInBounds_toArray, List.set_cons_zero, List.set_cons_succ, i64_w, i32_w]
          rfl
        refine pure_ (i := 23) (N := some 62) (v := undef) (a' := ?_) #[true, true, true, true, true, true, true, true, true, true, true, true, true, true, true, true, true, true, true, true, true, true, true, true, false, false, false] rfl rfl (any_of HT_.out (by kernel_rfl)) (fun _ _ _ h => h) (Or.inr ⟨by rfl, rfl⟩) ?_ ?_
        rotate_left
        · simp only [Act.put, List.setIfInBounds_toArray, List.set_cons_zero, List.set_cons_succ, i64_w, i32_w]
          rfl
        refine pure_ (i := 24) (N := some 63) (v := undef) (a' := ?_) #[true, true, true, true, true, true, true, true, true, true, true, true, true, true, true, true, true, true, true, true, true, true, true, true, true, false, false] rfl rfl (any_of HT_.out (by kernel_rfl)) (fun _ _ _ h => h) (Or.inr ⟨by rfl, rfl⟩) ?_ ?_
        rotate_left
        · simp only [Act.put, List.setIfInBounds_toArray, List.set_cons_zero, List.set_cons_succ, i64_w, i32_w]
          rfl
        refine pure_ (i := 25) (N := some 64) (v := undef) (a' := ?_) #[true, true, true, true, true, true, true, true, true, true, true, true, true, true, true, true, true, true, true, true, true, true, true, true, true, true, false] rfl rfl (any_of HT_.out (by kernel_rfl)) (fun _ _ _ h => h) (Or.inr ⟨by rfl, rfl⟩) ?_ ?_
        rotate_left
        · simp only [Act.put, List.setIfInBounds_toArray, List.set_cons_zero, List.set_cons_succ, i64_w, i32_w]
          rfl
        refine pure_ (i := 26) (N := some 65) (v := ?_) (a' := ?_) #[true, true, true, true, true, true, true, true, true, true, true, true, true, true, true, true, true, true, true, true, true, true, true, true, true, true, true] rfl rfl (any_of HT_.out (by kernel_rfl)) (fun _ _ _ h => h) (Or.inl ⟨by rfl, ?_⟩) ?_ ?_
        rotate_left
        · intro w'
          go_simp
          with_reducible rfl
        rotate_left
        · simp only [Act.put, List.setIfInBounds_toArray, List.set_cons_zero, List.set_cons_succ, i64_w, i32_w]
          rfl
        refine done_ (done_of HT_.out (by kernel_rfl)) ?_
        try go_wp2
        go_meet
        case rel => exact ⟨_, (true), (by first | rfl | (simp; done) | (simp [*]; done)), H', ⟨by first | omega | exact Nat.le_refl _⟩, ⟨by (with_reducible repeat (first | apply Kd.R_alloc | apply Kd.R_drewN | apply Kd.R_drew)); exact Kd.R_mono HO276.out (fun _ hk => trivial)⟩, ⟨by (with_reducible repeat (first | refine blk_drewN ?_ _ | refine blk_drew ?_ | refine blk_alloc ?_ _)); exact BK278.out⟩, ⟨by repeat (first | (with_reducible first | exact HB.out | apply below_alloc | apply pw_below_drewN | apply below_drew1 | refine below_set ?_ GE278.out) | exact HB.out)⟩⟩
    case rest =>
      clear HC9
      try clear c1
      try clear c2
      try clear p2
      try clear p6
      try clear c17
      try clear c18
      try clear c18b0
      try clear c18b1
      try clear c23
      obtain ⟨kq, x65_8, rfl, HA, HJ8, HO_279002, BK278, HB⟩ := hcut
      cases kq with
      | zero => exact absurd HA.out (by simp [laws_FnRules.j0])
      | succ kj8 =>
        have H := HA.out
        clear HA
        simp only [laws_FnRules.j0] at H
        by_cases c33 : x65_8 = true
        · subst c33
          have H1 : (some false) = some r := by rw [if_pos rfl] at H; exact H
          clear H
          have H := H1
          clear H1
          obtain rfl := Option.some.inj H
          go_wp2
          go_ret
          exact ⟨by first | rfl | (simp [errW_none, errW_some] <;> rfl) | (simp [*, errW_none, errW_some] <;> rfl), by repeat (first | (with_reducible first | exact HB.out | apply below_alloc | apply pw_below_drewN | apply below_drew1 | refine below_set ?_ GE278.out) | exact HB.out)⟩
        · replace c33 := Bool.eq_false_iff.mpr c33
          subst c33
          have H1 : ((laws_b10At.f l1 1 250).bind fun t280 => (if (wrap64 (1 + t266)) = 0 then (none) else (if (Int.tmod t280 (wrap64 (1 + t266))) = 0 then (if (wrap64 ((wrap64 (1 + t266)) * (wrap64 (2 + t267)))) = 0 then (none) else (if (Int.tmod t280 (wrap64 ((wrap64 (1 + t266)) * (wrap64 (2 + t267))))) = 0 then (if (wrap64 ((wrap64 ((wrap64 (1 + t266)) * (wrap64 (2 + t267)))) * (wrap64 (2 + t268)))) = 0 then (none) else ((impl_MeanYear.f kj8 t272 t273 t274).bind fun bt281 => (if bt281.2.2 = true then ((impl_IsLeap.f kj8 t272 t273 t274 t280).bind fun t284 => (if (t284 == ((Int.tmod t280 (wrap64 ((wrap64 ((wrap64 (1 + t266)) * (wrap64 (2 + t267)))) * (wrap64 (2 + t268))))) == 0)) = true then (some ((wrap64 (bt281.1 * (wrap64 ((wrap64 ((wrap64 (1 + t266)) * (wrap64 (2 + t267)))) * (wrap64 (2 + t268)))))) == (wrap64 (bt281.2.1 * (wrap64 ((wrap64 (365 * (wrap64 ((wrap64 ((wrap64 (1 + t266)) * (wrap64 (2 + t267)))) * (wrap64 (2 + t268)))))) + (t274.length : Int))))))) else (some false))) else (some false)))) else ((impl_MeanYear.f kj8 t272 t273 t274).bind fun bt285 => (if bt285.2.2 = true then ((impl_IsLeap.f kj8 t272 t273 t274 t280).bind fun t288 => (if (t288 == true) = true then (some ((wrap64 (bt285.1 * (wrap64 ((wrap64 ((wrap64 (1 + t266)) * (wrap64 (2 + t267)))) * (wrap64 (2 + t268)))))) == (wrap64 (bt285.2.1 * (wrap64 ((wrap64 (365 * (wrap64 ((wrap64 ((wrap64 (1 + t266)) * (wrap64 (2 + t267)))) * (wrap64 (2 + t268)))))) + (t274.length : Int))))))) else (some false))) else (some false))))) else ((impl_MeanYear.f kj8 t272 t273 t274).bind fun bt289 => (if bt289.2.2 = true then ((impl_IsLeap.f kj8 t272 t273 t274 t280).bind fun t292 => (if (t292 == false) = true then (some ((wrap64 (bt289.1 * (wrap64 ((wrap64 ((wrap64 (1 + t266)) * (wrap64 (2 + t267)))) * (wrap64 (2 + t268)))))) == (wrap64 (bt289.2.1 * (wrap64 ((wrap64 (365 * (wrap64 ((wrap64 ((wrap64 (1 + t266)) * (wrap64 (2 + t267)))) * (wrap64 (2 + t268)))))) + (t274.length : Int))))))) else (some false))) else (some false)))))) = some r := by rw [if_neg (show ¬ (false = true) by decide)] at H; exact H
          clear H
          have H := H1
          clear H1
          replace H := Option.bind_eq_some_iff.mp H
          obtain ⟨t280, A340, H⟩ := H
          replace H : (if (wrap64 (1 + t266)) = 0 then (none) else (if (Int.tmod t280 (wrap64 (1 + t266))) = 0 then (if (wrap64 ((wrap64 (1 + t266)) * (wrap64 (2 + t267)))) = 0 then (none) else (if (Int.tmod t280 (wrap64 ((wrap64 (1 + t266)) * (wrap64 (2 + t267))))) = 0 then (if (wrap64 ((wrap64 ((wrap64 (1 + t266)) * (wrap64 (2 + t267)))) * (wrap64 (2 + t268)))) = 0 then (none) else ((impl_MeanYear.f kj8 t272 t273 t274).bind fun bt281 => (if bt281.2.2 = true then ((impl_IsLeap.f kj8 t272 t273 t274 t280).bind fun t284 => (if (t284 == ((Int.tmod t280 (wrap64 ((wrap64 ((wrap64 (1 + t266)) * (wrap64 (2 + t267)))) * (wrap64 (2 + t268))))) == 0)) = true then (some ((wrap64 (bt281.1 * (wrap64 ((wrap64 ((wrap64 (1 + t266)) * (wrap64 (2 + t267)))) * (wrap64 (2 + t268)))))) == (wrap64 (bt281.2.1 * (wrap64 ((wrap64 (365 * (wrap64 ((wrap64 ((wrap64 (1 + t266)) * (wrap64 (2 + t267)))) * (wrap64 (2 + t268)))))) + (t274.length : Int))))))) else (some false))) else (some false)))) else ((impl_MeanYear.f kj8 t272 t273 t274).bind fun bt285 => (if bt285.2.2 = true then ((impl_IsLeap.f kj8 t272 t273 t274 t280).bind fun t288 => (if (t288 == true) = true then (some ((wrap64 (bt285.1 * (wrap64 ((wrap64 ((wrap64 (1 + t266)) * (wrap64 (2 + t267)))) * (wrap64 (2 + t268)))))) == (wrap64 (bt285.2.1 * (wrap64 ((wrap64 (365 * (wrap64 ((wrap64 ((wrap64 (1 + t266)) * (wrap64 (2 + t267)))) * (wrap64 (2 + t268)))))) + (t274.length : Int))))))) else (some false))) else (some false))))) else ((impl_MeanYear.f kj8 t272 t273 t274).bind fun bt289 => (if bt289.2.2 = true then ((impl_IsLeap.f kj8 t272 t273 t274 t280).bind fun t292 => (if (t292 == false) = true then (some ((wrap64 (bt289.1 * (wrap64 ((wrap64 ((wrap64 (1 + t266)) * (wrap64 (2 + t267)))) * (wrap64 (2 + t268)))))) == (wrap64 (bt289.2.1 * (wrap64 ((wrap64 (365 * (wrap64 ((wrap64 ((wrap64 (1 + t266)) * (wrap64 (2 + t267)))) * (wrap64 (2 + t268)))))) + (t274.length : Int))))))) else (some false))) else (some false))))) = some r := H
          have A34 := Aside0.mk A340
          clear A340
          by_cases c35 : (wrap64 (1 + t266)) = 0
          · rw [if_pos c35] at H
            exact absurd H (by simp)
          · rw [if_neg c35] at H
            have c35b0 : ((wrap64 (1 + t266)) == 0) = false := beq_eq_false_iff_ne.mpr c35
            have c35b1 : ((wrap64 (1 + t266)) != 0) = true := bne_iff_ne.mpr c35
            by_cases c36 : (Int.tmod t280 (wrap64 (1 + t266))) = 0
            · rw [if_pos c36] at H
              have c36b0 : ((Int.tmod t280 (wrap64 (1 + t266))) == 0) = true := beq_iff_eq.mpr c36
              have c36b1 : ((Int.tmod t280 (wrap64 (1 + t266))) != 0) = false := bne_eq_false_iff_eq.mpr c36
              clear c36
              by_cases c37 : (wrap64 ((wrap64 (1 + t266)) * (wrap64 (2 + t267)))) = 0
              · rw [if_pos c37] at H
                exact absurd H (by simp)
              · rw [if_neg c37] at H
                have c37b0 : ((wrap64 ((wrap64 (1 + t266)) * (wrap64 (2 + t267)))) == 0) = false := beq_eq_false_iff_ne.mpr c37
                have c37b1 : ((wrap64 ((wrap64 (1 + t266)) * (wrap64 (2 + t267)))) != 0) = true := bne_iff_ne.mpr c37
                by_cases c38 : (Int.tmod t280 (wrap64 ((wrap64 (1 + t266)) * (wrap64 (2 + t267))))) = 0
                · rw [if_pos c38] at H
                  have c38b0 : ((Int.tmod t280 (wrap64 ((wrap64 (1 + t266)) * (wrap64 (2 + t267))))) == 0) = true := beq_iff_eq.mpr c38
                  have c38b1 : ((Int.tmod t280 (wrap64 ((wrap64 (1 + t266)) * (wrap64 (2 + t267))))) != 0) = false := bne_eq_false_iff_eq.mpr c38
                  clear c38
                  by_cases c39 : (wrap64 ((wrap64 ((wrap64 (1 + t266)) * (wrap64 (2 + t267)))) * (wrap64 (2 + t268)))) = 0
                  · rw [if_pos c39] at H
                    exact absurd H (by simp)
                  · rw [if_neg c39] at H
                    have c39b0 : ((wrap64 ((wrap64 ((wrap64 (1 + t266)) * (wrap64 (2 + t267)))) * (wrap64 (2 + t268)))) == 0) = false := beq_eq_false_iff_ne.mpr c39
                    have c39b1 : ((wrap64 ((wrap64 ((wrap64 (1 + t266)) * (wrap64 (2 + t267)))) * (wrap64 (2 + t268)))) != 0) = true := bne_iff_ne.mpr c39
                    replace H := Option.bind_eq_some_iff.mp H
                    obtain ⟨⟨t281, t282, t283⟩, A400, H⟩ := H
                    replace H : (if t283 = true then ((impl_IsLeap.f kj8 t272 t273 t274 t280).bind fun t284 => (if (t284 == ((Int.tmod t280 (wrap64 ((wrap64 ((wrap64 (1 + t266)) * (wrap64 (2 + t267)))) * (wrap64 (2 + t268))))) == 0)) = true then (some ((wrap64 (t281 * (wrap64 ((wrap64 ((wrap64 (1 + t266)) * (wrap64 (2 + t267)))) * (wrap64 (2 + t268)))))) == (wrap64 (t282 * (wrap64 ((wrap64 (365 * (wrap64 ((wrap64 ((wrap64 (1 + t266)) * (wrap64 (2 + t267)))) * (wrap64 (2 + t268)))))) + (t274.length : Int))))))) else (some false))) else (some false)) = some r := H
                    have A40 := Aside0.mk A400
                    clear A400
                    by_cases c41 : t283 = true
                    · subst c41
                      have H1 : ((impl_IsLeap.f kj8 t272 t273 t274 t280).bind fun t284 => (if (t284 == ((Int.tmod t280 (wrap64 ((wrap64 ((wrap64 (1 + t266)) * (wrap64 (2 + t267)))) * (wrap64 (2 + t268))))) == 0)) = true then (some ((wrap64 (t281 * (wrap64 ((wrap64 ((wrap64 (1 + t266)) * (wrap64 (2 + t267)))) * (wrap64 (2 + t268)))))) == (wrap64 (t282 * (wrap64 ((wrap64 (365 * (wrap64 ((wrap64 ((wrap64 (1 + t266)) * (wrap64 (2 + t267)))) * (wrap64 (2 + t268)))))) + (t274.length : Int))))))) else (some false))) = some r := by rw [if_pos rfl] at H; exact H
                      clear H
                      have H := H1
                      clear H1
                      replace H := Option.bind_eq_some_iff.mp H
                      obtain ⟨t284, A420, H⟩ := H
                      replace H : (if (t284 == ((Int.tmod t280 (wrap64 ((wrap64 ((wrap64 (1 + t266)) * (wrap64 (2 + t267)))) * (wrap64 (2 + t268))))) == 0)) = true then (some ((wrap64 (t281 * (wrap64 ((wrap64 ((wrap64 (1 + t266)) * (wrap64 (2 + t267)))) * (wrap64 (2 + t268)))))) == (wrap64 (t282 * (wrap64 ((wrap64 (365 * (wrap64 ((wrap64 ((wrap64 (1 + t266)) * (wrap64 (2 + t267)))) * (wrap64 (2 + t268)))))) + (t274.length : Int))))))) else (some false)) = some r := H
                      have A42 := Aside0.mk A420
                      clear A420
                      by_cases c43 : (t284 == ((Int.tmod t280 (wrap64 ((wrap64 ((wrap64 (1 + t266)) * (wrap64 (2 + t267)))) * (wrap64 (2 + t268))))) == 0)) = true
                      · rw [if_pos c43] at H
                        have c43b0 : (t284 == ((Int.tmod t280 (wrap64 ((wrap64 ((wrap64 (1 + t266)) * (wrap64 (2 + t267)))) * (wrap64 (2 + t268))))) == 0)) = true := c43
                        (try (have c43b1 : decide (t284 = ((Int.tmod t280 (wrap64 ((wrap64 ((wrap64 (1 + t266)) * (wrap64 (2 + t267)))) * (wrap64 (2 + t268))))) == 0)) = true := by simpa using c43))
                        (try (have c43b2 : (t284 == ((Int.tmod t280 (wrap64 ((wrap64 ((wrap64 (1 + t266)) * (wrap64 (2 + t267)))) * (wrap64 (2 + t268))))) == 0)) = true := by simpa using c43))
                        clear c43
                        obtain rfl := Option.some.inj H
                        go_wp2_with (first | ((with_reducible refine gate_callee (f := 16) rfl ?_); refine goesL_ (some 67) rfl rfl Try.func16 (by kernel_rfl) rfl #[.slice A1 l1.length c1, .int .i64 1, .int .i64 250] rfl (by (try simp only [List.map_toArray, List.map_cons, List.map_nil]); first | done | rfl | (simp only [List.length_drop, List.length_take]; rfl)) ?_; (with_reducible refine (laws_b10At.calls _ _ l1 1 250 t280 _ ?side1 ?side2 A34.out).mono ?_); (case side1 => repeat (first | exact (Kd.C_below HR1.out HB.out) | (with_reducible refine Kd.C_alloc ?_ _) | (with_reducible refine Kd.C_drewN ?_ _) | (with_reducible refine Kd.C_drew ?_))); (case side2 => exact HC1.out); rintro e w' ⟨rfl, ⟨nd, rfl⟩⟩; refine ⟨_, rfl, ?_⟩; have hcz44_0 : wc.cell? ⟨gb278, 0, none⟩ = some (.int .i64 t272) := (blk_cell BK278.out 0).trans rfl; have hcz44_1 : wc.cell? ⟨gb278, 1, none⟩ = some (.int .i64 t273) := (blk_cell BK278.out 1).trans rfl; have hcz44_2 : wc.cell? ⟨gb278, 2, none⟩ = some (.slice Ao16 t274.length co16) := (blk_cell BK278.out 2).trans rfl; have hfz44_0 := blk_frozen BK278.out 0; have hfz44_1 := blk_frozen BK278.out 1; have hfz44_2 := blk_frozen BK278.out 2) | ((with_reducible refine gate_callee (f := 26) rfl ?_); refine goesL_ (some 86) rfl rfl Try.func26 (by kernel_rfl) rfl #[.agg #[.int .i64 t272, .int .i64 t273, .slice Ao16 t274.length co16]] rfl (by (try simp only [List.map_toArray, List.map_cons, List.map_nil]); first | done | rfl | (simp only [List.length_drop, List.length_take]; rfl)) ?_; (with_reducible refine (impl_MeanYear.calls kj8 t272 t273 _ _ t274 t281 t282 true _ ?side1 ?side2 A40.out).mono ?_); (case side1 => repeat (first | exact (Kd.R_reads' HO_279002.out).2.2 | (with_reducible refine Kd.C_alloc ?_ _) | (with_reducible refine Kd.C_drewN ?_ _) | (with_reducible refine Kd.C_drew ?_))); (case side2 => exact (Kd.R_reads' HO_279002.out).2.1); rintro e w45 ⟨rfl, hb⟩; refine ⟨_, rfl, ?_⟩; have n0_ := Aside0.mk (Kd.R_below (by (with_reducible repeat (first | apply Kd.R_alloc | apply Kd.R_drewN | apply Kd.R_drew)); exact HO_279002.out) hb); have n1_ := Aside0.mk (blk_below (g := gb278) (o := .cells #[.int .i64 t272, .int .i64 t273, .slice Ao16 t274.length co16] 34 (0, 0)) (by (with_reducible repeat (first | refine blk_drewN ?_ _ | refine blk_drew ?_ | refine blk_alloc ?_ _)); exact BK278.out) hb); have n2_ := Aside0.mk (below_step (by repeat (first | (with_reducible first | exact HB.out | apply below_alloc | apply pw_below_drewN | apply below_drew1 | refine below_set ?_ GE278.out) | exact HB.out)) hb); clear HO_279002; clear BK278; clear HB; have HO_279002 := n0_; have BK278 := n1_; have HB := n2_; clear n0_ n1_ n2_; (try clear hb); (try clear hb2); (try clear hk); (try clear hi); have hcz46_0 : w45.cell? ⟨gb278, 0, none⟩ = some (.int .i64 t272) := (blk_cell BK278.out 0).trans rfl; have hcz46_1 : w45.cell? ⟨gb278, 1, none⟩ = some (.int .i64 t273) := (blk_cell BK278.out 1).trans rfl; have hcz46_2 : w45.cell? ⟨gb278, 2, none⟩ = some (.slice Ao16 t274.length co16) := (blk_cell BK278.out 2).trans rfl; have hfz46_0 := blk_frozen BK278.out 0; have hfz46_1 := blk_frozen BK278.out 1; have hfz46_2 := blk_frozen BK278.out 2) | (go_at_call 29; (with_reducible refine (impl_IsLeap.calls kj8 t272 t273 _ _ t274 t280 t284 _ ?side1 ?side2 A42.out).mono ?_); (case side1 => repeat (first | exact (Kd.R_reads' HO_279002.out).2.2 | (with_reducible refine Kd.C_alloc ?_ _) | (with_reducible refine Kd.C_drewN ?_ _) | (with_reducible refine Kd.C_drew ?_))); (case side2 => exact (Kd.R_reads' HO_279002.out).2.1); rintro e w47 ⟨rfl, hb⟩; have n0_ := Aside0.mk (Kd.R_below (by (with_reducible repeat (first | apply Kd.R_alloc | apply Kd.R_drewN | apply Kd.R_drew)); exact HO_279002.out) hb); have n1_ := Aside0.mk (blk_below (g := gb278) (o := .cells #[.int .i64 t272, .int .i64 t273, .slice Ao16 t274.length co16] 34 (0, 0)) (by (with_reducible repeat (first | refine blk_drewN ?_ _ | refine blk_drew ?_ | refine blk_alloc ?_ _)); exact BK278.out) hb); have n2_ := Aside0.mk (below_step (by repeat (first | (with_reducible first | exact HB.out | apply below_alloc | apply pw_below_drewN | apply below_drew1 | refine below_set ?_ GE278.out) | exact HB.out)) hb); clear HO_279002; clear BK278; clear HB; have HO_279002 := n0_; have BK278 := n1_; have HB := n2_; clear n0_ n1_ n2_; (try clear hb); (try clear hb2); (try clear hk); (try clear hi); have hcz48_0 : w47.cell? ⟨gb278, 0, none⟩ = some (.int .i64 t272) := (blk_cell BK278.out 0).trans rfl; have hcz48_1 : w47.cell? ⟨gb278, 1, none⟩ = some (.int .i64 t273) := (blk_cell BK278.out 1).trans rfl; have hcz48_2 : w47.cell? ⟨gb278, 2, none⟩ = some (.slice Ao16 t274.length co16) := (blk_cell BK278.out 2).trans rfl; have hfz48_0 := blk_frozen BK278.out 0; have hfz48_1 := blk_frozen BK278.out 1; have hfz48_2 := blk_frozen BK278.out 2))
                        go_ret
                        exact ⟨by first | rfl | (simp [errW_none, errW_some] <;> rfl) | (simp [*, errW_none, errW_some] <;> rfl), by repeat (first | (with_reducible first | exact HB.out | apply below_alloc | apply pw_below_drewN | apply below_drew1 | refine below_set ?_ GE278.out) | exact HB.out)⟩
                      · rw [if_neg c43] at H
                        have c43b0 : (t284 == ((Int.tmod t280 (wrap64 ((wrap64 ((wrap64 (1 + t266)) * (wrap64 (2 + t267)))) * (wrap64 (2 + t268))))) == 0)) = false := by simpa using c43
                        (try (have c43b1 : decide (t284 = ((Int.tmod t280 (wrap64 ((wrap64 ((wrap64 (1 + t266)) * (wrap64 (2 + t267)))) * (wrap64 (2 + t268))))) == 0)) = false := by simpa using c43))
                        (try (have c43b2 : (t284 == ((Int.tmod t280 (wrap64 ((wrap64 ((wrap64 (1 + t266)) * (wrap64 (2 + t267)))) * (wrap64 (2 + t268))))) == 0)) = false := by simpa using c43))
                        (try (have c43b3 : ¬ (t284 = ((Int.tmod t280 (wrap64 ((wrap64 ((wrap64 (1 + t266)) * (wrap64 (2 + t267)))) * (wrap64 (2 + t268))))) == 0)) := by simpa using c43))
                        clear c43
                        obtain rfl := Option.some.inj H
                        go_wp2_with (first | ((with_reducible refine gate_callee (f := 16) rfl ?_); refine goesL_ (some 67) rfl rfl Try.func16 (by kernel_rfl) rfl #[.slice A1 l1.length c1, .int .i64 1, .int .i64 250] rfl (by (try simp only [List.map_toArray, List.map_cons, List.map_nil]); first | done | rfl | (simp only [List.length_drop, List.length_take]; rfl)) ?_; (with_reducible refine (laws_b10At.calls _ _ l1 1 250 t280 _ ?side1 ?side2 A34.out).mono ?_); (case side1 => repeat (first | exact (Kd.C_below HR1.out HB.out) | (with_reducible refine Kd.C_alloc ?_ _) | (with_reducible refine Kd.C_drewN ?_ _) | (with_reducible refine Kd.C_drew ?_))); (case side2 => exact HC1.out); rintro e w' ⟨rfl, ⟨nd, rfl⟩⟩; refine ⟨_, rfl, ?_⟩; have hcz49_0 : wc.cell? ⟨gb278, 0, none⟩ = some (.int .i64 t272) := (blk_cell BK278.out 0).trans rfl; have hcz49_1 : wc.cell? ⟨gb278, 1, none⟩ = some (.int .i64 t273) := (blk_cell BK278.out 1).trans rfl; have hcz49_2 : wc.cell? ⟨gb278, 2, none⟩ = some (.slice Ao16 t274.length co16) := (blk_cell BK278.out 2).trans rfl; have hfz49_0 := blk_frozen BK278.out 0; have hfz49_1 := blk_frozen BK278.out 1; have hfz49_2 := blk_frozen BK278.out 2) | ((with_reducible refine gate_callee (f := 26) rfl ?_); refine goesL_ (some 86) rfl rfl Try.func26 (by kernel_rfl) rfl #[.agg #[.int .i64 t272, .int .i64 t273, .slice Ao16 t274.length co16]] rfl (by (try simp only [List.map_toArray, List.map_cons, List.map_nil]); first | done | rfl | (simp only [List.length_drop, List.length_take]; rfl)) ?_; (with_reducible refine (impl_MeanYear.calls kj8 t272 t273 _ _ t274 t281 t282 true _ ?side1 ?side2 A40.out).mono ?_); (case side1 => repeat (first | exact (Kd.R_reads' HO_279002.out).2.2 | (with_reducible refine Kd.C_alloc ?_ _) | (with_reducible refine Kd.C_drewN ?_ _) | (with_reducible refine Kd.C_drew ?_))); (case side2 => exact (Kd.R_reads' HO_279002.out).2.1); rintro e w50 ⟨rfl, hb⟩; refine ⟨_, rfl, ?_⟩; have n0_ := Aside0.mk (Kd.R_below (by (with_reducible repeat (first | apply Kd.R_alloc | apply Kd.R_drewN | apply Kd.R_drew)); exact HO_279002.out) hb); have n1_ := Aside0.mk (blk_below (g := gb278) (o := .cells #[.int .i64 t272, .int .i64 t273, .slice Ao16 t274.length co16] 34 (0, 0)) (by (with_reducible repeat (first | refine blk_drewN ?_ _ | refine blk_drew ?_ | refine blk_alloc ?_ _)); exact BK278.out) hb); have n2_ := Aside0.mk (below_step (by repeat (first | (with_reducible first | exact HB.out | apply below_alloc | apply pw_below_drewN | apply below_drew1 | refine below_set ?_ GE278.out) | exact HB.out)) hb); clear HO_279002; clear BK278; clear HB; have HO_279002 := n0_; have BK278 := n1_; have HB := n2_; clear n0_ n1_ n2_; (try clear hb); (try clear hb2); (try clear hk); (try clear hi); have hcz51_0 : w50.cell? ⟨gb278, 0, none⟩ = some (.int .i64 t272) := (blk_cell BK278.out 0).trans rfl; have hcz51_1 : w50.cell? ⟨gb278, 1, none⟩ = some (.int .i64 t273) := (blk_cell BK278.out 1).trans rfl; have hcz51_2 : w50.cell? ⟨gb278, 2, none⟩ = some (.slice Ao16 t274.length co16) := (blk_cell BK278.out 2).trans rfl; have hfz51_0 := blk_frozen BK278.out 0; have hfz51_1 := blk_frozen BK278.out 1; have hfz51_2 := blk_frozen BK278.out 2) | (go_at_call 29; (with_reducible refine (impl_IsLeap.calls kj8 t272 t273 _ _ t274 t280 t284 _ ?side1 ?side2 A42.out).mono ?_); (case side1 => repeat (first | exact (Kd.R_reads' HO_279002.out).2.2 | (with_reducible refine Kd.C_alloc ?_ _) | (with_reducible refine Kd.C_drewN ?_ _) | (with_reducible refine Kd.C_drew ?_))); (case side2 => exact (Kd.R_reads' HO_279002.out).2.1); rintro e w52 ⟨rfl, hb⟩; have n0_ := Aside0.mk (Kd.R_below (by (with_reducible repeat (first | apply Kd.R_alloc | apply Kd.R_drewN | apply Kd.R_drew)); exact HO_279002.out) hb); have n1_ := Aside0.mk (blk_below (g := gb278) (o := .cells #[.int .i64 t272, .int .i64 t273, .slice Ao16 t274.length co16] 34 (0, 0)) (by (with_reducible repeat (first | refine blk_drewN ?_ _ | refine blk_drew ?_ | refine blk_alloc ?_ _)); exact BK278.out) hb); have n2_ := Aside0.mk (below_step (by repeat (first | (with_reducible first | exact HB.out | apply below_alloc | apply pw_below_drewN | apply below_drew1 | refine below_set ?_ GE278.out) | exact HB.out)) hb); clear HO_279002; clear BK278; clear HB; have HO_279002 := n0_; have BK278 := n1_; have HB := n2_; clear n0_ n1_ n2_; (try clear hb); (try clear hb2); (try clear hk); (try clear hi)))
                        go_ret
                        exact ⟨by first | rfl | (simp [errW_none, errW_some] <;> rfl) | (simp [*, errW_none, errW_some] <;> rfl), by repeat (first | (with_reducible first | exact HB.out | apply below_alloc | apply pw_below_drewN | apply below_drew1 | refine below_set ?_ GE278.out) | exact HB.out)⟩
                    · replace c41 := Bool.eq_false_iff.mpr c41
                      subst c41
                      have H1 : (some false) = some r := by rw [if_neg (show ¬ (false = true) by decide)] at H; exact H
                      clear H
                      have H := H1
                      clear H1
                      obtain rfl := Option.some.inj H
                      go_wp2_with (first | ((with_reducible refine gate_callee (f := 16) rfl ?_); refine goesL_ (some 67) rfl rfl Try.func16 (by kernel_rfl) rfl #[.slice A1 l1.length c1, .int .i64 1, .int .i64 250] rfl (by (try simp only [List.map_toArray, List.map_cons, List.map_nil]); first | done | rfl | (simp only [List.length_drop, List.length_take]; rfl)) ?_; (with_reducible refine (laws_b10At.calls _ _ l1 1 250 t280 _ ?side1 ?side2 A34.out).mono ?_); (case side1 => repeat (first | exact (Kd.C_below HR1.out HB.out) | (with_reducible refine Kd.C_alloc ?_ _) | (with_reducible refine Kd.C_drewN ?_ _) | (with_reducible refine Kd.C_drew ?_))); (case side2 => exact HC1.out); rintro e w' ⟨rfl, ⟨nd, rfl⟩⟩; refine ⟨_, rfl, ?_⟩; have hcz53_0 : wc.cell? ⟨gb278, 0, none⟩ = some (.int .i64 t272) := (blk_cell BK278.out 0).trans rfl; have hcz53_1 : wc.cell? ⟨gb278, 1, none⟩ = some (.int .i64 t273) := (blk_cell BK278.out 1).trans rfl; have hcz53_2 : wc.cell? ⟨gb278, 2, none⟩ = some (.slice Ao16 t274.length co16) := (blk_cell BK278.out 2).trans rfl; have hfz53_0 := blk_frozen BK278.out 0; have hfz53_1 := blk_frozen BK278.out 1; have hfz53_2 := blk_frozen BK278.out 2) | ((with_reducible refine gate_callee (f := 26) rfl ?_); refine goesL_ (some 86) rfl rfl Try.func26 (by kernel_rfl) rfl #[.agg #[.int .i64 t272, .int .i64 t273, .slice Ao16 t274.length co16]] rfl (by (try simp only [List.map_toArray, List.map_cons, List.map_nil]); first | done | rfl | (simp only [List.length_drop, List.length_take]; rfl)) ?_; (with_reducible refine (impl_MeanYear.calls kj8 t272 t273 _ _ t274 t281 t282 false _ ?side1 ?side2 A40.out).mono ?_); (case side1 => repeat (first | exact (Kd.R_reads' HO_279002.out).2.2 | (with_reducible refine Kd.C_alloc ?_ _) | (with_reducible refine Kd.C_drewN ?_ _) | (with_reducible refine Kd.C_drew ?_))); (case side2 => exact (Kd.R_reads' HO_279002.out).2.1); rintro e w54 ⟨rfl, hb⟩; refine ⟨_, rfl, ?_⟩; have n0_ := Aside0.mk (Kd.R_below (by (with_reducible repeat (first | apply Kd.R_alloc | apply Kd.R_drewN | apply Kd.R_drew)); exact HO_279002.out) hb); have n1_ := Aside0.mk (blk_below (g := gb278) (o := .cells #[.int .i64 t272, .int .i64 t273, .slice Ao16 t274.length co16] 34 (0, 0)) (by (with_reducible repeat (first | refine blk_drewN ?_ _ | refine blk_drew ?_ | refine blk_alloc ?_ _)); exact BK278.out) hb); have n2_ := Aside0.mk (below_step (by repeat (first | (with_reducible first | exact HB.out | apply below_alloc | apply pw_below_drewN | apply below_drew1 | refine below_set ?_ GE278.out) | exact HB.out)) hb); clear HO_279002; clear BK278; clear HB; have HO_279002 := n0_; have BK278 := n1_; have HB := n2_; clear n0_ n1_ n2_; (try clear hb); (try clear hb2); (try clear hk); (try clear hi)))
                      go_ret
                      exact ⟨by first | rfl | (simp [errW_none, errW_some] <;> rfl) | (simp [*, errW_none, errW_some] <;> rfl), by repeat (first | (with_reducible first | exact HB.out | apply below_alloc | apply pw_below_drewN | apply below_drew1 | refine below_set ?_ GE278.out) | exact HB.out)⟩
                · rw [if_neg c38] at H
                  have c38b0 : ((Int.tmod t280 (wrap64 ((wrap64 (1 + t266)) * (wrap64 (2 + t267))))) == 0) = false := beq_eq_false_iff_ne.mpr c38
                  have c38b1 : ((Int.tmod t280 (wrap64 ((wrap64 (1 + t266)) * (wrap64 (2 + t267))))) != 0) = true := bne_iff_ne.mpr c38
                  replace H := Option.bind_eq_some_iff.mp H
                  obtain ⟨⟨t285, t286, t287⟩, A550, H⟩ := H
                  replace H : (if t287 = true then ((impl_IsLeap.f kj8 t272 t273 t274 t280).bind fun t288 => (if (t288 == true) = true then (some ((wrap64 (t285 * (wrap64 ((wrap64 ((wrap64 (1 + t266)) * (wrap64 (2 + t267)))) * (wrap64 (2 + t268)))))) == (wrap64 (t286 * (wrap64 ((wrap64 (365 * (wrap64 ((wrap64 ((wrap64 (1 + t266)) * (wrap64 (2 + t267)))) * (wrap64 (2 + t268)))))) + (t274.length : Int))))))) else (some false))) else (some false)) = some r := H
                  have A55 := Aside0.mk A550
                  clear A550
                  by_cases c56 : t287 = true
                  · subst c56
                    have H1 : ((impl_IsLeap.f kj8 t272 t273 t274 t280).bind fun t288 => (if (t288 == true) = true then (some ((wrap64 (t285 * (wrap64 ((wrap64 ((wrap64 (1 + t266)) * (wrap64 (2 + t267)))) * (wrap64 (2 + t268)))))) == (wrap64 (t286 * (wrap64 ((wrap64 (365 * (wrap64 ((wrap64 ((wrap64 (1 + t266)) * (wrap64 (2 + t267)))) * (wrap64 (2 + t268)))))) + (t274.length : Int))))))) else (some false))) = some r := by rw [if_pos rfl] at H; exact H
                    clear H
                    have H := H1
                    clear H1
                    replace H := Option.bind_eq_some_iff.mp H
                    obtain ⟨t288, A570, H⟩ := H
                    replace H : (if (t288 == true) = true then (some ((wrap64 (t285 * (wrap64 ((wrap64 ((wrap64 (1 + t266)) * (wrap64 (2 + t267)))) * (wrap64 (2 + t268)))))) == (wrap64 (t286 * (wrap64 ((wrap64 (365 * (wrap64 ((wrap64 ((wrap64 (1 + t266)) * (wrap64 (2 + t267)))) * (wrap64 (2 + t268)))))) + (t274.length : Int))))))) else (some false)) = some r := H
                    have A57 := Aside0.mk A570
                    clear A570
                    by_cases c58 : (t288 == true) = true
                    · rw [if_pos c58] at H
                      have c58b0 : (t288 == true) = true := c58
                      (try (have c58b1 : decide (t288 = true) = true := by simpa using c58))
                      (try (have c58b2 : (t288 == true) = true := by simpa using c58))
                      clear c58
                      obtain rfl := Option.some.inj H
                      go_wp2_with (first | ((with_reducible refine gate_callee (f := 16) rfl ?_); refine goesL_ (some 67) rfl rfl Try.func16 (by kernel_rfl) rfl #[.slice A1 l1.length c1, .int .i64 1, .int .i64 250] rfl (by (try simp only [List.map_toArray, List.map_cons, List.map_nil]); first | done | rfl | (simp only [List.length_drop, List.length_take]; rfl)) ?_; (with_reducible refine (laws_b10At.calls _ _ l1 1 250 t280 _ ?side1 ?side2 A34.out).mono ?_); (case side1 => repeat (first | exact (Kd.C_below HR1.out HB.out) | (with_reducible refine Kd.C_alloc ?_ _) | (with_reducible refine Kd.C_drewN ?_ _) | (with_reducible refine Kd.C_drew ?_))); (case side2 => exact HC1.out); rintro e w' ⟨rfl, ⟨nd, rfl⟩⟩; refine ⟨_, rfl, ?_⟩; have hcz59_0 : wc.cell? ⟨gb278, 0, none⟩ = some (.int .i64 t272) := (blk_cell BK278.out 0).trans rfl; have hcz59_1 : wc.cell? ⟨gb278, 1, none⟩ = some (.int .i64 t273) := (blk_cell BK278.out 1).trans rfl; have hcz59_2 : wc.cell? ⟨gb278, 2, none⟩ = some (.slice Ao16 t274.length co16) := (blk_cell BK278.out 2).trans rfl; have hfz59_0 := blk_frozen BK278.out 0; have hfz59_1 := blk_frozen BK278.out 1; have hfz59_2 := blk_frozen BK278.out 2) | ((with_reducible refine gate_callee (f := 26) rfl ?_); refine goesL_ (some 86) rfl rfl Try.func26 (by kernel_rfl) rfl #[.agg #[.int .i64 t272, .int .i64 t273, .slice Ao16 t274.length co16]] rfl (by (try simp only [List.map_toArray, List.map_cons, List.map_nil]); first | done | rfl | (simp only [List.length_drop, List.length_take]; rfl)) ?_; (with_reducible refine (impl_MeanYear.calls kj8 t272 t273 _ _ t274 t285 t286 true _ ?side1 ?side2 A55.out).mono ?_); (case side1 => repeat (first | exact (Kd.R_reads' HO_279002.out).2.2 | (with_reducible refine Kd.C_alloc ?_ _) | (with_reducible refine Kd.C_drewN ?_ _) | (with_reducible refine Kd.C_drew ?_))); (case side2 => exact (Kd.R_reads' HO_279002.out).2.1); rintro e w60 ⟨rfl, hb⟩; refine ⟨_, rfl, ?_⟩; have n0_ := Aside0.mk (Kd.R_below (by (with_reducible repeat (first | apply Kd.R_alloc | apply Kd.R_drewN | apply Kd.R_drew)); exact HO_279002.out) hb); have n1_ := Aside0.mk (blk_below (g := gb278) (o := .cells #[.int .i64 t272, .int .i64 t273, .slice Ao16 t274.length co16] 34 (0, 0)) (by (with_reducible repeat (first | refine blk_drewN ?_ _ | refine blk_drew ?_ | refine blk_alloc ?_ _)); exact BK278.out) hb); have n2_ := Aside0.mk (below_step (by repeat (first | (with_reducible first | exact HB.out | apply below_alloc | apply pw_below_drewN | apply below_drew1 | refine below_set ?_ GE278.out) | exact HB.out)) hb); clear HO_279002; clear BK278; clear HB; have HO_279002 := n0_; have BK278 := n1_; have HB := n2_; clear n0_ n1_ n2_; (try clear hb); (try clear hb2); (try clear hk); (try clear hi); have hcz61_0 : w60.cell? ⟨gb278, 0, none⟩ = some (.int .i64 t272) := (blk_cell BK278.out 0).trans rfl; have hcz61_1 : w60.cell? ⟨gb278, 1, none⟩ = some (.int .i64 t273) := (blk_cell BK278.out 1).trans rfl; have hcz61_2 : w60.cell? ⟨gb278, 2, none⟩ = some (.slice Ao16 t274.length co16) := (blk_cell BK278.out 2).trans rfl; have hfz61_0 := blk_frozen BK278.out 0; have hfz61_1 := blk_frozen BK278.out 1; have hfz61_2 := blk_frozen BK278.out 2) | (go_at_call 29; (with_reducible refine (impl_IsLeap.calls kj8 t272 t273 _ _ t274 t280 t288 _ ?side1 ?side2 A57.out).mono ?_); (case side1 => repeat (first | exact (Kd.R_reads' HO_279002.out).2.2 | (with_reducible refine Kd.C_alloc ?_ _) | (with_reducible refine Kd.C_drewN ?_ _) | (with_reducible refine Kd.C_drew ?_))); (case side2 => exact (Kd.R_reads' HO_279002.out).2.1); rintro e w62 ⟨rfl, hb⟩; have n0_ := Aside0.mk (Kd.R_below (by (with_reducible repeat (first | apply Kd.R_alloc | apply Kd.R_drewN | apply Kd.R_drew)); exact HO_279002.out) hb); have n1_ := Aside0.mk (blk_below (g := gb278) (o := .cells #[.int .i64 t272, .int .i64 t273, .slice Ao16 t274.length co16] 34 (0, 0)) (by (with_reducible repeat (first | refine blk_drewN ?_ _ | refine blk_drew ?_ | refine blk_alloc ?_ _)); exact BK278.out) hb); have n2_ := Aside0.mk (below_step (by repeat (first | (with_reducible first | exact HB.out | apply below_alloc | apply pw_below_drewN | apply below_drew1 | refine below_set ?_ GE278.out) | exact HB.out)) hb); clear HO_279002; clear BK278; clear HB; have HO_279002 := n0_; have BK278 := n1_; have HB := n2_; clear n0_ n1_ n2_; (try clear hb); (try clear hb2); (try clear hk); (try clear hi); have hcz63_0 : w62.cell? ⟨gb278, 0, none⟩ = some (.int .i64 t272) := (blk_cell BK278.out 0).trans rfl; have hcz63_1 : w62.cell? ⟨gb278, 1, none⟩ = some (.int .i64 t273) := (blk_cell BK278.out 1).trans rfl; have hcz63_2 : w62.cell? ⟨gb278, 2, none⟩ = some (.slice Ao16 t274.length co16) := (blk_cell BK278.out 2).trans rfl; have hfz63_0 := blk_frozen BK278.out 0; have hfz63_1 := blk_frozen BK278.out 1; have hfz63_2 := blk_frozen BK278.out 2))
                      go_ret
                      exact ⟨by first | rfl | (simp [errW_none, errW_some] <;> rfl) | (simp [*, errW_none, errW_some] <;> rfl), by repeat (first | (with_reducible first | exact HB.out | apply below_alloc | apply pw_below_drewN | apply below_drew1 | refine below_set ?_ GE278.out) | exact HB.out)⟩
                    · rw [if_neg c58] at H
                      have c58b0 : (t288 == true) = false := by simpa using c58
                      (try (have c58b1 : decide (t288 = true) = false := by simpa using c58))
                      (try (have c58b2 : (t288 == true) = false := by simpa using c58))
                      (try (have c58b3 : ¬ (t288 = true) := by simpa using c58))
                      clear c58
                      obtain rfl := Option.some.inj H
                      go_wp2_with (first | ((with_reducible refine gate_callee (f := 16) rfl ?_); refine goesL_ (some 67) rfl rfl Try.func16 (by kernel_rfl) rfl #[.slice A1 l1.length c1, .int .i64 1, .int .i64 250] rfl (by (try simp only [List.map_toArray, List.map_cons, List.map_nil]); first | done | rfl | (simp only [List.length_drop, List.length_take]; rfl)) ?_; (with_reducible refine (laws_b10At.calls _ _ l1 1 250 t280 _ ?side1 ?side2 A34.out).mono ?_); (case side1 => repeat (first | exact (Kd.C_below HR1.out HB.out) | (with_reducible refine Kd.C_alloc ?_ _) | (with_reducible refine Kd.C_drewN ?_ _) | (with_reducible refine Kd.C_drew ?_))); (case side2 => exact HC1.out); rintro e w' ⟨rfl, ⟨nd, rfl⟩⟩; refine ⟨_, rfl, ?_⟩; have hcz64_0 : wc.cell? ⟨gb278, 0, none⟩ = some (.int .i64 t272) := (blk_cell BK278.out 0).trans rfl; have hcz64_1 : wc.cell? ⟨gb278, 1, none⟩ = some (.int .i64 t273) := (blk_cell BK278.out 1).trans rfl; have hcz64_2 : wc.cell? ⟨gb278, 2, none⟩ = some (.slice Ao16 t274.length co16) := (blk_cell BK278.out 2).trans rfl; have hfz64_0 := blk_frozen BK278.out 0; have hfz64_1 := blk_frozen BK278.out 1; have hfz64_2 := blk_frozen BK278.out 2) | ((with_reducible refine gate_callee (f := 26) rfl ?_); refine goesL_ (some 86) rfl rfl Try.func26 (by kernel_rfl) rfl #[.agg #[.int .i64 t272, .int .i64 t273, .slice Ao16 t274.length co16]] rfl (by (try simp only [List.map_toArray, List.map_cons, List.map_nil]); first | done | rfl | (simp only [List.length_drop, List.length_take]; rfl)) ?_; (with_reducible refine (impl_MeanYear.calls kj8 t272 t273 _ _ t274 t285 t286 true _ ?side1 ?side2 A55.out).mono ?_); (case side1 => repeat (first | exact (Kd.R_reads' HO_279002.out).2.2 | (with_reducible refine Kd.C_alloc ?_ _) | (with_reducible refine Kd.C_drewN ?_ _) | (with_reducible refine Kd.C_drew ?_))); (case side2 => exact (Kd.R_reads' HO_279002.out).2.1); rintro e w65 ⟨rfl, hb⟩; refine ⟨_, rfl, ?_⟩; have n0_ := Aside0.mk (Kd.R_below (by (with_reducible repeat (first | apply Kd.R_alloc | apply Kd.R_drewN | apply Kd.R_drew)); exact HO_279002.out) hb); have n1_ := Aside0.mk (blk_below (g := gb278) (o := .cells #[.int .i64 t272, .int .i64 t273, .slice Ao16 t274.length co16] 34 (0, 0)) (by (with_reducible repeat (first | refine blk_drewN ?_ _ | refine blk_drew ?_ | refine blk_alloc ?_ _)); exact BK278.out) hb); have n2_ := Aside0.mk (below_step (by repeat (first | (with_reducible first | exact HB.out | apply below_alloc | apply pw_below_drewN | apply below_drew1 | refine below_set ?_ GE278.out) | exact HB.out)) hb); clear HO_279002; clear BK278; clear HB; have HO_279002 := n0_; have BK278 := n1_; have HB := n2_; clear n0_ n1_ n2_; (try clear hb); (try clear hb2); (try clear hk); (try clear hi); have hcz66_0 : w65.cell? ⟨gb278, 0, none⟩ = some (.int .i64 t272) := (blk_cell BK278.out 0).trans rfl; have hcz66_1 : w65.cell? ⟨gb278, 1, none⟩ = some (.int .i64 t273) := (blk_cell BK278.out 1).trans rfl; have hcz66_2 : w65.cell? ⟨gb278, 2, none⟩ = some (.slice Ao16 t274.length co16) := (blk_cell BK278.out 2).trans rfl; have hfz66_0 := blk_frozen BK278.out 0; have hfz66_1 := blk_frozen BK278.out 1; have hfz66_2 := blk_frozen BK278.out 2) | (go_at_call 29; (with_reducible refine (impl_IsLeap.calls kj8 t272 t273 _ _ t274 t280 t288 _ ?side1 ?side2 A57.out).mono ?_); (case side1 => repeat (first | exact (Kd.R_reads' HO_279002.out).2.2 | (with_reducible refine Kd.C_alloc ?_ _) | (with_reducible refine Kd.C_drewN ?_ _) | (with_reducible refine Kd.C_drew ?_))); (case side2 => exact (Kd.R_reads' HO_279002.out).2.1); rintro e w67 ⟨rfl, hb⟩; have n0_ := Aside0.mk (Kd.R_below (by (with_reducible repeat (first | apply Kd.R_alloc | apply Kd.R_drewN | apply Kd.R_drew)); exact HO_279002.out) hb); have n1_ := Aside0.mk (blk_below (g := gb278) (o := .cells #[.int .i64 t272, .int .i64 t273, .slice Ao16 t274.length co16] 34 (0, 0)) (by (with_reducible repeat (first | refine blk_drewN ?_ _ | refine blk_drew ?_ | refine blk_alloc ?_ _)); exact BK278.out) hb); have n2_ := Aside0.mk (below_step (by repeat (first | (with_reducible first | exact HB.out | apply below_alloc | apply pw_below_drewN | apply below_drew1 | refine below_set ?_ GE278.out) | exact HB.out)) hb); clear HO_279002; clear BK278; clear HB; have HO_279002 := n0_; have BK278 := n1_; have HB := n2_; clear n0_ n1_ n2_; (try clear hb); (try clear hb2); (try clear hk); (try clear hi)))
                      go_ret
                      exact ⟨by first | rfl | (simp [errW_none, errW_some] <;> rfl) | (simp [*, errW_none, errW_some] <;> rfl), by repeat (first | (with_reducible first | exact HB.out | apply below_alloc | apply pw_below_drewN | apply below_drew1 | refine below_set ?_ GE278.out) | exact HB.out)⟩
                  · replace c56 := Bool.eq_false_iff.mpr c56
                    subst c56
                    have H1 : (some false) = some r := by rw [if_neg (show ¬ (false = true) by decide)] at H; exact H
                    clear H
                    have H := H1
                    clear H1
                    obtain rfl := Option.some.inj H
                    go_wp2_with (first | ((with_reducible refine gate_callee (f := 16) rfl ?_); refine goesL_ (some 67) rfl rfl Try.func16 (by kernel_rfl) rfl #[.slice A1 l1.length c1, .int .i64 1, .int .i64 250] rfl (by (try simp only [List.map_toArray, List.map_cons, List.map_nil]); first | done | rfl | (simp only [List.length_drop, List.length_take]; rfl)) ?_; (with_reducible refine (laws_b10At.calls _ _ l1 1 250 t280 _ ?side1 ?side2 A34.out).mono ?_); (case side1 => repeat (first | exact (Kd.C_below HR1.out HB.out) | (with_reducible refine Kd.C_alloc ?_ _) | (with_reducible refine Kd.C_drewN ?_ _) | (with_reducible refine Kd.C_drew ?_))); (case side2 => exact HC1.out); rintro e w' ⟨rfl, ⟨nd, rfl⟩⟩; refine ⟨_, rfl, ?_⟩; have hcz68_0 : wc.cell? ⟨gb278, 0, none⟩ = some (.int .i64 t272) := (blk_cell BK278.out 0).trans rfl; have hcz68_1 : wc.cell? ⟨gb278, 1, none⟩ = some (.int .i64 t273) := (blk_cell BK278.out 1).trans rfl; have hcz68_2 : wc.cell? ⟨gb278, 2, none⟩ = some (.slice Ao16 t274.length co16) := (blk_cell BK278.out 2).trans rfl; have hfz68_0 := blk_frozen BK278.out 0; have hfz68_1 := blk_frozen BK278.out 1; have hfz68_2 := blk_frozen BK278.out 2) | ((with_reducible refine gate_callee (f := 26) rfl ?_); refine goesL_ (some 86) rfl rfl Try.func26 (by kernel_rfl) rfl #[.agg #[.int .i64 t272, .int .i64 t273, .slice Ao16 t274.length co16]] rfl (by (try simp only [List.map_toArray, List.map_cons, List.map_nil]); first | done | rfl | (simp only [List.length_drop, List.length_take]; rfl)) ?_; (with_reducible refine (impl_MeanYear.calls kj8 t272 t273 _ _ t274 t285 t286 false _ ?side1 ?side2 A55.out).mono ?_); (case side1 => repeat (first | exact (Kd.R_reads' HO_279002.out).2.2 | (with_reducible refine Kd.C_alloc ?_ _) | (with_reducible refine Kd.C_drewN ?_ _) | (with_reducible refine Kd.C_drew ?_))); (case side2 => exact (Kd.R_reads' HO_279002.out).2.1); rintro e w69 ⟨rfl, hb⟩; refine ⟨_, rfl, ?_⟩; have n0_ := Aside0.mk (Kd.R_below (by (with_reducible repeat (first | apply Kd.R_alloc | apply Kd.R_drewN | apply Kd.R_drew)); exact HO_279002.out) hb); have n1_ := Aside0.mk (blk_below (g := gb278) (o := .cells #[.int .i64 t272, .int .i64 t273, .slice Ao16 t274.length co16] 34 (0, 0)) (by (with_reducible repeat (first | refine blk_drewN ?_ _ | refine blk_drew ?_ | refine blk_alloc ?_ _)); exact BK278.out) hb); have n2_ := Aside0.mk (below_step (by repeat (first | (with_reducible first | exact HB.out | apply below_alloc | apply pw_below_drewN | apply below_drew1 | refine below_set ?_ GE278.out) | exact HB.out)) hb); clear HO_279002; clear BK278; clear HB; have HO_279002 := n0_; have BK278 := n1_; have HB := n2_; clear n0_ n1_ n2_; (try clear hb); (try clear hb2); (try clear hk); (try clear hi)))
                    go_ret
                    exact ⟨by first | rfl | (simp [errW_none, errW_some] <;> rfl) | (simp [*, errW_none, errW_some] <;> rfl), by repeat (first | (with_reducible first | exact HB.out | apply below_alloc | apply pw_below_drewN | apply below_drew1 | refine below_set ?_ GE278.out) | exact HB.out)⟩
            · rw [if_neg c36] at H
              have c36b0 : ((Int.tmod t280 (wrap64 (1 + t266))) == 0) = false := beq_eq_false_iff_ne.mpr c36
              have c36b1 : ((Int.tmod t280 (wrap64 (1 + t266))) != 0) = true := bne_iff_ne.mpr c36
              replace H := Option.bind_eq_some_iff.mp H
              obtain ⟨⟨t289, t290, t291⟩, A700, H⟩ := H
              replace H : (if t291 = true then ((impl_IsLeap.f kj8 t272 t273 t274 t280).bind fun t292 => (if (t292 == false) = true then (some ((wrap64 (t289 * (wrap64 ((wrap64 ((wrap64 (1 + t266)) * (wrap64 (2 + t267)))) * (wrap64 (2 + t268)))))) == (wrap64 (t290 * (wrap64 ((wrap64 (365 * (wrap64 ((wrap64 ((wrap64 (1 + t266)) * (wrap64 (2 + t267)))) * (wrap64 (2 + t268)))))) + (t274.length : Int))))))) else (some false))) else (some false)) = some r := H
              have A70 := Aside0.mk A700
              clear A700
              by_cases c71 : t291 = true
              · subst c71
                have H1 : ((impl_IsLeap.f kj8 t272 t273 t274 t280).bind fun t292 => (if (t292 == false) = true then (some ((wrap64 (t289 * (wrap64 ((wrap64 ((wrap64 (1 + t266)) * (wrap64 (2 + t267)))) * (wrap64 (2 + t268)))))) == (wrap64 (t290 * (wrap64 ((wrap64 (365 * (wrap64 ((wrap64 ((wrap64 (1 + t266)) * (wrap64 (2 + t267)))) * (wrap64 (2 + t268)))))) + (t274.length : Int))))))) else (some false))) = some r := by rw [if_pos rfl] at H; exact H
                clear H
                have H := H1
                clear H1
                replace H := Option.bind_eq_some_iff.mp H
                obtain ⟨t292, A720, H⟩ := H
                replace H : (if (t292 == false) = true then (some ((wrap64 (t289 * (wrap64 ((wrap64 ((wrap64 (1 + t266)) * (wrap64 (2 + t267)))) * (wrap64 (2 + t268)))))) == (wrap64 (t290 * (wrap64 ((wrap64 (365 * (wrap64 ((wrap64 ((wrap64 (1 + t266)) * (wrap64 (2 + t267)))) * (wrap64 (2 + t268)))))) + (t274.length : Int))))))) else (some false)) = some r := H
                have A72 := Aside0.mk A720
                clear A720
                by_cases c73 : (t292 == false) = true
                · rw [if_pos c73] at H
                  have c73b0 : (t292 == false) = true := c73
                  (try (have c73b1 : decide (t292 = false) = true := by simpa using c73))
                  (try (have c73b2 : (t292 == false) = true := by simpa using c73))
                  clear c73
                  obtain rfl := Option.some.inj H
                  go_wp2_with (first | ((with_reducible refine gate_callee (f := 16) rfl ?_); refine goesL_ (some 67) rfl rfl Try.func16 (by kernel_rfl) rfl #[.slice A1 l1.length c1, .int .i64 1, .int .i64 250] rfl (by (try simp only [List.map_toArray, List.map_cons, List.map_nil]); first | done | rfl | (simp only [List.length_drop, List.length_take]; rfl)) ?_; (with_reducible refine (laws_b10At.calls _ _ l1 1 250 t280 _ ?side1 ?side2 A34.out).mono ?_); (case side1 => repeat (first | exact (Kd.C_below HR1.out HB.out) | (with_reducible refine Kd.C_alloc ?_ _) | (with_reducible refine Kd.C_drewN ?_ _) | (with_reducible refine Kd.C_drew ?_))); (case side2 => exact HC1.out); rintro e w' ⟨rfl, ⟨nd, rfl⟩⟩; refine ⟨_, rfl, ?_⟩; have hcz74_0 : wc.cell? ⟨gb278, 0, none⟩ = some (.int .i64 t272) := (blk_cell BK278.out 0).trans rfl; have hcz74_1 : wc.cell? ⟨gb278, 1, none⟩ = some (.int .i64 t273) := (blk_cell BK278.out 1).trans rfl; have hcz74_2 : wc.cell? ⟨gb278, 2, none⟩ = some (.slice Ao16 t274.length co16) := (blk_cell BK278.out 2).trans rfl; have hfz74_0 := blk_frozen BK278.out 0; have hfz74_1 := blk_frozen BK278.out 1; have hfz74_2 := blk_frozen BK278.out 2) | ((with_reducible refine gate_callee (f := 26) rfl ?_); refine goesL_ (some 86) rfl rfl Try.func26 (by kernel_rfl) rfl #[.agg #[.int .i64 t272, .int .i64 t273, .slice Ao16 t274.length co16]] rfl (by (try simp only [List.map_toArray, List.map_cons, List.map_nil]); first | done | rfl | (simp only [List.length_drop, List.length_take]; rfl)) ?_; (with_reducible refine (impl_MeanYear.calls kj8 t272 t273 _ _ t274 t289 t290 true _ ?side1 ?side2 A70.out).mono ?_); (case side1 => repeat (first | exact (Kd.R_reads' HO_279002.out).2.2 | (with_reducible refine Kd.C_alloc ?_ _) | (with_reducible refine Kd.C_drewN ?_ _) | (with_reducible refine Kd.C_drew ?_))); (case side2 => exact (Kd.R_reads' HO_279002.out).2.1); rintro e w75 ⟨rfl, hb⟩; refine ⟨_, rfl, ?_⟩; have n0_ := Aside0.mk (Kd.R_below (by (with_reducible repeat (first | apply Kd.R_alloc | apply Kd.R_drewN | apply Kd.R_drew)); exact HO_279002.out) hb); have n1_ := Aside0.mk (blk_below (g := gb278) (o := .cells #[.int .i64 t272, .int .i64 t273, .slice Ao16 t274.length co16] 34 (0, 0)) (by (with_reducible repeat (first | refine blk_drewN ?_ _ | refine blk_drew ?_ | refine blk_alloc ?_ _)); exact BK278.out) hb); have n2_ := Aside0.mk (below_step (by repeat (first | (with_reducible first | exact HB.out | apply below_alloc | apply pw_below_drewN | apply below_drew1 | refine below_set ?_ GE278.out) | exact HB.out)) hb); clear HO_279002; clear BK278; clear HB; have HO_279002 := n0_; have BK278 := n1_; have HB := n2_; clear n0_ n1_ n2_; (try clear hb); (try clear hb2); (try clear hk); (try clear hi); have hcz76_0 : w75.cell? ⟨gb278, 0, none⟩ = some (.int .i64 t272) := (blk_cell BK278.out 0).trans rfl; have hcz76_1 : w75.cell? ⟨gb278, 1, none⟩ = some (.int .i64 t273) := (blk_cell BK278.out 1).trans rfl; have hcz76_2 : w75.cell? ⟨gb278, 2, none⟩ = some (.slice Ao16 t274.length co16) := (blk_cell BK278.out 2).trans rfl; have hfz76_0 := blk_frozen BK278.out 0; have hfz76_1 := blk_frozen BK278.out 1; have hfz76_2 := blk_frozen BK278.out 2) | (go_at_call 29; (with_reducible refine (impl_IsLeap.calls kj8 t272 t273 _ _ t274 t280 t292 _ ?side1 ?side2 A72.out).mono ?_); (case side1 => repeat (first | exact (Kd.R_reads' HO_279002.out).2.2 | (with_reducible refine Kd.C_alloc ?_ _) | (with_reducible refine Kd.C_drewN ?_ _) | (with_reducible refine Kd.C_drew ?_))); (case side2 => exact (Kd.R_reads' HO_279002.out).2.1); rintro e w77 ⟨rfl, hb⟩; have n0_ := Aside0.mk (Kd.R_below (by (with_reducible repeat (first | apply Kd.R_alloc | apply Kd.R_drewN | apply Kd.R_drew)); exact HO_279002.out) hb); have n1_ := Aside0.mk (blk_below (g := gb278) (o := .cells #[.int .i64 t272, .int .i64 t273, .slice Ao16 t274.length co16] 34 (0, 0)) (by (with_reducible repeat (first | refine blk_drewN ?_ _ | refine blk_drew ?_ | refine blk_alloc ?_ _)); exact BK278.out) hb); have n2_ := Aside0.mk (below_step (by repeat (first | (with_reducible first | exact HB.out | apply below_alloc | apply pw_below_drewN | apply below_drew1 | refine below_set ?_ GE278.out) | exact HB.out)) hb); clear HO_279002; clear BK278; clear HB; have HO_279002 := n0_; have BK278 := n1_; have HB := n2_; clear n0_ n1_ n2_; (try clear hb); (try clear hb2); (try clear hk); (try clear hi); have hcz78_0 : w77.cell? ⟨gb278, 0, none⟩ = some (.int .i64 t272) := (blk_cell BK278.out 0).trans rfl; have hcz78_1 : w77.cell? ⟨gb278, 1, none⟩ = some (.int .i64 t273) := (blk_cell BK278.out 1).trans rfl; have hcz78_2 : w77.cell? ⟨gb278, 2, none⟩ = some (.slice Ao16 t274.length co16) := (blk_cell BK278.out 2).trans rfl; have hfz78_0 := blk_frozen BK278.out 0; have hfz78_1 := blk_frozen BK278.out 1; have hfz78_2 := blk_frozen BK278.out 2))
                  go_ret
                  exact ⟨by first | rfl | (simp [errW_none, errW_some] <;> rfl) | (simp [*, errW_none, errW_some] <;> rfl), by repeat (first | (with_reducible first | exact HB.out | apply below_alloc | apply pw_below_drewN | apply below_drew1 | refine below_set ?_ GE278.out) | exact HB.out)⟩
                · rw [if_neg c73] at H
                  have c73b0 : (t292 == false) = false := by simpa using c73
                  (try (have c73b1 : decide (t292 = false) = false := by simpa using c73))
                  (try (have c73b2 : (t292 == false) = false := by simpa using c73))
                  (try (have c73b3 : ¬ (t292 = false) := by simpa using c73))
                  clear c73
                  obtain rfl := Option.some.inj H
                  go_wp2_with (first | ((with_reducible refine gate_callee (f := 16) rfl ?_); refine goesL_ (some 67) rfl rfl Try.func16 (by kernel_rfl) rfl #[.slice A1 l1.length c1, .int .i64 1, .int .i64 250] rfl (by (try simp only [List.map_toArray, List.map_cons, List.map_nil]); first | done | rfl | (simp only [List.length_drop, List.length_take]; rfl)) ?_; (with_reducible refine (laws_b10At.calls _ _ l1 1 250 t280 _ ?side1 ?side2 A34.out).mono ?_); (case side1 => repeat (first | exact (Kd.C_below HR1.out HB.out) | (with_reducible refine Kd.C_alloc ?_ _) | (with_reducible refine Kd.C_drewN ?_ _) | (with_reducible refine Kd.C_drew ?_))); (case side2 => exact HC1.out); rintro e w' ⟨rfl, ⟨nd, rfl⟩⟩; refine ⟨_, rfl, ?_⟩; have hcz79_0 : wc.cell? ⟨gb278, 0, none⟩ = some (.int .i64 t272) := (blk_cell BK278.out 0).trans rfl; have hcz79_1 : wc.cell? ⟨gb278, 1, none⟩ = some (.int .i64 t273) := (blk_cell BK278.out 1).trans rfl; have hcz79_2 : wc.cell? ⟨gb278, 2, none⟩ = some (.slice Ao16 t274.length co16) := (blk_cell BK278.out 2).trans rfl; have hfz79_0 := blk_frozen BK278.out 0; have hfz79_1 := blk_frozen BK278.out 1; have hfz79_2 := blk_frozen BK278.out 2) | ((with_reducible refine gate_callee (f := 26) rfl ?_); refine goesL_ (some 86) rfl rfl Try.func26 (by kernel_rfl) rfl #[.agg #[.int .i64 t272, .int .i64 t273, .slice Ao16 t274.length co16]] rfl (by (try simp only [List.map_toArray, List.map_cons, List.map_nil]); first | done | rfl | (simp only [List.length_drop, List.length_take]; rfl)) ?_; (with_reducible refine (impl_MeanYear.calls kj8 t272 t273 _ _ t274 t289 t290 true _ ?side1 ?side2 A70.out).mono ?_); (case side1 => repeat (first | exact (Kd.R_reads' HO_279002.out).2.2 | (with_reducible refine Kd.C_alloc ?_ _) | (with_reducible refine Kd.C_drewN ?_ _) | (with_reducible refine Kd.C_drew ?_))); (case side2 => exact (Kd.R_reads' HO_279002.out).2.1); rintro e w80 ⟨rfl, hb⟩; refine ⟨_, rfl, ?_⟩; have n0_ := Aside0.mk (Kd.R_below (by (with_reducible repeat (first | apply Kd.R_alloc | apply Kd.R_drewN | apply Kd.R_drew)); exact HO_279002.out) hb); have n1_ := Aside0.mk (blk_below (g := gb278) (o := .cells #[.int .i64 t272, .int .i64 t273, .slice Ao16 t274.length co16] 34 (0, 0)) (by (with_reducible repeat (first | refine blk_drewN ?_ _ | refine blk_drew ?_ | refine blk_alloc ?_ _)); exact BK278.out) hb); have n2_ := Aside0.mk (below_step (by repeat (first | (with_reducible first | exact HB.out | apply below_alloc | apply pw_below_drewN | apply below_drew1 | refine below_set ?_ GE278.out) | exact HB.out)) hb); clear HO_279002; clear BK278; clear HB; have HO_279002 := n0_; have BK278 := n1_; have HB := n2_; clear n0_ n1_ n2_; (try clear hb); (try clear hb2); (try clear hk); (try clear hi); have hcz81_0 : w80.cell? ⟨gb278, 0, none⟩ = some (.int .i64 t272) := (blk_cell BK278.out 0).trans rfl; have hcz81_1 : w80.cell? ⟨gb278, 1, none⟩ = some (.int .i64 t273) := (blk_cell BK278.out 1).trans rfl; have hcz81_2 : w80.cell? ⟨gb278, 2, none⟩ = some (.slice Ao16 t274.length co16) := (blk_cell BK278.out 2).trans rfl; have hfz81_0 := blk_frozen BK278.out 0; have hfz81_1 := blk_frozen BK278.out 1; have hfz81_2 := blk_frozen BK278.out 2) | (go_at_call 29; (with_reducible refine (impl_IsLeap.calls kj8 t272 t273 _ _ t274 t280 t292 _ ?side1 ?side2 A72.out).mono ?_); (case side1 => repeat (first | exact (Kd.R_reads' HO_279002.out).2.2 | (with_reducible refine Kd.C_alloc ?_ _) | (with_reducible refine Kd.C_drewN ?_ _) | (with_reducible refine Kd.C_drew ?_))); (case side2 => exact (Kd.R_reads' HO_279002.out).2.1); rintro e w82 ⟨rfl, hb⟩; have n0_ := Aside0.mk (Kd.R_below (by (with_reducible repeat (first | apply Kd.R_alloc | apply Kd.R_drewN | apply Kd.R_drew)); exact HO_279002.out) hb); have n1_ := Aside0.mk (blk_below (g := gb278) (o := .cells #[.int .i64 t272, .int .i64 t273, .slice Ao16 t274.length co16] 34 (0, 0)) (by (with_reducible repeat (first | refine blk_drewN ?_ _ | refine blk_drew ?_ | refine blk_alloc ?_ _)); exact BK278.out) hb); have n2_ := Aside0.mk (below_step (by repeat (first | (with_reducible first | exact HB.out | apply below_alloc | apply pw_below_drewN | apply below_drew1 | refine below_set ?_ GE278.out) | exact HB.out)) hb); clear HO_279002; clear BK278; clear HB; have HO_279002 := n0_; have BK278 := n1_; have HB := n2_; clear n0_ n1_ n2_; (try clear hb); (try clear hb2); (try clear hk); (try clear hi)))
                  go_ret
                  exact ⟨by first | rfl | (simp [errW_none, errW_some] <;> rfl) | (simp [*, errW_none, errW_some] <;> rfl), by repeat (first | (with_reducible first | exact HB.out | apply below_alloc | apply pw_below_drewN | apply below_drew1 | refine below_set ?_ GE278.out) | exact HB.out)⟩
              · replace c71 := Bool.eq_false_iff.mpr c71
                subst c71
                have H1 : (some false) = some r := by rw [if_neg (show ¬ (false = true) by decide)] at H; exact H
                clear H
                have H := H1
                clear H1
                obtain rfl := Option.some.inj H
                go_wp2_with (first | ((with_reducible refine gate_callee (f := 16) rfl ?_); refine goesL_ (some 67) rfl rfl Try.func16 (by kernel_rfl) rfl #[.slice A1 l1.length c1, .int .i64 1, .int .i64 250] rfl (by (try simp only [List.map_toArray, List.map_cons, List.map_nil]); first | done | rfl | (simp only [List.length_drop, List.length_take]; rfl)) ?_; (with_reducible refine (laws_b10At.calls _ _ l1 1 250 t280 _ ?side1 ?side2 A34.out).mono ?_); (case side1 => repeat (first | exact (Kd.C_below HR1.out HB.out) | (with_reducible refine Kd.C_alloc ?_ _) | (with_reducible refine Kd.C_drewN ?_ _) | (with_reducible refine Kd.C_drew ?_))); (case side2 => exact HC1.out); rintro e w' ⟨rfl, ⟨nd, rfl⟩⟩; refine ⟨_, rfl, ?_⟩; have hcz83_0 : wc.cell? ⟨gb278, 0, none⟩ = some (.int .i64 t272) := (blk_cell BK278.out 0).trans rfl; have hcz83_1 : wc.cell? ⟨gb278, 1, none⟩ = some (.int .i64 t273) := (blk_cell BK278.out 1).trans rfl; have hcz83_2 : wc.cell? ⟨gb278, 2, none⟩ = some (.slice Ao16 t274.length co16) := (blk_cell BK278.out 2).trans rfl; have hfz83_0 := blk_frozen BK278.out 0; have hfz83_1 := blk_frozen BK278.out 1; have hfz83_2 := blk_frozen BK278.out 2) | ((with_reducible refine gate_callee (f := 26) rfl ?_); refine goesL_ (some 86) rfl rfl Try.func26 (by kernel_rfl) rfl #[.agg #[.int .i64 t272, .int .i64 t273, .slice Ao16 t274.length co16]] rfl (by (try simp only [List.map_toArray, List.map_cons, List.map_nil]); first | done | rfl | (simp only [List.length_drop, List.length_take]; rfl)) ?_; (with_reducible refine (impl_MeanYear.calls kj8 t272 t273 _ _ t274 t289 t290 false _ ?side1 ?side2 A70.out).mono ?_); (case side1 => repeat (first | exact (Kd.R_reads' HO_279002.out).2.2 | (with_reducible refine Kd.C_alloc ?_ _) | (with_reducible refine Kd.C_drewN ?_ _) | (with_reducible refine Kd.C_drew ?_))); (case side2 => exact (Kd.R_reads' HO_279002.out).2.1); rintro e w84 ⟨rfl, hb⟩; refine ⟨_, rfl, ?_⟩; have n0_ := Aside0.mk (Kd.R_below (by (with_reducible repeat (first | apply Kd.R_alloc | apply Kd.R_drewN | apply Kd.R_drew)); exact HO_279002.out) hb); have n1_ := Aside0.mk (blk_below (g := gb278) (o := .cells #[.int .i64 t272, .int .i64 t273, .slice Ao16 t274.length co16] 34 (0, 0)) (by (with_reducible repeat (first | refine blk_drewN ?_ _ | refine blk_drew ?_ | refine blk_alloc ?_ _)); exact BK278.out) hb); have n2_ := Aside0.mk (below_step (by repeat (first | (with_reducible first | exact HB.out | apply below_alloc | apply pw_below_drewN | apply below_drew1 | refine below_set ?_ GE278.out) | exact HB.out)) hb); clear HO_279002; clear BK278; clear HB; have HO_279002 := n0_; have BK278 := n1_; have HB := n2_; clear n0_ n1_ n2_; (try clear hb); (try clear hb2); (try clear hk); (try clear hi)))
                go_ret
                exact ⟨by first | rfl | (simp [errW_none, errW_some] <;> rfl) | (simp [*, errW_none, errW_some] <;> rfl), by repeat (first | (with_reducible first | exact HB.out | apply below_alloc | apply pw_below_drewN | apply below_drew1 | refine below_set ?_ GE278.out) | exact HB.out)⟩

/-- THE ONE PURE STATEMENT of laws_FnRules: yours. -/
def laws_FnRules.Pure : Prop := ∀ (l0 : List Int) (l1 : List Int), l0.length ≤ maxLen → l0.length * 1 ≤ 140737488351232 → (∀ x ∈ l0, (Lit.int .u8 x).wf = true) → l1.length ≤ maxLen → l1.length * 1 ≤ 140737488351232 → (∀ x ∈ l1, (Lit.int .u8 x).wf = true) → ∃ k, laws_FnRules.f k l0 l1 = some true
theorem laws_FnRules.walk (P : laws_FnRules.Pure) (a0 : Option Addr) (len0 cap0 : Nat) (z0 : List Int) (a1 : Option Addr) (len1 cap1 : Nat) (z1 : List Int) (w : World) (w0 : (a0 = none ∧ len0 = 0 ∧ cap0 = 0 ∧ z0 = []) ∨ ∃ x, a0 = some x ∧ len0 ≤ cap0 ∧ cap0 ≤ maxLen ∧ z0.length = cap0 ∧ (∀ i, i < z0.length → w.cell? (x.add i) = some (.int .u8 (z0.getD i 0))) ∧ ∀ n ∈ z0, (Lit.int .u8 n).wf = true) (y0 : len0 * 1 ≤ 140737488351232) (w1 : (a1 = none ∧ len1 = 0 ∧ cap1 = 0 ∧ z1 = []) ∨ ∃ x, a1 = some x ∧ len1 ≤ cap1 ∧ cap1 ≤ maxLen ∧ z1.length = cap1 ∧ (∀ i, i < z1.length → w.cell? (x.add i) = some (.int .u8 (z1.getD i 0))) ∧ ∀ n ∈ z1, (Lit.int .u8 n).wf = true) (y1 : len1 * 1 ≤ 140737488351232) :
    Calls Try.prog 7 #[.slice a0 len0 cap0, .slice a1 len1 cap1] w fun e w' => e = .returned (.bool true) ∧ Below w.heap.size w w' := by
  obtain ⟨l0, rfl, hr0, hm0, hw0, hc0⟩ := ReadsInt.ofRowC w0
  obtain ⟨l1, rfl, hr1, hm1, hw1, hc1⟩ := ReadsInt.ofRowC w1
  obtain ⟨k, h⟩ := P l0 l1 hm0 y0 hw0 hm1 y1 hw1
  refine (laws_FnRules.calls k _ _ l0 _ _ l1 true w (Kd.C_of_reads (d := (0 : Int)) (h1 := fun _ => rfl) hr0) hc0 (Kd.C_of_reads (d := (0 : Int)) (h1 := fun _ => rfl) hr1) hc1 h).mono ?_
  rintro e w' ⟨rfl, hd⟩
  exact ⟨rfl, hd⟩

end Go.Proofs.Ytjeidmbggdgggaa.Q
