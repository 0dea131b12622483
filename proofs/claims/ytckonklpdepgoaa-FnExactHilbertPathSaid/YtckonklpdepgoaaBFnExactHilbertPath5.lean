/- The statement FnExactHilbertPath, with all that its proof stands on: functions of the program as plain functions, the program's walks, and the plain law. Conditions: none beyond the statement's own. -/
import Derived.ArgAppend
import Derived.Below
import Derived.BigQuiet
import Derived.BigRegion
import Derived.Deep.AppendLies
import Derived.Deep.CutBlock
import Derived.Deep.DeepCutAuto
import Derived.Deep.Draws
import Derived.Deep.LoopGhost
import Derived.Deep.OwnRows
import Derived.Deep.QuietTactic
import Derived.Deep.RegionHeld3
import Derived.Ground.SlgmProg
import Derived.Ground.SlgnProg
import Derived.KernelRfl
import Derived.Laws.BitsLemmas
import Derived.Laws.BytesArg
import Derived.Laws.IdiomCopy
import Derived.Laws.MakeOwn
import Derived.Laws.OwnMore
import Derived.Laws.Rows
import Derived.Laws.Slices
import Derived.Lib.AppendStr
import Derived.Lib.ConvBytes
import Derived.Maps.AppendAt
import Derived.OrdersHeld
import Derived.OwnWalk
import Derived.ProofKit
import Derived.RowKit
import Derived.RowKit3
import Derived.Shelf.SlicesE.Clone
import Derived.Shelf.Small.Bits
import Derived.Shelf.Small.Strs
import Derived.Shelf.SortM.Plain
import Derived.Shelf.Strconv.Itoa0
import Derived.Shelf.Strings.Search1
import Derived.Sort.OwnSortedInts
import Derived.Tactics
import Derived.Test.YtckonklpdepgoaaProg
import Derived.WalkKit
import Derived.WideLaws
import Derived.Test.YtckonklpdepgoaaBFnExactHilbertPath0
import Derived.Test.YtckonklpdepgoaaBFnExactHilbertPath1
import Derived.Test.YtckonklpdepgoaaBFnExactHilbertPath2
import Derived.Test.YtckonklpdepgoaaBFnExactHilbertPath3
set_option linter.unusedVariables false
set_option linter.unusedSimpArgs false
namespace Go.Proofs.Ytckonklpdepgoaa.Q
open Go.RowKit Go.Proofs.YtckonklpdepgoaaW.PrintWords Go.Proofs.YtckonklpdepgoaaW.PrintLast Go.Proofs.YtckonklpdepgoaaW.PrintMore
attribute [local go_sem] max2_int min2_int max_two min_two max_three min_three max_four min_four   -- for this text's walks alone
set_option linter.unusedVariables false
set_option linter.unusedSimpArgs false
def errW : Option Int → Value
 | none => .nilIface
 | some c => .iface 0 (.int .i64 c)
theorem errW_none : errW none = .nilIface := rfl
theorem errW_some (c : Int) : errW (some c) = .iface 0 (.int .i64 c) := rfl
theorem info2 : (Try.prog.info? 2).map (fun i => (i.zero, i.size, i.bytes)) = some (some (.int .i64 0), 1, 8) := by kernel_rfl
theorem info34 : (Try.prog.info? 34).map (fun i => (i.zero, i.size, i.bytes)) = some (some (.slice none 0 0), 1, 24) := by kernel_rfl
def rd_L1 (xs : List (List Int)) (i : Int) : (List Int) := xs.getD i.toNat ([] : List Int)
theorem at_L1 {w : World} {A : Option Addr} {n : Nat} {xs : List (List Int)} (h : Kd.C (Kd.slice 2 (Kd.int .i64)) w A n xs) (i : Int) (h0 : 0 ≤ i) (h1 : i < n) : ∃ ad A0 c0, A = some ad ∧ w.cell? (ad.add i.toNat) = some (.slice A0 (rd_L1 xs i).length c0) ∧ (rd_L1 xs i).length ≤ c0 ∧ (Kd.int .i64).C w A0 (rd_L1 xs i).length (rd_L1 xs i) := by
 obtain ⟨ad, c, e, _, hK, hc0⟩ := Kd.C_get h ([] : List Int) i h0 h1
 have hc : ∀ j u, c[j]? = some u → w.cell? (ad.add (i.toNat * 1 + j)) = some u := hc0
 obtain ⟨A0, c0, rfl, l0, g0⟩ := hK
 exact ⟨ad, A0, c0, e, by have hq := hc 0 _ rfl; rwa [Nat.mul_one, Nat.add_zero] at hq, l0, g0⟩
end Go.Proofs.Ytckonklpdepgoaa.Q
namespace Go.Proofs.Ytckonklpdepgoaa.Q
open Go.RowKit Go.Proofs.YtckonklpdepgoaaW.PrintWords Go.Proofs.YtckonklpdepgoaaW.PrintLast Go.Proofs.YtckonklpdepgoaaW.PrintMore
attribute [local go_sem] max2_int min2_int max_two min_two max_three min_three max_four min_four   -- for this text's walks alone
set_option linter.unusedVariables false
set_option linter.unusedSimpArgs false
def laws_eqInt64S.l0 : Nat → List Int → List Int → Int → Option (Bool)
 | 0, _, _, _ => none
 | k + 1, x0, x1, x5 => if x5 < (x0.length : Int) then (if 0 ≤ x5 then (if x5 < (x1.length : Int) then (if (rd x0 x5) = (rd x1 x5) then (laws_eqInt64S.l0 k x0 x1 (wrap64 (x5 + 1))) else (some false)) else (none)) else (none)) else (some true)
def laws_eqInt64S.f (k : Nat) (l0 : List Int) (l1 : List Int) : Option (Bool) := if (l0.length : Int) = (l1.length : Int) then (laws_eqInt64S.l0 k l0 l1 0) else (some false)
theorem laws_eqInt64S.mono_l : ∀ k, (∀ y0 y1 y2, LeO (laws_eqInt64S.l0 k y0 y1 y2) (laws_eqInt64S.l0 (k + 1) y0 y1 y2))
 | 0 => fun _ _ _ r h => by simp [laws_eqInt64S.l0] at h
 | k + 1 => by
  have ih0 := laws_eqInt64S.mono_l k
  ·intro y0 y1 y2
   unfold laws_eqInt64S.l0
   repeat' first
   | (with_reducible exact ih0 _ _ _)
   | (with_reducible exact LeO.refl _)
   | (with_reducible exact LeO.none _)
   | (with_reducible refine LeO.ite ?_ ?_)
   | (with_reducible refine LeO.bind ?_ (fun _ => ?_))
   | exact ih0 _ _ _
   | exact LeO.none _
   | refine LeO.ite ?_ ?_
   | refine LeO.bind ?_ (fun _ => ?_)
theorem laws_eqInt64S.mono : ∀ a0 a1 k, LeO (laws_eqInt64S.f k a0 a1) (laws_eqInt64S.f (k + 1) a0 a1) := by
 intro a0 a1 k
 have ih0 := laws_eqInt64S.mono_l k
 unfold laws_eqInt64S.f
 repeat' first
   | (with_reducible exact ih0 _ _ _)
   | (with_reducible exact LeO.refl _)
   | (with_reducible exact LeO.none _)
   | (with_reducible refine LeO.ite ?_ ?_)
   | (with_reducible refine LeO.bind ?_ (fun _ => ?_))
   | exact ih0 _ _ _
   | exact LeO.none _
   | refine LeO.ite ?_ ?_
   | refine LeO.bind ?_ (fun _ => ?_)
set_option maxHeartbeats 8000000 in
set_option maxRecDepth 100000 in
theorem laws_eqInt64S.calls (k : Nat) (A0 : Option Addr) (c0 : Nat) (l0 : List Int) (A1 : Option Addr) (c1 : Nat) (l1 : List Int) (r : Bool) (w : World) (hr0 : Kd.C (Kd.int .i64) w A0 l0.length l0) (hc0 : l0.length ≤ c0) (hr1 : Kd.C (Kd.int .i64) w A1 l1.length l1) (hc1 : l1.length ≤ c1) (h : laws_eqInt64S.f k l0 l1 = some r) :
  Calls Try.prog 62 #[.slice A0 l0.length c0, .slice A1 l1.length c1] w fun e w' => e = .returned (.bool r) ∧ Drawn0 w w' := by
 have HR0 := Aside0.mk hr0
 have HC0 := Aside0.mk hc0
 clear hr0 hc0
 have HR1 := Aside0.mk hr1
 have HC1 := Aside0.mk hc1
 clear hr1 hc1
 have H : (if (l0.length : Int) = (l1.length : Int) then (laws_eqInt64S.l0 k l0 l1 0) else (some false)) = some r := h
 clear h
 by_cases c3 : (l0.length : Int) = (l1.length : Int)
 ·rw [if_pos c3] at H
  have c3b0 : ((l0.length : Int) == (l1.length : Int)) = true := beq_iff_eq.mpr c3
  have c3b1 : ((l0.length : Int) != (l1.length : Int)) = false := bne_eq_false_iff_eq.mpr c3
  have c3b2 : (l0.length == l1.length) = true := by first | simpa using c3 | (simp at c3 ⊢; omega)
  clear c3
  have H' := Aside0.mk H
  clear H
  go_enter Try.func62, Try.ntmps62
  go_wp2
  repeat (go_quiet (fail); try go_wp2)
  go_loopg [5] k (fun kq v5 w' => ∃ (x5_1 : Int), v5 = .int .i64 x5_1 ∧ Aside0 (laws_eqInt64S.l0 kq l0 l1 x5_1 = some r) ∧ Aside0 (kq ≤ k) ∧ Drawn0 w w')
  case atStart => exact ⟨(0), (by first | rfl | (simp; done) | (simp [*]; done)), H', ⟨Nat.le_refl _⟩, by repeat (first | exact Drawn0.refl _ | apply Drawn0.step)⟩
  case round =>
   clear H'
   try clear c1
   try clear p2
   try clear c3
   try clear c3b0
   try clear c3b1
   try clear c3b2
   obtain ⟨x5_1, rfl, HA, HK1, ⟨m1, rfl⟩⟩ := hrel
   cases gk with
   | zero => exact absurd HA.out (by simp [laws_eqInt64S.l0])
   | succ k1 =>
    have H := HA.out
    clear HA
    simp only [laws_eqInt64S.l0] at H
    by_cases c4 : x5_1 < (l0.length : Int)
    ·rw [if_pos c4] at H
     have c4b0 : decide (x5_1 < (l0.length : Int)) = true := decide_eq_true c4
     clear c4
     by_cases c5 : 0 ≤ x5_1
     ·rw [if_pos c5] at H
      have c5b0 : decide (0 ≤ x5_1) = true := decide_eq_true c5
      clear c5
      by_cases c6 : x5_1 < (l1.length : Int)
      ·rw [if_pos c6] at H
       have c6b0 : decide (x5_1 < (l1.length : Int)) = true := decide_eq_true c6
       clear c6
       by_cases c7 : (rd l0 x5_1) = (rd l1 x5_1)
       ·rw [if_pos c7] at H
        have c7b0 : ((rd l0 x5_1) == (rd l1 x5_1)) = true := beq_iff_eq.mpr c7
        have c7b1 : ((rd l0 x5_1) != (rd l1 x5_1)) = false := bne_eq_false_iff_eq.mpr c7
        clear c7
        have H' := Aside0.mk H
        clear H
        have p122 : 0 ≤ (x5_1 : Int) := of_decide_eq_true (by first | (with_reducible assumption) | assumption)
        have q122 : x5_1 < (l0.length : Int) := of_decide_eq_true (by first | (with_reducible assumption) | assumption)
        obtain ⟨ad122, e122, hx122_0⟩ := Kd.at_int HR0.out x5_1 p122 q122
        cases e122
        replace p122 := eq_true p122
        replace q122 := eq_true q122
        have p123 : 0 ≤ (x5_1 : Int) := of_decide_eq_true (by first | (with_reducible assumption) | assumption)
        have q123 : x5_1 < (l1.length : Int) := of_decide_eq_true (by first | (with_reducible assumption) | assumption)
        obtain ⟨ad123, e123, hx123_0⟩ := Kd.at_int HR1.out x5_1 p123 q123
        cases e123
        replace p123 := eq_true p123
        replace q123 := eq_true q123
        go_wp2
        repeat (go_quiet (fail); try go_wp2)
        go_roundg k1
        case measure => have := HK1.out; omega
        case rel => exact ⟨(wrap64 (x5_1 + 1)), (by first | rfl | (simp; done) | (simp [*]; done)), H', ⟨by have := HK1.out; omega⟩, by repeat (first | exact Drawn0.refl _ | apply Drawn0.step)⟩
       ·rw [if_neg c7] at H
        have c7b0 : ((rd l0 x5_1) == (rd l1 x5_1)) = false := beq_eq_false_iff_ne.mpr c7
        have c7b1 : ((rd l0 x5_1) != (rd l1 x5_1)) = true := bne_iff_ne.mpr c7
        obtain rfl := Option.some.inj H
        have p122 : 0 ≤ (x5_1 : Int) := of_decide_eq_true (by first | (with_reducible assumption) | assumption)
        have q122 : x5_1 < (l0.length : Int) := of_decide_eq_true (by first | (with_reducible assumption) | assumption)
        obtain ⟨ad122, e122, hx122_0⟩ := Kd.at_int HR0.out x5_1 p122 q122
        cases e122
        replace p122 := eq_true p122
        replace q122 := eq_true q122
        have p123 : 0 ≤ (x5_1 : Int) := of_decide_eq_true (by first | (with_reducible assumption) | assumption)
        have q123 : x5_1 < (l1.length : Int) := of_decide_eq_true (by first | (with_reducible assumption) | assumption)
        obtain ⟨ad123, e123, hx123_0⟩ := Kd.at_int HR1.out x5_1 p123 q123
        cases e123
        replace p123 := eq_true p123
        replace q123 := eq_true q123
        go_wp2
        repeat (go_quiet (fail); try go_wp2)
        go_ret
        exact ⟨by first | rfl | (simp; done) | (simp [*]; done), by repeat (first | exact Drawn0.refl _ | apply Drawn0.step)⟩
      ·rw [if_neg c6] at H
       exact absurd H (by simp)
     ·rw [if_neg c5] at H
      exact absurd H (by simp)
    ·rw [if_neg c4] at H
     have c4b0 : decide (x5_1 < (l0.length : Int)) = false := decide_eq_false c4
     clear c4
     obtain rfl := Option.some.inj H
     go_wp2
     repeat (go_quiet (fail); try go_wp2)
     go_ret
     exact ⟨by first | rfl | (simp; done) | (simp [*]; done), by repeat (first | exact Drawn0.refl _ | apply Drawn0.step)⟩
 ·rw [if_neg c3] at H
  have c3b0 : ((l0.length : Int) == (l1.length : Int)) = false := beq_eq_false_iff_ne.mpr c3
  have c3b1 : ((l0.length : Int) != (l1.length : Int)) = true := bne_iff_ne.mpr c3
  have c3b2 : (l0.length == l1.length) = false := by first | simpa using c3 | (simp at c3 ⊢; omega)
  obtain rfl := Option.some.inj H
  go_enter Try.func62, Try.ntmps62
  go_wp2
  repeat (go_quiet (fail); try go_wp2)
  go_ret
  exact ⟨by first | rfl | (simp; done) | (simp [*]; done), by repeat (first | exact Drawn0.refl _ | apply Drawn0.step)⟩
end Go.Proofs.Ytckonklpdepgoaa.Q
namespace Go.Proofs.Ytckonklpdepgoaa.Q
open Go.RowKit Go.Proofs.YtckonklpdepgoaaW.PrintWords Go.Proofs.YtckonklpdepgoaaW.PrintLast Go.Proofs.YtckonklpdepgoaaW.PrintMore
attribute [local go_sem] max2_int min2_int max_two min_two max_three min_three max_four min_four   -- for this text's walks alone
set_option linter.unusedVariables false
set_option linter.unusedSimpArgs false
def laws_eqInt64SS.l0 : Nat → List (List Int) → List (List Int) → Int → Option (Bool)
 | 0, _, _, _ => none
 | k + 1, x0, x1, x5 => if x5 < (x0.length : Int) then (if 0 ≤ x5 then (if x5 < (x1.length : Int) then ((laws_eqInt64S.f k (rd_L1 x0 x5) (rd_L1 x1 x5)).bind fun t126 => (if t126 = true then (laws_eqInt64SS.l0 k x0 x1 (wrap64 (x5 + 1))) else (some false))) else (none)) else (none)) else (some true)
def laws_eqInt64SS.f (k : Nat) (l0 : List (List Int)) (l1 : List (List Int)) : Option (Bool) := if (l0.length : Int) = (l1.length : Int) then (laws_eqInt64SS.l0 k l0 l1 0) else (some false)
theorem laws_eqInt64SS.mono_l : ∀ k, (∀ y0 y1 y2, LeO (laws_eqInt64SS.l0 k y0 y1 y2) (laws_eqInt64SS.l0 (k + 1) y0 y1 y2))
 | 0 => fun _ _ _ r h => by simp [laws_eqInt64SS.l0] at h
 | k + 1 => by
  have ih0 := laws_eqInt64SS.mono_l k
  ·intro y0 y1 y2
   unfold laws_eqInt64SS.l0
   repeat' first
   | (with_reducible exact ih0 _ _ _)
   | (with_reducible exact laws_eqInt64S.mono _ _ _)
   | (with_reducible exact LeO.refl _)
   | (with_reducible exact LeO.none _)
   | (with_reducible refine LeO.ite ?_ ?_)
   | (with_reducible refine LeO.bind ?_ (fun _ => ?_))
   | exact ih0 _ _ _
   | exact laws_eqInt64S.mono _ _ _
   | exact LeO.none _
   | refine LeO.ite ?_ ?_
   | refine LeO.bind ?_ (fun _ => ?_)
theorem laws_eqInt64SS.mono : ∀ a0 a1 k, LeO (laws_eqInt64SS.f k a0 a1) (laws_eqInt64SS.f (k + 1) a0 a1) := by
 intro a0 a1 k
 have ih0 := laws_eqInt64SS.mono_l k
 unfold laws_eqInt64SS.f
 repeat' first
   | (with_reducible exact ih0 _ _ _)
   | (with_reducible exact laws_eqInt64S.mono _ _ _)
   | (with_reducible exact LeO.refl _)
   | (with_reducible exact LeO.none _)
   | (with_reducible refine LeO.ite ?_ ?_)
   | (with_reducible refine LeO.bind ?_ (fun _ => ?_))
   | exact ih0 _ _ _
   | exact laws_eqInt64S.mono _ _ _
   | exact LeO.none _
   | refine LeO.ite ?_ ?_
   | refine LeO.bind ?_ (fun _ => ?_)
set_option maxHeartbeats 8000000 in
set_option maxRecDepth 100000 in
theorem laws_eqInt64SS.calls (k : Nat) (A0 : Option Addr) (c0 : Nat) (l0 : List (List Int)) (A1 : Option Addr) (c1 : Nat) (l1 : List (List Int)) (r : Bool) (w : World) (hr0 : Kd.C (Kd.slice 2 (Kd.int .i64)) w A0 l0.length l0) (hc0 : l0.length ≤ c0) (hr1 : Kd.C (Kd.slice 2 (Kd.int .i64)) w A1 l1.length l1) (hc1 : l1.length ≤ c1) (h : laws_eqInt64SS.f k l0 l1 = some r) :
  Calls Try.prog 17 #[.slice A0 l0.length c0, .slice A1 l1.length c1] w fun e w' => e = .returned (.bool r) ∧ Drawn0 w w' := by
 have HR0 := Aside0.mk hr0
 have HC0 := Aside0.mk hc0
 clear hr0 hc0
 have HR1 := Aside0.mk hr1
 have HC1 := Aside0.mk hc1
 clear hr1 hc1
 have H : (if (l0.length : Int) = (l1.length : Int) then (laws_eqInt64SS.l0 k l0 l1 0) else (some false)) = some r := h
 clear h
 by_cases c3 : (l0.length : Int) = (l1.length : Int)
 ·rw [if_pos c3] at H
  have c3b0 : ((l0.length : Int) == (l1.length : Int)) = true := beq_iff_eq.mpr c3
  have c3b1 : ((l0.length : Int) != (l1.length : Int)) = false := bne_eq_false_iff_eq.mpr c3
  have c3b2 : (l0.length == l1.length) = true := by first | simpa using c3 | (simp at c3 ⊢; omega)
  clear c3
  have H' := Aside0.mk H
  clear H
  go_enter Try.func17, Try.ntmps17
  go_wp2
  repeat (go_quiet (fail); try go_wp2)
  go_loopg [5] k (fun kq v5 w' => ∃ (x5_1 : Int), v5 = .int .i64 x5_1 ∧ Aside0 (laws_eqInt64SS.l0 kq l0 l1 x5_1 = some r) ∧ Aside0 (kq ≤ k) ∧ Drawn0 w w')
  case atStart => exact ⟨(0), (by first | rfl | (simp; done) | (simp [*]; done)), H', ⟨Nat.le_refl _⟩, by repeat (first | exact Drawn0.refl _ | apply Drawn0.step)⟩
  case round =>
   clear H'
   try clear c1
   try clear p2
   try clear c3
   try clear c3b0
   try clear c3b1
   try clear c3b2
   obtain ⟨x5_1, rfl, HA, HK1, ⟨m1, rfl⟩⟩ := hrel
   cases gk with
   | zero => exact absurd HA.out (by simp [laws_eqInt64SS.l0])
   | succ k1 =>
    have H := HA.out
    clear HA
    simp only [laws_eqInt64SS.l0] at H
    by_cases c4 : x5_1 < (l0.length : Int)
    ·rw [if_pos c4] at H
     have c4b0 : decide (x5_1 < (l0.length : Int)) = true := decide_eq_true c4
     clear c4
     by_cases c5 : 0 ≤ x5_1
     ·rw [if_pos c5] at H
      have c5b0 : decide (0 ≤ x5_1) = true := decide_eq_true c5
      clear c5
      by_cases c6 : x5_1 < (l1.length : Int)
      ·rw [if_pos c6] at H
       have c6b0 : decide (x5_1 < (l1.length : Int)) = true := decide_eq_true c6
       clear c6
       replace H := Option.bind_eq_some_iff.mp H
       obtain ⟨t126, A70, H⟩ := H
       replace H : (if t126 = true then (laws_eqInt64SS.l0 k1 l0 l1 (wrap64 (x5_1 + 1))) else (some false)) = some r := H
       have A7 := Aside0.mk A70
       clear A70
       by_cases c8 : t126 = true
       ·subst c8
        have H1 : (laws_eqInt64SS.l0 k1 l0 l1 (wrap64 (x5_1 + 1))) = some r := by rw [if_pos rfl] at H; exact H
        clear H
        have H := H1
        clear H1
        have H' := Aside0.mk H
        clear H
        have p124 : 0 ≤ (x5_1 : Int) := of_decide_eq_true (by first | (with_reducible assumption) | assumption)
        have q124 : x5_1 < (l0.length : Int) := of_decide_eq_true (by first | (with_reducible assumption) | assumption)
        obtain ⟨ad124, A124_0, c124_0, e124, hx124_0, hl124_0, hi124_0⟩ := at_L1 HR0.out x5_1 p124 q124
        cases e124
        have HR124_0 := Aside0.mk hi124_0
        have HC124_0 := Aside0.mk hl124_0
        clear hi124_0 hl124_0
        replace p124 := eq_true p124
        replace q124 := eq_true q124
        have p125 : 0 ≤ (x5_1 : Int) := of_decide_eq_true (by first | (with_reducible assumption) | assumption)
        have q125 : x5_1 < (l1.length : Int) := of_decide_eq_true (by first | (with_reducible assumption) | assumption)
        obtain ⟨ad125, A125_0, c125_0, e125, hx125_0, hl125_0, hi125_0⟩ := at_L1 HR1.out x5_1 p125 q125
        cases e125
        have HR125_0 := Aside0.mk hi125_0
        have HC125_0 := Aside0.mk hl125_0
        clear hi125_0 hl125_0
        replace p125 := eq_true p125
        replace q125 := eq_true q125
        go_wp2_with (first | (go_at_call 62; (with_reducible refine (laws_eqInt64S.calls k1 _ _ (rd_L1 l0 x5_1) _ _ (rd_L1 l1 x5_1) true _ ?side1 ?side2 ?side3 ?side4 A7.out).mono ?_); (case side1 => repeat (first | exact HR124_0.out | (with_reducible refine Kd.C_alloc ?_ _) | (with_reducible refine Kd.C_drewN ?_ _) | (with_reducible refine Kd.C_drew ?_))); (case side2 => exact HC124_0.out); (case side3 => repeat (first | exact HR125_0.out | (with_reducible refine Kd.C_alloc ?_ _) | (with_reducible refine Kd.C_drewN ?_ _) | (with_reducible refine Kd.C_drew ?_))); (case side4 => exact HC125_0.out); rintro e w' ⟨rfl, ⟨nd, rfl⟩⟩; (try first | exact ⟨rfl, _, World.drewN_drewN _ _ _⟩ | exact ⟨rfl, _, Eq.trans (World.drewN_drewN _ _ _) (congrArg (World.drewN _) (Nat.add_assoc _ _ _))⟩)))
        repeat (go_quiet (first | (go_at_call 62; (with_reducible refine (laws_eqInt64S.calls k1 _ _ (rd_L1 l0 x5_1) _ _ (rd_L1 l1 x5_1) true _ ?side1 ?side2 ?side3 ?side4 A7.out).mono ?_); (case side1 => repeat (first | exact HR124_0.out | (with_reducible refine Kd.C_alloc ?_ _) | (with_reducible refine Kd.C_drewN ?_ _) | (with_reducible refine Kd.C_drew ?_))); (case side2 => exact HC124_0.out); (case side3 => repeat (first | exact HR125_0.out | (with_reducible refine Kd.C_alloc ?_ _) | (with_reducible refine Kd.C_drewN ?_ _) | (with_reducible refine Kd.C_drew ?_))); (case side4 => exact HC125_0.out); rintro e w' ⟨rfl, ⟨nd, rfl⟩⟩; (try first | exact ⟨rfl, _, World.drewN_drewN _ _ _⟩ | exact ⟨rfl, _, Eq.trans (World.drewN_drewN _ _ _) (congrArg (World.drewN _) (Nat.add_assoc _ _ _))⟩))); try go_wp2_with (first | (go_at_call 62; (with_reducible refine (laws_eqInt64S.calls k1 _ _ (rd_L1 l0 x5_1) _ _ (rd_L1 l1 x5_1) true _ ?side1 ?side2 ?side3 ?side4 A7.out).mono ?_); (case side1 => repeat (first | exact HR124_0.out | (with_reducible refine Kd.C_alloc ?_ _) | (with_reducible refine Kd.C_drewN ?_ _) | (with_reducible refine Kd.C_drew ?_))); (case side2 => exact HC124_0.out); (case side3 => repeat (first | exact HR125_0.out | (with_reducible refine Kd.C_alloc ?_ _) | (with_reducible refine Kd.C_drewN ?_ _) | (with_reducible refine Kd.C_drew ?_))); (case side4 => exact HC125_0.out); rintro e w' ⟨rfl, ⟨nd, rfl⟩⟩; (try first | exact ⟨rfl, _, World.drewN_drewN _ _ _⟩ | exact ⟨rfl, _, Eq.trans (World.drewN_drewN _ _ _) (congrArg (World.drewN _) (Nat.add_assoc _ _ _))⟩))))
        go_roundg k1
        case measure => have := HK1.out; omega
        case rel => exact ⟨(wrap64 (x5_1 + 1)), (by first | rfl | (simp; done) | (simp [*]; done)), H', ⟨by have := HK1.out; omega⟩, by repeat (first | exact Drawn0.refl _ | apply Drawn0.step)⟩
       ·replace c8 := Bool.eq_false_iff.mpr c8
        subst c8
        have H1 : (some false) = some r := by rw [if_neg (show ¬ (false = true) by decide)] at H; exact H
        clear H
        have H := H1
        clear H1
        obtain rfl := Option.some.inj H
        have p124 : 0 ≤ (x5_1 : Int) := of_decide_eq_true (by first | (with_reducible assumption) | assumption)
        have q124 : x5_1 < (l0.length : Int) := of_decide_eq_true (by first | (with_reducible assumption) | assumption)
        obtain ⟨ad124, A124_0, c124_0, e124, hx124_0, hl124_0, hi124_0⟩ := at_L1 HR0.out x5_1 p124 q124
        cases e124
        have HR124_0 := Aside0.mk hi124_0
        have HC124_0 := Aside0.mk hl124_0
        clear hi124_0 hl124_0
        replace p124 := eq_true p124
        replace q124 := eq_true q124
        have p125 : 0 ≤ (x5_1 : Int) := of_decide_eq_true (by first | (with_reducible assumption) | assumption)
        have q125 : x5_1 < (l1.length : Int) := of_decide_eq_true (by first | (with_reducible assumption) | assumption)
        obtain ⟨ad125, A125_0, c125_0, e125, hx125_0, hl125_0, hi125_0⟩ := at_L1 HR1.out x5_1 p125 q125
        cases e125
        have HR125_0 := Aside0.mk hi125_0
        have HC125_0 := Aside0.mk hl125_0
        clear hi125_0 hl125_0
        replace p125 := eq_true p125
        replace q125 := eq_true q125
        go_wp2_with (first | (go_at_call 62; (with_reducible refine (laws_eqInt64S.calls k1 _ _ (rd_L1 l0 x5_1) _ _ (rd_L1 l1 x5_1) false _ ?side1 ?side2 ?side3 ?side4 A7.out).mono ?_); (case side1 => repeat (first | exact HR124_0.out | (with_reducible refine Kd.C_alloc ?_ _) | (with_reducible refine Kd.C_drewN ?_ _) | (with_reducible refine Kd.C_drew ?_))); (case side2 => exact HC124_0.out); (case side3 => repeat (first | exact HR125_0.out | (with_reducible refine Kd.C_alloc ?_ _) | (with_reducible refine Kd.C_drewN ?_ _) | (with_reducible refine Kd.C_drew ?_))); (case side4 => exact HC125_0.out); rintro e w' ⟨rfl, ⟨nd, rfl⟩⟩; (try first | exact ⟨rfl, _, World.drewN_drewN _ _ _⟩ | exact ⟨rfl, _, Eq.trans (World.drewN_drewN _ _ _) (congrArg (World.drewN _) (Nat.add_assoc _ _ _))⟩)))
        repeat (go_quiet (first | (go_at_call 62; (with_reducible refine (laws_eqInt64S.calls k1 _ _ (rd_L1 l0 x5_1) _ _ (rd_L1 l1 x5_1) false _ ?side1 ?side2 ?side3 ?side4 A7.out).mono ?_); (case side1 => repeat (first | exact HR124_0.out | (with_reducible refine Kd.C_alloc ?_ _) | (with_reducible refine Kd.C_drewN ?_ _) | (with_reducible refine Kd.C_drew ?_))); (case side2 => exact HC124_0.out); (case side3 => repeat (first | exact HR125_0.out | (with_reducible refine Kd.C_alloc ?_ _) | (with_reducible refine Kd.C_drewN ?_ _) | (with_reducible refine Kd.C_drew ?_))); (case side4 => exact HC125_0.out); rintro e w' ⟨rfl, ⟨nd, rfl⟩⟩; (try first | exact ⟨rfl, _, World.drewN_drewN _ _ _⟩ | exact ⟨rfl, _, Eq.trans (World.drewN_drewN _ _ _) (congrArg (World.drewN _) (Nat.add_assoc _ _ _))⟩))); try go_wp2_with (first | (go_at_call 62; (with_reducible refine (laws_eqInt64S.calls k1 _ _ (rd_L1 l0 x5_1) _ _ (rd_L1 l1 x5_1) false _ ?side1 ?side2 ?side3 ?side4 A7.out).mono ?_); (case side1 => repeat (first | exact HR124_0.out | (with_reducible refine Kd.C_alloc ?_ _) | (with_reducible refine Kd.C_drewN ?_ _) | (with_reducible refine Kd.C_drew ?_))); (case side2 => exact HC124_0.out); (case side3 => repeat (first | exact HR125_0.out | (with_reducible refine Kd.C_alloc ?_ _) | (with_reducible refine Kd.C_drewN ?_ _) | (with_reducible refine Kd.C_drew ?_))); (case side4 => exact HC125_0.out); rintro e w' ⟨rfl, ⟨nd, rfl⟩⟩; (try first | exact ⟨rfl, _, World.drewN_drewN _ _ _⟩ | exact ⟨rfl, _, Eq.trans (World.drewN_drewN _ _ _) (congrArg (World.drewN _) (Nat.add_assoc _ _ _))⟩))))
        go_ret
        exact ⟨by first | rfl | (simp; done) | (simp [*]; done), by repeat (first | exact Drawn0.refl _ | apply Drawn0.step)⟩
      ·rw [if_neg c6] at H
       exact absurd H (by simp)
     ·rw [if_neg c5] at H
      exact absurd H (by simp)
    ·rw [if_neg c4] at H
     have c4b0 : decide (x5_1 < (l0.length : Int)) = false := decide_eq_false c4
     clear c4
     obtain rfl := Option.some.inj H
     go_wp2
     repeat (go_quiet (fail); try go_wp2)
     go_ret
     exact ⟨by first | rfl | (simp; done) | (simp [*]; done), by repeat (first | exact Drawn0.refl _ | apply Drawn0.step)⟩
 ·rw [if_neg c3] at H
  have c3b0 : ((l0.length : Int) == (l1.length : Int)) = false := beq_eq_false_iff_ne.mpr c3
  have c3b1 : ((l0.length : Int) != (l1.length : Int)) = true := bne_iff_ne.mpr c3
  have c3b2 : (l0.length == l1.length) = false := by first | simpa using c3 | (simp at c3 ⊢; omega)
  obtain rfl := Option.some.inj H
  go_enter Try.func17, Try.ntmps17
  go_wp2
  repeat (go_quiet (fail); try go_wp2)
  go_ret
  exact ⟨by first | rfl | (simp; done) | (simp [*]; done), by repeat (first | exact Drawn0.refl _ | apply Drawn0.step)⟩
end Go.Proofs.Ytckonklpdepgoaa.Q
namespace Go.Proofs.Ytckonklpdepgoaa.Q
open Go.RowKit Go.Proofs.YtckonklpdepgoaaW.PrintWords Go.Proofs.YtckonklpdepgoaaW.PrintLast Go.Proofs.YtckonklpdepgoaaW.PrintMore
attribute [local go_sem] max2_int min2_int max_two min_two max_three min_three max_four min_four   -- for this text's walks alone
set_option linter.unusedVariables false
set_option linter.unusedSimpArgs false
def laws_heldInt64S.l0 : Nat → List Int → Int → Int → Option (Int)
 | 0, _, _, _ => none
 | k + 1, x0, x1, x5 => if x5 < (x0.length : Int) then (if 0 ≤ x5 then (if (rd x0 x5) = x1 then (laws_heldInt64S.l0 k x0 (wrap64 (x1 + 1)) (wrap64 (x5 + 1))) else (some (-1))) else (none)) else (some x1)
def laws_heldInt64S.f (k : Nat) (l0 : List Int) (a1 : Int) : Option (Int) := laws_heldInt64S.l0 k l0 a1 0
theorem laws_heldInt64S.mono_l : ∀ k, (∀ y0 y1 y2, LeO (laws_heldInt64S.l0 k y0 y1 y2) (laws_heldInt64S.l0 (k + 1) y0 y1 y2))
 | 0 => fun _ _ _ r h => by simp [laws_heldInt64S.l0] at h
 | k + 1 => by
  have ih0 := laws_heldInt64S.mono_l k
  ·intro y0 y1 y2
   unfold laws_heldInt64S.l0
   repeat' first
   | (with_reducible exact ih0 _ _ _)
   | (with_reducible exact LeO.refl _)
   | (with_reducible exact LeO.none _)
   | (with_reducible refine LeO.ite ?_ ?_)
   | (with_reducible refine LeO.bind ?_ (fun _ => ?_))
   | exact ih0 _ _ _
   | exact LeO.none _
   | refine LeO.ite ?_ ?_
   | refine LeO.bind ?_ (fun _ => ?_)
theorem laws_heldInt64S.mono : ∀ a0 a1 k, LeO (laws_heldInt64S.f k a0 a1) (laws_heldInt64S.f (k + 1) a0 a1) := by
 intro a0 a1 k
 have ih0 := laws_heldInt64S.mono_l k
 unfold laws_heldInt64S.f
 repeat' first
   | (with_reducible exact ih0 _ _ _)
   | (with_reducible exact LeO.refl _)
   | (with_reducible exact LeO.none _)
   | (with_reducible refine LeO.ite ?_ ?_)
   | (with_reducible refine LeO.bind ?_ (fun _ => ?_))
   | exact ih0 _ _ _
   | exact LeO.none _
   | refine LeO.ite ?_ ?_
   | refine LeO.bind ?_ (fun _ => ?_)
set_option maxHeartbeats 8000000 in
set_option maxRecDepth 100000 in
theorem laws_heldInt64S.calls (k : Nat) (A0 : Option Addr) (c0 : Nat) (l0 : List Int) (a1 : Int) (r : Int) (w : World) (hr0 : Kd.C (Kd.int .i64) w A0 l0.length l0) (hc0 : l0.length ≤ c0) (h : laws_heldInt64S.f k l0 a1 = some r) :
  Calls Try.prog 64 #[.slice A0 l0.length c0, .int .i64 a1] w fun e w' => e = .returned (.int .i64 r) ∧ Drawn0 w w' := by
 have HR0 := Aside0.mk hr0
 have HC0 := Aside0.mk hc0
 clear hr0 hc0
 have H : (laws_heldInt64S.l0 k l0 a1 0) = some r := h
 clear h
 have H' := Aside0.mk H
 clear H
 go_enter Try.func64, Try.ntmps64
 go_wp2
 go_loopg [1, 5] k (fun kq v1 v5 w' => ∃ (x1_1 : Int) (x5_1 : Int), v1 = .int .i64 x1_1 ∧ v5 = .int .i64 x5_1 ∧ Aside0 (laws_heldInt64S.l0 kq l0 x1_1 x5_1 = some r) ∧ Aside0 (kq ≤ k) ∧ Drawn0 w w')
 case atStart => exact ⟨(a1), (0), (by first | rfl | (simp; done) | (simp [*]; done)), (by first | rfl | (simp; done) | (simp [*]; done)), H', ⟨Nat.le_refl _⟩, by repeat (first | exact Drawn0.refl _ | apply Drawn0.step)⟩
 case round =>
  clear H'
  try clear p2
  obtain ⟨x1_1, x5_1, rfl, rfl, HA, HK1, ⟨m1, rfl⟩⟩ := hrel
  cases gk with
  | zero => exact absurd HA.out (by simp [laws_heldInt64S.l0])
  | succ k1 =>
   have H := HA.out
   clear HA
   simp only [laws_heldInt64S.l0] at H
   by_cases c3 : x5_1 < (l0.length : Int)
   ·rw [if_pos c3] at H
    have c3b0 : decide (x5_1 < (l0.length : Int)) = true := decide_eq_true c3
    clear c3
    by_cases c4 : 0 ≤ x5_1
    ·rw [if_pos c4] at H
     have c4b0 : decide (0 ≤ x5_1) = true := decide_eq_true c4
     clear c4
     by_cases c5 : (rd l0 x5_1) = x1_1
     ·rw [if_pos c5] at H
      have c5b0 : ((rd l0 x5_1) == x1_1) = true := beq_iff_eq.mpr c5
      have c5b1 : ((rd l0 x5_1) != x1_1) = false := bne_eq_false_iff_eq.mpr c5
      clear c5
      have H' := Aside0.mk H
      clear H
      have p129 : 0 ≤ (x5_1 : Int) := of_decide_eq_true (by first | (with_reducible assumption) | assumption)
      have q129 : x5_1 < (l0.length : Int) := of_decide_eq_true (by first | (with_reducible assumption) | assumption)
      obtain ⟨ad129, e129, hx129_0⟩ := Kd.at_int HR0.out x5_1 p129 q129
      cases e129
      replace p129 := eq_true p129
      replace q129 := eq_true q129
      go_wp2
      go_roundg k1
      case measure => have := HK1.out; omega
      case rel => exact ⟨(wrap64 (x1_1 + 1)), (wrap64 (x5_1 + 1)), (by first | rfl | (simp; done) | (simp [*]; done)), (by first | rfl | (simp; done) | (simp [*]; done)), H', ⟨by have := HK1.out; omega⟩, by repeat (first | exact Drawn0.refl _ | apply Drawn0.step)⟩
     ·rw [if_neg c5] at H
      have c5b0 : ((rd l0 x5_1) == x1_1) = false := beq_eq_false_iff_ne.mpr c5
      have c5b1 : ((rd l0 x5_1) != x1_1) = true := bne_iff_ne.mpr c5
      obtain rfl := Option.some.inj H
      have p129 : 0 ≤ (x5_1 : Int) := of_decide_eq_true (by first | (with_reducible assumption) | assumption)
      have q129 : x5_1 < (l0.length : Int) := of_decide_eq_true (by first | (with_reducible assumption) | assumption)
      obtain ⟨ad129, e129, hx129_0⟩ := Kd.at_int HR0.out x5_1 p129 q129
      cases e129
      replace p129 := eq_true p129
      replace q129 := eq_true q129
      go_wp2
      go_ret
      exact ⟨by first | rfl | (simp; done) | (simp [*]; done), by repeat (first | exact Drawn0.refl _ | apply Drawn0.step)⟩
    ·rw [if_neg c4] at H
     exact absurd H (by simp)
   ·rw [if_neg c3] at H
    have c3b0 : decide (x5_1 < (l0.length : Int)) = false := decide_eq_false c3
    clear c3
    obtain rfl := Option.some.inj H
    go_wp2
    go_ret
    exact ⟨by first | rfl | (simp; done) | (simp [*]; done), by repeat (first | exact Drawn0.refl _ | apply Drawn0.step)⟩
end Go.Proofs.Ytckonklpdepgoaa.Q
namespace Go.Proofs.Ytckonklpdepgoaa.Q
open Go.RowKit Go.Proofs.YtckonklpdepgoaaW.PrintWords Go.Proofs.YtckonklpdepgoaaW.PrintLast Go.Proofs.YtckonklpdepgoaaW.PrintMore
attribute [local go_sem] max2_int min2_int max_two min_two max_three min_three max_four min_four   -- for this text's walks alone
set_option linter.unusedVariables false
set_option linter.unusedSimpArgs false
def laws_heldInt64SS.l0 : Nat → List (List Int) → Int → Int → Option (Int)
 | 0, _, _, _ => none
 | k + 1, x0, x1, x5 => if x5 < (x0.length : Int) then (if 0 ≤ x5 then ((laws_heldInt64S.f k (rd_L1 x0 x5) x1).bind fun t131 => (if t131 < 0 then (some (-1)) else (laws_heldInt64SS.l0 k x0 t131 (wrap64 (x5 + 1))))) else (none)) else (some x1)
def laws_heldInt64SS.f (k : Nat) (l0 : List (List Int)) (a1 : Int) : Option (Int) := laws_heldInt64SS.l0 k l0 a1 0
theorem laws_heldInt64SS.mono_l : ∀ k, (∀ y0 y1 y2, LeO (laws_heldInt64SS.l0 k y0 y1 y2) (laws_heldInt64SS.l0 (k + 1) y0 y1 y2))
 | 0 => fun _ _ _ r h => by simp [laws_heldInt64SS.l0] at h
 | k + 1 => by
  have ih0 := laws_heldInt64SS.mono_l k
  ·intro y0 y1 y2
   unfold laws_heldInt64SS.l0
   repeat' first
   | (with_reducible exact ih0 _ _ _)
   | (with_reducible exact laws_heldInt64S.mono _ _ _)
   | (with_reducible exact LeO.refl _)
   | (with_reducible exact LeO.none _)
   | (with_reducible refine LeO.ite ?_ ?_)
   | (with_reducible refine LeO.bind ?_ (fun _ => ?_))
   | exact ih0 _ _ _
   | exact laws_heldInt64S.mono _ _ _
   | exact LeO.none _
   | refine LeO.ite ?_ ?_
   | refine LeO.bind ?_ (fun _ => ?_)
theorem laws_heldInt64SS.mono : ∀ a0 a1 k, LeO (laws_heldInt64SS.f k a0 a1) (laws_heldInt64SS.f (k + 1) a0 a1) := by
 intro a0 a1 k
 have ih0 := laws_heldInt64SS.mono_l k
 unfold laws_heldInt64SS.f
 repeat' first
   | (with_reducible exact ih0 _ _ _)
   | (with_reducible exact laws_heldInt64S.mono _ _ _)
   | (with_reducible exact LeO.refl _)
   | (with_reducible exact LeO.none _)
   | (with_reducible refine LeO.ite ?_ ?_)
   | (with_reducible refine LeO.bind ?_ (fun _ => ?_))
   | exact ih0 _ _ _
   | exact laws_heldInt64S.mono _ _ _
   | exact LeO.none _
   | refine LeO.ite ?_ ?_
   | refine LeO.bind ?_ (fun _ => ?_)
set_option maxHeartbeats 8000000 in
set_option maxRecDepth 100000 in
theorem laws_heldInt64SS.calls (k : Nat) (A0 : Option Addr) (c0 : Nat) (l0 : List (List Int)) (a1 : Int) (r : Int) (w : World) (hr0 : Kd.C (Kd.slice 2 (Kd.int .i64)) w A0 l0.length l0) (hc0 : l0.length ≤ c0) (h : laws_heldInt64SS.f k l0 a1 = some r) :
  Calls Try.prog 19 #[.slice A0 l0.length c0, .int .i64 a1] w fun e w' => e = .returned (.int .i64 r) ∧ Drawn0 w w' := by
 have HR0 := Aside0.mk hr0
 have HC0 := Aside0.mk hc0
 clear hr0 hc0
 have H : (laws_heldInt64SS.l0 k l0 a1 0) = some r := h
 clear h
 have H' := Aside0.mk H
 clear H
 go_enter Try.func19, Try.ntmps19
 go_wp2
 go_loopg [1, 5] k (fun kq v1 v5 w' => ∃ (x1_1 : Int) (x5_1 : Int), v1 = .int .i64 x1_1 ∧ v5 = .int .i64 x5_1 ∧ Aside0 (laws_heldInt64SS.l0 kq l0 x1_1 x5_1 = some r) ∧ Aside0 (kq ≤ k) ∧ Drawn0 w w')
 case atStart => exact ⟨(a1), (0), (by first | rfl | (simp; done) | (simp [*]; done)), (by first | rfl | (simp; done) | (simp [*]; done)), H', ⟨Nat.le_refl _⟩, by repeat (first | exact Drawn0.refl _ | apply Drawn0.step)⟩
 case round =>
  clear H'
  try clear c1
  try clear p2
  obtain ⟨x1_1, x5_1, rfl, rfl, HA, HK1, ⟨m1, rfl⟩⟩ := hrel
  cases gk with
  | zero => exact absurd HA.out (by simp [laws_heldInt64SS.l0])
  | succ k1 =>
   have H := HA.out
   clear HA
   simp only [laws_heldInt64SS.l0] at H
   by_cases c3 : x5_1 < (l0.length : Int)
   ·rw [if_pos c3] at H
    have c3b0 : decide (x5_1 < (l0.length : Int)) = true := decide_eq_true c3
    clear c3
    by_cases c4 : 0 ≤ x5_1
    ·rw [if_pos c4] at H
     have c4b0 : decide (0 ≤ x5_1) = true := decide_eq_true c4
     clear c4
     replace H := Option.bind_eq_some_iff.mp H
     obtain ⟨t131, A50, H⟩ := H
     replace H : (if t131 < 0 then (some (-1)) else (laws_heldInt64SS.l0 k1 l0 t131 (wrap64 (x5_1 + 1)))) = some r := H
     have A5 := Aside0.mk A50
     clear A50
     by_cases c6 : t131 < 0
     ·rw [if_pos c6] at H
      have c6b0 : decide (t131 < 0) = true := decide_eq_true c6
      clear c6
      obtain rfl := Option.some.inj H
      have p130 : 0 ≤ (x5_1 : Int) := of_decide_eq_true (by first | (with_reducible assumption) | assumption)
      have q130 : x5_1 < (l0.length : Int) := of_decide_eq_true (by first | (with_reducible assumption) | assumption)
      obtain ⟨ad130, A130_0, c130_0, e130, hx130_0, hl130_0, hi130_0⟩ := at_L1 HR0.out x5_1 p130 q130
      cases e130
      have HR130_0 := Aside0.mk hi130_0
      have HC130_0 := Aside0.mk hl130_0
      clear hi130_0 hl130_0
      replace p130 := eq_true p130
      replace q130 := eq_true q130
      go_wp2_with (first | ((with_reducible refine gate_callee (f := 64) rfl ?_); refine goesL_ (some 17) rfl rfl Try.func64 (by kernel_rfl) rfl #[.slice A130_0 (rd_L1 l0 x5_1).length c130_0, .int .i64 x1_1] rfl (by (try simp only [List.map_toArray, List.map_cons, List.map_nil]); first | done | rfl | (simp only [List.length_drop, List.length_take]; rfl) | (simp only [show ∀ (n_ : Nat) (b_ : Int), Int.tdiv (n_ : Int) b_ = (n_ : Int) / b_ from fun n_ b_ => Int.tdiv_eq_ediv_of_nonneg (Int.natCast_nonneg n_)]; rfl)) ?_; (with_reducible refine (laws_heldInt64S.calls k1 _ _ (rd_L1 l0 x5_1) x1_1 t131 _ ?side1 ?side2 A5.out).mono ?_); (case side1 => repeat (first | exact HR130_0.out | (with_reducible refine Kd.C_alloc ?_ _) | (with_reducible refine Kd.C_drewN ?_ _) | (with_reducible refine Kd.C_drew ?_))); (case side2 => exact HC130_0.out); rintro e w' ⟨rfl, ⟨nd, rfl⟩⟩; refine ⟨_, rfl, ?_⟩))
      go_ret
      exact ⟨by first | rfl | (simp; done) | (simp [*]; done), by repeat (first | exact Drawn0.refl _ | apply Drawn0.step)⟩
     ·rw [if_neg c6] at H
      have c6b0 : decide (t131 < 0) = false := decide_eq_false c6
      clear c6
      have H' := Aside0.mk H
      clear H
      have p130 : 0 ≤ (x5_1 : Int) := of_decide_eq_true (by first | (with_reducible assumption) | assumption)
      have q130 : x5_1 < (l0.length : Int) := of_decide_eq_true (by first | (with_reducible assumption) | assumption)
      obtain ⟨ad130, A130_0, c130_0, e130, hx130_0, hl130_0, hi130_0⟩ := at_L1 HR0.out x5_1 p130 q130
      cases e130
      have HR130_0 := Aside0.mk hi130_0
      have HC130_0 := Aside0.mk hl130_0
      clear hi130_0 hl130_0
      replace p130 := eq_true p130
      replace q130 := eq_true q130
      go_wp2_with (first | ((with_reducible refine gate_callee (f := 64) rfl ?_); refine goesL_ (some 17) rfl rfl Try.func64 (by kernel_rfl) rfl #[.slice A130_0 (rd_L1 l0 x5_1).length c130_0, .int .i64 x1_1] rfl (by (try simp only [List.map_toArray, List.map_cons, List.map_nil]); first | done | rfl | (simp only [List.length_drop, List.length_take]; rfl) | (simp only [show ∀ (n_ : Nat) (b_ : Int), Int.tdiv (n_ : Int) b_ = (n_ : Int) / b_ from fun n_ b_ => Int.tdiv_eq_ediv_of_nonneg (Int.natCast_nonneg n_)]; rfl)) ?_; (with_reducible refine (laws_heldInt64S.calls k1 _ _ (rd_L1 l0 x5_1) x1_1 t131 _ ?side1 ?side2 A5.out).mono ?_); (case side1 => repeat (first | exact HR130_0.out | (with_reducible refine Kd.C_alloc ?_ _) | (with_reducible refine Kd.C_drewN ?_ _) | (with_reducible refine Kd.C_drew ?_))); (case side2 => exact HC130_0.out); rintro e w' ⟨rfl, ⟨nd, rfl⟩⟩; refine ⟨_, rfl, ?_⟩))
      go_roundg k1
      case measure => have := HK1.out; omega
      case rel => exact ⟨(t131), (wrap64 (x5_1 + 1)), (by first | rfl | (simp; done) | (simp [*]; done)), (by first | rfl | (simp; done) | (simp [*]; done)), H', ⟨by have := HK1.out; omega⟩, by repeat (first | exact Drawn0.refl _ | apply Drawn0.step)⟩
    ·rw [if_neg c4] at H
     exact absurd H (by simp)
   ·rw [if_neg c3] at H
    have c3b0 : decide (x5_1 < (l0.length : Int)) = false := decide_eq_false c3
    clear c3
    obtain rfl := Option.some.inj H
    go_wp2
    go_ret
    exact ⟨by first | rfl | (simp; done) | (simp [*]; done), by repeat (first | exact Drawn0.refl _ | apply Drawn0.step)⟩
end Go.Proofs.Ytckonklpdepgoaa.Q
namespace Go.Proofs.Ytckonklpdepgoaa.Q
open Go.RowKit Go.Proofs.YtckonklpdepgoaaW.PrintWords Go.Proofs.YtckonklpdepgoaaW.PrintLast Go.Proofs.YtckonklpdepgoaaW.PrintMore
attribute [local go_sem] max2_int min2_int max_two min_two max_three min_three max_four min_four   -- for this text's walks alone
set_option linter.unusedVariables false
set_option linter.unusedSimpArgs false
def spec_l00In.f (a0 : Int) (a1 : Int) (a2 : Int) : Option (Bool) := if a0 ≥ a1 then (some (decide (a0 ≤ a2))) else (some false)
set_option maxHeartbeats 8000000 in
set_option maxRecDepth 100000 in
theorem spec_l00In.calls (a0 : Int) (a1 : Int) (a2 : Int) (r : Bool) (w : World) (h : spec_l00In.f a0 a1 a2 = some r) :
  Calls Try.prog 85 #[.int .i64 a0, .int .i64 a1, .int .i64 a2] w fun e w' => e = .returned (.bool r) ∧ Drawn0 w w' := by
 have H : (if a0 ≥ a1 then (some (decide (a0 ≤ a2))) else (some false)) = some r := h
 clear h
 by_cases c4 : a0 ≥ a1
 ·rw [if_pos c4] at H
  have c4b0 : decide (a1 ≤ a0) = true := decide_eq_true c4
  clear c4
  obtain rfl := Option.some.inj H
  go_enter Try.func85, Try.ntmps85
  go_wp2
  go_ret
  exact ⟨by first | rfl | (simp; done) | (simp [*]; done), by repeat (first | exact Drawn0.refl _ | apply Drawn0.step)⟩
 ·rw [if_neg c4] at H
  have c4b0 : decide (a1 ≤ a0) = false := decide_eq_false c4
  clear c4
  obtain rfl := Option.some.inj H
  go_enter Try.func85, Try.ntmps85
  go_wp2
  go_ret
  exact ⟨by first | rfl | (simp; done) | (simp [*]; done), by repeat (first | exact Drawn0.refl _ | apply Drawn0.step)⟩
def spec_l09Order.f (a0 : Int) : Option (Bool) := (spec_l00In.f a0 0 3).bind fun t101 => (some t101)
set_option maxHeartbeats 8000000 in
set_option maxRecDepth 100000 in
theorem spec_l09Order.calls (a0 : Int) (r : Bool) (w : World) (h : spec_l09Order.f a0 = some r) :
  Calls Try.prog 58 #[.int .i64 a0] w fun e w' => e = .returned (.bool r) ∧ Drawn0 w w' := by
 have H : ((spec_l00In.f a0 0 3).bind fun t101 => (some t101)) = some r := h
 clear h
 replace H := Option.bind_eq_some_iff.mp H
 obtain ⟨t101, A20, H⟩ := H
 replace H : (some t101) = some r := H
 have A2 := Aside0.mk A20
 clear A20
 obtain rfl := Option.some.inj H
 go_enter Try.func58, Try.ntmps58
 go_wp2_with (first | ((with_reducible refine gate_callee (f := 85) rfl ?_); refine goesL_ (some 4) rfl rfl Try.func85 (by kernel_rfl) rfl #[.int .i64 a0, .int .i64 0, .int .i64 3] rfl (by (try simp only [List.map_toArray, List.map_cons, List.map_nil]); first | done | rfl | (simp only [List.length_drop, List.length_take]; rfl) | (simp only [show ∀ (n_ : Nat) (b_ : Int), Int.tdiv (n_ : Int) b_ = (n_ : Int) / b_ from fun n_ b_ => Int.tdiv_eq_ediv_of_nonneg (Int.natCast_nonneg n_)]; rfl)) ?_; (with_reducible refine (spec_l00In.calls a0 0 3 t101 _ A2.out).mono ?_); rintro e w' ⟨rfl, ⟨nd, rfl⟩⟩; refine ⟨_, rfl, ?_⟩))
 go_ret
 exact ⟨by first | rfl | (simp; done) | (simp [*]; done), by repeat (first | exact Drawn0.refl _ | apply Drawn0.step)⟩
def spec_l09Square.l0 : Nat → Int → Int → List (List Int) → Int → Option ((List (List Int)))
 | 0, _, _, _, _ => none
 | k + 1, x0, x1, x5, x6 => if x6 < x0 then (if 0 ≤ x1 then (if (x1 : Int).toNat ≤ 35184372088832 then (if x5.length < 5864062014805 then (spec_l09Square.l0 k x0 x1 (x5 ++ [(List.replicate (x1 : Int).toNat 0)]) (wrap64 (x6 + 1))) else (none)) else (none)) else (none)) else (some x5)
def spec_l09Square.f (k : Nat) (a0 : Int) (a1 : Int) : Option ((List (List Int))) := spec_l09Square.l0 k a0 a1 (([] : List (List Int))) 0
theorem spec_l09Square.mono_l : ∀ k, (∀ y0 y1 y2 y3, LeO (spec_l09Square.l0 k y0 y1 y2 y3) (spec_l09Square.l0 (k + 1) y0 y1 y2 y3))
 | 0 => fun _ _ _ _ r h => by simp [spec_l09Square.l0] at h
 | k + 1 => by
  have ih0 := spec_l09Square.mono_l k
  ·intro y0 y1 y2 y3
   unfold spec_l09Square.l0
   repeat' first
   | (with_reducible exact ih0 _ _ _ _)
   | (with_reducible exact LeO.refl _)
   | (with_reducible exact LeO.none _)
   | (with_reducible refine LeO.ite ?_ ?_)
   | (with_reducible refine LeO.bind ?_ (fun _ => ?_))
   | exact ih0 _ _ _ _
   | exact LeO.none _
   | refine LeO.ite ?_ ?_
   | refine LeO.bind ?_ (fun _ => ?_)
theorem spec_l09Square.mono : ∀ a0 a1 k, LeO (spec_l09Square.f k a0 a1) (spec_l09Square.f (k + 1) a0 a1) := by
 intro a0 a1 k
 have ih0 := spec_l09Square.mono_l k
 unfold spec_l09Square.f
 repeat' first
   | (with_reducible exact ih0 _ _ _ _)
   | (with_reducible exact LeO.refl _)
   | (with_reducible exact LeO.none _)
   | (with_reducible refine LeO.ite ?_ ?_)
   | (with_reducible refine LeO.bind ?_ (fun _ => ?_))
   | exact ih0 _ _ _ _
   | exact LeO.none _
   | refine LeO.ite ?_ ?_
   | refine LeO.bind ?_ (fun _ => ?_)
set_option maxHeartbeats 8000000 in
set_option maxRecDepth 100000 in
theorem spec_l09Square.calls (k : Nat) (a0 : Int) (a1 : Int) (r : List (List Int)) (w : World) (h : spec_l09Square.f k a0 a1 = some r) :
  Calls Try.prog 90 #[.int .i64 a0, .int .i64 a1] w fun e w' => ∃ v0_ : Value, e = .returned (v0_) ∧ Kd.S (Kd.slice 2 (Kd.int .i64)) 34 w' w.heap.size (fun _ => True) v0_ r ∧ Below w.heap.size w w' := by
 have HB := Aside0.mk (Below.refl w.heap.size w)
 have H : (spec_l09Square.l0 k a0 a1 (([] : List (List Int))) 0) = some r := h
 clear h
 obtain ⟨y102, hy102⟩ : ∃ y_ : List (List Int), y_ = (([] : List (List Int))) := ⟨_, rfl⟩
 replace H : (spec_l09Square.l0 k a0 a1 y102 0) = some r := by first | (rw [hy102]; with_reducible exact H) | (have H2_ := (Option.bind_some _ _).symm.trans H; rw [hy102]; with_reducible exact H2_) | (have H2_ := (Option.bind_some _ _).symm.trans H; with_reducible exact H2_) | with_reducible exact H | (rw [hy102]; exact H) | exact H
 have Ny102 := Aside0.mk hy102
 clear hy102
 have H' := Aside0.mk H
 clear H
 go_enter Try.func90, Try.ntmps90
 go_wp2_with (first | ((with_reducible refine gate_dst (N := 7) rfl ?_); refine Kd.S_lit (Kd.slice 2 (Kd.int .i64)) _ 34 ?hg (N := 7) ?hd (xs := ([] : List (List Int))) (inner := []) (ok := fun _ => True) (okp := fun _ => True) ?hr ?hp (fun _ hk => hk) trivial (Below.refl _ _) (Nat.le_refl _) (by simp) ?_; (case hd => rfl); (case hg => rfl); (case hr => first | (go_simp; done) | (go_simp; rfl)); (case hp => exact (Reps.none _ _)); intro v103 w3 ho4 hb hg_ hnew_; clear hg_ hnew_; (first | rw [← Ny102.out] at ho4 | (simp only [Int.reduceToNat] at ho4; rw [← Ny102.out] at ho4)); have n0_ := Aside0.mk (Kd.S_lower ho4 (below_size (by repeat (first | (with_reducible first | exact HB.out | apply below_alloc | apply pw_below_drewN | apply below_drew1) | exact HB.out)))); have n1_ := Aside0.mk (below_step (by repeat (first | (with_reducible first | exact HB.out | apply below_alloc | apply pw_below_drewN | apply below_drew1) | exact HB.out)) hb); clear HB; have HO104 := n0_; have HB := n1_; clear n0_ n1_; clear hb ho4))
 go_loopg [5, 6] k (fun kq v5 v6 w' => ∃ (x5_1 : List (List Int)) (x6_1 : Int), v6 = .int .i64 x6_1 ∧ Aside0 (spec_l09Square.l0 kq a0 a1 x5_1 x6_1 = some r) ∧ Aside0 (kq ≤ k) ∧ Aside0 (Kd.S (Kd.slice 2 (Kd.int .i64)) 34 w' w.heap.size (fun _ => True) v5 x5_1) ∧ Aside0 (Below w.heap.size w w'))
 case atStart => exact ⟨(y102), (0), (by first | rfl | (simp; done) | (simp [*]; done)), H', ⟨Nat.le_refl _⟩, ⟨by (with_reducible repeat (first | apply Kd.S_alloc | apply Kd.S_drewN | apply Kd.S_drew)); exact HO104.out⟩, ⟨by repeat (first | (with_reducible first | exact HB.out | apply below_alloc | apply pw_below_drewN | apply below_drew1) | exact HB.out)⟩⟩
 case round =>
  clear H'
  try clear p2
  obtain ⟨x5_1, x6_1, rfl, HA, HK1, HO_5, HB⟩ := hrel
  cases gk with
  | zero => exact absurd HA.out (by simp [spec_l09Square.l0])
  | succ k1 =>
   have H := HA.out
   clear HA
   simp only [spec_l09Square.l0] at H
   by_cases c5 : x6_1 < a0
   ·rw [if_pos c5] at H
    have c5b0 : decide (x6_1 < a0) = true := decide_eq_true c5
    clear c5
    by_cases c6 : 0 ≤ a1
    ·rw [if_pos c6] at H
     have c6b0 := eq_true c6
     have c6b1 : decide (0 ≤ a1) = true := decide_eq_true c6
     clear c6
     by_cases c7 : (a1 : Int).toNat ≤ 35184372088832
     ·rw [if_pos c7] at H
      have c7b0 := eq_true c7
      have c7b1 : decide ((a1 : Int).toNat ≤ 35184372088832) = true := decide_eq_true c7
      clear c7
      obtain ⟨y105, hy105⟩ : ∃ y_ : List Int, y_ = (List.replicate (a1 : Int).toNat 0) := ⟨_, rfl⟩
      replace H : (if x5_1.length < 5864062014805 then (spec_l09Square.l0 k1 a0 a1 (x5_1 ++ [y105]) (wrap64 (x6_1 + 1))) else (none)) = some r := by first | (rw [hy105]; with_reducible exact H) | (have H2_ := (Option.bind_some _ _).symm.trans H; rw [hy105]; with_reducible exact H2_) | (have H2_ := (Option.bind_some _ _).symm.trans H; with_reducible exact H2_) | with_reducible exact H | (rw [hy105]; exact H) | exact H
      have Ny105 := Aside0.mk hy105
      clear hy105
      by_cases c8 : x5_1.length < 5864062014805
      ·rw [if_pos c8] at H
       have LMc8 := Aside0.mk c8
       clear c8
       obtain ⟨y108, hy108⟩ : ∃ y_ : List (List Int), y_ = (x5_1 ++ [y105]) := ⟨_, rfl⟩
       replace H : (spec_l09Square.l0 k1 a0 a1 y108 (wrap64 (x6_1 + 1))) = some r := by first | (rw [hy108]; with_reducible exact H) | (have H2_ := (Option.bind_some _ _).symm.trans H; rw [hy108]; with_reducible exact H2_) | (have H2_ := (Option.bind_some _ _).symm.trans H; with_reducible exact H2_) | with_reducible exact H | (rw [hy108]; exact H) | exact H
       have Ny108 := Aside0.mk hy108
       clear hy108
       have H' := Aside0.mk H
       clear H
       go_wp2_with (first | ((with_reducible refine gate_dst (N := 15) rfl ?_); refine Kd.R_make (Kd.int .i64) _ 2 rfl (N := 15) rfl 34 _ _ rfl a1 rfl rfl Try.underlying34 (.int .i64 0) 8 info2 rfl (by decide) (by omega) 0 (ok := fun _ => True) (okp := fun _ => True) rfl (fun _ hk => hk) trivial (of_decide_eq_true (by first | (with_reducible assumption) | assumption)) (Nat.le_trans (Nat.mul_le_mul_right _ (of_decide_eq_true (by first | (with_reducible assumption) | assumption) : a1.toNat ≤ 35184372088832)) (by omega)) (Below.refl _ _) (Nat.le_refl _) ?_; intro v106 w9 ho10 hb hg_ hnew_; clear hg_ hnew_; (first | rw [← Ny105.out] at ho10 | (simp only [Int.reduceToNat] at ho10; rw [← Ny105.out] at ho10)); have n0_ := Aside0.mk (Kd.S_elder' (by (with_reducible repeat (first | apply Kd.S_alloc | apply Kd.S_drewN | apply Kd.S_drew)); exact HO_5.out) (Kd.R_base ho10) hb); have n1_ := Aside0.mk (Kd.R_lower ho10 (below_size (by repeat (first | (with_reducible first | exact HB.out | apply below_alloc | apply pw_below_drewN | apply below_drew1) | exact HB.out)))); have n2_ := Aside0.mk (below_step (by repeat (first | (with_reducible first | exact HB.out | apply below_alloc | apply pw_below_drewN | apply below_drew1) | exact HB.out)) hb); clear HO_5; clear HB; have HO_5 := n0_; have HO107 := n1_; have HB := n2_; clear n0_ n1_ n2_; clear hb ho10; obtain ⟨Ao12, co12, eo12⟩ := Kd.R_slice HO107.out; subst eo12) | ((with_reducible refine gate_builtin (b := .append) (xs := #[.tmp 13, .tmp 16]) rfl ?_); at_builtin; refine Kd.S_append (Kd.slice 2 (Kd.int .i64)) (w0 := w) w.heap.size rfl (.tmp 13) (.tmp 16) 22 34 (.slice none 0 0) 24 rfl Try.underlying22 info34 rfl (by decide) (by omega) u5 x5_1 y105 [.slice Ao12 y105.length co12] (fun _ => True) (fun k_ => some k_ = (.slice Ao12 y105.length co12 : Value).ownBlock) rfl rfl ?aP (fun k_ hk_ => ((Kd.R_mono (ok' := fun k_ => ((fun _ => True)) k_ ∧ some k_ ≠ (u5 : Value).ownBlock) (Kd.R_apart' (HO107.out) (Kd.S_typed HO_5.out) (by decide)) (fun k_ hk => ⟨trivial, hk.2⟩))).1 k_ hk_.symm) ?aF ?aO ?aB ?aS ?aL ?_; (case aP => exact Kd.M_row (Kd.R_mono (Kd.R_tight rfl (Kd.R_mono (ok' := fun k_ => ((fun _ => True)) k_ ∧ some k_ ≠ (u5 : Value).ownBlock) (Kd.R_apart' (HO107.out) (Kd.S_typed HO_5.out) (by decide)) (fun k_ hk => ⟨trivial, hk.2⟩))) (fun _ h_ => h_))); (case aB => exact (by repeat (first | (with_reducible first | exact HB.out | apply below_alloc | apply pw_below_drewN | apply below_drew1) | exact HB.out))); (case aF => exact (fun _ _ => trivial)); (case aO => exact (by (with_reducible repeat (first | apply Kd.S_alloc | apply Kd.S_drewN | apply Kd.S_drew)); exact Kd.S_mono HO_5.out (fun k_ hk => ⟨trivial, fun e_ => hk.2 e_⟩))); (case aS => exact (below_size (by repeat (first | (with_reducible first | exact HB.out | apply below_alloc | apply pw_below_drewN | apply below_drew1) | exact HB.out)))); (case aL => have := LMc8.out; omega); intro v109 w11 ho hb hg hat; rw [← Ny108.out] at ho; have n0_ := Aside0.mk (hb); have n1_ := Aside0.mk (ho); clear HB; clear HO_5; clear HO107; have HB := n0_; have HO110 := n1_; clear n0_ n1_; clear ho hb hg hat))
       go_roundg k1
       case measure => have := HK1.out; omega
       case rel => exact ⟨(y108), (wrap64 (x6_1 + 1)), (by first | rfl | (simp; done) | (simp [*]; done)), H', ⟨by have := HK1.out; omega⟩, ⟨by (with_reducible repeat (first | apply Kd.S_alloc | apply Kd.S_drewN | apply Kd.S_drew)); exact HO110.out⟩, ⟨by repeat (first | (with_reducible first | exact HB.out | apply below_alloc | apply pw_below_drewN | apply below_drew1) | exact HB.out)⟩⟩
      ·rw [if_neg c8] at H
       exact absurd H (by simp)
     ·rw [if_neg c7] at H
      exact absurd H (by simp)
    ·rw [if_neg c6] at H
     exact absurd H (by simp)
   ·rw [if_neg c5] at H
    have c5b0 : decide (x6_1 < a0) = false := decide_eq_false c5
    clear c5
    obtain rfl := Option.some.inj H
    go_wp2
    go_ret
    exact ⟨_, by first | rfl | (simp [errW_none, errW_some] <;> rfl) | (simp [*, errW_none, errW_some] <;> rfl), by (with_reducible repeat (first | apply Kd.S_alloc | apply Kd.S_drewN | apply Kd.S_drew)); exact HO_5.out, by repeat (first | (with_reducible first | exact HB.out | apply below_alloc | apply pw_below_drewN | apply below_drew1) | exact HB.out)⟩
end Go.Proofs.Ytckonklpdepgoaa.Q
namespace Go.Proofs.Ytckonklpdepgoaa.Q
open Go.RowKit Go.Proofs.YtckonklpdepgoaaW.PrintWords Go.Proofs.YtckonklpdepgoaaW.PrintLast Go.Proofs.YtckonklpdepgoaaW.PrintMore
attribute [local go_sem] max2_int min2_int max_two min_two max_three min_three max_four min_four   -- for this text's walks alone
set_option linter.unusedVariables false
set_option linter.unusedSimpArgs false
mutual
def spec_l09Hilbert.l0 : Nat → Int → List (List Int) → Int → Option ((List (List Int)))
 | 0, _, _, _ => none
 | k + 1, x0, x3, x4 => if x0 > 0 then (spec_l09Hilbert.l1 k x0 x3 x4 (([] : List (List Int))) 0) else (some x3)
def spec_l09Hilbert.l1 : Nat → Int → List (List Int) → Int → List (List Int) → Int → Option ((List (List Int)))
 | 0, _, _, _, _, _ => none
 | k + 1, x0, x3, x4, x5, x6 => if x6 < (x3.length : Int) then (if 0 ≤ x6 then (if 1 < ((rd_L1 x3 x6).length : Int) then (if 0 < ((rd_L1 x3 x6).length : Int) then (if x5.length < 5864062014805 then (spec_l09Hilbert.l1 k x0 x3 x4 (x5 ++ [(([rd (rd_L1 x3 x6) 1, rd (rd_L1 x3 x6) 0] : List Int))]) (wrap64 (x6 + 1))) else (none)) else (none)) else (none)) else (none)) else (spec_l09Hilbert.l2 k x0 x3 x4 x5 0)
def spec_l09Hilbert.l2 : Nat → Int → List (List Int) → Int → List (List Int) → Int → Option ((List (List Int)))
 | 0, _, _, _, _, _ => none
 | k + 1, x0, x3, x4, x5, x7 => if x7 < (x3.length : Int) then (if 0 ≤ x7 then (if 0 < ((rd_L1 x3 x7).length : Int) then (if 1 < ((rd_L1 x3 x7).length : Int) then (if x5.length < 5864062014805 then (spec_l09Hilbert.l2 k x0 x3 x4 (x5 ++ [(([rd (rd_L1 x3 x7) 0, wrap64 ((rd (rd_L1 x3 x7) 1) + x4)] : List Int))]) (wrap64 (x7 + 1))) else (none)) else (none)) else (none)) else (none)) else (spec_l09Hilbert.l3 k x0 x3 x4 x5 0)
def spec_l09Hilbert.l3 : Nat → Int → List (List Int) → Int → List (List Int) → Int → Option ((List (List Int)))
 | 0, _, _, _, _, _ => none
 | k + 1, x0, x3, x4, x5, x8 => if x8 < (x3.length : Int) then (if 0 ≤ x8 then (if 0 < ((rd_L1 x3 x8).length : Int) then (if 1 < ((rd_L1 x3 x8).length : Int) then (if x5.length < 5864062014805 then (spec_l09Hilbert.l3 k x0 x3 x4 (x5 ++ [(([wrap64 ((rd (rd_L1 x3 x8) 0) + x4), wrap64 ((rd (rd_L1 x3 x8) 1) + x4)] : List Int))]) (wrap64 (x8 + 1))) else (none)) else (none)) else (none)) else (none)) else (spec_l09Hilbert.l4 k x0 x3 x4 x5 0)
def spec_l09Hilbert.l4 : Nat → Int → List (List Int) → Int → List (List Int) → Int → Option ((List (List Int)))
 | 0, _, _, _, _, _ => none
 | k + 1, x0, x3, x4, x5, x9 => if x9 < (x3.length : Int) then (if 0 ≤ x9 then (if 1 < ((rd_L1 x3 x9).length : Int) then (if 0 < ((rd_L1 x3 x9).length : Int) then (if x5.length < 5864062014805 then (spec_l09Hilbert.l4 k x0 x3 x4 (x5 ++ [(([wrap64 ((wrap64 ((wrap64 (2 * x4)) - 1)) - (rd (rd_L1 x3 x9) 1)), wrap64 ((wrap64 (x4 - 1)) - (rd (rd_L1 x3 x9) 0))] : List Int))]) (wrap64 (x9 + 1))) else (none)) else (none)) else (none)) else (none)) else (spec_l09Hilbert.l0 k (wrap64 (x0 - 1)) x5 (wrap64 (x4 * 2)))
end
def spec_l09Hilbert.f (k : Nat) (a0 : Int) : Option ((List (List Int))) := spec_l09Hilbert.l0 k a0 (([(([0, 0] : List Int))] : List (List Int))) 1
theorem spec_l09Hilbert.mono_l : ∀ k, (∀ y0 y1 y2, LeO (spec_l09Hilbert.l0 k y0 y1 y2) (spec_l09Hilbert.l0 (k + 1) y0 y1 y2)) ∧ (∀ y0 y1 y2 y3 y4, LeO (spec_l09Hilbert.l1 k y0 y1 y2 y3 y4) (spec_l09Hilbert.l1 (k + 1) y0 y1 y2 y3 y4)) ∧ (∀ y0 y1 y2 y3 y4, LeO (spec_l09Hilbert.l2 k y0 y1 y2 y3 y4) (spec_l09Hilbert.l2 (k + 1) y0 y1 y2 y3 y4)) ∧ (∀ y0 y1 y2 y3 y4, LeO (spec_l09Hilbert.l3 k y0 y1 y2 y3 y4) (spec_l09Hilbert.l3 (k + 1) y0 y1 y2 y3 y4)) ∧ (∀ y0 y1 y2 y3 y4, LeO (spec_l09Hilbert.l4 k y0 y1 y2 y3 y4) (spec_l09Hilbert.l4 (k + 1) y0 y1 y2 y3 y4))
 | 0 => ⟨fun _ _ _ r h => by simp [spec_l09Hilbert.l0] at h, fun _ _ _ _ _ r h => by simp [spec_l09Hilbert.l1] at h, fun _ _ _ _ _ r h => by simp [spec_l09Hilbert.l2] at h, fun _ _ _ _ _ r h => by simp [spec_l09Hilbert.l3] at h, fun _ _ _ _ _ r h => by simp [spec_l09Hilbert.l4] at h⟩
 | k + 1 => by
  obtain ⟨ih0, ih1, ih2, ih3, ih4⟩ := spec_l09Hilbert.mono_l k
  refine ⟨?_, ?_, ?_, ?_, ?_⟩
  ·intro y0 y1 y2
   unfold spec_l09Hilbert.l0
   repeat' first
   | (with_reducible exact ih0 _ _ _)
   | (with_reducible exact ih1 _ _ _ _ _)
   | (with_reducible exact ih2 _ _ _ _ _)
   | (with_reducible exact ih3 _ _ _ _ _)
   | (with_reducible exact ih4 _ _ _ _ _)
   | (with_reducible exact LeO.refl _)
   | (with_reducible exact LeO.none _)
   | (with_reducible refine LeO.ite ?_ ?_)
   | (with_reducible refine LeO.bind ?_ (fun _ => ?_))
   | exact ih0 _ _ _
   | exact ih1 _ _ _ _ _
   | exact ih2 _ _ _ _ _
   | exact ih3 _ _ _ _ _
   | exact ih4 _ _ _ _ _
   | exact LeO.none _
   | refine LeO.ite ?_ ?_
   | refine LeO.bind ?_ (fun _ => ?_)
  ·intro y0 y1 y2 y3 y4
   unfold spec_l09Hilbert.l1
   repeat' first
   | (with_reducible exact ih0 _ _ _)
   | (with_reducible exact ih1 _ _ _ _ _)
   | (with_reducible exact ih2 _ _ _ _ _)
   | (with_reducible exact ih3 _ _ _ _ _)
   | (with_reducible exact ih4 _ _ _ _ _)
   | (with_reducible exact LeO.refl _)
   | (with_reducible exact LeO.none _)
   | (with_reducible refine LeO.ite ?_ ?_)
   | (with_reducible refine LeO.bind ?_ (fun _ => ?_))
   | exact ih0 _ _ _
   | exact ih1 _ _ _ _ _
   | exact ih2 _ _ _ _ _
   | exact ih3 _ _ _ _ _
   | exact ih4 _ _ _ _ _
   | exact LeO.none _
   | refine LeO.ite ?_ ?_
   | refine LeO.bind ?_ (fun _ => ?_)
  ·intro y0 y1 y2 y3 y4
   unfold spec_l09Hilbert.l2
   repeat' first
   | (with_reducible exact ih0 _ _ _)
   | (with_reducible exact ih1 _ _ _ _ _)
   | (with_reducible exact ih2 _ _ _ _ _)
   | (with_reducible exact ih3 _ _ _ _ _)
   | (with_reducible exact ih4 _ _ _ _ _)
   | (with_reducible exact LeO.refl _)
   | (with_reducible exact LeO.none _)
   | (with_reducible refine LeO.ite ?_ ?_)
   | (with_reducible refine LeO.bind ?_ (fun _ => ?_))
   | exact ih0 _ _ _
   | exact ih1 _ _ _ _ _
   | exact ih2 _ _ _ _ _
   | exact ih3 _ _ _ _ _
   | exact ih4 _ _ _ _ _
   | exact LeO.none _
   | refine LeO.ite ?_ ?_
   | refine LeO.bind ?_ (fun _ => ?_)
  ·intro y0 y1 y2 y3 y4
   unfold spec_l09Hilbert.l3
   repeat' first
   | (with_reducible exact ih0 _ _ _)
   | (with_reducible exact ih1 _ _ _ _ _)
   | (with_reducible exact ih2 _ _ _ _ _)
   | (with_reducible exact ih3 _ _ _ _ _)
   | (with_reducible exact ih4 _ _ _ _ _)
   | (with_reducible exact LeO.refl _)
   | (with_reducible exact LeO.none _)
   | (with_reducible refine LeO.ite ?_ ?_)
   | (with_reducible refine LeO.bind ?_ (fun _ => ?_))
   | exact ih0 _ _ _
   | exact ih1 _ _ _ _ _
   | exact ih2 _ _ _ _ _
   | exact ih3 _ _ _ _ _
   | exact ih4 _ _ _ _ _
   | exact LeO.none _
   | refine LeO.ite ?_ ?_
   | refine LeO.bind ?_ (fun _ => ?_)
  ·intro y0 y1 y2 y3 y4
   unfold spec_l09Hilbert.l4
   repeat' first
   | (with_reducible exact ih0 _ _ _)
   | (with_reducible exact ih1 _ _ _ _ _)
   | (with_reducible exact ih2 _ _ _ _ _)
   | (with_reducible exact ih3 _ _ _ _ _)
   | (with_reducible exact ih4 _ _ _ _ _)
   | (with_reducible exact LeO.refl _)
   | (with_reducible exact LeO.none _)
   | (with_reducible refine LeO.ite ?_ ?_)
   | (with_reducible refine LeO.bind ?_ (fun _ => ?_))
   | exact ih0 _ _ _
   | exact ih1 _ _ _ _ _
   | exact ih2 _ _ _ _ _
   | exact ih3 _ _ _ _ _
   | exact ih4 _ _ _ _ _
   | exact LeO.none _
   | refine LeO.ite ?_ ?_
   | refine LeO.bind ?_ (fun _ => ?_)
theorem spec_l09Hilbert.mono : ∀ a0 k, LeO (spec_l09Hilbert.f k a0) (spec_l09Hilbert.f (k + 1) a0) := by
 intro a0 k
 obtain ⟨ih0, ih1, ih2, ih3, ih4⟩ := spec_l09Hilbert.mono_l k
 unfold spec_l09Hilbert.f
 repeat' first
   | (with_reducible exact ih0 _ _ _)
   | (with_reducible exact ih1 _ _ _ _ _)
   | (with_reducible exact ih2 _ _ _ _ _)
   | (with_reducible exact ih3 _ _ _ _ _)
   | (with_reducible exact ih4 _ _ _ _ _)
   | (with_reducible exact LeO.refl _)
   | (with_reducible exact LeO.none _)
   | (with_reducible refine LeO.ite ?_ ?_)
   | (with_reducible refine LeO.bind ?_ (fun _ => ?_))
   | exact ih0 _ _ _
   | exact ih1 _ _ _ _ _
   | exact ih2 _ _ _ _ _
   | exact ih3 _ _ _ _ _
   | exact ih4 _ _ _ _ _
   | exact LeO.none _
   | refine LeO.ite ?_ ?_
   | refine LeO.bind ?_ (fun _ => ?_)
def spec_l09Hilbert.T9 : Bool × List (List Nat × List Nat) := (true, [([], []), ([], []), ([], []), ([1, 2], [1, 2]), ([3], [3]), ([4], [4]), ([5], [5]), ([], []), ([], []), ([7, 8], [7, 8]), ([9], [9]), ([10], [10]), ([11], [11]), ([6, 12], [6, 12]), ([13], [13]), ([0, 14], [0, 14]), ([15, 15, 0, 1, 2, 3, 4, 5, 6, 7, 8, 9, 10, 11, 12, 13, 14, 15], [0, 15])])
def spec_l09Hilbert.B9 : List Nat := [0, 0, 0, 6, 14, 30, 62, 0, 0, 384, 896, 1920, 3968, 8190, 16382, 32767, 65535]
theorem spec_l09Hilbert.tab9 : rtab .any (opsOf Try.f65 9) = spec_l09Hilbert.T9 := by kernel_rfl
theorem spec_l09Hilbert.bits9 : waitsOk spec_l09Hilbert.T9.2 spec_l09Hilbert.B9 = true := by kernel_rfl
def spec_l09Hilbert.T13 : Bool × List (List Nat × List Nat) := (true, [([], []), ([], []), ([], []), ([1, 2], [1, 2]), ([3], [3]), ([4], [4]), ([5], [5]), ([], []), ([], []), ([7, 8], [7, 8]), ([9], [9]), ([10], [10]), ([11], [11]), ([], []), ([12, 13], [12, 13]), ([6, 14], [6, 14]), ([15], [15]), ([0, 16], [0, 16]), ([17, 17, 0, 1, 2, 3, 4, 5, 6, 7, 8, 9, 10, 11, 12, 13, 14, 15, 16, 17], [0, 17])])
def spec_l09Hilbert.B13 : List Nat := [0, 0, 0, 6, 14, 30, 62, 0, 0, 384, 896, 1920, 3968, 0, 16256, 32766, 65534, 131071, 262143]
theorem spec_l09Hilbert.tab13 : rtab .any (opsOf Try.f65 13) = spec_l09Hilbert.T13 := by kernel_rfl
theorem spec_l09Hilbert.bits13 : waitsOk spec_l09Hilbert.T13.2 spec_l09Hilbert.B13 = true := by kernel_rfl
def spec_l09Hilbert.T17 : Bool × List (List Nat × List Nat) := (true, [([], []), ([], []), ([], []), ([1, 2], [1, 2]), ([3], [3]), ([4], [4]), ([5], [5]), ([], []), ([6, 7], [6, 7]), ([], []), ([], []), ([9, 10], [9, 10]), ([11], [11]), ([12], [12]), ([13], [13]), ([], []), ([14, 15], [14, 15]), ([8, 16], [8, 16]), ([17], [17]), ([0, 18], [0, 18]), ([19, 19, 0, 1, 2, 3, 4, 5, 6, 7, 8, 9, 10, 11, 12, 13, 14, 15, 16, 17, 18, 19], [0, 19])])
def spec_l09Hilbert.B17 : List Nat := [0, 0, 0, 6, 14, 30, 62, 0, 254, 0, 0, 1536, 3584, 7680, 15872, 0, 65024, 131070, 262142, 524287, 1048575]
theorem spec_l09Hilbert.tab17 : rtab .any (opsOf Try.f65 17) = spec_l09Hilbert.T17 := by kernel_rfl
theorem spec_l09Hilbert.bits17 : waitsOk spec_l09Hilbert.T17.2 spec_l09Hilbert.B17 = true := by kernel_rfl
def spec_l09Hilbert.T21 : Bool × List (List Nat × List Nat) := (true, [([], []), ([], []), ([1], [1]), ([2], [2]), ([], []), ([], []), ([4, 5], [4, 5]), ([6], [6]), ([7], [7]), ([8], [8]), ([3, 9], [3, 9]), ([], []), ([11], [11]), ([], []), ([], []), ([13, 14], [13, 14]), ([15], [15]), ([16], [16]), ([17], [17]), ([12, 18], [12, 18]), ([10, 19], [10, 19]), ([20], [20]), ([0, 21], [0, 21]), ([22, 22, 0, 1, 2, 3, 4, 5, 6, 7, 8, 9, 10, 11, 12, 13, 14, 15, 16, 17, 18, 19, 20, 21, 22], [0, 22])])
def spec_l09Hilbert.B21 : List Nat := [0, 0, 2, 6, 0, 0, 48, 112, 240, 496, 1022, 0, 2048, 0, 0, 24576, 57344, 122880, 253952, 522240, 1048574, 2097150, 4194303, 8388607]
theorem spec_l09Hilbert.tab21 : rtab .any (opsOf Try.f65 21) = spec_l09Hilbert.T21 := by kernel_rfl
theorem spec_l09Hilbert.bits21 : waitsOk spec_l09Hilbert.T21.2 spec_l09Hilbert.B21 = true := by kernel_rfl
set_option maxHeartbeats 8000000 in
set_option maxRecDepth 100000 in
theorem spec_l09Hilbert.calls (k : Nat) (a0 : Int) (r : List (List Int)) (w : World) (h : spec_l09Hilbert.f k a0 = some r) :
  Calls Try.prog 65 #[.int .i64 a0] w fun e w' => ∃ v0_ : Value, e = .returned (v0_) ∧ Kd.N (Kd.slice 2 (Kd.int .i64)) 34 w' w.heap.size (fun k_ => (w.heap.size ≤ k_)) v0_ r ∧ Below w.heap.size w w' := by
 have HB := Aside0.mk (Below.refl w.heap.size w)
 have H : (spec_l09Hilbert.l0 k a0 (([(([0, 0] : List Int))] : List (List Int))) 1) = some r := h
 clear h
 obtain ⟨y141, hy141⟩ : ∃ y_ : List Int, y_ = (([0, 0] : List Int)) := ⟨_, rfl⟩
 replace H : (spec_l09Hilbert.l0 k a0 (([y141] : List (List Int))) 1) = some r := by first | (rw [hy141]; with_reducible exact H) | (have H2_ := (Option.bind_some _ _).symm.trans H; rw [hy141]; with_reducible exact H2_) | (have H2_ := (Option.bind_some _ _).symm.trans H; with_reducible exact H2_) | with_reducible exact H | (rw [hy141]; exact H) | exact H
 have Ny141 := Aside0.mk hy141
 clear hy141
 obtain ⟨y144, hy144⟩ : ∃ y_ : List (List Int), y_ = (([y141] : List (List Int))) := ⟨_, rfl⟩
 replace H : (spec_l09Hilbert.l0 k a0 y144 1) = some r := by first | (rw [hy144]; with_reducible exact H) | (have H2_ := (Option.bind_some _ _).symm.trans H; rw [hy144]; with_reducible exact H2_) | (have H2_ := (Option.bind_some _ _).symm.trans H; with_reducible exact H2_) | with_reducible exact H | (rw [hy144]; exact H) | exact H
 have Ny144 := Aside0.mk hy144
 clear hy144
 have H' := Aside0.mk H
 clear H
 go_enter Try.func65, Try.ntmps65
 go_wp2_with (first | ((with_reducible refine gate_dst (N := 10) rfl ?_); refine Kd.R_lit (Kd.int .i64) _ 2 ?hg (N := 10) ?hd (xs := ([0, 0] : List Int)) (inner := [.int .i64 0, .int .i64 0]) (ok := fun _ => True) (okp := fun _ => True) ?hr ?hp (fun _ hk => hk) trivial (Below.refl _ _) (Nat.le_refl _) (by simp) ?_; (case hd => rfl); (case hg => rfl); (case hr => first | (go_simp; done) | (go_simp; rfl)); (case hp => exact (Reps.one (show Kd.M (Kd.int .i64) _ _ _ 0 [.int .i64 0] from rfl) (Reps.one (show Kd.M (Kd.int .i64) _ _ _ 0 [.int .i64 0] from rfl) (Reps.none _ _)))); intro v142 w2 ho3 hb hg_ hnew_; clear hg_ hnew_; (first | rw [← Ny141.out] at ho3 | (simp only [Int.reduceToNat] at ho3; rw [← Ny141.out] at ho3)); have n0_ := Aside0.mk (Kd.R_lower (Kd.R_newM (M := fun k_ => (w.heap.size ≤ k_)) ho3 (below_size (by repeat (first | (with_reducible first | exact HB.out | apply below_alloc | apply pw_below_drewN | apply below_drew1) | exact HB.out))) (fun k_ h_ => h_)) (below_size (by repeat (first | (with_reducible first | exact HB.out | apply below_alloc | apply pw_below_drewN | apply below_drew1) | exact HB.out)))); have n1_ := Aside0.mk (below_step (by repeat (first | (with_reducible first | exact HB.out | apply below_alloc | apply pw_below_drewN | apply below_drew1) | exact HB.out)) hb); clear HB; have HO143 := n0_; have HB := n1_; clear n0_ n1_; clear hb ho3; obtain ⟨Ao4, co4, eo4⟩ := Kd.R_slice HO143.out; subst eo4) | ((with_reducible refine gate_dst (N := 11) rfl ?_); refine Kd.N_lit (Kd.slice 2 (Kd.int .i64)) _ 34 ?hg (N' := 11) ?hd (xs := ([y141] : List (List Int))) (inner := [.slice Ao4 y141.length co4]) (ok := (fun k_ => (w.heap.size ≤ k_))) (okp := (fun k_ => (w.heap.size ≤ k_))) ?hr ?hp (fun _ hk => hk) ((show ∀ k_, w2.heap.size ≤ k_ → (fun k_ => (w.heap.size ≤ k_)) k_ from fun k_ hk => (Nat.le_trans (below_size (by repeat (first | (with_reducible first | exact HB.out | apply below_alloc | apply pw_below_drewN | apply below_drew1) | exact HB.out))) hk)) _ (Nat.le_refl _)) (Below.refl _ _) (Nat.le_refl _) (by simp) ?_; (case hd => rfl); (case hg => rfl); (case hr => first | (go_simp; done) | (go_simp; rfl)); (case hp => exact (Reps.one (show Kd.FK (Kd.slice 2 (Kd.int .i64)) _ _ y141 [.slice Ao4 y141.length co4] from (Kd.FK_slice_mk (Kd.R_reads' (Kd.R_mono (ok' := (fun k_ => (w.heap.size ≤ k_))) (HO143.out) (fun k_ hk => hk.1))).2.1 (Kd.R_F (Kd.R_mono (ok' := (fun k_ => (w.heap.size ≤ k_))) (HO143.out) (fun k_ hk => hk.1))))) (Reps.none _ _))); intro v145 w5 ho6 hb hg_ hnew_; clear hg_ hnew_; (first | rw [← Ny144.out] at ho6 | (simp only [Int.reduceToNat] at ho6; rw [← Ny144.out] at ho6)); have n0_ := Aside0.mk (Kd.N_lower ho6 (below_size (by repeat (first | (with_reducible first | exact HB.out | apply below_alloc | apply pw_below_drewN | apply below_drew1) | exact HB.out)))); have n1_ := Aside0.mk (below_step (by repeat (first | (with_reducible first | exact HB.out | apply below_alloc | apply pw_below_drewN | apply below_drew1) | exact HB.out)) hb); clear HB; clear HO143; have HO146 := n0_; have HB := n1_; clear n0_ n1_; clear hb ho6))
 go_loopg [0, 3, 4] k (fun kq v0 v3 v4 w' => ∃ (x0_1 : Int) (x3_1 : List (List Int)) (x4_1 : Int), v0 = .int .i64 x0_1 ∧ v4 = .int .i64 x4_1 ∧ Aside0 (spec_l09Hilbert.l0 kq x0_1 x3_1 x4_1 = some r) ∧ Aside0 (kq ≤ k) ∧ Aside0 (Kd.N (Kd.slice 2 (Kd.int .i64)) 34 w' w.heap.size (fun k_ => (w.heap.size ≤ k_)) v3 x3_1) ∧ Aside0 (Below w.heap.size w w'))
 case atStart => exact ⟨(a0), (y144), (1), (by first | rfl | (simp; done) | (simp [*]; done)), (by first | rfl | (simp; done) | (simp [*]; done)), H', ⟨Nat.le_refl _⟩, ⟨by (with_reducible repeat (first | apply Kd.N_alloc | apply Kd.N_drewN | apply Kd.N_drew)); exact HO146.out⟩, ⟨by repeat (first | (with_reducible first | exact HB.out | apply below_alloc | apply pw_below_drewN | apply below_drew1) | exact HB.out)⟩⟩
 case round =>
  clear H'
  try clear p2
  try clear c6
  obtain ⟨x0_1, x3_1, x4_1, rfl, rfl, HA, HK1, HO_3, HB⟩ := hrel
  cases gk with
  | zero => exact absurd HA.out (by simp [spec_l09Hilbert.l0])
  | succ k1 =>
   have H := HA.out
   clear HA
   simp only [spec_l09Hilbert.l0] at H
   by_cases c7 : x0_1 > 0
   ·rw [if_pos c7] at H
    have c7b0 : decide (0 < x0_1) = true := decide_eq_true c7
    clear c7
    obtain ⟨y147, hy147⟩ : ∃ y_ : List (List Int), y_ = (([] : List (List Int))) := ⟨_, rfl⟩
    replace H : (spec_l09Hilbert.l1 k1 x0_1 x3_1 x4_1 y147 0) = some r := by first | (rw [hy147]; with_reducible exact H) | (have H2_ := (Option.bind_some _ _).symm.trans H; rw [hy147]; with_reducible exact H2_) | (have H2_ := (Option.bind_some _ _).symm.trans H; with_reducible exact H2_) | with_reducible exact H | (rw [hy147]; exact H) | exact H
    have Ny147 := Aside0.mk hy147
    clear hy147
    have H' := Aside0.mk H
    clear H
    go_wp2_with (first | ((with_reducible refine gate_dst (N := 16) rfl ?_); refine Kd.N_lit (Kd.slice 2 (Kd.int .i64)) _ 34 ?hg (N' := 16) ?hd (xs := ([] : List (List Int))) (inner := []) (ok := (fun k_ => (w.heap.size ≤ k_) ∧ some k_ ≠ (u3 : Value).ownBlock)) (okp := (fun k_ => (w.heap.size ≤ k_) ∧ some k_ ≠ (u3 : Value).ownBlock)) ?hr ?hp (fun _ hk => hk) ((show ∀ k_, wr.heap.size ≤ k_ → (fun k_ => (w.heap.size ≤ k_) ∧ some k_ ≠ (u3 : Value).ownBlock) k_ from fun k_ hk => ⟨(Nat.le_trans (below_size (by repeat (first | (with_reducible first | exact HB.out | apply below_alloc | apply pw_below_drewN | apply below_drew1) | exact HB.out))) hk), Kd.fresh' (Kd.N_lt (by (with_reducible repeat (first | apply Kd.N_alloc | apply Kd.N_drewN | apply Kd.N_drew)); exact HO_3.out)) k_ hk⟩) _ (Nat.le_refl _)) (Below.refl _ _) (Nat.le_refl _) (by simp) ?_; (case hd => rfl); (case hg => rfl); (case hr => first | (go_simp; done) | (go_simp; rfl)); (case hp => exact (Reps.none _ _)); intro v148 w8 ho9 hb hg_ hnew_; clear hg_ hnew_; (first | rw [← Ny147.out] at ho9 | (simp only [Int.reduceToNat] at ho9; rw [← Ny147.out] at ho9)); have n0_ := Aside0.mk (Kd.N_elder' (by (with_reducible repeat (first | apply Kd.N_alloc | apply Kd.N_drewN | apply Kd.N_drew)); exact HO_3.out) (Kd.N_base ho9) hb); have n1_ := Aside0.mk (Kd.N_lower ho9 (below_size (by repeat (first | (with_reducible first | exact HB.out | apply below_alloc | apply pw_below_drewN | apply below_drew1) | exact HB.out)))); have n2_ := Aside0.mk (below_step (by repeat (first | (with_reducible first | exact HB.out | apply below_alloc | apply pw_below_drewN | apply below_drew1) | exact HB.out)) hb); clear HO_3; clear HB; have HO_3 := n0_; have HO149 := n1_; have HB := n2_; clear n0_ n1_ n2_; clear hb ho9))
    go_loopg [5, 6] k1 (fun kq v5 v6 w' => ∃ (x5_2 : List (List Int)) (x6_2 : Int), v6 = .int .i64 x6_2 ∧ Aside0 (spec_l09Hilbert.l1 kq x0_1 x3_1 x4_1 x5_2 x6_2 = some r) ∧ Aside0 (kq ≤ k1) ∧ Aside0 (Kd.N (Kd.slice 2 (Kd.int .i64)) 34 w' w.heap.size (fun k_ => (w.heap.size ≤ k_) ∧ some k_ ≠ (v5 : Value).ownBlock) u3 x3_1) ∧ Aside0 (Kd.N (Kd.slice 2 (Kd.int .i64)) 34 w' w.heap.size (fun k_ => (w.heap.size ≤ k_) ∧ some k_ ≠ (u3 : Value).ownBlock) v5 x5_2) ∧ Aside0 (Below w.heap.size w w'))
    case atStart => exact ⟨(y147), (0), (by first | rfl | (simp; done) | (simp [*]; done)), H', ⟨Nat.le_refl _⟩, ⟨by (with_reducible repeat (first | apply Kd.N_alloc | apply Kd.N_drewN | apply Kd.N_drew)); exact HO_3.out⟩, ⟨by (with_reducible repeat (first | apply Kd.N_alloc | apply Kd.N_drewN | apply Kd.N_drew)); exact HO149.out⟩, ⟨by repeat (first | (with_reducible first | exact HB.out | apply below_alloc | apply pw_below_drewN | apply below_drew1) | exact HB.out)⟩⟩
    case round =>
     clear H'
     try clear p2
     try clear c6
     try clear c7
     try clear c7b0
     try clear p2
     obtain ⟨x5_2, x6_2, rfl, HA, HK2, HO_3, HO_5, HB⟩ := hrel
     cases gk with
     | zero => exact absurd HA.out (by simp [spec_l09Hilbert.l1])
     | succ k2 =>
      have H := HA.out
      clear HA
      simp only [spec_l09Hilbert.l1] at H
      by_cases c10 : x6_2 < (x3_1.length : Int)
      ·rw [if_pos c10] at H
       have c10b0 : decide (x6_2 < (x3_1.length : Int)) = true := decide_eq_true c10
       clear c10
       by_cases c11 : 0 ≤ x6_2
       ·rw [if_pos c11] at H
        have c11b0 : decide (0 ≤ x6_2) = true := decide_eq_true c11
        clear c11
        by_cases c12 : 1 < ((rd_L1 x3_1 x6_2).length : Int)
        ·rw [if_pos c12] at H
         have c12b0 : decide (1 < ((rd_L1 x3_1 x6_2).length : Int)) = true := decide_eq_true c12
         have c12b1 : decide (1 < (rd_L1 x3_1 x6_2).length) = true := decide_eq_true (by omega)
         clear c12
         by_cases c13 : 0 < ((rd_L1 x3_1 x6_2).length : Int)
         ·rw [if_pos c13] at H
          have c13b0 : decide (0 < ((rd_L1 x3_1 x6_2).length : Int)) = true := decide_eq_true c13
          have c13b1 : decide (0 < (rd_L1 x3_1 x6_2).length) = true := decide_eq_true (by omega)
          clear c13
          obtain ⟨y154, hy154⟩ : ∃ y_ : List Int, y_ = (([rd (rd_L1 x3_1 x6_2) 1, rd (rd_L1 x3_1 x6_2) 0] : List Int)) := ⟨_, rfl⟩
          replace H : (if x5_2.length < 5864062014805 then (spec_l09Hilbert.l1 k2 x0_1 x3_1 x4_1 (x5_2 ++ [y154]) (wrap64 (x6_2 + 1))) else (none)) = some r := by first | (rw [hy154]; with_reducible exact H) | (have H2_ := (Option.bind_some _ _).symm.trans H; rw [hy154]; with_reducible exact H2_) | (have H2_ := (Option.bind_some _ _).symm.trans H; with_reducible exact H2_) | with_reducible exact H | (rw [hy154]; exact H) | exact H
          have Ny154 := Aside0.mk hy154
          clear hy154
          by_cases c14 : x5_2.length < 5864062014805
          ·rw [if_pos c14] at H
           have LMc14 := Aside0.mk c14
           clear c14
           obtain ⟨y157, hy157⟩ : ∃ y_ : List (List Int), y_ = (x5_2 ++ [y154]) := ⟨_, rfl⟩
           replace H : (spec_l09Hilbert.l1 k2 x0_1 x3_1 x4_1 y157 (wrap64 (x6_2 + 1))) = some r := by first | (rw [hy157]; with_reducible exact H) | (have H2_ := (Option.bind_some _ _).symm.trans H; rw [hy157]; with_reducible exact H2_) | (have H2_ := (Option.bind_some _ _).symm.trans H; with_reducible exact H2_) | with_reducible exact H | (rw [hy157]; exact H) | exact H
           have Ny157 := Aside0.mk hy157
           clear hy157
           have H' := Aside0.mk H
           clear H
           obtain ⟨Ao15, co15, eo15⟩ := Kd.N_slice HO_3.out
           subst eo15
           try go_wp2
           have n0_ := Aside0.mk (Kd.N_drew HO_3.out)
           have n1_ := Aside0.mk (Kd.N_drew HO_5.out)
           have n2_ := Aside0.mk (below_drew1 HB.out)
           clear HO_3
           clear HO_5
           clear HB
           have HO_3 := n0_
           have HO_5 := n1_
           have HB := n2_
           clear n0_ n1_ n2_
           have p150 : 0 ≤ (x6_2 : Int) := of_decide_eq_true (by first | (with_reducible assumption) | assumption)
           have q150 : x6_2 < (x3_1.length : Int) := of_decide_eq_true (by first | (with_reducible assumption) | assumption)
           obtain ⟨ad150, A150_0, c150_0, e150, hx150_0, hl150_0, hi150_0⟩ := at_L1 (Kd.N_reads' HO_3.out).2.2 x6_2 p150 q150
           cases e150
           obtain ⟨ce150, hce150, hMe150, hcc150⟩ := Kd.N_get HO_3.out [] x6_2 p150 (by first | exact q150 | exact of_decide_eq_true (by first | (with_reducible assumption) | assumption) | (have e_ := (Kd.N_reads' HO_3.out).1; omega))
           obtain ⟨ua150_0, uc150_0, rfl, ul150_0, ge150_0⟩ := Kd.FK_slice_open hMe150
           have hv150_0 := hcc150 0 _ rfl
           rw [Nat.add_zero, show ((Kd.slice 2 (Kd.int .i64))).sz = 1 from rfl, Nat.mul_one] at hv150_0
           replace hv150_0 := Option.some.inj (hv150_0.symm.trans hx150_0)
           injection hv150_0 with hva_ hvn_ hvc_
           rw [hva_] at ge150_0
           rw [hvc_] at ul150_0
           have HL150_0 := Aside0.mk (show Kd.V (Kd.int .i64) 2 _ w.heap.size _ _ (rd_L1 x3_1 x6_2) from Kd.V_mk ul150_0 ge150_0)
           clear hva_ hvn_ hvc_ ge150_0 ul150_0
           clear hcc150 hce150
           have HR150_0 := Aside0.mk hi150_0
           have HC150_0 := Aside0.mk hl150_0
           clear hi150_0 hl150_0
           replace p150 := eq_true p150
           replace q150 := eq_true q150
           have p151 : 0 ≤ (1 : Int) := (by omega)
           have q151 : 1 < ((rd_L1 x3_1 x6_2).length : Int) := of_decide_eq_true (by first | (with_reducible assumption) | assumption)
           obtain ⟨ad151, e151, hx151_0⟩ := Kd.at_int (by repeat (first | (with_reducible exact HR150_0.out) | (with_reducible refine Kd.C_alloc ?_ _) | (with_reducible refine Kd.C_drewN ?_ _) | (with_reducible refine Kd.C_drew ?_) | exact HR150_0.out)) 1 p151 q151
           cases e151
           (try simp only [show (1 : Int).toNat = 1 from rfl, Nat.reduceMul, Nat.reduceEqDiff, Go.Addr.add, ↓reduceIte] at hx151_0)
           have qi151 : (1 < (rd_L1 x3_1 x6_2).length) = True := eq_true (by omega)
           (try rw [show ((1 : Int)).toNat = 1 from rfl] at hx151_0)
           replace p151 := eq_true p151
           replace q151 := eq_true q151
           have p152 : 0 ≤ (x6_2 : Int) := of_decide_eq_true (by first | (with_reducible assumption) | assumption)
           have q152 : x6_2 < (x3_1.length : Int) := of_decide_eq_true (by first | (with_reducible assumption) | assumption)
           obtain ⟨ad152, A152_0, c152_0, e152, hx152_0, hl152_0, hi152_0⟩ := at_L1 (Kd.N_reads' HO_3.out).2.2 x6_2 p152 q152
           obtain rfl : ad150 = ad152 := (by injection e152)
           obtain ⟨ce152, hce152, hMe152, hcc152⟩ := Kd.N_get HO_3.out [] x6_2 p152 (by first | exact q152 | exact of_decide_eq_true (by first | (with_reducible assumption) | assumption) | (have e_ := (Kd.N_reads' HO_3.out).1; omega))
           obtain ⟨ua152_0, uc152_0, rfl, ul152_0, ge152_0⟩ := Kd.FK_slice_open hMe152
           have hv152_0 := hcc152 0 _ rfl
           rw [Nat.add_zero, show ((Kd.slice 2 (Kd.int .i64))).sz = 1 from rfl, Nat.mul_one] at hv152_0
           replace hv152_0 := Option.some.inj (hv152_0.symm.trans hx152_0)
           injection hv152_0 with hva_ hvn_ hvc_
           rw [hva_] at ge152_0
           rw [hvc_] at ul152_0
           have HL152_0 := Aside0.mk (show Kd.V (Kd.int .i64) 2 _ w.heap.size _ _ (rd_L1 x3_1 x6_2) from Kd.V_mk ul152_0 ge152_0)
           clear hva_ hvn_ hvc_ ge152_0 ul152_0
           clear hcc152 hce152
           have HR152_0 := Aside0.mk hi152_0
           have HC152_0 := Aside0.mk hl152_0
           clear hi152_0 hl152_0
           replace p152 := eq_true p152
           replace q152 := eq_true q152
           have ea_ := Option.some.inj (hx150_0.symm.trans hx152_0)
           injection ea_ with ea_ en_ ec_
           subst ea_
           subst ec_
           clear en_
           have p153 : 0 ≤ (0 : Int) := (by omega)
           have q153 : 0 < ((rd_L1 x3_1 x6_2).length : Int) := of_decide_eq_true (by first | (with_reducible assumption) | assumption)
           obtain ⟨ad153, e153, hx153_0⟩ := Kd.at_int (by repeat (first | (with_reducible exact HR152_0.out) | (with_reducible refine Kd.C_alloc ?_ _) | (with_reducible refine Kd.C_drewN ?_ _) | (with_reducible refine Kd.C_drew ?_) | exact HR152_0.out)) 0 p153 q153
           cases e153
           have qi153 : (0 < (rd_L1 x3_1 x6_2).length) = True := eq_true (by omega)
           (try rw [show ((0 : Int)).toNat = 0 from rfl] at hx153_0)
           (try rw [Addr.add_zero'] at hx153_0)
           replace p153 := eq_true p153
           replace q153 := eq_true q153
           refine start_ (n := 17) (S := fun w' => w'.cell? (ad150.add (x6_2).toNat) = some (.slice (some ad151) (rd_L1 x3_1 x6_2).length c150_0) ∧ w'.cell? ⟨ad151.block, ad151.off + 1, none⟩ = some (.int .i64 (rd (rd_L1 x3_1 x6_2) 1)) ∧ w'.cell? (ad150.add (x6_2).toNat) = some (.slice (some ad151) (rd_L1 x3_1 x6_2).length c150_0) ∧ w'.cell? ad151 = some (.int .i64 (rd (rd_L1 x3_1 x6_2) 0))) (ds := [14, 15]) #[false, false, false, false, false, false, false, false, false, false, false, false, false, false, false, false, false] (by kernel_rfl) rfl rfl ⟨hx150_0, hx151_0, hx152_0, hx153_0⟩ (fun hHeld => ?_); refine with_tabW spec_l09Hilbert.tab9 spec_l09Hilbert.bits9 (fun HT_ HW_ => ?_)
           generalize wr.drew = w16 at HO_3 HO_5 HB HL150_0 HL152_0 HR150_0 HR152_0 hx150_0 hx151_0 hx152_0 hx153_0 hHeld ⊢
           refine pure_ (i := 0) (N := some 23) (v := ?_) (a' := ?_) #[true, false, false, false, false, false, false, false, false, false, false, false, false, false, false, false, false] rfl rfl (any_of HT_.out (by kernel_rfl)) (fun _ _ _ h => h) (Or.inl ⟨by rfl, ?_⟩) ?_ ?_
           rotate_left
           ·intro w'
            go_simp
            with_reducible rfl
           rotate_left
           ·simp only [Act.put, List.setIfInBounds_toArray, List.set_cons_zero, List.set_cons_succ, i64_w, i32_w]
            rfl
           refine pure_ (i := 1) (N := some 24) (v := ?_) (a' := ?_) #[true, true, false, false, false, false, false, false, false, false, false, false, false, false, false, false, false] rfl rfl (any_of HT_.out (by kernel_rfl)) (fun _ _ _ h => h) (Or.inl ⟨by rfl, ?_⟩) ?_ ?_
           rotate_left
           ·intro w'
            go_simp
            with_reducible rfl
           rotate_left
           ·simp only [Act.put, List.setIfInBounds_toArray, List.set_cons_zero, List.set_cons_succ, i64_w, i32_w]
            rfl
           refine pure_ (i := 2) (N := some 25) (v := ?_) (a' := ?_) #[true, true, true, false, false, false, false, false, false, false, false, false, false, false, false, false, false] rfl rfl (any_of HT_.out (by kernel_rfl)) (fun _ _ _ h => h) (Or.inl ⟨by rfl, ?_⟩) ?_ ?_
           rotate_left
           ·intro w'
            go_simp
            with_reducible rfl
           rotate_left
           ·simp only [Act.put, List.setIfInBounds_toArray, List.set_cons_zero, List.set_cons_succ, i64_w, i32_w]
            rfl
           refine pure_ (i := 3) (N := some 26) (v := ?_) (a' := ?_) #[true, true, true, true, false, false, false, false, false, false, false, false, false, false, false, false, false] rfl rfl (any_of HT_.out (by kernel_rfl)) (fun _ _ _ h => h) (Or.inl ⟨by rfl, ?_⟩) ?_ ?_
           rotate_left
           ·intro w'
            go_simp
            with_reducible rfl
           rotate_left
           ·simp only [Act.put, List.setIfInBounds_toArray, List.set_cons_zero, List.set_cons_succ, i64_w, i32_w]
            rfl
           refine pure_ (i := 7) (N := some 30) (v := ?_) (a' := ?_) #[true, true, true, true, false, false, false, true, false, false, false, false, false, false, false, false, false] rfl rfl (any_of HT_.out (by kernel_rfl)) (fun _ _ _ h => h) (Or.inl ⟨by rfl, ?_⟩) ?_ ?_
           rotate_left
           ·intro w'
            go_simp
            with_reducible rfl
           rotate_left
           ·simp only [Act.put, List.setIfInBounds_toArray, List.set_cons_zero, List.set_cons_succ, i64_w, i32_w]
            rfl
           refine pure_ (i := 8) (N := some 31) (v := ?_) (a' := ?_) #[true, true, true, true, false, false, false, true, true, false, false, false, false, false, false, false, false] rfl rfl (any_of HT_.out (by kernel_rfl)) (fun _ _ _ h => h) (Or.inl ⟨by rfl, ?_⟩) ?_ ?_
           rotate_left
           ·intro w'
            go_simp
            with_reducible rfl
           rotate_left
           ·simp only [Act.put, List.setIfInBounds_toArray, List.set_cons_zero, List.set_cons_succ, i64_w, i32_w]
            rfl
           refine pure_ (i := 9) (N := some 32) (v := ?_) (a' := ?_) #[true, true, true, true, false, false, false, true, true, true, false, false, false, false, false, false, false] rfl rfl (any_of HT_.out (by kernel_rfl)) (fun _ _ _ h => h) (Or.inl ⟨by rfl, ?_⟩) ?_ ?_
           rotate_left
           ·intro w'
            go_simp
            with_reducible rfl
           rotate_left
           ·simp only [Act.put, List.setIfInBounds_toArray, List.set_cons_zero, List.set_cons_succ, i64_w, i32_w]
            rfl
           refine take_ (i := 4) (N := some 27) (v := ?_) (a' := ?_) #[true, true, true, true, true, false, false, true, true, true, false, false, false, false, false, false, false] rfl rfl (take_ofW HT_.out HW_.out (by kernel_rfl)) (fun _ _ _ h => h) (Or.inl ⟨by rfl, ?_⟩) hHeld ?_ ?_
           rotate_left
           ·rintro w' ⟨s0, s1, s2, s3⟩
            go_simp
            with_reducible rfl
           rotate_left
           ·simp only [Act.put, List.setIfInBounds_toArray, List.set_cons_zero, List.set_cons_succ, i64_w, i32_w]
            rfl
           refine pure_ (i := 5) (N := some 28) (v := ?_) (a' := ?_) #[true, true, true, true, true, true, false, true, true, true, false, false, false, false, false, false, false] rfl rfl (any_of HT_.out (by kernel_rfl)) (fun _ _ _ h => h) (Or.inl ⟨by rfl, ?_⟩) ?_ ?_
           rotate_left
           ·intro w'
            go_simp
            with_reducible rfl
           rotate_left
           ·simp only [Act.put, List.setIfInBounds_toArray, List.set_cons_zero, List.set_cons_succ, i64_w, i32_w]
            rfl
           refine take_ (i := 6) (N := some 29) (v := ?_) (a' := ?_) #[true, true, true, true, true, true, true, true, true, true, false, false, false, false, false, false, false] rfl rfl (take_ofW HT_.out HW_.out (by kernel_rfl)) (fun _ _ _ h => h) (Or.inl ⟨by rfl, ?_⟩) hHeld ?_ ?_
           rotate_left
           ·rintro w' ⟨s0, s1, s2, s3⟩
            go_simp
            with_reducible rfl
           rotate_left
           ·simp only [Act.put, List.setIfInBounds_toArray, List.set_cons_zero, List.set_cons_succ, i64_w, i32_w]
            rfl
           refine take_ (i := 10) (N := some 33) (v := ?_) (a' := ?_) #[true, true, true, true, true, true, true, true, true, true, true, false, false, false, false, false, false] rfl rfl (take_ofW HT_.out HW_.out (by kernel_rfl)) (fun _ _ _ h => h) (Or.inl ⟨by rfl, ?_⟩) hHeld ?_ ?_
           rotate_left
           ·rintro w' ⟨s0, s1, s2, s3⟩
            go_simp
            with_reducible rfl
           rotate_left
           ·simp only [Act.put, List.setIfInBounds_toArray, List.set_cons_zero, List.set_cons_succ, i64_w, i32_w]
            rfl
           refine pure_ (i := 11) (N := some 34) (v := ?_) (a' := ?_) #[true, true, true, true, true, true, true, true, true, true, true, true, false, false, false, false, false] rfl rfl (any_of HT_.out (by kernel_rfl)) (fun _ _ _ h => h) (Or.inl ⟨by rfl, ?_⟩) ?_ ?_
           rotate_left
           ·intro w'
            go_simp
            with_reducible rfl
           rotate_left
           ·simp only [Act.put, List.setIfInBounds_toArray, List.set_cons_zero, List.set_cons_succ, i64_w, i32_w]
            rfl
           refine take_ (i := 12) (N := some 35) (v := ?_) (a' := ?_) #[true, true, true, true, true, true, true, true, true, true, true, true, true, false, false, false, false] rfl rfl (take_ofW HT_.out HW_.out (by kernel_rfl)) (fun _ _ _ h => h) (Or.inl ⟨by rfl, ?_⟩) hHeld ?_ ?_
           rotate_left
           ·rintro w' ⟨s0, s1, s2, s3⟩
            go_simp
            with_reducible rfl
           rotate_left
           ·simp only [Act.put, List.setIfInBounds_toArray, List.set_cons_zero, List.set_cons_succ, i64_w, i32_w]
            rfl
           refine one_ (i := 13) (N := some 36) #[true, true, true, true, true, true, true, true, true, true, true, true, true, true, false, false, false] rfl rfl (one_of HT_.out (by kernel_rfl)) (by decide) (fun K hK => ?_)
           refine Kd.R_lit_step (Kd.int .i64) _ 2 ?hg (N := 36) ?hd (xs := ([rd (rd_L1 x3_1 x6_2) 1, rd (rd_L1 x3_1 x6_2) 0] : List Int)) (inner := [.int .i64 (rd (rd_L1 x3_1 x6_2) 1), .int .i64 (rd (rd_L1 x3_1 x6_2) 0)]) (ok := fun _ => True) (okp := fun _ => True) ?hr ?hp (fun _ hk => hk) trivial (Below.refl _ _) (Nat.le_refl _) (by simp) ?_; (case hd => rfl); (case hg => rfl); (case hr => first | (go_simp; done) | (go_simp; rfl)); (case hp => exact (Reps.one (show Kd.M (Kd.int .i64) _ _ _ (rd (rd_L1 x3_1 x6_2) 1) [.int .i64 (rd (rd_L1 x3_1 x6_2) 1)] from rfl) (Reps.one (show Kd.M (Kd.int .i64) _ _ _ (rd (rd_L1 x3_1 x6_2) 0) [.int .i64 (rd (rd_L1 x3_1 x6_2) 0)] from rfl) (Reps.none _ _))))
           intro v155 w17 ho18 hb hg_ hnew_
           have HS0_ := (hb.cell (World.block_lt_of_cell? _ _ (hHeld.1))).trans (hHeld.1)
           have HS1_ := (hb.cell (World.block_lt_of_cell? _ _ (hHeld.2.1))).trans (hHeld.2.1)
           have HS2_ := (hb.cell (World.block_lt_of_cell? _ _ (hHeld.2.2.1))).trans (hHeld.2.2.1)
           have HS3_ := (hb.cell (World.block_lt_of_cell? _ _ (hHeld.2.2.2))).trans (hHeld.2.2.2)
           clear hg_ hnew_
           (first | rw [← Ny154.out] at ho18 | (simp only [Int.reduceToNat] at ho18; rw [← Ny154.out] at ho18))
           have n0_ := Aside0.mk (Kd.N_elder' (by (with_reducible repeat (first | apply Kd.N_alloc | apply Kd.N_drewN | apply Kd.N_drew)); exact HO_3.out) (Kd.R_base ho18) hb)
           have n1_ := Aside0.mk (Kd.N_elder' (by (with_reducible repeat (first | apply Kd.N_alloc | apply Kd.N_drewN | apply Kd.N_drew)); exact HO_5.out) (Kd.R_base ho18) hb)
           have n2_ := Aside0.mk (Kd.V_elder' (by (with_reducible repeat (first | apply Kd.V_alloc | apply Kd.V_drewN | apply Kd.V_drew)); exact HL150_0.out) (Kd.R_base ho18) hb)
           have n3_ := Aside0.mk (Kd.V_elder' (by (with_reducible repeat (first | apply Kd.V_alloc | apply Kd.V_drewN | apply Kd.V_drew)); exact HL152_0.out) (Kd.R_base ho18) hb)
           have n4_ := Aside0.mk (Kd.R_lower (Kd.R_newM (M := fun k_ => (w.heap.size ≤ k_)) ho18 (below_size (by repeat (first | (with_reducible first | exact HB.out | apply below_alloc | apply pw_below_drewN | apply below_drew1) | exact HB.out))) (fun k_ h_ => h_)) (below_size (by repeat (first | (with_reducible first | exact HB.out | apply below_alloc | apply pw_below_drewN | apply below_drew1) | exact HB.out))))
           have n5_ := Aside0.mk (Kd.C_below (by repeat (first | (with_reducible exact HR150_0.out) | (with_reducible refine Kd.C_alloc ?_ _) | (with_reducible refine Kd.C_drewN ?_ _) | (with_reducible refine Kd.C_drew ?_) | exact HR150_0.out)) hb)
           have n6_ := Aside0.mk (Kd.C_below (by repeat (first | (with_reducible exact HR152_0.out) | (with_reducible refine Kd.C_alloc ?_ _) | (with_reducible refine Kd.C_drewN ?_ _) | (with_reducible refine Kd.C_drew ?_) | exact HR152_0.out)) hb)
           have n7_ := Aside0.mk (below_step (by repeat (first | (with_reducible first | exact HB.out | apply below_alloc | apply pw_below_drewN | apply below_drew1) | exact HB.out)) hb)
           clear HO_3
           clear HO_5
           clear HL150_0
           clear HL152_0
           clear HR150_0
           clear HR152_0
           clear HB
           have HO_3 := n0_
           have HO_5 := n1_
           have HL150_0 := n2_
           have HL152_0 := n3_
           have HO156 := n4_
           have HR150_0 := n5_
           have HR152_0 := n6_
           have HB := n7_
           clear n0_ n1_ n2_ n3_ n4_ n5_ n6_ n7_
           clear hb ho18
           obtain ⟨Ao20, co20, eo20⟩ := Kd.R_slice HO156.out
           (first | subst eo20 | (injection eo20 with f1_ f2_ f3_; have f4_ := f1_.symm; have f5_ := f3_.symm; clear f1_ f2_ f3_; subst f4_; subst f5_))
           refine hK.out _ _ ⟨HS0_, HS1_, HS2_, HS3_⟩ (fun hHeld => ?_)
           clear hK K
           refine norm_ (a' := ?_) ?_ ?_
           rotate_left
           ·show Act.put _ (some 36) _ = _
            simp only [Act.put, List.setIfInBounds_toArray, List.set_cons_zero, List.set_cons_succ, i64_w, i32_w]
            rfl
           refine last_ (i := 14) (N := some 37) #[true, true, true, true, true, true, true, true, true, true, true, true, true, true, true, false, false] rfl rfl (one_of HT_.out (by kernel_rfl)) (by decide) (fun K hK => ?_)
           refine value_ (w1 := ?_) (v := ?_) (by rfl) rfl ?_ ?_
           rotate_left 2
           ·go_simp
            constructor
            ·rfl
            ·rfl
           refine hK.out _ _ ?_
           clear hK K
           refine norm_ (a' := ?_) ?_ ?_
           rotate_left
           ·show Act.put _ (some 37) _ = _
            simp only [Act.put, List.setIfInBounds_toArray, List.set_cons_zero, List.set_cons_succ, i64_w, i32_w]
            rfl
           refine last_ (i := 15) (N := some 38) #[true, true, true, true, true, true, true, true, true, true, true, true, true, true, true, true, false] rfl rfl (one_of HT_.out (by kernel_rfl)) (by decide) (fun K hK => ?_)
           refine Kd.N_append_step (Kd.slice 2 (Kd.int .i64)) (w0 := w) w.heap.size (by rfl) (.tmp 23) (.tmp 37) 22 34 (.slice none 0 0) 24 rfl Try.underlying22 info34 rfl (by decide) (by omega) u5 x5_2 y154 [.slice Ao20 y154.length co20] (fun k_ => (w.heap.size ≤ k_) ∧ some k_ ≠ (.slice (some ad150) x3_1.length co15 : Value).ownBlock) (fun k_ => ((fun k_ => (w.heap.size ≤ k_) ∧ some k_ ≠ (.slice (some ad150) x3_1.length co15 : Value).ownBlock)) k_ ∧ some k_ ≠ (u5 : Value).ownBlock) rfl rfl ?aP (fun _ hk => hk) ?aF ?aO ?aB ?aS ?aL ?_
           (case aP => exact (Kd.FK_slice_mk (Kd.R_reads' (Kd.R_mono (ok' := (fun k_ => ((fun k_ => (w.heap.size ≤ k_) ∧ some k_ ≠ (.slice (some ad150) x3_1.length co15 : Value).ownBlock)) k_ ∧ some k_ ≠ (u5 : Value).ownBlock)) (Kd.R_apart' (Kd.R_apart' (HO156.out) (Kd.N_typed HO_3.out) (by decide)) (Kd.N_typed HO_5.out) (by decide)) (fun k_ hk => ⟨⟨hk.1.1.1, hk.1.2⟩, hk.2⟩))).2.1 (Kd.R_F (Kd.R_mono (ok' := (fun k_ => ((fun k_ => (w.heap.size ≤ k_) ∧ some k_ ≠ (.slice (some ad150) x3_1.length co15 : Value).ownBlock)) k_ ∧ some k_ ≠ (u5 : Value).ownBlock)) (Kd.R_apart' (Kd.R_apart' (HO156.out) (Kd.N_typed HO_3.out) (by decide)) (Kd.N_typed HO_5.out) (by decide)) (fun k_ hk => ⟨⟨hk.1.1.1, hk.1.2⟩, hk.2⟩)))))
           (case aB => exact (by repeat (first | (with_reducible first | exact HB.out | apply below_alloc | apply pw_below_drewN | apply below_drew1) | exact HB.out)))
           (case aF => exact (fun k_ hk => ⟨(Nat.le_trans (below_size (by repeat (first | (with_reducible first | exact HB.out | apply below_alloc | apply pw_below_drewN | apply below_drew1) | exact HB.out))) hk), Kd.fresh' (Kd.N_lt (by (with_reducible repeat (first | apply Kd.N_alloc | apply Kd.N_drewN | apply Kd.N_drew)); exact HO_3.out)) k_ hk⟩))
           (case aO => exact (by (with_reducible repeat (first | apply Kd.N_alloc | apply Kd.N_drewN | apply Kd.N_drew)); exact Kd.N_mono HO_5.out (fun _ hk => ⟨hk.1.1, hk.1.2⟩)))
           (case aS => exact (below_size (by repeat (first | (with_reducible first | exact HB.out | apply below_alloc | apply pw_below_drewN | apply below_drew1) | exact HB.out))))
           (case aL => have := LMc14.out; omega)
           intro v158 w19 ho hb hg hat
           rw [← Ny157.out] at ho
           have n0_ := Aside0.mk (Kd.N_afterv (ok := (fun k_ => (w.heap.size ≤ k_) ∧ some k_ ≠ (.slice Ao20 y154.length co20 : Value).ownBlock)) (by (with_reducible repeat (first | apply Kd.N_alloc | apply Kd.N_drewN | apply Kd.N_drew)); exact Kd.N_mono HO_3.out (fun _ hk => ⟨⟨hk.1.1, hk.2⟩, hk.1.2⟩)) hg hat)
           have n1_ := Aside0.mk (Kd.V_afterv (ok := (fun k_ => (w.heap.size ≤ k_) ∧ some k_ ≠ (.slice (some ad150) x3_1.length co15 : Value).ownBlock ∧ some k_ ≠ (.slice Ao20 y154.length co20 : Value).ownBlock)) (by (with_reducible repeat (first | apply Kd.V_alloc | apply Kd.V_drewN | apply Kd.V_drew)); exact Kd.V_mono HL150_0.out (fun _ hk => ⟨⟨hk.1.1.1, ⟨hk.1.2, hk.2⟩⟩, hk.1.1.2⟩)) hg hat)
           have n2_ := Aside0.mk (Kd.V_afterv (ok := (fun k_ => (w.heap.size ≤ k_) ∧ some k_ ≠ (.slice (some ad150) x3_1.length co15 : Value).ownBlock ∧ some k_ ≠ (.slice Ao20 y154.length co20 : Value).ownBlock)) (by (with_reducible repeat (first | apply Kd.V_alloc | apply Kd.V_drewN | apply Kd.V_drew)); exact Kd.V_mono HL152_0.out (fun _ hk => ⟨⟨hk.1.1.1, ⟨hk.1.2, hk.2⟩⟩, hk.1.1.2⟩)) hg hat)
           have n3_ := Aside0.mk (hb)
           have n4_ := Aside0.mk (ho)
           clear HO_3
           clear HL150_0
           clear HL152_0
           clear HB
           clear HO_5
           clear HO156
           have HO_3 := n0_
           have HL150_0 := n1_
           have HL152_0 := n2_
           have HB := n3_
           have HO159 := n4_
           clear n0_ n1_ n2_ n3_ n4_
           clear ho hb hg hat
           refine hK.out _ _ ?_
           clear hK K
           refine norm_ (a' := ?_) ?_ ?_
           rotate_left
           ·show Act.put _ (some 38) _ = _
            simp only [Act.put, List.setIfInBounds_toArray, List.set_cons_zero, List.set_cons_succ, i64_w, i32_w]
            rfl
           refine pure_ (i := 16) (N := some 5) (v := ?_) (a' := ?_) #[true, true, true, true, true, true, true, true, true, true, true, true, true, true, true, true, true] rfl rfl (any_of HT_.out (by kernel_rfl)) (fun _ _ _ h => h) (Or.inl ⟨by rfl, ?_⟩) ?_ ?_
           rotate_left
           ·intro w'
            go_simp
            with_reducible rfl
           rotate_left
           ·simp only [Act.put, List.setIfInBounds_toArray, List.set_cons_zero, List.set_cons_succ, i64_w, i32_w]
            rfl
           refine done_ (done_of HT_.out (by kernel_rfl)) ?_
           try go_wp2
           go_roundg k2
           case measure => have := HK1.out; have := HK2.out; omega
           case rel => exact ⟨(y157), (wrap64 (x6_2 + 1)), (by first | rfl | (simp; done) | (simp [*]; done)), H', ⟨by have := HK1.out; have := HK2.out; omega⟩, ⟨by (with_reducible repeat (first | apply Kd.N_alloc | apply Kd.N_drewN | apply Kd.N_drew)); exact Kd.N_mono HO_3.out (fun _ hk => ⟨hk.1.1, hk.2⟩)⟩, ⟨by (with_reducible repeat (first | apply Kd.N_alloc | apply Kd.N_drewN | apply Kd.N_drew)); exact HO159.out⟩, ⟨by repeat (first | (with_reducible first | exact HB.out | apply below_alloc | apply pw_below_drewN | apply below_drew1) | exact HB.out)⟩⟩
          ·rw [if_neg c14] at H
           exact absurd H (by simp)
         ·rw [if_neg c13] at H
          exact absurd H (by simp)
        ·rw [if_neg c12] at H
         exact absurd H (by simp)
       ·rw [if_neg c11] at H
        exact absurd H (by simp)
      ·rw [if_neg c10] at H
       have c10b0 : decide (x6_2 < (x3_1.length : Int)) = false := decide_eq_false c10
       clear c10
       have H' := Aside0.mk H
       clear H
       obtain ⟨Ao21, co21, eo21⟩ := Kd.N_slice HO_3.out
       subst eo21
       go_wp2
       go_loopg [5, 7] k2 (fun kq v5 v7 w' => ∃ (x5_3 : List (List Int)) (x7_3 : Int), v7 = .int .i64 x7_3 ∧ Aside0 (spec_l09Hilbert.l2 kq x0_1 x3_1 x4_1 x5_3 x7_3 = some r) ∧ Aside0 (kq ≤ k2) ∧ Aside0 (Kd.N (Kd.slice 2 (Kd.int .i64)) 34 w' w.heap.size (fun k_ => (w.heap.size ≤ k_) ∧ some k_ ≠ (v5 : Value).ownBlock) (.slice Ao21 x3_1.length co21) x3_1) ∧ Aside0 (Kd.N (Kd.slice 2 (Kd.int .i64)) 34 w' w.heap.size (fun k_ => (w.heap.size ≤ k_) ∧ some k_ ≠ ((.slice Ao21 x3_1.length co21) : Value).ownBlock) v5 x5_3) ∧ Aside0 (Below w.heap.size w w'))
       case atStart => exact ⟨(x5_2), (0), (by first | rfl | (simp; done) | (simp [*]; done)), H', ⟨Nat.le_refl _⟩, ⟨by (with_reducible repeat (first | apply Kd.N_alloc | apply Kd.N_drewN | apply Kd.N_drew)); exact HO_3.out⟩, ⟨by (with_reducible repeat (first | apply Kd.N_alloc | apply Kd.N_drewN | apply Kd.N_drew)); exact HO_5.out⟩, ⟨by repeat (first | (with_reducible first | exact HB.out | apply below_alloc | apply pw_below_drewN | apply below_drew1) | exact HB.out)⟩⟩
       case round =>
        clear H'
        try clear c1
        try clear p1
        try clear q1
        try clear hx1
        try clear qi1
        try clear p2
        try clear c6
        try clear p6
        try clear c7
        try clear c7b0
        try clear c10
        try clear c10b0
        try clear c11
        try clear c11b0
        try clear c12
        try clear c12b0
        try clear c12b1
        try clear c13
        try clear c13b0
        try clear c13b1
        try clear c14
        try clear c15
        try clear p15
        try clear q15
        try clear hx15
        try clear qi15
        try clear hx150_0
        try clear hx151_0
        try clear hx152_0
        try clear hx153_0
        try clear p150
        try clear p151
        try clear p152
        try clear p153
        try clear p2
        try clear q150
        try clear q151
        try clear q152
        try clear q153
        obtain ⟨x5_3, x7_3, rfl, HA, HK3, HO_3, HO_5, HB⟩ := hrel
        cases gk with
        | zero => exact absurd HA.out (by simp [spec_l09Hilbert.l2])
        | succ k3 =>
         have H := HA.out
         clear HA
         simp only [spec_l09Hilbert.l2] at H
         by_cases c22 : x7_3 < (x3_1.length : Int)
         ·rw [if_pos c22] at H
          have c22b0 : decide (x7_3 < (x3_1.length : Int)) = true := decide_eq_true c22
          clear c22
          by_cases c23 : 0 ≤ x7_3
          ·rw [if_pos c23] at H
           have c23b0 : decide (0 ≤ x7_3) = true := decide_eq_true c23
           clear c23
           by_cases c24 : 0 < ((rd_L1 x3_1 x7_3).length : Int)
           ·rw [if_pos c24] at H
            have c24b0 : decide (0 < ((rd_L1 x3_1 x7_3).length : Int)) = true := decide_eq_true c24
            have c24b1 : decide (0 < (rd_L1 x3_1 x7_3).length) = true := decide_eq_true (by omega)
            clear c24
            by_cases c25 : 1 < ((rd_L1 x3_1 x7_3).length : Int)
            ·rw [if_pos c25] at H
             have c25b0 : decide (1 < ((rd_L1 x3_1 x7_3).length : Int)) = true := decide_eq_true c25
             have c25b1 : decide (1 < (rd_L1 x3_1 x7_3).length) = true := decide_eq_true (by omega)
             clear c25
             obtain ⟨y164, hy164⟩ : ∃ y_ : List Int, y_ = (([rd (rd_L1 x3_1 x7_3) 0, wrap64 ((rd (rd_L1 x3_1 x7_3) 1) + x4_1)] : List Int)) := ⟨_, rfl⟩
             replace H : (if x5_3.length < 5864062014805 then (spec_l09Hilbert.l2 k3 x0_1 x3_1 x4_1 (x5_3 ++ [y164]) (wrap64 (x7_3 + 1))) else (none)) = some r := by first | (rw [hy164]; with_reducible exact H) | (have H2_ := (Option.bind_some _ _).symm.trans H; rw [hy164]; with_reducible exact H2_) | (have H2_ := (Option.bind_some _ _).symm.trans H; with_reducible exact H2_) | with_reducible exact H | (rw [hy164]; exact H) | exact H
             have Ny164 := Aside0.mk hy164
             clear hy164
             by_cases c26 : x5_3.length < 5864062014805
             ·rw [if_pos c26] at H
              have LMc26 := Aside0.mk c26
              clear c26
              obtain ⟨y167, hy167⟩ : ∃ y_ : List (List Int), y_ = (x5_3 ++ [y164]) := ⟨_, rfl⟩
              replace H : (spec_l09Hilbert.l2 k3 x0_1 x3_1 x4_1 y167 (wrap64 (x7_3 + 1))) = some r := by first | (rw [hy167]; with_reducible exact H) | (have H2_ := (Option.bind_some _ _).symm.trans H; rw [hy167]; with_reducible exact H2_) | (have H2_ := (Option.bind_some _ _).symm.trans H; with_reducible exact H2_) | with_reducible exact H | (rw [hy167]; exact H) | exact H
              have Ny167 := Aside0.mk hy167
              clear hy167
              have H' := Aside0.mk H
              clear H
              try go_wp2
              have n0_ := Aside0.mk (Kd.N_drew HO_3.out)
              have n1_ := Aside0.mk (Kd.N_drew HO_5.out)
              have n2_ := Aside0.mk (below_drew1 HB.out)
              clear HO_3
              clear HO_5
              clear HB
              have HO_3 := n0_
              have HO_5 := n1_
              have HB := n2_
              clear n0_ n1_ n2_
              have p160 : 0 ≤ (x7_3 : Int) := of_decide_eq_true (by first | (with_reducible assumption) | assumption)
              have q160 : x7_3 < (x3_1.length : Int) := of_decide_eq_true (by first | (with_reducible assumption) | assumption)
              obtain ⟨ad160, A160_0, c160_0, e160, hx160_0, hl160_0, hi160_0⟩ := at_L1 (Kd.N_reads' HO_3.out).2.2 x7_3 p160 q160
              cases e160
              obtain ⟨ce160, hce160, hMe160, hcc160⟩ := Kd.N_get HO_3.out [] x7_3 p160 (by first | exact q160 | exact of_decide_eq_true (by first | (with_reducible assumption) | assumption) | (have e_ := (Kd.N_reads' HO_3.out).1; omega))
              obtain ⟨ua160_0, uc160_0, rfl, ul160_0, ge160_0⟩ := Kd.FK_slice_open hMe160
              have hv160_0 := hcc160 0 _ rfl
              rw [Nat.add_zero, show ((Kd.slice 2 (Kd.int .i64))).sz = 1 from rfl, Nat.mul_one] at hv160_0
              replace hv160_0 := Option.some.inj (hv160_0.symm.trans hx160_0)
              injection hv160_0 with hva_ hvn_ hvc_
              rw [hva_] at ge160_0
              rw [hvc_] at ul160_0
              have HL160_0 := Aside0.mk (show Kd.V (Kd.int .i64) 2 _ w.heap.size _ _ (rd_L1 x3_1 x7_3) from Kd.V_mk ul160_0 ge160_0)
              clear hva_ hvn_ hvc_ ge160_0 ul160_0
              clear hcc160 hce160
              have HR160_0 := Aside0.mk hi160_0
              have HC160_0 := Aside0.mk hl160_0
              clear hi160_0 hl160_0
              replace p160 := eq_true p160
              replace q160 := eq_true q160
              have p161 : 0 ≤ (0 : Int) := (by omega)
              have q161 : 0 < ((rd_L1 x3_1 x7_3).length : Int) := of_decide_eq_true (by first | (with_reducible assumption) | assumption)
              obtain ⟨ad161, e161, hx161_0⟩ := Kd.at_int (by repeat (first | (with_reducible exact HR160_0.out) | (with_reducible refine Kd.C_alloc ?_ _) | (with_reducible refine Kd.C_drewN ?_ _) | (with_reducible refine Kd.C_drew ?_) | exact HR160_0.out)) 0 p161 q161
              cases e161
              have qi161 : (0 < (rd_L1 x3_1 x7_3).length) = True := eq_true (by omega)
              (try rw [show ((0 : Int)).toNat = 0 from rfl] at hx161_0)
              (try rw [Addr.add_zero'] at hx161_0)
              replace p161 := eq_true p161
              replace q161 := eq_true q161
              have p162 : 0 ≤ (x7_3 : Int) := of_decide_eq_true (by first | (with_reducible assumption) | assumption)
              have q162 : x7_3 < (x3_1.length : Int) := of_decide_eq_true (by first | (with_reducible assumption) | assumption)
              obtain ⟨ad162, A162_0, c162_0, e162, hx162_0, hl162_0, hi162_0⟩ := at_L1 (Kd.N_reads' HO_3.out).2.2 x7_3 p162 q162
              obtain rfl : ad160 = ad162 := (by injection e162)
              obtain ⟨ce162, hce162, hMe162, hcc162⟩ := Kd.N_get HO_3.out [] x7_3 p162 (by first | exact q162 | exact of_decide_eq_true (by first | (with_reducible assumption) | assumption) | (have e_ := (Kd.N_reads' HO_3.out).1; omega))
              obtain ⟨ua162_0, uc162_0, rfl, ul162_0, ge162_0⟩ := Kd.FK_slice_open hMe162
              have hv162_0 := hcc162 0 _ rfl
              rw [Nat.add_zero, show ((Kd.slice 2 (Kd.int .i64))).sz = 1 from rfl, Nat.mul_one] at hv162_0
              replace hv162_0 := Option.some.inj (hv162_0.symm.trans hx162_0)
              injection hv162_0 with hva_ hvn_ hvc_
              rw [hva_] at ge162_0
              rw [hvc_] at ul162_0
              have HL162_0 := Aside0.mk (show Kd.V (Kd.int .i64) 2 _ w.heap.size _ _ (rd_L1 x3_1 x7_3) from Kd.V_mk ul162_0 ge162_0)
              clear hva_ hvn_ hvc_ ge162_0 ul162_0
              clear hcc162 hce162
              have HR162_0 := Aside0.mk hi162_0
              have HC162_0 := Aside0.mk hl162_0
              clear hi162_0 hl162_0
              replace p162 := eq_true p162
              replace q162 := eq_true q162
              have ea_ := Option.some.inj (hx160_0.symm.trans hx162_0)
              injection ea_ with ea_ en_ ec_
              subst ea_
              subst ec_
              clear en_
              have p163 : 0 ≤ (1 : Int) := (by omega)
              have q163 : 1 < ((rd_L1 x3_1 x7_3).length : Int) := of_decide_eq_true (by first | (with_reducible assumption) | assumption)
              obtain ⟨ad163, e163, hx163_0⟩ := Kd.at_int (by repeat (first | (with_reducible exact HR162_0.out) | (with_reducible refine Kd.C_alloc ?_ _) | (with_reducible refine Kd.C_drewN ?_ _) | (with_reducible refine Kd.C_drew ?_) | exact HR162_0.out)) 1 p163 q163
              cases e163
              (try simp only [show (1 : Int).toNat = 1 from rfl, Nat.reduceMul, Nat.reduceEqDiff, Go.Addr.add, ↓reduceIte] at hx163_0)
              have qi163 : (1 < (rd_L1 x3_1 x7_3).length) = True := eq_true (by omega)
              (try rw [show ((1 : Int)).toNat = 1 from rfl] at hx163_0)
              replace p163 := eq_true p163
              replace q163 := eq_true q163
              refine start_ (n := 19) (S := fun w' => w'.cell? (ad160.add (x7_3).toNat) = some (.slice (some ad161) (rd_L1 x3_1 x7_3).length c160_0) ∧ w'.cell? ad161 = some (.int .i64 (rd (rd_L1 x3_1 x7_3) 0)) ∧ w'.cell? (ad160.add (x7_3).toNat) = some (.slice (some ad161) (rd_L1 x3_1 x7_3).length c160_0) ∧ w'.cell? ⟨ad161.block, ad161.off + 1, none⟩ = some (.int .i64 (rd (rd_L1 x3_1 x7_3) 1))) (ds := [16, 17]) #[false, false, false, false, false, false, false, false, false, false, false, false, false, false, false, false, false, false, false] (by kernel_rfl) rfl rfl ⟨hx160_0, hx161_0, hx162_0, hx163_0⟩ (fun hHeld => ?_); refine with_tabW spec_l09Hilbert.tab13 spec_l09Hilbert.bits13 (fun HT_ HW_ => ?_)
              generalize wr.drew = w27 at HO_3 HO_5 HB HL160_0 HL162_0 HR160_0 HR162_0 hx160_0 hx161_0 hx162_0 hx163_0 hHeld ⊢
              refine pure_ (i := 0) (N := some 45) (v := ?_) (a' := ?_) #[true, false, false, false, false, false, false, false, false, false, false, false, false, false, false, false, false, false, false] rfl rfl (any_of HT_.out (by kernel_rfl)) (fun _ _ _ h => h) (Or.inl ⟨by rfl, ?_⟩) ?_ ?_
              rotate_left
              ·intro w'
               go_simp
               with_reducible rfl
              rotate_left
              ·simp only [Act.put, List.setIfInBounds_toArray, List.set_cons_zero, List.set_cons_succ, i64_w, i32_w]
               rfl
              refine pure_ (i := 1) (N := some 46) (v := ?_) (a' := ?_) #[true, true, false, false, false, false, false, false, false, false, false, false, false, false, false, false, false, false, false] rfl rfl (any_of HT_.out (by kernel_rfl)) (fun _ _ _ h => h) (Or.inl ⟨by rfl, ?_⟩) ?_ ?_
              rotate_left
              ·intro w'
               go_simp
               with_reducible rfl
              rotate_left
              ·simp only [Act.put, List.setIfInBounds_toArray, List.set_cons_zero, List.set_cons_succ, i64_w, i32_w]
               rfl
              refine pure_ (i := 2) (N := some 47) (v := ?_) (a' := ?_) #[true, true, true, false, false, false, false, false, false, false, false, false, false, false, false, false, false, false, false] rfl rfl (any_of HT_.out (by kernel_rfl)) (fun _ _ _ h => h) (Or.inl ⟨by rfl, ?_⟩) ?_ ?_
              rotate_left
              ·intro w'
               go_simp
               with_reducible rfl
              rotate_left
              ·simp only [Act.put, List.setIfInBounds_toArray, List.set_cons_zero, List.set_cons_succ, i64_w, i32_w]
               rfl
              refine pure_ (i := 3) (N := some 48) (v := ?_) (a' := ?_) #[true, true, true, true, false, false, false, false, false, false, false, false, false, false, false, false, false, false, false] rfl rfl (any_of HT_.out (by kernel_rfl)) (fun _ _ _ h => h) (Or.inl ⟨by rfl, ?_⟩) ?_ ?_
              rotate_left
              ·intro w'
               go_simp
               with_reducible rfl
              rotate_left
              ·simp only [Act.put, List.setIfInBounds_toArray, List.set_cons_zero, List.set_cons_succ, i64_w, i32_w]
               rfl
              refine pure_ (i := 7) (N := some 52) (v := ?_) (a' := ?_) #[true, true, true, true, false, false, false, true, false, false, false, false, false, false, false, false, false, false, false] rfl rfl (any_of HT_.out (by kernel_rfl)) (fun _ _ _ h => h) (Or.inl ⟨by rfl, ?_⟩) ?_ ?_
              rotate_left
              ·intro w'
               go_simp
               with_reducible rfl
              rotate_left
              ·simp only [Act.put, List.setIfInBounds_toArray, List.set_cons_zero, List.set_cons_succ, i64_w, i32_w]
               rfl
              refine pure_ (i := 8) (N := some 53) (v := ?_) (a' := ?_) #[true, true, true, true, false, false, false, true, true, false, false, false, false, false, false, false, false, false, false] rfl rfl (any_of HT_.out (by kernel_rfl)) (fun _ _ _ h => h) (Or.inl ⟨by rfl, ?_⟩) ?_ ?_
              rotate_left
              ·intro w'
               go_simp
               with_reducible rfl
              rotate_left
              ·simp only [Act.put, List.setIfInBounds_toArray, List.set_cons_zero, List.set_cons_succ, i64_w, i32_w]
               rfl
              refine pure_ (i := 9) (N := some 54) (v := ?_) (a' := ?_) #[true, true, true, true, false, false, false, true, true, true, false, false, false, false, false, false, false, false, false] rfl rfl (any_of HT_.out (by kernel_rfl)) (fun _ _ _ h => h) (Or.inl ⟨by rfl, ?_⟩) ?_ ?_
              rotate_left
              ·intro w'
               go_simp
               with_reducible rfl
              rotate_left
              ·simp only [Act.put, List.setIfInBounds_toArray, List.set_cons_zero, List.set_cons_succ, i64_w, i32_w]
               rfl
              refine pure_ (i := 13) (N := some 58) (v := ?_) (a' := ?_) #[true, true, true, true, false, false, false, true, true, true, false, false, false, true, false, false, false, false, false] rfl rfl (any_of HT_.out (by kernel_rfl)) (fun _ _ _ h => h) (Or.inl ⟨by rfl, ?_⟩) ?_ ?_
              rotate_left
              ·intro w'
               go_simp
               with_reducible rfl
              rotate_left
              ·simp only [Act.put, List.setIfInBounds_toArray, List.set_cons_zero, List.set_cons_succ, i64_w, i32_w]
               rfl
              refine take_ (i := 4) (N := some 49) (v := ?_) (a' := ?_) #[true, true, true, true, true, false, false, true, true, true, false, false, false, true, false, false, false, false, false] rfl rfl (take_ofW HT_.out HW_.out (by kernel_rfl)) (fun _ _ _ h => h) (Or.inl ⟨by rfl, ?_⟩) hHeld ?_ ?_
              rotate_left
              ·rintro w' ⟨s0, s1, s2, s3⟩
               go_simp
               with_reducible rfl
              rotate_left
              ·simp only [Act.put, List.setIfInBounds_toArray, List.set_cons_zero, List.set_cons_succ, i64_w, i32_w]
               rfl
              refine pure_ (i := 5) (N := some 50) (v := ?_) (a' := ?_) #[true, true, true, true, true, true, false, true, true, true, false, false, false, true, false, false, false, false, false] rfl rfl (any_of HT_.out (by kernel_rfl)) (fun _ _ _ h => h) (Or.inl ⟨by rfl, ?_⟩) ?_ ?_
              rotate_left
              ·intro w'
               go_simp
               with_reducible rfl
              rotate_left
              ·simp only [Act.put, List.setIfInBounds_toArray, List.set_cons_zero, List.set_cons_succ, i64_w, i32_w]
               rfl
              refine take_ (i := 6) (N := some 51) (v := ?_) (a' := ?_) #[true, true, true, true, true, true, true, true, true, true, false, false, false, true, false, false, false, false, false] rfl rfl (take_ofW HT_.out HW_.out (by kernel_rfl)) (fun _ _ _ h => h) (Or.inl ⟨by rfl, ?_⟩) hHeld ?_ ?_
              rotate_left
              ·rintro w' ⟨s0, s1, s2, s3⟩
               go_simp
               with_reducible rfl
              rotate_left
              ·simp only [Act.put, List.setIfInBounds_toArray, List.set_cons_zero, List.set_cons_succ, i64_w, i32_w]
               rfl
              refine take_ (i := 10) (N := some 55) (v := ?_) (a' := ?_) #[true, true, true, true, true, true, true, true, true, true, true, false, false, true, false, false, false, false, false] rfl rfl (take_ofW HT_.out HW_.out (by kernel_rfl)) (fun _ _ _ h => h) (Or.inl ⟨by rfl, ?_⟩) hHeld ?_ ?_
              rotate_left
              ·rintro w' ⟨s0, s1, s2, s3⟩
               go_simp
               with_reducible rfl
              rotate_left
              ·simp only [Act.put, List.setIfInBounds_toArray, List.set_cons_zero, List.set_cons_succ, i64_w, i32_w]
               rfl
              refine pure_ (i := 11) (N := some 56) (v := ?_) (a' := ?_) #[true, true, true, true, true, true, true, true, true, true, true, true, false, true, false, false, false, false, false] rfl rfl (any_of HT_.out (by kernel_rfl)) (fun _ _ _ h => h) (Or.inl ⟨by rfl, ?_⟩) ?_ ?_
              rotate_left
              ·intro w'
               go_simp
               with_reducible rfl
              rotate_left
              ·simp only [Act.put, List.setIfInBounds_toArray, List.set_cons_zero, List.set_cons_succ, i64_w, i32_w]
               rfl
              refine take_ (i := 12) (N := some 57) (v := ?_) (a' := ?_) #[true, true, true, true, true, true, true, true, true, true, true, true, true, true, false, false, false, false, false] rfl rfl (take_ofW HT_.out HW_.out (by kernel_rfl)) (fun _ _ _ h => h) (Or.inl ⟨by rfl, ?_⟩) hHeld ?_ ?_
              rotate_left
              ·rintro w' ⟨s0, s1, s2, s3⟩
               go_simp
               with_reducible rfl
              rotate_left
              ·simp only [Act.put, List.setIfInBounds_toArray, List.set_cons_zero, List.set_cons_succ, i64_w, i32_w]
               rfl
              refine pure_ (i := 14) (N := some 59) (v := ?_) (a' := ?_) #[true, true, true, true, true, true, true, true, true, true, true, true, true, true, true, false, false, false, false] rfl rfl (any_of HT_.out (by kernel_rfl)) (fun _ _ _ h => h) (Or.inl ⟨by rfl, ?_⟩) ?_ ?_
              rotate_left
              ·intro w'
               go_simp
               with_reducible rfl
              rotate_left
              ·simp only [Act.put, List.setIfInBounds_toArray, List.set_cons_zero, List.set_cons_succ, i64_w, i32_w]
               rfl
              refine one_ (i := 15) (N := some 60) #[true, true, true, true, true, true, true, true, true, true, true, true, true, true, true, true, false, false, false] rfl rfl (one_of HT_.out (by kernel_rfl)) (by decide) (fun K hK => ?_)
              refine Kd.R_lit_step (Kd.int .i64) _ 2 ?hg (N := 60) ?hd (xs := ([rd (rd_L1 x3_1 x7_3) 0, wrap64 ((rd (rd_L1 x3_1 x7_3) 1) + x4_1)] : List Int)) (inner := [.int .i64 (rd (rd_L1 x3_1 x7_3) 0), .int .i64 (wrap64 ((rd (rd_L1 x3_1 x7_3) 1) + x4_1))]) (ok := fun _ => True) (okp := fun _ => True) ?hr ?hp (fun _ hk => hk) trivial (Below.refl _ _) (Nat.le_refl _) (by simp) ?_; (case hd => rfl); (case hg => rfl); (case hr => first | (go_simp; done) | (go_simp; rfl)); (case hp => exact (Reps.one (show Kd.M (Kd.int .i64) _ _ _ (rd (rd_L1 x3_1 x7_3) 0) [.int .i64 (rd (rd_L1 x3_1 x7_3) 0)] from rfl) (Reps.one (show Kd.M (Kd.int .i64) _ _ _ (wrap64 ((rd (rd_L1 x3_1 x7_3) 1) + x4_1)) [.int .i64 (wrap64 ((rd (rd_L1 x3_1 x7_3) 1) + x4_1))] from rfl) (Reps.none _ _))))
              intro v165 w28 ho29 hb hg_ hnew_
              have HS0_ := (hb.cell (World.block_lt_of_cell? _ _ (hHeld.1))).trans (hHeld.1)
              have HS1_ := (hb.cell (World.block_lt_of_cell? _ _ (hHeld.2.1))).trans (hHeld.2.1)
              have HS2_ := (hb.cell (World.block_lt_of_cell? _ _ (hHeld.2.2.1))).trans (hHeld.2.2.1)
              have HS3_ := (hb.cell (World.block_lt_of_cell? _ _ (hHeld.2.2.2))).trans (hHeld.2.2.2)
              clear hg_ hnew_
              (first | rw [← Ny164.out] at ho29 | (simp only [Int.reduceToNat] at ho29; rw [← Ny164.out] at ho29))
              have n0_ := Aside0.mk (Kd.N_elder' (by (with_reducible repeat (first | apply Kd.N_alloc | apply Kd.N_drewN | apply Kd.N_drew)); exact HO_3.out) (Kd.R_base ho29) hb)
              have n1_ := Aside0.mk (Kd.N_elder' (by (with_reducible repeat (first | apply Kd.N_alloc | apply Kd.N_drewN | apply Kd.N_drew)); exact HO_5.out) (Kd.R_base ho29) hb)
              have n2_ := Aside0.mk (Kd.V_elder' (by (with_reducible repeat (first | apply Kd.V_alloc | apply Kd.V_drewN | apply Kd.V_drew)); exact HL160_0.out) (Kd.R_base ho29) hb)
              have n3_ := Aside0.mk (Kd.V_elder' (by (with_reducible repeat (first | apply Kd.V_alloc | apply Kd.V_drewN | apply Kd.V_drew)); exact HL162_0.out) (Kd.R_base ho29) hb)
              have n4_ := Aside0.mk (Kd.R_lower (Kd.R_newM (M := fun k_ => (w.heap.size ≤ k_)) ho29 (below_size (by repeat (first | (with_reducible first | exact HB.out | apply below_alloc | apply pw_below_drewN | apply below_drew1) | exact HB.out))) (fun k_ h_ => h_)) (below_size (by repeat (first | (with_reducible first | exact HB.out | apply below_alloc | apply pw_below_drewN | apply below_drew1) | exact HB.out))))
              have n5_ := Aside0.mk (Kd.C_below (by repeat (first | (with_reducible exact HR160_0.out) | (with_reducible refine Kd.C_alloc ?_ _) | (with_reducible refine Kd.C_drewN ?_ _) | (with_reducible refine Kd.C_drew ?_) | exact HR160_0.out)) hb)
              have n6_ := Aside0.mk (Kd.C_below (by repeat (first | (with_reducible exact HR162_0.out) | (with_reducible refine Kd.C_alloc ?_ _) | (with_reducible refine Kd.C_drewN ?_ _) | (with_reducible refine Kd.C_drew ?_) | exact HR162_0.out)) hb)
              have n7_ := Aside0.mk (below_step (by repeat (first | (with_reducible first | exact HB.out | apply below_alloc | apply pw_below_drewN | apply below_drew1) | exact HB.out)) hb)
              clear HO_3
              clear HO_5
              clear HL160_0
              clear HL162_0
              clear HR160_0
              clear HR162_0
              clear HB
              have HO_3 := n0_
              have HO_5 := n1_
              have HL160_0 := n2_
              have HL162_0 := n3_
              have HO166 := n4_
              have HR160_0 := n5_
              have HR162_0 := n6_
              have HB := n7_
              clear n0_ n1_ n2_ n3_ n4_ n5_ n6_ n7_
              clear hb ho29
              obtain ⟨Ao31, co31, eo31⟩ := Kd.R_slice HO166.out
              (first | subst eo31 | (injection eo31 with f1_ f2_ f3_; have f4_ := f1_.symm; have f5_ := f3_.symm; clear f1_ f2_ f3_; subst f4_; subst f5_))
              refine hK.out _ _ ⟨HS0_, HS1_, HS2_, HS3_⟩ (fun hHeld => ?_)
              clear hK K
              refine norm_ (a' := ?_) ?_ ?_
              rotate_left
              ·show Act.put _ (some 60) _ = _
               simp only [Act.put, List.setIfInBounds_toArray, List.set_cons_zero, List.set_cons_succ, i64_w, i32_w]
               rfl
              refine last_ (i := 16) (N := some 61) #[true, true, true, true, true, true, true, true, true, true, true, true, true, true, true, true, true, false, false] rfl rfl (one_of HT_.out (by kernel_rfl)) (by decide) (fun K hK => ?_)
              refine value_ (w1 := ?_) (v := ?_) (by rfl) rfl ?_ ?_
              rotate_left 2
              ·go_simp
               constructor
               ·rfl
               ·rfl
              refine hK.out _ _ ?_
              clear hK K
              refine norm_ (a' := ?_) ?_ ?_
              rotate_left
              ·show Act.put _ (some 61) _ = _
               simp only [Act.put, List.setIfInBounds_toArray, List.set_cons_zero, List.set_cons_succ, i64_w, i32_w]
               rfl
              refine last_ (i := 17) (N := some 62) #[true, true, true, true, true, true, true, true, true, true, true, true, true, true, true, true, true, true, false] rfl rfl (one_of HT_.out (by kernel_rfl)) (by decide) (fun K hK => ?_)
              refine Kd.N_append_step (Kd.slice 2 (Kd.int .i64)) (w0 := w) w.heap.size (by rfl) (.tmp 45) (.tmp 61) 22 34 (.slice none 0 0) 24 rfl Try.underlying22 info34 rfl (by decide) (by omega) u5 x5_3 y164 [.slice Ao31 y164.length co31] (fun k_ => (w.heap.size ≤ k_) ∧ some k_ ≠ (.slice (some ad160) x3_1.length co21 : Value).ownBlock) (fun k_ => ((fun k_ => (w.heap.size ≤ k_) ∧ some k_ ≠ (.slice (some ad160) x3_1.length co21 : Value).ownBlock)) k_ ∧ some k_ ≠ (u5 : Value).ownBlock) rfl rfl ?aP (fun _ hk => hk) ?aF ?aO ?aB ?aS ?aL ?_
              (case aP => exact (Kd.FK_slice_mk (Kd.R_reads' (Kd.R_mono (ok' := (fun k_ => ((fun k_ => (w.heap.size ≤ k_) ∧ some k_ ≠ (.slice (some ad160) x3_1.length co21 : Value).ownBlock)) k_ ∧ some k_ ≠ (u5 : Value).ownBlock)) (Kd.R_apart' (Kd.R_apart' (HO166.out) (Kd.N_typed HO_3.out) (by decide)) (Kd.N_typed HO_5.out) (by decide)) (fun k_ hk => ⟨⟨hk.1.1.1, hk.1.2⟩, hk.2⟩))).2.1 (Kd.R_F (Kd.R_mono (ok' := (fun k_ => ((fun k_ => (w.heap.size ≤ k_) ∧ some k_ ≠ (.slice (some ad160) x3_1.length co21 : Value).ownBlock)) k_ ∧ some k_ ≠ (u5 : Value).ownBlock)) (Kd.R_apart' (Kd.R_apart' (HO166.out) (Kd.N_typed HO_3.out) (by decide)) (Kd.N_typed HO_5.out) (by decide)) (fun k_ hk => ⟨⟨hk.1.1.1, hk.1.2⟩, hk.2⟩)))))
              (case aB => exact (by repeat (first | (with_reducible first | exact HB.out | apply below_alloc | apply pw_below_drewN | apply below_drew1) | exact HB.out)))
              (case aF => exact (fun k_ hk => ⟨(Nat.le_trans (below_size (by repeat (first | (with_reducible first | exact HB.out | apply below_alloc | apply pw_below_drewN | apply below_drew1) | exact HB.out))) hk), Kd.fresh' (Kd.N_lt (by (with_reducible repeat (first | apply Kd.N_alloc | apply Kd.N_drewN | apply Kd.N_drew)); exact HO_3.out)) k_ hk⟩))
              (case aO => exact (by (with_reducible repeat (first | apply Kd.N_alloc | apply Kd.N_drewN | apply Kd.N_drew)); exact Kd.N_mono HO_5.out (fun _ hk => ⟨hk.1.1, hk.1.2⟩)))
              (case aS => exact (below_size (by repeat (first | (with_reducible first | exact HB.out | apply below_alloc | apply pw_below_drewN | apply below_drew1) | exact HB.out))))
              (case aL => have := LMc26.out; omega)
              intro v168 w30 ho hb hg hat
              rw [← Ny167.out] at ho
              have n0_ := Aside0.mk (Kd.N_afterv (ok := (fun k_ => (w.heap.size ≤ k_) ∧ some k_ ≠ (.slice Ao31 y164.length co31 : Value).ownBlock)) (by (with_reducible repeat (first | apply Kd.N_alloc | apply Kd.N_drewN | apply Kd.N_drew)); exact Kd.N_mono HO_3.out (fun _ hk => ⟨⟨hk.1.1, hk.2⟩, hk.1.2⟩)) hg hat)
              have n1_ := Aside0.mk (Kd.V_afterv (ok := (fun k_ => (w.heap.size ≤ k_) ∧ some k_ ≠ (.slice (some ad160) x3_1.length co21 : Value).ownBlock ∧ some k_ ≠ (.slice Ao31 y164.length co31 : Value).ownBlock)) (by (with_reducible repeat (first | apply Kd.V_alloc | apply Kd.V_drewN | apply Kd.V_drew)); exact Kd.V_mono HL160_0.out (fun _ hk => ⟨⟨hk.1.1.1, ⟨hk.1.2, hk.2⟩⟩, hk.1.1.2⟩)) hg hat)
              have n2_ := Aside0.mk (Kd.V_afterv (ok := (fun k_ => (w.heap.size ≤ k_) ∧ some k_ ≠ (.slice (some ad160) x3_1.length co21 : Value).ownBlock ∧ some k_ ≠ (.slice Ao31 y164.length co31 : Value).ownBlock)) (by (with_reducible repeat (first | apply Kd.V_alloc | apply Kd.V_drewN | apply Kd.V_drew)); exact Kd.V_mono HL162_0.out (fun _ hk => ⟨⟨hk.1.1.1, ⟨hk.1.2, hk.2⟩⟩, hk.1.1.2⟩)) hg hat)
              have n3_ := Aside0.mk (hb)
              have n4_ := Aside0.mk (ho)
              clear HO_3
              clear HL160_0
              clear HL162_0
              clear HB
              clear HO_5
              clear HO166
              have HO_3 := n0_
              have HL160_0 := n1_
              have HL162_0 := n2_
              have HB := n3_
              have HO169 := n4_
              clear n0_ n1_ n2_ n3_ n4_
              clear ho hb hg hat
              refine hK.out _ _ ?_
              clear hK K
              refine norm_ (a' := ?_) ?_ ?_
              rotate_left
              ·show Act.put _ (some 62) _ = _
               simp only [Act.put, List.setIfInBounds_toArray, List.set_cons_zero, List.set_cons_succ, i64_w, i32_w]
               rfl
              refine pure_ (i := 18) (N := some 5) (v := ?_) (a' := ?_) #[true, true, true, true, true, true, true, true, true, true, true, true, true, true, true, true, true, true, true] rfl rfl (any_of HT_.out (by kernel_rfl)) (fun _ _ _ h => h) (Or.inl ⟨by rfl, ?_⟩) ?_ ?_
              rotate_left
              ·intro w'
               go_simp
               with_reducible rfl
              rotate_left
              ·simp only [Act.put, List.setIfInBounds_toArray, List.set_cons_zero, List.set_cons_succ, i64_w, i32_w]
               rfl
              refine done_ (done_of HT_.out (by kernel_rfl)) ?_
              try go_wp2
              go_roundg k3
              case measure => have := HK1.out; have := HK2.out; have := HK3.out; omega
              case rel => exact ⟨(y167), (wrap64 (x7_3 + 1)), (by first | rfl | (simp; done) | (simp [*]; done)), H', ⟨by have := HK1.out; have := HK2.out; have := HK3.out; omega⟩, ⟨by (with_reducible repeat (first | apply Kd.N_alloc | apply Kd.N_drewN | apply Kd.N_drew)); exact Kd.N_mono HO_3.out (fun _ hk => ⟨hk.1.1, hk.2⟩)⟩, ⟨by (with_reducible repeat (first | apply Kd.N_alloc | apply Kd.N_drewN | apply Kd.N_drew)); exact HO169.out⟩, ⟨by repeat (first | (with_reducible first | exact HB.out | apply below_alloc | apply pw_below_drewN | apply below_drew1) | exact HB.out)⟩⟩
             ·rw [if_neg c26] at H
              exact absurd H (by simp)
            ·rw [if_neg c25] at H
             exact absurd H (by simp)
           ·rw [if_neg c24] at H
            exact absurd H (by simp)
          ·rw [if_neg c23] at H
           exact absurd H (by simp)
         ·rw [if_neg c22] at H
          have c22b0 : decide (x7_3 < (x3_1.length : Int)) = false := decide_eq_false c22
          clear c22
          have H' := Aside0.mk H
          clear H
          go_wp2
          go_loopg [5, 8] k3 (fun kq v5 v8 w' => ∃ (x5_4 : List (List Int)) (x8_4 : Int), v8 = .int .i64 x8_4 ∧ Aside0 (spec_l09Hilbert.l3 kq x0_1 x3_1 x4_1 x5_4 x8_4 = some r) ∧ Aside0 (kq ≤ k3) ∧ Aside0 (Kd.N (Kd.slice 2 (Kd.int .i64)) 34 w' w.heap.size (fun k_ => (w.heap.size ≤ k_) ∧ some k_ ≠ (v5 : Value).ownBlock) (.slice Ao21 x3_1.length co21) x3_1) ∧ Aside0 (Kd.N (Kd.slice 2 (Kd.int .i64)) 34 w' w.heap.size (fun k_ => (w.heap.size ≤ k_) ∧ some k_ ≠ ((.slice Ao21 x3_1.length co21) : Value).ownBlock) v5 x5_4) ∧ Aside0 (Below w.heap.size w w'))
          case atStart => exact ⟨(x5_3), (0), (by first | rfl | (simp; done) | (simp [*]; done)), H', ⟨Nat.le_refl _⟩, ⟨by (with_reducible repeat (first | apply Kd.N_alloc | apply Kd.N_drewN | apply Kd.N_drew)); exact HO_3.out⟩, ⟨by (with_reducible repeat (first | apply Kd.N_alloc | apply Kd.N_drewN | apply Kd.N_drew)); exact HO_5.out⟩, ⟨by repeat (first | (with_reducible first | exact HB.out | apply below_alloc | apply pw_below_drewN | apply below_drew1) | exact HB.out)⟩⟩
          case round =>
           clear H'
           try clear c1
           try clear p1
           try clear q1
           try clear hx1
           try clear qi1
           try clear c2
           try clear p2
           try clear c6
           try clear p6
           try clear c7
           try clear c7b0
           try clear c10
           try clear c10b0
           try clear c11
           try clear c11b0
           try clear c12
           try clear c12b0
           try clear c12b1
           try clear c13
           try clear c13b0
           try clear c13b1
           try clear c14
           try clear c15
           try clear p15
           try clear q15
           try clear hx15
           try clear qi15
           try clear c16
           try clear p16
           try clear q16
           try clear hx16
           try clear qi16
           try clear c22
           try clear c22b0
           try clear c23
           try clear c23b0
           try clear c24
           try clear c24b0
           try clear c24b1
           try clear c25
           try clear c25b0
           try clear c25b1
           try clear c26
           try clear hx150_0
           try clear hx151_0
           try clear hx152_0
           try clear hx153_0
           try clear hx160_0
           try clear hx161_0
           try clear hx162_0
           try clear hx163_0
           try clear p1
           try clear p15
           try clear p150
           try clear p151
           try clear p152
           try clear p153
           try clear p160
           try clear p161
           try clear p162
           try clear p163
           try clear p2
           try clear p6
           try clear q1
           try clear q15
           try clear q150
           try clear q151
           try clear q152
           try clear q153
           try clear q160
           try clear q161
           try clear q162
           try clear q163
           obtain ⟨x5_4, x8_4, rfl, HA, HK4, HO_3, HO_5, HB⟩ := hrel
           cases gk with
           | zero => exact absurd HA.out (by simp [spec_l09Hilbert.l3])
           | succ k4 =>
            have H := HA.out
            clear HA
            simp only [spec_l09Hilbert.l3] at H
            by_cases c32 : x8_4 < (x3_1.length : Int)
            ·rw [if_pos c32] at H
             have c32b0 : decide (x8_4 < (x3_1.length : Int)) = true := decide_eq_true c32
             clear c32
             by_cases c33 : 0 ≤ x8_4
             ·rw [if_pos c33] at H
              have c33b0 : decide (0 ≤ x8_4) = true := decide_eq_true c33
              clear c33
              by_cases c34 : 0 < ((rd_L1 x3_1 x8_4).length : Int)
              ·rw [if_pos c34] at H
               have c34b0 : decide (0 < ((rd_L1 x3_1 x8_4).length : Int)) = true := decide_eq_true c34
               have c34b1 : decide (0 < (rd_L1 x3_1 x8_4).length) = true := decide_eq_true (by omega)
               clear c34
               by_cases c35 : 1 < ((rd_L1 x3_1 x8_4).length : Int)
               ·rw [if_pos c35] at H
                have c35b0 : decide (1 < ((rd_L1 x3_1 x8_4).length : Int)) = true := decide_eq_true c35
                have c35b1 : decide (1 < (rd_L1 x3_1 x8_4).length) = true := decide_eq_true (by omega)
                clear c35
                obtain ⟨y174, hy174⟩ : ∃ y_ : List Int, y_ = (([wrap64 ((rd (rd_L1 x3_1 x8_4) 0) + x4_1), wrap64 ((rd (rd_L1 x3_1 x8_4) 1) + x4_1)] : List Int)) := ⟨_, rfl⟩
                replace H : (if x5_4.length < 5864062014805 then (spec_l09Hilbert.l3 k4 x0_1 x3_1 x4_1 (x5_4 ++ [y174]) (wrap64 (x8_4 + 1))) else (none)) = some r := by first | (rw [hy174]; with_reducible exact H) | (have H2_ := (Option.bind_some _ _).symm.trans H; rw [hy174]; with_reducible exact H2_) | (have H2_ := (Option.bind_some _ _).symm.trans H; with_reducible exact H2_) | with_reducible exact H | (rw [hy174]; exact H) | exact H
                have Ny174 := Aside0.mk hy174
                clear hy174
                by_cases c36 : x5_4.length < 5864062014805
                ·rw [if_pos c36] at H
                 have LMc36 := Aside0.mk c36
                 clear c36
                 obtain ⟨y177, hy177⟩ : ∃ y_ : List (List Int), y_ = (x5_4 ++ [y174]) := ⟨_, rfl⟩
                 replace H : (spec_l09Hilbert.l3 k4 x0_1 x3_1 x4_1 y177 (wrap64 (x8_4 + 1))) = some r := by first | (rw [hy177]; with_reducible exact H) | (have H2_ := (Option.bind_some _ _).symm.trans H; rw [hy177]; with_reducible exact H2_) | (have H2_ := (Option.bind_some _ _).symm.trans H; with_reducible exact H2_) | with_reducible exact H | (rw [hy177]; exact H) | exact H
                 have Ny177 := Aside0.mk hy177
                 clear hy177
                 have H' := Aside0.mk H
                 clear H
                 try go_wp2
                 have n0_ := Aside0.mk (Kd.N_drew HO_3.out)
                 have n1_ := Aside0.mk (Kd.N_drew HO_5.out)
                 have n2_ := Aside0.mk (below_drew1 HB.out)
                 clear HO_3
                 clear HO_5
                 clear HB
                 have HO_3 := n0_
                 have HO_5 := n1_
                 have HB := n2_
                 clear n0_ n1_ n2_
                 have p170 : 0 ≤ (x8_4 : Int) := of_decide_eq_true (by first | (with_reducible assumption) | assumption)
                 have q170 : x8_4 < (x3_1.length : Int) := of_decide_eq_true (by first | (with_reducible assumption) | assumption)
                 obtain ⟨ad170, A170_0, c170_0, e170, hx170_0, hl170_0, hi170_0⟩ := at_L1 (Kd.N_reads' HO_3.out).2.2 x8_4 p170 q170
                 cases e170
                 obtain ⟨ce170, hce170, hMe170, hcc170⟩ := Kd.N_get HO_3.out [] x8_4 p170 (by first | exact q170 | exact of_decide_eq_true (by first | (with_reducible assumption) | assumption) | (have e_ := (Kd.N_reads' HO_3.out).1; omega))
                 obtain ⟨ua170_0, uc170_0, rfl, ul170_0, ge170_0⟩ := Kd.FK_slice_open hMe170
                 have hv170_0 := hcc170 0 _ rfl
                 rw [Nat.add_zero, show ((Kd.slice 2 (Kd.int .i64))).sz = 1 from rfl, Nat.mul_one] at hv170_0
                 replace hv170_0 := Option.some.inj (hv170_0.symm.trans hx170_0)
                 injection hv170_0 with hva_ hvn_ hvc_
                 rw [hva_] at ge170_0
                 rw [hvc_] at ul170_0
                 have HL170_0 := Aside0.mk (show Kd.V (Kd.int .i64) 2 _ w.heap.size _ _ (rd_L1 x3_1 x8_4) from Kd.V_mk ul170_0 ge170_0)
                 clear hva_ hvn_ hvc_ ge170_0 ul170_0
                 clear hcc170 hce170
                 have HR170_0 := Aside0.mk hi170_0
                 have HC170_0 := Aside0.mk hl170_0
                 clear hi170_0 hl170_0
                 replace p170 := eq_true p170
                 replace q170 := eq_true q170
                 have p171 : 0 ≤ (0 : Int) := (by omega)
                 have q171 : 0 < ((rd_L1 x3_1 x8_4).length : Int) := of_decide_eq_true (by first | (with_reducible assumption) | assumption)
                 obtain ⟨ad171, e171, hx171_0⟩ := Kd.at_int (by repeat (first | (with_reducible exact HR170_0.out) | (with_reducible refine Kd.C_alloc ?_ _) | (with_reducible refine Kd.C_drewN ?_ _) | (with_reducible refine Kd.C_drew ?_) | exact HR170_0.out)) 0 p171 q171
                 cases e171
                 have qi171 : (0 < (rd_L1 x3_1 x8_4).length) = True := eq_true (by omega)
                 (try rw [show ((0 : Int)).toNat = 0 from rfl] at hx171_0)
                 (try rw [Addr.add_zero'] at hx171_0)
                 replace p171 := eq_true p171
                 replace q171 := eq_true q171
                 have p172 : 0 ≤ (x8_4 : Int) := of_decide_eq_true (by first | (with_reducible assumption) | assumption)
                 have q172 : x8_4 < (x3_1.length : Int) := of_decide_eq_true (by first | (with_reducible assumption) | assumption)
                 obtain ⟨ad172, A172_0, c172_0, e172, hx172_0, hl172_0, hi172_0⟩ := at_L1 (Kd.N_reads' HO_3.out).2.2 x8_4 p172 q172
                 obtain rfl : ad170 = ad172 := (by injection e172)
                 obtain ⟨ce172, hce172, hMe172, hcc172⟩ := Kd.N_get HO_3.out [] x8_4 p172 (by first | exact q172 | exact of_decide_eq_true (by first | (with_reducible assumption) | assumption) | (have e_ := (Kd.N_reads' HO_3.out).1; omega))
                 obtain ⟨ua172_0, uc172_0, rfl, ul172_0, ge172_0⟩ := Kd.FK_slice_open hMe172
                 have hv172_0 := hcc172 0 _ rfl
                 rw [Nat.add_zero, show ((Kd.slice 2 (Kd.int .i64))).sz = 1 from rfl, Nat.mul_one] at hv172_0
                 replace hv172_0 := Option.some.inj (hv172_0.symm.trans hx172_0)
                 injection hv172_0 with hva_ hvn_ hvc_
                 rw [hva_] at ge172_0
                 rw [hvc_] at ul172_0
                 have HL172_0 := Aside0.mk (show Kd.V (Kd.int .i64) 2 _ w.heap.size _ _ (rd_L1 x3_1 x8_4) from Kd.V_mk ul172_0 ge172_0)
                 clear hva_ hvn_ hvc_ ge172_0 ul172_0
                 clear hcc172 hce172
                 have HR172_0 := Aside0.mk hi172_0
                 have HC172_0 := Aside0.mk hl172_0
                 clear hi172_0 hl172_0
                 replace p172 := eq_true p172
                 replace q172 := eq_true q172
                 have ea_ := Option.some.inj (hx170_0.symm.trans hx172_0)
                 injection ea_ with ea_ en_ ec_
                 subst ea_
                 subst ec_
                 clear en_
                 have p173 : 0 ≤ (1 : Int) := (by omega)
                 have q173 : 1 < ((rd_L1 x3_1 x8_4).length : Int) := of_decide_eq_true (by first | (with_reducible assumption) | assumption)
                 obtain ⟨ad173, e173, hx173_0⟩ := Kd.at_int (by repeat (first | (with_reducible exact HR172_0.out) | (with_reducible refine Kd.C_alloc ?_ _) | (with_reducible refine Kd.C_drewN ?_ _) | (with_reducible refine Kd.C_drew ?_) | exact HR172_0.out)) 1 p173 q173
                 cases e173
                 (try simp only [show (1 : Int).toNat = 1 from rfl, Nat.reduceMul, Nat.reduceEqDiff, Go.Addr.add, ↓reduceIte] at hx173_0)
                 have qi173 : (1 < (rd_L1 x3_1 x8_4).length) = True := eq_true (by omega)
                 (try rw [show ((1 : Int)).toNat = 1 from rfl] at hx173_0)
                 replace p173 := eq_true p173
                 replace q173 := eq_true q173
                 refine start_ (n := 21) (S := fun w' => w'.cell? (ad170.add (x8_4).toNat) = some (.slice (some ad171) (rd_L1 x3_1 x8_4).length c170_0) ∧ w'.cell? ad171 = some (.int .i64 (rd (rd_L1 x3_1 x8_4) 0)) ∧ w'.cell? (ad170.add (x8_4).toNat) = some (.slice (some ad171) (rd_L1 x3_1 x8_4).length c170_0) ∧ w'.cell? ⟨ad171.block, ad171.off + 1, none⟩ = some (.int .i64 (rd (rd_L1 x3_1 x8_4) 1))) (ds := [18, 19]) #[false, false, false, false, false, false, false, false, false, false, false, false, false, false, false, false, false, false, false, false, false] (by kernel_rfl) rfl rfl ⟨hx170_0, hx171_0, hx172_0, hx173_0⟩ (fun hHeld => ?_); refine with_tabW spec_l09Hilbert.tab17 spec_l09Hilbert.bits17 (fun HT_ HW_ => ?_)
                 generalize wr.drew = w37 at HO_3 HO_5 HB HL170_0 HL172_0 HR170_0 HR172_0 hx170_0 hx171_0 hx172_0 hx173_0 hHeld ⊢
                 refine pure_ (i := 0) (N := some 69) (v := ?_) (a' := ?_) #[true, false, false, false, false, false, false, false, false, false, false, false, false, false, false, false, false, false, false, false, false] rfl rfl (any_of HT_.out (by kernel_rfl)) (fun _ _ _ h => h) (Or.inl ⟨by rfl, ?_⟩) ?_ ?_
                 rotate_left
                 ·intro w'
                  go_simp
                  with_reducible rfl
                 rotate_left
                 ·simp only [Act.put, List.setIfInBounds_toArray, List.set_cons_zero, List.set_cons_succ, i64_w, i32_w]
                  rfl
                 refine pure_ (i := 1) (N := some 70) (v := ?_) (a' := ?_) #[true, true, false, false, false, false, false, false, false, false, false, false, false, false, false, false, false, false, false, false, false] rfl rfl (any_of HT_.out (by kernel_rfl)) (fun _ _ _ h => h) (Or.inl ⟨by rfl, ?_⟩) ?_ ?_
                 rotate_left
                 ·intro w'
                  go_simp
                  with_reducible rfl
                 rotate_left
                 ·simp only [Act.put, List.setIfInBounds_toArray, List.set_cons_zero, List.set_cons_succ, i64_w, i32_w]
                  rfl
                 refine pure_ (i := 2) (N := some 71) (v := ?_) (a' := ?_) #[true, true, true, false, false, false, false, false, false, false, false, false, false, false, false, false, false, false, false, false, false] rfl rfl (any_of HT_.out (by kernel_rfl)) (fun _ _ _ h => h) (Or.inl ⟨by rfl, ?_⟩) ?_ ?_
                 rotate_left
                 ·intro w'
                  go_simp
                  with_reducible rfl
                 rotate_left
                 ·simp only [Act.put, List.setIfInBounds_toArray, List.set_cons_zero, List.set_cons_succ, i64_w, i32_w]
                  rfl
                 refine pure_ (i := 3) (N := some 72) (v := ?_) (a' := ?_) #[true, true, true, true, false, false, false, false, false, false, false, false, false, false, false, false, false, false, false, false, false] rfl rfl (any_of HT_.out (by kernel_rfl)) (fun _ _ _ h => h) (Or.inl ⟨by rfl, ?_⟩) ?_ ?_
                 rotate_left
                 ·intro w'
                  go_simp
                  with_reducible rfl
                 rotate_left
                 ·simp only [Act.put, List.setIfInBounds_toArray, List.set_cons_zero, List.set_cons_succ, i64_w, i32_w]
                  rfl
                 refine pure_ (i := 7) (N := some 76) (v := ?_) (a' := ?_) #[true, true, true, true, false, false, false, true, false, false, false, false, false, false, false, false, false, false, false, false, false] rfl rfl (any_of HT_.out (by kernel_rfl)) (fun _ _ _ h => h) (Or.inl ⟨by rfl, ?_⟩) ?_ ?_
                 rotate_left
                 ·intro w'
                  go_simp
                  with_reducible rfl
                 rotate_left
                 ·simp only [Act.put, List.setIfInBounds_toArray, List.set_cons_zero, List.set_cons_succ, i64_w, i32_w]
                  rfl
                 refine pure_ (i := 9) (N := some 78) (v := ?_) (a' := ?_) #[true, true, true, true, false, false, false, true, false, true, false, false, false, false, false, false, false, false, false, false, false] rfl rfl (any_of HT_.out (by kernel_rfl)) (fun _ _ _ h => h) (Or.inl ⟨by rfl, ?_⟩) ?_ ?_
                 rotate_left
                 ·intro w'
                  go_simp
                  with_reducible rfl
                 rotate_left
                 ·simp only [Act.put, List.setIfInBounds_toArray, List.set_cons_zero, List.set_cons_succ, i64_w, i32_w]
                  rfl
                 refine pure_ (i := 10) (N := some 79) (v := ?_) (a' := ?_) #[true, true, true, true, false, false, false, true, false, true, true, false, false, false, false, false, false, false, false, false, false] rfl rfl (any_of HT_.out (by kernel_rfl)) (fun _ _ _ h => h) (Or.inl ⟨by rfl, ?_⟩) ?_ ?_
                 rotate_left
                 ·intro w'
                  go_simp
                  with_reducible rfl
                 rotate_left
                 ·simp only [Act.put, List.setIfInBounds_toArray, List.set_cons_zero, List.set_cons_succ, i64_w, i32_w]
                  rfl
                 refine pure_ (i := 11) (N := some 80) (v := ?_) (a' := ?_) #[true, true, true, true, false, false, false, true, false, true, true, true, false, false, false, false, false, false, false, false, false] rfl rfl (any_of HT_.out (by kernel_rfl)) (fun _ _ _ h => h) (Or.inl ⟨by rfl, ?_⟩) ?_ ?_
                 rotate_left
                 ·intro w'
                  go_simp
                  with_reducible rfl
                 rotate_left
                 ·simp only [Act.put, List.setIfInBounds_toArray, List.set_cons_zero, List.set_cons_succ, i64_w, i32_w]
                  rfl
                 refine pure_ (i := 15) (N := some 84) (v := ?_) (a' := ?_) #[true, true, true, true, false, false, false, true, false, true, true, true, false, false, false, true, false, false, false, false, false] rfl rfl (any_of HT_.out (by kernel_rfl)) (fun _ _ _ h => h) (Or.inl ⟨by rfl, ?_⟩) ?_ ?_
                 rotate_left
                 ·intro w'
                  go_simp
                  with_reducible rfl
                 rotate_left
                 ·simp only [Act.put, List.setIfInBounds_toArray, List.set_cons_zero, List.set_cons_succ, i64_w, i32_w]
                  rfl
                 refine take_ (i := 4) (N := some 73) (v := ?_) (a' := ?_) #[true, true, true, true, true, false, false, true, false, true, true, true, false, false, false, true, false, false, false, false, false] rfl rfl (take_ofW HT_.out HW_.out (by kernel_rfl)) (fun _ _ _ h => h) (Or.inl ⟨by rfl, ?_⟩) hHeld ?_ ?_
                 rotate_left
                 ·rintro w' ⟨s0, s1, s2, s3⟩
                  go_simp
                  with_reducible rfl
                 rotate_left
                 ·simp only [Act.put, List.setIfInBounds_toArray, List.set_cons_zero, List.set_cons_succ, i64_w, i32_w]
                  rfl
                 refine pure_ (i := 5) (N := some 74) (v := ?_) (a' := ?_) #[true, true, true, true, true, true, false, true, false, true, true, true, false, false, false, true, false, false, false, false, false] rfl rfl (any_of HT_.out (by kernel_rfl)) (fun _ _ _ h => h) (Or.inl ⟨by rfl, ?_⟩) ?_ ?_
                 rotate_left
                 ·intro w'
                  go_simp
                  with_reducible rfl
                 rotate_left
                 ·simp only [Act.put, List.setIfInBounds_toArray, List.set_cons_zero, List.set_cons_succ, i64_w, i32_w]
                  rfl
                 refine take_ (i := 6) (N := some 75) (v := ?_) (a' := ?_) #[true, true, true, true, true, true, true, true, false, true, true, true, false, false, false, true, false, false, false, false, false] rfl rfl (take_ofW HT_.out HW_.out (by kernel_rfl)) (fun _ _ _ h => h) (Or.inl ⟨by rfl, ?_⟩) hHeld ?_ ?_
                 rotate_left
                 ·rintro w' ⟨s0, s1, s2, s3⟩
                  go_simp
                  with_reducible rfl
                 rotate_left
                 ·simp only [Act.put, List.setIfInBounds_toArray, List.set_cons_zero, List.set_cons_succ, i64_w, i32_w]
                  rfl
                 refine pure_ (i := 8) (N := some 77) (v := ?_) (a' := ?_) #[true, true, true, true, true, true, true, true, true, true, true, true, false, false, false, true, false, false, false, false, false] rfl rfl (any_of HT_.out (by kernel_rfl)) (fun _ _ _ h => h) (Or.inl ⟨by rfl, ?_⟩) ?_ ?_
                 rotate_left
                 ·intro w'
                  go_simp
                  with_reducible rfl
                 rotate_left
                 ·simp only [Act.put, List.setIfInBounds_toArray, List.set_cons_zero, List.set_cons_succ, i64_w, i32_w]
                  rfl
                 refine take_ (i := 12) (N := some 81) (v := ?_) (a' := ?_) #[true, true, true, true, true, true, true, true, true, true, true, true, true, false, false, true, false, false, false, false, false] rfl rfl (take_ofW HT_.out HW_.out (by kernel_rfl)) (fun _ _ _ h => h) (Or.inl ⟨by rfl, ?_⟩) hHeld ?_ ?_
                 rotate_left
                 ·rintro w' ⟨s0, s1, s2, s3⟩
                  go_simp
                  with_reducible rfl
                 rotate_left
                 ·simp only [Act.put, List.setIfInBounds_toArray, List.set_cons_zero, List.set_cons_succ, i64_w, i32_w]
                  rfl
                 refine pure_ (i := 13) (N := some 82) (v := ?_) (a' := ?_) #[true, true, true, true, true, true, true, true, true, true, true, true, true, true, false, true, false, false, false, false, false] rfl rfl (any_of HT_.out (by kernel_rfl)) (fun _ _ _ h => h) (Or.inl ⟨by rfl, ?_⟩) ?_ ?_
                 rotate_left
                 ·intro w'
                  go_simp
                  with_reducible rfl
                 rotate_left
                 ·simp only [Act.put, List.setIfInBounds_toArray, List.set_cons_zero, List.set_cons_succ, i64_w, i32_w]
                  rfl
                 refine take_ (i := 14) (N := some 83) (v := ?_) (a' := ?_) #[true, true, true, true, true, true, true, true, true, true, true, true, true, true, true, true, false, false, false, false, false] rfl rfl (take_ofW HT_.out HW_.out (by kernel_rfl)) (fun _ _ _ h => h) (Or.inl ⟨by rfl, ?_⟩) hHeld ?_ ?_
                 rotate_left
                 ·rintro w' ⟨s0, s1, s2, s3⟩
                  go_simp
                  with_reducible rfl
                 rotate_left
                 ·simp only [Act.put, List.setIfInBounds_toArray, List.set_cons_zero, List.set_cons_succ, i64_w, i32_w]
                  rfl
                 refine pure_ (i := 16) (N := some 85) (v := ?_) (a' := ?_) #[true, true, true, true, true, true, true, true, true, true, true, true, true, true, true, true, true, false, false, false, false] rfl rfl (any_of HT_.out (by kernel_rfl)) (fun _ _ _ h => h) (Or.inl ⟨by rfl, ?_⟩) ?_ ?_
                 rotate_left
                 ·intro w'
                  go_simp
                  with_reducible rfl
                 rotate_left
                 ·simp only [Act.put, List.setIfInBounds_toArray, List.set_cons_zero, List.set_cons_succ, i64_w, i32_w]
                  rfl
                 refine one_ (i := 17) (N := some 86) #[true, true, true, true, true, true, true, true, true, true, true, true, true, true, true, true, true, true, false, false, false] rfl rfl (one_of HT_.out (by kernel_rfl)) (by decide) (fun K hK => ?_)
                 refine Kd.R_lit_step (Kd.int .i64) _ 2 ?hg (N := 86) ?hd (xs := ([wrap64 ((rd (rd_L1 x3_1 x8_4) 0) + x4_1), wrap64 ((rd (rd_L1 x3_1 x8_4) 1) + x4_1)] : List Int)) (inner := [.int .i64 (wrap64 ((rd (rd_L1 x3_1 x8_4) 0) + x4_1)), .int .i64 (wrap64 ((rd (rd_L1 x3_1 x8_4) 1) + x4_1))]) (ok := fun _ => True) (okp := fun _ => True) ?hr ?hp (fun _ hk => hk) trivial (Below.refl _ _) (Nat.le_refl _) (by simp) ?_; (case hd => rfl); (case hg => rfl); (case hr => first | (go_simp; done) | (go_simp; rfl)); (case hp => exact (Reps.one (show Kd.M (Kd.int .i64) _ _ _ (wrap64 ((rd (rd_L1 x3_1 x8_4) 0) + x4_1)) [.int .i64 (wrap64 ((rd (rd_L1 x3_1 x8_4) 0) + x4_1))] from rfl) (Reps.one (show Kd.M (Kd.int .i64) _ _ _ (wrap64 ((rd (rd_L1 x3_1 x8_4) 1) + x4_1)) [.int .i64 (wrap64 ((rd (rd_L1 x3_1 x8_4) 1) + x4_1))] from rfl) (Reps.none _ _))))
                 intro v175 w38 ho39 hb hg_ hnew_
                 have HS0_ := (hb.cell (World.block_lt_of_cell? _ _ (hHeld.1))).trans (hHeld.1)
                 have HS1_ := (hb.cell (World.block_lt_of_cell? _ _ (hHeld.2.1))).trans (hHeld.2.1)
                 have HS2_ := (hb.cell (World.block_lt_of_cell? _ _ (hHeld.2.2.1))).trans (hHeld.2.2.1)
                 have HS3_ := (hb.cell (World.block_lt_of_cell? _ _ (hHeld.2.2.2))).trans (hHeld.2.2.2)
                 clear hg_ hnew_
                 (first | rw [← Ny174.out] at ho39 | (simp only [Int.reduceToNat] at ho39; rw [← Ny174.out] at ho39))
                 have n0_ := Aside0.mk (Kd.N_elder' (by (with_reducible repeat (first | apply Kd.N_alloc | apply Kd.N_drewN | apply Kd.N_drew)); exact HO_3.out) (Kd.R_base ho39) hb)
                 have n1_ := Aside0.mk (Kd.N_elder' (by (with_reducible repeat (first | apply Kd.N_alloc | apply Kd.N_drewN | apply Kd.N_drew)); exact HO_5.out) (Kd.R_base ho39) hb)
                 have n2_ := Aside0.mk (Kd.V_elder' (by (with_reducible repeat (first | apply Kd.V_alloc | apply Kd.V_drewN | apply Kd.V_drew)); exact HL170_0.out) (Kd.R_base ho39) hb)
                 have n3_ := Aside0.mk (Kd.V_elder' (by (with_reducible repeat (first | apply Kd.V_alloc | apply Kd.V_drewN | apply Kd.V_drew)); exact HL172_0.out) (Kd.R_base ho39) hb)
                 have n4_ := Aside0.mk (Kd.R_lower (Kd.R_newM (M := fun k_ => (w.heap.size ≤ k_)) ho39 (below_size (by repeat (first | (with_reducible first | exact HB.out | apply below_alloc | apply pw_below_drewN | apply below_drew1) | exact HB.out))) (fun k_ h_ => h_)) (below_size (by repeat (first | (with_reducible first | exact HB.out | apply below_alloc | apply pw_below_drewN | apply below_drew1) | exact HB.out))))
                 have n5_ := Aside0.mk (Kd.C_below (by repeat (first | (with_reducible exact HR170_0.out) | (with_reducible refine Kd.C_alloc ?_ _) | (with_reducible refine Kd.C_drewN ?_ _) | (with_reducible refine Kd.C_drew ?_) | exact HR170_0.out)) hb)
                 have n6_ := Aside0.mk (Kd.C_below (by repeat (first | (with_reducible exact HR172_0.out) | (with_reducible refine Kd.C_alloc ?_ _) | (with_reducible refine Kd.C_drewN ?_ _) | (with_reducible refine Kd.C_drew ?_) | exact HR172_0.out)) hb)
                 have n7_ := Aside0.mk (below_step (by repeat (first | (with_reducible first | exact HB.out | apply below_alloc | apply pw_below_drewN | apply below_drew1) | exact HB.out)) hb)
                 clear HO_3
                 clear HO_5
                 clear HL170_0
                 clear HL172_0
                 clear HR170_0
                 clear HR172_0
                 clear HB
                 have HO_3 := n0_
                 have HO_5 := n1_
                 have HL170_0 := n2_
                 have HL172_0 := n3_
                 have HO176 := n4_
                 have HR170_0 := n5_
                 have HR172_0 := n6_
                 have HB := n7_
                 clear n0_ n1_ n2_ n3_ n4_ n5_ n6_ n7_
                 clear hb ho39
                 obtain ⟨Ao41, co41, eo41⟩ := Kd.R_slice HO176.out
                 (first | subst eo41 | (injection eo41 with f1_ f2_ f3_; have f4_ := f1_.symm; have f5_ := f3_.symm; clear f1_ f2_ f3_; subst f4_; subst f5_))
                 refine hK.out _ _ ⟨HS0_, HS1_, HS2_, HS3_⟩ (fun hHeld => ?_)
                 clear hK K
                 refine norm_ (a' := ?_) ?_ ?_
                 rotate_left
                 ·show Act.put _ (some 86) _ = _
                  simp only [Act.put, List.setIfInBounds_toArray, List.set_cons_zero, List.set_cons_succ, i64_w, i32_w]
                  rfl
                 refine last_ (i := 18) (N := some 87) #[true, true, true, true, true, true, true, true, true, true, true, true, true, true, true, true, true, true, true, false, false] rfl rfl (one_of HT_.out (by kernel_rfl)) (by decide) (fun K hK => ?_)
                 refine value_ (w1 := ?_) (v := ?_) (by rfl) rfl ?_ ?_
                 rotate_left 2
                 ·go_simp
                  constructor
                  ·rfl
                  ·rfl
                 refine hK.out _ _ ?_
                 clear hK K
                 refine norm_ (a' := ?_) ?_ ?_
                 rotate_left
                 ·show Act.put _ (some 87) _ = _
                  simp only [Act.put, List.setIfInBounds_toArray, List.set_cons_zero, List.set_cons_succ, i64_w, i32_w]
                  rfl
                 refine last_ (i := 19) (N := some 88) #[true, true, true, true, true, true, true, true, true, true, true, true, true, true, true, true, true, true, true, true, false] rfl rfl (one_of HT_.out (by kernel_rfl)) (by decide) (fun K hK => ?_)
                 refine Kd.N_append_step (Kd.slice 2 (Kd.int .i64)) (w0 := w) w.heap.size (by rfl) (.tmp 69) (.tmp 87) 22 34 (.slice none 0 0) 24 rfl Try.underlying22 info34 rfl (by decide) (by omega) u5 x5_4 y174 [.slice Ao41 y174.length co41] (fun k_ => (w.heap.size ≤ k_) ∧ some k_ ≠ (.slice (some ad170) x3_1.length co21 : Value).ownBlock) (fun k_ => ((fun k_ => (w.heap.size ≤ k_) ∧ some k_ ≠ (.slice (some ad170) x3_1.length co21 : Value).ownBlock)) k_ ∧ some k_ ≠ (u5 : Value).ownBlock) rfl rfl ?aP (fun _ hk => hk) ?aF ?aO ?aB ?aS ?aL ?_
                 (case aP => exact (Kd.FK_slice_mk (Kd.R_reads' (Kd.R_mono (ok' := (fun k_ => ((fun k_ => (w.heap.size ≤ k_) ∧ some k_ ≠ (.slice (some ad170) x3_1.length co21 : Value).ownBlock)) k_ ∧ some k_ ≠ (u5 : Value).ownBlock)) (Kd.R_apart' (Kd.R_apart' (HO176.out) (Kd.N_typed HO_3.out) (by decide)) (Kd.N_typed HO_5.out) (by decide)) (fun k_ hk => ⟨⟨hk.1.1.1, hk.1.2⟩, hk.2⟩))).2.1 (Kd.R_F (Kd.R_mono (ok' := (fun k_ => ((fun k_ => (w.heap.size ≤ k_) ∧ some k_ ≠ (.slice (some ad170) x3_1.length co21 : Value).ownBlock)) k_ ∧ some k_ ≠ (u5 : Value).ownBlock)) (Kd.R_apart' (Kd.R_apart' (HO176.out) (Kd.N_typed HO_3.out) (by decide)) (Kd.N_typed HO_5.out) (by decide)) (fun k_ hk => ⟨⟨hk.1.1.1, hk.1.2⟩, hk.2⟩)))))
                 (case aB => exact (by repeat (first | (with_reducible first | exact HB.out | apply below_alloc | apply pw_below_drewN | apply below_drew1) | exact HB.out)))
                 (case aF => exact (fun k_ hk => ⟨(Nat.le_trans (below_size (by repeat (first | (with_reducible first | exact HB.out | apply below_alloc | apply pw_below_drewN | apply below_drew1) | exact HB.out))) hk), Kd.fresh' (Kd.N_lt (by (with_reducible repeat (first | apply Kd.N_alloc | apply Kd.N_drewN | apply Kd.N_drew)); exact HO_3.out)) k_ hk⟩))
                 (case aO => exact (by (with_reducible repeat (first | apply Kd.N_alloc | apply Kd.N_drewN | apply Kd.N_drew)); exact Kd.N_mono HO_5.out (fun _ hk => ⟨hk.1.1, hk.1.2⟩)))
                 (case aS => exact (below_size (by repeat (first | (with_reducible first | exact HB.out | apply below_alloc | apply pw_below_drewN | apply below_drew1) | exact HB.out))))
                 (case aL => have := LMc36.out; omega)
                 intro v178 w40 ho hb hg hat
                 rw [← Ny177.out] at ho
                 have n0_ := Aside0.mk (Kd.N_afterv (ok := (fun k_ => (w.heap.size ≤ k_) ∧ some k_ ≠ (.slice Ao41 y174.length co41 : Value).ownBlock)) (by (with_reducible repeat (first | apply Kd.N_alloc | apply Kd.N_drewN | apply Kd.N_drew)); exact Kd.N_mono HO_3.out (fun _ hk => ⟨⟨hk.1.1, hk.2⟩, hk.1.2⟩)) hg hat)
                 have n1_ := Aside0.mk (Kd.V_afterv (ok := (fun k_ => (w.heap.size ≤ k_) ∧ some k_ ≠ (.slice (some ad170) x3_1.length co21 : Value).ownBlock ∧ some k_ ≠ (.slice Ao41 y174.length co41 : Value).ownBlock)) (by (with_reducible repeat (first | apply Kd.V_alloc | apply Kd.V_drewN | apply Kd.V_drew)); exact Kd.V_mono HL170_0.out (fun _ hk => ⟨⟨hk.1.1.1, ⟨hk.1.2, hk.2⟩⟩, hk.1.1.2⟩)) hg hat)
                 have n2_ := Aside0.mk (Kd.V_afterv (ok := (fun k_ => (w.heap.size ≤ k_) ∧ some k_ ≠ (.slice (some ad170) x3_1.length co21 : Value).ownBlock ∧ some k_ ≠ (.slice Ao41 y174.length co41 : Value).ownBlock)) (by (with_reducible repeat (first | apply Kd.V_alloc | apply Kd.V_drewN | apply Kd.V_drew)); exact Kd.V_mono HL172_0.out (fun _ hk => ⟨⟨hk.1.1.1, ⟨hk.1.2, hk.2⟩⟩, hk.1.1.2⟩)) hg hat)
                 have n3_ := Aside0.mk (hb)
                 have n4_ := Aside0.mk (ho)
                 clear HO_3
                 clear HL170_0
                 clear HL172_0
                 clear HB
                 clear HO_5
                 clear HO176
                 have HO_3 := n0_
                 have HL170_0 := n1_
                 have HL172_0 := n2_
                 have HB := n3_
                 have HO179 := n4_
                 clear n0_ n1_ n2_ n3_ n4_
                 clear ho hb hg hat
                 refine hK.out _ _ ?_
                 clear hK K
                 refine norm_ (a' := ?_) ?_ ?_
                 rotate_left
                 ·show Act.put _ (some 88) _ = _
                  simp only [Act.put, List.setIfInBounds_toArray, List.set_cons_zero, List.set_cons_succ, i64_w, i32_w]
                  rfl
                 refine pure_ (i := 20) (N := some 5) (v := ?_) (a' := ?_) #[true, true, true, true, true, true, true, true, true, true, true, true, true, true, true, true, true, true, true, true, true] rfl rfl (any_of HT_.out (by kernel_rfl)) (fun _ _ _ h => h) (Or.inl ⟨by rfl, ?_⟩) ?_ ?_
                 rotate_left
                 ·intro w'
                  go_simp
                  with_reducible rfl
                 rotate_left
                 ·simp only [Act.put, List.setIfInBounds_toArray, List.set_cons_zero, List.set_cons_succ, i64_w, i32_w]
                  rfl
                 refine done_ (done_of HT_.out (by kernel_rfl)) ?_
                 try go_wp2
                 go_roundg k4
                 case measure => have := HK1.out; have := HK2.out; have := HK3.out; have := HK4.out; omega
                 case rel => exact ⟨(y177), (wrap64 (x8_4 + 1)), (by first | rfl | (simp; done) | (simp [*]; done)), H', ⟨by have := HK1.out; have := HK2.out; have := HK3.out; have := HK4.out; omega⟩, ⟨by (with_reducible repeat (first | apply Kd.N_alloc | apply Kd.N_drewN | apply Kd.N_drew)); exact Kd.N_mono HO_3.out (fun _ hk => ⟨hk.1.1, hk.2⟩)⟩, ⟨by (with_reducible repeat (first | apply Kd.N_alloc | apply Kd.N_drewN | apply Kd.N_drew)); exact HO179.out⟩, ⟨by repeat (first | (with_reducible first | exact HB.out | apply below_alloc | apply pw_below_drewN | apply below_drew1) | exact HB.out)⟩⟩
                ·rw [if_neg c36] at H
                 exact absurd H (by simp)
               ·rw [if_neg c35] at H
                exact absurd H (by simp)
              ·rw [if_neg c34] at H
               exact absurd H (by simp)
             ·rw [if_neg c33] at H
              exact absurd H (by simp)
            ·rw [if_neg c32] at H
             have c32b0 : decide (x8_4 < (x3_1.length : Int)) = false := decide_eq_false c32
             clear c32
             have H' := Aside0.mk H
             clear H
             go_wp2
             go_loopg [5, 9] k4 (fun kq v5 v9 w' => ∃ (x5_5 : List (List Int)) (x9_5 : Int), v9 = .int .i64 x9_5 ∧ Aside0 (spec_l09Hilbert.l4 kq x0_1 x3_1 x4_1 x5_5 x9_5 = some r) ∧ Aside0 (kq ≤ k4) ∧ Aside0 (Kd.N (Kd.slice 2 (Kd.int .i64)) 34 w' w.heap.size (fun k_ => (w.heap.size ≤ k_) ∧ some k_ ≠ (v5 : Value).ownBlock) (.slice Ao21 x3_1.length co21) x3_1) ∧ Aside0 (Kd.N (Kd.slice 2 (Kd.int .i64)) 34 w' w.heap.size (fun k_ => (w.heap.size ≤ k_) ∧ some k_ ≠ ((.slice Ao21 x3_1.length co21) : Value).ownBlock) v5 x5_5) ∧ Aside0 (Below w.heap.size w w'))
             case atStart => exact ⟨(x5_4), (0), (by first | rfl | (simp; done) | (simp [*]; done)), H', ⟨Nat.le_refl _⟩, ⟨by (with_reducible repeat (first | apply Kd.N_alloc | apply Kd.N_drewN | apply Kd.N_drew)); exact HO_3.out⟩, ⟨by (with_reducible repeat (first | apply Kd.N_alloc | apply Kd.N_drewN | apply Kd.N_drew)); exact HO_5.out⟩, ⟨by repeat (first | (with_reducible first | exact HB.out | apply below_alloc | apply pw_below_drewN | apply below_drew1) | exact HB.out)⟩⟩
             case round =>
              clear H'
              try clear c1
              try clear p1
              try clear q1
              try clear hx1
              try clear qi1
              try clear c2
              try clear p2
              try clear c3
              try clear c6
              try clear p6
              try clear c7
              try clear c7b0
              try clear c10
              try clear c10b0
              try clear c11
              try clear c11b0
              try clear c12
              try clear c12b0
              try clear c12b1
              try clear c13
              try clear c13b0
              try clear c13b1
              try clear c14
              try clear c15
              try clear p15
              try clear q15
              try clear hx15
              try clear qi15
              try clear c16
              try clear p16
              try clear q16
              try clear hx16
              try clear qi16
              try clear c17
              try clear p17
              try clear q17
              try clear hx17
              try clear qi17
              try clear c22
              try clear c22b0
              try clear c23
              try clear c23b0
              try clear c24
              try clear c24b0
              try clear c24b1
              try clear c25
              try clear c25b0
              try clear c25b1
              try clear c26
              try clear c32
              try clear c32b0
              try clear c33
              try clear c33b0
              try clear c34
              try clear c34b0
              try clear c34b1
              try clear c35
              try clear c35b0
              try clear c35b1
              try clear c36
              try clear hx150_0
              try clear hx151_0
              try clear hx152_0
              try clear hx153_0
              try clear hx160_0
              try clear hx161_0
              try clear hx162_0
              try clear hx163_0
              try clear hx170_0
              try clear hx171_0
              try clear hx172_0
              try clear hx173_0
              try clear p1
              try clear p15
              try clear p150
              try clear p151
              try clear p152
              try clear p153
              try clear p16
              try clear p160
              try clear p161
              try clear p162
              try clear p163
              try clear p170
              try clear p171
              try clear p172
              try clear p173
              try clear p2
              try clear p6
              try clear q1
              try clear q15
              try clear q150
              try clear q151
              try clear q152
              try clear q153
              try clear q16
              try clear q160
              try clear q161
              try clear q162
              try clear q163
              try clear q170
              try clear q171
              try clear q172
              try clear q173
              obtain ⟨x5_5, x9_5, rfl, HA, HK5, HO_3, HO_5, HB⟩ := hrel
              cases gk with
              | zero => exact absurd HA.out (by simp [spec_l09Hilbert.l4])
              | succ k5 =>
               have H := HA.out
               clear HA
               simp only [spec_l09Hilbert.l4] at H
               by_cases c42 : x9_5 < (x3_1.length : Int)
               ·rw [if_pos c42] at H
                have c42b0 : decide (x9_5 < (x3_1.length : Int)) = true := decide_eq_true c42
                clear c42
                by_cases c43 : 0 ≤ x9_5
                ·rw [if_pos c43] at H
                 have c43b0 : decide (0 ≤ x9_5) = true := decide_eq_true c43
                 clear c43
                 by_cases c44 : 1 < ((rd_L1 x3_1 x9_5).length : Int)
                 ·rw [if_pos c44] at H
                  have c44b0 : decide (1 < ((rd_L1 x3_1 x9_5).length : Int)) = true := decide_eq_true c44
                  have c44b1 : decide (1 < (rd_L1 x3_1 x9_5).length) = true := decide_eq_true (by omega)
                  clear c44
                  by_cases c45 : 0 < ((rd_L1 x3_1 x9_5).length : Int)
                  ·rw [if_pos c45] at H
                   have c45b0 : decide (0 < ((rd_L1 x3_1 x9_5).length : Int)) = true := decide_eq_true c45
                   have c45b1 : decide (0 < (rd_L1 x3_1 x9_5).length) = true := decide_eq_true (by omega)
                   clear c45
                   obtain ⟨y184, hy184⟩ : ∃ y_ : List Int, y_ = (([wrap64 ((wrap64 ((wrap64 (2 * x4_1)) - 1)) - (rd (rd_L1 x3_1 x9_5) 1)), wrap64 ((wrap64 (x4_1 - 1)) - (rd (rd_L1 x3_1 x9_5) 0))] : List Int)) := ⟨_, rfl⟩
                   replace H : (if x5_5.length < 5864062014805 then (spec_l09Hilbert.l4 k5 x0_1 x3_1 x4_1 (x5_5 ++ [y184]) (wrap64 (x9_5 + 1))) else (none)) = some r := by first | (rw [hy184]; with_reducible exact H) | (have H2_ := (Option.bind_some _ _).symm.trans H; rw [hy184]; with_reducible exact H2_) | (have H2_ := (Option.bind_some _ _).symm.trans H; with_reducible exact H2_) | with_reducible exact H | (rw [hy184]; exact H) | exact H
                   have Ny184 := Aside0.mk hy184
                   clear hy184
                   by_cases c46 : x5_5.length < 5864062014805
                   ·rw [if_pos c46] at H
                    have LMc46 := Aside0.mk c46
                    clear c46
                    obtain ⟨y187, hy187⟩ : ∃ y_ : List (List Int), y_ = (x5_5 ++ [y184]) := ⟨_, rfl⟩
                    replace H : (spec_l09Hilbert.l4 k5 x0_1 x3_1 x4_1 y187 (wrap64 (x9_5 + 1))) = some r := by first | (rw [hy187]; with_reducible exact H) | (have H2_ := (Option.bind_some _ _).symm.trans H; rw [hy187]; with_reducible exact H2_) | (have H2_ := (Option.bind_some _ _).symm.trans H; with_reducible exact H2_) | with_reducible exact H | (rw [hy187]; exact H) | exact H
                    have Ny187 := Aside0.mk hy187
                    clear hy187
                    have H' := Aside0.mk H
                    clear H
                    try go_wp2
                    have n0_ := Aside0.mk (Kd.N_drew HO_3.out)
                    have n1_ := Aside0.mk (Kd.N_drew HO_5.out)
                    have n2_ := Aside0.mk (below_drew1 HB.out)
                    clear HO_3
                    clear HO_5
                    clear HB
                    have HO_3 := n0_
                    have HO_5 := n1_
                    have HB := n2_
                    clear n0_ n1_ n2_
                    have p180 : 0 ≤ (x9_5 : Int) := of_decide_eq_true (by first | (with_reducible assumption) | assumption)
                    have q180 : x9_5 < (x3_1.length : Int) := of_decide_eq_true (by first | (with_reducible assumption) | assumption)
                    obtain ⟨ad180, A180_0, c180_0, e180, hx180_0, hl180_0, hi180_0⟩ := at_L1 (Kd.N_reads' HO_3.out).2.2 x9_5 p180 q180
                    cases e180
                    obtain ⟨ce180, hce180, hMe180, hcc180⟩ := Kd.N_get HO_3.out [] x9_5 p180 (by first | exact q180 | exact of_decide_eq_true (by first | (with_reducible assumption) | assumption) | (have e_ := (Kd.N_reads' HO_3.out).1; omega))
                    obtain ⟨ua180_0, uc180_0, rfl, ul180_0, ge180_0⟩ := Kd.FK_slice_open hMe180
                    have hv180_0 := hcc180 0 _ rfl
                    rw [Nat.add_zero, show ((Kd.slice 2 (Kd.int .i64))).sz = 1 from rfl, Nat.mul_one] at hv180_0
                    replace hv180_0 := Option.some.inj (hv180_0.symm.trans hx180_0)
                    injection hv180_0 with hva_ hvn_ hvc_
                    rw [hva_] at ge180_0
                    rw [hvc_] at ul180_0
                    have HL180_0 := Aside0.mk (show Kd.V (Kd.int .i64) 2 _ w.heap.size _ _ (rd_L1 x3_1 x9_5) from Kd.V_mk ul180_0 ge180_0)
                    clear hva_ hvn_ hvc_ ge180_0 ul180_0
                    clear hcc180 hce180
                    have HR180_0 := Aside0.mk hi180_0
                    have HC180_0 := Aside0.mk hl180_0
                    clear hi180_0 hl180_0
                    replace p180 := eq_true p180
                    replace q180 := eq_true q180
                    have p181 : 0 ≤ (1 : Int) := (by omega)
                    have q181 : 1 < ((rd_L1 x3_1 x9_5).length : Int) := of_decide_eq_true (by first | (with_reducible assumption) | assumption)
                    obtain ⟨ad181, e181, hx181_0⟩ := Kd.at_int (by repeat (first | (with_reducible exact HR180_0.out) | (with_reducible refine Kd.C_alloc ?_ _) | (with_reducible refine Kd.C_drewN ?_ _) | (with_reducible refine Kd.C_drew ?_) | exact HR180_0.out)) 1 p181 q181
                    cases e181
                    (try simp only [show (1 : Int).toNat = 1 from rfl, Nat.reduceMul, Nat.reduceEqDiff, Go.Addr.add, ↓reduceIte] at hx181_0)
                    have qi181 : (1 < (rd_L1 x3_1 x9_5).length) = True := eq_true (by omega)
                    (try rw [show ((1 : Int)).toNat = 1 from rfl] at hx181_0)
                    replace p181 := eq_true p181
                    replace q181 := eq_true q181
                    have p182 : 0 ≤ (x9_5 : Int) := of_decide_eq_true (by first | (with_reducible assumption) | assumption)
                    have q182 : x9_5 < (x3_1.length : Int) := of_decide_eq_true (by first | (with_reducible assumption) | assumption)
                    obtain ⟨ad182, A182_0, c182_0, e182, hx182_0, hl182_0, hi182_0⟩ := at_L1 (Kd.N_reads' HO_3.out).2.2 x9_5 p182 q182
                    obtain rfl : ad180 = ad182 := (by injection e182)
                    obtain ⟨ce182, hce182, hMe182, hcc182⟩ := Kd.N_get HO_3.out [] x9_5 p182 (by first | exact q182 | exact of_decide_eq_true (by first | (with_reducible assumption) | assumption) | (have e_ := (Kd.N_reads' HO_3.out).1; omega))
                    obtain ⟨ua182_0, uc182_0, rfl, ul182_0, ge182_0⟩ := Kd.FK_slice_open hMe182
                    have hv182_0 := hcc182 0 _ rfl
                    rw [Nat.add_zero, show ((Kd.slice 2 (Kd.int .i64))).sz = 1 from rfl, Nat.mul_one] at hv182_0
                    replace hv182_0 := Option.some.inj (hv182_0.symm.trans hx182_0)
                    injection hv182_0 with hva_ hvn_ hvc_
                    rw [hva_] at ge182_0
                    rw [hvc_] at ul182_0
                    have HL182_0 := Aside0.mk (show Kd.V (Kd.int .i64) 2 _ w.heap.size _ _ (rd_L1 x3_1 x9_5) from Kd.V_mk ul182_0 ge182_0)
                    clear hva_ hvn_ hvc_ ge182_0 ul182_0
                    clear hcc182 hce182
                    have HR182_0 := Aside0.mk hi182_0
                    have HC182_0 := Aside0.mk hl182_0
                    clear hi182_0 hl182_0
                    replace p182 := eq_true p182
                    replace q182 := eq_true q182
                    have ea_ := Option.some.inj (hx180_0.symm.trans hx182_0)
                    injection ea_ with ea_ en_ ec_
                    subst ea_
                    subst ec_
                    clear en_
                    have p183 : 0 ≤ (0 : Int) := (by omega)
                    have q183 : 0 < ((rd_L1 x3_1 x9_5).length : Int) := of_decide_eq_true (by first | (with_reducible assumption) | assumption)
                    obtain ⟨ad183, e183, hx183_0⟩ := Kd.at_int (by repeat (first | (with_reducible exact HR182_0.out) | (with_reducible refine Kd.C_alloc ?_ _) | (with_reducible refine Kd.C_drewN ?_ _) | (with_reducible refine Kd.C_drew ?_) | exact HR182_0.out)) 0 p183 q183
                    cases e183
                    have qi183 : (0 < (rd_L1 x3_1 x9_5).length) = True := eq_true (by omega)
                    (try rw [show ((0 : Int)).toNat = 0 from rfl] at hx183_0)
                    (try rw [Addr.add_zero'] at hx183_0)
                    replace p183 := eq_true p183
                    replace q183 := eq_true q183
                    refine start_ (n := 24) (S := fun w' => w'.cell? (ad180.add (x9_5).toNat) = some (.slice (some ad181) (rd_L1 x3_1 x9_5).length c180_0) ∧ w'.cell? ⟨ad181.block, ad181.off + 1, none⟩ = some (.int .i64 (rd (rd_L1 x3_1 x9_5) 1)) ∧ w'.cell? (ad180.add (x9_5).toNat) = some (.slice (some ad181) (rd_L1 x3_1 x9_5).length c180_0) ∧ w'.cell? ad181 = some (.int .i64 (rd (rd_L1 x3_1 x9_5) 0))) (ds := [21, 22]) #[false, false, false, false, false, false, false, false, false, false, false, false, false, false, false, false, false, false, false, false, false, false, false, false] (by kernel_rfl) rfl rfl ⟨hx180_0, hx181_0, hx182_0, hx183_0⟩ (fun hHeld => ?_); refine with_tabW spec_l09Hilbert.tab21 spec_l09Hilbert.bits21 (fun HT_ HW_ => ?_)
                    generalize wr.drew = w47 at HO_3 HO_5 HB HL180_0 HL182_0 HR180_0 HR182_0 hx180_0 hx181_0 hx182_0 hx183_0 hHeld ⊢
                    refine pure_ (i := 0) (N := some 95) (v := ?_) (a' := ?_) #[true, false, false, false, false, false, false, false, false, false, false, false, false, false, false, false, false, false, false, false, false, false, false, false] rfl rfl (any_of HT_.out (by kernel_rfl)) (fun _ _ _ h => h) (Or.inl ⟨by rfl, ?_⟩) ?_ ?_
                    rotate_left
                    ·intro w'
                     go_simp
                     with_reducible rfl
                    rotate_left
                    ·simp only [Act.put, List.setIfInBounds_toArray, List.set_cons_zero, List.set_cons_succ, i64_w, i32_w]
                     rfl
                    refine pure_ (i := 1) (N := some 96) (v := ?_) (a' := ?_) #[true, true, false, false, false, false, false, false, false, false, false, false, false, false, false, false, false, false, false, false, false, false, false, false] rfl rfl (any_of HT_.out (by kernel_rfl)) (fun _ _ _ h => h) (Or.inl ⟨by rfl, ?_⟩) ?_ ?_
                    rotate_left
                    ·intro w'
                     go_simp
                     with_reducible rfl
                    rotate_left
                    ·simp only [Act.put, List.setIfInBounds_toArray, List.set_cons_zero, List.set_cons_succ, i64_w, i32_w]
                     rfl
                    refine pure_ (i := 2) (N := some 97) (v := ?_) (a' := ?_) #[true, true, true, false, false, false, false, false, false, false, false, false, false, false, false, false, false, false, false, false, false, false, false, false] rfl rfl (any_of HT_.out (by kernel_rfl)) (fun _ _ _ h => h) (Or.inl ⟨by rfl, ?_⟩) ?_ ?_
                    rotate_left
                    ·intro w'
                     go_simp
                     with_reducible rfl
                    rotate_left
                    ·simp only [Act.put, List.setIfInBounds_toArray, List.set_cons_zero, List.set_cons_succ, i64_w, i32_w]
                     rfl
                    refine pure_ (i := 3) (N := some 98) (v := ?_) (a' := ?_) #[true, true, true, true, false, false, false, false, false, false, false, false, false, false, false, false, false, false, false, false, false, false, false, false] rfl rfl (any_of HT_.out (by kernel_rfl)) (fun _ _ _ h => h) (Or.inl ⟨by rfl, ?_⟩) ?_ ?_
                    rotate_left
                    ·intro w'
                     go_simp
                     with_reducible rfl
                    rotate_left
                    ·simp only [Act.put, List.setIfInBounds_toArray, List.set_cons_zero, List.set_cons_succ, i64_w, i32_w]
                     rfl
                    refine pure_ (i := 4) (N := some 99) (v := ?_) (a' := ?_) #[true, true, true, true, true, false, false, false, false, false, false, false, false, false, false, false, false, false, false, false, false, false, false, false] rfl rfl (any_of HT_.out (by kernel_rfl)) (fun _ _ _ h => h) (Or.inl ⟨by rfl, ?_⟩) ?_ ?_
                    rotate_left
                    ·intro w'
                     go_simp
                     with_reducible rfl
                    rotate_left
                    ·simp only [Act.put, List.setIfInBounds_toArray, List.set_cons_zero, List.set_cons_succ, i64_w, i32_w]
                     rfl
                    refine pure_ (i := 5) (N := some 100) (v := ?_) (a' := ?_) #[true, true, true, true, true, true, false, false, false, false, false, false, false, false, false, false, false, false, false, false, false, false, false, false] rfl rfl (any_of HT_.out (by kernel_rfl)) (fun _ _ _ h => h) (Or.inl ⟨by rfl, ?_⟩) ?_ ?_
                    rotate_left
                    ·intro w'
                     go_simp
                     with_reducible rfl
                    rotate_left
                    ·simp only [Act.put, List.setIfInBounds_toArray, List.set_cons_zero, List.set_cons_succ, i64_w, i32_w]
                     rfl
                    refine pure_ (i := 6) (N := some 101) (v := ?_) (a' := ?_) #[true, true, true, true, true, true, true, false, false, false, false, false, false, false, false, false, false, false, false, false, false, false, false, false] rfl rfl (any_of HT_.out (by kernel_rfl)) (fun _ _ _ h => h) (Or.inl ⟨by rfl, ?_⟩) ?_ ?_
                    rotate_left
                    ·intro w'
                     go_simp
                     with_reducible rfl
                    rotate_left
                    ·simp only [Act.put, List.setIfInBounds_toArray, List.set_cons_zero, List.set_cons_succ, i64_w, i32_w]
                     rfl
                    refine pure_ (i := 11) (N := some 106) (v := ?_) (a' := ?_) #[true, true, true, true, true, true, true, false, false, false, false, true, false, false, false, false, false, false, false, false, false, false, false, false] rfl rfl (any_of HT_.out (by kernel_rfl)) (fun _ _ _ h => h) (Or.inl ⟨by rfl, ?_⟩) ?_ ?_
                    rotate_left
                    ·intro w'
                     go_simp
                     with_reducible rfl
                    rotate_left
                    ·simp only [Act.put, List.setIfInBounds_toArray, List.set_cons_zero, List.set_cons_succ, i64_w, i32_w]
                     rfl
                    refine pure_ (i := 12) (N := some 107) (v := ?_) (a' := ?_) #[true, true, true, true, true, true, true, false, false, false, false, true, true, false, false, false, false, false, false, false, false, false, false, false] rfl rfl (any_of HT_.out (by kernel_rfl)) (fun _ _ _ h => h) (Or.inl ⟨by rfl, ?_⟩) ?_ ?_
                    rotate_left
                    ·intro w'
                     go_simp
                     with_reducible rfl
                    rotate_left
                    ·simp only [Act.put, List.setIfInBounds_toArray, List.set_cons_zero, List.set_cons_succ, i64_w, i32_w]
                     rfl
                    refine pure_ (i := 13) (N := some 108) (v := ?_) (a' := ?_) #[true, true, true, true, true, true, true, false, false, false, false, true, true, true, false, false, false, false, false, false, false, false, false, false] rfl rfl (any_of HT_.out (by kernel_rfl)) (fun _ _ _ h => h) (Or.inl ⟨by rfl, ?_⟩) ?_ ?_
                    rotate_left
                    ·intro w'
                     go_simp
                     with_reducible rfl
                    rotate_left
                    ·simp only [Act.put, List.setIfInBounds_toArray, List.set_cons_zero, List.set_cons_succ, i64_w, i32_w]
                     rfl
                    refine pure_ (i := 14) (N := some 109) (v := ?_) (a' := ?_) #[true, true, true, true, true, true, true, false, false, false, false, true, true, true, true, false, false, false, false, false, false, false, false, false] rfl rfl (any_of HT_.out (by kernel_rfl)) (fun _ _ _ h => h) (Or.inl ⟨by rfl, ?_⟩) ?_ ?_
                    rotate_left
                    ·intro w'
                     go_simp
                     with_reducible rfl
                    rotate_left
                    ·simp only [Act.put, List.setIfInBounds_toArray, List.set_cons_zero, List.set_cons_succ, i64_w, i32_w]
                     rfl
                    refine pure_ (i := 15) (N := some 110) (v := ?_) (a' := ?_) #[true, true, true, true, true, true, true, false, false, false, false, true, true, true, true, true, false, false, false, false, false, false, false, false] rfl rfl (any_of HT_.out (by kernel_rfl)) (fun _ _ _ h => h) (Or.inl ⟨by rfl, ?_⟩) ?_ ?_
                    rotate_left
                    ·intro w'
                     go_simp
                     with_reducible rfl
                    rotate_left
                    ·simp only [Act.put, List.setIfInBounds_toArray, List.set_cons_zero, List.set_cons_succ, i64_w, i32_w]
                     rfl
                    refine take_ (i := 7) (N := some 102) (v := ?_) (a' := ?_) #[true, true, true, true, true, true, true, true, false, false, false, true, true, true, true, true, false, false, false, false, false, false, false, false] rfl rfl (take_ofW HT_.out HW_.out (by kernel_rfl)) (fun _ _ _ h => h) (Or.inl ⟨by rfl, ?_⟩) hHeld ?_ ?_
                    rotate_left
                    ·rintro w' ⟨s0, s1, s2, s3⟩
                     go_simp
                     with_reducible rfl
                    rotate_left
                    ·simp only [Act.put, List.setIfInBounds_toArray, List.set_cons_zero, List.set_cons_succ, i64_w, i32_w]
                     rfl
                    refine pure_ (i := 8) (N := some 103) (v := ?_) (a' := ?_) #[true, true, true, true, true, true, true, true, true, false, false, true, true, true, true, true, false, false, false, false, false, false, false, false] rfl rfl (any_of HT_.out (by kernel_rfl)) (fun _ _ _ h => h) (Or.inl ⟨by rfl, ?_⟩) ?_ ?_
                    rotate_left
                    ·intro w'
                     go_simp
                     with_reducible rfl
                    rotate_left
                    ·simp only [Act.put, List.setIfInBounds_toArray, List.set_cons_zero, List.set_cons_succ, i64_w, i32_w]
                     rfl
                    refine take_ (i := 9) (N := some 104) (v := ?_) (a' := ?_) #[true, true, true, true, true, true, true, true, true, true, false, true, true, true, true, true, false, false, false, false, false, false, false, false] rfl rfl (take_ofW HT_.out HW_.out (by kernel_rfl)) (fun _ _ _ h => h) (Or.inl ⟨by rfl, ?_⟩) hHeld ?_ ?_
                    rotate_left
                    ·rintro w' ⟨s0, s1, s2, s3⟩
                     go_simp
                     with_reducible rfl
                    rotate_left
                    ·simp only [Act.put, List.setIfInBounds_toArray, List.set_cons_zero, List.set_cons_succ, i64_w, i32_w]
                     rfl
                    refine pure_ (i := 10) (N := some 105) (v := ?_) (a' := ?_) #[true, true, true, true, true, true, true, true, true, true, true, true, true, true, true, true, false, false, false, false, false, false, false, false] rfl rfl (any_of HT_.out (by kernel_rfl)) (fun _ _ _ h => h) (Or.inl ⟨by rfl, ?_⟩) ?_ ?_
                    rotate_left
                    ·intro w'
                     go_simp
                     with_reducible rfl
                    rotate_left
                    ·simp only [Act.put, List.setIfInBounds_toArray, List.set_cons_zero, List.set_cons_succ, i64_w, i32_w]
                     rfl
                    refine take_ (i := 16) (N := some 111) (v := ?_) (a' := ?_) #[true, true, true, true, true, true, true, true, true, true, true, true, true, true, true, true, true, false, false, false, false, false, false, false] rfl rfl (take_ofW HT_.out HW_.out (by kernel_rfl)) (fun _ _ _ h => h) (Or.inl ⟨by rfl, ?_⟩) hHeld ?_ ?_
                    rotate_left
                    ·rintro w' ⟨s0, s1, s2, s3⟩
                     go_simp
                     with_reducible rfl
                    rotate_left
                    ·simp only [Act.put, List.setIfInBounds_toArray, List.set_cons_zero, List.set_cons_succ, i64_w, i32_w]
                     rfl
                    refine pure_ (i := 17) (N := some 112) (v := ?_) (a' := ?_) #[true, true, true, true, true, true, true, true, true, true, true, true, true, true, true, true, true, true, false, false, false, false, false, false] rfl rfl (any_of HT_.out (by kernel_rfl)) (fun _ _ _ h => h) (Or.inl ⟨by rfl, ?_⟩) ?_ ?_
                    rotate_left
                    ·intro w'
                     go_simp
                     with_reducible rfl
                    rotate_left
                    ·simp only [Act.put, List.setIfInBounds_toArray, List.set_cons_zero, List.set_cons_succ, i64_w, i32_w]
                     rfl
                    refine take_ (i := 18) (N := some 113) (v := ?_) (a' := ?_) #[true, true, true, true, true, true, true, true, true, true, true, true, true, true, true, true, true, true, true, false, false, false, false, false] rfl rfl (take_ofW HT_.out HW_.out (by kernel_rfl)) (fun _ _ _ h => h) (Or.inl ⟨by rfl, ?_⟩) hHeld ?_ ?_
                    rotate_left
                    ·rintro w' ⟨s0, s1, s2, s3⟩
                     go_simp
                     with_reducible rfl
                    rotate_left
                    ·simp only [Act.put, List.setIfInBounds_toArray, List.set_cons_zero, List.set_cons_succ, i64_w, i32_w]
                     rfl
                    refine pure_ (i := 19) (N := some 114) (v := ?_) (a' := ?_) #[true, true, true, true, true, true, true, true, true, true, true, true, true, true, true, true, true, true, true, true, false, false, false, false] rfl rfl (any_of HT_.out (by kernel_rfl)) (fun _ _ _ h => h) (Or.inl ⟨by rfl, ?_⟩) ?_ ?_
                    rotate_left
                    ·intro w'
                     go_simp
                     with_reducible rfl
                    rotate_left
                    ·simp only [Act.put, List.setIfInBounds_toArray, List.set_cons_zero, List.set_cons_succ, i64_w, i32_w]
                     rfl
                    refine one_ (i := 20) (N := some 115) #[true, true, true, true, true, true, true, true, true, true, true, true, true, true, true, true, true, true, true, true, true, false, false, false] rfl rfl (one_of HT_.out (by kernel_rfl)) (by decide) (fun K hK => ?_)
                    refine Kd.R_lit_step (Kd.int .i64) _ 2 ?hg (N := 115) ?hd (xs := ([wrap64 ((wrap64 ((wrap64 (2 * x4_1)) - 1)) - (rd (rd_L1 x3_1 x9_5) 1)), wrap64 ((wrap64 (x4_1 - 1)) - (rd (rd_L1 x3_1 x9_5) 0))] : List Int)) (inner := [.int .i64 (wrap64 ((wrap64 ((wrap64 (2 * x4_1)) - 1)) - (rd (rd_L1 x3_1 x9_5) 1))), .int .i64 (wrap64 ((wrap64 (x4_1 - 1)) - (rd (rd_L1 x3_1 x9_5) 0)))]) (ok := fun _ => True) (okp := fun _ => True) ?hr ?hp (fun _ hk => hk) trivial (Below.refl _ _) (Nat.le_refl _) (by simp) ?_; (case hd => rfl); (case hg => rfl); (case hr => first | (go_simp; done) | (go_simp; rfl)); (case hp => exact (Reps.one (show Kd.M (Kd.int .i64) _ _ _ (wrap64 ((wrap64 ((wrap64 (2 * x4_1)) - 1)) - (rd (rd_L1 x3_1 x9_5) 1))) [.int .i64 (wrap64 ((wrap64 ((wrap64 (2 * x4_1)) - 1)) - (rd (rd_L1 x3_1 x9_5) 1)))] from rfl) (Reps.one (show Kd.M (Kd.int .i64) _ _ _ (wrap64 ((wrap64 (x4_1 - 1)) - (rd (rd_L1 x3_1 x9_5) 0))) [.int .i64 (wrap64 ((wrap64 (x4_1 - 1)) - (rd (rd_L1 x3_1 x9_5) 0)))] from rfl) (Reps.none _ _))))
                    intro v185 w48 ho49 hb hg_ hnew_
                    have HS0_ := (hb.cell (World.block_lt_of_cell? _ _ (hHeld.1))).trans (hHeld.1)
                    have HS1_ := (hb.cell (World.block_lt_of_cell? _ _ (hHeld.2.1))).trans (hHeld.2.1)
                    have HS2_ := (hb.cell (World.block_lt_of_cell? _ _ (hHeld.2.2.1))).trans (hHeld.2.2.1)
                    have HS3_ := (hb.cell (World.block_lt_of_cell? _ _ (hHeld.2.2.2))).trans (hHeld.2.2.2)
                    clear hg_ hnew_
                    (first | rw [← Ny184.out] at ho49 | (simp only [Int.reduceToNat] at ho49; rw [← Ny184.out] at ho49))
                    have n0_ := Aside0.mk (Kd.N_elder' (by (with_reducible repeat (first | apply Kd.N_alloc | apply Kd.N_drewN | apply Kd.N_drew)); exact HO_3.out) (Kd.R_base ho49) hb)
                    have n1_ := Aside0.mk (Kd.N_elder' (by (with_reducible repeat (first | apply Kd.N_alloc | apply Kd.N_drewN | apply Kd.N_drew)); exact HO_5.out) (Kd.R_base ho49) hb)
                    have n2_ := Aside0.mk (Kd.V_elder' (by (with_reducible repeat (first | apply Kd.V_alloc | apply Kd.V_drewN | apply Kd.V_drew)); exact HL180_0.out) (Kd.R_base ho49) hb)
                    have n3_ := Aside0.mk (Kd.V_elder' (by (with_reducible repeat (first | apply Kd.V_alloc | apply Kd.V_drewN | apply Kd.V_drew)); exact HL182_0.out) (Kd.R_base ho49) hb)
                    have n4_ := Aside0.mk (Kd.R_lower (Kd.R_newM (M := fun k_ => (w.heap.size ≤ k_)) ho49 (below_size (by repeat (first | (with_reducible first | exact HB.out | apply below_alloc | apply pw_below_drewN | apply below_drew1) | exact HB.out))) (fun k_ h_ => h_)) (below_size (by repeat (first | (with_reducible first | exact HB.out | apply below_alloc | apply pw_below_drewN | apply below_drew1) | exact HB.out))))
                    have n5_ := Aside0.mk (Kd.C_below (by repeat (first | (with_reducible exact HR180_0.out) | (with_reducible refine Kd.C_alloc ?_ _) | (with_reducible refine Kd.C_drewN ?_ _) | (with_reducible refine Kd.C_drew ?_) | exact HR180_0.out)) hb)
                    have n6_ := Aside0.mk (Kd.C_below (by repeat (first | (with_reducible exact HR182_0.out) | (with_reducible refine Kd.C_alloc ?_ _) | (with_reducible refine Kd.C_drewN ?_ _) | (with_reducible refine Kd.C_drew ?_) | exact HR182_0.out)) hb)
                    have n7_ := Aside0.mk (below_step (by repeat (first | (with_reducible first | exact HB.out | apply below_alloc | apply pw_below_drewN | apply below_drew1) | exact HB.out)) hb)
                    clear HO_3
                    clear HO_5
                    clear HL180_0
                    clear HL182_0
                    clear HR180_0
                    clear HR182_0
                    clear HB
                    have HO_3 := n0_
                    have HO_5 := n1_
                    have HL180_0 := n2_
                    have HL182_0 := n3_
                    have HO186 := n4_
                    have HR180_0 := n5_
                    have HR182_0 := n6_
                    have HB := n7_
                    clear n0_ n1_ n2_ n3_ n4_ n5_ n6_ n7_
                    clear hb ho49
                    obtain ⟨Ao51, co51, eo51⟩ := Kd.R_slice HO186.out
                    (first | subst eo51 | (injection eo51 with f1_ f2_ f3_; have f4_ := f1_.symm; have f5_ := f3_.symm; clear f1_ f2_ f3_; subst f4_; subst f5_))
                    refine hK.out _ _ ⟨HS0_, HS1_, HS2_, HS3_⟩ (fun hHeld => ?_)
                    clear hK K
                    refine norm_ (a' := ?_) ?_ ?_
                    rotate_left
                    ·show Act.put _ (some 115) _ = _
                     simp only [Act.put, List.setIfInBounds_toArray, List.set_cons_zero, List.set_cons_succ, i64_w, i32_w]
                     rfl
                    refine last_ (i := 21) (N := some 116) #[true, true, true, true, true, true, true, true, true, true, true, true, true, true, true, true, true, true, true, true, true, true, false, false] rfl rfl (one_of HT_.out (by kernel_rfl)) (by decide) (fun K hK => ?_)
                    refine value_ (w1 := ?_) (v := ?_) (by rfl) rfl ?_ ?_
                    rotate_left 2
                    ·go_simp
                     constructor
                     ·rfl
                     ·rfl
                    refine hK.out _ _ ?_
                    clear hK K
                    refine norm_ (a' := ?_) ?_ ?_
                    rotate_left
                    ·show Act.put _ (some 116) _ = _
                     simp only [Act.put, List.setIfInBounds_toArray, List.set_cons_zero, List.set_cons_succ, i64_w, i32_w]
                     rfl
                    refine last_ (i := 22) (N := some 117) #[true, true, true, true, true, true, true, true, true, true, true, true, true, true, true, true, true, true, true, true, true, true, true, false] rfl rfl (one_of HT_.out (by kernel_rfl)) (by decide) (fun K hK => ?_)
                    refine Kd.N_append_step (Kd.slice 2 (Kd.int .i64)) (w0 := w) w.heap.size (by rfl) (.tmp 95) (.tmp 116) 22 34 (.slice none 0 0) 24 rfl Try.underlying22 info34 rfl (by decide) (by omega) u5 x5_5 y184 [.slice Ao51 y184.length co51] (fun k_ => (w.heap.size ≤ k_) ∧ some k_ ≠ (.slice (some ad180) x3_1.length co21 : Value).ownBlock) (fun k_ => ((fun k_ => (w.heap.size ≤ k_) ∧ some k_ ≠ (.slice (some ad180) x3_1.length co21 : Value).ownBlock)) k_ ∧ some k_ ≠ (u5 : Value).ownBlock) rfl rfl ?aP (fun _ hk => hk) ?aF ?aO ?aB ?aS ?aL ?_
                    (case aP => exact (Kd.FK_slice_mk (Kd.R_reads' (Kd.R_mono (ok' := (fun k_ => ((fun k_ => (w.heap.size ≤ k_) ∧ some k_ ≠ (.slice (some ad180) x3_1.length co21 : Value).ownBlock)) k_ ∧ some k_ ≠ (u5 : Value).ownBlock)) (Kd.R_apart' (Kd.R_apart' (HO186.out) (Kd.N_typed HO_3.out) (by decide)) (Kd.N_typed HO_5.out) (by decide)) (fun k_ hk => ⟨⟨hk.1.1.1, hk.1.2⟩, hk.2⟩))).2.1 (Kd.R_F (Kd.R_mono (ok' := (fun k_ => ((fun k_ => (w.heap.size ≤ k_) ∧ some k_ ≠ (.slice (some ad180) x3_1.length co21 : Value).ownBlock)) k_ ∧ some k_ ≠ (u5 : Value).ownBlock)) (Kd.R_apart' (Kd.R_apart' (HO186.out) (Kd.N_typed HO_3.out) (by decide)) (Kd.N_typed HO_5.out) (by decide)) (fun k_ hk => ⟨⟨hk.1.1.1, hk.1.2⟩, hk.2⟩)))))
                    (case aB => exact (by repeat (first | (with_reducible first | exact HB.out | apply below_alloc | apply pw_below_drewN | apply below_drew1) | exact HB.out)))
                    (case aF => exact (fun k_ hk => ⟨(Nat.le_trans (below_size (by repeat (first | (with_reducible first | exact HB.out | apply below_alloc | apply pw_below_drewN | apply below_drew1) | exact HB.out))) hk), Kd.fresh' (Kd.N_lt (by (with_reducible repeat (first | apply Kd.N_alloc | apply Kd.N_drewN | apply Kd.N_drew)); exact HO_3.out)) k_ hk⟩))
                    (case aO => exact (by (with_reducible repeat (first | apply Kd.N_alloc | apply Kd.N_drewN | apply Kd.N_drew)); exact Kd.N_mono HO_5.out (fun _ hk => ⟨hk.1.1, hk.1.2⟩)))
                    (case aS => exact (below_size (by repeat (first | (with_reducible first | exact HB.out | apply below_alloc | apply pw_below_drewN | apply below_drew1) | exact HB.out))))
                    (case aL => have := LMc46.out; omega)
                    intro v188 w50 ho hb hg hat
                    rw [← Ny187.out] at ho
                    have n0_ := Aside0.mk (Kd.N_afterv (ok := (fun k_ => (w.heap.size ≤ k_) ∧ some k_ ≠ (.slice Ao51 y184.length co51 : Value).ownBlock)) (by (with_reducible repeat (first | apply Kd.N_alloc | apply Kd.N_drewN | apply Kd.N_drew)); exact Kd.N_mono HO_3.out (fun _ hk => ⟨⟨hk.1.1, hk.2⟩, hk.1.2⟩)) hg hat)
                    have n1_ := Aside0.mk (Kd.V_afterv (ok := (fun k_ => (w.heap.size ≤ k_) ∧ some k_ ≠ (.slice (some ad180) x3_1.length co21 : Value).ownBlock ∧ some k_ ≠ (.slice Ao51 y184.length co51 : Value).ownBlock)) (by (with_reducible repeat (first | apply Kd.V_alloc | apply Kd.V_drewN | apply Kd.V_drew)); exact Kd.V_mono HL180_0.out (fun _ hk => ⟨⟨hk.1.1.1, ⟨hk.1.2, hk.2⟩⟩, hk.1.1.2⟩)) hg hat)
                    have n2_ := Aside0.mk (Kd.V_afterv (ok := (fun k_ => (w.heap.size ≤ k_) ∧ some k_ ≠ (.slice (some ad180) x3_1.length co21 : Value).ownBlock ∧ some k_ ≠ (.slice Ao51 y184.length co51 : Value).ownBlock)) (by (with_reducible repeat (first | apply Kd.V_alloc | apply Kd.V_drewN | apply Kd.V_drew)); exact Kd.V_mono HL182_0.out (fun _ hk => ⟨⟨hk.1.1.1, ⟨hk.1.2, hk.2⟩⟩, hk.1.1.2⟩)) hg hat)
                    have n3_ := Aside0.mk (hb)
                    have n4_ := Aside0.mk (ho)
                    clear HO_3
                    clear HL180_0
                    clear HL182_0
                    clear HB
                    clear HO_5
                    clear HO186
                    have HO_3 := n0_
                    have HL180_0 := n1_
                    have HL182_0 := n2_
                    have HB := n3_
                    have HO189 := n4_
                    clear n0_ n1_ n2_ n3_ n4_
                    clear ho hb hg hat
                    refine hK.out _ _ ?_
                    clear hK K
                    refine norm_ (a' := ?_) ?_ ?_
                    rotate_left
                    ·show Act.put _ (some 117) _ = _
                     simp only [Act.put, List.setIfInBounds_toArray, List.set_cons_zero, List.set_cons_succ, i64_w, i32_w]
                     rfl
                    refine pure_ (i := 23) (N := some 5) (v := ?_) (a' := ?_) #[true, true, true, true, true, true, true, true, true, true, true, true, true, true, true, true, true, true, true, true, true, true, true, true] rfl rfl (any_of HT_.out (by kernel_rfl)) (fun _ _ _ h => h) (Or.inl ⟨by rfl, ?_⟩) ?_ ?_
                    rotate_left
                    ·intro w'
                     go_simp
                     with_reducible rfl
                    rotate_left
                    ·simp only [Act.put, List.setIfInBounds_toArray, List.set_cons_zero, List.set_cons_succ, i64_w, i32_w]
                     rfl
                    refine done_ (done_of HT_.out (by kernel_rfl)) ?_
                    try go_wp2
                    go_roundg k5
                    case measure => have := HK1.out; have := HK2.out; have := HK3.out; have := HK4.out; have := HK5.out; omega
                    case rel => exact ⟨(y187), (wrap64 (x9_5 + 1)), (by first | rfl | (simp; done) | (simp [*]; done)), H', ⟨by have := HK1.out; have := HK2.out; have := HK3.out; have := HK4.out; have := HK5.out; omega⟩, ⟨by (with_reducible repeat (first | apply Kd.N_alloc | apply Kd.N_drewN | apply Kd.N_drew)); exact Kd.N_mono HO_3.out (fun _ hk => ⟨hk.1.1, hk.2⟩)⟩, ⟨by (with_reducible repeat (first | apply Kd.N_alloc | apply Kd.N_drewN | apply Kd.N_drew)); exact HO189.out⟩, ⟨by repeat (first | (with_reducible first | exact HB.out | apply below_alloc | apply pw_below_drewN | apply below_drew1) | exact HB.out)⟩⟩
                   ·rw [if_neg c46] at H
                    exact absurd H (by simp)
                  ·rw [if_neg c45] at H
                   exact absurd H (by simp)
                 ·rw [if_neg c44] at H
                  exact absurd H (by simp)
                ·rw [if_neg c43] at H
                 exact absurd H (by simp)
               ·rw [if_neg c42] at H
                have c42b0 : decide (x9_5 < (x3_1.length : Int)) = false := decide_eq_false c42
                clear c42
                have H' := Aside0.mk H
                clear H
                go_wp2
                go_roundg k5
                case measure => have := HK1.out; have := HK2.out; have := HK3.out; have := HK4.out; have := HK5.out; omega
                case rel => exact ⟨(wrap64 (x0_1 - 1)), (x5_5), (wrap64 (x4_1 * 2)), (by first | rfl | (simp; done) | (simp [*]; done)), (by first | rfl | (simp; done) | (simp [*]; done)), H', ⟨by have := HK1.out; have := HK2.out; have := HK3.out; have := HK4.out; have := HK5.out; omega⟩, ⟨by (with_reducible repeat (first | apply Kd.N_alloc | apply Kd.N_drewN | apply Kd.N_drew)); exact Kd.N_mono HO_5.out (fun _ hk => hk.1)⟩, ⟨by repeat (first | (with_reducible first | exact HB.out | apply below_alloc | apply pw_below_drewN | apply below_drew1) | exact HB.out)⟩⟩
   ·rw [if_neg c7] at H
    have c7b0 : decide (0 < x0_1) = false := decide_eq_false c7
    clear c7
    obtain rfl := Option.some.inj H
    go_wp2
    go_ret
    exact ⟨_, by first | rfl | (simp [errW_none, errW_some] <;> rfl) | (simp [*, errW_none, errW_some] <;> rfl), by (with_reducible repeat (first | apply Kd.N_alloc | apply Kd.N_drewN | apply Kd.N_drew)); exact HO_3.out, by repeat (first | (with_reducible first | exact HB.out | apply below_alloc | apply pw_below_drewN | apply below_drew1) | exact HB.out)⟩
end Go.Proofs.Ytckonklpdepgoaa.Q
namespace Go.Proofs.Ytckonklpdepgoaa.Q
open Go.RowKit Go.Proofs.YtckonklpdepgoaaW.PrintWords Go.Proofs.YtckonklpdepgoaaW.PrintLast Go.Proofs.YtckonklpdepgoaaW.PrintMore
attribute [local go_sem] max2_int min2_int max_two min_two max_three min_three max_four min_four   -- for this text's walks alone
set_option linter.unusedVariables false
set_option linter.unusedSimpArgs false
def spec_HilbertPath.f (k : Nat) (a0 : Int) : Option ((List (List Int)) × Bool) := (spec_l09Order.f a0).bind fun t190 => (if t190 = true then ((spec_l09Hilbert.f k a0).bind fun t191 => (some (t191, true))) else (some (([] : List (List Int)), false)))
theorem spec_HilbertPath.mono : ∀ a0 k, LeO (spec_HilbertPath.f k a0) (spec_HilbertPath.f (k + 1) a0) := by
 intro a0 k
 unfold spec_HilbertPath.f
 repeat' first
   | (with_reducible exact spec_l09Hilbert.mono _ _)
   | (with_reducible exact LeO.refl _)
   | (with_reducible exact LeO.none _)
   | (with_reducible refine LeO.ite ?_ ?_)
   | (with_reducible refine LeO.bind ?_ (fun _ => ?_))
   | exact spec_l09Hilbert.mono _ _
   | exact LeO.none _
   | refine LeO.ite ?_ ?_
   | refine LeO.bind ?_ (fun _ => ?_)
set_option maxHeartbeats 8000000 in
set_option maxRecDepth 100000 in
theorem spec_HilbertPath.calls (k : Nat) (a0 : Int) (r1 : List (List Int)) (r2 : Bool) (w : World) (h : spec_HilbertPath.f k a0 = some (r1, r2)) :
  Calls Try.prog 20 #[.int .i64 a0] w fun e w' => ∃ v0_ : Value, e = .returned (.tuple #[v0_, .bool r2]) ∧ Kd.N (Kd.slice 2 (Kd.int .i64)) 34 w' w.heap.size (fun k_ => (w.heap.size ≤ k_)) v0_ r1 ∧ Below w.heap.size w w' := by
 have HB := Aside0.mk (Below.refl w.heap.size w)
 have H : ((spec_l09Order.f a0).bind fun t190 => (if t190 = true then ((spec_l09Hilbert.f k a0).bind fun t191 => (some (t191, true))) else (some (([] : List (List Int)), false)))) = some (r1, r2) := h
 clear h
 replace H := Option.bind_eq_some_iff.mp H
 obtain ⟨t190, A20, H⟩ := H
 replace H : (if t190 = true then ((spec_l09Hilbert.f k a0).bind fun t191 => (some (t191, true))) else (some (([] : List (List Int)), false))) = some (r1, r2) := H
 have A2 := Aside0.mk A20
 clear A20
 by_cases c3 : t190 = true
 ·subst c3
  have H1 : ((spec_l09Hilbert.f k a0).bind fun t191 => (some (t191, true))) = some (r1, r2) := by rw [if_pos rfl] at H; exact H
  clear H
  have H := H1
  clear H1
  replace H := Option.bind_eq_some_iff.mp H
  obtain ⟨t191, A40, H⟩ := H
  replace H : (some (t191, true)) = some (r1, r2) := H
  have A4 := Aside0.mk A40
  clear A40
  simp only [Option.some.injEq, Prod.mk.injEq] at H
  obtain ⟨rfl, rfl⟩ := H
  go_enter Try.func20, Try.ntmps20
  go_wp2_with (first | ((with_reducible refine gate_callee (f := 58) rfl ?_); refine goesL_ (some 5) rfl rfl Try.func58 (by kernel_rfl) rfl #[.int .i64 a0] rfl (by (try simp only [List.map_toArray, List.map_cons, List.map_nil]); first | done | rfl | (simp only [List.length_drop, List.length_take]; rfl) | (simp only [show ∀ (n_ : Nat) (b_ : Int), Int.tdiv (n_ : Int) b_ = (n_ : Int) / b_ from fun n_ b_ => Int.tdiv_eq_ediv_of_nonneg (Int.natCast_nonneg n_)]; rfl)) ?_; (with_reducible refine (spec_l09Order.calls a0 true _ A2.out).mono ?_); rintro e w' ⟨rfl, ⟨nd, rfl⟩⟩; refine ⟨_, rfl, ?_⟩) | ((with_reducible refine gate_callee (f := 65) rfl ?_); refine goesL_ (some 8) rfl rfl Try.func65 (by kernel_rfl) rfl #[.int .i64 a0] rfl (by (try simp only [List.map_toArray, List.map_cons, List.map_nil]); first | done | rfl | (simp only [List.length_drop, List.length_take]; rfl) | (simp only [show ∀ (n_ : Nat) (b_ : Int), Int.tdiv (n_ : Int) b_ = (n_ : Int) / b_ from fun n_ b_ => Int.tdiv_eq_ediv_of_nonneg (Int.natCast_nonneg n_)]; rfl)) ?_; (with_reducible refine (spec_l09Hilbert.calls k a0 t191 _ A4.out).mono ?_); rintro e w5 ⟨v192, rfl, ho0, hb⟩; refine ⟨_, rfl, ?_⟩; have n0_ := Aside0.mk (Kd.N_lower (Kd.N_mono (ok' := fun k_ => (w.heap.size ≤ k_)) ho0 (fun k_ hk_ => (Nat.le_trans (below_size (by repeat (first | (with_reducible first | exact HB.out | apply below_alloc | apply pw_below_drewN | apply below_drew1) | exact HB.out))) hk_))) (below_size (by repeat (first | (with_reducible first | exact HB.out | apply below_alloc | apply pw_below_drewN | apply below_drew1) | exact HB.out)))); have n1_ := Aside0.mk (below_step (by repeat (first | (with_reducible first | exact HB.out | apply below_alloc | apply pw_below_drewN | apply below_drew1) | exact HB.out)) hb); clear HB; have HO193 := n0_; have HB := n1_; clear n0_ n1_; (try clear hb); (try clear hb2); (try clear hk); (try clear hi); (try clear ho0)))
  go_ret2
  exact ⟨_, by first | rfl | (simp [errW_none, errW_some] <;> rfl) | (simp [*, errW_none, errW_some] <;> rfl), by (with_reducible repeat (first | apply Kd.N_alloc | apply Kd.N_drewN | apply Kd.N_drew)); exact HO193.out, by repeat (first | (with_reducible first | exact HB.out | apply below_alloc | apply pw_below_drewN | apply below_drew1) | exact HB.out)⟩
 ·replace c3 := Bool.eq_false_iff.mpr c3
  subst c3
  have H1 : (some (([] : List (List Int)), false)) = some (r1, r2) := by rw [if_neg (show ¬ (false = true) by decide)] at H; exact H
  clear H
  have H := H1
  clear H1
  simp only [Option.some.injEq, Prod.mk.injEq] at H
  obtain ⟨rfl, rfl⟩ := H
  go_enter Try.func20, Try.ntmps20
  go_wp2_with (first | ((with_reducible refine gate_callee (f := 58) rfl ?_); refine goesL_ (some 5) rfl rfl Try.func58 (by kernel_rfl) rfl #[.int .i64 a0] rfl (by (try simp only [List.map_toArray, List.map_cons, List.map_nil]); first | done | rfl | (simp only [List.length_drop, List.length_take]; rfl) | (simp only [show ∀ (n_ : Nat) (b_ : Int), Int.tdiv (n_ : Int) b_ = (n_ : Int) / b_ from fun n_ b_ => Int.tdiv_eq_ediv_of_nonneg (Int.natCast_nonneg n_)]; rfl)) ?_; (with_reducible refine (spec_l09Order.calls a0 false _ A2.out).mono ?_); rintro e w' ⟨rfl, ⟨nd, rfl⟩⟩; refine ⟨_, rfl, ?_⟩))
  go_ret2
  exact ⟨_, by first | rfl | (simp [errW_none, errW_some] <;> rfl) | (simp [*, errW_none, errW_some] <;> rfl), by first | exact Kd.S_nil _ _ _ _ _ | exact Kd.N_nil _ _ _ _ _ | exact Kd.V_nil _ _ _ _ _ | exact Kd.Q_nil _ _ _ _ _ | exact Kd.R_nil _ _ _ _ _, by repeat (first | (with_reducible first | exact HB.out | apply below_alloc | apply pw_below_drewN | apply below_drew1) | exact HB.out)⟩
end Go.Proofs.Ytckonklpdepgoaa.Q
namespace Go.Proofs.Ytckonklpdepgoaa.Q
open Go.RowKit Go.Proofs.YtckonklpdepgoaaW.PrintWords Go.Proofs.YtckonklpdepgoaaW.PrintLast Go.Proofs.YtckonklpdepgoaaW.PrintMore
attribute [local go_sem] max2_int min2_int max_two min_two max_three min_three max_four min_four   -- for this text's walks alone
set_option linter.unusedVariables false
set_option linter.unusedSimpArgs false
mutual
def spec_l09Doubling.l0 : Nat → Int → List (List Int) → Option (List (List Int))
 | 0, _, _ => none
 | k + 1, a0, out => if 0 < a0 then ((spec_l09Square.f k (wrap64 (2 * (out.length : Int))) (wrap64 (2 * (out.length : Int)))).bind fun nx => spec_l09Doubling.l1 k a0 out nx 0) else some out
def spec_l09Doubling.l1 : Nat → Int → List (List Int) → List (List Int) → Int → Option (List (List Int))
 | 0, _, _, _, _ => none
 | k + 1, a0, out, nx, i => if i < (out.length : Int) then spec_l09Doubling.l2 k a0 out nx i 0 else spec_l09Doubling.l0 k (wrap64 (a0 - 1)) nx
def spec_l09Doubling.l2 : Nat → Int → List (List Int) → List (List Int) → Int → Int → Option (List (List Int))
 | 0, _, _, _, _, _ => none
 | k + 1, a0, out, nx, i, y => if y < (out.length : Int) then (if 0 ≤ i then (if i < (out.length : Int) then (if 0 ≤ y then (if y < ((rda out i).length : Int) then ((put2 nx i y (wrap64 (4 * rd (rda out i) y))).bind fun n1 => (put2 n1 i (wrap64 (y + (out.length : Int))) (wrap64 (wrap64 (4 * rd (rda out i) y) + 2))).bind fun n2 => (put2 n2 (wrap64 (i + (out.length : Int))) y (wrap64 (wrap64 (4 * rd (rda out i) y) + 3))).bind fun n3 => (put2 n3 (wrap64 (i + (out.length : Int))) (wrap64 (y + (out.length : Int))) (wrap64 (wrap64 (4 * rd (rda out i) y) + 1))).bind fun n4 => spec_l09Doubling.l2 k a0 out n4 i (wrap64 (y + 1))) else none) else none) else none) else none) else spec_l09Doubling.l1 k a0 out nx (wrap64 (i + 1))
end
def spec_l09Doubling.f (k : Nat) (a0 : Int) : Option (List (List Int)) := spec_l09Doubling.l0 k a0 [[0]]
theorem spec_l09Doubling.mono_l : ∀ k, (∀ y0 y1, LeO (spec_l09Doubling.l0 k y0 y1) (spec_l09Doubling.l0 (k + 1) y0 y1)) ∧ (∀ y0 y1 y2 y3, LeO (spec_l09Doubling.l1 k y0 y1 y2 y3) (spec_l09Doubling.l1 (k + 1) y0 y1 y2 y3)) ∧ (∀ y0 y1 y2 y3 y4, LeO (spec_l09Doubling.l2 k y0 y1 y2 y3 y4) (spec_l09Doubling.l2 (k + 1) y0 y1 y2 y3 y4))
 | 0 => ⟨fun _ _ r h => by simp [spec_l09Doubling.l0] at h, fun _ _ _ _ r h => by simp [spec_l09Doubling.l1] at h, fun _ _ _ _ _ r h => by simp [spec_l09Doubling.l2] at h⟩
 | k + 1 => by
  obtain ⟨ih0, ih1, ih2⟩ := spec_l09Doubling.mono_l k
  refine ⟨?_, ?_, ?_⟩
  ·intro y0 y1
   unfold spec_l09Doubling.l0
   repeat' first
   | (with_reducible exact ih0 _ _)
   | (with_reducible exact ih1 _ _ _ _)
   | (with_reducible exact spec_l09Square.mono _ _ _)
   | (with_reducible exact LeO.refl _)
   | (with_reducible exact LeO.none _)
   | (with_reducible refine LeO.ite ?_ ?_)
   | (with_reducible refine LeO.bind ?_ (fun _ => ?_))
  ·intro y0 y1 y2 y3
   unfold spec_l09Doubling.l1
   repeat' first
   | (with_reducible exact ih0 _ _)
   | (with_reducible exact ih2 _ _ _ _ _)
   | (with_reducible exact LeO.refl _)
   | (with_reducible exact LeO.none _)
   | (with_reducible refine LeO.ite ?_ ?_)
   | (with_reducible refine LeO.bind ?_ (fun _ => ?_))
  ·intro y0 y1 y2 y3 y4
   unfold spec_l09Doubling.l2
   repeat' first
   | (with_reducible exact ih1 _ _ _ _)
   | (with_reducible exact ih2 _ _ _ _ _)
   | (with_reducible exact LeO.refl _)
   | (with_reducible exact LeO.none _)
   | (with_reducible refine LeO.ite ?_ ?_)
   | (with_reducible refine LeO.bind ?_ (fun _ => ?_))
theorem spec_l09Doubling.mono : ∀ a0 k, LeO (spec_l09Doubling.f k a0) (spec_l09Doubling.f (k + 1) a0) := by
 intro a0 k
 obtain ⟨ih0, ih1, ih2⟩ := spec_l09Doubling.mono_l k
 unfold spec_l09Doubling.f
 repeat' first
   | (with_reducible exact ih0 _ _)
   | (with_reducible exact spec_l09Square.mono _ _ _)
   | (with_reducible exact LeO.refl _)
   | (with_reducible exact LeO.none _)
   | (with_reducible refine LeO.ite ?_ ?_)
   | (with_reducible refine LeO.bind ?_ (fun _ => ?_))
set_option maxHeartbeats 8000000 in
set_option maxRecDepth 100000 in
theorem spec_l09Doubling.calls (k : Nat) (a0 : Int) (r : List (List Int)) (w : World) (h : spec_l09Doubling.f k a0 = some r) :
  Calls Try.prog 59 #[.int .i64 a0] w fun e w' => ∃ v0_ : Value, e = .returned (v0_) ∧ Kd.S (Kd.slice 2 (Kd.int .i64)) 34 w' w.heap.size (fun _ => True) v0_ r ∧ Below w.heap.size w w' := by
 have HB := Aside0.mk (Below.refl w.heap.size w)
 have H := h
 clear h
 unfold spec_l09Doubling.f at H
 have H' := Aside0.mk H
 clear H
 go_enter Try.func59, Try.ntmps59
 go_wp2_with (first | ((with_reducible refine gate_dst (N := 9) rfl ?_); refine Kd.R_lit (Kd.int .i64) _ 2 ?hg (N := 9) ?hd (xs := ([0] : List Int)) (inner := [.int .i64 0]) (ok := fun k_ => k_ = w.heap.size) (okp := fun k_ => k_ = w.heap.size) ?hr ?hp (fun _ hk => hk) rfl (Below.refl _ _) (Nat.le_refl _) (by simp) ?_; (case hd => rfl); (case hg => rfl); (case hr => first | (go_simp; done) | (go_simp; rfl)); (case hp => exact (Reps.one (show Kd.M (Kd.int .i64) _ _ _ 0 [.int .i64 0] from rfl) (Reps.none _ _))); intro v1 w2 ho3 hb hg_ hnew_; clear hg_ hnew_; have n0_ := Aside0.mk ho3; have n1_ := Aside0.mk (below_step HB.out hb); clear HB hb ho3; have HI := n0_; have HB := n1_; clear n0_ n1_; obtain ⟨Ao, co, eo⟩ := Kd.R_slice HI.out; subst eo) | ((with_reducible refine gate_dst (N := 10) rfl ?_); refine Kd.S_lits (Kd.slice 2 (Kd.int .i64)) w.heap.size 34 ?hg2 (N := 10) ?hd2 (xs := [([0] : List Int)]) (inner := [.slice Ao ([0] : List Int).length co]) (ok := fun _ => True) (fun j k => j = 0 ∧ k = w.heap.size) ?hr2 rfl ?hp2 (fun i j k h1 h2 => h1.1.trans h2.1.symm) (fun _ _ _ => trivial) trivial HB.out (below_size HB.out) (by simp) ?_; (case hd2 => rfl); (case hg2 => rfl); (case hr2 => first | (go_simp; done) | (go_simp; rfl)); (case hp2 => (intro j x hj; cases j with | zero => (cases hj; exact ⟨_, rfl, Kd.R_mono HI.out (fun k_ h_ => ⟨rfl, h_⟩)⟩) | succ j => (simp at hj))); intro v1 w5 ho6 hb hg_ hnew_; clear hg_ hnew_; have n0_ := Aside0.mk ho6; have n1_ := Aside0.mk hb; clear HB HI hb ho6; have HO := n0_; have HB := n1_; clear n0_ n1_; obtain ⟨Am, cm, em⟩ := Kd.S_slice HO.out; subst em))
 go_loopg [0, 3] k (fun kq v0 v3 w' => ∃ (A : Option Addr) (c : Nat) (xs : List (List Int)) (x : Int), v3 = .slice A xs.length c ∧ v0 = .int .i64 x ∧ Aside0 (spec_l09Doubling.l0 kq x xs = some r) ∧ Aside0 (kq ≤ k) ∧ Aside0 (Kd.S (Kd.slice 2 (Kd.int .i64)) 34 w' w.heap.size (fun _ => True) (.slice A xs.length c) xs) ∧ Aside0 (Below w.heap.size w w'))
 case atStart => exact ⟨_, _, [[0]], a0, rfl, rfl, H', ⟨Nat.le_refl _⟩, HO, HB⟩
 case round =>
  clear H' HO HB
  obtain ⟨A, c, xs, x, rfl, rfl, HA, HK, HO, HB⟩ := hrel
  cases gk with
  | zero => exact absurd HA.out (by simp [spec_l09Doubling.l0])
  | succ k1 =>
   have H := HA.out
   clear HA
   simp only [spec_l09Doubling.l0] at H
   by_cases c3 : 0 < x
   ·rw [if_pos c3] at H
    have c3b0 : decide (0 < x) = true := decide_eq_true c3
    clear c3
    replace H := Option.bind_eq_some_iff.mp H
    obtain ⟨nx, A3, H⟩ := H
    have A30 := Aside0.mk A3
    have H' := Aside0.mk H
    have HR := Aside0.mk (Kd.S_reads' HO.out).2.2
    have BB := HB
    clear A3 H HB
    have HB := Aside0.mk (Below.refl wr.heap.size wr)
    go_wp2_with (first | ((with_reducible refine gate_callee (f := 90) rfl ?_); refine goesL_ (some 21) rfl rfl Try.func90 (by kernel_rfl) rfl #[.int .i64 (wrap64 (2 * (xs.length : Int))), .int .i64 (wrap64 (2 * (xs.length : Int)))] rfl (by (try simp only [List.map_toArray, List.map_cons, List.map_nil]); first | done | rfl) ?_; (with_reducible refine (spec_l09Square.calls k1 _ _ nx _ A30.out).mono ?_); rintro e w3 ⟨v0, rfl, ho0, hb⟩; refine ⟨_, rfl, ?_⟩; have n0_ := Aside0.mk (Kd.S_lower ho0 (below_size HB.out)); have n1_ := Aside0.mk (below_step HB.out hb); clear HB hb ho0; have HN := n0_; have HB := n1_; clear n0_ n1_; obtain ⟨An, cn, en⟩ := Kd.S_slice HN.out; subst en))
    clear A30 HO c3b0
    obtain ⟨wo, rfl⟩ : ∃ wo : World, wo = wr := ⟨_, rfl⟩
    go_loopg [6] k1 (fun kq v27 w' => ∃ (ys : List (List Int)) (i : Int), v27 = .int .i64 i ∧ Aside0 (spec_l09Doubling.l1 kq x xs ys i = some r) ∧ Aside0 (kq ≤ k1) ∧ Aside0 (ys.length = nx.length) ∧ Aside0 (Kd.S (Kd.slice 2 (Kd.int .i64)) 34 w' wo.heap.size (fun _ => True) (.slice An nx.length cn) ys) ∧ Aside0 (Below wo.heap.size wo w'))
    case atStart => exact ⟨nx, 0, rfl, H', ⟨Nat.le_refl _⟩, ⟨rfl⟩, HN, HB⟩
    case round =>
     clear H' HN HB
     obtain ⟨ys, i, rfl, HA, HK1, HY, HN, HB⟩ := hrel
     cases gk with
     | zero => exact absurd HA.out (by simp [spec_l09Doubling.l1])
     | succ k2 =>
      have H := HA.out
      clear HA
      simp only [spec_l09Doubling.l1] at H
      by_cases c4 : i < (xs.length : Int)
      ·rw [if_pos c4] at H
       have H' := Aside0.mk H
       have c4b0 : decide (i < (xs.length : Int)) = true := decide_eq_true c4
       clear H c4
       go_wp2
       clear c4b0
       go_loopg [7] k2 (fun kq v34 w' => ∃ (zs : List (List Int)) (y : Int), v34 = .int .i64 y ∧ Aside0 (spec_l09Doubling.l2 kq x xs zs i y = some r) ∧ Aside0 (kq ≤ k2) ∧ Aside0 (zs.length = nx.length) ∧ Aside0 (Kd.S (Kd.slice 2 (Kd.int .i64)) 34 w' wo.heap.size (fun _ => True) (.slice An nx.length cn) zs) ∧ Aside0 (Below wo.heap.size wo w'))
       case atStart => exact ⟨ys, 0, rfl, H', ⟨Nat.le_refl _⟩, HY, HN, HB⟩
       case round =>
        clear H' HN HB HY
        obtain ⟨zs, y, rfl, HA, HK2, HY, HN, HB⟩ := hrel
        cases gk with
        | zero => exact absurd HA.out (by simp [spec_l09Doubling.l2])
        | succ k3 =>
         have H := HA.out
         clear HA
         simp only [spec_l09Doubling.l2] at H
         by_cases c6 : y < (xs.length : Int)
         ·rw [if_pos c6] at H
          by_cases c7 : 0 ≤ i
          ·rw [if_pos c7] at H
           by_cases c8 : i < (xs.length : Int)
           ·rw [if_pos c8] at H
            by_cases c9 : 0 ≤ y
            ·rw [if_pos c9] at H
             by_cases c10 : y < ((rda xs i).length : Int)
             ·rw [if_pos c10] at H
              replace H := Option.bind_eq_some_iff.mp H
              obtain ⟨n1, P1, H⟩ := H
              replace H := Option.bind_eq_some_iff.mp H
              obtain ⟨n2, P2, H⟩ := H
              replace H := Option.bind_eq_some_iff.mp H
              obtain ⟨n3, P3, H⟩ := H
              replace H := Option.bind_eq_some_iff.mp H
              obtain ⟨n4, P4, H⟩ := H
              have H' := Aside0.mk H
              clear H
              obtain ⟨ad, Ar, cr, e1, hx, hl, hi⟩ := at_rda HR.out i c7 c8
              obtain ⟨adr, er, hr⟩ := Kd.at_int hi y c9 c10
              cases er
              cases e1
              replace hx := (HB.out.cell (World.block_lt_of_cell? wo _ hx)).trans hx
              replace hr := (HB.out.cell (World.block_lt_of_cell? wo _ hr)).trans hr
              clear hi hl
              obtain ⟨a1, b1, d1, e1, f1⟩ := put2_some P1
              obtain ⟨g1, q1, cq1, eA1, hnl1, hg1, hc1, hf1, hq1, hl1, hgl1, htr1, hne1, hS1⟩ := rows_at HN.out (i) (y) a1 b1 d1 e1
              replace hS1 := hS1 (wrap64 (4 * rd (rda xs i) y))
              rw [← f1] at hS1
              have hB1 := Below.setCell HB.out (p := ⟨q1, (y).toNat, none⟩) hq1 (.int .i64 (wrap64 (4 * rd (rda xs i) y)))
              obtain ⟨W1, hW1⟩ : ∃ W_ : World, wr.setCell ⟨q1, (y).toNat, none⟩ (.int .i64 (wrap64 (4 * rd (rda xs i) y))) = W_ := ⟨_, rfl⟩
              rw [hW1] at hS1 hB1
              rw [← hnl1] at b1
              have F1 := Aside0.mk f1
              clear f1 hnl1 htr1 hl1 hgl1 hq1 hne1 P1
              obtain ⟨a2, b2, d2, e2, f2⟩ := put2_some P2
              obtain ⟨g2, q2, cq2, eA2, hnl2, hg2, hc2, hf2, hq2, hl2, hgl2, htr2, hne2, hS2⟩ := rows_at hS1 (i) (wrap64 (y + (xs.length : Int))) a2 b2 d2 e2
              replace hS2 := hS2 (wrap64 (wrap64 (4 * rd (rda xs i) y) + 2))
              rw [← f2] at hS2
              have hB2 := Below.setCell hB1 (p := ⟨q2, (wrap64 (y + (xs.length : Int))).toNat, none⟩) hq2 (.int .i64 (wrap64 (wrap64 (4 * rd (rda xs i) y) + 2)))
              obtain ⟨W2, hW2⟩ : ∃ W_ : World, W1.setCell ⟨q2, (wrap64 (y + (xs.length : Int))).toNat, none⟩ (.int .i64 (wrap64 (wrap64 (4 * rd (rda xs i) y) + 2))) = W_ := ⟨_, rfl⟩
              rw [hW2] at hS2 hB2
              rw [← hnl2] at b2
              have F2 := Aside0.mk f2
              clear f2 hnl2 htr2 hl2 hgl2 hq2 hne2 P2
              obtain ⟨a3, b3, d3, e3, f3⟩ := put2_some P3
              obtain ⟨g3, q3, cq3, eA3, hnl3, hg3, hc3, hf3, hq3, hl3, hgl3, htr3, hne3, hS3⟩ := rows_at hS2 (wrap64 (i + (xs.length : Int))) (y) a3 b3 d3 e3
              replace hS3 := hS3 (wrap64 (wrap64 (4 * rd (rda xs i) y) + 3))
              rw [← f3] at hS3
              have hB3 := Below.setCell hB2 (p := ⟨q3, (y).toNat, none⟩) hq3 (.int .i64 (wrap64 (wrap64 (4 * rd (rda xs i) y) + 3)))
              obtain ⟨W3, hW3⟩ : ∃ W_ : World, W2.setCell ⟨q3, (y).toNat, none⟩ (.int .i64 (wrap64 (wrap64 (4 * rd (rda xs i) y) + 3))) = W_ := ⟨_, rfl⟩
              rw [hW3] at hS3 hB3
              rw [← hnl3] at b3
              have F3 := Aside0.mk f3
              clear f3 hnl3 htr3 hl3 hgl3 hq3 hne3 P3
              obtain ⟨a4, b4, d4, e4, f4⟩ := put2_some P4
              obtain ⟨g4, q4, cq4, eA4, hnl4, hg4, hc4, hf4, hq4, hl4, hgl4, htr4, hne4, hS4⟩ := rows_at hS3 (wrap64 (i + (xs.length : Int))) (wrap64 (y + (xs.length : Int))) a4 b4 d4 e4
              replace hS4 := hS4 (wrap64 (wrap64 (4 * rd (rda xs i) y) + 1))
              rw [← f4] at hS4
              have hB4 := Below.setCell hB3 (p := ⟨q4, (wrap64 (y + (xs.length : Int))).toNat, none⟩) hq4 (.int .i64 (wrap64 (wrap64 (4 * rd (rda xs i) y) + 1)))
              obtain ⟨W4, hW4⟩ : ∃ W_ : World, W3.setCell ⟨q4, (wrap64 (y + (xs.length : Int))).toNat, none⟩ (.int .i64 (wrap64 (wrap64 (4 * rd (rda xs i) y) + 1))) = W_ := ⟨_, rfl⟩
              rw [hW4] at hS4 hB4
              rw [← hnl4] at b4
              have F4 := Aside0.mk f4
              clear f4 hnl4 htr4 hl4 hgl4 hq4 hne4 P4
              cases eA1
              cases eA2
              cases eA3
              cases eA4
              have hS5 := Aside0.mk hS4
              have hB5 := Aside0.mk hB4
              have HZ := HY
              clear hS1 hS2 hS3 hS4 hB1 hB2 hB3 hB4 HN HB HY
              have z0 : decide (0 ≤ i) = true := decide_eq_true c7
              have y0 := eq_true c7
              have z1 : decide (i < (xs.length : Int)) = true := decide_eq_true c8
              have y1 := eq_true c8
              have z2 : decide (0 ≤ y) = true := decide_eq_true c9
              have y2 := eq_true c9
              have z3 : decide (y < ((rda xs i).length : Int)) = true := decide_eq_true c10
              have y3 := eq_true c10
              have z4 : decide (y < (xs.length : Int)) = true := decide_eq_true c6
              have y4 := eq_true c6
              have z6 : decide (i < (nx.length : Int)) = true := decide_eq_true b1
              have y6 := eq_true b1
              have z8 : decide (y < ((rda zs (i)).length : Int)) = true := decide_eq_true e1
              have y8 := eq_true e1
              have z11 : decide (0 ≤ wrap64 (y + (xs.length : Int))) = true := decide_eq_true d2
              have y11 := eq_true d2
              have z12 : decide (wrap64 (y + (xs.length : Int)) < ((rda n1 (i)).length : Int)) = true := decide_eq_true e2
              have y12 := eq_true e2
              have z13 : decide (0 ≤ wrap64 (i + (xs.length : Int))) = true := decide_eq_true a3
              have y13 := eq_true a3
              have z14 : decide (wrap64 (i + (xs.length : Int)) < (nx.length : Int)) = true := decide_eq_true b3
              have y14 := eq_true b3
              have z16 : decide (y < ((rda n2 (wrap64 (i + (xs.length : Int)))).length : Int)) = true := decide_eq_true e3
              have y16 := eq_true e3
              have z20 : decide (wrap64 (y + (xs.length : Int)) < ((rda n3 (wrap64 (i + (xs.length : Int)))).length : Int)) = true := decide_eq_true e4
              have y20 := eq_true e4
              clear c7 c8 c9 c10 c6 a1 b1 d1 e1 a2 b2 d2 e2 a3 b3 d3 e3 a4 b4 d4 e4
              go_wp2
              go_roundg k3
              case measure => have := HK1.out; have := HK2.out; omega
              case rel => exact ⟨n4, wrap64 (y + 1), rfl, H', ⟨by have := HK1.out; have := HK2.out; omega⟩, ⟨by have := HZ.out; rw [F4.out, F3.out, F2.out, F1.out]; simp only [List.length_set]; exact this⟩, hS5, hB5⟩
             ·rw [if_neg c10] at H
              exact absurd H (by simp)
            ·rw [if_neg c9] at H
             exact absurd H (by simp)
           ·rw [if_neg c8] at H
            exact absurd H (by simp)
          ·rw [if_neg c7] at H
           exact absurd H (by simp)
         ·rw [if_neg c6] at H
          have c6b0 : decide (y < (xs.length : Int)) = false := decide_eq_false c6
          clear c6
          have H' := Aside0.mk H
          clear H
          go_wp2
          go_roundg k3
          case measure => have := HK1.out; have := HK2.out; omega
          case rel => exact ⟨zs, wrap64 (i + 1), rfl, H', ⟨by have := HK1.out; have := HK2.out; omega⟩, HY, HN, HB⟩
      ·rw [if_neg c4] at H
       have c4b0 : decide (i < (xs.length : Int)) = false := decide_eq_false c4
       clear c4
       have H' := Aside0.mk H
       clear H
       go_wp2
       go_roundg k2
       case measure => have := HK.out; have := HK1.out; omega
       case rel => exact ⟨An, cn, ys, wrap64 (x - 1), by rw [HY.out], rfl, H', ⟨by have := HK.out; have := HK1.out; omega⟩, ⟨by rw [HY.out]; exact Kd.S_lower HN.out (below_size BB.out)⟩, ⟨below_step BB.out HB.out⟩⟩
   ·rw [if_neg c3] at H
    have c3b0 : decide (0 < x) = false := decide_eq_false c3
    clear c3
    have H2 := Option.some.inj H
    subst H2
    clear H
    go_wp2
    go_ret
    exact ⟨_, rfl, HO.out, HB.out⟩
end Go.Proofs.Ytckonklpdepgoaa.Q
namespace Go.Proofs.Ytckonklpdepgoaa.Q
open Go.RowKit Go.Proofs.YtckonklpdepgoaaW.PrintWords Go.Proofs.YtckonklpdepgoaaW.PrintLast Go.Proofs.YtckonklpdepgoaaW.PrintMore
attribute [local go_sem] max2_int min2_int max_two min_two max_three min_three max_four min_four   -- for this text's walks alone
set_option linter.unusedVariables false
set_option linter.unusedSimpArgs false
def spec_DoublingMask.f (k : Nat) (a0 : Int) : Option ((List (List Int)) × Bool) := (spec_l09Order.f a0).bind fun t111 => (if t111 = true then ((spec_l09Doubling.f k a0).bind fun t112 => (some (t112, true))) else (some (([] : List (List Int)), false)))
theorem spec_DoublingMask.mono : ∀ a0 k, LeO (spec_DoublingMask.f k a0) (spec_DoublingMask.f (k + 1) a0) := by
 intro a0 k
 unfold spec_DoublingMask.f
 repeat' first
   | (with_reducible exact spec_l09Doubling.mono _ _)
   | (with_reducible exact LeO.refl _)
   | (with_reducible exact LeO.none _)
   | (with_reducible refine LeO.ite ?_ ?_)
   | (with_reducible refine LeO.bind ?_ (fun _ => ?_))
   | exact spec_l09Doubling.mono _ _
   | exact LeO.none _
   | refine LeO.ite ?_ ?_
   | refine LeO.bind ?_ (fun _ => ?_)
set_option maxHeartbeats 8000000 in
set_option maxRecDepth 100000 in
theorem spec_DoublingMask.calls (k : Nat) (a0 : Int) (r1 : List (List Int)) (r2 : Bool) (w : World) (h : spec_DoublingMask.f k a0 = some (r1, r2)) :
  Calls Try.prog 15 #[.int .i64 a0] w fun e w' => ∃ v0_ : Value, e = .returned (.tuple #[v0_, .bool r2]) ∧ Kd.S (Kd.slice 2 (Kd.int .i64)) 34 w' w.heap.size (fun _ => True) v0_ r1 ∧ Below w.heap.size w w' := by
 have HB := Aside0.mk (Below.refl w.heap.size w)
 have H : ((spec_l09Order.f a0).bind fun t111 => (if t111 = true then ((spec_l09Doubling.f k a0).bind fun t112 => (some (t112, true))) else (some (([] : List (List Int)), false)))) = some (r1, r2) := h
 clear h
 replace H := Option.bind_eq_some_iff.mp H
 obtain ⟨t111, A20, H⟩ := H
 replace H : (if t111 = true then ((spec_l09Doubling.f k a0).bind fun t112 => (some (t112, true))) else (some (([] : List (List Int)), false))) = some (r1, r2) := H
 have A2 := Aside0.mk A20
 clear A20
 by_cases c3 : t111 = true
 ·subst c3
  have H1 : ((spec_l09Doubling.f k a0).bind fun t112 => (some (t112, true))) = some (r1, r2) := by rw [if_pos rfl] at H; exact H
  clear H
  have H := H1
  clear H1
  replace H := Option.bind_eq_some_iff.mp H
  obtain ⟨t112, A40, H⟩ := H
  replace H : (some (t112, true)) = some (r1, r2) := H
  have A4 := Aside0.mk A40
  clear A40
  simp only [Option.some.injEq, Prod.mk.injEq] at H
  obtain ⟨rfl, rfl⟩ := H
  go_enter Try.func15, Try.ntmps15
  go_wp2_with (first | ((with_reducible refine gate_callee (f := 58) rfl ?_); refine goesL_ (some 5) rfl rfl Try.func58 (by kernel_rfl) rfl #[.int .i64 a0] rfl (by (try simp only [List.map_toArray, List.map_cons, List.map_nil]); first | done | rfl | (simp only [List.length_drop, List.length_take]; rfl) | (simp only [show ∀ (n_ : Nat) (b_ : Int), Int.tdiv (n_ : Int) b_ = (n_ : Int) / b_ from fun n_ b_ => Int.tdiv_eq_ediv_of_nonneg (Int.natCast_nonneg n_)]; rfl)) ?_; (with_reducible refine (spec_l09Order.calls a0 true _ A2.out).mono ?_); rintro e w' ⟨rfl, ⟨nd, rfl⟩⟩; refine ⟨_, rfl, ?_⟩) | ((with_reducible refine gate_callee (f := 59) rfl ?_); refine goesL_ (some 8) rfl rfl Try.func59 (by kernel_rfl) rfl #[.int .i64 a0] rfl (by (try simp only [List.map_toArray, List.map_cons, List.map_nil]); first | done | rfl | (simp only [List.length_drop, List.length_take]; rfl) | (simp only [show ∀ (n_ : Nat) (b_ : Int), Int.tdiv (n_ : Int) b_ = (n_ : Int) / b_ from fun n_ b_ => Int.tdiv_eq_ediv_of_nonneg (Int.natCast_nonneg n_)]; rfl)) ?_; (with_reducible refine (spec_l09Doubling.calls k a0 t112 _ A4.out).mono ?_); rintro e w5 ⟨v113, rfl, ho0, hb⟩; refine ⟨_, rfl, ?_⟩; have n0_ := Aside0.mk (Kd.S_lower ho0 (below_size (by repeat (first | (with_reducible first | exact HB.out | apply below_alloc | apply pw_below_drewN | apply below_drew1) | exact HB.out)))); have n1_ := Aside0.mk (below_step (by repeat (first | (with_reducible first | exact HB.out | apply below_alloc | apply pw_below_drewN | apply below_drew1) | exact HB.out)) hb); clear HB; have HO114 := n0_; have HB := n1_; clear n0_ n1_; (try clear hb); (try clear hb2); (try clear hk); (try clear hi); (try clear ho0)))
  go_ret2
  exact ⟨_, by first | rfl | (simp [errW_none, errW_some] <;> rfl) | (simp [*, errW_none, errW_some] <;> rfl), by (with_reducible repeat (first | apply Kd.S_alloc | apply Kd.S_drewN | apply Kd.S_drew)); exact HO114.out, by repeat (first | (with_reducible first | exact HB.out | apply below_alloc | apply pw_below_drewN | apply below_drew1) | exact HB.out)⟩
 ·replace c3 := Bool.eq_false_iff.mpr c3
  subst c3
  have H1 : (some (([] : List (List Int)), false)) = some (r1, r2) := by rw [if_neg (show ¬ (false = true) by decide)] at H; exact H
  clear H
  have H := H1
  clear H1
  simp only [Option.some.injEq, Prod.mk.injEq] at H
  obtain ⟨rfl, rfl⟩ := H
  go_enter Try.func15, Try.ntmps15
  go_wp2_with (first | ((with_reducible refine gate_callee (f := 58) rfl ?_); refine goesL_ (some 5) rfl rfl Try.func58 (by kernel_rfl) rfl #[.int .i64 a0] rfl (by (try simp only [List.map_toArray, List.map_cons, List.map_nil]); first | done | rfl | (simp only [List.length_drop, List.length_take]; rfl) | (simp only [show ∀ (n_ : Nat) (b_ : Int), Int.tdiv (n_ : Int) b_ = (n_ : Int) / b_ from fun n_ b_ => Int.tdiv_eq_ediv_of_nonneg (Int.natCast_nonneg n_)]; rfl)) ?_; (with_reducible refine (spec_l09Order.calls a0 false _ A2.out).mono ?_); rintro e w' ⟨rfl, ⟨nd, rfl⟩⟩; refine ⟨_, rfl, ?_⟩))
  go_ret2
  exact ⟨_, by first | rfl | (simp [errW_none, errW_some] <;> rfl) | (simp [*, errW_none, errW_some] <;> rfl), by first | exact Kd.S_nil _ _ _ _ _ | exact Kd.N_nil _ _ _ _ _ | exact Kd.V_nil _ _ _ _ _ | exact Kd.Q_nil _ _ _ _ _ | exact Kd.R_nil _ _ _ _ _, by repeat (first | (with_reducible first | exact HB.out | apply below_alloc | apply pw_below_drewN | apply below_drew1) | exact HB.out)⟩
def impl_within.f (a0 : Int) (a1 : Int) (a2 : Int) : Option (Bool) := if a1 ≤ a0 then (some (decide (a0 ≤ a2))) else (some false)
set_option maxHeartbeats 8000000 in
set_option maxRecDepth 100000 in
theorem impl_within.calls (a0 : Int) (a1 : Int) (a2 : Int) (r : Bool) (w : World) (h : impl_within.f a0 a1 a2 = some r) :
  Calls Try.prog 60 #[.int .i64 a0, .int .i64 a1, .int .i64 a2] w fun e w' => e = .returned (.bool r) ∧ Drawn0 w w' := by
 have H : (if a1 ≤ a0 then (some (decide (a0 ≤ a2))) else (some false)) = some r := h
 clear h
 by_cases c4 : a1 ≤ a0
 ·rw [if_pos c4] at H
  have c4b0 : decide (a1 ≤ a0) = true := decide_eq_true c4
  clear c4
  obtain rfl := Option.some.inj H
  go_enter Try.func60, Try.ntmps60
  go_wp2
  go_ret
  exact ⟨by first | rfl | (simp; done) | (simp [*]; done), by repeat (first | exact Drawn0.refl _ | apply Drawn0.step)⟩
 ·rw [if_neg c4] at H
  have c4b0 : decide (a1 ≤ a0) = false := decide_eq_false c4
  clear c4
  obtain rfl := Option.some.inj H
  go_enter Try.func60, Try.ntmps60
  go_wp2
  go_ret
  exact ⟨by first | rfl | (simp; done) | (simp [*]; done), by repeat (first | exact Drawn0.refl _ | apply Drawn0.step)⟩
end Go.Proofs.Ytckonklpdepgoaa.Q
namespace Go.Proofs.Ytckonklpdepgoaa.Q
open Go.RowKit Go.Proofs.YtckonklpdepgoaaW.PrintWords Go.Proofs.YtckonklpdepgoaaW.PrintLast Go.Proofs.YtckonklpdepgoaaW.PrintMore
attribute [local go_sem] max2_int min2_int max_two min_two max_three min_three max_four min_four   -- for this text's walks alone
set_option linter.unusedVariables false
set_option linter.unusedSimpArgs false
abbrev OC : Type := { v : Value // v.oneCell' = true }
def kv : Kd OC := Kd.scalar (fun v : OC => v.1) (fun v => v.2)
def ocNil : OC := ⟨.slice none 0 0, rfl⟩
def sv (b : Nat) : Value := .slice (some ⟨b, 0, none⟩) 2 2
def ov (b : Nat) : OC := ⟨sv b, rfl⟩
set_option maxHeartbeats 4000000 in
set_option maxRecDepth 100000 in
theorem rws_grow (n : Nat) (w : World) (hn : n ≤ 1000000000) : Calls Try.prog 107 #[.slice none 0 0, .int .i64 n] w fun e w' => ∃ v : Value, e = .returned v ∧ Kd.R kv 34 w' w.heap.size (fun _ => True) v ([] : List OC) ∧ Below w.heap.size w w' := by
 by_cases h0 : n = 0
 ·subst h0
  go_enter Try.func107, Try.ntmps107
  go_wp2
  go_ret
  exact ⟨_, rfl, Kd.R_nil _ _ _ _ _, Below.refl _ _⟩
 ·have h1 : (0 : Int) < (n : Int) := by omega
  have hb : (n : Int) ≤ 1000000000 := by omega
  have HN := Aside0.mk hn
  have hci := (show (Try.prog.info? 34).map (fun i => (i.zero, i.size, i.bytes)) = some (some (.slice none 0 0), 1, 24) from by kernel_rfl)
  have HCI := Aside0.mk hci
  obtain ⟨i0, hi, hz0⟩ := Option.map_eq_some_iff.1 hci
  have HI := Aside0.mk hi
  clear h0 hn hci hi hz0
  go_enter Try.func107, Try.ntmps107
  go_wp2_with ((with_reducible refine gate_dst (N := 22) rfl ?_); refine Kd.R_append_zeros kv w.heap.size ?hg (.tmp 20) (.tmp 21) 22 3 34 (.slice none 0 0) 24 ?ho Try.underlying22 (k := .i64) ?hti HCI.out rfl (by decide) (by decide) (.slice none 0 0) [] (ocNil) (kx := .i64) (n : Int) (fun _ => True) ?hs ?hx rfl (fun _ _ => trivial) (Kd.R_nil _ _ _ _ _) ?h0 (Below.refl _ _) (Nat.le_refl _) ?hl ?_; (case hg => rfl); (case ho => rfl); (case hti => exact Try.underlying3); (case hs => rfl); (case hx => rfl); (case h0 => omega); (case hl => (have := HN.out; simp <;> omega)); intro v1 w1 hr hb1 hg_ hat_; have HR := Aside0.mk hr; have HB := Aside0.mk hb1; clear hr hb1 hg_ hat_; obtain ⟨A1, c1, e1⟩ := Kd.R_slice HR.out; subst e1; have hcut := cut_to (P := Try.prog) 22 34 .i64 Try.underlying22 HI.out A1 (([] : List OC) ++ List.replicate (n : Int).toNat (ocNil)).length c1 0 (by omega) (by omega) (Kd.R_reads' HR.out).2.1)
  go_ret
  exact ⟨.slice A1 0 c1, rfl, Kd.R_take (xs := ([] : List OC) ++ List.replicate (n : Int).toNat (ocNil)) (m := 0) HR.out (Nat.zero_le _), HB.out⟩
def rws_tl (ls : List (List OC)) (kk : Nat) : Nat := (ls.take kk).flatten.length
set_option maxHeartbeats 4000000 in
set_option maxRecDepth 100000 in
theorem rws_concat (A0 : Option Addr) (c0 : Nat) (ls : List (List OC)) (w : World) (hr : Kd.C (Kd.slice 34 kv) w A0 ls.length ls) (hn : ls.flatten.length ≤ 1000000000) :
  Calls Try.prog 66 #[.slice A0 ls.length c0] w fun e w' => ∃ v : Value, e = .returned v ∧ Kd.R kv 34 w' w.heap.size (fun _ => True) v ls.flatten ∧ Below w.heap.size w w' := by
 have hbig : ls.length ≤ 9223372036854775807 := hr.2.1
 have HR := Aside0.mk hr
 have HN := Aside0.mk hn
 have hci := (show (Try.prog.info? 34).map (fun i => (i.zero, i.size, i.bytes)) = some (some (.slice none 0 0), 1, 24) from by kernel_rfl)
 have HCI := Aside0.mk hci
 clear hr hn hci
 go_enter Try.func66, Try.ntmps66
 go_wp2
 go_loopg [3, 11] ls.length (fun gg s3 s11 wr => ∃ kk : Nat, kk ≤ ls.length ∧ ls.length - kk ≤ gg ∧ s11 = .int .i64 kk ∧ s3 = .int .i64 (rws_tl ls kk : Nat) ∧ w = wr)
 case atStart => exact ⟨0, Nat.zero_le _, by omega, rfl, rfl, rfl⟩
 case round =>
  obtain ⟨kk, hkk, hg, rfl, rfl, rfl⟩ := hrel
  by_cases hlt : kk < ls.length
  ·have hltz : (kk : Int) < (ls.length : Int) := by omega
   obtain ⟨ad, rfl, hcs⟩ := HR.out.2.2 (by omega)
   obtain ⟨cs, hl1, hk1, hc1⟩ := hcs kk _ (List.getElem?_eq_getElem hlt)
   obtain ⟨A1, c1, rfl, hlc, hcr⟩ := hk1
   have hcell := hc1 0 _ rfl
   simp only [show (Kd.slice 34 kv).sz = 1 from rfl, Nat.mul_one, Nat.add_zero] at hcell
   have hsum : (ls.take (kk + 1)).flatten.length = (ls.take kk).flatten.length + ls[kk].length := by rw [List.take_succ_eq_append_getElem hlt, List.flatten_append]; simp
   have hle : (ls.take (kk + 1)).flatten.length ≤ ls.flatten.length := by
    have h := congrArg (fun l => (List.flatten l).length) (List.take_append_drop (kk + 1) ls)
    simp only [List.flatten_append, List.length_append] at h
    omega
   have hnn := HN.out
   change rws_tl ls (kk + 1) = rws_tl ls kk + ls[kk].length at hsum
   change rws_tl ls (kk + 1) ≤ ls.flatten.length at hle
   generalize hm : rws_tl ls (kk + 1) = m at hsum hle
   generalize hm0 : rws_tl ls kk = m0 at hsum ⊢
   generalize hy : ls[kk].length = y at hcell hsum
   have hm1 : (m0 : Int) + (y : Int) ≤ 1000000000 := by omega
   have HM := Aside0.mk hm
   have HS := Aside0.mk hsum
   clear hcs hc1 hl1 hlc hcr hm hm0 hsum hle hnn hy
   go_wp2
   go_roundg (ls.length - (kk + 1))
   case measure => omega
   case rel => exact ⟨kk + 1, by omega, by omega, by go_num, by rw [HM.out, HS.out]; go_num, rfl⟩
  ·have : kk = ls.length := by omega
   subst this
   have hm : rws_tl ls ls.length = ls.flatten.length := by unfold rws_tl; rw [List.take_length]
   rw [hm]
   have hnn := HN.out
   clear hm
   obtain ⟨NN, hNN⟩ : ∃ N_ : Nat, ls.flatten.length = N_ := ⟨_, rfl⟩
   rw [hNN] at hnn ⊢
   have HNN := Aside0.mk hnn
   clear hNN
   go_wp2_with (go_at_call 107; refine (rws_grow NN _ HNN.out).mono ?_; rintro e w2 ⟨v2, rfl, hr2, hb2⟩)
   have HV := Aside0.mk hr2
   have HB := Aside0.mk hb2
   clear hr2 hb2
   go_loopg [6, 27] ls.length (fun gg s6 s27 w' => ∃ kk : Nat, kk ≤ ls.length ∧ ls.length - kk ≤ gg ∧ s27 = .int .i64 kk ∧ Aside0 (Kd.R kv 34 w' w.heap.size (fun _ => True) s6 (ls.take kk).flatten) ∧ Aside0 (Below w.heap.size w w'))
   case atStart => exact ⟨0, Nat.zero_le _, by omega, rfl, by rw [List.take_zero, List.flatten_nil]; exact HV, HB⟩
   case round =>
    clear HV HB
    obtain ⟨kk, hkk, hg, rfl, HV, HB⟩ := hrel
    by_cases hlt : kk < ls.length
    ·have hltz : (kk : Int) < (ls.length : Int) := by omega
     have HC := Kd.C_below HR.out HB.out
     obtain ⟨ad, rfl, hcs⟩ := HC.2.2 (by omega)
     obtain ⟨cs, hl1, hk1, hc1⟩ := hcs kk _ (List.getElem?_eq_getElem hlt)
     obtain ⟨A1, c1, rfl, hlc, hcr⟩ := hk1
     have hcell := hc1 0 _ rfl
     simp only [show (Kd.slice 34 kv).sz = 1 from rfl, Nat.mul_one, Nat.add_zero] at hcell
     have hsum : (ls.take (kk + 1)).flatten = (ls.take kk).flatten ++ ls[kk] := by rw [List.take_succ_eq_append_getElem hlt, List.flatten_append]; simp
     have hle : (ls.take (kk + 1)).flatten.length ≤ ls.flatten.length := by
      have h := congrArg (fun l => (List.flatten l).length) (List.take_append_drop (kk + 1) ls)
      simp only [List.flatten_append, List.length_append] at h
      omega
     rw [hsum] at hle
     generalize hm : (ls.take (kk + 1)).flatten = m at hsum
     generalize hm0 : (ls.take kk).flatten = m0 at hsum hle HV
     generalize hy : ls[kk] = y at hcell hsum hle hcr
     have HM := Aside0.mk hm
     have HS := Aside0.mk hsum
     have HCR := Aside0.mk hcr
     have HLE := Aside0.mk hle
     clear hcs hc1 hl1 hlc hcr hm hm0 hsum hle hy HC
     go_wp2_with ((with_reducible refine gate_dst (N := 33) rfl ?_); refine Kd.R_append_rows kv (Rr := fun x cs => cs = [Subtype.val x]) w.heap.size ?hg (.tmp 31) (.tmp 32) 22 34 (.slice none 0 0) 24 ?ho Try.underlying22 HCI.out rfl (by decide) (by decide) _ m0 y A1 y.length c1 (fun _ => True) (fun _ => False) ?hs ?hx HV.out HCR.out (fun x cs h => h) (fun k h => h.elim) (fun _ _ => trivial) HB.out HB.out.size ?hl ?_; (case hg => rfl); (case ho => rfl); (case hs => rfl); (case hx => rfl); (case hl => (have h1 := HLE.out; have h2 := HN.out; rw [List.length_append] at h1; omega)); intro v1 w1 hr hb1 hg_ hat_; have HV1 := Aside0.mk hr; have HB1 := Aside0.mk hb1; clear hr hb1 hg_ hat_)
     go_roundg (ls.length - (kk + 1))
     case measure => omega
     case rel => exact ⟨kk + 1, by omega, by omega, by go_num, by rw [HM.out, HS.out]; exact HV1, HB1⟩
    ·have : kk = ls.length := by omega
     subst this
     rw [List.take_length] at HV
     go_wp2
     go_ret
     exact ⟨_, rfl, HV.out, HB.out⟩
end Go.Proofs.Ytckonklpdepgoaa.Q
namespace Go.Proofs.Ytckonklpdepgoaa.Q
open Go.RowKit Go.Proofs.YtckonklpdepgoaaW.PrintWords Go.Proofs.YtckonklpdepgoaaW.PrintLast Go.Proofs.YtckonklpdepgoaaW.PrintMore
attribute [local go_sem] max2_int min2_int max_two min_two max_three min_three max_four min_four   -- for this text's walks alone
set_option linter.unusedVariables false
set_option linter.unusedSimpArgs false
def RowsAt (w : World) (base : Nat) (bs : List Nat) (ps : List (List Int)) : Prop := bs.length = ps.length ∧ ∀ (i b : Nat), bs[i]? = some b → ∃ x y : Int, base ≤ b ∧ w.heap[b]? = some (.cells #[.int .i64 x, .int .i64 y] 2 (0, 0)) ∧ ps[i]? = some [x, y]
theorem RowsAt.move {w w1 : World} {base : Nat} {bs : List Nat} {ps : List (List Int)} (h : RowsAt w base bs ps) (hm : ∀ (b : Nat) (cs : Array Value), w.heap[b]? = some (Obj.cells cs 2 (0, 0)) → w1.heap[b]? = some (Obj.cells cs 2 (0, 0))) : RowsAt w1 base bs ps :=
 ⟨h.1, fun i b hb => by
  obtain ⟨x, y, h1, h2, h3⟩ := h.2 i b hb
  exact ⟨x, y, h1, hm _ _ h2, h3⟩⟩
theorem RowsAt.below {w w1 : World} {base : Nat} {bs : List Nat} {ps : List (List Int)} (h : RowsAt w base bs ps) (hb : Below w.heap.size w w1) : RowsAt w1 base bs ps := h.move (fun b cs h1 => blk_below h1 hb)
theorem RowsAt.snoc {w : World} {base : Nat} {bs : List Nat} {ps : List (List Int)} (h : RowsAt w base bs ps) {b : Nat} {x y : Int} (h1 : base ≤ b) (h2 : w.heap[b]? = some (.cells #[.int .i64 x, .int .i64 y] 2 (0, 0))) : RowsAt w base (bs ++ [b]) (ps ++ [[x, y]]) := by
 refine ⟨by rw [List.length_append, List.length_append, h.1]; rfl, fun i b' hb => ?_⟩
 by_cases c : i < bs.length
 ·rw [List.getElem?_append_left c] at hb
  obtain ⟨x', y', k1, k2, k3⟩ := h.2 i b' hb
  exact ⟨x', y', k1, k2, by rw [List.getElem?_append_left (by rw [← h.1]; exact c)]; exact k3⟩
 ·rw [List.getElem?_append_right (by omega)] at hb
  have : i - bs.length = 0 := by
   cases hq : i - bs.length with
   | zero => rfl
   | succ n => rw [hq] at hb; simp at hb
  rw [this] at hb
  have hb' : b = b' := by simpa using hb
  subst hb'
  exact ⟨x, y, h1, h2, by rw [List.getElem?_append_right (by rw [← h.1]; omega), ← h.1, this]; rfl⟩
theorem RowsAt.app {w : World} {base : Nat} {bs bs' : List Nat} {ps ps' : List (List Int)} (h : RowsAt w base bs ps) (h' : RowsAt w base bs' ps') : RowsAt w base (bs ++ bs') (ps ++ ps') := by
 refine ⟨by rw [List.length_append, List.length_append, h.1, h'.1], fun i b hb => ?_⟩
 by_cases c : i < bs.length
 ·rw [List.getElem?_append_left c] at hb
  obtain ⟨x', y', k1, k2, k3⟩ := h.2 i b hb
  exact ⟨x', y', k1, k2, by rw [List.getElem?_append_left (by rw [← h.1]; exact c)]; exact k3⟩
 ·rw [List.getElem?_append_right (by omega)] at hb
  obtain ⟨x', y', k1, k2, k3⟩ := h'.2 _ b hb
  exact ⟨x', y', k1, k2, by rw [List.getElem?_append_right (by rw [← h.1]; omega), ← h.1]; exact k3⟩
theorem RowsAt.lt {w : World} {base : Nat} {bs : List Nat} {ps : List (List Int)} (h : RowsAt w base bs ps) {b : Nat} (hb : b ∈ bs) : b < w.heap.size := by
 obtain ⟨i, hi, rfl⟩ := List.getElem_of_mem hb
 obtain ⟨x, y, _, h2, _⟩ := h.2 i _ (List.getElem?_eq_getElem hi)
 exact blk_lt h2
def Hilb (w : World) (base : Nat) (v : Value) (bs : List Nat) (xs : List (List Int)) : Prop := kv.R 34 w base (fun _ => True) v (bs.map ov) ∧ RowsAt w base bs xs ∧ bs.Nodup
theorem own_rowOf {w : World} {base b : Nat} {x y : Int} (h1 : base ≤ b) (h2 : w.heap[b]? = some (.cells #[.int .i64 x, .int .i64 y] 2 (0, 0))) : w.ownsRow base 2 1 (sv b) 2 [.int .i64 x, .int .i64 y] :=
 ⟨rfl, .inr ⟨b, 2, #[.int .i64 x, .int .i64 y], rfl, h1, h2, Nat.le_refl _, by decide, rfl, rfl⟩⟩
theorem Hilb.S {w : World} {base : Nat} {v : Value} {bs : List Nat} {xs : List (List Int)} (h : Hilb w base v bs xs) : Kd.S (Kd.slice 2 (Kd.int .i64)) 34 w base (fun _ => True) v xs := by
 obtain ⟨hr, ha, hn⟩ := h
 have hty := Kd.R_typed hr
 have hown := Kd.own_of_R hr
 have hlen : (bs.map ov).length = xs.length := by rw [List.length_map, ha.1]
 refine ⟨fun b => bs.idxOf b, fun k _ => trivial, (bs.map ov).map (fun v : OC => v.1), ?_, ?_, fun j p hj => ?_⟩
 ·rw [List.length_zipIdx, ← hlen]
  exact hown
 ·rw [List.length_map, List.length_zipIdx, hlen]
  exact (Nat.mul_one _).symm
 ·rw [List.getElem?_zipIdx, Nat.zero_add] at hj
  obtain ⟨q, hq, rfl⟩ := Option.map_eq_some_iff.1 hj
  have hjl : j < bs.length := by rw [ha.1]; exact (List.getElem?_eq_some_iff.1 hq).1
  obtain ⟨x, y, h1, h2, h3⟩ := ha.2 j _ (List.getElem?_eq_getElem hjl)
  rw [hq] at h3
  have hq' := Option.some.inj h3
  subst hq'
  have hcell : (((bs.map ov).map (fun v : OC => v.1)).drop (j * 1)).take 1 = [sv bs[j]] := by
   rw [Nat.mul_one, List.drop_eq_getElem_cons (by simpa using hjl), List.take_succ_cons, List.take_zero]
   simp [ov]
  have hgoal : (Kd.slice 2 (Kd.int .i64)).M w base (fun k => (True ∧ some k ≠ v.ownBlock) ∧ bs.idxOf k = j) [x, y] [sv bs[j]] := by
   refine ⟨sv bs[j], rfl, Kd.R_of_own (own_rowOf h1 h2) (fun k hk => ?_)⟩
   have hk' : bs[j] = k := by simpa [sv, Value.ownBlock] using hk
   subst hk'
   refine ⟨⟨trivial, fun he => ?_⟩, ?_⟩
   ·obtain ⟨cells, hc⟩ := hty _ he.symm
    rw [h2] at hc
    injection hc with hc
    injection hc with _ hc
    cases hc
   ·exact List.Nodup.idxOf_getElem hn j hjl
  rw [← hcell] at hgoal
  exact hgoal
def upd4 {α : Type} (f : Nat → α) (j : Nat) (a : α) : Nat → α := fun i => if i = j then a else f i
def PS (w : World) (base bp : Nat) (vs : Nat → Value) (bs : Nat → List Nat) (ps : Nat → List (List Int)) : Prop :=
 base ≤ bp ∧ w.heap[bp]? = some (.cells #[vs 0, vs 1, vs 2, vs 3] 82 (0, 0)) ∧ (∀ j, j < 4 → kv.R 34 w base (fun _ => True) (vs j) ((bs j).map ov) ∧ RowsAt w base (bs j) (ps j)) ∧
 (∀ i j, i < 4 → j < 4 → i ≠ j → (vs i).ownBlock = none ∨ (vs i).ownBlock ≠ (vs j).ownBlock) ∧ (bs 0 ++ bs 1 ++ bs 2 ++ bs 3).Nodup
theorem PS.congr {w : World} {base bp : Nat} {vs : Nat → Value} {bs : Nat → List Nat} {ps ps' : Nat → List (List Int)} (h : PS w base bp vs bs ps) (e : ∀ q, q < 4 → ps q = ps' q) : PS w base bp vs bs ps' :=
 ⟨h.1, h.2.1, fun j hj => ⟨(h.2.2.1 j hj).1, by rw [← e j hj]; exact (h.2.2.1 j hj).2⟩, h.2.2.2⟩
theorem PS.below {w w1 : World} {base bp : Nat} {vs : Nat → Value} {bs : Nat → List Nat} {ps : Nat → List (List Int)} (h : PS w base bp vs bs ps) (hb : Below w.heap.size w w1) : PS w1 base bp vs bs ps :=
 ⟨h.1, blk_below h.2.1 hb, fun j hj => ⟨Kd.R_below (h.2.2.1 j hj).1 hb, (h.2.2.1 j hj).2.below hb⟩, h.2.2.2⟩
theorem own_R {w : World} {base : Nat} {v : Value} {hs : List OC} (h : kv.R 34 w base (fun _ => True) v hs) : w.ownsRow base 34 1 v hs.length (hs.map (fun v : OC => v.1)) := Kd.own_of_R h
theorem cells_set4 (vs : Nat → Value) (j : Nat) (hj : j < 4) (v : Value) : (#[vs 0, vs 1, vs 2, vs 3] : Array Value).setIfInBounds j v = #[upd4 vs j v 0, upd4 vs j v 1, upd4 vs j v 2, upd4 vs j v 3] := by
 match j, hj with
 | 0, _ => rfl
 | 1, _ => rfl
 | 2, _ => rfl
 | 3, _ => rfl
theorem nodup_mid {A B : List Nat} {b : Nat} (h : (A ++ B).Nodup) (hb : b ∉ A ++ B) : (A ++ [b] ++ B).Nodup := by
 have hp : (A ++ [b] ++ B).Perm (b :: (A ++ B)) := by
  rw [List.append_assoc]
  exact List.perm_middle
 rw [hp.nodup_iff, List.nodup_cons]
 exact ⟨hb, h⟩
theorem PS.nodup {bs : Nat → List Nat} {j b : Nat} (hj : j < 4) (h : (bs 0 ++ bs 1 ++ bs 2 ++ bs 3).Nodup) (hb : ∀ q, q < 4 → b ∉ bs q) : (upd4 bs j (bs j ++ [b]) 0 ++ upd4 bs j (bs j ++ [b]) 1 ++ upd4 bs j (bs j ++ [b]) 2 ++ upd4 bs j (bs j ++ [b]) 3).Nodup := by
 have h0 := hb 0 (by omega)
 have h1 := hb 1 (by omega)
 have h2 := hb 2 (by omega)
 have h3 := hb 3 (by omega)
 match j, hj with
 | 0, _ =>
  have := nodup_mid (A := bs 0) (B := bs 1 ++ bs 2 ++ bs 3) (b := b) (by simpa [List.append_assoc] using h) (by simp [h0, h1, h2, h3])
  simpa [upd4, List.append_assoc] using this
 | 1, _ =>
  have := nodup_mid (A := bs 0 ++ bs 1) (B := bs 2 ++ bs 3) (b := b) (by simpa [List.append_assoc] using h) (by simp [h0, h1, h2, h3])
  simpa [upd4, List.append_assoc] using this
 | 2, _ =>
  have := nodup_mid (A := bs 0 ++ bs 1 ++ bs 2) (B := bs 3) (b := b) (by simpa [List.append_assoc] using h) (by simp [h0, h1, h2, h3])
  simpa [upd4, List.append_assoc] using this
 | 3, _ =>
  have := nodup_mid (A := bs 0 ++ bs 1 ++ bs 2 ++ bs 3) (B := []) (b := b) (by simpa [List.append_assoc] using h) (by simp [h0, h1, h2, h3])
  simpa [upd4, List.append_assoc] using this
theorem R_ty_ne {w : World} {base k : Nat} {v : Value} {hs : List OC} {cs : Array Value} {t : Nat} (h : kv.R 34 w base (fun _ => True) v hs) (hk : w.heap[k]? = some (.cells cs t (0, 0))) (ht : 34 ≠ t) : some k ≠ v.ownBlock := fun e => by
 obtain ⟨cells, hc⟩ := Kd.R_typed h k e.symm
 rw [hk] at hc
 injection hc with hc
 injection hc with _ hc
 exact ht hc.symm
theorem PS.step {w w3 : World} {base bp j : Nat} {vs : Nat → Value} {bs : Nat → List Nat} {ps : Nat → List (List Int)} {x y : Int} {v' : Value} (h : PS w base bp vs bs ps) (hj : j < 4) (hbase : base ≤ w.heap.size)
  (hr : kv.R 34 w3 base (fun _ => True) v' ((bs j).map ov ++ [ov w.heap.size])) (hg : (w.alloc (.cells #[.int .i64 x, .int .i64 y] 2 (0, 0))).grownBy w3 (vs j).ownBlock)
  (hat : v'.ownBlock = (vs j).ownBlock ∨ ∃ b, v'.ownBlock = some b ∧ (w.alloc (.cells #[.int .i64 x, .int .i64 y] 2 (0, 0))).heap.size ≤ b) :
  ∃ vs' bs', PS (w3.setCell ⟨bp, j, none⟩ v') base bp vs' bs' (upd4 ps j (ps j ++ [[x, y]])) := by
 obtain ⟨h1, h2, h3, h4, h5⟩ := h
 obtain ⟨W, hW⟩ : ∃ W, w.alloc (.cells #[.int .i64 x, .int .i64 y] 2 (0, 0)) = W := ⟨_, rfl⟩
 rw [hW] at hg hat
 have hbl : Below w.heap.size w W := by rw [← hW]; exact below_alloc (Below.refl _ _) _
 have hnew : W.heap[w.heap.size]? = some (.cells #[.int .i64 x, .int .i64 y] 2 (0, 0)) := by rw [← hW]; exact blk_new _ _
 have hbpW := blk_below h2 hbl
 have hjR := Kd.R_below (h3 j hj).1 hbl
 have hbp3 : w3.heap[bp]? = some (.cells #[vs 0, vs 1, vs 2, vs 3] 82 (0, 0)) := blk_grown hbpW hg (R_ty_ne hjR hbpW (by decide))
 have hbp4 := blk_set hbp3 j v'
 rw [cells_set4 vs j hj v'] at hbp4
 have rowmove : ∀ (b : Nat) (cs : Array Value), w.heap[b]? = some (Obj.cells cs 2 (0, 0)) → (w3.setCell ⟨bp, j, none⟩ v').heap[b]? = some (Obj.cells cs 2 (0, 0)) := fun b cs hb => by
  have e1 := blk_below hb hbl
  have e2 := blk_grown e1 hg (R_ty_ne hjR e1 (by decide))
  exact blk_far e2 (p := ⟨bp, j, none⟩) (fun e => by
   have e' : b = bp := e
   rw [e', hbp3] at e2
   injection e2 with e2
   injection e2 with _ e2
   cases e2) v'
 have hnew3 : (w3.setCell ⟨bp, j, none⟩ v').heap[w.heap.size]? = some (.cells #[.int .i64 x, .int .i64 y] 2 (0, 0)) := by
  have e2 := blk_grown hnew hg (R_ty_ne hjR hnew (by decide))
  exact blk_far e2 (p := ⟨bp, j, none⟩) (fun e => by have := blk_lt h2; have e' : w.heap.size = bp := e; omega) v'
 have own3 : ∀ {v : Value} {hs : List OC}, kv.R 34 w3 base (fun _ => True) v hs → kv.R 34 (w3.setCell ⟨bp, j, none⟩ v') base (fun _ => True) v hs := fun {v hs} hv =>
  Kd.R_mono (Kd.R_set hv hbp3 (by intro q hq; simp [kv, Kd.scalar] at hq; rw [hq]; decide) j v') (fun _ _ => trivial)
 refine ⟨upd4 vs j v', upd4 bs j (bs j ++ [w.heap.size]), h1, hbp4, fun i hi => ?_, fun i q hi hq hne => ?_, PS.nodup hj h5 (fun q hq hm => ?_)⟩
 ·by_cases e : i = j
  ·subst e
   simp only [upd4, if_true]
   refine ⟨by rw [List.map_append]; exact own3 hr, ((h3 i hi).2.move rowmove).snoc (Nat.le_trans hbase (Nat.le_refl _)) hnew3⟩
  ·simp only [upd4, if_neg e]
   refine ⟨own3 ?_, (h3 i hi).2.move rowmove⟩
   have hi2 := own_other (own_R (Kd.R_below (h3 i hi).1 hbl)) hg (h4 i j hi hj e)
   exact Kd.R_of_own hi2 (fun _ _ => trivial)
 ·have lt : ∀ q, q < 4 → ∀ k, (vs q).ownBlock = some k → k < W.heap.size := fun q hq k hk => by have := Kd.R_lt (h3 q hq).1 k hk; have := hbl.size; omega
  by_cases e : i = j
  ·subst e
   have e2 : ¬ q = i := fun e2 => hne e2.symm
   simp only [upd4, if_true, if_neg e2]
   rcases hat with hat | ⟨b, hb, hge⟩
   ·rw [hat]; exact h4 i q hi hq hne
   ·refine .inr (fun e3 => ?_)
    rw [hb] at e3
    have := lt q hq b e3.symm
    omega
  ·by_cases e2 : q = j
   ·subst e2
    simp only [upd4, if_true, if_neg e]
    rcases hat with hat | ⟨b, hb, hge⟩
    ·rw [hat]; exact h4 i q hi hq hne
    ·refine .inr (fun e3 => ?_)
     rw [hb] at e3
     have := lt i hi b e3
     omega
   ·simp only [upd4, if_neg e, if_neg e2]
    exact h4 i q hi hq hne
 ·have := (h3 q hq).2.lt hm
  omega
theorem PS.start {w : World} {base bp : Nat} (h1 : base ≤ bp) (h2 : w.heap[bp]? = some (.cells #[.slice none 0 0, .slice none 0 0, .slice none 0 0, .slice none 0 0] 82 (0, 0))) : PS w base bp (fun _ => .slice none 0 0) (fun _ => []) (fun _ => []) :=
 ⟨h1, h2, fun j _ => ⟨Kd.R_nil _ _ _ _ _, rfl, fun i b hb => by simp at hb⟩, fun i j _ _ _ => .inl rfl, by simp⟩
theorem PS.cell {w : World} {base bp : Nat} {vs : Nat → Value} {bs : Nat → List Nat} {ps : Nat → List (List Int)} (h : PS w base bp vs bs ps) : w.cell? ⟨bp, 0, none⟩ = some (vs 0) ∧ w.cell? ⟨bp, 1, none⟩ = some (vs 1) ∧ w.cell? ⟨bp, 2, none⟩ = some (vs 2) ∧ w.cell? ⟨bp, 3, none⟩ = some (vs 3) ∧ (∀ j, w.frozen? ⟨bp, j, none⟩ = false) :=
 ⟨blk_cell h.2.1 0, blk_cell h.2.1 1, blk_cell h.2.1 2, blk_cell h.2.1 3, fun j => blk_frozen h.2.1 j⟩
theorem PS.C {w : World} {base bp : Nat} {vs : Nat → Value} {bs : Nat → List Nat} {ps : Nat → List (List Int)} (h : PS w base bp vs bs ps) : Kd.C (Kd.slice 34 kv) w (some ⟨bp, 0, none⟩) 4 [(bs 0).map ov, (bs 1).map ov, (bs 2).map ov, (bs 3).map ov] := by
 refine ⟨rfl, by decide, fun _ => ⟨⟨bp, 0, none⟩, rfl, fun j p hp => ?_⟩⟩
 have hj : j < 4 := by
  have := (List.getElem?_eq_some_iff.1 hp).1
  simpa using this
 have hpj : p = (bs j).map ov := by
  match j, hj with
  | 0, _ => exact (Option.some.inj hp).symm
  | 1, _ => exact (Option.some.inj hp).symm
  | 2, _ => exact (Option.some.inj hp).symm
  | 3, _ => exact (Option.some.inj hp).symm
 subst hpj
 obtain ⟨A, c, e, hl, hc⟩ := Kd.R_reads (h.2.2.1 j hj).1
 refine ⟨[vs j], rfl, ⟨A, c, by rw [e], hl, hc⟩, fun q u hu => ?_⟩
 have hq : q = 0 := by
  cases q with
  | zero => rfl
  | succ n => simp at hu
 subst hq
 have hu' : vs j = u := by simpa using hu
 subst hu'
 show w.cell? ((⟨bp, 0, none⟩ : Addr).add (j * 1 + 0)) = some (vs j)
 rw [add_at, Nat.mul_one, Nat.add_zero, Nat.zero_add, blk_cell h.2.1 j]
 match j, hj with
 | 0, _ => rfl
 | 1, _ => rfl
 | 2, _ => rfl
 | 3, _ => rfl
theorem PS.hilb {w w' : World} {base bp : Nat} {vs : Nat → Value} {bs : Nat → List Nat} {ps : Nat → List (List Int)} {v : Value} (h : PS w base bp vs bs ps) (hb : Below w.heap.size w w') (hbase : base ≤ w.heap.size) (hr : kv.R 34 w' w.heap.size (fun _ => True) v [(bs 0).map ov, (bs 1).map ov, (bs 2).map ov, (bs 3).map ov].flatten) : Hilb w' base v (bs 0 ++ bs 1 ++ bs 2 ++ bs 3) (ps 0 ++ ps 1 ++ ps 2 ++ ps 3) := by
 have r := fun j hj => ((h.2.2.1 j hj).2.below hb)
 refine ⟨?_, ((((r 0 (by omega)).app (r 1 (by omega))).app (r 2 (by omega))).app (r 3 (by omega))), h.2.2.2.2⟩
 have e : ((bs 0 ++ bs 1 ++ bs 2 ++ bs 3).map ov) = [(bs 0).map ov, (bs 1).map ov, (bs 2).map ov, (bs 3).map ov].flatten := by simp [List.flatten_cons]
 rw [e]
 exact Kd.R_lower hr hbase
theorem Hilb.below {w w1 : World} {base : Nat} {v : Value} {bs : List Nat} {xs : List (List Int)} (h : Hilb w base v bs xs) (hb : Below w.heap.size w w1) : Hilb w1 base v bs xs := ⟨Kd.R_below h.1 hb, h.2.1.below hb, h.2.2⟩
theorem Hilb.lower {w : World} {base base' : Nat} {v : Value} {bs : List Nat} {xs : List (List Int)} (h : Hilb w base v bs xs) (hb : base' ≤ base) : Hilb w base' v bs xs := ⟨Kd.R_lower h.1 hb, ⟨h.2.1.1, fun i b hi => by
 obtain ⟨x, y, h1, h2, h3⟩ := h.2.1.2 i b hi
 exact ⟨x, y, by omega, h2, h3⟩⟩, h.2.2⟩
theorem Hilb.at_ {w : World} {base n c : Nat} {A : Option Addr} {bs : List Nat} {xs : List (List Int)} (h : Hilb w base (.slice A n c) bs xs) (i : Nat) (hi : i < xs.length) :
  ∃ g b x y, A = some ⟨g, 0, none⟩ ∧ n = xs.length ∧ w.cell? ⟨g, i, none⟩ = some (.slice (some ⟨b, 0, none⟩) 2 2) ∧ w.cell? ⟨b, 0, none⟩ = some (.int .i64 x) ∧ w.cell? ⟨b, 1, none⟩ = some (.int .i64 y) ∧ xs[i] = [x, y] := by
 obtain ⟨hr, ha, _⟩ := h
 have hn := (Kd.R_reads' hr).1
 rw [List.length_map, ha.1] at hn
 obtain ⟨g, cap', e1, hg1, hg2, _⟩ := Kd.R_form hr (by rw [List.length_map, ha.1]; omega)
 injection e1 with e1 _ e3
 subst e1
 have hib : i < bs.length := by rw [ha.1]; exact hi
 obtain ⟨x, y, h1, h2, h3⟩ := ha.2 i _ (List.getElem?_eq_getElem hib)
 rw [List.getElem?_eq_getElem hi] at h3
 obtain ⟨ad, cc, e2, hl, hK, hc⟩ := Kd.C_get (Kd.R_reads' hr).2.2 ocNil (i : Int) (by omega) (by rw [List.length_map]; omega)
 cases e2
 rw [Int.toNat_natCast] at hK hc
 have hk : cc = [(((bs.map ov).getD i ocNil).1)] := hK
 subst hk
 have h0 := hc 0 _ rfl
 simp only [show kv.sz = 1 from rfl, add_at, Nat.zero_add, Nat.add_zero, Nat.mul_one] at h0
 have e : ((bs.map ov).getD i ocNil).1 = sv bs[i] := by rw [List.getD_eq_getElem?_getD, List.getElem?_map, List.getElem?_eq_getElem hib]; rfl
 rw [e] at h0
 exact ⟨g, bs[i], x, y, rfl, hn, h0, blk_cell h2 0, blk_cell h2 1, Option.some.inj h3⟩
theorem PS.append {P : Program} {ops : Array Oper} {o : Oper} {rest : List Oper} {a : Act} {Q : Exit → Act → World → Prop} {w0 wX : World} {base bp j b : Nat} {vs : Nat → Value} {bs : Nat → List Nat} {ps : Nat → List (List Int)} {x y : Int} (hgd : o.guard = none) (s xo : Operand)
  (ho : o.op = .call { callee := .builtin .append, args := #[s, xo], argTypes := #[22, 22] }) (ht : P.underlying 22 = some (.slice 34)) (hinfo : (P.info? 34).map (fun i => (i.zero, i.size, i.bytes)) = some (some (.slice none 0 0), 1, 24))
  (HP : PS wX base bp vs bs ps) (hsb : wX.heap.size = b) (hs : a.eval s = vs j) (hx : a.eval xo = .slice (some ⟨b + 1, 0, none⟩) 1 1) (hj : j < 4) (HB : Below base w0 wX) (hbase : base ≤ wX.heap.size) (hl : (ps j).length ≤ 1000000)
  (h : ∀ A1 n1 c1 w1 W4 vs' bs' ps', w1.setCell ⟨bp, j, none⟩ (.slice A1 n1 c1) = W4 → upd4 ps j (ps j ++ [[x, y]]) = ps' → PS W4 base bp vs' bs' ps' → Below base w0 W4 → w1.cell? ⟨bp, j, none⟩ = some (vs j) → w1.frozen? ⟨bp, j, none⟩ = false → wpList P ops Q rest (a.put o.dst (.slice A1 n1 c1)) w1) :
  wpList P ops Q (o :: rest) a ((wX.alloc (.cells #[.int .i64 x, .int .i64 y] 2 (0, 0))).alloc (.cells #[.slice (some ⟨b, 0, none⟩) 2 2] 34 (0, 0))) := by
 subst hsb
 have hbl : Below wX.heap.size wX (wX.alloc (.cells #[.int .i64 x, .int .i64 y] 2 (0, 0))) := below_alloc (Below.refl _ _) _
 have hjR := Kd.R_below (HP.2.2.1 j hj).1 hbl
 have hsz : (wX.alloc (.cells #[.int .i64 x, .int .i64 y] 2 (0, 0))).heap.size = wX.heap.size + 1 := Array.size_push _
 have hlen : ((bs j).map ov).length = (ps j).length := by rw [List.length_map, (HP.2.2.1 j hj).2.1]
 refine Kd.R_append kv (w0 := w0) base hgd s xo 22 34 (.slice none 0 0) 24 ho ht hinfo rfl (by decide) (by decide) (vs j) ((bs j).map ov) (ov wX.heap.size) [sv wX.heap.size] (fun _ => True) (fun _ => False) hs (by rw [hsz]; exact hx) rfl (fun _ hk => hk.elim) (fun _ _ => trivial) hjR (HB.alloc hbase _) (by rw [hsz]; omega) (by rw [hlen]; omega) ?_
 intro v1 w1 hr hb hg hat
 have hbp1 := blk_grown (blk_below HP.2.1 hbl) hg (R_ty_ne hjR (blk_below HP.2.1 hbl) (by decide))
 obtain ⟨vs', bs', h4⟩ := PS.step HP hj hbase hr hg hat
 obtain ⟨A1, c1, e1⟩ := Kd.R_slice hr
 subst e1
 refine h _ _ _ w1 _ vs' bs' _ rfl rfl h4 (Below.setCell hb HP.1 _) ?_ (blk_frozen hbp1 j)
 rw [blk_cell hbp1 j]
 match j, hj with
 | 0, _ => rfl
 | 1, _ => rfl
 | 2, _ => rfl
 | 3, _ => rfl
theorem Hilb.start {w : World} {base b : Nat} (hsb : w.heap.size = b) (hbase : base ≤ b) (x y : Int) : Hilb ((w.alloc (.cells #[.int .i64 x, .int .i64 y] 2 (0, 0))).alloc (.cells #[.slice (some ⟨b, 0, none⟩) 2 2] 34 (0, 0))) base (.slice (some ⟨b + 1, 0, none⟩) 1 1) [b] [[x, y]] := by
 subst hsb
 have hsz : (w.alloc (.cells #[.int .i64 x, .int .i64 y] 2 (0, 0))).heap.size = w.heap.size + 1 := Array.size_push _
 refine ⟨?_, ⟨rfl, fun i b hb => ?_⟩, by simp⟩
 ·have h2 := World.ownsRow_lit (base := base) (e := 34) (size := 1) (w.alloc (.cells #[.int .i64 x, .int .i64 y] 2 (0, 0))) #[sv w.heap.size] 1 (by omega) (by decide) rfl
  rw [hsz] at h2
  have h3 : World.ownsRow ((w.alloc (.cells #[.int .i64 x, .int .i64 y] 2 (0, 0))).alloc (.cells #[.slice (some ⟨w.heap.size, 0, none⟩) 2 2] 34 (0, 0))) base 34 1 (.slice (some ⟨w.heap.size + 1, 0, none⟩) 1 1) ([ov w.heap.size] : List OC).length (([ov w.heap.size] : List OC).map (fun v : OC => v.1)) := h2
  exact Kd.R_of_own h3 (fun _ _ => trivial)
 ·have hi : i = 0 := by
   cases i with
   | zero => rfl
   | succ n => simp at hb
  subst hi
  have hb' : w.heap.size = b := by simpa using hb
  subst hb'
  exact ⟨x, y, hbase, blk_alloc (blk_new _ _) _, rfl⟩
theorem upd4_len {ps ps' : Nat → List (List Int)} {j N : Nat} {a : List (List Int)} (h : ∀ q, j ≤ q → (ps q).length ≤ N) (e : upd4 ps j a = ps') : ∀ q, j + 1 ≤ q → (ps' q).length ≤ N := by
 intro q hq
 rw [← e]
 simp only [upd4]
 rw [if_neg (by omega)]
 exact h q (by omega)
def hpF (h : Int) (q : Nat) (p : List Int) : List Int :=
 if q = 0 then [rd p 1, rd p 0] else if q = 1 then [rd p 0, wrap64 (rd p 1 + h)] else if q = 2 then [wrap64 (rd p 0 + h), wrap64 (rd p 1 + h)] else [wrap64 (wrap64 (wrap64 (2 * h) - 1) - rd p 1), wrap64 (wrap64 (h - 1) - rd p 0)]
def hpS (h : Int) (xs : List (List Int)) : List (List Int) := xs.map (hpF h 0) ++ xs.map (hpF h 1) ++ xs.map (hpF h 2) ++ xs.map (hpF h 3)
def hil : Nat → List (List Int) × Int
 | 0 => ([[0, 0]], 1)
 | n + 1 => (hpS (hil n).2 (hil n).1, wrap64 (2 * (hil n).2))
theorem hpS_len (h : Int) (xs : List (List Int)) : (hpS h xs).length = 4 * xs.length := by
 simp only [hpS, List.length_append, List.length_map]
 omega
theorem hil_len : ∀ n, n ≤ 3 → (hil n).1.length ≤ 64
 | 0, _ => by simp [hil]
 | 1, _ => by simp [hil, hpS_len]
 | 2, _ => by simp [hil, hpS_len]
 | 3, _ => by simp [hil, hpS_len]
theorem hp_step {h x y : Int} {xs : List (List Int)} {j : Nat} (hj : j < xs.length) (hxy : xs[j] = [x, y]) {pp0 pp1 pp2 pp3 pp4 : Nat → List (List Int)} (H0 : (fun q => (xs.take j).map (hpF h q)) = pp0) (H1 : upd4 pp0 0 (pp0 0 ++ [[y, x]]) = pp1) (H2 : upd4 pp1 1 (pp1 1 ++ [[x, wrap64 (y + h)]]) = pp2)
  (H3 : upd4 pp2 2 (pp2 2 ++ [[wrap64 (x + h), wrap64 (y + h)]]) = pp3) (H4 : upd4 pp3 3 (pp3 3 ++ [[wrap64 (wrap64 (wrap64 (2 * h) - 1) - y), wrap64 (wrap64 (h - 1) - x)]]) = pp4) : ∀ q, q < 4 → pp4 q = (xs.take (j + 1)).map (hpF h q) := by
 subst H4 H3 H2 H1 H0
 intro q hq
 rw [List.take_succ_eq_append_getElem hj, List.map_append, List.map_singleton, hxy]
 match q, hq with
 | 0, _ => simp [upd4, hpF, rd]
 | 1, _ => simp [upd4, hpF, rd]
 | 2, _ => simp [upd4, hpF, rd]
 | 3, _ => simp [upd4, hpF, rd]
theorem rws_concat4 (A0 : Option Addr) (c0 : Nat) (a b c d : List OC) (w : World) (hr : Kd.C (Kd.slice 34 kv) w A0 4 [a, b, c, d]) (hn : [a, b, c, d].flatten.length ≤ 1000000000) :
  Calls Try.prog 66 #[.slice A0 4 c0] w fun e w' => ∃ v : Value, e = .returned v ∧ Kd.R kv 34 w' w.heap.size (fun _ => True) v [a, b, c, d].flatten ∧ Below w.heap.size w w' := rws_concat A0 c0 [a, b, c, d] w hr hn
theorem PS.flat {w : World} {base bp n : Nat} {vs : Nat → Value} {bs : Nat → List Nat} {ps : Nat → List (List Int)} (h : PS w base bp vs bs ps) (hn : ∀ q, q < 4 → (ps q).length ≤ n) (hn2 : n ≤ 1000000 := by decide) : [(bs 0).map ov, (bs 1).map ov, (bs 2).map ov, (bs 3).map ov].flatten.length ≤ 1000000000 := by
 have l := fun q hq => (h.2.2.1 q hq).2.1
 have := hn 0 (by omega)
 have := hn 1 (by omega)
 have := hn 2 (by omega)
 have := hn 3 (by omega)
 have := l 0 (by omega)
 have := l 1 (by omega)
 have := l 2 (by omega)
 have := l 3 (by omega)
 simp only [List.flatten_cons, List.flatten_nil, List.length_append, List.length_map, List.length_nil]
 omega
theorem hil_step {w : World} {base : Nat} {v : Value} {bs : List Nat} {m : Nat} {xs : List (List Int)} {h : Int} (h1 : (hil m).1 = xs) (h2 : (hil m).2 = h) (hx : Hilb w base v bs (xs.map (hpF h 0) ++ xs.map (hpF h 1) ++ xs.map (hpF h 2) ++ xs.map (hpF h 3))) : Hilb w base v bs (hil (m + 1)).1 := by
 subst h1 h2
 exact hx
def impl_HilbertPath.f (a0 : Int) : Option (List (List Int) × Bool) := (impl_within.f a0 0 3).bind fun b => if (!b) = true then some ([], false) else some ((hil a0.toNat).1, true)
theorem within_is {a lo hi : Int} (h : impl_within.f a lo hi = some true) : lo ≤ a ∧ a ≤ hi := by
 unfold impl_within.f at h
 split at h
 ·exact ⟨by omega, by simpa using h⟩
 ·simp at h
set_option maxHeartbeats 8000000 in
set_option maxRecDepth 100000 in
theorem impl_HilbertPath.calls (a0 : Int) (r1 : List (List Int)) (r2 : Bool) (w : World) (h : impl_HilbertPath.f a0 = some (r1, r2)) :
  Calls Try.prog 21 #[.int .i64 a0] w fun e w' => ∃ v0_ : Value, e = .returned (.tuple #[v0_, .bool r2]) ∧ Kd.S (Kd.slice 2 (Kd.int .i64)) 34 w' w.heap.size (fun _ => True) v0_ r1 ∧ Below w.heap.size w w' := by
 have HB := Aside0.mk (Below.refl w.heap.size w)
 have H := h
 clear h
 unfold impl_HilbertPath.f at H
 replace H := Option.bind_eq_some_iff.mp H
 obtain ⟨b, A1, H⟩ := H
 have A10 := Aside0.mk A1
 by_cases c1 : (!b) = true
 ·clear A1
  rw [if_pos c1] at H
  have H2 := Option.some.inj H
  injection H2 with h1 h2
  subst h1
  subst h2
  clear H
  go_enter Try.func21, Try.ntmps21
  go_wp2_with (go_at_call 60; refine (impl_within.calls _ _ _ _ _ A10.out).mono ?_; rintro e w' ⟨rfl, ⟨nd, rfl⟩⟩)
  go_ret2
  exact ⟨_, rfl, Kd.S_nil _ _ _ _ _, pw_below_drewN HB.out _⟩
 ·rw [if_neg c1] at H
  have hb1 : b = true := by simpa using c1
  subst hb1
  obtain ⟨hlo, hhi⟩ := within_is A1
  obtain ⟨n, rfl⟩ := Int.eq_ofNat_of_zero_le hlo
  have hn3 : n ≤ 3 := by omega
  have H2 := Option.some.inj H
  injection H2 with h1 h2
  have R1 := Aside0.mk h1
  subst h2
  have HCI := Aside0.mk (show (Try.prog.info? 34).map (fun i => (i.zero, i.size, i.bytes)) = some (some (.slice none 0 0), 1, 24) from by kernel_rfl)
  have HN3 := Aside0.mk hn3
  clear A1 H c1 hlo hhi hn3 h1
  go_enter Try.func21, Try.ntmps21
  go_wp2_with (go_at_call 60; refine (impl_within.calls _ _ _ _ _ A10.out).mono ?_; rintro e w' ⟨rfl, ⟨nd, rfl⟩⟩)
  have HH := Aside0.mk (Hilb.start (w := w.drewN nd) (base := w.heap.size) (b := w.heap.size) (by simp) (Nat.le_refl _) 0 0)
  have HB1 := Aside0.mk (below_alloc (below_alloc (pw_below_drewN HB.out nd) (.cells #[.int .i64 0, .int .i64 0] 2 (0, 0))) (.cells #[.slice (some ⟨w.heap.size, 0, none⟩) 2 2] 34 (0, 0)))
  clear HB A10
  go_loopg [4, 5, 17] n (fun gg v4 v5 v17 w' => ∃ m bs, m ≤ n ∧ n - m ≤ gg ∧ v17 = .int .i64 (m : Nat) ∧ v5 = .int .i64 (hil m).2 ∧ Aside0 (Hilb w' w.heap.size v4 bs (hil m).1) ∧ Aside0 (Below w.heap.size w w'))
  case atStart => exact ⟨0, [w.heap.size], Nat.zero_le _, by omega, rfl, rfl, HH, HB1⟩
  case round =>
   clear HH HB1
   obtain ⟨m, bs, hm, hg, rfl, rfl, HH, HB⟩ := hrel
   by_cases hlt : m < n
   ·have hltz : decide ((m : Int) < (n : Int)) = true := decide_eq_true (by omega)
    have hl64 := hil_len m (by have := HN3.out; omega)
    obtain ⟨xs, hxs⟩ : ∃ xs, (hil m).1 = xs := ⟨_, rfl⟩
    obtain ⟨h, hh⟩ : ∃ h, (hil m).2 = h := ⟨_, rfl⟩
    rw [hxs] at HH hl64
    rw [hh]
    have HXS := Aside0.mk hxs
    have HHS := Aside0.mk hh
    have HL := Aside0.mk hl64
    clear hxs hh hl64
    have hbl : bs.length = xs.length := HH.out.2.1.1
    obtain ⟨A, c, e⟩ := Kd.R_slice HH.out.1
    rw [List.length_map, hbl] at e
    subst e
    have hcap := (Kd.R_reads' HH.out.1).2.1
    clear hbl
    obtain ⟨wo, rfl⟩ : ∃ wo : World, wo = wr := ⟨_, rfl⟩
    have hl9 : (xs.length : Int) ≤ 64 := by have := HL.out; omega
    go_wp2
    have hst := Aside0.mk (PS.start (w := wo.alloc (.cells #[.slice none 0 0, .slice none 0 0, .slice none 0 0, .slice none 0 0] 82 (0, 0))) (base := wo.heap.size) (bp := wo.heap.size) (Nat.le_refl _) (blk_new _ _))
    have hB0 := Aside0.mk (below_alloc (Below.refl wo.heap.size wo) (.cells #[.slice none 0 0, .slice none 0 0, .slice none 0 0, .slice none 0 0] 82 (0, 0)))
    go_loopg [22] xs.length (fun gg v22 w' => ∃ j vs bb, j ≤ xs.length ∧ xs.length - j ≤ gg ∧ v22 = .int .i64 (j : Nat) ∧ Aside0 (PS w' wo.heap.size wo.heap.size vs bb (fun q => (xs.take j).map (hpF h q))) ∧ Aside0 (Below wo.heap.size wo w'))
    case atStart => exact ⟨0, _, _, Nat.zero_le _, by omega, rfl, ⟨hst.out.congr (fun q _ => by simp)⟩, hB0⟩
    case round =>
     clear hst hB0
     obtain ⟨j, vs0, bb0, hj, hg1, rfl, HP0, HB0⟩ := hrel
     by_cases hlt1 : j < xs.length
     ·have hltz1 : decide ((j : Int) < (xs.length : Int)) = true := decide_eq_true (by omega)
      obtain ⟨g, b, x, y, rfl, _, hc1, hc2, hc3, hxy⟩ := Hilb.at_ HH.out j hlt1
      replace hc1 := (HB0.out.cell (World.block_lt_of_cell? wo _ hc1)).trans hc1
      replace hc2 := (HB0.out.cell (World.block_lt_of_cell? wo _ hc2)).trans hc2
      replace hc3 := (HB0.out.cell (World.block_lt_of_cell? wo _ hc3)).trans hc3
      have HXY := Aside0.mk hxy
      clear hxy
      have hlt2 : (j : Int) < (xs.length : Int) := by omega
      obtain ⟨pp0, hpp⟩ : ∃ pp_, (fun q => (xs.take j).map (hpF h q)) = pp_ := ⟨_, rfl⟩
      rw [hpp] at HP0
      have HU0 := Aside0.mk hpp
      have LP0 : Aside0 (∀ q, 0 ≤ q → (pp0 q).length ≤ 64) := ⟨fun q _ => by have := HL.out; rw [← hpp]; simp; omega⟩
      clear hpp
      have h01 : decide ((0 : Int) < 2) = true := rfl
      have h11 : decide ((1 : Int) < 2) = true := rfl
      obtain ⟨ce0, ce1, ce2, ce3, cef⟩ := HP0.out.cell
      go_wp2
      go_region
      clear hc1 hc2 hc3
      have HPd := HP0.out.below (below_drew1 (Below.refl _ _))
      have HBd := below_drew1 HB0.out
      clear HP0 HB0 ce0 ce1 ce2 ce3 cef
      obtain ⟨wd, hwd⟩ : ∃ wd_ : World, wr.drew = wd_ := ⟨_, rfl⟩
      rw [hwd] at HPd HBd ⊢
      clear hwd
      have HP0 := Aside0.mk HPd
      have HB0 := Aside0.mk HBd
      clear HPd HBd
      obtain ⟨ce0, ce1, ce2, ce3, cef⟩ := HP0.out.cell
      go_wp2_with (first | ((with_reducible refine gate_builtin (b := .append) (xs := #[.tmp 33, .tmp 37]) rfl ?_); at_builtin; refine PS.append (w0 := wo) (base := wo.heap.size) (bp := wo.heap.size) (j := 0) (vs := vs0) (bs := bb0) (ps := pp0) rfl (.tmp 33) (.tmp 37) rfl Try.underlying22 HCI.out ?aP ?aZ rfl rfl (by decide) ?aB ?aS ?aL ?_; (case aP => first | exact HP0.out | exact PS.below HP0.out (by repeat (first | (with_reducible exact Below.refl _ _) | apply below_alloc | apply pw_below_drewN | apply below_drew1))); (case aZ => first | rfl | (simp; done)); (case aB => exact (by repeat (first | (with_reducible exact Below.refl _ _) | exact HB0.out | apply below_alloc | apply pw_below_drewN | apply below_drew1))); (case aS => exact below_size (by repeat (first | (with_reducible exact Below.refl _ _) | exact HB0.out | apply below_alloc | apply pw_below_drewN | apply below_drew1))); (case aL => have := LP0.out 0 (Nat.le_refl _); omega); intro A1 n1 c1 w1 W4 vs1 bb1 pp1 hW4 hpp hP hB hc hf; obtain ⟨ce0, ce1, ce2, ce3, cef⟩ := hP.cell; have HP1 := Aside0.mk hP; have HB1 := Aside0.mk hB; have LP1 := Aside0.mk (upd4_len LP0.out hpp); have HU1 := Aside0.mk hpp; clear hP hB hpp) | ((with_reducible refine gate_builtin (b := .append) (xs := #[.tmp 41, .tmp 47]) rfl ?_); at_builtin; refine PS.append (w0 := wo) (base := wo.heap.size) (bp := wo.heap.size) (j := 1) (vs := vs1) (bs := bb1) (ps := pp1) rfl (.tmp 41) (.tmp 47) rfl Try.underlying22 HCI.out ?aP ?aZ rfl rfl (by decide) ?aB ?aS ?aL ?_; (case aP => first | exact HP1.out | exact PS.below HP1.out (by repeat (first | (with_reducible exact Below.refl _ _) | apply below_alloc | apply pw_below_drewN | apply below_drew1))); (case aZ => first | rfl | (simp; done)); (case aB => exact (by repeat (first | (with_reducible exact Below.refl _ _) | exact HB1.out | apply below_alloc | apply pw_below_drewN | apply below_drew1))); (case aS => exact below_size (by repeat (first | (with_reducible exact Below.refl _ _) | exact HB1.out | apply below_alloc | apply pw_below_drewN | apply below_drew1))); (case aL => have := LP1.out 1 (Nat.le_refl _); omega); intro A1 n1 c1 w1 W4 vs2 bb2 pp2 hW4 hpp hP hB hc hf; obtain ⟨ce0, ce1, ce2, ce3, cef⟩ := hP.cell; have HP2 := Aside0.mk hP; have HB2 := Aside0.mk hB; have LP2 := Aside0.mk (upd4_len LP1.out hpp); have HU2 := Aside0.mk hpp; clear hP hB hpp) | ((with_reducible refine gate_builtin (b := .append) (xs := #[.tmp 51, .tmp 59]) rfl ?_); at_builtin; refine PS.append (w0 := wo) (base := wo.heap.size) (bp := wo.heap.size) (j := 2) (vs := vs2) (bs := bb2) (ps := pp2) rfl (.tmp 51) (.tmp 59) rfl Try.underlying22 HCI.out ?aP ?aZ rfl rfl (by decide) ?aB ?aS ?aL ?_; (case aP => first | exact HP2.out | exact PS.below HP2.out (by repeat (first | (with_reducible exact Below.refl _ _) | apply below_alloc | apply pw_below_drewN | apply below_drew1))); (case aZ => first | rfl | (simp; done)); (case aB => exact (by repeat (first | (with_reducible exact Below.refl _ _) | exact HB2.out | apply below_alloc | apply pw_below_drewN | apply below_drew1))); (case aS => exact below_size (by repeat (first | (with_reducible exact Below.refl _ _) | exact HB2.out | apply below_alloc | apply pw_below_drewN | apply below_drew1))); (case aL => have := LP2.out 2 (Nat.le_refl _); omega); intro A1 n1 c1 w1 W4 vs3 bb3 pp3 hW4 hpp hP hB hc hf; obtain ⟨ce0, ce1, ce2, ce3, cef⟩ := hP.cell; have HP3 := Aside0.mk hP; have HB3 := Aside0.mk hB; have LP3 := Aside0.mk (upd4_len LP2.out hpp); have HU3 := Aside0.mk hpp; clear hP hB hpp) | ((with_reducible refine gate_builtin (b := .append) (xs := #[.tmp 63, .tmp 74]) rfl ?_); at_builtin; refine PS.append (w0 := wo) (base := wo.heap.size) (bp := wo.heap.size) (j := 3) (vs := vs3) (bs := bb3) (ps := pp3) rfl (.tmp 63) (.tmp 74) rfl Try.underlying22 HCI.out ?aP ?aZ rfl rfl (by decide) ?aB ?aS ?aL ?_; (case aP => first | exact HP3.out | exact PS.below HP3.out (by repeat (first | (with_reducible exact Below.refl _ _) | apply below_alloc | apply pw_below_drewN | apply below_drew1))); (case aZ => first | rfl | (simp; done)); (case aB => exact (by repeat (first | (with_reducible exact Below.refl _ _) | exact HB3.out | apply below_alloc | apply pw_below_drewN | apply below_drew1))); (case aS => exact below_size (by repeat (first | (with_reducible exact Below.refl _ _) | exact HB3.out | apply below_alloc | apply pw_below_drewN | apply below_drew1))); (case aL => have := LP3.out 3 (Nat.le_refl _); omega); intro A1 n1 c1 w1 W4 vs4 bb4 pp4 hW4 hpp hP hB hc hf; obtain ⟨ce0, ce1, ce2, ce3, cef⟩ := hP.cell; have HP4 := Aside0.mk hP; have HB4 := Aside0.mk hB; have LP4 := Aside0.mk (upd4_len LP3.out hpp); have HU4 := Aside0.mk hpp; clear hP hB hpp))
      go_roundg (xs.length - (j + 1))
      case measure => omega
      case rel => exact ⟨j + 1, vs4, bb4, by omega, by omega, by go_num, ⟨HP4.out.congr (hp_step hlt1 HXY.out HU0.out HU1.out HU2.out HU3.out HU4.out)⟩, HB4⟩
     ·have : j = xs.length := by omega
      subst this
      have hltz1 : decide ((xs.length : Int) < (xs.length : Int)) = false := decide_eq_false (by omega)
      rw [List.take_length] at HP0
      have hfl := Aside0.mk (PS.flat HP0.out (n := 64) (fun q _ => by have := HL.out; simpa using this))
      clear hl9 hj hg1 hlt1
      go_wp2_with (go_at_call 66; refine (rws_concat4 _ 4 _ _ _ _ _ HP0.out.C hfl.out).mono ?_; rintro e w2 ⟨v2, rfl, hr2, hb2⟩)
      have HX := Aside0.mk (HP0.out.hilb hb2 (below_size HB0.out) hr2)
      have HB2 := Aside0.mk (below_then HB0.out (below_size HB0.out) hb2)
      clear hr2 hb2
      go_roundg (n - (m + 1))
      case measure => omega
      case rel => exact ⟨m + 1, _, by omega, by omega, by (have := HN3.out; show Value.int .i64 (wrap64 ((m : Int) + 1)) = Value.int .i64 ((m + 1 : Nat) : Int); rw [show wrap64 ((m : Int) + 1) = ((m + 1 : Nat) : Int) from by unfold wrap64; omega]), by rw [← HHS.out]; rfl, ⟨(hil_step HXS.out HHS.out HX.out).lower (below_size HB.out)⟩, ⟨below_step HB.out HB2.out⟩⟩
   ·have : m = n := by omega
    subst this
    go_wp2
    go_ret2
    exact ⟨_, rfl, by rw [← R1.out]; exact HH.out.S, HB.out⟩
end Go.Proofs.Ytckonklpdepgoaa.Q
