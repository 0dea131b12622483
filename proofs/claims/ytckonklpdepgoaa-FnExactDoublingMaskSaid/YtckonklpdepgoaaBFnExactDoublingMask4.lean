/- The statement FnExactDoublingMask, with all that its proof stands on: functions of the program as plain functions, the program's walks, and the plain law. Conditions: none beyond the statement's own. -/
import Derived.ArgAppend
import Derived.Below
import Derived.BigQuiet
import Derived.BigRegion
import Derived.Deep.AppendLies
import Derived.Deep.CutBlock
import Derived.Deep.DeepCutAuto
import Derived.Deep.Draws
import Derived.Deep.LoopGhost
import Derived.Deep.OwnRows
import Derived.Deep.QuietTactic
import Derived.Deep.RegionHeld3
import Derived.KernelRfl
import Derived.Laws.BitsLemmas
import Derived.Laws.BytesArg
import Derived.Laws.IdiomCopy
import Derived.Laws.MakeOwn
import Derived.Laws.OwnMore
import Derived.Laws.Rows
import Derived.Laws.Slices
import Derived.Lib.AppendStr
import Derived.Lib.ConvBytes
import Derived.Maps.AppendAt
import Derived.OrdersHeld
import Derived.OwnWalk
import Derived.ProofKit
import Derived.RowKit
import Derived.RowKit3
import Derived.Tactics
import Derived.Test.YtckonklpdepgoaaProg
import Derived.WalkKit
import Derived.WideLaws
import Derived.Test.YtckonklpdepgoaaBFnExactDoublingMask0
import Derived.Test.YtckonklpdepgoaaBFnExactDoublingMask1
import Derived.Test.YtckonklpdepgoaaBFnExactDoublingMask2
import Derived.Test.YtckonklpdepgoaaBFnExactDoublingMask3
set_option linter.unusedVariables false
set_option linter.unusedSimpArgs false
namespace Go.Proofs.Ytckonklpdepgoaa.Q
open Go.RowKit Go.Proofs.YtckonklpdepgoaaW.PrintWords Go.Proofs.YtckonklpdepgoaaW.PrintLast Go.Proofs.YtckonklpdepgoaaW.PrintMore
attribute [local go_sem] max2_int min2_int max_two min_two max_three min_three max_four min_four   -- for this text's walks alone
set_option linter.unusedVariables false
set_option linter.unusedSimpArgs false
def errW : Option Int → Value
 | none => .nilIface
 | some c => .iface 0 (.int .i64 c)
theorem errW_none : errW none = .nilIface := rfl
theorem errW_some (c : Int) : errW (some c) = .iface 0 (.int .i64 c) := rfl
theorem info2 : (Try.prog.info? 2).map (fun i => (i.zero, i.size, i.bytes)) = some (some (.int .i64 0), 1, 8) := by kernel_rfl
theorem info34 : (Try.prog.info? 34).map (fun i => (i.zero, i.size, i.bytes)) = some (some (.slice none 0 0), 1, 24) := by kernel_rfl
def rd_L1 (xs : List (List Int)) (i : Int) : (List Int) := xs.getD i.toNat ([] : List Int)
theorem at_L1 {w : World} {A : Option Addr} {n : Nat} {xs : List (List Int)} (h : Kd.C (Kd.slice 2 (Kd.int .i64)) w A n xs) (i : Int) (h0 : 0 ≤ i) (h1 : i < n) : ∃ ad A0 c0, A = some ad ∧ w.cell? (ad.add i.toNat) = some (.slice A0 (rd_L1 xs i).length c0) ∧ (rd_L1 xs i).length ≤ c0 ∧ (Kd.int .i64).C w A0 (rd_L1 xs i).length (rd_L1 xs i) := by
 obtain ⟨ad, c, e, _, hK, hc0⟩ := Kd.C_get h ([] : List Int) i h0 h1
 have hc : ∀ j u, c[j]? = some u → w.cell? (ad.add (i.toNat * 1 + j)) = some u := hc0
 obtain ⟨A0, c0, rfl, l0, g0⟩ := hK
 exact ⟨ad, A0, c0, e, by have hq := hc 0 _ rfl; rwa [Nat.mul_one, Nat.add_zero] at hq, l0, g0⟩
end Go.Proofs.Ytckonklpdepgoaa.Q
namespace Go.Proofs.Ytckonklpdepgoaa.Q
open Go.RowKit Go.Proofs.YtckonklpdepgoaaW.PrintWords Go.Proofs.YtckonklpdepgoaaW.PrintLast Go.Proofs.YtckonklpdepgoaaW.PrintMore
attribute [local go_sem] max2_int min2_int max_two min_two max_three min_three max_four min_four   -- for this text's walks alone
set_option linter.unusedVariables false
set_option linter.unusedSimpArgs false
def spec_l00In.f (a0 : Int) (a1 : Int) (a2 : Int) : Option (Bool) := if a0 ≥ a1 then (some (decide (a0 ≤ a2))) else (some false)
set_option maxHeartbeats 8000000 in
set_option maxRecDepth 100000 in
theorem spec_l00In.calls (a0 : Int) (a1 : Int) (a2 : Int) (r : Bool) (w : World) (h : spec_l00In.f a0 a1 a2 = some r) :
  Calls Try.prog 85 #[.int .i64 a0, .int .i64 a1, .int .i64 a2] w fun e w' => e = .returned (.bool r) ∧ Drawn0 w w' := by
 have H : (if a0 ≥ a1 then (some (decide (a0 ≤ a2))) else (some false)) = some r := h
 clear h
 by_cases c4 : a0 ≥ a1
 ·rw [if_pos c4] at H
  have c4b0 : decide (a1 ≤ a0) = true := decide_eq_true c4
  clear c4
  obtain rfl := Option.some.inj H
  go_enter Try.func85, Try.ntmps85
  go_wp2
  go_ret
  exact ⟨by first | rfl | (simp; done) | (simp [*]; done), by repeat (first | exact Drawn0.refl _ | apply Drawn0.step)⟩
 ·rw [if_neg c4] at H
  have c4b0 : decide (a1 ≤ a0) = false := decide_eq_false c4
  clear c4
  obtain rfl := Option.some.inj H
  go_enter Try.func85, Try.ntmps85
  go_wp2
  go_ret
  exact ⟨by first | rfl | (simp; done) | (simp [*]; done), by repeat (first | exact Drawn0.refl _ | apply Drawn0.step)⟩
def spec_l09Order.f (a0 : Int) : Option (Bool) := (spec_l00In.f a0 0 3).bind fun t101 => (some t101)
set_option maxHeartbeats 8000000 in
set_option maxRecDepth 100000 in
theorem spec_l09Order.calls (a0 : Int) (r : Bool) (w : World) (h : spec_l09Order.f a0 = some r) :
  Calls Try.prog 58 #[.int .i64 a0] w fun e w' => e = .returned (.bool r) ∧ Drawn0 w w' := by
 have H : ((spec_l00In.f a0 0 3).bind fun t101 => (some t101)) = some r := h
 clear h
 replace H := Option.bind_eq_some_iff.mp H
 obtain ⟨t101, A20, H⟩ := H
 replace H : (some t101) = some r := H
 have A2 := Aside0.mk A20
 clear A20
 obtain rfl := Option.some.inj H
 go_enter Try.func58, Try.ntmps58
 go_wp2_with (first | ((with_reducible refine gate_callee (f := 85) rfl ?_); refine goesL_ (some 4) rfl rfl Try.func85 (by kernel_rfl) rfl #[.int .i64 a0, .int .i64 0, .int .i64 3] rfl (by (try simp only [List.map_toArray, List.map_cons, List.map_nil]); first | done | rfl | (simp only [List.length_drop, List.length_take]; rfl) | (simp only [show ∀ (n_ : Nat) (b_ : Int), Int.tdiv (n_ : Int) b_ = (n_ : Int) / b_ from fun n_ b_ => Int.tdiv_eq_ediv_of_nonneg (Int.natCast_nonneg n_)]; rfl)) ?_; (with_reducible refine (spec_l00In.calls a0 0 3 t101 _ A2.out).mono ?_); rintro e w' ⟨rfl, ⟨nd, rfl⟩⟩; refine ⟨_, rfl, ?_⟩))
 go_ret
 exact ⟨by first | rfl | (simp; done) | (simp [*]; done), by repeat (first | exact Drawn0.refl _ | apply Drawn0.step)⟩
def spec_l09Square.l0 : Nat → Int → Int → List (List Int) → Int → Option ((List (List Int)))
 | 0, _, _, _, _ => none
 | k + 1, x0, x1, x5, x6 => if x6 < x0 then (if 0 ≤ x1 then (if (x1 : Int).toNat ≤ 35184372088832 then (if x5.length < 5864062014805 then (spec_l09Square.l0 k x0 x1 (x5 ++ [(List.replicate (x1 : Int).toNat 0)]) (wrap64 (x6 + 1))) else (none)) else (none)) else (none)) else (some x5)
def spec_l09Square.f (k : Nat) (a0 : Int) (a1 : Int) : Option ((List (List Int))) := spec_l09Square.l0 k a0 a1 (([] : List (List Int))) 0
theorem spec_l09Square.mono_l : ∀ k, (∀ y0 y1 y2 y3, LeO (spec_l09Square.l0 k y0 y1 y2 y3) (spec_l09Square.l0 (k + 1) y0 y1 y2 y3))
 | 0 => fun _ _ _ _ r h => by simp [spec_l09Square.l0] at h
 | k + 1 => by
  have ih0 := spec_l09Square.mono_l k
  ·intro y0 y1 y2 y3
   unfold spec_l09Square.l0
   repeat' first
   | (with_reducible exact ih0 _ _ _ _)
   | (with_reducible exact LeO.refl _)
   | (with_reducible exact LeO.none _)
   | (with_reducible refine LeO.ite ?_ ?_)
   | (with_reducible refine LeO.bind ?_ (fun _ => ?_))
   | exact ih0 _ _ _ _
   | exact LeO.none _
   | refine LeO.ite ?_ ?_
   | refine LeO.bind ?_ (fun _ => ?_)
theorem spec_l09Square.mono : ∀ a0 a1 k, LeO (spec_l09Square.f k a0 a1) (spec_l09Square.f (k + 1) a0 a1) := by
 intro a0 a1 k
 have ih0 := spec_l09Square.mono_l k
 unfold spec_l09Square.f
 repeat' first
   | (with_reducible exact ih0 _ _ _ _)
   | (with_reducible exact LeO.refl _)
   | (with_reducible exact LeO.none _)
   | (with_reducible refine LeO.ite ?_ ?_)
   | (with_reducible refine LeO.bind ?_ (fun _ => ?_))
   | exact ih0 _ _ _ _
   | exact LeO.none _
   | refine LeO.ite ?_ ?_
   | refine LeO.bind ?_ (fun _ => ?_)
set_option maxHeartbeats 8000000 in
set_option maxRecDepth 100000 in
theorem spec_l09Square.calls (k : Nat) (a0 : Int) (a1 : Int) (r : List (List Int)) (w : World) (h : spec_l09Square.f k a0 a1 = some r) :
  Calls Try.prog 90 #[.int .i64 a0, .int .i64 a1] w fun e w' => ∃ v0_ : Value, e = .returned (v0_) ∧ Kd.S (Kd.slice 2 (Kd.int .i64)) 34 w' w.heap.size (fun _ => True) v0_ r ∧ Below w.heap.size w w' := by
 have HB := Aside0.mk (Below.refl w.heap.size w)
 have H : (spec_l09Square.l0 k a0 a1 (([] : List (List Int))) 0) = some r := h
 clear h
 obtain ⟨y102, hy102⟩ : ∃ y_ : List (List Int), y_ = (([] : List (List Int))) := ⟨_, rfl⟩
 replace H : (spec_l09Square.l0 k a0 a1 y102 0) = some r := by first | (rw [hy102]; with_reducible exact H) | (have H2_ := (Option.bind_some _ _).symm.trans H; rw [hy102]; with_reducible exact H2_) | (have H2_ := (Option.bind_some _ _).symm.trans H; with_reducible exact H2_) | with_reducible exact H | (rw [hy102]; exact H) | exact H
 have Ny102 := Aside0.mk hy102
 clear hy102
 have H' := Aside0.mk H
 clear H
 go_enter Try.func90, Try.ntmps90
 go_wp2_with (first | ((with_reducible refine gate_dst (N := 7) rfl ?_); refine Kd.S_lit (Kd.slice 2 (Kd.int .i64)) _ 34 ?hg (N := 7) ?hd (xs := ([] : List (List Int))) (inner := []) (ok := fun _ => True) (okp := fun _ => True) ?hr ?hp (fun _ hk => hk) trivial (Below.refl _ _) (Nat.le_refl _) (by simp) ?_; (case hd => rfl); (case hg => rfl); (case hr => first | (go_simp; done) | (go_simp; rfl)); (case hp => exact (Reps.none _ _)); intro v103 w3 ho4 hb hg_ hnew_; clear hg_ hnew_; (first | rw [← Ny102.out] at ho4 | (simp only [Int.reduceToNat] at ho4; rw [← Ny102.out] at ho4)); have n0_ := Aside0.mk (Kd.S_lower ho4 (below_size (by repeat (first | (with_reducible first | exact HB.out | apply below_alloc | apply pw_below_drewN | apply below_drew1) | exact HB.out)))); have n1_ := Aside0.mk (below_step (by repeat (first | (with_reducible first | exact HB.out | apply below_alloc | apply pw_below_drewN | apply below_drew1) | exact HB.out)) hb); clear HB; have HO104 := n0_; have HB := n1_; clear n0_ n1_; clear hb ho4))
 go_loopg [5, 6] k (fun kq v5 v6 w' => ∃ (x5_1 : List (List Int)) (x6_1 : Int), v6 = .int .i64 x6_1 ∧ Aside0 (spec_l09Square.l0 kq a0 a1 x5_1 x6_1 = some r) ∧ Aside0 (kq ≤ k) ∧ Aside0 (Kd.S (Kd.slice 2 (Kd.int .i64)) 34 w' w.heap.size (fun _ => True) v5 x5_1) ∧ Aside0 (Below w.heap.size w w'))
 case atStart => exact ⟨(y102), (0), (by first | rfl | (simp; done) | (simp [*]; done)), H', ⟨Nat.le_refl _⟩, ⟨by (with_reducible repeat (first | apply Kd.S_alloc | apply Kd.S_drewN | apply Kd.S_drew)); exact HO104.out⟩, ⟨by repeat (first | (with_reducible first | exact HB.out | apply below_alloc | apply pw_below_drewN | apply below_drew1) | exact HB.out)⟩⟩
 case round =>
  clear H'
  try clear p2
  obtain ⟨x5_1, x6_1, rfl, HA, HK1, HO_5, HB⟩ := hrel
  cases gk with
  | zero => exact absurd HA.out (by simp [spec_l09Square.l0])
  | succ k1 =>
   have H := HA.out
   clear HA
   simp only [spec_l09Square.l0] at H
   by_cases c5 : x6_1 < a0
   ·rw [if_pos c5] at H
    have c5b0 : decide (x6_1 < a0) = true := decide_eq_true c5
    clear c5
    by_cases c6 : 0 ≤ a1
    ·rw [if_pos c6] at H
     have c6b0 := eq_true c6
     have c6b1 : decide (0 ≤ a1) = true := decide_eq_true c6
     clear c6
     by_cases c7 : (a1 : Int).toNat ≤ 35184372088832
     ·rw [if_pos c7] at H
      have c7b0 := eq_true c7
      have c7b1 : decide ((a1 : Int).toNat ≤ 35184372088832) = true := decide_eq_true c7
      clear c7
      obtain ⟨y105, hy105⟩ : ∃ y_ : List Int, y_ = (List.replicate (a1 : Int).toNat 0) := ⟨_, rfl⟩
      replace H : (if x5_1.length < 5864062014805 then (spec_l09Square.l0 k1 a0 a1 (x5_1 ++ [y105]) (wrap64 (x6_1 + 1))) else (none)) = some r := by first | (rw [hy105]; with_reducible exact H) | (have H2_ := (Option.bind_some _ _).symm.trans H; rw [hy105]; with_reducible exact H2_) | (have H2_ := (Option.bind_some _ _).symm.trans H; with_reducible exact H2_) | with_reducible exact H | (rw [hy105]; exact H) | exact H
      have Ny105 := Aside0.mk hy105
      clear hy105
      by_cases c8 : x5_1.length < 5864062014805
      ·rw [if_pos c8] at H
       have LMc8 := Aside0.mk c8
       clear c8
       obtain ⟨y108, hy108⟩ : ∃ y_ : List (List Int), y_ = (x5_1 ++ [y105]) := ⟨_, rfl⟩
       replace H : (spec_l09Square.l0 k1 a0 a1 y108 (wrap64 (x6_1 + 1))) = some r := by first | (rw [hy108]; with_reducible exact H) | (have H2_ := (Option.bind_some _ _).symm.trans H; rw [hy108]; with_reducible exact H2_) | (have H2_ := (Option.bind_some _ _).symm.trans H; with_reducible exact H2_) | with_reducible exact H | (rw [hy108]; exact H) | exact H
       have Ny108 := Aside0.mk hy108
       clear hy108
       have H' := Aside0.mk H
       clear H
       go_wp2_with (first | ((with_reducible refine gate_dst (N := 15) rfl ?_); refine Kd.R_make (Kd.int .i64) _ 2 rfl (N := 15) rfl 34 _ _ rfl a1 rfl rfl Try.underlying34 (.int .i64 0) 8 info2 rfl (by decide) (by omega) 0 (ok := fun _ => True) (okp := fun _ => True) rfl (fun _ hk => hk) trivial (of_decide_eq_true (by first | (with_reducible assumption) | assumption)) (Nat.le_trans (Nat.mul_le_mul_right _ (of_decide_eq_true (by first | (with_reducible assumption) | assumption) : a1.toNat ≤ 35184372088832)) (by omega)) (Below.refl _ _) (Nat.le_refl _) ?_; intro v106 w9 ho10 hb hg_ hnew_; clear hg_ hnew_; (first | rw [← Ny105.out] at ho10 | (simp only [Int.reduceToNat] at ho10; rw [← Ny105.out] at ho10)); have n0_ := Aside0.mk (Kd.S_elder' (by (with_reducible repeat (first | apply Kd.S_alloc | apply Kd.S_drewN | apply Kd.S_drew)); exact HO_5.out) (Kd.R_base ho10) hb); have n1_ := Aside0.mk (Kd.R_lower ho10 (below_size (by repeat (first | (with_reducible first | exact HB.out | apply below_alloc | apply pw_below_drewN | apply below_drew1) | exact HB.out)))); have n2_ := Aside0.mk (below_step (by repeat (first | (with_reducible first | exact HB.out | apply below_alloc | apply pw_below_drewN | apply below_drew1) | exact HB.out)) hb); clear HO_5; clear HB; have HO_5 := n0_; have HO107 := n1_; have HB := n2_; clear n0_ n1_ n2_; clear hb ho10; obtain ⟨Ao12, co12, eo12⟩ := Kd.R_slice HO107.out; subst eo12) | ((with_reducible refine gate_builtin (b := .append) (xs := #[.tmp 13, .tmp 16]) rfl ?_); at_builtin; refine Kd.S_append (Kd.slice 2 (Kd.int .i64)) (w0 := w) w.heap.size rfl (.tmp 13) (.tmp 16) 22 34 (.slice none 0 0) 24 rfl Try.underlying22 info34 rfl (by decide) (by omega) u5 x5_1 y105 [.slice Ao12 y105.length co12] (fun _ => True) (fun k_ => some k_ = (.slice Ao12 y105.length co12 : Value).ownBlock) rfl rfl ?aP (fun k_ hk_ => ((Kd.R_mono (ok' := fun k_ => ((fun _ => True)) k_ ∧ some k_ ≠ (u5 : Value).ownBlock) (Kd.R_apart' (HO107.out) (Kd.S_typed HO_5.out) (by decide)) (fun k_ hk => ⟨trivial, hk.2⟩))).1 k_ hk_.symm) ?aF ?aO ?aB ?aS ?aL ?_; (case aP => exact Kd.M_row (Kd.R_mono (Kd.R_tight rfl (Kd.R_mono (ok' := fun k_ => ((fun _ => True)) k_ ∧ some k_ ≠ (u5 : Value).ownBlock) (Kd.R_apart' (HO107.out) (Kd.S_typed HO_5.out) (by decide)) (fun k_ hk => ⟨trivial, hk.2⟩))) (fun _ h_ => h_))); (case aB => exact (by repeat (first | (with_reducible first | exact HB.out | apply below_alloc | apply pw_below_drewN | apply below_drew1) | exact HB.out))); (case aF => exact (fun _ _ => trivial)); (case aO => exact (by (with_reducible repeat (first | apply Kd.S_alloc | apply Kd.S_drewN | apply Kd.S_drew)); exact Kd.S_mono HO_5.out (fun k_ hk => ⟨trivial, fun e_ => hk.2 e_⟩))); (case aS => exact (below_size (by repeat (first | (with_reducible first | exact HB.out | apply below_alloc | apply pw_below_drewN | apply below_drew1) | exact HB.out)))); (case aL => have := LMc8.out; omega); intro v109 w11 ho hb hg hat; rw [← Ny108.out] at ho; have n0_ := Aside0.mk (hb); have n1_ := Aside0.mk (ho); clear HB; clear HO_5; clear HO107; have HB := n0_; have HO110 := n1_; clear n0_ n1_; clear ho hb hg hat))
       go_roundg k1
       case measure => have := HK1.out; omega
       case rel => exact ⟨(y108), (wrap64 (x6_1 + 1)), (by first | rfl | (simp; done) | (simp [*]; done)), H', ⟨by have := HK1.out; omega⟩, ⟨by (with_reducible repeat (first | apply Kd.S_alloc | apply Kd.S_drewN | apply Kd.S_drew)); exact HO110.out⟩, ⟨by repeat (first | (with_reducible first | exact HB.out | apply below_alloc | apply pw_below_drewN | apply below_drew1) | exact HB.out)⟩⟩
      ·rw [if_neg c8] at H
       exact absurd H (by simp)
     ·rw [if_neg c7] at H
      exact absurd H (by simp)
    ·rw [if_neg c6] at H
     exact absurd H (by simp)
   ·rw [if_neg c5] at H
    have c5b0 : decide (x6_1 < a0) = false := decide_eq_false c5
    clear c5
    obtain rfl := Option.some.inj H
    go_wp2
    go_ret
    exact ⟨_, by first | rfl | (simp [errW_none, errW_some] <;> rfl) | (simp [*, errW_none, errW_some] <;> rfl), by (with_reducible repeat (first | apply Kd.S_alloc | apply Kd.S_drewN | apply Kd.S_drew)); exact HO_5.out, by repeat (first | (with_reducible first | exact HB.out | apply below_alloc | apply pw_below_drewN | apply below_drew1) | exact HB.out)⟩
end Go.Proofs.Ytckonklpdepgoaa.Q
namespace Go.Proofs.Ytckonklpdepgoaa.Q
open Go.RowKit Go.Proofs.YtckonklpdepgoaaW.PrintWords Go.Proofs.YtckonklpdepgoaaW.PrintLast Go.Proofs.YtckonklpdepgoaaW.PrintMore
attribute [local go_sem] max2_int min2_int max_two min_two max_three min_three max_four min_four   -- for this text's walks alone
set_option linter.unusedVariables false
set_option linter.unusedSimpArgs false
mutual
def spec_l09Doubling.l0 : Nat → Int → List (List Int) → Option (List (List Int))
 | 0, _, _ => none
 | k + 1, a0, out => if 0 < a0 then ((spec_l09Square.f k (wrap64 (2 * (out.length : Int))) (wrap64 (2 * (out.length : Int)))).bind fun nx => spec_l09Doubling.l1 k a0 out nx 0) else some out
def spec_l09Doubling.l1 : Nat → Int → List (List Int) → List (List Int) → Int → Option (List (List Int))
 | 0, _, _, _, _ => none
 | k + 1, a0, out, nx, i => if i < (out.length : Int) then spec_l09Doubling.l2 k a0 out nx i 0 else spec_l09Doubling.l0 k (wrap64 (a0 - 1)) nx
def spec_l09Doubling.l2 : Nat → Int → List (List Int) → List (List Int) → Int → Int → Option (List (List Int))
 | 0, _, _, _, _, _ => none
 | k + 1, a0, out, nx, i, y => if y < (out.length : Int) then (if 0 ≤ i then (if i < (out.length : Int) then (if 0 ≤ y then (if y < ((rda out i).length : Int) then ((put2 nx i y (wrap64 (4 * rd (rda out i) y))).bind fun n1 => (put2 n1 i (wrap64 (y + (out.length : Int))) (wrap64 (wrap64 (4 * rd (rda out i) y) + 2))).bind fun n2 => (put2 n2 (wrap64 (i + (out.length : Int))) y (wrap64 (wrap64 (4 * rd (rda out i) y) + 3))).bind fun n3 => (put2 n3 (wrap64 (i + (out.length : Int))) (wrap64 (y + (out.length : Int))) (wrap64 (wrap64 (4 * rd (rda out i) y) + 1))).bind fun n4 => spec_l09Doubling.l2 k a0 out n4 i (wrap64 (y + 1))) else none) else none) else none) else none) else spec_l09Doubling.l1 k a0 out nx (wrap64 (i + 1))
end
def spec_l09Doubling.f (k : Nat) (a0 : Int) : Option (List (List Int)) := spec_l09Doubling.l0 k a0 [[0]]
theorem spec_l09Doubling.mono_l : ∀ k, (∀ y0 y1, LeO (spec_l09Doubling.l0 k y0 y1) (spec_l09Doubling.l0 (k + 1) y0 y1)) ∧ (∀ y0 y1 y2 y3, LeO (spec_l09Doubling.l1 k y0 y1 y2 y3) (spec_l09Doubling.l1 (k + 1) y0 y1 y2 y3)) ∧ (∀ y0 y1 y2 y3 y4, LeO (spec_l09Doubling.l2 k y0 y1 y2 y3 y4) (spec_l09Doubling.l2 (k + 1) y0 y1 y2 y3 y4))
 | 0 => ⟨fun _ _ r h => by simp [spec_l09Doubling.l0] at h, fun _ _ _ _ r h => by simp [spec_l09Doubling.l1] at h, fun _ _ _ _ _ r h => by simp [spec_l09Doubling.l2] at h⟩
 | k + 1 => by
  obtain ⟨ih0, ih1, ih2⟩ := spec_l09Doubling.mono_l k
  refine ⟨?_, ?_, ?_⟩
  ·intro y0 y1
   unfold spec_l09Doubling.l0
   repeat' first
   | (with_reducible exact ih0 _ _)
   | (with_reducible exact ih1 _ _ _ _)
   | (with_reducible exact spec_l09Square.mono _ _ _)
   | (with_reducible exact LeO.refl _)
   | (with_reducible exact LeO.none _)
   | (with_reducible refine LeO.ite ?_ ?_)
   | (with_reducible refine LeO.bind ?_ (fun _ => ?_))
  ·intro y0 y1 y2 y3
   unfold spec_l09Doubling.l1
   repeat' first
   | (with_reducible exact ih0 _ _)
   | (with_reducible exact ih2 _ _ _ _ _)
   | (with_reducible exact LeO.refl _)
   | (with_reducible exact LeO.none _)
   | (with_reducible refine LeO.ite ?_ ?_)
   | (with_reducible refine LeO.bind ?_ (fun _ => ?_))
  ·intro y0 y1 y2 y3 y4
   unfold spec_l09Doubling.l2
   repeat' first
   | (with_reducible exact ih1 _ _ _ _)
   | (with_reducible exact ih2 _ _ _ _ _)
   | (with_reducible exact LeO.refl _)
   | (with_reducible exact LeO.none _)
   | (with_reducible refine LeO.ite ?_ ?_)
   | (with_reducible refine LeO.bind ?_ (fun _ => ?_))
theorem spec_l09Doubling.mono : ∀ a0 k, LeO (spec_l09Doubling.f k a0) (spec_l09Doubling.f (k + 1) a0) := by
 intro a0 k
 obtain ⟨ih0, ih1, ih2⟩ := spec_l09Doubling.mono_l k
 unfold spec_l09Doubling.f
 repeat' first
   | (with_reducible exact ih0 _ _)
   | (with_reducible exact spec_l09Square.mono _ _ _)
   | (with_reducible exact LeO.refl _)
   | (with_reducible exact LeO.none _)
   | (with_reducible refine LeO.ite ?_ ?_)
   | (with_reducible refine LeO.bind ?_ (fun _ => ?_))
set_option maxHeartbeats 8000000 in
set_option maxRecDepth 100000 in
theorem spec_l09Doubling.calls (k : Nat) (a0 : Int) (r : List (List Int)) (w : World) (h : spec_l09Doubling.f k a0 = some r) :
  Calls Try.prog 59 #[.int .i64 a0] w fun e w' => ∃ v0_ : Value, e = .returned (v0_) ∧ Kd.S (Kd.slice 2 (Kd.int .i64)) 34 w' w.heap.size (fun _ => True) v0_ r ∧ Below w.heap.size w w' := by
 have HB := Aside0.mk (Below.refl w.heap.size w)
 have H := h
 clear h
 unfold spec_l09Doubling.f at H
 have H' := Aside0.mk H
 clear H
 go_enter Try.func59, Try.ntmps59
 go_wp2_with (first | ((with_reducible refine gate_dst (N := 9) rfl ?_); refine Kd.R_lit (Kd.int .i64) _ 2 ?hg (N := 9) ?hd (xs := ([0] : List Int)) (inner := [.int .i64 0]) (ok := fun k_ => k_ = w.heap.size) (okp := fun k_ => k_ = w.heap.size) ?hr ?hp (fun _ hk => hk) rfl (Below.refl _ _) (Nat.le_refl _) (by simp) ?_; (case hd => rfl); (case hg => rfl); (case hr => first | (go_simp; done) | (go_simp; rfl)); (case hp => exact (Reps.one (show Kd.M (Kd.int .i64) _ _ _ 0 [.int .i64 0] from rfl) (Reps.none _ _))); intro v1 w2 ho3 hb hg_ hnew_; clear hg_ hnew_; have n0_ := Aside0.mk ho3; have n1_ := Aside0.mk (below_step HB.out hb); clear HB hb ho3; have HI := n0_; have HB := n1_; clear n0_ n1_; obtain ⟨Ao, co, eo⟩ := Kd.R_slice HI.out; subst eo) | ((with_reducible refine gate_dst (N := 10) rfl ?_); refine Kd.S_lits (Kd.slice 2 (Kd.int .i64)) w.heap.size 34 ?hg2 (N := 10) ?hd2 (xs := [([0] : List Int)]) (inner := [.slice Ao ([0] : List Int).length co]) (ok := fun _ => True) (fun j k => j = 0 ∧ k = w.heap.size) ?hr2 rfl ?hp2 (fun i j k h1 h2 => h1.1.trans h2.1.symm) (fun _ _ _ => trivial) trivial HB.out (below_size HB.out) (by simp) ?_; (case hd2 => rfl); (case hg2 => rfl); (case hr2 => first | (go_simp; done) | (go_simp; rfl)); (case hp2 => (intro j x hj; cases j with | zero => (cases hj; exact ⟨_, rfl, Kd.R_mono HI.out (fun k_ h_ => ⟨rfl, h_⟩)⟩) | succ j => (simp at hj))); intro v1 w5 ho6 hb hg_ hnew_; clear hg_ hnew_; have n0_ := Aside0.mk ho6; have n1_ := Aside0.mk hb; clear HB HI hb ho6; have HO := n0_; have HB := n1_; clear n0_ n1_; obtain ⟨Am, cm, em⟩ := Kd.S_slice HO.out; subst em))
 go_loopg [0, 3] k (fun kq v0 v3 w' => ∃ (A : Option Addr) (c : Nat) (xs : List (List Int)) (x : Int), v3 = .slice A xs.length c ∧ v0 = .int .i64 x ∧ Aside0 (spec_l09Doubling.l0 kq x xs = some r) ∧ Aside0 (kq ≤ k) ∧ Aside0 (Kd.S (Kd.slice 2 (Kd.int .i64)) 34 w' w.heap.size (fun _ => True) (.slice A xs.length c) xs) ∧ Aside0 (Below w.heap.size w w'))
 case atStart => exact ⟨_, _, [[0]], a0, rfl, rfl, H', ⟨Nat.le_refl _⟩, HO, HB⟩
 case round =>
  clear H' HO HB
  obtain ⟨A, c, xs, x, rfl, rfl, HA, HK, HO, HB⟩ := hrel
  cases gk with
  | zero => exact absurd HA.out (by simp [spec_l09Doubling.l0])
  | succ k1 =>
   have H := HA.out
   clear HA
   simp only [spec_l09Doubling.l0] at H
   by_cases c3 : 0 < x
   ·rw [if_pos c3] at H
    have c3b0 : decide (0 < x) = true := decide_eq_true c3
    clear c3
    replace H := Option.bind_eq_some_iff.mp H
    obtain ⟨nx, A3, H⟩ := H
    have A30 := Aside0.mk A3
    have H' := Aside0.mk H
    have HR := Aside0.mk (Kd.S_reads' HO.out).2.2
    have BB := HB
    clear A3 H HB
    have HB := Aside0.mk (Below.refl wr.heap.size wr)
    go_wp2_with (first | ((with_reducible refine gate_callee (f := 90) rfl ?_); refine goesL_ (some 21) rfl rfl Try.func90 (by kernel_rfl) rfl #[.int .i64 (wrap64 (2 * (xs.length : Int))), .int .i64 (wrap64 (2 * (xs.length : Int)))] rfl (by (try simp only [List.map_toArray, List.map_cons, List.map_nil]); first | done | rfl) ?_; (with_reducible refine (spec_l09Square.calls k1 _ _ nx _ A30.out).mono ?_); rintro e w3 ⟨v0, rfl, ho0, hb⟩; refine ⟨_, rfl, ?_⟩; have n0_ := Aside0.mk (Kd.S_lower ho0 (below_size HB.out)); have n1_ := Aside0.mk (below_step HB.out hb); clear HB hb ho0; have HN := n0_; have HB := n1_; clear n0_ n1_; obtain ⟨An, cn, en⟩ := Kd.S_slice HN.out; subst en))
    clear A30 HO c3b0
    obtain ⟨wo, rfl⟩ : ∃ wo : World, wo = wr := ⟨_, rfl⟩
    go_loopg [6] k1 (fun kq v27 w' => ∃ (ys : List (List Int)) (i : Int), v27 = .int .i64 i ∧ Aside0 (spec_l09Doubling.l1 kq x xs ys i = some r) ∧ Aside0 (kq ≤ k1) ∧ Aside0 (ys.length = nx.length) ∧ Aside0 (Kd.S (Kd.slice 2 (Kd.int .i64)) 34 w' wo.heap.size (fun _ => True) (.slice An nx.length cn) ys) ∧ Aside0 (Below wo.heap.size wo w'))
    case atStart => exact ⟨nx, 0, rfl, H', ⟨Nat.le_refl _⟩, ⟨rfl⟩, HN, HB⟩
    case round =>
     clear H' HN HB
     obtain ⟨ys, i, rfl, HA, HK1, HY, HN, HB⟩ := hrel
     cases gk with
     | zero => exact absurd HA.out (by simp [spec_l09Doubling.l1])
     | succ k2 =>
      have H := HA.out
      clear HA
      simp only [spec_l09Doubling.l1] at H
      by_cases c4 : i < (xs.length : Int)
      ·rw [if_pos c4] at H
       have H' := Aside0.mk H
       have c4b0 : decide (i < (xs.length : Int)) = true := decide_eq_true c4
       clear H c4
       go_wp2
       clear c4b0
       go_loopg [7] k2 (fun kq v34 w' => ∃ (zs : List (List Int)) (y : Int), v34 = .int .i64 y ∧ Aside0 (spec_l09Doubling.l2 kq x xs zs i y = some r) ∧ Aside0 (kq ≤ k2) ∧ Aside0 (zs.length = nx.length) ∧ Aside0 (Kd.S (Kd.slice 2 (Kd.int .i64)) 34 w' wo.heap.size (fun _ => True) (.slice An nx.length cn) zs) ∧ Aside0 (Below wo.heap.size wo w'))
       case atStart => exact ⟨ys, 0, rfl, H', ⟨Nat.le_refl _⟩, HY, HN, HB⟩
       case round =>
        clear H' HN HB HY
        obtain ⟨zs, y, rfl, HA, HK2, HY, HN, HB⟩ := hrel
        cases gk with
        | zero => exact absurd HA.out (by simp [spec_l09Doubling.l2])
        | succ k3 =>
         have H := HA.out
         clear HA
         simp only [spec_l09Doubling.l2] at H
         by_cases c6 : y < (xs.length : Int)
         ·rw [if_pos c6] at H
          by_cases c7 : 0 ≤ i
          ·rw [if_pos c7] at H
           by_cases c8 : i < (xs.length : Int)
           ·rw [if_pos c8] at H
            by_cases c9 : 0 ≤ y
            ·rw [if_pos c9] at H
             by_cases c10 : y < ((rda xs i).length : Int)
             ·rw [if_pos c10] at H
              replace H := Option.bind_eq_some_iff.mp H
              obtain ⟨n1, P1, H⟩ := H
              replace H := Option.bind_eq_some_iff.mp H
              obtain ⟨n2, P2, H⟩ := H
              replace H := Option.bind_eq_some_iff.mp H
              obtain ⟨n3, P3, H⟩ := H
              replace H := Option.bind_eq_some_iff.mp H
              obtain ⟨n4, P4, H⟩ := H
              have H' := Aside0.mk H
              clear H
              obtain ⟨ad, Ar, cr, e1, hx, hl, hi⟩ := at_rda HR.out i c7 c8
              obtain ⟨adr, er, hr⟩ := Kd.at_int hi y c9 c10
              cases er
              cases e1
              replace hx := (HB.out.cell (World.block_lt_of_cell? wo _ hx)).trans hx
              replace hr := (HB.out.cell (World.block_lt_of_cell? wo _ hr)).trans hr
              clear hi hl
              obtain ⟨a1, b1, d1, e1, f1⟩ := put2_some P1
              obtain ⟨g1, q1, cq1, eA1, hnl1, hg1, hc1, hf1, hq1, hl1, hgl1, htr1, hne1, hS1⟩ := rows_at HN.out (i) (y) a1 b1 d1 e1
              replace hS1 := hS1 (wrap64 (4 * rd (rda xs i) y))
              rw [← f1] at hS1
              have hB1 := Below.setCell HB.out (p := ⟨q1, (y).toNat, none⟩) hq1 (.int .i64 (wrap64 (4 * rd (rda xs i) y)))
              obtain ⟨W1, hW1⟩ : ∃ W_ : World, wr.setCell ⟨q1, (y).toNat, none⟩ (.int .i64 (wrap64 (4 * rd (rda xs i) y))) = W_ := ⟨_, rfl⟩
              rw [hW1] at hS1 hB1
              rw [← hnl1] at b1
              have F1 := Aside0.mk f1
              clear f1 hnl1 htr1 hl1 hgl1 hq1 hne1 P1
              obtain ⟨a2, b2, d2, e2, f2⟩ := put2_some P2
              obtain ⟨g2, q2, cq2, eA2, hnl2, hg2, hc2, hf2, hq2, hl2, hgl2, htr2, hne2, hS2⟩ := rows_at hS1 (i) (wrap64 (y + (xs.length : Int))) a2 b2 d2 e2
              replace hS2 := hS2 (wrap64 (wrap64 (4 * rd (rda xs i) y) + 2))
              rw [← f2] at hS2
              have hB2 := Below.setCell hB1 (p := ⟨q2, (wrap64 (y + (xs.length : Int))).toNat, none⟩) hq2 (.int .i64 (wrap64 (wrap64 (4 * rd (rda xs i) y) + 2)))
              obtain ⟨W2, hW2⟩ : ∃ W_ : World, W1.setCell ⟨q2, (wrap64 (y + (xs.length : Int))).toNat, none⟩ (.int .i64 (wrap64 (wrap64 (4 * rd (rda xs i) y) + 2))) = W_ := ⟨_, rfl⟩
              rw [hW2] at hS2 hB2
              rw [← hnl2] at b2
              have F2 := Aside0.mk f2
              clear f2 hnl2 htr2 hl2 hgl2 hq2 hne2 P2
              obtain ⟨a3, b3, d3, e3, f3⟩ := put2_some P3
              obtain ⟨g3, q3, cq3, eA3, hnl3, hg3, hc3, hf3, hq3, hl3, hgl3, htr3, hne3, hS3⟩ := rows_at hS2 (wrap64 (i + (xs.length : Int))) (y) a3 b3 d3 e3
              replace hS3 := hS3 (wrap64 (wrap64 (4 * rd (rda xs i) y) + 3))
              rw [← f3] at hS3
              have hB3 := Below.setCell hB2 (p := ⟨q3, (y).toNat, none⟩) hq3 (.int .i64 (wrap64 (wrap64 (4 * rd (rda xs i) y) + 3)))
              obtain ⟨W3, hW3⟩ : ∃ W_ : World, W2.setCell ⟨q3, (y).toNat, none⟩ (.int .i64 (wrap64 (wrap64 (4 * rd (rda xs i) y) + 3))) = W_ := ⟨_, rfl⟩
              rw [hW3] at hS3 hB3
              rw [← hnl3] at b3
              have F3 := Aside0.mk f3
              clear f3 hnl3 htr3 hl3 hgl3 hq3 hne3 P3
              obtain ⟨a4, b4, d4, e4, f4⟩ := put2_some P4
              obtain ⟨g4, q4, cq4, eA4, hnl4, hg4, hc4, hf4, hq4, hl4, hgl4, htr4, hne4, hS4⟩ := rows_at hS3 (wrap64 (i + (xs.length : Int))) (wrap64 (y + (xs.length : Int))) a4 b4 d4 e4
              replace hS4 := hS4 (wrap64 (wrap64 (4 * rd (rda xs i) y) + 1))
              rw [← f4] at hS4
              have hB4 := Below.setCell hB3 (p := ⟨q4, (wrap64 (y + (xs.length : Int))).toNat, none⟩) hq4 (.int .i64 (wrap64 (wrap64 (4 * rd (rda xs i) y) + 1)))
              obtain ⟨W4, hW4⟩ : ∃ W_ : World, W3.setCell ⟨q4, (wrap64 (y + (xs.length : Int))).toNat, none⟩ (.int .i64 (wrap64 (wrap64 (4 * rd (rda xs i) y) + 1))) = W_ := ⟨_, rfl⟩
              rw [hW4] at hS4 hB4
              rw [← hnl4] at b4
              have F4 := Aside0.mk f4
              clear f4 hnl4 htr4 hl4 hgl4 hq4 hne4 P4
              cases eA1
              cases eA2
              cases eA3
              cases eA4
              have hS5 := Aside0.mk hS4
              have hB5 := Aside0.mk hB4
              have HZ := HY
              clear hS1 hS2 hS3 hS4 hB1 hB2 hB3 hB4 HN HB HY
              have z0 : decide (0 ≤ i) = true := decide_eq_true c7
              have y0 := eq_true c7
              have z1 : decide (i < (xs.length : Int)) = true := decide_eq_true c8
              have y1 := eq_true c8
              have z2 : decide (0 ≤ y) = true := decide_eq_true c9
              have y2 := eq_true c9
              have z3 : decide (y < ((rda xs i).length : Int)) = true := decide_eq_true c10
              have y3 := eq_true c10
              have z4 : decide (y < (xs.length : Int)) = true := decide_eq_true c6
              have y4 := eq_true c6
              have z6 : decide (i < (nx.length : Int)) = true := decide_eq_true b1
              have y6 := eq_true b1
              have z8 : decide (y < ((rda zs (i)).length : Int)) = true := decide_eq_true e1
              have y8 := eq_true e1
              have z11 : decide (0 ≤ wrap64 (y + (xs.length : Int))) = true := decide_eq_true d2
              have y11 := eq_true d2
              have z12 : decide (wrap64 (y + (xs.length : Int)) < ((rda n1 (i)).length : Int)) = true := decide_eq_true e2
              have y12 := eq_true e2
              have z13 : decide (0 ≤ wrap64 (i + (xs.length : Int))) = true := decide_eq_true a3
              have y13 := eq_true a3
              have z14 : decide (wrap64 (i + (xs.length : Int)) < (nx.length : Int)) = true := decide_eq_true b3
              have y14 := eq_true b3
              have z16 : decide (y < ((rda n2 (wrap64 (i + (xs.length : Int)))).length : Int)) = true := decide_eq_true e3
              have y16 := eq_true e3
              have z20 : decide (wrap64 (y + (xs.length : Int)) < ((rda n3 (wrap64 (i + (xs.length : Int)))).length : Int)) = true := decide_eq_true e4
              have y20 := eq_true e4
              clear c7 c8 c9 c10 c6 a1 b1 d1 e1 a2 b2 d2 e2 a3 b3 d3 e3 a4 b4 d4 e4
              go_wp2
              go_roundg k3
              case measure => have := HK1.out; have := HK2.out; omega
              case rel => exact ⟨n4, wrap64 (y + 1), rfl, H', ⟨by have := HK1.out; have := HK2.out; omega⟩, ⟨by have := HZ.out; rw [F4.out, F3.out, F2.out, F1.out]; simp only [List.length_set]; exact this⟩, hS5, hB5⟩
             ·rw [if_neg c10] at H
              exact absurd H (by simp)
            ·rw [if_neg c9] at H
             exact absurd H (by simp)
           ·rw [if_neg c8] at H
            exact absurd H (by simp)
          ·rw [if_neg c7] at H
           exact absurd H (by simp)
         ·rw [if_neg c6] at H
          have c6b0 : decide (y < (xs.length : Int)) = false := decide_eq_false c6
          clear c6
          have H' := Aside0.mk H
          clear H
          go_wp2
          go_roundg k3
          case measure => have := HK1.out; have := HK2.out; omega
          case rel => exact ⟨zs, wrap64 (i + 1), rfl, H', ⟨by have := HK1.out; have := HK2.out; omega⟩, HY, HN, HB⟩
      ·rw [if_neg c4] at H
       have c4b0 : decide (i < (xs.length : Int)) = false := decide_eq_false c4
       clear c4
       have H' := Aside0.mk H
       clear H
       go_wp2
       go_roundg k2
       case measure => have := HK.out; have := HK1.out; omega
       case rel => exact ⟨An, cn, ys, wrap64 (x - 1), by rw [HY.out], rfl, H', ⟨by have := HK.out; have := HK1.out; omega⟩, ⟨by rw [HY.out]; exact Kd.S_lower HN.out (below_size BB.out)⟩, ⟨below_step BB.out HB.out⟩⟩
   ·rw [if_neg c3] at H
    have c3b0 : decide (0 < x) = false := decide_eq_false c3
    clear c3
    have H2 := Option.some.inj H
    subst H2
    clear H
    go_wp2
    go_ret
    exact ⟨_, rfl, HO.out, HB.out⟩
end Go.Proofs.Ytckonklpdepgoaa.Q
namespace Go.Proofs.Ytckonklpdepgoaa.Q
open Go.RowKit Go.Proofs.YtckonklpdepgoaaW.PrintWords Go.Proofs.YtckonklpdepgoaaW.PrintLast Go.Proofs.YtckonklpdepgoaaW.PrintMore
attribute [local go_sem] max2_int min2_int max_two min_two max_three min_three max_four min_four   -- for this text's walks alone
set_option linter.unusedVariables false
set_option linter.unusedSimpArgs false
def spec_DoublingMask.f (k : Nat) (a0 : Int) : Option ((List (List Int)) × Bool) := (spec_l09Order.f a0).bind fun t111 => (if t111 = true then ((spec_l09Doubling.f k a0).bind fun t112 => (some (t112, true))) else (some (([] : List (List Int)), false)))
theorem spec_DoublingMask.mono : ∀ a0 k, LeO (spec_DoublingMask.f k a0) (spec_DoublingMask.f (k + 1) a0) := by
 intro a0 k
 unfold spec_DoublingMask.f
 repeat' first
   | (with_reducible exact spec_l09Doubling.mono _ _)
   | (with_reducible exact LeO.refl _)
   | (with_reducible exact LeO.none _)
   | (with_reducible refine LeO.ite ?_ ?_)
   | (with_reducible refine LeO.bind ?_ (fun _ => ?_))
   | exact spec_l09Doubling.mono _ _
   | exact LeO.none _
   | refine LeO.ite ?_ ?_
   | refine LeO.bind ?_ (fun _ => ?_)
set_option maxHeartbeats 8000000 in
set_option maxRecDepth 100000 in
theorem spec_DoublingMask.calls (k : Nat) (a0 : Int) (r1 : List (List Int)) (r2 : Bool) (w : World) (h : spec_DoublingMask.f k a0 = some (r1, r2)) :
  Calls Try.prog 15 #[.int .i64 a0] w fun e w' => ∃ v0_ : Value, e = .returned (.tuple #[v0_, .bool r2]) ∧ Kd.S (Kd.slice 2 (Kd.int .i64)) 34 w' w.heap.size (fun _ => True) v0_ r1 ∧ Below w.heap.size w w' := by
 have HB := Aside0.mk (Below.refl w.heap.size w)
 have H : ((spec_l09Order.f a0).bind fun t111 => (if t111 = true then ((spec_l09Doubling.f k a0).bind fun t112 => (some (t112, true))) else (some (([] : List (List Int)), false)))) = some (r1, r2) := h
 clear h
 replace H := Option.bind_eq_some_iff.mp H
 obtain ⟨t111, A20, H⟩ := H
 replace H : (if t111 = true then ((spec_l09Doubling.f k a0).bind fun t112 => (some (t112, true))) else (some (([] : List (List Int)), false))) = some (r1, r2) := H
 have A2 := Aside0.mk A20
 clear A20
 by_cases c3 : t111 = true
 ·subst c3
  have H1 : ((spec_l09Doubling.f k a0).bind fun t112 => (some (t112, true))) = some (r1, r2) := by rw [if_pos rfl] at H; exact H
  clear H
  have H := H1
  clear H1
  replace H := Option.bind_eq_some_iff.mp H
  obtain ⟨t112, A40, H⟩ := H
  replace H : (some (t112, true)) = some (r1, r2) := H
  have A4 := Aside0.mk A40
  clear A40
  simp only [Option.some.injEq, Prod.mk.injEq] at H
  obtain ⟨rfl, rfl⟩ := H
  go_enter Try.func15, Try.ntmps15
  go_wp2_with (first | ((with_reducible refine gate_callee (f := 58) rfl ?_); refine goesL_ (some 5) rfl rfl Try.func58 (by kernel_rfl) rfl #[.int .i64 a0] rfl (by (try simp only [List.map_toArray, List.map_cons, List.map_nil]); first | done | rfl | (simp only [List.length_drop, List.length_take]; rfl) | (simp only [show ∀ (n_ : Nat) (b_ : Int), Int.tdiv (n_ : Int) b_ = (n_ : Int) / b_ from fun n_ b_ => Int.tdiv_eq_ediv_of_nonneg (Int.natCast_nonneg n_)]; rfl)) ?_; (with_reducible refine (spec_l09Order.calls a0 true _ A2.out).mono ?_); rintro e w' ⟨rfl, ⟨nd, rfl⟩⟩; refine ⟨_, rfl, ?_⟩) | ((with_reducible refine gate_callee (f := 59) rfl ?_); refine goesL_ (some 8) rfl rfl Try.func59 (by kernel_rfl) rfl #[.int .i64 a0] rfl (by (try simp only [List.map_toArray, List.map_cons, List.map_nil]); first | done | rfl | (simp only [List.length_drop, List.length_take]; rfl) | (simp only [show ∀ (n_ : Nat) (b_ : Int), Int.tdiv (n_ : Int) b_ = (n_ : Int) / b_ from fun n_ b_ => Int.tdiv_eq_ediv_of_nonneg (Int.natCast_nonneg n_)]; rfl)) ?_; (with_reducible refine (spec_l09Doubling.calls k a0 t112 _ A4.out).mono ?_); rintro e w5 ⟨v113, rfl, ho0, hb⟩; refine ⟨_, rfl, ?_⟩; have n0_ := Aside0.mk (Kd.S_lower ho0 (below_size (by repeat (first | (with_reducible first | exact HB.out | apply below_alloc | apply pw_below_drewN | apply below_drew1) | exact HB.out)))); have n1_ := Aside0.mk (below_step (by repeat (first | (with_reducible first | exact HB.out | apply below_alloc | apply pw_below_drewN | apply below_drew1) | exact HB.out)) hb); clear HB; have HO114 := n0_; have HB := n1_; clear n0_ n1_; (try clear hb); (try clear hb2); (try clear hk); (try clear hi); (try clear ho0)))
  go_ret2
  exact ⟨_, by first | rfl | (simp [errW_none, errW_some] <;> rfl) | (simp [*, errW_none, errW_some] <;> rfl), by (with_reducible repeat (first | apply Kd.S_alloc | apply Kd.S_drewN | apply Kd.S_drew)); exact HO114.out, by repeat (first | (with_reducible first | exact HB.out | apply below_alloc | apply pw_below_drewN | apply below_drew1) | exact HB.out)⟩
 ·replace c3 := Bool.eq_false_iff.mpr c3
  subst c3
  have H1 : (some (([] : List (List Int)), false)) = some (r1, r2) := by rw [if_neg (show ¬ (false = true) by decide)] at H; exact H
  clear H
  have H := H1
  clear H1
  simp only [Option.some.injEq, Prod.mk.injEq] at H
  obtain ⟨rfl, rfl⟩ := H
  go_enter Try.func15, Try.ntmps15
  go_wp2_with (first | ((with_reducible refine gate_callee (f := 58) rfl ?_); refine goesL_ (some 5) rfl rfl Try.func58 (by kernel_rfl) rfl #[.int .i64 a0] rfl (by (try simp only [List.map_toArray, List.map_cons, List.map_nil]); first | done | rfl | (simp only [List.length_drop, List.length_take]; rfl) | (simp only [show ∀ (n_ : Nat) (b_ : Int), Int.tdiv (n_ : Int) b_ = (n_ : Int) / b_ from fun n_ b_ => Int.tdiv_eq_ediv_of_nonneg (Int.natCast_nonneg n_)]; rfl)) ?_; (with_reducible refine (spec_l09Order.calls a0 false _ A2.out).mono ?_); rintro e w' ⟨rfl, ⟨nd, rfl⟩⟩; refine ⟨_, rfl, ?_⟩))
  go_ret2
  exact ⟨_, by first | rfl | (simp [errW_none, errW_some] <;> rfl) | (simp [*, errW_none, errW_some] <;> rfl), by first | exact Kd.S_nil _ _ _ _ _ | exact Kd.N_nil _ _ _ _ _ | exact Kd.V_nil _ _ _ _ _ | exact Kd.Q_nil _ _ _ _ _ | exact Kd.R_nil _ _ _ _ _, by repeat (first | (with_reducible first | exact HB.out | apply below_alloc | apply pw_below_drewN | apply below_drew1) | exact HB.out)⟩
def impl_within.f (a0 : Int) (a1 : Int) (a2 : Int) : Option (Bool) := if a1 ≤ a0 then (some (decide (a0 ≤ a2))) else (some false)
set_option maxHeartbeats 8000000 in
set_option maxRecDepth 100000 in
theorem impl_within.calls (a0 : Int) (a1 : Int) (a2 : Int) (r : Bool) (w : World) (h : impl_within.f a0 a1 a2 = some r) :
  Calls Try.prog 60 #[.int .i64 a0, .int .i64 a1, .int .i64 a2] w fun e w' => e = .returned (.bool r) ∧ Drawn0 w w' := by
 have H : (if a1 ≤ a0 then (some (decide (a0 ≤ a2))) else (some false)) = some r := h
 clear h
 by_cases c4 : a1 ≤ a0
 ·rw [if_pos c4] at H
  have c4b0 : decide (a1 ≤ a0) = true := decide_eq_true c4
  clear c4
  obtain rfl := Option.some.inj H
  go_enter Try.func60, Try.ntmps60
  go_wp2
  go_ret
  exact ⟨by first | rfl | (simp; done) | (simp [*]; done), by repeat (first | exact Drawn0.refl _ | apply Drawn0.step)⟩
 ·rw [if_neg c4] at H
  have c4b0 : decide (a1 ≤ a0) = false := decide_eq_false c4
  clear c4
  obtain rfl := Option.some.inj H
  go_enter Try.func60, Try.ntmps60
  go_wp2
  go_ret
  exact ⟨by first | rfl | (simp; done) | (simp [*]; done), by repeat (first | exact Drawn0.refl _ | apply Drawn0.step)⟩
end Go.Proofs.Ytckonklpdepgoaa.Q
namespace Go.Proofs.Ytckonklpdepgoaa.Q
open Go.RowKit Go.Proofs.YtckonklpdepgoaaW.PrintWords Go.Proofs.YtckonklpdepgoaaW.PrintLast Go.Proofs.YtckonklpdepgoaaW.PrintMore
attribute [local go_sem] max2_int min2_int max_two min_two max_three min_three max_four min_four   -- for this text's walks alone
set_option linter.unusedVariables false
set_option linter.unusedSimpArgs false
def impl_noughts.l0 : Nat → Int → List (List Int) → Int → Int → Option ((List (List Int)))
 | 0, _, _, _, _ => none
 | k + 1, x1, x5, x10, x11 => if x11 < x10 then (if 0 ≤ x1 then (if (x1 : Int).toNat ≤ 35184372088832 then (if 0 ≤ x11 then (if x11 < (x5.length : Int) then (impl_noughts.l0 k x1 (x5.set (x11 : Int).toNat (List.replicate (x1 : Int).toNat 0)) x10 (wrap64 (x11 + 1))) else (none)) else (none)) else (none)) else (none)) else (some x5)
def impl_noughts.f (k : Nat) (a0 : Int) (a1 : Int) : Option ((List (List Int))) := if 0 ≤ a0 then (if (a0 : Int).toNat ≤ 11728124029610 then ((some (List.replicate (a0 : Int).toNat [] : List (List Int))).bind fun y115 => (impl_noughts.l0 k a1 y115 (y115.length : Int) 0)) else (none)) else (none)
theorem impl_noughts.mono_l : ∀ k, (∀ y0 y1 y2 y3, LeO (impl_noughts.l0 k y0 y1 y2 y3) (impl_noughts.l0 (k + 1) y0 y1 y2 y3))
 | 0 => fun _ _ _ _ r h => by simp [impl_noughts.l0] at h
 | k + 1 => by
  have ih0 := impl_noughts.mono_l k
  ·intro y0 y1 y2 y3
   unfold impl_noughts.l0
   repeat' first
   | (with_reducible exact ih0 _ _ _ _)
   | (with_reducible exact LeO.refl _)
   | (with_reducible exact LeO.none _)
   | (with_reducible refine LeO.ite ?_ ?_)
   | (with_reducible refine LeO.bind ?_ (fun _ => ?_))
   | exact ih0 _ _ _ _
   | exact LeO.none _
   | refine LeO.ite ?_ ?_
   | refine LeO.bind ?_ (fun _ => ?_)
theorem impl_noughts.mono : ∀ a0 a1 k, LeO (impl_noughts.f k a0 a1) (impl_noughts.f (k + 1) a0 a1) := by
 intro a0 a1 k
 have ih0 := impl_noughts.mono_l k
 unfold impl_noughts.f
 repeat' first
   | (with_reducible exact ih0 _ _ _ _)
   | (with_reducible exact LeO.refl _)
   | (with_reducible exact LeO.none _)
   | (with_reducible refine LeO.ite ?_ ?_)
   | (with_reducible refine LeO.bind ?_ (fun _ => ?_))
   | exact ih0 _ _ _ _
   | exact LeO.none _
   | refine LeO.ite ?_ ?_
   | refine LeO.bind ?_ (fun _ => ?_)
set_option maxHeartbeats 8000000 in
set_option maxRecDepth 100000 in
theorem impl_noughts.calls (k : Nat) (a0 : Int) (a1 : Int) (r : List (List Int)) (w : World) (h : impl_noughts.f k a0 a1 = some r) :
  Calls Try.prog 61 #[.int .i64 a0, .int .i64 a1] w fun e w' => ∃ v0_ : Value, e = .returned (v0_) ∧ Kd.S (Kd.slice 2 (Kd.int .i64)) 34 w' w.heap.size (fun _ => True) v0_ r ∧ Below w.heap.size w w' := by
 have HB := Aside0.mk (Below.refl w.heap.size w)
 have H : (if 0 ≤ a0 then (if (a0 : Int).toNat ≤ 11728124029610 then ((some (List.replicate (a0 : Int).toNat [] : List (List Int))).bind fun y115 => (impl_noughts.l0 k a1 y115 (y115.length : Int) 0)) else (none)) else (none)) = some r := h
 clear h
 by_cases c3 : 0 ≤ a0
 ·rw [if_pos c3] at H
  have c3b0 := eq_true c3
  have c3b1 : decide (0 ≤ a0) = true := decide_eq_true c3
  clear c3
  by_cases c4 : (a0 : Int).toNat ≤ 11728124029610
  ·rw [if_pos c4] at H
   have c4b0 := eq_true c4
   have c4b1 : decide ((a0 : Int).toNat ≤ 11728124029610) = true := decide_eq_true c4
   clear c4
   obtain ⟨y115, hy115⟩ : ∃ y_ : List (List Int), y_ = (List.replicate (a0 : Int).toNat []) := ⟨_, rfl⟩
   replace H : (impl_noughts.l0 k a1 y115 (y115.length : Int) 0) = some r := by first | (rw [hy115]; with_reducible exact H) | (have H2_ := (Option.bind_some _ _).symm.trans H; rw [hy115]; with_reducible exact H2_) | (have H2_ := (Option.bind_some _ _).symm.trans H; with_reducible exact H2_) | with_reducible exact H | (rw [hy115]; exact H) | exact H
   have Ny115 := Aside0.mk hy115
   clear hy115
   have H' := Aside0.mk H
   clear H
   go_enter Try.func61, Try.ntmps61
   go_wp2_with (first | ((with_reducible refine gate_dst (N := 8) rfl ?_); refine Kd.S_make (Kd.slice 2 (Kd.int .i64)) _ 34 rfl (N := 8) rfl 22 _ _ rfl a0 rfl rfl Try.underlying22 (.slice none 0 0) 24 info34 rfl (by decide) (by omega) [] (ok := fun _ => True) (okp := fun _ => True) ⟨_, rfl, Kd.R_nil _ _ _ _ _⟩ (fun _ hk => hk) trivial (of_decide_eq_true (by first | (with_reducible assumption) | assumption)) (Nat.le_trans (Nat.mul_le_mul_right _ (of_decide_eq_true (by first | (with_reducible assumption) | assumption) : a0.toNat ≤ 11728124029610)) (by omega)) (Below.refl _ _) (Nat.le_refl _) ?_; intro v116 w5 ho6 hb hg_ hnew_; clear hg_ hnew_; (first | rw [← Ny115.out] at ho6 | (simp only [Int.reduceToNat] at ho6; rw [← Ny115.out] at ho6)); have n0_ := Aside0.mk (Kd.S_lower ho6 (below_size (by repeat (first | (with_reducible first | exact HB.out | apply below_alloc | apply pw_below_drewN | apply below_drew1) | exact HB.out)))); have n1_ := Aside0.mk (below_step (by repeat (first | (with_reducible first | exact HB.out | apply below_alloc | apply pw_below_drewN | apply below_drew1) | exact HB.out)) hb); clear HB; have HO117 := n0_; have HB := n1_; clear n0_ n1_; clear hb ho6; obtain ⟨Ao7, co7, eo7⟩ := Kd.S_slice HO117.out; subst eo7))
   go_loopg [11] k (fun kq v11 w' => ∃ (x5_1 : List (List Int)) (x11_1 : Int), v11 = .int .i64 x11_1 ∧ Aside0 (impl_noughts.l0 kq a1 x5_1 (y115.length : Int) x11_1 = some r) ∧ Aside0 (kq ≤ k) ∧ Aside0 (Kd.S (Kd.slice 2 (Kd.int .i64)) 34 w' w.heap.size (fun _ => True) (.slice Ao7 y115.length co7) x5_1) ∧ Aside0 (Below w.heap.size w w'))
   case atStart => exact ⟨(y115), (0), (by first | rfl | (simp; done) | (simp [*]; done)), H', ⟨Nat.le_refl _⟩, ⟨by (with_reducible repeat (first | apply Kd.S_alloc | apply Kd.S_drewN | apply Kd.S_drew)); exact HO117.out⟩, ⟨by repeat (first | (with_reducible first | exact HB.out | apply below_alloc | apply pw_below_drewN | apply below_drew1) | exact HB.out)⟩⟩
   case round =>
    clear H'
    try clear p2
    try clear c3
    try clear c3b0
    try clear c3b1
    try clear c4
    try clear c4b0
    try clear c4b1
    try clear c6
    obtain ⟨x5_1, x11_1, rfl, HA, HK1, HO_5, HB⟩ := hrel
    have hl5_1 := (Kd.S_reads' HO_5.out).1
    rw [hl5_1] at HO_5
    (try simp only [hl5_1])
    cases gk with
    | zero => exact absurd HA.out (by simp [impl_noughts.l0])
    | succ k1 =>
     have H := HA.out
     clear HA
     simp only [impl_noughts.l0] at H
     by_cases c8 : x11_1 < (y115.length : Int)
     ·rw [if_pos c8] at H
      have c8b0 : decide (x11_1 < (y115.length : Int)) = true := decide_eq_true c8
      clear c8
      by_cases c9 : 0 ≤ a1
      ·rw [if_pos c9] at H
       have c9b0 := eq_true c9
       have c9b1 : decide (0 ≤ a1) = true := decide_eq_true c9
       clear c9
       by_cases c10 : (a1 : Int).toNat ≤ 35184372088832
       ·rw [if_pos c10] at H
        have c10b0 := eq_true c10
        have c10b1 : decide ((a1 : Int).toNat ≤ 35184372088832) = true := decide_eq_true c10
        clear c10
        obtain ⟨y118, hy118⟩ : ∃ y_ : List Int, y_ = (List.replicate (a1 : Int).toNat 0) := ⟨_, rfl⟩
        replace H : (if 0 ≤ x11_1 then (if x11_1 < (x5_1.length : Int) then (impl_noughts.l0 k1 a1 (x5_1.set (x11_1 : Int).toNat y118) (y115.length : Int) (wrap64 (x11_1 + 1))) else (none)) else (none)) = some r := by first | (rw [hy118]; with_reducible exact H) | (have H2_ := (Option.bind_some _ _).symm.trans H; rw [hy118]; with_reducible exact H2_) | (have H2_ := (Option.bind_some _ _).symm.trans H; with_reducible exact H2_) | with_reducible exact H | (rw [hy118]; exact H) | exact H
        have Ny118 := Aside0.mk hy118
        clear hy118
        by_cases c11 : 0 ≤ x11_1
        ·rw [if_pos c11] at H
         have c11b0 : decide (0 ≤ x11_1) = true := decide_eq_true c11
         clear c11
         by_cases c12 : x11_1 < (x5_1.length : Int)
         ·rw [if_pos c12] at H
          have c12b0 : decide (x11_1 < (x5_1.length : Int)) = true := decide_eq_true c12
          clear c12
          obtain ⟨y121, hy121⟩ : ∃ y_ : List (List Int), y_ = (x5_1.set (x11_1 : Int).toNat y118) := ⟨_, rfl⟩
          replace H : (impl_noughts.l0 k1 a1 y121 (y115.length : Int) (wrap64 (x11_1 + 1))) = some r := by first | (rw [hy121]; with_reducible exact H) | (have H2_ := (Option.bind_some _ _).symm.trans H; rw [hy121]; with_reducible exact H2_) | (have H2_ := (Option.bind_some _ _).symm.trans H; with_reducible exact H2_) | with_reducible exact H | (rw [hy121]; exact H) | exact H
          have Ny121 := Aside0.mk hy121
          clear hy121
          have H' := Aside0.mk H
          clear H
          go_wp2_with (first | ((with_reducible refine gate_dst (N := 17) rfl ?_); refine Kd.R_make (Kd.int .i64) _ 2 rfl (N := 17) rfl 34 _ _ rfl a1 rfl rfl Try.underlying34 (.int .i64 0) 8 info2 rfl (by decide) (by omega) 0 (ok := fun _ => True) (okp := fun _ => True) rfl (fun _ hk => hk) trivial (of_decide_eq_true (by first | (with_reducible assumption) | assumption)) (Nat.le_trans (Nat.mul_le_mul_right _ (of_decide_eq_true (by first | (with_reducible assumption) | assumption) : a1.toNat ≤ 35184372088832)) (by omega)) (Below.refl _ _) (Nat.le_refl _) ?_; intro v119 w14 ho15 hb hg_ hnew_; clear hg_ hnew_; (first | rw [← Ny118.out] at ho15 | (simp only [Int.reduceToNat] at ho15; rw [← Ny118.out] at ho15)); have n0_ := Aside0.mk (Kd.S_elder' (by (with_reducible repeat (first | apply Kd.S_alloc | apply Kd.S_drewN | apply Kd.S_drew)); exact HO_5.out) (Kd.R_base ho15) hb); have n1_ := Aside0.mk (Kd.R_lower ho15 (below_size (by repeat (first | (with_reducible first | exact HB.out | apply below_alloc | apply pw_below_drewN | apply below_drew1) | exact HB.out)))); have n2_ := Aside0.mk (below_step (by repeat (first | (with_reducible first | exact HB.out | apply below_alloc | apply pw_below_drewN | apply below_drew1) | exact HB.out)) hb); clear HO_5; clear HB; have HO_5 := n0_; have HO120 := n1_; have HB := n2_; clear n0_ n1_ n2_; clear hb ho15; have p13 : 0 ≤ (x11_1 : Int) := of_decide_eq_true (by first | (with_reducible assumption) | assumption); have q13 : (x11_1 : Int) < ((x5_1.length : Int) : Int) := of_decide_eq_true (by first | (with_reducible assumption) | assumption); obtain ⟨go13, co13, eo13, gb13, gl13, cl13, HG13⟩ := Kd.S_form HO_5.out (by omega); (first | cases eo13 | (injection eo13 with ea_ en_ ec_; (first | subst ea_ | (injection ea_ with ea_; subst ea_)); subst ec_; clear en_)); have GB13 := Aside0.mk gb13; have GG13 := Aside0.mk HG13; clear gb13 gl13 HG13; obtain ⟨_, ce13, hcl13, hM13, hcc13, hfr13, _, _⟩ := Kd.S_elem HO_5.out [] (x11_1 : Int) p13 q13; obtain ⟨ve13_0, rfl, ge13_0⟩ := (id hM13); have hx13_0 := hcc13 0 _ rfl; have hf13_0 := hfr13 0; (try simp only [show ((Kd.slice 2 (Kd.int .i64))).sz = 1 from rfl, Nat.mul_one, Nat.add_zero] at hx13_0); (try simp only [show ((Kd.slice 2 (Kd.int .i64))).sz = 1 from rfl, Nat.mul_one, Nat.add_zero] at hf13_0); clear hcl13 hcc13 hfr13 hM13; replace p13 := eq_true p13; replace q13 := eq_true q13; obtain ⟨Ao18, co18, eo18⟩ := Kd.R_slice HO120.out; subst eo18; have n_ := Aside0.mk (Kd.S_mono (ok' := (fun k_ => some k_ ≠ (.slice Ao18 y118.length co18 : Value).ownBlock)) HO_5.out (fun k_ hk => hk.2)); clear HO_5; have HO_5 := n_; clear n_; have HX16 := Aside0.mk (show Kd.S (Kd.slice 2 (Kd.int .i64)) 34 w14 w.heap.size (fun k_ => ((fun _ => True)) k_ ∧ ¬ ((fun k_ => some k_ = (.slice Ao18 y118.length co18 : Value).ownBlock)) k_) (.slice (some ⟨go13, 0, none⟩) x5_1.length co7) x5_1 from (by (with_reducible repeat (first | apply Kd.S_alloc | apply Kd.S_drewN | apply Kd.S_drew)); exact Kd.S_mono HO_5.out (fun k_ hk => ⟨trivial, fun e_ => hk e_⟩))); obtain ⟨oki16, ce16, hcl16, hM16, hcc16, hfr16, hoki16, hH16⟩ := Kd.S_elem HX16.out [] (x11_1 : Int) (of_decide_eq_true (by first | (with_reducible assumption) | assumption)) (by have h_ : (x11_1 : Int) < ((x5_1.length : Int) : Int) := of_decide_eq_true (by first | (with_reducible assumption) | assumption); first | exact h_ | (have e_ := (Kd.S_reads' HO_5.out).1; omega) | simpa using h_); obtain ⟨ve16_0, rfl, ge16_0⟩ := (id hM16); have HP16 := Kd.S_seg hH16 (of_decide_eq_true (by first | (with_reducible assumption) | assumption)) (by have h_ : (x11_1 : Int) < ((x5_1.length : Int) : Int) := of_decide_eq_true (by first | (with_reducible assumption) | assumption); first | exact h_ | (have e_ := (Kd.S_reads' HO_5.out).1; omega) | simpa using h_) (seg := [.slice Ao18 y118.length co18]) (j := 0) (show 1 ≤ 1 from by decide) (x' := y118) (Kd.M_row (Kd.R_mono (Kd.R_tight rfl (Kd.R_mono (ok' := fun k_ => ((fun _ => True)) k_ ∧ k_ ≠ go13) (Kd.R_apart' (HO120.out) (Kd.S_typed HO_5.out) (by decide)) (fun k_ hk => ⟨trivial, fun e_ => (hk.2) (by rw [e_]; rfl)⟩))) (fun _ h_ => Or.inr (h_)))) (fun _ hk => hk) (fun k_ hk_ => ((Kd.R_mono (ok' := fun k_ => ((fun _ => True)) k_ ∧ k_ ≠ go13) (Kd.R_apart' (HO120.out) (Kd.S_typed HO_5.out) (by decide)) (fun k_ hk => ⟨trivial, fun e_ => (hk.2) (by rw [e_]; rfl)⟩))).1 k_ hk_.symm); have hx16_0 := hcc16 0 _ rfl; (try simp only [show ((Kd.slice 2 (Kd.int .i64))).sz = 1 from rfl, Nat.mul_one, Nat.add_zero] at hx16_0); have hf16_0 := hfr16 0; (try simp only [show ((Kd.slice 2 (Kd.int .i64))).sz = 1 from rfl, Nat.mul_one, Nat.add_zero] at hf16_0); clear hcl16 hcc16 hfr16 hM16 hoki16 hH16; (try simp only [show ((Kd.slice 2 (Kd.int .i64))).sz = 1 from rfl, Nat.mul_one, Nat.add_zero] at HP16)) | ((with_reducible refine gate_store (t := 34) (p := 18) rfl ?_); refine store_event (t := 34) (p := 18) (v := ?vo_w17) (w1 := (w14.setCell ⟨go13, (x11_1 : Int).toNat, none⟩ (.slice Ao18 y118.length co18))) ?hg ?ho ?hn ?hr ?_; (case ho => rfl); (case hg => rfl); (case hn => rfl); (case hr => first | (go_simp; done) | (go_simp; rfl)); intro w17 hw; have hg : w14.grownBy w17 (some go13) := (by rw [hw]; exact HP16.2); have hp_ : Kd.S (Kd.slice 2 (Kd.int .i64)) 34 w17 w.heap.size (fun _ => True) (.slice (some ⟨go13, 0, none⟩) x5_1.length co7) y121 := (by rw [hw, Ny121.out]; exact HP16.1); clear HP16; have n0_ := Aside0.mk (hp_); have n1_ := Aside0.mk ((by rw [hw]; exact below_set (HB.out) GB13.out : Below w.heap.size w w17)); clear HO_5; clear HB; clear HO120; have HO_5 := n0_; have HB := n1_; clear n0_ n1_; clear hg hw hp_))
          (try simp only [← hl5_1])
          go_roundg k1
          case measure => have := HK1.out; omega
          case rel => exact ⟨(y121), (wrap64 (x11_1 + 1)), (by first | rfl | (simp; done) | (simp [*]; done)), H', ⟨by have := HK1.out; omega⟩, ⟨by (try simp only [hl5_1]); (with_reducible repeat (first | apply Kd.S_alloc | apply Kd.S_drewN | apply Kd.S_drew)); exact HO_5.out⟩, ⟨by repeat (first | (with_reducible first | exact HB.out | apply below_alloc | apply pw_below_drewN | apply below_drew1) | exact HB.out)⟩⟩
         ·rw [if_neg c12] at H
          exact absurd H (by simp)
        ·rw [if_neg c11] at H
         exact absurd H (by simp)
       ·rw [if_neg c10] at H
        exact absurd H (by simp)
      ·rw [if_neg c9] at H
       exact absurd H (by simp)
     ·rw [if_neg c8] at H
      have c8b0 : decide (x11_1 < (y115.length : Int)) = false := decide_eq_false c8
      try (have c8b0h := c8b0; simp only [hl5_1] at c8b0h)
      clear c8
      obtain rfl := Option.some.inj H
      go_wp2
      go_ret
      exact ⟨_, by first | rfl | (simp [errW_none, errW_some] <;> rfl) | (simp [*, errW_none, errW_some] <;> rfl), by (with_reducible repeat (first | apply Kd.S_alloc | apply Kd.S_drewN | apply Kd.S_drew)); exact HO_5.out, by repeat (first | (with_reducible first | exact HB.out | apply below_alloc | apply pw_below_drewN | apply below_drew1) | exact HB.out)⟩
  ·rw [if_neg c4] at H
   exact absurd H (by simp)
 ·rw [if_neg c3] at H
  exact absurd H (by simp)
end Go.Proofs.Ytckonklpdepgoaa.Q
namespace Go.Proofs.Ytckonklpdepgoaa.Q
open Go.RowKit Go.Proofs.YtckonklpdepgoaaW.PrintWords Go.Proofs.YtckonklpdepgoaaW.PrintLast Go.Proofs.YtckonklpdepgoaaW.PrintMore
attribute [local go_sem] max2_int min2_int max_two min_two max_three min_three max_four min_four   -- for this text's walks alone
set_option linter.unusedVariables false
set_option linter.unusedSimpArgs false
mutual
def impl_DoublingMask.l0 : Nat → Int → List (List Int) → Int → Option (List (List Int) × Bool)
 | 0, _, _, _ => none
 | k + 1, a0, out, x => if x < a0 then ((impl_noughts.f k (wrap64 (2 * (out.length : Int))) (wrap64 (2 * (out.length : Int)))).bind fun nx => impl_DoublingMask.l1 k a0 out x nx 0) else some (out, true)
def impl_DoublingMask.l1 : Nat → Int → List (List Int) → Int → List (List Int) → Int → Option (List (List Int) × Bool)
 | 0, _, _, _, _, _ => none
 | k + 1, a0, out, x, nx, i => if i < (out.length : Int) then (if 0 ≤ i then impl_DoublingMask.l2 k a0 out x nx i 0 else none) else impl_DoublingMask.l0 k a0 nx (wrap64 (x + 1))
def impl_DoublingMask.l2 : Nat → Int → List (List Int) → Int → List (List Int) → Int → Int → Option (List (List Int) × Bool)
 | 0, _, _, _, _, _, _ => none
 | k + 1, a0, out, x, nx, i, y => if y < ((rda out i).length : Int) then (put2 nx i y (wrap64 (4 * rd (rda out i) y))).bind fun n1 => (put2 n1 i (wrap64 (y + (out.length : Int))) (wrap64 (wrap64 (4 * rd (rda out i) y) + 2))).bind fun n2 => (put2 n2 (wrap64 (i + (out.length : Int))) y (wrap64 (wrap64 (4 * rd (rda out i) y) + 3))).bind fun n3 => (put2 n3 (wrap64 (i + (out.length : Int))) (wrap64 (y + (out.length : Int))) (wrap64 (wrap64 (4 * rd (rda out i) y) + 1))).bind fun n4 => impl_DoublingMask.l2 k a0 out x n4 i (wrap64 (y + 1)) else impl_DoublingMask.l1 k a0 out x nx (wrap64 (i + 1))
end
def impl_DoublingMask.f (k : Nat) (a0 : Int) : Option (List (List Int) × Bool) := (impl_within.f a0 0 3).bind fun b => if (!b) = true then some ([], false) else (impl_noughts.f k 1 1).bind fun nx => impl_DoublingMask.l0 k a0 nx 0
theorem impl_DoublingMask.mono_l : ∀ k, (∀ y0 y1 y2, LeO (impl_DoublingMask.l0 k y0 y1 y2) (impl_DoublingMask.l0 (k + 1) y0 y1 y2)) ∧ (∀ y0 y1 y2 y3 y4, LeO (impl_DoublingMask.l1 k y0 y1 y2 y3 y4) (impl_DoublingMask.l1 (k + 1) y0 y1 y2 y3 y4)) ∧ (∀ y0 y1 y2 y3 y4 y5, LeO (impl_DoublingMask.l2 k y0 y1 y2 y3 y4 y5) (impl_DoublingMask.l2 (k + 1) y0 y1 y2 y3 y4 y5))
 | 0 => ⟨fun _ _ _ r h => by simp [impl_DoublingMask.l0] at h, fun _ _ _ _ _ r h => by simp [impl_DoublingMask.l1] at h, fun _ _ _ _ _ _ r h => by simp [impl_DoublingMask.l2] at h⟩
 | k + 1 => by
  obtain ⟨ih0, ih1, ih2⟩ := impl_DoublingMask.mono_l k
  refine ⟨?_, ?_, ?_⟩
  ·intro y0 y1 y2
   unfold impl_DoublingMask.l0
   repeat' first
   | (with_reducible exact ih0 _ _ _)
   | (with_reducible exact ih1 _ _ _ _ _)
   | (with_reducible exact impl_noughts.mono _ _ _)
   | (with_reducible exact LeO.refl _)
   | (with_reducible exact LeO.none _)
   | (with_reducible refine LeO.ite ?_ ?_)
   | (with_reducible refine LeO.bind ?_ (fun _ => ?_))
  ·intro y0 y1 y2 y3 y4
   unfold impl_DoublingMask.l1
   repeat' first
   | (with_reducible exact ih0 _ _ _)
   | (with_reducible exact ih2 _ _ _ _ _ _)
   | (with_reducible exact LeO.refl _)
   | (with_reducible exact LeO.none _)
   | (with_reducible refine LeO.ite ?_ ?_)
   | (with_reducible refine LeO.bind ?_ (fun _ => ?_))
  ·intro y0 y1 y2 y3 y4 y5
   unfold impl_DoublingMask.l2
   repeat' first
   | (with_reducible exact ih1 _ _ _ _ _)
   | (with_reducible exact ih2 _ _ _ _ _ _)
   | (with_reducible exact LeO.refl _)
   | (with_reducible exact LeO.none _)
   | (with_reducible refine LeO.ite ?_ ?_)
   | (with_reducible refine LeO.bind ?_ (fun _ => ?_))
theorem impl_DoublingMask.mono : ∀ a0 k, LeO (impl_DoublingMask.f k a0) (impl_DoublingMask.f (k + 1) a0) := by
 intro a0 k
 obtain ⟨ih0, ih1, ih2⟩ := impl_DoublingMask.mono_l k
 unfold impl_DoublingMask.f
 repeat' first
   | (with_reducible exact ih0 _ _ _)
   | (with_reducible exact impl_noughts.mono _ _ _)
   | (with_reducible exact LeO.refl _)
   | (with_reducible exact LeO.none _)
   | (with_reducible refine LeO.ite ?_ ?_)
   | (with_reducible refine LeO.bind ?_ (fun _ => ?_))
set_option maxHeartbeats 8000000 in
set_option maxRecDepth 100000 in
theorem impl_DoublingMask.calls (k : Nat) (a0 : Int) (r1 : List (List Int)) (r2 : Bool) (w : World) (h : impl_DoublingMask.f k a0 = some (r1, r2)) :
  Calls Try.prog 16 #[.int .i64 a0] w fun e w' => ∃ v0_ : Value, e = .returned (.tuple #[v0_, .bool r2]) ∧ Kd.S (Kd.slice 2 (Kd.int .i64)) 34 w' w.heap.size (fun _ => True) v0_ r1 ∧ Below w.heap.size w w' := by
 have HB := Aside0.mk (Below.refl w.heap.size w)
 have H := h
 clear h
 unfold impl_DoublingMask.f at H
 replace H := Option.bind_eq_some_iff.mp H
 obtain ⟨b, A1, H⟩ := H
 have A10 := Aside0.mk A1
 clear A1
 by_cases c1 : (!b) = true
 ·rw [if_pos c1] at H
  have H2 := Option.some.inj H
  injection H2 with h1 h2
  subst h1
  subst h2
  clear H
  go_enter Try.func16, Try.ntmps16
  go_wp2_with (go_at_call 60; refine (impl_within.calls _ _ _ _ _ A10.out).mono ?_; rintro e w' ⟨rfl, ⟨nd, rfl⟩⟩)
  go_ret2
  exact ⟨_, rfl, Kd.S_nil _ _ _ _ _, pw_below_drewN HB.out _⟩
 ·rw [if_neg c1] at H
  replace H := Option.bind_eq_some_iff.mp H
  obtain ⟨nx0, A2, H⟩ := H
  have A20 := Aside0.mk A2
  have H' := Aside0.mk H
  clear A2 H
  go_enter Try.func16, Try.ntmps16
  go_wp2_with (first | (go_at_call 60; refine (impl_within.calls _ _ _ _ _ A10.out).mono ?_; rintro e w' ⟨rfl, ⟨nd, rfl⟩⟩) | ((with_reducible refine gate_callee (f := 61) rfl ?_); refine goesL_ (some 14) rfl rfl Try.func61 (by kernel_rfl) rfl #[.int .i64 1, .int .i64 1] rfl (by (try simp only [List.map_toArray, List.map_cons, List.map_nil]); first | done | rfl) ?_; (with_reducible refine (impl_noughts.calls k 1 1 nx0 _ A20.out).mono ?_); rintro e w3 ⟨v0, rfl, ho0, hb⟩; refine ⟨_, rfl, ?_⟩; have n0_ := Aside0.mk (Kd.S_lower ho0 (below_size (pw_below_drewN HB.out _))); have n1_ := Aside0.mk (below_step (pw_below_drewN HB.out _) hb); clear HB hb ho0; have HO := n0_; have HB := n1_; clear n0_ n1_; obtain ⟨Ao, co, eo⟩ := Kd.S_slice HO.out; subst eo))
  go_loopg [4, 16] k (fun kq v4 v16 w' => ∃ (A : Option Addr) (c : Nat) (xs : List (List Int)) (x : Int), v4 = .slice A xs.length c ∧ v16 = .int .i64 x ∧ Aside0 (impl_DoublingMask.l0 kq a0 xs x = some (r1, r2)) ∧ Aside0 (kq ≤ k) ∧ Aside0 (Kd.S (Kd.slice 2 (Kd.int .i64)) 34 w' w.heap.size (fun _ => True) (.slice A xs.length c) xs) ∧ Aside0 (Below w.heap.size w w'))
  case atStart => exact ⟨Ao, co, nx0, 0, rfl, rfl, H', ⟨Nat.le_refl _⟩, HO, HB⟩
  case round =>
   clear H' HO HB A20 A10 c1
   obtain ⟨A, c, xs, x, rfl, rfl, HA, HK, HO, HB⟩ := hrel
   cases gk with
   | zero => exact absurd HA.out (by simp [impl_DoublingMask.l0])
   | succ k1 =>
    have H := HA.out
    clear HA
    simp only [impl_DoublingMask.l0] at H
    have hlb := (Kd.S_reads' HO.out).2.1
    have hcm := Kd.C_max (Kd.S_reads' HO.out).2.2
    by_cases c3 : x < a0
    ·rw [if_pos c3] at H
     have c3b0 : decide (x < a0) = true := decide_eq_true c3
     clear c3
     replace H := Option.bind_eq_some_iff.mp H
     obtain ⟨nx, A3, H⟩ := H
     have A30 := Aside0.mk A3
     have H' := Aside0.mk H
     have HR := Aside0.mk (Kd.S_reads' HO.out).2.2
     have BB := HB
     clear A3 H HB hlb hcm
     have HB := Aside0.mk (Below.refl wr.heap.size wr)
     go_wp2_with (first | ((with_reducible refine gate_callee (f := 61) rfl ?_); refine goesL_ (some 24) rfl rfl Try.func61 (by kernel_rfl) rfl #[.int .i64 (wrap64 (2 * (xs.length : Int))), .int .i64 (wrap64 (2 * (xs.length : Int)))] rfl (by (try simp only [List.map_toArray, List.map_cons, List.map_nil]); first | done | rfl) ?_; (with_reducible refine (impl_noughts.calls k1 _ _ nx _ A30.out).mono ?_); rintro e w3 ⟨v0, rfl, ho0, hb⟩; refine ⟨_, rfl, ?_⟩; have n0_ := Aside0.mk (Kd.S_lower ho0 (below_size HB.out)); have n1_ := Aside0.mk (below_step HB.out hb); clear HB hb ho0; have HN := n0_; have HB := n1_; clear n0_ n1_; obtain ⟨An, cn, en⟩ := Kd.S_slice HN.out; subst en))
     clear A30 HO
     obtain ⟨wo, rfl⟩ : ∃ wo : World, wo = wr := ⟨_, rfl⟩
     go_loopg [27] k1 (fun kq v27 w' => ∃ (ys : List (List Int)) (i : Int), v27 = .int .i64 i ∧ Aside0 (impl_DoublingMask.l1 kq a0 xs x ys i = some (r1, r2)) ∧ Aside0 (kq ≤ k1) ∧ Aside0 (ys.length = nx.length) ∧ Aside0 (Kd.S (Kd.slice 2 (Kd.int .i64)) 34 w' wo.heap.size (fun _ => True) (.slice An nx.length cn) ys) ∧ Aside0 (Below wo.heap.size wo w'))
     case atStart => exact ⟨nx, 0, rfl, H', ⟨Nat.le_refl _⟩, ⟨rfl⟩, HN, HB⟩
     case round =>
      clear H' HN HB c3b0
      obtain ⟨ys, i, rfl, HA, HK1, HY, HN, HB⟩ := hrel
      cases gk with
      | zero => exact absurd HA.out (by simp [impl_DoublingMask.l1])
      | succ k2 =>
       have H := HA.out
       clear HA
       simp only [impl_DoublingMask.l1] at H
       by_cases c4 : i < (xs.length : Int)
       ·rw [if_pos c4] at H
        by_cases c5 : 0 ≤ i
        ·rw [if_pos c5] at H
         have H' := Aside0.mk H
         clear H
         obtain ⟨ad, Ar, cr, e1, hx, hl, hi⟩ := at_rda HR.out i c5 c4
         cases e1
         replace hx := (HB.out.cell (World.block_lt_of_cell? wo _ hx)).trans hx
         have HI := Aside0.mk hi
         have c4b0 : decide (i < (xs.length : Int)) = true := decide_eq_true c4
         have c5b0 : decide (0 ≤ i) = true := decide_eq_true c5
         have c4e := eq_true c4
         have c5e := eq_true c5
         clear hi hl
         go_wp2
         clear c4b0 c5b0 c4e c5e hx
         go_loopg [34] k2 (fun kq v34 w' => ∃ (zs : List (List Int)) (y : Int), v34 = .int .i64 y ∧ Aside0 (impl_DoublingMask.l2 kq a0 xs x zs i y = some (r1, r2)) ∧ Aside0 (kq ≤ k2) ∧ Aside0 (zs.length = nx.length) ∧ Aside0 (Kd.S (Kd.slice 2 (Kd.int .i64)) 34 w' wo.heap.size (fun _ => True) (.slice An nx.length cn) zs) ∧ Aside0 (Below wo.heap.size wo w'))
         case atStart => exact ⟨ys, 0, rfl, H', ⟨Nat.le_refl _⟩, HY, HN, HB⟩
         case round =>
          clear H' HN HB HY
          obtain ⟨zs, y, rfl, HA, HK2, HY, HN, HB⟩ := hrel
          cases gk with
          | zero => exact absurd HA.out (by simp [impl_DoublingMask.l2])
          | succ k3 =>
           have H := HA.out
           clear HA
           simp only [impl_DoublingMask.l2] at H
           by_cases c6 : y < ((rda xs i).length : Int)
           ·rw [if_pos c6] at H
            replace H := Option.bind_eq_some_iff.mp H
            obtain ⟨n1, P1, H⟩ := H
            replace H := Option.bind_eq_some_iff.mp H
            obtain ⟨n2, P2, H⟩ := H
            replace H := Option.bind_eq_some_iff.mp H
            obtain ⟨n3, P3, H⟩ := H
            replace H := Option.bind_eq_some_iff.mp H
            obtain ⟨n4, P4, H⟩ := H
            obtain ⟨a1, a2, a3, a4, a5⟩ := put2_some P1
            obtain ⟨b1, b2, b3, b4, b5⟩ := put2_some P2
            obtain ⟨d1, d2, d3, d4, d5⟩ := put2_some P3
            obtain ⟨e1, e2, e3, e4, e5⟩ := put2_some P4
            clear P1 P2 P3 P4
            have H' := Aside0.mk H
            clear H
            obtain ⟨adr, er, hr⟩ := Kd.at_int HI.out y a3 c6
            cases er
            replace hr := (HB.out.cell (World.block_lt_of_cell? wo _ hr)).trans hr
            have hz : zs.length = nx.length := HY.out
            obtain ⟨g, q1, cq1, eA, hnl, hg1, hc1, hf1, hq1, hl1, hgl, htr, hne1, hS1⟩ := rows_at HN.out i y a1 a2 a3 a4
            have A5 := Aside0.mk a5
            have B5 := Aside0.mk b5
            have hS1' := hS1 (wrap64 (4 * rd (rda xs i) y))
            rw [← a5] at hS1'
            obtain ⟨hg2, hL2, hc2, hf2, hS2⟩ := rows_at_same i y (wrap64 (y + (xs.length : Int))) _ eA hg1 hne1 hS1' b1 b2 b3 b4
            have hS2' := Aside0.mk (hS2 (wrap64 (wrap64 (4 * rd (rda xs i) y) + 2)))
            rw [← b5] at hS2'
            rw [hL2] at b4
            have hB2 := Aside0.mk (Below.setCell (Below.setCell HB.out (p := ⟨q1, y.toNat, none⟩) hq1 (.int .i64 (wrap64 (4 * rd (rda xs i) y)))) (p := ⟨q1, (wrap64 (y + (xs.length : Int))).toNat, none⟩) hq1 (.int .i64 (wrap64 (wrap64 (4 * rd (rda xs i) y) + 2))))
            cases eA
            clear hS1 hS2 hS1' hL2 HN HB hnl htr a5 b5
            have D1 := Aside0.mk d1
            have D2 := Aside0.mk d2
            have D4 := Aside0.mk d4
            have D5 := Aside0.mk d5
            have E2 := Aside0.mk e2
            have E4 := Aside0.mk e4
            have E5 := Aside0.mk e5
            have A2 := Aside0.mk a2
            have A4 := Aside0.mk a4
            have C5 := Aside0.mk c5
            have B4 := Aside0.mk b4
            have HZ := Aside0.mk hz
            have C6 := Aside0.mk c6
            have C4 := Aside0.mk c4
            have A3 := Aside0.mk a3
            have B3 := Aside0.mk b3
            have c6e := eq_true c6
            have c6b0 : decide (y < ((rda xs i).length : Int)) = true := decide_eq_true c6
            rw [hz] at a2
            have p1b : decide (0 ≤ y) = true := decide_eq_true a3
            have p2b : decide (0 ≤ i) = true := decide_eq_true a1
            have p3b : decide (i < (nx.length : Int)) = true := decide_eq_true a2
            have p4b : decide (y < ((rda zs i).length : Int)) = true := decide_eq_true a4
            have p5b : decide (0 ≤ wrap64 (y + (xs.length : Int))) = true := decide_eq_true b3
            have p6b : decide (wrap64 (y + (xs.length : Int)) < ((rda zs i).length : Int)) = true := decide_eq_true b4
            have p1 := eq_true a3
            have p2 := eq_true a1
            have p3 := eq_true a2
            have p4 := eq_true a4
            have p5 := eq_true b3
            have p6 := eq_true b4
            clear d1 d2 d4 d5 e1 e2 e4 e5 a2 a4 c5 b2 b4 hz c6 c4 a3 b3 d3 e3 a1 b1 hq1
            go_wp2
            go_region
            have hN2 : Kd.S (Kd.slice 2 (Kd.int .i64)) 34 (((wr.setCell ⟨q1, y.toNat, none⟩ (.int .i64 (wrap64 (4 * rd (rda xs i) y)))).setCell ⟨q1, (wrap64 (y + (xs.length : Int))).toNat, none⟩ (.int .i64 (wrap64 (wrap64 (4 * rd (rda xs i) y) + 2)))).drew) wo.heap.size (fun _ => True) (.slice (some ⟨g, 0, none⟩) nx.length cn) n2 := Kd.S_drew hS2'.out
            have hB3 : Below wo.heap.size wo (((wr.setCell ⟨q1, y.toNat, none⟩ (.int .i64 (wrap64 (4 * rd (rda xs i) y)))).setCell ⟨q1, (wrap64 (y + (xs.length : Int))).toNat, none⟩ (.int .i64 (wrap64 (wrap64 (4 * rd (rda xs i) y) + 2)))).drew) := below_drew hB2.out
            clear hS2' hB2
            generalize hw2 : (((wr.setCell ⟨q1, y.toNat, none⟩ (.int .i64 (wrap64 (4 * rd (rda xs i) y)))).setCell ⟨q1, (wrap64 (y + (xs.length : Int))).toNat, none⟩ (.int .i64 (wrap64 (wrap64 (4 * rd (rda xs i) y) + 2)))).drew) = w2 at hN2 hB3 ⊢
            clear hw2 hg1 hc1 hf1 hg2 hc2 hf2 hl1 hne1 p2 p2b p3 p3b p4 p4b p5 p5b p6 p6b c6b0 c6e hr
            obtain ⟨g', q3, cq3, eA, hnl, hg1, hc1, hf1, hq1, hl1, hgl', htr, hne1, hS1⟩ := rows_at hN2 (wrap64 (i + (xs.length : Int))) y D1.out D2.out A3.out D4.out
            cases eA
            have hS1' := hS1 (wrap64 (wrap64 (4 * rd (rda xs i) y) + 3))
            rw [← D5.out] at hS1'
            obtain ⟨hg2, hL2, hc2, hf2, hS2⟩ := rows_at_same (wrap64 (i + (xs.length : Int))) y (wrap64 (y + (xs.length : Int))) _ rfl hg1 hne1 hS1' D1.out E2.out B3.out E4.out
            have hS2' := Aside0.mk (hS2 (wrap64 (wrap64 (4 * rd (rda xs i) y) + 1)))
            rw [← E5.out] at hS2'
            have e4 := E4.out
            rw [hL2] at e4
            have hB2 := Aside0.mk (Below.setCell (Below.setCell hB3 (p := ⟨q3, y.toNat, none⟩) hq1 (.int .i64 (wrap64 (wrap64 (4 * rd (rda xs i) y) + 3)))) (p := ⟨q3, (wrap64 (y + (xs.length : Int))).toNat, none⟩) hq1 (.int .i64 (wrap64 (wrap64 (4 * rd (rda xs i) y) + 1))))
            have d2 := D2.out
            rw [← hnl] at d2
            clear hS1 hS2 hS1' hL2 hN2 hB3 hnl htr
            have p2b : decide (0 ≤ wrap64 (i + (xs.length : Int))) = true := decide_eq_true D1.out
            have p3b : decide (wrap64 (i + (xs.length : Int)) < (nx.length : Int)) = true := decide_eq_true d2
            have p4b : decide (y < ((rda n2 (wrap64 (i + (xs.length : Int)))).length : Int)) = true := decide_eq_true D4.out
            have p5b : decide (0 ≤ wrap64 (y + (xs.length : Int))) = true := decide_eq_true B3.out
            have p6b : decide (wrap64 (y + (xs.length : Int)) < ((rda n2 (wrap64 (i + (xs.length : Int)))).length : Int)) = true := decide_eq_true e4
            have p2 := eq_true D1.out
            have p3 := eq_true d2
            have p4 := eq_true D4.out
            have p5 := eq_true B3.out
            have p6 := eq_true e4
            clear d2 e4
            go_wp2
            go_region
            have hN2 : Kd.S (Kd.slice 2 (Kd.int .i64)) 34 (((w2.setCell ⟨q3, y.toNat, none⟩ (.int .i64 (wrap64 (wrap64 (4 * rd (rda xs i) y) + 3)))).setCell ⟨q3, (wrap64 (y + (xs.length : Int))).toNat, none⟩ (.int .i64 (wrap64 (wrap64 (4 * rd (rda xs i) y) + 1)))).drew) wo.heap.size (fun _ => True) (.slice (some ⟨g, 0, none⟩) nx.length cn) n4 := Kd.S_drew hS2'.out
            have hB3 : Below wo.heap.size wo (((w2.setCell ⟨q3, y.toNat, none⟩ (.int .i64 (wrap64 (wrap64 (4 * rd (rda xs i) y) + 3)))).setCell ⟨q3, (wrap64 (y + (xs.length : Int))).toNat, none⟩ (.int .i64 (wrap64 (wrap64 (4 * rd (rda xs i) y) + 1)))).drew) := below_drew hB2.out
            clear hS2' hB2
            generalize hw4 : (((w2.setCell ⟨q3, y.toNat, none⟩ (.int .i64 (wrap64 (wrap64 (4 * rd (rda xs i) y) + 3)))).setCell ⟨q3, (wrap64 (y + (xs.length : Int))).toNat, none⟩ (.int .i64 (wrap64 (wrap64 (4 * rd (rda xs i) y) + 1)))).drew) = w4 at hN2 hB3 ⊢
            clear hw4
            go_wp2
            go_roundg k3
            case measure => have := HK1.out; have := HK2.out; omega
            case rel => exact ⟨n4, wrap64 (y + 1), rfl, H', ⟨by have := HK1.out; have := HK2.out; omega⟩, ⟨by have h1 := D5.out; have h2 := E5.out; have := HZ.out; rw [h2, h1, B5.out, A5.out]; simp only [List.length_set]; exact this⟩, ⟨hN2⟩, ⟨hB3⟩⟩
           ·rw [if_neg c6] at H
            have c6b0 : decide (y < ((rda xs i).length : Int)) = false := decide_eq_false c6
            clear c6
            have H' := Aside0.mk H
            clear H
            go_wp2
            go_roundg k3
            case measure => have := HK1.out; have := HK2.out; omega
            case rel => exact ⟨zs, wrap64 (i + 1), rfl, H', ⟨by have := HK1.out; have := HK2.out; omega⟩, HY, HN, HB⟩
        ·rw [if_neg c5] at H
         exact absurd H (by simp)
       ·rw [if_neg c4] at H
        have c4b0 : decide (i < (xs.length : Int)) = false := decide_eq_false c4
        clear c4
        have H' := Aside0.mk H
        clear H
        go_wp2
        go_roundg k2
        case measure => have := HK.out; have := HK1.out; omega
        case rel => exact ⟨An, cn, ys, wrap64 (x + 1), by rw [HY.out], rfl, H', ⟨by have := HK.out; have := HK1.out; omega⟩, ⟨by rw [HY.out]; exact Kd.S_lower HN.out (below_size BB.out)⟩, ⟨below_step BB.out HB.out⟩⟩
    ·rw [if_neg c3] at H
     have c3b0 : decide (x < a0) = false := decide_eq_false c3
     clear c3
     have H2 := Option.some.inj H
     injection H2 with h1 h2
     subst h1
     subst h2
     clear H
     go_wp2
     go_ret2
     exact ⟨_, rfl, HO.out, HB.out⟩
end Go.Proofs.Ytckonklpdepgoaa.Q
namespace Go.Proofs.Ytckonklpdepgoaa.Q
open Go.RowKit Go.Proofs.YtckonklpdepgoaaW.PrintWords Go.Proofs.YtckonklpdepgoaaW.PrintLast Go.Proofs.YtckonklpdepgoaaW.PrintMore
attribute [local go_sem] max2_int min2_int max_two min_two max_three min_three max_four min_four   -- for this text's walks alone
set_option linter.unusedVariables false
set_option linter.unusedSimpArgs false
def laws_eqInt64S.l0 : Nat → List Int → List Int → Int → Option (Bool)
 | 0, _, _, _ => none
 | k + 1, x0, x1, x5 => if x5 < (x0.length : Int) then (if 0 ≤ x5 then (if x5 < (x1.length : Int) then (if (rd x0 x5) = (rd x1 x5) then (laws_eqInt64S.l0 k x0 x1 (wrap64 (x5 + 1))) else (some false)) else (none)) else (none)) else (some true)
def laws_eqInt64S.f (k : Nat) (l0 : List Int) (l1 : List Int) : Option (Bool) := if (l0.length : Int) = (l1.length : Int) then (laws_eqInt64S.l0 k l0 l1 0) else (some false)
theorem laws_eqInt64S.mono_l : ∀ k, (∀ y0 y1 y2, LeO (laws_eqInt64S.l0 k y0 y1 y2) (laws_eqInt64S.l0 (k + 1) y0 y1 y2))
 | 0 => fun _ _ _ r h => by simp [laws_eqInt64S.l0] at h
 | k + 1 => by
  have ih0 := laws_eqInt64S.mono_l k
  ·intro y0 y1 y2
   unfold laws_eqInt64S.l0
   repeat' first
   | (with_reducible exact ih0 _ _ _)
   | (with_reducible exact LeO.refl _)
   | (with_reducible exact LeO.none _)
   | (with_reducible refine LeO.ite ?_ ?_)
   | (with_reducible refine LeO.bind ?_ (fun _ => ?_))
   | exact ih0 _ _ _
   | exact LeO.none _
   | refine LeO.ite ?_ ?_
   | refine LeO.bind ?_ (fun _ => ?_)
theorem laws_eqInt64S.mono : ∀ a0 a1 k, LeO (laws_eqInt64S.f k a0 a1) (laws_eqInt64S.f (k + 1) a0 a1) := by
 intro a0 a1 k
 have ih0 := laws_eqInt64S.mono_l k
 unfold laws_eqInt64S.f
 repeat' first
   | (with_reducible exact ih0 _ _ _)
   | (with_reducible exact LeO.refl _)
   | (with_reducible exact LeO.none _)
   | (with_reducible refine LeO.ite ?_ ?_)
   | (with_reducible refine LeO.bind ?_ (fun _ => ?_))
   | exact ih0 _ _ _
   | exact LeO.none _
   | refine LeO.ite ?_ ?_
   | refine LeO.bind ?_ (fun _ => ?_)
set_option maxHeartbeats 8000000 in
set_option maxRecDepth 100000 in
theorem laws_eqInt64S.calls (k : Nat) (A0 : Option Addr) (c0 : Nat) (l0 : List Int) (A1 : Option Addr) (c1 : Nat) (l1 : List Int) (r : Bool) (w : World) (hr0 : Kd.C (Kd.int .i64) w A0 l0.length l0) (hc0 : l0.length ≤ c0) (hr1 : Kd.C (Kd.int .i64) w A1 l1.length l1) (hc1 : l1.length ≤ c1) (h : laws_eqInt64S.f k l0 l1 = some r) :
  Calls Try.prog 62 #[.slice A0 l0.length c0, .slice A1 l1.length c1] w fun e w' => e = .returned (.bool r) ∧ Drawn0 w w' := by
 have HR0 := Aside0.mk hr0
 have HC0 := Aside0.mk hc0
 clear hr0 hc0
 have HR1 := Aside0.mk hr1
 have HC1 := Aside0.mk hc1
 clear hr1 hc1
 have H : (if (l0.length : Int) = (l1.length : Int) then (laws_eqInt64S.l0 k l0 l1 0) else (some false)) = some r := h
 clear h
 by_cases c3 : (l0.length : Int) = (l1.length : Int)
 ·rw [if_pos c3] at H
  have c3b0 : ((l0.length : Int) == (l1.length : Int)) = true := beq_iff_eq.mpr c3
  have c3b1 : ((l0.length : Int) != (l1.length : Int)) = false := bne_eq_false_iff_eq.mpr c3
  have c3b2 : (l0.length == l1.length) = true := by first | simpa using c3 | (simp at c3 ⊢; omega)
  clear c3
  have H' := Aside0.mk H
  clear H
  go_enter Try.func62, Try.ntmps62
  go_wp2
  repeat (go_quiet (fail); try go_wp2)
  go_loopg [5] k (fun kq v5 w' => ∃ (x5_1 : Int), v5 = .int .i64 x5_1 ∧ Aside0 (laws_eqInt64S.l0 kq l0 l1 x5_1 = some r) ∧ Aside0 (kq ≤ k) ∧ Drawn0 w w')
  case atStart => exact ⟨(0), (by first | rfl | (simp; done) | (simp [*]; done)), H', ⟨Nat.le_refl _⟩, by repeat (first | exact Drawn0.refl _ | apply Drawn0.step)⟩
  case round =>
   clear H'
   try clear c1
   try clear p2
   try clear c3
   try clear c3b0
   try clear c3b1
   try clear c3b2
   obtain ⟨x5_1, rfl, HA, HK1, ⟨m1, rfl⟩⟩ := hrel
   cases gk with
   | zero => exact absurd HA.out (by simp [laws_eqInt64S.l0])
   | succ k1 =>
    have H := HA.out
    clear HA
    simp only [laws_eqInt64S.l0] at H
    by_cases c4 : x5_1 < (l0.length : Int)
    ·rw [if_pos c4] at H
     have c4b0 : decide (x5_1 < (l0.length : Int)) = true := decide_eq_true c4
     clear c4
     by_cases c5 : 0 ≤ x5_1
     ·rw [if_pos c5] at H
      have c5b0 : decide (0 ≤ x5_1) = true := decide_eq_true c5
      clear c5
      by_cases c6 : x5_1 < (l1.length : Int)
      ·rw [if_pos c6] at H
       have c6b0 : decide (x5_1 < (l1.length : Int)) = true := decide_eq_true c6
       clear c6
       by_cases c7 : (rd l0 x5_1) = (rd l1 x5_1)
       ·rw [if_pos c7] at H
        have c7b0 : ((rd l0 x5_1) == (rd l1 x5_1)) = true := beq_iff_eq.mpr c7
        have c7b1 : ((rd l0 x5_1) != (rd l1 x5_1)) = false := bne_eq_false_iff_eq.mpr c7
        clear c7
        have H' := Aside0.mk H
        clear H
        have p122 : 0 ≤ (x5_1 : Int) := of_decide_eq_true (by first | (with_reducible assumption) | assumption)
        have q122 : x5_1 < (l0.length : Int) := of_decide_eq_true (by first | (with_reducible assumption) | assumption)
        obtain ⟨ad122, e122, hx122_0⟩ := Kd.at_int HR0.out x5_1 p122 q122
        cases e122
        replace p122 := eq_true p122
        replace q122 := eq_true q122
        have p123 : 0 ≤ (x5_1 : Int) := of_decide_eq_true (by first | (with_reducible assumption) | assumption)
        have q123 : x5_1 < (l1.length : Int) := of_decide_eq_true (by first | (with_reducible assumption) | assumption)
        obtain ⟨ad123, e123, hx123_0⟩ := Kd.at_int HR1.out x5_1 p123 q123
        cases e123
        replace p123 := eq_true p123
        replace q123 := eq_true q123
        go_wp2
        repeat (go_quiet (fail); try go_wp2)
        go_roundg k1
        case measure => have := HK1.out; omega
        case rel => exact ⟨(wrap64 (x5_1 + 1)), (by first | rfl | (simp; done) | (simp [*]; done)), H', ⟨by have := HK1.out; omega⟩, by repeat (first | exact Drawn0.refl _ | apply Drawn0.step)⟩
       ·rw [if_neg c7] at H
        have c7b0 : ((rd l0 x5_1) == (rd l1 x5_1)) = false := beq_eq_false_iff_ne.mpr c7
        have c7b1 : ((rd l0 x5_1) != (rd l1 x5_1)) = true := bne_iff_ne.mpr c7
        obtain rfl := Option.some.inj H
        have p122 : 0 ≤ (x5_1 : Int) := of_decide_eq_true (by first | (with_reducible assumption) | assumption)
        have q122 : x5_1 < (l0.length : Int) := of_decide_eq_true (by first | (with_reducible assumption) | assumption)
        obtain ⟨ad122, e122, hx122_0⟩ := Kd.at_int HR0.out x5_1 p122 q122
        cases e122
        replace p122 := eq_true p122
        replace q122 := eq_true q122
        have p123 : 0 ≤ (x5_1 : Int) := of_decide_eq_true (by first | (with_reducible assumption) | assumption)
        have q123 : x5_1 < (l1.length : Int) := of_decide_eq_true (by first | (with_reducible assumption) | assumption)
        obtain ⟨ad123, e123, hx123_0⟩ := Kd.at_int HR1.out x5_1 p123 q123
        cases e123
        replace p123 := eq_true p123
        replace q123 := eq_true q123
        go_wp2
        repeat (go_quiet (fail); try go_wp2)
        go_ret
        exact ⟨by first | rfl | (simp; done) | (simp [*]; done), by repeat (first | exact Drawn0.refl _ | apply Drawn0.step)⟩
      ·rw [if_neg c6] at H
       exact absurd H (by simp)
     ·rw [if_neg c5] at H
      exact absurd H (by simp)
    ·rw [if_neg c4] at H
     have c4b0 : decide (x5_1 < (l0.length : Int)) = false := decide_eq_false c4
     clear c4
     obtain rfl := Option.some.inj H
     go_wp2
     repeat (go_quiet (fail); try go_wp2)
     go_ret
     exact ⟨by first | rfl | (simp; done) | (simp [*]; done), by repeat (first | exact Drawn0.refl _ | apply Drawn0.step)⟩
 ·rw [if_neg c3] at H
  have c3b0 : ((l0.length : Int) == (l1.length : Int)) = false := beq_eq_false_iff_ne.mpr c3
  have c3b1 : ((l0.length : Int) != (l1.length : Int)) = true := bne_iff_ne.mpr c3
  have c3b2 : (l0.length == l1.length) = false := by first | simpa using c3 | (simp at c3 ⊢; omega)
  obtain rfl := Option.some.inj H
  go_enter Try.func62, Try.ntmps62
  go_wp2
  repeat (go_quiet (fail); try go_wp2)
  go_ret
  exact ⟨by first | rfl | (simp; done) | (simp [*]; done), by repeat (first | exact Drawn0.refl _ | apply Drawn0.step)⟩
end Go.Proofs.Ytckonklpdepgoaa.Q
namespace Go.Proofs.Ytckonklpdepgoaa.Q
open Go.RowKit Go.Proofs.YtckonklpdepgoaaW.PrintWords Go.Proofs.YtckonklpdepgoaaW.PrintLast Go.Proofs.YtckonklpdepgoaaW.PrintMore
attribute [local go_sem] max2_int min2_int max_two min_two max_three min_three max_four min_four   -- for this text's walks alone
set_option linter.unusedVariables false
set_option linter.unusedSimpArgs false
def laws_eqInt64SS.l0 : Nat → List (List Int) → List (List Int) → Int → Option (Bool)
 | 0, _, _, _ => none
 | k + 1, x0, x1, x5 => if x5 < (x0.length : Int) then (if 0 ≤ x5 then (if x5 < (x1.length : Int) then ((laws_eqInt64S.f k (rd_L1 x0 x5) (rd_L1 x1 x5)).bind fun t126 => (if t126 = true then (laws_eqInt64SS.l0 k x0 x1 (wrap64 (x5 + 1))) else (some false))) else (none)) else (none)) else (some true)
def laws_eqInt64SS.f (k : Nat) (l0 : List (List Int)) (l1 : List (List Int)) : Option (Bool) := if (l0.length : Int) = (l1.length : Int) then (laws_eqInt64SS.l0 k l0 l1 0) else (some false)
theorem laws_eqInt64SS.mono_l : ∀ k, (∀ y0 y1 y2, LeO (laws_eqInt64SS.l0 k y0 y1 y2) (laws_eqInt64SS.l0 (k + 1) y0 y1 y2))
 | 0 => fun _ _ _ r h => by simp [laws_eqInt64SS.l0] at h
 | k + 1 => by
  have ih0 := laws_eqInt64SS.mono_l k
  ·intro y0 y1 y2
   unfold laws_eqInt64SS.l0
   repeat' first
   | (with_reducible exact ih0 _ _ _)
   | (with_reducible exact laws_eqInt64S.mono _ _ _)
   | (with_reducible exact LeO.refl _)
   | (with_reducible exact LeO.none _)
   | (with_reducible refine LeO.ite ?_ ?_)
   | (with_reducible refine LeO.bind ?_ (fun _ => ?_))
   | exact ih0 _ _ _
   | exact laws_eqInt64S.mono _ _ _
   | exact LeO.none _
   | refine LeO.ite ?_ ?_
   | refine LeO.bind ?_ (fun _ => ?_)
theorem laws_eqInt64SS.mono : ∀ a0 a1 k, LeO (laws_eqInt64SS.f k a0 a1) (laws_eqInt64SS.f (k + 1) a0 a1) := by
 intro a0 a1 k
 have ih0 := laws_eqInt64SS.mono_l k
 unfold laws_eqInt64SS.f
 repeat' first
   | (with_reducible exact ih0 _ _ _)
   | (with_reducible exact laws_eqInt64S.mono _ _ _)
   | (with_reducible exact LeO.refl _)
   | (with_reducible exact LeO.none _)
   | (with_reducible refine LeO.ite ?_ ?_)
   | (with_reducible refine LeO.bind ?_ (fun _ => ?_))
   | exact ih0 _ _ _
   | exact laws_eqInt64S.mono _ _ _
   | exact LeO.none _
   | refine LeO.ite ?_ ?_
   | refine LeO.bind ?_ (fun _ => ?_)
set_option maxHeartbeats 8000000 in
set_option maxRecDepth 100000 in
theorem laws_eqInt64SS.calls (k : Nat) (A0 : Option Addr) (c0 : Nat) (l0 : List (List Int)) (A1 : Option Addr) (c1 : Nat) (l1 : List (List Int)) (r : Bool) (w : World) (hr0 : Kd.C (Kd.slice 2 (Kd.int .i64)) w A0 l0.length l0) (hc0 : l0.length ≤ c0) (hr1 : Kd.C (Kd.slice 2 (Kd.int .i64)) w A1 l1.length l1) (hc1 : l1.length ≤ c1) (h : laws_eqInt64SS.f k l0 l1 = some r) :
  Calls Try.prog 17 #[.slice A0 l0.length c0, .slice A1 l1.length c1] w fun e w' => e = .returned (.bool r) ∧ Drawn0 w w' := by
 have HR0 := Aside0.mk hr0
 have HC0 := Aside0.mk hc0
 clear hr0 hc0
 have HR1 := Aside0.mk hr1
 have HC1 := Aside0.mk hc1
 clear hr1 hc1
 have H : (if (l0.length : Int) = (l1.length : Int) then (laws_eqInt64SS.l0 k l0 l1 0) else (some false)) = some r := h
 clear h
 by_cases c3 : (l0.length : Int) = (l1.length : Int)
 ·rw [if_pos c3] at H
  have c3b0 : ((l0.length : Int) == (l1.length : Int)) = true := beq_iff_eq.mpr c3
  have c3b1 : ((l0.length : Int) != (l1.length : Int)) = false := bne_eq_false_iff_eq.mpr c3
  have c3b2 : (l0.length == l1.length) = true := by first | simpa using c3 | (simp at c3 ⊢; omega)
  clear c3
  have H' := Aside0.mk H
  clear H
  go_enter Try.func17, Try.ntmps17
  go_wp2
  repeat (go_quiet (fail); try go_wp2)
  go_loopg [5] k (fun kq v5 w' => ∃ (x5_1 : Int), v5 = .int .i64 x5_1 ∧ Aside0 (laws_eqInt64SS.l0 kq l0 l1 x5_1 = some r) ∧ Aside0 (kq ≤ k) ∧ Drawn0 w w')
  case atStart => exact ⟨(0), (by first | rfl | (simp; done) | (simp [*]; done)), H', ⟨Nat.le_refl _⟩, by repeat (first | exact Drawn0.refl _ | apply Drawn0.step)⟩
  case round =>
   clear H'
   try clear c1
   try clear p2
   try clear c3
   try clear c3b0
   try clear c3b1
   try clear c3b2
   obtain ⟨x5_1, rfl, HA, HK1, ⟨m1, rfl⟩⟩ := hrel
   cases gk with
   | zero => exact absurd HA.out (by simp [laws_eqInt64SS.l0])
   | succ k1 =>
    have H := HA.out
    clear HA
    simp only [laws_eqInt64SS.l0] at H
    by_cases c4 : x5_1 < (l0.length : Int)
    ·rw [if_pos c4] at H
     have c4b0 : decide (x5_1 < (l0.length : Int)) = true := decide_eq_true c4
     clear c4
     by_cases c5 : 0 ≤ x5_1
     ·rw [if_pos c5] at H
      have c5b0 : decide (0 ≤ x5_1) = true := decide_eq_true c5
      clear c5
      by_cases c6 : x5_1 < (l1.length : Int)
      ·rw [if_pos c6] at H
       have c6b0 : decide (x5_1 < (l1.length : Int)) = true := decide_eq_true c6
       clear c6
       replace H := Option.bind_eq_some_iff.mp H
       obtain ⟨t126, A70, H⟩ := H
       replace H : (if t126 = true then (laws_eqInt64SS.l0 k1 l0 l1 (wrap64 (x5_1 + 1))) else (some false)) = some r := H
       have A7 := Aside0.mk A70
       clear A70
       by_cases c8 : t126 = true
       ·subst c8
        have H1 : (laws_eqInt64SS.l0 k1 l0 l1 (wrap64 (x5_1 + 1))) = some r := by rw [if_pos rfl] at H; exact H
        clear H
        have H := H1
        clear H1
        have H' := Aside0.mk H
        clear H
        have p124 : 0 ≤ (x5_1 : Int) := of_decide_eq_true (by first | (with_reducible assumption) | assumption)
        have q124 : x5_1 < (l0.length : Int) := of_decide_eq_true (by first | (with_reducible assumption) | assumption)
        obtain ⟨ad124, A124_0, c124_0, e124, hx124_0, hl124_0, hi124_0⟩ := at_L1 HR0.out x5_1 p124 q124
        cases e124
        have HR124_0 := Aside0.mk hi124_0
        have HC124_0 := Aside0.mk hl124_0
        clear hi124_0 hl124_0
        replace p124 := eq_true p124
        replace q124 := eq_true q124
        have p125 : 0 ≤ (x5_1 : Int) := of_decide_eq_true (by first | (with_reducible assumption) | assumption)
        have q125 : x5_1 < (l1.length : Int) := of_decide_eq_true (by first | (with_reducible assumption) | assumption)
        obtain ⟨ad125, A125_0, c125_0, e125, hx125_0, hl125_0, hi125_0⟩ := at_L1 HR1.out x5_1 p125 q125
        cases e125
        have HR125_0 := Aside0.mk hi125_0
        have HC125_0 := Aside0.mk hl125_0
        clear hi125_0 hl125_0
        replace p125 := eq_true p125
        replace q125 := eq_true q125
        go_wp2_with (first | (go_at_call 62; (with_reducible refine (laws_eqInt64S.calls k1 _ _ (rd_L1 l0 x5_1) _ _ (rd_L1 l1 x5_1) true _ ?side1 ?side2 ?side3 ?side4 A7.out).mono ?_); (case side1 => repeat (first | exact HR124_0.out | (with_reducible refine Kd.C_alloc ?_ _) | (with_reducible refine Kd.C_drewN ?_ _) | (with_reducible refine Kd.C_drew ?_))); (case side2 => exact HC124_0.out); (case side3 => repeat (first | exact HR125_0.out | (with_reducible refine Kd.C_alloc ?_ _) | (with_reducible refine Kd.C_drewN ?_ _) | (with_reducible refine Kd.C_drew ?_))); (case side4 => exact HC125_0.out); rintro e w' ⟨rfl, ⟨nd, rfl⟩⟩; (try first | exact ⟨rfl, _, World.drewN_drewN _ _ _⟩ | exact ⟨rfl, _, Eq.trans (World.drewN_drewN _ _ _) (congrArg (World.drewN _) (Nat.add_assoc _ _ _))⟩)))
        repeat (go_quiet (first | (go_at_call 62; (with_reducible refine (laws_eqInt64S.calls k1 _ _ (rd_L1 l0 x5_1) _ _ (rd_L1 l1 x5_1) true _ ?side1 ?side2 ?side3 ?side4 A7.out).mono ?_); (case side1 => repeat (first | exact HR124_0.out | (with_reducible refine Kd.C_alloc ?_ _) | (with_reducible refine Kd.C_drewN ?_ _) | (with_reducible refine Kd.C_drew ?_))); (case side2 => exact HC124_0.out); (case side3 => repeat (first | exact HR125_0.out | (with_reducible refine Kd.C_alloc ?_ _) | (with_reducible refine Kd.C_drewN ?_ _) | (with_reducible refine Kd.C_drew ?_))); (case side4 => exact HC125_0.out); rintro e w' ⟨rfl, ⟨nd, rfl⟩⟩; (try first | exact ⟨rfl, _, World.drewN_drewN _ _ _⟩ | exact ⟨rfl, _, Eq.trans (World.drewN_drewN _ _ _) (congrArg (World.drewN _) (Nat.add_assoc _ _ _))⟩))); try go_wp2_with (first | (go_at_call 62; (with_reducible refine (laws_eqInt64S.calls k1 _ _ (rd_L1 l0 x5_1) _ _ (rd_L1 l1 x5_1) true _ ?side1 ?side2 ?side3 ?side4 A7.out).mono ?_); (case side1 => repeat (first | exact HR124_0.out | (with_reducible refine Kd.C_alloc ?_ _) | (with_reducible refine Kd.C_drewN ?_ _) | (with_reducible refine Kd.C_drew ?_))); (case side2 => exact HC124_0.out); (case side3 => repeat (first | exact HR125_0.out | (with_reducible refine Kd.C_alloc ?_ _) | (with_reducible refine Kd.C_drewN ?_ _) | (with_reducible refine Kd.C_drew ?_))); (case side4 => exact HC125_0.out); rintro e w' ⟨rfl, ⟨nd, rfl⟩⟩; (try first | exact ⟨rfl, _, World.drewN_drewN _ _ _⟩ | exact ⟨rfl, _, Eq.trans (World.drewN_drewN _ _ _) (congrArg (World.drewN _) (Nat.add_assoc _ _ _))⟩))))
        go_roundg k1
        case measure => have := HK1.out; omega
        case rel => exact ⟨(wrap64 (x5_1 + 1)), (by first | rfl | (simp; done) | (simp [*]; done)), H', ⟨by have := HK1.out; omega⟩, by repeat (first | exact Drawn0.refl _ | apply Drawn0.step)⟩
       ·replace c8 := Bool.eq_false_iff.mpr c8
        subst c8
        have H1 : (some false) = some r := by rw [if_neg (show ¬ (false = true) by decide)] at H; exact H
        clear H
        have H := H1
        clear H1
        obtain rfl := Option.some.inj H
        have p124 : 0 ≤ (x5_1 : Int) := of_decide_eq_true (by first | (with_reducible assumption) | assumption)
        have q124 : x5_1 < (l0.length : Int) := of_decide_eq_true (by first | (with_reducible assumption) | assumption)
        obtain ⟨ad124, A124_0, c124_0, e124, hx124_0, hl124_0, hi124_0⟩ := at_L1 HR0.out x5_1 p124 q124
        cases e124
        have HR124_0 := Aside0.mk hi124_0
        have HC124_0 := Aside0.mk hl124_0
        clear hi124_0 hl124_0
        replace p124 := eq_true p124
        replace q124 := eq_true q124
        have p125 : 0 ≤ (x5_1 : Int) := of_decide_eq_true (by first | (with_reducible assumption) | assumption)
        have q125 : x5_1 < (l1.length : Int) := of_decide_eq_true (by first | (with_reducible assumption) | assumption)
        obtain ⟨ad125, A125_0, c125_0, e125, hx125_0, hl125_0, hi125_0⟩ := at_L1 HR1.out x5_1 p125 q125
        cases e125
        have HR125_0 := Aside0.mk hi125_0
        have HC125_0 := Aside0.mk hl125_0
        clear hi125_0 hl125_0
        replace p125 := eq_true p125
        replace q125 := eq_true q125
        go_wp2_with (first | (go_at_call 62; (with_reducible refine (laws_eqInt64S.calls k1 _ _ (rd_L1 l0 x5_1) _ _ (rd_L1 l1 x5_1) false _ ?side1 ?side2 ?side3 ?side4 A7.out).mono ?_); (case side1 => repeat (first | exact HR124_0.out | (with_reducible refine Kd.C_alloc ?_ _) | (with_reducible refine Kd.C_drewN ?_ _) | (with_reducible refine Kd.C_drew ?_))); (case side2 => exact HC124_0.out); (case side3 => repeat (first | exact HR125_0.out | (with_reducible refine Kd.C_alloc ?_ _) | (with_reducible refine Kd.C_drewN ?_ _) | (with_reducible refine Kd.C_drew ?_))); (case side4 => exact HC125_0.out); rintro e w' ⟨rfl, ⟨nd, rfl⟩⟩; (try first | exact ⟨rfl, _, World.drewN_drewN _ _ _⟩ | exact ⟨rfl, _, Eq.trans (World.drewN_drewN _ _ _) (congrArg (World.drewN _) (Nat.add_assoc _ _ _))⟩)))
        repeat (go_quiet (first | (go_at_call 62; (with_reducible refine (laws_eqInt64S.calls k1 _ _ (rd_L1 l0 x5_1) _ _ (rd_L1 l1 x5_1) false _ ?side1 ?side2 ?side3 ?side4 A7.out).mono ?_); (case side1 => repeat (first | exact HR124_0.out | (with_reducible refine Kd.C_alloc ?_ _) | (with_reducible refine Kd.C_drewN ?_ _) | (with_reducible refine Kd.C_drew ?_))); (case side2 => exact HC124_0.out); (case side3 => repeat (first | exact HR125_0.out | (with_reducible refine Kd.C_alloc ?_ _) | (with_reducible refine Kd.C_drewN ?_ _) | (with_reducible refine Kd.C_drew ?_))); (case side4 => exact HC125_0.out); rintro e w' ⟨rfl, ⟨nd, rfl⟩⟩; (try first | exact ⟨rfl, _, World.drewN_drewN _ _ _⟩ | exact ⟨rfl, _, Eq.trans (World.drewN_drewN _ _ _) (congrArg (World.drewN _) (Nat.add_assoc _ _ _))⟩))); try go_wp2_with (first | (go_at_call 62; (with_reducible refine (laws_eqInt64S.calls k1 _ _ (rd_L1 l0 x5_1) _ _ (rd_L1 l1 x5_1) false _ ?side1 ?side2 ?side3 ?side4 A7.out).mono ?_); (case side1 => repeat (first | exact HR124_0.out | (with_reducible refine Kd.C_alloc ?_ _) | (with_reducible refine Kd.C_drewN ?_ _) | (with_reducible refine Kd.C_drew ?_))); (case side2 => exact HC124_0.out); (case side3 => repeat (first | exact HR125_0.out | (with_reducible refine Kd.C_alloc ?_ _) | (with_reducible refine Kd.C_drewN ?_ _) | (with_reducible refine Kd.C_drew ?_))); (case side4 => exact HC125_0.out); rintro e w' ⟨rfl, ⟨nd, rfl⟩⟩; (try first | exact ⟨rfl, _, World.drewN_drewN _ _ _⟩ | exact ⟨rfl, _, Eq.trans (World.drewN_drewN _ _ _) (congrArg (World.drewN _) (Nat.add_assoc _ _ _))⟩))))
        go_ret
        exact ⟨by first | rfl | (simp; done) | (simp [*]; done), by repeat (first | exact Drawn0.refl _ | apply Drawn0.step)⟩
      ·rw [if_neg c6] at H
       exact absurd H (by simp)
     ·rw [if_neg c5] at H
      exact absurd H (by simp)
    ·rw [if_neg c4] at H
     have c4b0 : decide (x5_1 < (l0.length : Int)) = false := decide_eq_false c4
     clear c4
     obtain rfl := Option.some.inj H
     go_wp2
     repeat (go_quiet (fail); try go_wp2)
     go_ret
     exact ⟨by first | rfl | (simp; done) | (simp [*]; done), by repeat (first | exact Drawn0.refl _ | apply Drawn0.step)⟩
 ·rw [if_neg c3] at H
  have c3b0 : ((l0.length : Int) == (l1.length : Int)) = false := beq_eq_false_iff_ne.mpr c3
  have c3b1 : ((l0.length : Int) != (l1.length : Int)) = true := bne_iff_ne.mpr c3
  have c3b2 : (l0.length == l1.length) = false := by first | simpa using c3 | (simp at c3 ⊢; omega)
  obtain rfl := Option.some.inj H
  go_enter Try.func17, Try.ntmps17
  go_wp2
  repeat (go_quiet (fail); try go_wp2)
  go_ret
  exact ⟨by first | rfl | (simp; done) | (simp [*]; done), by repeat (first | exact Drawn0.refl _ | apply Drawn0.step)⟩
end Go.Proofs.Ytckonklpdepgoaa.Q
namespace Go.Proofs.Ytckonklpdepgoaa.Q
open Go.RowKit Go.Proofs.YtckonklpdepgoaaW.PrintWords Go.Proofs.YtckonklpdepgoaaW.PrintLast Go.Proofs.YtckonklpdepgoaaW.PrintMore
attribute [local go_sem] max2_int min2_int max_two min_two max_three min_three max_four min_four   -- for this text's walks alone
set_option linter.unusedVariables false
set_option linter.unusedSimpArgs false
def laws_heldInt64S.l0 : Nat → List Int → Int → Int → Option (Int)
 | 0, _, _, _ => none
 | k + 1, x0, x1, x5 => if x5 < (x0.length : Int) then (if 0 ≤ x5 then (if (rd x0 x5) = x1 then (laws_heldInt64S.l0 k x0 (wrap64 (x1 + 1)) (wrap64 (x5 + 1))) else (some (-1))) else (none)) else (some x1)
def laws_heldInt64S.f (k : Nat) (l0 : List Int) (a1 : Int) : Option (Int) := laws_heldInt64S.l0 k l0 a1 0
theorem laws_heldInt64S.mono_l : ∀ k, (∀ y0 y1 y2, LeO (laws_heldInt64S.l0 k y0 y1 y2) (laws_heldInt64S.l0 (k + 1) y0 y1 y2))
 | 0 => fun _ _ _ r h => by simp [laws_heldInt64S.l0] at h
 | k + 1 => by
  have ih0 := laws_heldInt64S.mono_l k
  ·intro y0 y1 y2
   unfold laws_heldInt64S.l0
   repeat' first
   | (with_reducible exact ih0 _ _ _)
   | (with_reducible exact LeO.refl _)
   | (with_reducible exact LeO.none _)
   | (with_reducible refine LeO.ite ?_ ?_)
   | (with_reducible refine LeO.bind ?_ (fun _ => ?_))
   | exact ih0 _ _ _
   | exact LeO.none _
   | refine LeO.ite ?_ ?_
   | refine LeO.bind ?_ (fun _ => ?_)
theorem laws_heldInt64S.mono : ∀ a0 a1 k, LeO (laws_heldInt64S.f k a0 a1) (laws_heldInt64S.f (k + 1) a0 a1) := by
 intro a0 a1 k
 have ih0 := laws_heldInt64S.mono_l k
 unfold laws_heldInt64S.f
 repeat' first
   | (with_reducible exact ih0 _ _ _)
   | (with_reducible exact LeO.refl _)
   | (with_reducible exact LeO.none _)
   | (with_reducible refine LeO.ite ?_ ?_)
   | (with_reducible refine LeO.bind ?_ (fun _ => ?_))
   | exact ih0 _ _ _
   | exact LeO.none _
   | refine LeO.ite ?_ ?_
   | refine LeO.bind ?_ (fun _ => ?_)
set_option maxHeartbeats 8000000 in
set_option maxRecDepth 100000 in
theorem laws_heldInt64S.calls (k : Nat) (A0 : Option Addr) (c0 : Nat) (l0 : List Int) (a1 : Int) (r : Int) (w : World) (hr0 : Kd.C (Kd.int .i64) w A0 l0.length l0) (hc0 : l0.length ≤ c0) (h : laws_heldInt64S.f k l0 a1 = some r) :
  Calls Try.prog 64 #[.slice A0 l0.length c0, .int .i64 a1] w fun e w' => e = .returned (.int .i64 r) ∧ Drawn0 w w' := by
 have HR0 := Aside0.mk hr0
 have HC0 := Aside0.mk hc0
 clear hr0 hc0
 have H : (laws_heldInt64S.l0 k l0 a1 0) = some r := h
 clear h
 have H' := Aside0.mk H
 clear H
 go_enter Try.func64, Try.ntmps64
 go_wp2
 go_loopg [1, 5] k (fun kq v1 v5 w' => ∃ (x1_1 : Int) (x5_1 : Int), v1 = .int .i64 x1_1 ∧ v5 = .int .i64 x5_1 ∧ Aside0 (laws_heldInt64S.l0 kq l0 x1_1 x5_1 = some r) ∧ Aside0 (kq ≤ k) ∧ Drawn0 w w')
 case atStart => exact ⟨(a1), (0), (by first | rfl | (simp; done) | (simp [*]; done)), (by first | rfl | (simp; done) | (simp [*]; done)), H', ⟨Nat.le_refl _⟩, by repeat (first | exact Drawn0.refl _ | apply Drawn0.step)⟩
 case round =>
  clear H'
  try clear p2
  obtain ⟨x1_1, x5_1, rfl, rfl, HA, HK1, ⟨m1, rfl⟩⟩ := hrel
  cases gk with
  | zero => exact absurd HA.out (by simp [laws_heldInt64S.l0])
  | succ k1 =>
   have H := HA.out
   clear HA
   simp only [laws_heldInt64S.l0] at H
   by_cases c3 : x5_1 < (l0.length : Int)
   ·rw [if_pos c3] at H
    have c3b0 : decide (x5_1 < (l0.length : Int)) = true := decide_eq_true c3
    clear c3
    by_cases c4 : 0 ≤ x5_1
    ·rw [if_pos c4] at H
     have c4b0 : decide (0 ≤ x5_1) = true := decide_eq_true c4
     clear c4
     by_cases c5 : (rd l0 x5_1) = x1_1
     ·rw [if_pos c5] at H
      have c5b0 : ((rd l0 x5_1) == x1_1) = true := beq_iff_eq.mpr c5
      have c5b1 : ((rd l0 x5_1) != x1_1) = false := bne_eq_false_iff_eq.mpr c5
      clear c5
      have H' := Aside0.mk H
      clear H
      have p129 : 0 ≤ (x5_1 : Int) := of_decide_eq_true (by first | (with_reducible assumption) | assumption)
      have q129 : x5_1 < (l0.length : Int) := of_decide_eq_true (by first | (with_reducible assumption) | assumption)
      obtain ⟨ad129, e129, hx129_0⟩ := Kd.at_int HR0.out x5_1 p129 q129
      cases e129
      replace p129 := eq_true p129
      replace q129 := eq_true q129
      go_wp2
      go_roundg k1
      case measure => have := HK1.out; omega
      case rel => exact ⟨(wrap64 (x1_1 + 1)), (wrap64 (x5_1 + 1)), (by first | rfl | (simp; done) | (simp [*]; done)), (by first | rfl | (simp; done) | (simp [*]; done)), H', ⟨by have := HK1.out; omega⟩, by repeat (first | exact Drawn0.refl _ | apply Drawn0.step)⟩
     ·rw [if_neg c5] at H
      have c5b0 : ((rd l0 x5_1) == x1_1) = false := beq_eq_false_iff_ne.mpr c5
      have c5b1 : ((rd l0 x5_1) != x1_1) = true := bne_iff_ne.mpr c5
      obtain rfl := Option.some.inj H
      have p129 : 0 ≤ (x5_1 : Int) := of_decide_eq_true (by first | (with_reducible assumption) | assumption)
      have q129 : x5_1 < (l0.length : Int) := of_decide_eq_true (by first | (with_reducible assumption) | assumption)
      obtain ⟨ad129, e129, hx129_0⟩ := Kd.at_int HR0.out x5_1 p129 q129
      cases e129
      replace p129 := eq_true p129
      replace q129 := eq_true q129
      go_wp2
      go_ret
      exact ⟨by first | rfl | (simp; done) | (simp [*]; done), by repeat (first | exact Drawn0.refl _ | apply Drawn0.step)⟩
    ·rw [if_neg c4] at H
     exact absurd H (by simp)
   ·rw [if_neg c3] at H
    have c3b0 : decide (x5_1 < (l0.length : Int)) = false := decide_eq_false c3
    clear c3
    obtain rfl := Option.some.inj H
    go_wp2
    go_ret
    exact ⟨by first | rfl | (simp; done) | (simp [*]; done), by repeat (first | exact Drawn0.refl _ | apply Drawn0.step)⟩
end Go.Proofs.Ytckonklpdepgoaa.Q
namespace Go.Proofs.Ytckonklpdepgoaa.Q
open Go.RowKit Go.Proofs.YtckonklpdepgoaaW.PrintWords Go.Proofs.YtckonklpdepgoaaW.PrintLast Go.Proofs.YtckonklpdepgoaaW.PrintMore
attribute [local go_sem] max2_int min2_int max_two min_two max_three min_three max_four min_four   -- for this text's walks alone
set_option linter.unusedVariables false
set_option linter.unusedSimpArgs false
def laws_heldInt64SS.l0 : Nat → List (List Int) → Int → Int → Option (Int)
 | 0, _, _, _ => none
 | k + 1, x0, x1, x5 => if x5 < (x0.length : Int) then (if 0 ≤ x5 then ((laws_heldInt64S.f k (rd_L1 x0 x5) x1).bind fun t131 => (if t131 < 0 then (some (-1)) else (laws_heldInt64SS.l0 k x0 t131 (wrap64 (x5 + 1))))) else (none)) else (some x1)
def laws_heldInt64SS.f (k : Nat) (l0 : List (List Int)) (a1 : Int) : Option (Int) := laws_heldInt64SS.l0 k l0 a1 0
theorem laws_heldInt64SS.mono_l : ∀ k, (∀ y0 y1 y2, LeO (laws_heldInt64SS.l0 k y0 y1 y2) (laws_heldInt64SS.l0 (k + 1) y0 y1 y2))
 | 0 => fun _ _ _ r h => by simp [laws_heldInt64SS.l0] at h
 | k + 1 => by
  have ih0 := laws_heldInt64SS.mono_l k
  ·intro y0 y1 y2
   unfold laws_heldInt64SS.l0
   repeat' first
   | (with_reducible exact ih0 _ _ _)
   | (with_reducible exact laws_heldInt64S.mono _ _ _)
   | (with_reducible exact LeO.refl _)
   | (with_reducible exact LeO.none _)
   | (with_reducible refine LeO.ite ?_ ?_)
   | (with_reducible refine LeO.bind ?_ (fun _ => ?_))
   | exact ih0 _ _ _
   | exact laws_heldInt64S.mono _ _ _
   | exact LeO.none _
   | refine LeO.ite ?_ ?_
   | refine LeO.bind ?_ (fun _ => ?_)
theorem laws_heldInt64SS.mono : ∀ a0 a1 k, LeO (laws_heldInt64SS.f k a0 a1) (laws_heldInt64SS.f (k + 1) a0 a1) := by
 intro a0 a1 k
 have ih0 := laws_heldInt64SS.mono_l k
 unfold laws_heldInt64SS.f
 repeat' first
   | (with_reducible exact ih0 _ _ _)
   | (with_reducible exact laws_heldInt64S.mono _ _ _)
   | (with_reducible exact LeO.refl _)
   | (with_reducible exact LeO.none _)
   | (with_reducible refine LeO.ite ?_ ?_)
   | (with_reducible refine LeO.bind ?_ (fun _ => ?_))
   | exact ih0 _ _ _
   | exact laws_heldInt64S.mono _ _ _
   | exact LeO.none _
   | refine LeO.ite ?_ ?_
   | refine LeO.bind ?_ (fun _ => ?_)
set_option maxHeartbeats 8000000 in
set_option maxRecDepth 100000 in
theorem laws_heldInt64SS.calls (k : Nat) (A0 : Option Addr) (c0 : Nat) (l0 : List (List Int)) (a1 : Int) (r : Int) (w : World) (hr0 : Kd.C (Kd.slice 2 (Kd.int .i64)) w A0 l0.length l0) (hc0 : l0.length ≤ c0) (h : laws_heldInt64SS.f k l0 a1 = some r) :
  Calls Try.prog 19 #[.slice A0 l0.length c0, .int .i64 a1] w fun e w' => e = .returned (.int .i64 r) ∧ Drawn0 w w' := by
 have HR0 := Aside0.mk hr0
 have HC0 := Aside0.mk hc0
 clear hr0 hc0
 have H : (laws_heldInt64SS.l0 k l0 a1 0) = some r := h
 clear h
 have H' := Aside0.mk H
 clear H
 go_enter Try.func19, Try.ntmps19
 go_wp2
 go_loopg [1, 5] k (fun kq v1 v5 w' => ∃ (x1_1 : Int) (x5_1 : Int), v1 = .int .i64 x1_1 ∧ v5 = .int .i64 x5_1 ∧ Aside0 (laws_heldInt64SS.l0 kq l0 x1_1 x5_1 = some r) ∧ Aside0 (kq ≤ k) ∧ Drawn0 w w')
 case atStart => exact ⟨(a1), (0), (by first | rfl | (simp; done) | (simp [*]; done)), (by first | rfl | (simp; done) | (simp [*]; done)), H', ⟨Nat.le_refl _⟩, by repeat (first | exact Drawn0.refl _ | apply Drawn0.step)⟩
 case round =>
  clear H'
  try clear c1
  try clear p2
  obtain ⟨x1_1, x5_1, rfl, rfl, HA, HK1, ⟨m1, rfl⟩⟩ := hrel
  cases gk with
  | zero => exact absurd HA.out (by simp [laws_heldInt64SS.l0])
  | succ k1 =>
   have H := HA.out
   clear HA
   simp only [laws_heldInt64SS.l0] at H
   by_cases c3 : x5_1 < (l0.length : Int)
   ·rw [if_pos c3] at H
    have c3b0 : decide (x5_1 < (l0.length : Int)) = true := decide_eq_true c3
    clear c3
    by_cases c4 : 0 ≤ x5_1
    ·rw [if_pos c4] at H
     have c4b0 : decide (0 ≤ x5_1) = true := decide_eq_true c4
     clear c4
     replace H := Option.bind_eq_some_iff.mp H
     obtain ⟨t131, A50, H⟩ := H
     replace H : (if t131 < 0 then (some (-1)) else (laws_heldInt64SS.l0 k1 l0 t131 (wrap64 (x5_1 + 1)))) = some r := H
     have A5 := Aside0.mk A50
     clear A50
     by_cases c6 : t131 < 0
     ·rw [if_pos c6] at H
      have c6b0 : decide (t131 < 0) = true := decide_eq_true c6
      clear c6
      obtain rfl := Option.some.inj H
      have p130 : 0 ≤ (x5_1 : Int) := of_decide_eq_true (by first | (with_reducible assumption) | assumption)
      have q130 : x5_1 < (l0.length : Int) := of_decide_eq_true (by first | (with_reducible assumption) | assumption)
      obtain ⟨ad130, A130_0, c130_0, e130, hx130_0, hl130_0, hi130_0⟩ := at_L1 HR0.out x5_1 p130 q130
      cases e130
      have HR130_0 := Aside0.mk hi130_0
      have HC130_0 := Aside0.mk hl130_0
      clear hi130_0 hl130_0
      replace p130 := eq_true p130
      replace q130 := eq_true q130
      go_wp2_with (first | ((with_reducible refine gate_callee (f := 64) rfl ?_); refine goesL_ (some 17) rfl rfl Try.func64 (by kernel_rfl) rfl #[.slice A130_0 (rd_L1 l0 x5_1).length c130_0, .int .i64 x1_1] rfl (by (try simp only [List.map_toArray, List.map_cons, List.map_nil]); first | done | rfl | (simp only [List.length_drop, List.length_take]; rfl) | (simp only [show ∀ (n_ : Nat) (b_ : Int), Int.tdiv (n_ : Int) b_ = (n_ : Int) / b_ from fun n_ b_ => Int.tdiv_eq_ediv_of_nonneg (Int.natCast_nonneg n_)]; rfl)) ?_; (with_reducible refine (laws_heldInt64S.calls k1 _ _ (rd_L1 l0 x5_1) x1_1 t131 _ ?side1 ?side2 A5.out).mono ?_); (case side1 => repeat (first | exact HR130_0.out | (with_reducible refine Kd.C_alloc ?_ _) | (with_reducible refine Kd.C_drewN ?_ _) | (with_reducible refine Kd.C_drew ?_))); (case side2 => exact HC130_0.out); rintro e w' ⟨rfl, ⟨nd, rfl⟩⟩; refine ⟨_, rfl, ?_⟩))
      go_ret
      exact ⟨by first | rfl | (simp; done) | (simp [*]; done), by repeat (first | exact Drawn0.refl _ | apply Drawn0.step)⟩
     ·rw [if_neg c6] at H
      have c6b0 : decide (t131 < 0) = false := decide_eq_false c6
      clear c6
      have H' := Aside0.mk H
      clear H
      have p130 : 0 ≤ (x5_1 : Int) := of_decide_eq_true (by first | (with_reducible assumption) | assumption)
      have q130 : x5_1 < (l0.length : Int) := of_decide_eq_true (by first | (with_reducible assumption) | assumption)
      obtain ⟨ad130, A130_0, c130_0, e130, hx130_0, hl130_0, hi130_0⟩ := at_L1 HR0.out x5_1 p130 q130
      cases e130
      have HR130_0 := Aside0.mk hi130_0
      have HC130_0 := Aside0.mk hl130_0
      clear hi130_0 hl130_0
      replace p130 := eq_true p130
      replace q130 := eq_true q130
      go_wp2_with (first | ((with_reducible refine gate_callee (f := 64) rfl ?_); refine goesL_ (some 17) rfl rfl Try.func64 (by kernel_rfl) rfl #[.slice A130_0 (rd_L1 l0 x5_1).length c130_0, .int .i64 x1_1] rfl (by (try simp only [List.map_toArray, List.map_cons, List.map_nil]); first | done | rfl | (simp only [List.length_drop, List.length_take]; rfl) | (simp only [show ∀ (n_ : Nat) (b_ : Int), Int.tdiv (n_ : Int) b_ = (n_ : Int) / b_ from fun n_ b_ => Int.tdiv_eq_ediv_of_nonneg (Int.natCast_nonneg n_)]; rfl)) ?_; (with_reducible refine (laws_heldInt64S.calls k1 _ _ (rd_L1 l0 x5_1) x1_1 t131 _ ?side1 ?side2 A5.out).mono ?_); (case side1 => repeat (first | exact HR130_0.out | (with_reducible refine Kd.C_alloc ?_ _) | (with_reducible refine Kd.C_drewN ?_ _) | (with_reducible refine Kd.C_drew ?_))); (case side2 => exact HC130_0.out); rintro e w' ⟨rfl, ⟨nd, rfl⟩⟩; refine ⟨_, rfl, ?_⟩))
      go_roundg k1
      case measure => have := HK1.out; omega
      case rel => exact ⟨(t131), (wrap64 (x5_1 + 1)), (by first | rfl | (simp; done) | (simp [*]; done)), (by first | rfl | (simp; done) | (simp [*]; done)), H', ⟨by have := HK1.out; omega⟩, by repeat (first | exact Drawn0.refl _ | apply Drawn0.step)⟩
    ·rw [if_neg c4] at H
     exact absurd H (by simp)
   ·rw [if_neg c3] at H
    have c3b0 : decide (x5_1 < (l0.length : Int)) = false := decide_eq_false c3
    clear c3
    obtain rfl := Option.some.inj H
    go_wp2
    go_ret
    exact ⟨by first | rfl | (simp; done) | (simp [*]; done), by repeat (first | exact Drawn0.refl _ | apply Drawn0.step)⟩
end Go.Proofs.Ytckonklpdepgoaa.Q
namespace Go.Proofs.Ytckonklpdepgoaa.Q
open Go.RowKit Go.Proofs.YtckonklpdepgoaaW.PrintWords Go.Proofs.YtckonklpdepgoaaW.PrintLast Go.Proofs.YtckonklpdepgoaaW.PrintMore
attribute [local go_sem] max2_int min2_int max_two min_two max_three min_three max_four min_four   -- for this text's walks alone
set_option linter.unusedVariables false
set_option linter.unusedSimpArgs false
def laws_markInt64S.l0 : Nat → List Int → Int → Int → Option (Int × List Int)
 | 0, _, _, _ => none
 | k + 1, x0, x1, x5 => if x5 < (x0.length : Int) then (if 0 ≤ x5 then (laws_markInt64S.l0 k (x0.set (x5 : Int).toNat x1) (wrap64 (x1 + 1)) (wrap64 (x5 + 1))) else (none)) else (some (x1, x0))
def laws_markInt64S.f (k : Nat) (l0 : List Int) (a1 : Int) : Option (Int × List Int) := laws_markInt64S.l0 k l0 a1 0
theorem laws_markInt64S.mono_l : ∀ k, (∀ y0 y1 y2, LeO (laws_markInt64S.l0 k y0 y1 y2) (laws_markInt64S.l0 (k + 1) y0 y1 y2))
 | 0 => fun _ _ _ r h => by simp [laws_markInt64S.l0] at h
 | k + 1 => by
  have ih0 := laws_markInt64S.mono_l k
  ·intro y0 y1 y2
   unfold laws_markInt64S.l0
   repeat' first
   | (with_reducible exact ih0 _ _ _)
   | (with_reducible exact LeO.refl _)
   | (with_reducible exact LeO.none _)
   | (with_reducible refine LeO.ite ?_ ?_)
   | (with_reducible refine LeO.bind ?_ (fun _ => ?_))
   | exact ih0 _ _ _
   | exact LeO.none _
   | refine LeO.ite ?_ ?_
   | refine LeO.bind ?_ (fun _ => ?_)
theorem laws_markInt64S.mono : ∀ a0 a1 k, LeO (laws_markInt64S.f k a0 a1) (laws_markInt64S.f (k + 1) a0 a1) := by
 intro a0 a1 k
 have ih0 := laws_markInt64S.mono_l k
 unfold laws_markInt64S.f
 repeat' first
   | (with_reducible exact ih0 _ _ _)
   | (with_reducible exact LeO.refl _)
   | (with_reducible exact LeO.none _)
   | (with_reducible refine LeO.ite ?_ ?_)
   | (with_reducible refine LeO.bind ?_ (fun _ => ?_))
   | exact ih0 _ _ _
   | exact LeO.none _
   | refine LeO.ite ?_ ?_
   | refine LeO.bind ?_ (fun _ => ?_)
set_option maxHeartbeats 8000000 in
set_option maxRecDepth 100000 in
theorem laws_markInt64S.calls (k : Nat) (P0_ : Nat → Prop) (u9000_ : Value) (l0 : List Int) (a1 : Int) (r1 : Int) (r2 : List Int) (w0 w : World) (hB : Below w0.heap.size w0 w) (ho0 : Kd.R (Kd.int .i64) 2 w w0.heap.size P0_ u9000_ l0) (h : laws_markInt64S.f k l0 a1 = some (r1, r2)) :
  Calls Try.prog 63 #[u9000_, .int .i64 a1] w fun e w' => e = .returned (.int .i64 r1) ∧ Kd.R (Kd.int .i64) 2 w' w0.heap.size (fun k_ => (P0_ k_ ∨ w.heap.size ≤ k_)) u9000_ r2 ∧ Below w0.heap.size w0 w' ∧ Kept w w' (fun k_ => P0_ k_) := by
 have HO0 := Aside0.mk (show Kd.R (Kd.int .i64) 2 w w0.heap.size (fun k_ => (P0_ k_ ∨ w.heap.size ≤ k_)) u9000_ l0 from Kd.R_mono ho0 (fun k_ hk => (.inl hk)))
 have HK := Aside0.mk (Kept.refl w (fun k_ => P0_ k_))
 have HW0 := Aside0.mk hB.size
 have HB := Aside0.mk hB
 clear hB
 have H : (laws_markInt64S.l0 k l0 a1 0) = some (r1, r2) := h
 clear h
 have H' := Aside0.mk H
 clear H
 go_enter Try.func63, Try.ntmps63
 go_wp2
 go_loopg [1, 5] k (fun kq v1 v5 w' => ∃ (x0_1 : List Int) (x1_1 : Int) (x5_1 : Int), v1 = .int .i64 x1_1 ∧ v5 = .int .i64 x5_1 ∧ Aside0 (laws_markInt64S.l0 kq x0_1 x1_1 x5_1 = some (r1, r2)) ∧ Aside0 (kq ≤ k) ∧ Aside0 (Kd.R (Kd.int .i64) 2 w' w0.heap.size (fun k_ => (P0_ k_ ∨ w.heap.size ≤ k_)) u9000_ x0_1) ∧ Aside0 (Kept w w' (fun k_ => P0_ k_)) ∧ Aside0 (Below w0.heap.size w0 w'))
 case atStart => exact ⟨(l0), (a1), (0), (by first | rfl | (simp; done) | (simp [*]; done)), (by first | rfl | (simp; done) | (simp [*]; done)), H', ⟨Nat.le_refl _⟩, ⟨by (with_reducible repeat (first | apply Kd.R_alloc | apply Kd.R_drewN | apply Kd.R_drew)); exact HO0.out⟩, ⟨by repeat (first | (with_reducible first | exact HK.out | apply Kept.alloc | apply Kept.drewN | apply Kept.drew) | exact HK.out)⟩, ⟨by repeat (first | (with_reducible first | exact HB.out | apply below_alloc | apply pw_below_drewN | apply below_drew1) | exact HB.out)⟩⟩
 case round =>
  clear H'
  try clear p2
  obtain ⟨x0_1, x1_1, x5_1, rfl, rfl, HA, HK1, HO_0, HK, HB⟩ := hrel
  cases gk with
  | zero => exact absurd HA.out (by simp [laws_markInt64S.l0])
  | succ k1 =>
   have H := HA.out
   clear HA
   simp only [laws_markInt64S.l0] at H
   by_cases c3 : x5_1 < (x0_1.length : Int)
   ·rw [if_pos c3] at H
    have c3b0 : decide (x5_1 < (x0_1.length : Int)) = true := decide_eq_true c3
    clear c3
    by_cases c4 : 0 ≤ x5_1
    ·rw [if_pos c4] at H
     have c4b0 : decide (0 ≤ x5_1) = true := decide_eq_true c4
     clear c4
     obtain ⟨y127, hy127⟩ : ∃ y_ : List Int, y_ = (x0_1.set (x5_1 : Int).toNat x1_1) := ⟨_, rfl⟩
     replace H : (laws_markInt64S.l0 k1 y127 (wrap64 (x1_1 + 1)) (wrap64 (x5_1 + 1))) = some (r1, r2) := by first | (rw [hy127]; with_reducible exact H) | (have H2_ := (Option.bind_some _ _).symm.trans H; rw [hy127]; with_reducible exact H2_) | (have H2_ := (Option.bind_some _ _).symm.trans H; with_reducible exact H2_) | with_reducible exact H | (rw [hy127]; exact H) | exact H
     have Ny127 := Aside0.mk hy127
     clear hy127
     have H' := Aside0.mk H
     clear H
     obtain ⟨Ao6, co6, eo6⟩ := Kd.R_slice HO_0.out
     subst eo6
     have p5 : 0 ≤ (x5_1 : Int) := of_decide_eq_true (by first | (with_reducible assumption) | assumption)
     have q5 : (x5_1 : Int) < ((x0_1.length : Int) : Int) := of_decide_eq_true (by first | (with_reducible assumption) | assumption)
     obtain ⟨go5, co5, eo5, gb5, gl5, cl5, HG5⟩ := Kd.R_form HO_0.out (by omega)
     (first | cases eo5 | (injection eo5 with ea_ en_ ec_; (first | subst ea_ | (injection ea_ with ea_; subst ea_)); subst ec_; clear en_))
     have GB5 := Aside0.mk gb5
     have GG5 := Aside0.mk HG5
     clear gb5 gl5 HG5
     have HMgo5 := Aside0.mk (show (P0_ go5 ∨ w.heap.size ≤ go5) from (HO_0.out.1 _ rfl))
     obtain ⟨hx5_0, hf5_0⟩ := Kd.R_celln 0 HO_0.out (x5_1 : Int) p5 q5
     replace p5 := eq_true p5
     replace q5 := eq_true q5
     have HP7 := Kd.R_putg HO_0.out (x5_1 : Int) x1_1
     go_wp2_with (first | ((with_reducible refine gate_store (t := 2) (p := 15) rfl ?_); refine store_event (t := 2) (p := 15) (v := ?vo_w8) (w1 := (wr.setCell ⟨go5, (x5_1 : Int).toNat, none⟩ (.int .i64 x1_1))) ?hg ?ho ?hn ?hr ?_; (case ho => rfl); (case hg => rfl); (case hn => rfl); (case hr => first | (go_simp; done) | (go_simp; rfl)); intro w8 hw; have hg : wr.grownBy w8 (some go5) := (by rw [hw]; exact HP7.2); have hp_ : Kd.R (Kd.int .i64) 2 w8 w0.heap.size (fun k_ => (P0_ k_ ∨ w.heap.size ≤ k_)) (.slice (some ⟨go5, 0, none⟩) x0_1.length co6) y127 := (by rw [hw, Ny127.out]; exact HP7.1); clear HP7; have n0_ := Aside0.mk (hp_); have n1_ := Aside0.mk ((by rw [hw]; exact below_set (HB.out) GB5.out : Below w0.heap.size w0 w8)); have n2_ := Aside0.mk (Kept.of_grown (S := (fun k_ => P0_ k_)) hg (by repeat (first | (with_reducible first | exact HK.out | apply Kept.alloc | apply Kept.drewN | apply Kept.drew) | exact HK.out)) (fun k_ e_ => (HO_0.out.1 k_ e_))); clear HO_0; clear HB; clear HK; have HO_0 := n0_; have HB := n1_; have HK := n2_; clear n0_ n1_ n2_; clear hg hw hp_))
     go_roundg k1
     case measure => have := HK1.out; omega
     case rel => exact ⟨(y127), (wrap64 (x1_1 + 1)), (wrap64 (x5_1 + 1)), (by first | rfl | (simp; done) | (simp [*]; done)), (by first | rfl | (simp; done) | (simp [*]; done)), H', ⟨by have := HK1.out; omega⟩, ⟨by (with_reducible repeat (first | apply Kd.R_alloc | apply Kd.R_drewN | apply Kd.R_drew)); exact HO_0.out⟩, ⟨by repeat (first | (with_reducible first | exact HK.out | apply Kept.alloc | apply Kept.drewN | apply Kept.drew) | exact HK.out)⟩, ⟨by repeat (first | (with_reducible first | exact HB.out | apply below_alloc | apply pw_below_drewN | apply below_drew1) | exact HB.out)⟩⟩
    ·rw [if_neg c4] at H
     exact absurd H (by simp)
   ·rw [if_neg c3] at H
    have c3b0 : decide (x5_1 < (x0_1.length : Int)) = false := decide_eq_false c3
    clear c3
    simp only [Option.some.injEq, Prod.mk.injEq] at H
    obtain ⟨rfl, rfl⟩ := H
    obtain ⟨Ao9, co9, eo9⟩ := Kd.R_slice HO_0.out
    subst eo9
    go_wp2
    go_ret
    exact ⟨by first | rfl | (simp [errW_none, errW_some] <;> rfl) | (simp [*, errW_none, errW_some] <;> rfl), by (with_reducible repeat (first | apply Kd.R_alloc | apply Kd.R_drewN | apply Kd.R_drew)); exact HO_0.out, by repeat (first | (with_reducible first | exact HB.out | apply below_alloc | apply pw_below_drewN | apply below_drew1) | exact HB.out), by repeat (first | (with_reducible first | exact HK.out | apply Kept.alloc | apply Kept.drewN | apply Kept.drew) | exact HK.out)⟩
end Go.Proofs.Ytckonklpdepgoaa.Q
namespace Go.Proofs.Ytckonklpdepgoaa.Q
open Go.RowKit Go.Proofs.YtckonklpdepgoaaW.PrintWords Go.Proofs.YtckonklpdepgoaaW.PrintLast Go.Proofs.YtckonklpdepgoaaW.PrintMore
set_option linter.unusedVariables false
def laws_markInt64SS.l0 : Nat → List (List Int) → Int → Int → Option (Int × List (List Int))
 | 0, _, _, _ => none
 | k + 1, x0, x1, x5 => if x5 < (x0.length : Int) then (if 0 ≤ x5 then ((laws_markInt64S.f k (rd_L1 x0 x5) x1).bind fun bt => laws_markInt64SS.l0 k (x0.set x5.toNat bt.2) bt.1 (wrap64 (x5 + 1))) else none) else some (x1, x0)
def laws_markInt64SS.f (k : Nat) (l0 : List (List Int)) (a1 : Int) : Option (Int × List (List Int)) := laws_markInt64SS.l0 k l0 a1 0
theorem laws_markInt64SS.mono_l : ∀ k, (∀ y0 y1 y2, LeO (laws_markInt64SS.l0 k y0 y1 y2) (laws_markInt64SS.l0 (k + 1) y0 y1 y2))
 | 0 => fun _ _ _ r h => by simp [laws_markInt64SS.l0] at h
 | k + 1 => by
  have ih0 := laws_markInt64SS.mono_l k
  intro y0 y1 y2
  unfold laws_markInt64SS.l0
  repeat' first
   | (with_reducible exact ih0 _ _ _)
   | (with_reducible exact laws_markInt64S.mono _ _ _)
   | (with_reducible exact LeO.refl _)
   | (with_reducible exact LeO.none _)
   | (with_reducible refine LeO.ite ?_ ?_)
   | (with_reducible refine LeO.bind ?_ (fun _ => ?_))
theorem laws_markInt64SS.mono : ∀ a0 a1 k, LeO (laws_markInt64SS.f k a0 a1) (laws_markInt64SS.f (k + 1) a0 a1) := fun a0 a1 k => laws_markInt64SS.mono_l k a0 a1 0
set_option maxHeartbeats 8000000 in
set_option maxRecDepth 100000 in
theorem laws_markInt64SS.calls (k : Nat) (P0_ : Nat → Prop) (u9000_ : Value) (l0 : List (List Int)) (a1 : Int) (r1 : Int) (r2 : List (List Int)) (w0 w : World) (hB : Below w0.heap.size w0 w) (ho0 : Kd.S (Kd.slice 2 (Kd.int .i64)) 34 w w0.heap.size P0_ u9000_ l0) (h : laws_markInt64SS.f k l0 a1 = some (r1, r2)) :
  Calls Try.prog 18 #[u9000_, .int .i64 a1] w fun e w' => e = .returned (.int .i64 r1) ∧ Kd.S (Kd.slice 2 (Kd.int .i64)) 34 w' w0.heap.size P0_ u9000_ r2 ∧ Below w0.heap.size w0 w' ∧ Kept w w' P0_ := by
 obtain ⟨A0, c0, rfl⟩ := Kd.S_slice ho0
 have HO := Aside0.mk ho0
 have HK := Aside0.mk (Kept.refl w P0_)
 have HB := Aside0.mk hB
 have H' := Aside0.mk (show laws_markInt64SS.l0 k l0 a1 0 = some (r1, r2) from h)
 clear hB ho0 h
 go_enter Try.func18, Try.ntmps18
 go_wp2
 go_loopg [1, 5] k (fun kq v1 v5 w' => ∃ (x0_1 : List (List Int)) (x1_1 : Int) (x5_1 : Int), v1 = .int .i64 x1_1 ∧ v5 = .int .i64 x5_1 ∧ Aside0 (x0_1.length = l0.length) ∧ Aside0 (laws_markInt64SS.l0 kq x0_1 x1_1 x5_1 = some (r1, r2)) ∧ Aside0 (kq ≤ k) ∧ Aside0 (Kd.S (Kd.slice 2 (Kd.int .i64)) 34 w' w0.heap.size P0_ (.slice A0 l0.length c0) x0_1) ∧ Aside0 (Kept w w' P0_) ∧ Aside0 (Below w0.heap.size w0 w'))
 case atStart => exact ⟨l0, a1, 0, (by first | rfl | (simp; done) | (simp [*]; done)), (by first | rfl | (simp; done) | (simp [*]; done)), ⟨rfl⟩, H', ⟨Nat.le_refl _⟩, ⟨by (with_reducible repeat (first | apply Kd.S_alloc | apply Kd.S_drewN | apply Kd.S_drew)); exact HO.out⟩, ⟨by repeat (first | (with_reducible first | exact HK.out | apply Kept.alloc | apply Kept.drewN | apply Kept.drew) | exact HK.out)⟩, ⟨by repeat (first | (with_reducible first | exact HB.out | apply below_alloc | apply pw_below_drewN | apply below_drew1) | exact HB.out)⟩⟩
 case round =>
  clear H' HO HK HB
  obtain ⟨x0_1, x1_1, x5_1, rfl, rfl, HL, HA, HK1, HO, HK, HB⟩ := hrel
  cases gk with
  | zero => exact absurd HA.out (by simp [laws_markInt64SS.l0])
  | succ k1 =>
   have H := HA.out
   clear HA
   simp only [laws_markInt64SS.l0, HL.out] at H
   by_cases c3 : x5_1 < (l0.length : Int)
   ·rw [if_pos c3] at H
    by_cases c4 : 0 ≤ x5_1
    ·rw [if_pos c4] at H
     replace H := Option.bind_eq_some_iff.mp H
     obtain ⟨⟨t1, t2⟩, A50, H⟩ := H
     have A5 := Aside0.mk A50
     clear A50
     have H' := Aside0.mk H
     clear H
     obtain ⟨g, cap, e, hgb, hgl, _⟩ := Kd.S_form HO.out (by rw [HL.out]; omega)
     rw [HL.out] at e
     injection e with e1 e2 e3
     subst e1
     subst e3
     obtain ⟨oki, ce, hcl, hM, hcc, hfr, hoki, hH⟩ := Kd.S_elem HO.out [] x5_1 c4 c3
     obtain ⟨ve, rfl, hR⟩ := hM
     have hcell := hcc 0 _ rfl
     simp only [show (Kd.slice 2 (Kd.int .i64)).sz = 1 from rfl, Nat.mul_one, Nat.add_zero] at hcell
     have HR := Aside0.mk hR
     have HH := Aside0.mk hH
     have HI := Aside0.mk hoki
     have c3b0 : decide (x5_1 < (l0.length : Int)) = true := decide_eq_true c3
     have c4b0 : decide (0 ≤ x5_1) = true := decide_eq_true c4
     have c4e := eq_true c4
     have c3e := eq_true c3
     clear hgb hgl hcl hcc hfr hR hH hoki c3 c4 e2
     obtain ⟨Ae, cce, rfl⟩ := Kd.R_slice HR.out
     go_wp2_with (first | ((with_reducible refine gate_callee (f := 63) rfl ?_); refine goesL_ (some 17) rfl rfl Try.func63 (by kernel_rfl) rfl #[_, .int .i64 x1_1] rfl (by (try simp only [List.map_toArray, List.map_cons, List.map_nil]); first | done | rfl) ?_; (with_reducible refine (laws_markInt64S.calls k1 oki _ (rd_L1 x0_1 x5_1) x1_1 t1 t2 w0 _ ?side1 ?side2 A5.out).mono ?_); (case side1 => repeat (first | (with_reducible first | exact HB.out | apply below_alloc | apply pw_below_drewN | apply below_drew1) | exact HB.out)); (case side2 => (with_reducible repeat (first | apply Kd.R_alloc | apply Kd.R_drewN | apply Kd.R_drew)); exact HR.out); rintro e w3 ⟨rfl, hy, hb, hkp⟩; have n0_ := Aside0.mk (Kd.H_back (Kd.H_kept (by (with_reducible repeat (first | apply Kd.H_alloc | apply Kd.H_drewN | apply Kd.H_drew)); exact HH.out) hkp (fun _ _ hn hs => hn hs)) (show (Kd.slice 2 (Kd.int .i64)).M w3 w0.heap.size oki t2 [_] from ⟨_, rfl, Kd.R_reok rfl hy (fun k_ e_ => HR.out.1 k_ e_)⟩) (fun _ h_ => h_)); have n1_ := Aside0.mk (Kept.then_ (by repeat (first | (with_reducible first | exact HK.out | apply Kept.alloc | apply Kept.drewN | apply Kept.drew) | exact HK.out)) hkp (fun k_ hk_ => .inl (HI.out k_ hk_).1)); have n2_ := Aside0.mk hb; clear HO HK HB hy hkp hb HH; have HO := n0_; have HK := n1_; have HB := n2_; clear n0_ n1_ n2_; refine ⟨_, rfl, ?_⟩))
     go_roundg k1
     case measure => have := HK1.out; omega
     case rel => exact ⟨x0_1.set x5_1.toNat t2, t1, wrap64 (x5_1 + 1), (by first | rfl | (simp; done) | (simp [*]; done)), (by first | rfl | (simp; done) | (simp [*]; done)), ⟨by rw [List.length_set]; exact HL.out⟩, H', ⟨by have := HK1.out; omega⟩, ⟨by (with_reducible repeat (first | apply Kd.S_alloc | apply Kd.S_drewN | apply Kd.S_drew)); exact HO.out⟩, ⟨by repeat (first | (with_reducible first | exact HK.out | apply Kept.alloc | apply Kept.drewN | apply Kept.drew) | exact HK.out)⟩, ⟨by repeat (first | (with_reducible first | exact HB.out | apply below_alloc | apply pw_below_drewN | apply below_drew1) | exact HB.out)⟩⟩
    ·rw [if_neg c4] at H
     exact absurd H (by simp)
   ·rw [if_neg c3] at H
    have c3b0 : decide (x5_1 < (l0.length : Int)) = false := decide_eq_false c3
    clear c3
    have H2 := Option.some.inj H
    injection H2 with h1 h2
    subst h1
    subst h2
    go_wp2
    go_ret
    exact ⟨rfl, by (with_reducible repeat (first | apply Kd.S_alloc | apply Kd.S_drewN | apply Kd.S_drew)); exact HO.out, by repeat (first | (with_reducible first | exact HB.out | apply below_alloc | apply pw_below_drewN | apply below_drew1) | exact HB.out), by repeat (first | (with_reducible first | exact HK.out | apply Kept.alloc | apply Kept.drewN | apply Kept.drew) | exact HK.out)⟩
end Go.Proofs.Ytckonklpdepgoaa.Q
namespace Go.Proofs.Ytckonklpdepgoaa.Q
open Go.RowKit Go.Proofs.YtckonklpdepgoaaW.PrintWords Go.Proofs.YtckonklpdepgoaaW.PrintLast Go.Proofs.YtckonklpdepgoaaW.PrintMore
set_option linter.unusedVariables false
set_option linter.unusedSimpArgs false
def laws_FnExactDoublingMask.f (k : Nat) (a0 : Int) : Option Bool := (spec_DoublingMask.f k a0).bind fun bt1 => ((impl_DoublingMask.f k a0).bind fun bt4 => ((laws_eqInt64SS.f k bt4.1 bt1.1).bind fun bt7 => (if bt7 = true then (if bt4.2 = bt1.2 then ((laws_markInt64SS.f k bt4.1 1).bind fun bt8 => ((laws_heldInt64SS.f k bt8.2 1).bind fun bt10 => (if bt10 < 0 then some false else (if bt10 = bt8.1 then ((impl_DoublingMask.f k a0).bind fun bt11 => ((laws_eqInt64SS.f k bt11.1 bt1.1).bind fun bt14 => (if bt14 = true then (if bt11.2 = bt4.2 then ((laws_heldInt64SS.f k bt8.2 1).bind fun bt15 => (if bt15 < 0 then some false else (if bt15 = bt10 then (some true) else some false))) else some false) else some false))) else some false)))) else some false) else some false)))
def laws_FnExactDoublingMask.Pure : Prop := ∀ (a0 : Int), (Lit.int .i64 a0).wf = true → ∃ k, laws_FnExactDoublingMask.f k a0 = some true
set_option maxHeartbeats 16000000 in
set_option maxRecDepth 100000 in
theorem laws_FnExactDoublingMask.calls (k : Nat) (a0 : Int) (w : World)  (h : laws_FnExactDoublingMask.f k a0 = some true) :
  Calls Try.prog 3 #[.int .i64 a0] w fun e w' => e = .returned (.bool true) ∧ Below w.heap.size w w' := by
 have HB := Aside0.mk (Below.refl w.heap.size w)
 have H := h
 clear h
 unfold laws_FnExactDoublingMask.f at H
 replace H := Option.bind_eq_some_iff.mp H
 obtain ⟨⟨t1, t2⟩, E10, H⟩ := H
 (try dsimp only at H)
 have E1 := Aside0.mk E10
 clear E10
 replace H := Option.bind_eq_some_iff.mp H
 obtain ⟨⟨t4, t5⟩, E20, H⟩ := H
 (try dsimp only at H)
 have E2 := Aside0.mk E20
 clear E20
 replace H := Option.bind_eq_some_iff.mp H
 obtain ⟨t7, E30, H⟩ := H
 (try dsimp only at H)
 have E3 := Aside0.mk E30
 clear E30
 by_cases c3 : t7 = true
 rotate_left
 ·rw [if_neg c3] at H; exact absurd H (by simp)
 rw [if_pos c3] at H
 subst c3
 by_cases c4 : t5 = t2
 rotate_left
 ·rw [if_neg c4] at H; exact absurd H (by simp)
 rw [if_pos c4] at H
 subst c4
 replace H := Option.bind_eq_some_iff.mp H
 obtain ⟨⟨t8, t9⟩, E60, H⟩ := H
 (try dsimp only at H)
 have E6 := Aside0.mk E60
 clear E60
 replace H := Option.bind_eq_some_iff.mp H
 obtain ⟨t10, E70, H⟩ := H
 (try dsimp only at H)
 have E7 := Aside0.mk E70
 clear E70
 by_cases c7 : t10 < 0
 ·rw [if_pos c7] at H; exact absurd H (by simp)
 rw [if_neg c7] at H
 have c7b : decide (t10 < 0) = false := decide_eq_false c7
 clear c7
 by_cases c8 : t10 = t8
 rotate_left
 ·rw [if_neg c8] at H; exact absurd H (by simp)
 rw [if_pos c8] at H
 subst c8
 replace H := Option.bind_eq_some_iff.mp H
 obtain ⟨⟨t11, t12⟩, E100, H⟩ := H
 (try dsimp only at H)
 have E10 := Aside0.mk E100
 clear E100
 replace H := Option.bind_eq_some_iff.mp H
 obtain ⟨t14, E110, H⟩ := H
 (try dsimp only at H)
 have E11 := Aside0.mk E110
 clear E110
 by_cases c11 : t14 = true
 rotate_left
 ·rw [if_neg c11] at H; exact absurd H (by simp)
 rw [if_pos c11] at H
 subst c11
 by_cases c12 : t12 = t5
 rotate_left
 ·rw [if_neg c12] at H; exact absurd H (by simp)
 rw [if_pos c12] at H
 subst c12
 replace H := Option.bind_eq_some_iff.mp H
 obtain ⟨t15, E140, H⟩ := H
 (try dsimp only at H)
 have E14 := Aside0.mk E140
 clear E140
 by_cases c14 : t15 < 0
 ·rw [if_pos c14] at H; exact absurd H (by simp)
 rw [if_neg c14] at H
 have c14b : decide (t15 < 0) = false := decide_eq_false c14
 clear c14
 by_cases c15 : t15 = t10
 rotate_left
 ·rw [if_neg c15] at H; exact absurd H (by simp)
 rw [if_pos c15] at H
 subst c15
 clear H
 go_enter Try.func3, Try.ntmps3
 go_wp2_with (first | ((with_reducible refine gate_callee (f := 15) rfl ?_); refine goesL_ (some 13) rfl rfl Try.func15 (by kernel_rfl) rfl #[.int .i64 a0] rfl (by (try simp only [List.map_toArray, List.map_cons, List.map_nil]); first | done | rfl) ?_; (with_reducible refine (spec_DoublingMask.calls k a0 t1 t12 _ E1.out).mono ?_); rintro e w_1 ⟨vR3, rfl, hoR3, hb⟩; refine ⟨_, rfl, ?_⟩; obtain ⟨loR3, hloR3⟩ : ∃ n_ : Nat, n_ = w.heap.size := ⟨_, rfl⟩; obtain ⟨hiR3, hhiR3⟩ : ∃ n_ : Nat, n_ = w_1.heap.size := ⟨_, rfl⟩; have n0_ := Aside0.mk (below_step HB.out hb); have n1_ := Aside0.mk (Kd.S_lower (Kd.S_mono (ok' := fun k_ => loR3 ≤ k_ ∧ k_ < hiR3) (Kd.S_bound hoR3) (fun k_ hk_ => ⟨by rw [hloR3]; exact hk_.2.1, by rw [hhiR3]; exact hk_.2.2.1⟩)) (below_size HB.out)); have n2_ := Aside0.mk (by rw [hhiR3]; exact Nat.le_refl _ : hiR3 ≤ w_1.heap.size); clear HB; have HB := n0_; have HOR3 := n1_; have UPR3 := n2_; clear n0_ n1_ n2_; clear hb; clear hoR3 hloR3 hhiR3; obtain ⟨AR3, cR3, eqR3⟩ := Kd.S_slice HOR3.out; subst eqR3) | ((with_reducible refine gate_callee (f := 16) rfl ?_); refine goesL_ (some 18) rfl rfl Try.func16 (by kernel_rfl) rfl #[.int .i64 a0] rfl (by (try simp only [List.map_toArray, List.map_cons, List.map_nil]); first | done | rfl) ?_; have HWM := HB; have HBM := Aside0.mk (Below.refl w_1.heap.size w_1); (with_reducible refine (impl_DoublingMask.calls k a0 t4 t12 _ E2.out).mono ?_); rintro e w_2 ⟨vR6, rfl, hoR6, hb⟩; refine ⟨_, rfl, ?_⟩; obtain ⟨loR6, hloR6⟩ : ∃ n_ : Nat, n_ = w_1.heap.size := ⟨_, rfl⟩; obtain ⟨hiR6, hhiR6⟩ : ∃ n_ : Nat, n_ = w_2.heap.size := ⟨_, rfl⟩; have n0_ := Aside0.mk (Kd.S_below HOR3.out hb); have n1_ := Aside0.mk (Nat.le_trans UPR3.out hb.size); have n2_ := Aside0.mk (below_step HB.out hb); have n3_ := Aside0.mk (below_step HBM.out hb); have n4_ := Aside0.mk (Kd.S_lower (Kd.S_mono (ok' := fun k_ => loR6 ≤ k_ ∧ k_ < hiR6) (Kd.S_bound hoR6) (fun k_ hk_ => ⟨by rw [hloR6]; exact hk_.2.1, by rw [hhiR6]; exact hk_.2.2.1⟩)) (below_size HBM.out)); have n5_ := Aside0.mk (by rw [hhiR6]; exact Nat.le_refl _ : hiR6 ≤ w_2.heap.size); have n6_ := Aside0.mk (fun k_ h1_ h2_ => by have := UPR3.out; rw [← hloR6] at this; omega : ∀ k_, loR3 ≤ k_ ∧ k_ < hiR3 → ¬ (loR6 ≤ k_ ∧ k_ < hiR6)); have n7_ := Aside0.mk (fun k_ h1_ h2_ => by have := UPR3.out; rw [← hloR6] at this; omega : ∀ k_, loR6 ≤ k_ ∧ k_ < hiR6 → ¬ (loR3 ≤ k_ ∧ k_ < hiR3)); clear HOR3; clear UPR3; clear HB; clear HBM; have HOR3 := n0_; have UPR3 := n1_; have HB := n2_; have HBM := n3_; have HOR6 := n4_; have UPR6 := n5_; have NRR3_R6 := n6_; have NRR6_R3 := n7_; clear n0_ n1_ n2_ n3_ n4_ n5_ n6_ n7_; clear hb; clear hoR6 hloR6 hhiR6; obtain ⟨AR6, cR6, eqR6⟩ := Kd.S_slice HOR6.out; subst eqR6) | ((with_reducible refine gate_callee (f := 17) rfl ?_); refine goesL_ (some 23) rfl rfl Try.func17 (by kernel_rfl) rfl #[.slice AR6 t4.length cR6, .slice AR3 t1.length cR3] rfl (by (try simp only [List.map_toArray, List.map_cons, List.map_nil]); first | done | rfl) ?_; (with_reducible refine (laws_eqInt64SS.calls k _ _ t4 _ _ t1 true _ ?side1 ?side2 ?side3 ?side4 E3.out).mono ?_); (case side1 => exact (Kd.S_reads' HOR6.out).2.2); (case side2 => exact (Kd.S_reads' HOR6.out).2.1); (case side3 => exact (Kd.S_reads' HOR3.out).2.2); (case side4 => exact (Kd.S_reads' HOR3.out).2.1); rintro e w_3 ⟨rfl, hd⟩; have hb := Drawn0.below hd; refine ⟨_, rfl, ?_⟩; have n0_ := Aside0.mk (Kd.S_below HOR3.out hb); have n1_ := Aside0.mk (Kd.S_below HOR6.out hb); have n2_ := Aside0.mk (Nat.le_trans UPR3.out hb.size); have n3_ := Aside0.mk (Nat.le_trans UPR6.out hb.size); have n4_ := Aside0.mk (below_step HB.out hb); have n5_ := Aside0.mk (below_step HBM.out hb); clear HOR3; clear HOR6; clear UPR3; clear UPR6; clear HB; clear HBM; have HOR3 := n0_; have HOR6 := n1_; have UPR3 := n2_; have UPR6 := n3_; have HB := n4_; have HBM := n5_; clear n0_ n1_ n2_ n3_ n4_ n5_; clear hb; clear hd) | ((with_reducible refine gate_callee (f := 18) rfl ?_); refine goesL_ (some 32) rfl rfl Try.func18 (by kernel_rfl) rfl #[.slice AR6 t4.length cR6, .int .i64 1] rfl (by (try simp only [List.map_toArray, List.map_cons, List.map_nil]); first | done | rfl) ?_; (with_reducible refine (laws_markInt64SS.calls k (fun k_ => loR6 ≤ k_ ∧ k_ < hiR6) _ t4 1 t15 t9 w_1 _ ?side1 ?side2 E6.out).mono ?_); (case side1 => exact HBM.out); (case side2 => exact HOR6.out); rintro e w_4 ⟨rfl, hy, hb, hkp⟩; refine ⟨_, rfl, ?_⟩; have n0_ := Aside0.mk (Kd.S_kept HOR3.out hkp NRR3_R6.out); have n1_ := Aside0.mk (Nat.le_trans UPR3.out hkp.1); have n2_ := Aside0.mk (hy); have n3_ := Aside0.mk (Nat.le_trans UPR6.out hkp.1); have n4_ := Aside0.mk (below_step HWM.out hb); have n5_ := Aside0.mk (hb); clear HOR3; clear UPR3; clear HOR6; clear UPR6; clear HB; clear HBM; have HOR3 := n0_; have UPR3 := n1_; have HOR6 := n2_; have UPR6 := n3_; have HB := n4_; have HBM := n5_; clear n0_ n1_ n2_ n3_ n4_ n5_; clear hy hb hkp) | ((with_reducible refine gate_callee (f := 19) rfl ?_); refine goesL_ (some 35) rfl rfl Try.func19 (by kernel_rfl) rfl #[.slice AR6 t9.length cR6, .int .i64 1] rfl (by (try simp only [List.map_toArray, List.map_cons, List.map_nil]); first | done | rfl | (simp only [show t9.length = t4.length from (Kd.S_reads' HOR6.out).1.symm]; rfl)) ?_; (with_reducible refine (laws_heldInt64SS.calls k _ _ t9 1 t15 _ ?side1 ?side2 E7.out).mono ?_); (case side1 => exact (Kd.S_reads' HOR6.out).2.2); (case side2 => exact (fun h_ => h_.1 ▸ h_.2.1) (Kd.S_reads' HOR6.out)); rintro e w_5 ⟨rfl, hd⟩; have hb := Drawn0.below hd; refine ⟨_, rfl, ?_⟩; have n0_ := Aside0.mk (Kd.S_below HOR3.out hb); have n1_ := Aside0.mk (Kd.S_below HOR6.out hb); have n2_ := Aside0.mk (Nat.le_trans UPR3.out hb.size); have n3_ := Aside0.mk (Nat.le_trans UPR6.out hb.size); have n4_ := Aside0.mk (below_step HB.out hb); have n5_ := Aside0.mk (below_step HBM.out hb); clear HOR3; clear HOR6; clear UPR3; clear UPR6; clear HB; clear HBM; have HOR3 := n0_; have HOR6 := n1_; have UPR3 := n2_; have UPR6 := n3_; have HB := n4_; have HBM := n5_; clear n0_ n1_ n2_ n3_ n4_ n5_; clear hb; clear hd) | ((with_reducible refine gate_callee (f := 16) rfl ?_); refine goesL_ (some 43) rfl rfl Try.func16 (by kernel_rfl) rfl #[.int .i64 a0] rfl (by (try simp only [List.map_toArray, List.map_cons, List.map_nil]); first | done | rfl) ?_; (with_reducible refine (impl_DoublingMask.calls k a0 t11 t12 _ E10.out).mono ?_); rintro e w_6 ⟨vR13, rfl, hoR13, hb⟩; refine ⟨_, rfl, ?_⟩; obtain ⟨loR13, hloR13⟩ : ∃ n_ : Nat, n_ = w_5.heap.size := ⟨_, rfl⟩; obtain ⟨hiR13, hhiR13⟩ : ∃ n_ : Nat, n_ = w_6.heap.size := ⟨_, rfl⟩; have n0_ := Aside0.mk (Kd.S_below HOR3.out hb); have n1_ := Aside0.mk (Kd.S_below HOR6.out hb); have n2_ := Aside0.mk (Nat.le_trans UPR3.out hb.size); have n3_ := Aside0.mk (Nat.le_trans UPR6.out hb.size); have n4_ := Aside0.mk (below_step HB.out hb); have n5_ := Aside0.mk (below_step HBM.out hb); have n6_ := Aside0.mk (Kd.S_lower (Kd.S_mono (ok' := fun k_ => loR13 ≤ k_ ∧ k_ < hiR13) (Kd.S_bound hoR13) (fun k_ hk_ => ⟨by rw [hloR13]; exact hk_.2.1, by rw [hhiR13]; exact hk_.2.2.1⟩)) (below_size HBM.out)); have n7_ := Aside0.mk (by rw [hhiR13]; exact Nat.le_refl _ : hiR13 ≤ w_6.heap.size); have n8_ := Aside0.mk (fun k_ h1_ h2_ => by have := UPR3.out; rw [← hloR13] at this; omega : ∀ k_, loR3 ≤ k_ ∧ k_ < hiR3 → ¬ (loR13 ≤ k_ ∧ k_ < hiR13)); have n9_ := Aside0.mk (fun k_ h1_ h2_ => by have := UPR3.out; rw [← hloR13] at this; omega : ∀ k_, loR13 ≤ k_ ∧ k_ < hiR13 → ¬ (loR3 ≤ k_ ∧ k_ < hiR3)); have n10_ := Aside0.mk (fun k_ h1_ h2_ => by have := UPR6.out; rw [← hloR13] at this; omega : ∀ k_, loR6 ≤ k_ ∧ k_ < hiR6 → ¬ (loR13 ≤ k_ ∧ k_ < hiR13)); have n11_ := Aside0.mk (fun k_ h1_ h2_ => by have := UPR6.out; rw [← hloR13] at this; omega : ∀ k_, loR13 ≤ k_ ∧ k_ < hiR13 → ¬ (loR6 ≤ k_ ∧ k_ < hiR6)); clear HOR3; clear HOR6; clear UPR3; clear UPR6; clear HB; clear HBM; have HOR3 := n0_; have HOR6 := n1_; have UPR3 := n2_; have UPR6 := n3_; have HB := n4_; have HBM := n5_; have HOR13 := n6_; have UPR13 := n7_; have NRR3_R13 := n8_; have NRR13_R3 := n9_; have NRR6_R13 := n10_; have NRR13_R6 := n11_; clear n0_ n1_ n2_ n3_ n4_ n5_ n6_ n7_ n8_ n9_ n10_ n11_; clear hb; clear hoR13 hloR13 hhiR13; obtain ⟨AR13, cR13, eqR13⟩ := Kd.S_slice HOR13.out; subst eqR13) | ((with_reducible refine gate_callee (f := 17) rfl ?_); refine goesL_ (some 48) rfl rfl Try.func17 (by kernel_rfl) rfl #[.slice AR13 t11.length cR13, .slice AR3 t1.length cR3] rfl (by (try simp only [List.map_toArray, List.map_cons, List.map_nil]); first | done | rfl) ?_; (with_reducible refine (laws_eqInt64SS.calls k _ _ t11 _ _ t1 true _ ?side1 ?side2 ?side3 ?side4 E11.out).mono ?_); (case side1 => exact (Kd.S_reads' HOR13.out).2.2); (case side2 => exact (Kd.S_reads' HOR13.out).2.1); (case side3 => exact (Kd.S_reads' HOR3.out).2.2); (case side4 => exact (Kd.S_reads' HOR3.out).2.1); rintro e w_7 ⟨rfl, hd⟩; have hb := Drawn0.below hd; refine ⟨_, rfl, ?_⟩; have n0_ := Aside0.mk (Kd.S_below HOR3.out hb); have n1_ := Aside0.mk (Kd.S_below HOR6.out hb); have n2_ := Aside0.mk (Kd.S_below HOR13.out hb); have n3_ := Aside0.mk (Nat.le_trans UPR3.out hb.size); have n4_ := Aside0.mk (Nat.le_trans UPR6.out hb.size); have n5_ := Aside0.mk (Nat.le_trans UPR13.out hb.size); have n6_ := Aside0.mk (below_step HB.out hb); have n7_ := Aside0.mk (below_step HBM.out hb); clear HOR3; clear HOR6; clear HOR13; clear UPR3; clear UPR6; clear UPR13; clear HB; clear HBM; have HOR3 := n0_; have HOR6 := n1_; have HOR13 := n2_; have UPR3 := n3_; have UPR6 := n4_; have UPR13 := n5_; have HB := n6_; have HBM := n7_; clear n0_ n1_ n2_ n3_ n4_ n5_ n6_ n7_; clear hb; clear hd) | ((with_reducible refine gate_callee (f := 19) rfl ?_); refine goesL_ (some 57) rfl rfl Try.func19 (by kernel_rfl) rfl #[.slice AR6 t9.length cR6, .int .i64 1] rfl (by (try simp only [List.map_toArray, List.map_cons, List.map_nil]); first | done | rfl | (simp only [show t9.length = t4.length from (Kd.S_reads' HOR6.out).1.symm]; rfl)) ?_; (with_reducible refine (laws_heldInt64SS.calls k _ _ t9 1 t15 _ ?side1 ?side2 E14.out).mono ?_); (case side1 => exact (Kd.S_reads' HOR6.out).2.2); (case side2 => exact (fun h_ => h_.1 ▸ h_.2.1) (Kd.S_reads' HOR6.out)); rintro e w_8 ⟨rfl, hd⟩; have hb := Drawn0.below hd; refine ⟨_, rfl, ?_⟩; have n0_ := Aside0.mk (Kd.S_below HOR3.out hb); have n1_ := Aside0.mk (Kd.S_below HOR6.out hb); have n2_ := Aside0.mk (Kd.S_below HOR13.out hb); have n3_ := Aside0.mk (Nat.le_trans UPR3.out hb.size); have n4_ := Aside0.mk (Nat.le_trans UPR6.out hb.size); have n5_ := Aside0.mk (Nat.le_trans UPR13.out hb.size); have n6_ := Aside0.mk (below_step HB.out hb); have n7_ := Aside0.mk (below_step HBM.out hb); clear HOR3; clear HOR6; clear HOR13; clear UPR3; clear UPR6; clear UPR13; clear HB; clear HBM; have HOR3 := n0_; have HOR6 := n1_; have HOR13 := n2_; have UPR3 := n3_; have UPR6 := n4_; have UPR13 := n5_; have HB := n6_; have HBM := n7_; clear n0_ n1_ n2_ n3_ n4_ n5_ n6_ n7_; clear hb; clear hd))
 go_ret
 exact ⟨by first | rfl | (simp; done) | (simp [*]; done), HB.out⟩
theorem laws_FnExactDoublingMask.walk (P : laws_FnExactDoublingMask.Pure) (a0 : Int) (w : World)  (w0 : (Lit.int .i64 a0).wf = true) :
  Calls Try.prog 3 #[.int .i64 a0] w fun e w' => e = .returned (.bool true) ∧ Below w.heap.size w w' := by
 obtain ⟨k, h⟩ := P a0 w0
 exact laws_FnExactDoublingMask.calls k a0 w h
end Go.Proofs.Ytckonklpdepgoaa.Q
namespace Go.Proofs.Ytckonklpdepgoaa.Com
open Go.RowKit Go.Proofs.YtckonklpdepgoaaW.PrintWords
theorem w64 {x : Int} (h1 : -9223372036854775808 ≤ x) (h2 : x ≤ 9223372036854775807) : wrap64 x = x := by
 unfold wrap64
 omega
theorem ev_of {α : Type} {g : Nat → Option α} {r : α} (h : Ev g r) : ∃ k, g k = some r := h.rounds
end Go.Proofs.Ytckonklpdepgoaa.Com
namespace Go.Proofs.Ytckonklpdepgoaa.Com
set_option linter.unusedSimpArgs false
set_option linter.unusedVariables false
open Go.RowKit Go.Proofs.YtckonklpdepgoaaW.PrintWords Go.Proofs.YtckonklpdepgoaaW.PrintMore Go.Proofs.Ytckonklpdepgoaa.Q
def dmask : Nat → List (List Int)
 | 0 => [[0]]
 | 1 => [[0, 2], [3, 1]]
 | 2 => [[0, 8, 2, 10], [12, 4, 14, 6], [3, 11, 1, 9], [15, 7, 13, 5]]
 | _ => [[0, 32, 8, 40, 2, 34, 10, 42], [48, 16, 56, 24, 50, 18, 58, 26], [12, 44, 4, 36, 14, 46, 6, 38], [60, 28, 52, 20, 62, 30, 54, 22], [3, 35, 11, 43, 1, 33, 9, 41], [51, 19, 59, 27, 49, 17, 57, 25], [15, 47, 7, 39, 13, 45, 5, 37], [63, 31, 55, 23, 61, 29, 53, 21]]
set_option maxRecDepth 100000 in
theorem implDoubling_ev (n : Nat) (h : n ≤ 3) : Ev (fun k => impl_DoublingMask.f k (n : Int)) (dmask n, true) := by
 refine Ev.of (k := 100) (impl_DoublingMask.mono (n : Int)) ?_
 have : ∀ m : Fin 4, impl_DoublingMask.f 100 (m.val : Int) = some (dmask m.val, true) := by decide +kernel
 exact this ⟨n, by omega⟩
set_option maxRecDepth 100000 in
theorem specDoubling_ev (n : Nat) (h : n ≤ 3) : Ev (fun k => spec_DoublingMask.f k (n : Int)) (dmask n, true) := by
 refine Ev.of (k := 100) (spec_DoublingMask.mono (n : Int)) ?_
 have : ∀ m : Fin 4, spec_DoublingMask.f 100 (m.val : Int) = some (dmask m.val, true) := by decide +kernel
 exact this ⟨n, by omega⟩
theorem within03 (a : Int) (h : ¬ (0 ≤ a ∧ a ≤ 3)) : impl_within.f a 0 3 = some false := by
 unfold impl_within.f
 split
 ·rw [decide_eq_false (by omega)]
 ·rfl
theorem in03 (a : Int) (h : ¬ (0 ≤ a ∧ a ≤ 3)) : spec_l00In.f a 0 3 = some false := by
 unfold spec_l00In.f
 split
 ·rw [decide_eq_false (by omega)]
 ·rfl
theorem implDoubling_no (a : Int) (h : ¬ (0 ≤ a ∧ a ≤ 3)) : Ev (fun k => impl_DoublingMask.f k a) ([], false) := by
 refine ⟨0, fun k _ => ?_⟩
 simp only [impl_DoublingMask.f, within03 a h, Option.bind_some]
 rfl
theorem specDoubling_no (a : Int) (h : ¬ (0 ≤ a ∧ a ≤ 3)) : Ev (fun k => spec_DoublingMask.f k a) ([], false) := by
 refine ⟨0, fun k _ => ?_⟩
 simp only [spec_DoublingMask.f, spec_l09Order.f, in03 a h, Option.bind_some]
 rfl
theorem dmask_small (n : Nat) : (dmask n).length ≤ 8 ∧ ∀ x ∈ dmask n, x.length ≤ 8 := by
 match n with
 | 0 => decide
 | 1 => decide
 | 2 => decide
 | n + 3 => show (dmask 3).length ≤ 8 ∧ ∀ x ∈ dmask 3, x.length ≤ 8; decide
theorem doubling_both (a : Int) : ∃ r : List (List Int) × Bool, Ev (fun k => spec_DoublingMask.f k a) r ∧ Ev (fun k => impl_DoublingMask.f k a) r ∧ r.1.length ≤ 64 ∧ ∀ x ∈ r.1, x.length ≤ 64 := by
 by_cases h : 0 ≤ a ∧ a ≤ 3
 ·obtain ⟨n, rfl⟩ : ∃ n : Nat, a = n := ⟨a.toNat, by omega⟩
  have hs := dmask_small n
  exact ⟨_, specDoubling_ev n (by omega), implDoubling_ev n (by omega), by show (dmask n).length ≤ 64; omega, fun x hx => by have := hs.2 x hx; omega⟩
 ·exact ⟨_, specDoubling_no a h, implDoubling_no a h, by simp, by simp⟩
end Go.Proofs.Ytckonklpdepgoaa.Com
namespace Go.Proofs.Ytckonklpdepgoaa.Com
set_option linter.unusedSimpArgs false
set_option linter.unusedVariables false
open Go.RowKit Go.Proofs.YtckonklpdepgoaaW.PrintWords
theorem ev_fold {α σ ρ : Type} (xs : List α) (g : Nat → σ → Nat → Option ρ) (F : List α → σ → ρ) (Inv : Nat → σ → Prop)
  (h0 : ∀ s, Inv xs.length s → Ev (g xs.length s) (F [] s))
  (hs : ∀ m (h : m < xs.length) s, Inv m s → (∀ s', Inv (m + 1) s' → Ev (g (m + 1) s') (F (xs.drop (m + 1)) s')) → Ev (g m s) (F (xs[m] :: xs.drop (m + 1)) s)) :
  ∀ m s, m ≤ xs.length → Inv m s → Ev (g m s) (F (xs.drop m) s) := by
 have key : ∀ d m s, m + d = xs.length → Inv m s → Ev (g m s) (F (xs.drop m) s) := by
  intro d
  induction d with
  | zero =>
   intro m s e hi
   obtain rfl : m = xs.length := by omega
   rw [List.drop_length]
   exact h0 s hi
  | succ d ih =>
   intro m s e hi
   have h : m < xs.length := by omega
   rw [List.drop_eq_getElem_cons h]
   exact hs m h s hi (fun s' hi' => ih (m + 1) s' (by omega) hi')
 intro m s hm hi
 exact key (xs.length - m) m s (by omega) hi
theorem ev_list {α ρ : Type} (xs : List α) (g : Nat → Nat → Option ρ) (F : List α → ρ) (h0 : Ev (g xs.length) (F []))
  (hs : ∀ m (h : m < xs.length), Ev (g (m + 1)) (F (xs.drop (m + 1))) → Ev (g m) (F (xs[m] :: xs.drop (m + 1)))) (m : Nat) (hm : m ≤ xs.length) : Ev (g m) (F (xs.drop m)) :=
 ev_fold xs (fun m (_ : Unit) => g m) (fun l _ => F l) (fun _ _ => True) (fun _ _ => h0) (fun m h _ _ ih => hs m h (ih () trivial)) m () hm trivial
theorem ev_count {σ ρ : Type} (n : Nat) (g : Nat → σ → Nat → Option ρ) (r : ρ) (Inv : Nat → σ → Prop) (h0 : ∀ s, Inv n s → Ev (g n s) r)
  (hs : ∀ m s, m < n → Inv m s → ∃ s', Inv (m + 1) s' ∧ (Ev (g (m + 1) s') r → Ev (g m s) r)) : ∀ m s, m ≤ n → Inv m s → Ev (g m s) r := by
 have key : ∀ d m s, m + d = n → Inv m s → Ev (g m s) r := by
  intro d
  induction d with
  | zero =>
   intro m s e hi
   obtain rfl : m = n := by omega
   exact h0 s hi
  | succ d ih =>
   intro m s e hi
   obtain ⟨s', hi', k⟩ := hs m s (by omega) hi
   exact k (ih (m + 1) s' (by omega) hi')
 intro m s hm hi
 exact key (n - m) m s (by omega) hi
theorem rd_nat {xs : List Int} {m : Nat} (h : m < xs.length) : rd xs (m : Int) = xs[m] := by
 unfold rd
 rw [Int.toNat_natCast, List.getD_eq_getElem?_getD, List.getElem?_eq_getElem h]
 rfl
theorem w_succ {m : Nat} (h : m < 9223372036854775807) : wrap64 ((m : Int) + 1) = ((m + 1 : Nat) : Int) := by
 rw [w64 (by omega) (by omega)]
 omega
end Go.Proofs.Ytckonklpdepgoaa.Com
namespace Go.Proofs.Ytckonklpdepgoaa.Com
set_option linter.unusedSimpArgs false
set_option linter.unusedVariables false
open Go.RowKit Go.Proofs.YtckonklpdepgoaaW.PrintWords Go.Proofs.Ytckonklpdepgoaa.Q
theorem eqInt64S_ev (xs ys : List Int) (hx : xs.length ≤ 1048576) : Ev (fun k => laws_eqInt64S.f k xs ys) (decide (xs = ys)) := by
 unfold laws_eqInt64S.f
 by_cases hl : (xs.length : Int) = (ys.length : Int)
 ·simp only [if_pos hl]
  have key : ∀ m, m ≤ xs.length → Ev (fun k => laws_eqInt64S.l0 k xs ys (m : Int)) (decide (xs.drop m = ys.drop m)) := by
   have gen := ev_list xs (fun m k => laws_eqInt64S.l0 k xs ys (m : Int)) (fun l => decide (l = ys.drop (xs.length - l.length))) ?_ ?_
   ·intro m hm
    have := gen m hm
    rwa [List.length_drop, show xs.length - (xs.length - m) = m by omega] at this
   ·refine Ev.step (fun k => by rw [laws_eqInt64S.l0]) ?_
    simp only [if_neg (show ¬ (xs.length : Int) < (xs.length : Int) by omega)]
    have : ys.drop (xs.length - ([] : List Int).length) = [] := by simp; omega
    rw [this]
    exact Ev.now _
   ·intro m hm ih
    refine Ev.step (fun k => by rw [laws_eqInt64S.l0]) ?_
    have hy : m < ys.length := by omega
    simp only [if_pos (show (m : Int) < (xs.length : Int) by omega), if_pos (show 0 ≤ (m : Int) by omega), if_pos (show (m : Int) < (ys.length : Int) by omega), rd_nat hm, rd_nat hy, w_succ (m := m) (by omega)]
    rw [List.length_drop, show xs.length - (xs.length - (m + 1)) = m + 1 by omega] at ih
    have e : xs.length - (xs[m] :: xs.drop (m + 1)).length = m := by simp; omega
    rw [e, List.drop_eq_getElem_cons hy]
    by_cases c : xs[m] = ys[m]
    ·simp only [if_pos c]
     rw [show decide (xs[m] :: xs.drop (m + 1) = ys[m] :: ys.drop (m + 1)) = decide (xs.drop (m + 1) = ys.drop (m + 1)) from decide_eq_decide.2 (by rw [c]; exact ⟨fun h => (List.cons.inj h).2, fun h => by rw [h]⟩)]
     exact ih
    ·simp only [if_neg c]
     rw [decide_eq_false (show ¬ xs[m] :: xs.drop (m + 1) = ys[m] :: ys.drop (m + 1) from fun h => c (List.cons.inj h).1)]
     exact Ev.now _
  have := key 0 (by omega)
  simpa using this
 ·simp only [if_neg hl]
  have : xs ≠ ys := fun e => hl (by rw [e])
  rw [decide_eq_false this]
  exact Ev.now _
end Go.Proofs.Ytckonklpdepgoaa.Com
namespace Go.Proofs.Ytckonklpdepgoaa.Com
set_option linter.unusedSimpArgs false
set_option linter.unusedVariables false
set_option linter.unusedSectionVars false
open Go.RowKit Go.Proofs.YtckonklpdepgoaaW.PrintWords Go.Proofs.YtckonklpdepgoaaW.PrintMore Go.Proofs.Ytckonklpdepgoaa.Q
theorem rdr_nat {xs : List (List Int)} {m : Nat} (h : m < xs.length) : rd_L1 xs (m : Int) = xs[m] := by
 unfold rd_L1
 rw [Int.toNat_natCast, List.getD_eq_getElem?_getD, List.getElem?_eq_getElem h]
 rfl
theorem eqInt64SS_ev (xs : List (List Int)) (hx : xs.length ≤ 1048576) (hr : ∀ x ∈ xs, x.length ≤ 1048576) : Ev (fun k => laws_eqInt64SS.f k xs xs) true := by
 unfold laws_eqInt64SS.f
 simp only [if_true]
 have gen := ev_list xs (fun m k => laws_eqInt64SS.l0 k xs xs (m : Int)) (fun _ => true) ?_ ?_ 0 (by omega)
 ·exact gen
 ·refine Ev.step (fun k => by rw [laws_eqInt64SS.l0]) ?_
  simp only [if_neg (show ¬ (xs.length : Int) < (xs.length : Int) by omega)]
  exact Ev.now _
 ·intro m hm ih
  refine Ev.step (fun k => by rw [laws_eqInt64SS.l0]) ?_
  simp only [if_pos (show (m : Int) < (xs.length : Int) by omega), if_pos (show 0 ≤ (m : Int) by omega), rdr_nat hm, w_succ (m := m) (by omega)]
  refine Ev.bind (eqInt64S_ev xs[m] xs[m] (hr _ (List.getElem_mem hm))) ?_
  simp only [decide_true, if_true]
  exact ih
end Go.Proofs.Ytckonklpdepgoaa.Com
namespace Go.Proofs.Ytckonklpdepgoaa.Com
set_option linter.unusedSimpArgs false
set_option linter.unusedVariables false
open Go.RowKit Go.Proofs.YtckonklpdepgoaaW.PrintWords Go.Proofs.Ytckonklpdepgoaa.Q
def markL (n : Nat) (a : Int) : List Int := (List.range n).map fun (i : Nat) => a + (i : Int)
theorem markL_len (n : Nat) (a : Int) : (markL n a).length = n := by simp [markL]
theorem markL_at (n : Nat) (a : Int) (i : Nat) (h : i < (markL n a).length) : (markL n a)[i] = a + i := by simp [markL]
theorem markL_succ (n : Nat) (a : Int) : markL (n + 1) a = markL n a ++ [a + n] := by
 unfold markL
 rw [List.range_succ, List.map_append]
 rfl
theorem mark_set (xs : List Int) (m : Nat) (a : Int) (h : m < xs.length) : (markL m a ++ xs.drop m).set m (a + m) = markL (m + 1) a ++ xs.drop (m + 1) := by
 rw [List.set_append_right _ _ (by rw [markL_len]; omega), markL_len, Nat.sub_self, List.drop_eq_getElem_cons h, List.set_cons_zero, markL_succ, List.append_assoc]
 rfl
theorem markInt64S_ev (xs : List Int) (a : Int) (hx : xs.length ≤ 1048576) (ha : 0 ≤ a ∧ a ≤ 1000000000000) : Ev (fun k => laws_markInt64S.f k xs a) (a + xs.length, markL xs.length a) := by
 unfold laws_markInt64S.f
 have gen := ev_count xs.length (fun m (s : List Int × Int) k => laws_markInt64S.l0 k s.1 s.2 (m : Int)) (a + (xs.length : Int), markL xs.length a) (fun m s => s = (markL m a ++ xs.drop m, a + m)) ?_ ?_ 0 (xs, a) (by omega) (by simp [markL])
 ·exact gen
 ·rintro s rfl
  refine Ev.step (fun k => by rw [laws_markInt64S.l0]) ?_
  have hl : (markL xs.length a ++ xs.drop xs.length).length = xs.length := by rw [List.length_append, markL_len, List.length_drop]; omega
  rw [List.drop_length, List.append_nil] at hl ⊢
  simp only [hl, if_neg (show ¬ (xs.length : Int) < (xs.length : Int) by omega)]
  exact Ev.now _
 ·rintro m s hm rfl
  refine ⟨_, rfl, fun ih => ?_⟩
  refine Ev.step (fun k => by rw [laws_markInt64S.l0]) ?_
  have hl : (markL m a ++ xs.drop m).length = xs.length := by rw [List.length_append, markL_len, List.length_drop]; omega
  simp only [hl, if_pos (show (m : Int) < (xs.length : Int) by omega), if_pos (show 0 ≤ (m : Int) by omega), Int.toNat_natCast, mark_set xs m a hm, w_succ (m := m) (by omega)]
  rw [w64 (by omega) (by omega)]
  simp only at ih
  rwa [show a + ((m + 1 : Nat) : Int) = a + (m : Int) + 1 by omega] at ih
theorem heldInt64S_ev (n : Nat) (a : Int) (hx : n ≤ 1048576) (ha : 0 ≤ a ∧ a ≤ 1000000000000) : Ev (fun k => laws_heldInt64S.f k (markL n a) a) (a + n) := by
 unfold laws_heldInt64S.f
 have gen := ev_count n (fun m (s : Int) k => laws_heldInt64S.l0 k (markL n a) s (m : Int)) (a + (n : Int)) (fun m s => s = a + m) ?_ ?_ 0 a (by omega) (by simp)
 ·exact gen
 ·rintro s rfl
  refine Ev.step (fun k => by rw [laws_heldInt64S.l0]) ?_
  simp only [markL_len, if_neg (show ¬ (n : Int) < (n : Int) by omega)]
  exact Ev.now _
 ·rintro m s hm rfl
  refine ⟨_, rfl, fun ih => ?_⟩
  refine Ev.step (fun k => by rw [laws_heldInt64S.l0]) ?_
  have h : m < (markL n a).length := by rw [markL_len]; exact hm
  simp only [if_pos (show (m : Int) < ((markL n a).length : Int) by rw [markL_len]; omega), if_pos (show 0 ≤ (m : Int) by omega), rd_nat h, markL_at, if_true, w_succ (m := m) (by omega)]
  rw [w64 (by omega) (by omega)]
  rwa [show a + ((m + 1 : Nat) : Int) = a + (m : Int) + 1 by omega] at ih
end Go.Proofs.Ytckonklpdepgoaa.Com
namespace Go.Proofs.Ytckonklpdepgoaa.Com
set_option linter.unusedSimpArgs false
set_option linter.unusedVariables false
set_option linter.unusedSectionVars false
open Go.RowKit Go.Proofs.YtckonklpdepgoaaW.PrintWords Go.Proofs.YtckonklpdepgoaaW.PrintMore Go.Proofs.Ytckonklpdepgoaa.Q
def tot : List (List Int) → Int
 | [] => 0
 | x :: r => (x.length : Int) + tot r
theorem tot_nn (l : List (List Int)) : 0 ≤ tot l := by
 induction l with
 | nil => exact Int.le_refl _
 | cons x r ih => unfold tot; omega
theorem tot_le (l : List (List Int)) (c : Nat) (h : ∀ x ∈ l, x.length ≤ c) : tot l ≤ (l.length * c : Nat) := by
 induction l with
 | nil => simp [tot]
 | cons x r ih =>
  have h1 := h x (List.mem_cons_self ..)
  have h2 := ih (fun y hy => h y (List.mem_cons_of_mem _ hy))
  unfold tot
  rw [List.length_cons, Nat.add_mul, Nat.one_mul]
  omega
theorem tot_take (xs : List (List Int)) (m : Nat) (h : m < xs.length) : tot (xs.take (m + 1)) = tot (xs.take m) + xs[m].length := by
 induction xs generalizing m with
 | nil => simp at h
 | cons y r ih =>
  cases m with
  | zero => simp [tot]
  | succ m =>
   simp only [List.take_succ_cons, tot, List.getElem_cons_succ]
   rw [ih m (by simpa using h)]
   omega
theorem tot_take_le (xs : List (List Int)) (m : Nat) : tot (xs.take m) ≤ tot xs := by
 induction xs generalizing m with
 | nil => simp
 | cons y r ih =>
  cases m with
  | zero => simp [tot]; have := tot_nn r; omega
  | succ m => simp only [List.take_succ_cons, tot]; have := ih m; omega
def markLL : List (List Int) → Int → List (List Int)
 | [], _ => []
 | x :: r, a => markL x.length a :: markLL r (a + x.length)
theorem markLL_len (xs : List (List Int)) : ∀ a, (markLL xs a).length = xs.length := by
 induction xs with
 | nil => intro a; rfl
 | cons x r ih => intro a; simp [markLL, ih]
theorem markLL_snoc (xs : List (List Int)) (x : List Int) : ∀ a, markLL (xs ++ [x]) a = markLL xs a ++ [markL x.length (a + tot xs)] := by
 induction xs with
 | nil => intro a; simp [markLL, tot]
 | cons y r ih => intro a; simp only [List.cons_append, markLL, tot, ih]; rw [Int.add_assoc]
theorem markLL_at (xs : List (List Int)) : ∀ a (m : Nat) (h : m < (markLL xs a).length) (h' : m < xs.length), (markLL xs a)[m] = markL xs[m].length (a + tot (xs.take m)) := by
 induction xs with
 | nil => intro a m h h'; simp at h'
 | cons y r ih =>
  intro a m h h'
  cases m with
  | zero => simp [markLL, tot]
  | succ m =>
   simp only [markLL, List.getElem_cons_succ, List.take_succ_cons, tot]
   rw [ih _ m (by rw [markLL_len]; simpa using h') (by simpa using h'), Int.add_assoc]
theorem setll (A : List (List Int)) (xs : List (List Int)) (m : Nat) (h : m < xs.length) (hA : A.length = m) (y : List Int) : (A ++ xs.drop m).set m y = A ++ [y] ++ xs.drop (m + 1) := by
 rw [List.drop_eq_getElem_cons h, List.set_append_right _ _ (by omega), hA, Nat.sub_self, List.set_cons_zero, List.append_assoc]
 rfl
theorem markSS_ev (xs : List (List Int)) (a : Int) (hx : xs.length ≤ 1048576) (hr : ∀ x ∈ xs, x.length ≤ 1048576) (ha : 0 ≤ a) (hb : a + tot xs ≤ 1000000000000) : Ev (fun k => laws_markInt64SS.f k xs a) (a + tot xs, markLL xs a) := by
 unfold laws_markInt64SS.f
 refine ev_count xs.length (fun m (s : List (List Int) × Int) k => laws_markInt64SS.l0 k s.1 s.2 (m : Int)) _ (fun m s => s = (markLL (xs.take m) a ++ xs.drop m, a + tot (xs.take m))) ?_ ?_ 0 (xs, a) (by omega) (by simp [markLL, tot])
 ·rintro _ rfl
  refine Ev.step (fun k => by rw [laws_markInt64SS.l0]) ?_
  simp only [List.take_length, List.drop_length, List.append_nil, markLL_len, if_neg (show ¬ (xs.length : Int) < (xs.length : Int) by omega)]
  exact Ev.now _
 ·rintro m _ hm rfl
  refine ⟨_, rfl, fun ih => ?_⟩
  have hA : (markLL (xs.take m) a).length = m := by rw [markLL_len, List.length_take]; omega
  have hl : (markLL (xs.take m) a ++ xs.drop m).length = xs.length := by rw [List.length_append, hA, List.length_drop]; omega
  have e : rd_L1 (markLL (xs.take m) a ++ xs.drop m) (m : Int) = xs[m] := by
   rw [rdr_nat (by omega), List.getElem_append_right (by omega)]
   simp [hA]
  have t1 := tot_take xs m hm
  have t2 := tot_take_le xs (m + 1)
  have t3 := tot_nn (xs.take m)
  refine Ev.step (fun k => by rw [laws_markInt64SS.l0]) ?_
  simp only [hl, if_pos (show (m : Int) < (xs.length : Int) by omega), if_pos (show 0 ≤ (m : Int) by omega), e, w_succ (m := m) (by omega), Int.toNat_natCast]
  refine Ev.bind (markInt64S_ev xs[m] (a + tot (xs.take m)) (hr _ (List.getElem_mem hm)) (by omega)) ?_
  simp only
  rw [setll _ xs m hm hA, ← markLL_snoc, ← List.take_succ_eq_append_getElem hm, Int.add_assoc, ← t1]
  exact ih
theorem heldSS_ev (xs : List (List Int)) (a : Int) (hx : xs.length ≤ 1048576) (hr : ∀ x ∈ xs, x.length ≤ 1048576) (ha : 0 ≤ a) (hb : a + tot xs ≤ 1000000000000) : Ev (fun k => laws_heldInt64SS.f k (markLL xs a) a) (a + tot xs) := by
 unfold laws_heldInt64SS.f
 refine ev_count xs.length (fun m (s : Int) k => laws_heldInt64SS.l0 k (markLL xs a) s (m : Int)) _ (fun m s => s = a + tot (xs.take m)) ?_ ?_ 0 a (by omega) (by simp [tot])
 ·rintro _ rfl
  refine Ev.step (fun k => by rw [laws_heldInt64SS.l0]) ?_
  simp only [List.take_length, markLL_len, if_neg (show ¬ (xs.length : Int) < (xs.length : Int) by omega)]
  exact Ev.now _
 ·rintro m _ hm rfl
  refine ⟨_, rfl, fun ih => ?_⟩
  have e : rd_L1 (markLL xs a) (m : Int) = markL xs[m].length (a + tot (xs.take m)) := by
   rw [rdr_nat (by rw [markLL_len]; exact hm), markLL_at xs a m (by rw [markLL_len]; exact hm) hm]
  have t1 := tot_take xs m hm
  have t2 := tot_take_le xs (m + 1)
  have t3 := tot_nn (xs.take m)
  refine Ev.step (fun k => by rw [laws_heldInt64SS.l0]) ?_
  simp only [markLL_len, if_pos (show (m : Int) < (xs.length : Int) by omega), if_pos (show 0 ≤ (m : Int) by omega), e, w_succ (m := m) (by omega)]
  refine Ev.bind (heldInt64S_ev xs[m].length (a + tot (xs.take m)) (hr _ (List.getElem_mem hm)) (by omega)) ?_
  simp only [if_neg (show ¬ a + tot (xs.take m) + (xs[m].length : Int) < 0 by omega)]
  rw [Int.add_assoc, ← t1]
  exact ih
def Grid (R C : Nat) (g : List (List Int)) : Prop := g.length = R ∧ ∀ x ∈ g, x.length = C
theorem Grid.row {R C : Nat} {g : List (List Int)} (h : Grid R C g) {i : Nat} (hi : i < R) : i < g.length ∧ ∀ (h' : i < g.length), g[i].length = C := ⟨by rw [h.1]; exact hi, fun h' => h.2 _ (List.getElem_mem h')⟩
theorem Grid.rd {R C : Nat} {g : List (List Int)} (h : Grid R C g) {i : Nat} (hi : i < R) : (rd_L1 g (i : Int)).length = C := by
 rw [rdr_nat (h.row hi).1]
 exact (h.row hi).2 _
end Go.Proofs.Ytckonklpdepgoaa.Com
namespace Go.Proofs.Ytckonklpdepgoaa.Pure
set_option linter.unusedSimpArgs false
set_option linter.unusedVariables false
open Go.RowKit Go.Proofs.Ytckonklpdepgoaa.Q Go.Proofs.YtckonklpdepgoaaW.PrintWords Go.Proofs.YtckonklpdepgoaaW.PrintLast Go.Proofs.Ytckonklpdepgoaa.Com
theorem FnExactDoublingMask : laws_FnExactDoublingMask.Pure := by
 intro a ha
 apply ev_of
 unfold laws_FnExactDoublingMask.f
 obtain ⟨⟨g, b⟩, E1, E2, g1, g2⟩ := doubling_both a
 simp only at g1 g2
 have c1 : g.length ≤ 1048576 := by omega
 have c2 : ∀ x ∈ g, x.length ≤ 1048576 := fun x hx => by have := g2 x hx; omega
 have c3 := tot_le g 64 g2
 have c4 := tot_nn g
 have c5 : g.length * 64 ≤ 64 * 64 := Nat.mul_le_mul_right _ g1
 refine Ev.bind E1 (Ev.bind E2 (Ev.bind (eqInt64SS_ev g c1 c2) ?_))
 simp only [if_true]
 refine Ev.bind (markSS_ev g 1 c1 c2 (by omega) (by omega)) (Ev.bind (heldSS_ev g 1 c1 c2 (by omega) (by omega)) ?_)
 simp only [if_neg (show ¬ 1 + tot g < 0 by omega), if_true]
 refine Ev.bind E2 (Ev.bind (eqInt64SS_ev g c1 c2) ?_)
 simp only [if_true]
 refine Ev.bind (heldSS_ev g 1 c1 c2 (by omega) (by omega)) ?_
 simp only [if_neg (show ¬ 1 + tot g < 0 by omega), if_true]
 exact Ev.now _
end Go.Proofs.Ytckonklpdepgoaa.Pure
