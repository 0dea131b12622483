/- The statement FnSpread, with all that its proof stands on: functions of the program as plain functions, the program's walks, and the plain law. Conditions: none beyond the statement's own. -/
import Derived.ArgAppend
import Derived.Below
import Derived.BigQuiet
import Derived.BigRegion
import Derived.Deep.AppendLies
import Derived.Deep.CutBlock
import Derived.Deep.DeepCutAuto
import Derived.Deep.Draws
import Derived.Deep.LoopGhost
import Derived.Deep.OwnRows
import Derived.Deep.QuietTactic
import Derived.Deep.RegionHeld3
import Derived.Ground.SlgmProg
import Derived.Ground.SlgnProg
import Derived.KernelRfl
import Derived.Laws.BitsLemmas
import Derived.Laws.BytesArg
import Derived.Laws.IdiomCopy
import Derived.Laws.MakeOwn
import Derived.Laws.OwnMore
import Derived.Laws.Rows
import Derived.Laws.Slices
import Derived.Lib.AppendStr
import Derived.Lib.ConvBytes
import Derived.Maps.AppendAt
import Derived.OrdersHeld
import Derived.OwnWalk
import Derived.ProofKit
import Derived.RowKit
import Derived.RowKit3
import Derived.Shelf.SlicesE.Clone
import Derived.Shelf.Small.Bits
import Derived.Shelf.Small.Strs
import Derived.Shelf.SortM.Plain
import Derived.Shelf.Strconv.Itoa0
import Derived.Shelf.Strings.Search1
import Derived.Sort.OwnSortedInts
import Derived.Tactics
import Derived.Test.YtckonklpdepgoaaProg
import Derived.WalkKit
import Derived.WideLaws
import Derived.Test.YtckonklpdepgoaaBFnSpread1
import Derived.Test.YtckonklpdepgoaaBFnSpread2
import Derived.Test.YtckonklpdepgoaaBFnSpread3
import Derived.Test.YtckonklpdepgoaaBFnSpread4
import Derived.Test.YtckonklpdepgoaaBFnSpread5
set_option linter.unusedVariables false
set_option linter.unusedSimpArgs false
namespace Go.Proofs.Ytckonklpdepgoaa.Q
open Go.RowKit Go.Proofs.YtckonklpdepgoaaW.PrintWords Go.Proofs.YtckonklpdepgoaaW.PrintLast Go.Proofs.YtckonklpdepgoaaW.PrintMore
attribute [local go_sem] max2_int min2_int max_two min_two max_three min_three max_four min_four   -- for this text's walks alone
set_option linter.unusedVariables false
set_option linter.unusedSimpArgs false
def errW : Option Int → Value
 | none => .nilIface
 | some c => .iface 0 (.int .i64 c)
theorem errW_none : errW none = .nilIface := rfl
theorem errW_some (c : Int) : errW (some c) = .iface 0 (.int .i64 c) := rfl
theorem info2 : (Try.prog.info? 2).map (fun i => (i.zero, i.size, i.bytes)) = some (some (.int .i64 0), 1, 8) := by kernel_rfl
theorem info34 : (Try.prog.info? 34).map (fun i => (i.zero, i.size, i.bytes)) = some (some (.slice none 0 0), 1, 24) := by kernel_rfl
def rd_L1 (xs : List (List Int)) (i : Int) : (List Int) := xs.getD i.toNat ([] : List Int)
theorem at_L1 {w : World} {A : Option Addr} {n : Nat} {xs : List (List Int)} (h : Kd.C (Kd.slice 2 (Kd.int .i64)) w A n xs) (i : Int) (h0 : 0 ≤ i) (h1 : i < n) : ∃ ad A0 c0, A = some ad ∧ w.cell? (ad.add i.toNat) = some (.slice A0 (rd_L1 xs i).length c0) ∧ (rd_L1 xs i).length ≤ c0 ∧ (Kd.int .i64).C w A0 (rd_L1 xs i).length (rd_L1 xs i) := by
 obtain ⟨ad, c, e, _, hK, hc0⟩ := Kd.C_get h ([] : List Int) i h0 h1
 have hc : ∀ j u, c[j]? = some u → w.cell? (ad.add (i.toNat * 1 + j)) = some u := hc0
 obtain ⟨A0, c0, rfl, l0, g0⟩ := hK
 exact ⟨ad, A0, c0, e, by have hq := hc 0 _ rfl; rwa [Nat.mul_one, Nat.add_zero] at hq, l0, g0⟩
end Go.Proofs.Ytckonklpdepgoaa.Q
namespace Go.Proofs.Ytckonklpdepgoaa.Q
open Go.RowKit Go.Proofs.YtckonklpdepgoaaW.PrintWords Go.Proofs.YtckonklpdepgoaaW.PrintLast Go.Proofs.YtckonklpdepgoaaW.PrintMore
attribute [local go_sem] max2_int min2_int max_two min_two max_three min_three max_four min_four   -- for this text's walks alone
set_option linter.unusedVariables false
set_option linter.unusedSimpArgs false
def spec_l00In.f (a0 : Int) (a1 : Int) (a2 : Int) : Option (Bool) := if a0 ≥ a1 then (some (decide (a0 ≤ a2))) else (some false)
set_option maxHeartbeats 8000000 in
set_option maxRecDepth 100000 in
theorem spec_l00In.calls (a0 : Int) (a1 : Int) (a2 : Int) (r : Bool) (w : World) (h : spec_l00In.f a0 a1 a2 = some r) :
  Calls Try.prog 85 #[.int .i64 a0, .int .i64 a1, .int .i64 a2] w fun e w' => e = .returned (.bool r) ∧ Drawn0 w w' := by
 have H : (if a0 ≥ a1 then (some (decide (a0 ≤ a2))) else (some false)) = some r := h
 clear h
 by_cases c4 : a0 ≥ a1
 ·rw [if_pos c4] at H
  have c4b0 : decide (a1 ≤ a0) = true := decide_eq_true c4
  clear c4
  obtain rfl := Option.some.inj H
  go_enter Try.func85, Try.ntmps85
  go_wp2
  go_ret
  exact ⟨by first | rfl | (simp; done) | (simp [*]; done), by repeat (first | exact Drawn0.refl _ | apply Drawn0.step)⟩
 ·rw [if_neg c4] at H
  have c4b0 : decide (a1 ≤ a0) = false := decide_eq_false c4
  clear c4
  obtain rfl := Option.some.inj H
  go_enter Try.func85, Try.ntmps85
  go_wp2
  go_ret
  exact ⟨by first | rfl | (simp; done) | (simp [*]; done), by repeat (first | exact Drawn0.refl _ | apply Drawn0.step)⟩
def spec_l09Order.f (a0 : Int) : Option (Bool) := (spec_l00In.f a0 0 3).bind fun t101 => (some t101)
set_option maxHeartbeats 8000000 in
set_option maxRecDepth 100000 in
theorem spec_l09Order.calls (a0 : Int) (r : Bool) (w : World) (h : spec_l09Order.f a0 = some r) :
  Calls Try.prog 58 #[.int .i64 a0] w fun e w' => e = .returned (.bool r) ∧ Drawn0 w w' := by
 have H : ((spec_l00In.f a0 0 3).bind fun t101 => (some t101)) = some r := h
 clear h
 replace H := Option.bind_eq_some_iff.mp H
 obtain ⟨t101, A20, H⟩ := H
 replace H : (some t101) = some r := H
 have A2 := Aside0.mk A20
 clear A20
 obtain rfl := Option.some.inj H
 go_enter Try.func58, Try.ntmps58
 go_wp2_with (first | ((with_reducible refine gate_callee (f := 85) rfl ?_); refine goesL_ (some 4) rfl rfl Try.func85 (by kernel_rfl) rfl #[.int .i64 a0, .int .i64 0, .int .i64 3] rfl (by (try simp only [List.map_toArray, List.map_cons, List.map_nil]); first | done | rfl | (simp only [List.length_drop, List.length_take]; rfl) | (simp only [show ∀ (n_ : Nat) (b_ : Int), Int.tdiv (n_ : Int) b_ = (n_ : Int) / b_ from fun n_ b_ => Int.tdiv_eq_ediv_of_nonneg (Int.natCast_nonneg n_)]; rfl)) ?_; (with_reducible refine (spec_l00In.calls a0 0 3 t101 _ A2.out).mono ?_); rintro e w' ⟨rfl, ⟨nd, rfl⟩⟩; refine ⟨_, rfl, ?_⟩))
 go_ret
 exact ⟨by first | rfl | (simp; done) | (simp [*]; done), by repeat (first | exact Drawn0.refl _ | apply Drawn0.step)⟩
def spec_l09Square.l0 : Nat → Int → Int → List (List Int) → Int → Option ((List (List Int)))
 | 0, _, _, _, _ => none
 | k + 1, x0, x1, x5, x6 => if x6 < x0 then (if 0 ≤ x1 then (if (x1 : Int).toNat ≤ 35184372088832 then (if x5.length < 5864062014805 then (spec_l09Square.l0 k x0 x1 (x5 ++ [(List.replicate (x1 : Int).toNat 0)]) (wrap64 (x6 + 1))) else (none)) else (none)) else (none)) else (some x5)
def spec_l09Square.f (k : Nat) (a0 : Int) (a1 : Int) : Option ((List (List Int))) := spec_l09Square.l0 k a0 a1 (([] : List (List Int))) 0
theorem spec_l09Square.mono_l : ∀ k, (∀ y0 y1 y2 y3, LeO (spec_l09Square.l0 k y0 y1 y2 y3) (spec_l09Square.l0 (k + 1) y0 y1 y2 y3))
 | 0 => fun _ _ _ _ r h => by simp [spec_l09Square.l0] at h
 | k + 1 => by
  have ih0 := spec_l09Square.mono_l k
  ·intro y0 y1 y2 y3
   unfold spec_l09Square.l0
   repeat' first
   | (with_reducible exact ih0 _ _ _ _)
   | (with_reducible exact LeO.refl _)
   | (with_reducible exact LeO.none _)
   | (with_reducible refine LeO.ite ?_ ?_)
   | (with_reducible refine LeO.bind ?_ (fun _ => ?_))
   | exact ih0 _ _ _ _
   | exact LeO.none _
   | refine LeO.ite ?_ ?_
   | refine LeO.bind ?_ (fun _ => ?_)
theorem spec_l09Square.mono : ∀ a0 a1 k, LeO (spec_l09Square.f k a0 a1) (spec_l09Square.f (k + 1) a0 a1) := by
 intro a0 a1 k
 have ih0 := spec_l09Square.mono_l k
 unfold spec_l09Square.f
 repeat' first
   | (with_reducible exact ih0 _ _ _ _)
   | (with_reducible exact LeO.refl _)
   | (with_reducible exact LeO.none _)
   | (with_reducible refine LeO.ite ?_ ?_)
   | (with_reducible refine LeO.bind ?_ (fun _ => ?_))
   | exact ih0 _ _ _ _
   | exact LeO.none _
   | refine LeO.ite ?_ ?_
   | refine LeO.bind ?_ (fun _ => ?_)
set_option maxHeartbeats 8000000 in
set_option maxRecDepth 100000 in
theorem spec_l09Square.calls (k : Nat) (a0 : Int) (a1 : Int) (r : List (List Int)) (w : World) (h : spec_l09Square.f k a0 a1 = some r) :
  Calls Try.prog 90 #[.int .i64 a0, .int .i64 a1] w fun e w' => ∃ v0_ : Value, e = .returned (v0_) ∧ Kd.S (Kd.slice 2 (Kd.int .i64)) 34 w' w.heap.size (fun _ => True) v0_ r ∧ Below w.heap.size w w' := by
 have HB := Aside0.mk (Below.refl w.heap.size w)
 have H : (spec_l09Square.l0 k a0 a1 (([] : List (List Int))) 0) = some r := h
 clear h
 obtain ⟨y102, hy102⟩ : ∃ y_ : List (List Int), y_ = (([] : List (List Int))) := ⟨_, rfl⟩
 replace H : (spec_l09Square.l0 k a0 a1 y102 0) = some r := by first | (rw [hy102]; with_reducible exact H) | (have H2_ := (Option.bind_some _ _).symm.trans H; rw [hy102]; with_reducible exact H2_) | (have H2_ := (Option.bind_some _ _).symm.trans H; with_reducible exact H2_) | with_reducible exact H | (rw [hy102]; exact H) | exact H
 have Ny102 := Aside0.mk hy102
 clear hy102
 have H' := Aside0.mk H
 clear H
 go_enter Try.func90, Try.ntmps90
 go_wp2_with (first | ((with_reducible refine gate_dst (N := 7) rfl ?_); refine Kd.S_lit (Kd.slice 2 (Kd.int .i64)) _ 34 ?hg (N := 7) ?hd (xs := ([] : List (List Int))) (inner := []) (ok := fun _ => True) (okp := fun _ => True) ?hr ?hp (fun _ hk => hk) trivial (Below.refl _ _) (Nat.le_refl _) (by simp) ?_; (case hd => rfl); (case hg => rfl); (case hr => first | (go_simp; done) | (go_simp; rfl)); (case hp => exact (Reps.none _ _)); intro v103 w3 ho4 hb hg_ hnew_; clear hg_ hnew_; (first | rw [← Ny102.out] at ho4 | (simp only [Int.reduceToNat] at ho4; rw [← Ny102.out] at ho4)); have n0_ := Aside0.mk (Kd.S_lower ho4 (below_size (by repeat (first | (with_reducible first | exact HB.out | apply below_alloc | apply pw_below_drewN | apply below_drew1) | exact HB.out)))); have n1_ := Aside0.mk (below_step (by repeat (first | (with_reducible first | exact HB.out | apply below_alloc | apply pw_below_drewN | apply below_drew1) | exact HB.out)) hb); clear HB; have HO104 := n0_; have HB := n1_; clear n0_ n1_; clear hb ho4))
 go_loopg [5, 6] k (fun kq v5 v6 w' => ∃ (x5_1 : List (List Int)) (x6_1 : Int), v6 = .int .i64 x6_1 ∧ Aside0 (spec_l09Square.l0 kq a0 a1 x5_1 x6_1 = some r) ∧ Aside0 (kq ≤ k) ∧ Aside0 (Kd.S (Kd.slice 2 (Kd.int .i64)) 34 w' w.heap.size (fun _ => True) v5 x5_1) ∧ Aside0 (Below w.heap.size w w'))
 case atStart => exact ⟨(y102), (0), (by first | rfl | (simp; done) | (simp [*]; done)), H', ⟨Nat.le_refl _⟩, ⟨by (with_reducible repeat (first | apply Kd.S_alloc | apply Kd.S_drewN | apply Kd.S_drew)); exact HO104.out⟩, ⟨by repeat (first | (with_reducible first | exact HB.out | apply below_alloc | apply pw_below_drewN | apply below_drew1) | exact HB.out)⟩⟩
 case round =>
  clear H'
  try clear p2
  obtain ⟨x5_1, x6_1, rfl, HA, HK1, HO_5, HB⟩ := hrel
  cases gk with
  | zero => exact absurd HA.out (by simp [spec_l09Square.l0])
  | succ k1 =>
   have H := HA.out
   clear HA
   simp only [spec_l09Square.l0] at H
   by_cases c5 : x6_1 < a0
   ·rw [if_pos c5] at H
    have c5b0 : decide (x6_1 < a0) = true := decide_eq_true c5
    clear c5
    by_cases c6 : 0 ≤ a1
    ·rw [if_pos c6] at H
     have c6b0 := eq_true c6
     have c6b1 : decide (0 ≤ a1) = true := decide_eq_true c6
     clear c6
     by_cases c7 : (a1 : Int).toNat ≤ 35184372088832
     ·rw [if_pos c7] at H
      have c7b0 := eq_true c7
      have c7b1 : decide ((a1 : Int).toNat ≤ 35184372088832) = true := decide_eq_true c7
      clear c7
      obtain ⟨y105, hy105⟩ : ∃ y_ : List Int, y_ = (List.replicate (a1 : Int).toNat 0) := ⟨_, rfl⟩
      replace H : (if x5_1.length < 5864062014805 then (spec_l09Square.l0 k1 a0 a1 (x5_1 ++ [y105]) (wrap64 (x6_1 + 1))) else (none)) = some r := by first | (rw [hy105]; with_reducible exact H) | (have H2_ := (Option.bind_some _ _).symm.trans H; rw [hy105]; with_reducible exact H2_) | (have H2_ := (Option.bind_some _ _).symm.trans H; with_reducible exact H2_) | with_reducible exact H | (rw [hy105]; exact H) | exact H
      have Ny105 := Aside0.mk hy105
      clear hy105
      by_cases c8 : x5_1.length < 5864062014805
      ·rw [if_pos c8] at H
       have LMc8 := Aside0.mk c8
       clear c8
       obtain ⟨y108, hy108⟩ : ∃ y_ : List (List Int), y_ = (x5_1 ++ [y105]) := ⟨_, rfl⟩
       replace H : (spec_l09Square.l0 k1 a0 a1 y108 (wrap64 (x6_1 + 1))) = some r := by first | (rw [hy108]; with_reducible exact H) | (have H2_ := (Option.bind_some _ _).symm.trans H; rw [hy108]; with_reducible exact H2_) | (have H2_ := (Option.bind_some _ _).symm.trans H; with_reducible exact H2_) | with_reducible exact H | (rw [hy108]; exact H) | exact H
       have Ny108 := Aside0.mk hy108
       clear hy108
       have H' := Aside0.mk H
       clear H
       go_wp2_with (first | ((with_reducible refine gate_dst (N := 15) rfl ?_); refine Kd.R_make (Kd.int .i64) _ 2 rfl (N := 15) rfl 34 _ _ rfl a1 rfl rfl Try.underlying34 (.int .i64 0) 8 info2 rfl (by decide) (by omega) 0 (ok := fun _ => True) (okp := fun _ => True) rfl (fun _ hk => hk) trivial (of_decide_eq_true (by first | (with_reducible assumption) | assumption)) (Nat.le_trans (Nat.mul_le_mul_right _ (of_decide_eq_true (by first | (with_reducible assumption) | assumption) : a1.toNat ≤ 35184372088832)) (by omega)) (Below.refl _ _) (Nat.le_refl _) ?_; intro v106 w9 ho10 hb hg_ hnew_; clear hg_ hnew_; (first | rw [← Ny105.out] at ho10 | (simp only [Int.reduceToNat] at ho10; rw [← Ny105.out] at ho10)); have n0_ := Aside0.mk (Kd.S_elder' (by (with_reducible repeat (first | apply Kd.S_alloc | apply Kd.S_drewN | apply Kd.S_drew)); exact HO_5.out) (Kd.R_base ho10) hb); have n1_ := Aside0.mk (Kd.R_lower ho10 (below_size (by repeat (first | (with_reducible first | exact HB.out | apply below_alloc | apply pw_below_drewN | apply below_drew1) | exact HB.out)))); have n2_ := Aside0.mk (below_step (by repeat (first | (with_reducible first | exact HB.out | apply below_alloc | apply pw_below_drewN | apply below_drew1) | exact HB.out)) hb); clear HO_5; clear HB; have HO_5 := n0_; have HO107 := n1_; have HB := n2_; clear n0_ n1_ n2_; clear hb ho10; obtain ⟨Ao12, co12, eo12⟩ := Kd.R_slice HO107.out; subst eo12) | ((with_reducible refine gate_builtin (b := .append) (xs := #[.tmp 13, .tmp 16]) rfl ?_); at_builtin; refine Kd.S_append (Kd.slice 2 (Kd.int .i64)) (w0 := w) w.heap.size rfl (.tmp 13) (.tmp 16) 22 34 (.slice none 0 0) 24 rfl Try.underlying22 info34 rfl (by decide) (by omega) u5 x5_1 y105 [.slice Ao12 y105.length co12] (fun _ => True) (fun k_ => some k_ = (.slice Ao12 y105.length co12 : Value).ownBlock) rfl rfl ?aP (fun k_ hk_ => ((Kd.R_mono (ok' := fun k_ => ((fun _ => True)) k_ ∧ some k_ ≠ (u5 : Value).ownBlock) (Kd.R_apart' (HO107.out) (Kd.S_typed HO_5.out) (by decide)) (fun k_ hk => ⟨trivial, hk.2⟩))).1 k_ hk_.symm) ?aF ?aO ?aB ?aS ?aL ?_; (case aP => exact Kd.M_row (Kd.R_mono (Kd.R_tight rfl (Kd.R_mono (ok' := fun k_ => ((fun _ => True)) k_ ∧ some k_ ≠ (u5 : Value).ownBlock) (Kd.R_apart' (HO107.out) (Kd.S_typed HO_5.out) (by decide)) (fun k_ hk => ⟨trivial, hk.2⟩))) (fun _ h_ => h_))); (case aB => exact (by repeat (first | (with_reducible first | exact HB.out | apply below_alloc | apply pw_below_drewN | apply below_drew1) | exact HB.out))); (case aF => exact (fun _ _ => trivial)); (case aO => exact (by (with_reducible repeat (first | apply Kd.S_alloc | apply Kd.S_drewN | apply Kd.S_drew)); exact Kd.S_mono HO_5.out (fun k_ hk => ⟨trivial, fun e_ => hk.2 e_⟩))); (case aS => exact (below_size (by repeat (first | (with_reducible first | exact HB.out | apply below_alloc | apply pw_below_drewN | apply below_drew1) | exact HB.out)))); (case aL => have := LMc8.out; omega); intro v109 w11 ho hb hg hat; rw [← Ny108.out] at ho; have n0_ := Aside0.mk (hb); have n1_ := Aside0.mk (ho); clear HB; clear HO_5; clear HO107; have HB := n0_; have HO110 := n1_; clear n0_ n1_; clear ho hb hg hat))
       go_roundg k1
       case measure => have := HK1.out; omega
       case rel => exact ⟨(y108), (wrap64 (x6_1 + 1)), (by first | rfl | (simp; done) | (simp [*]; done)), H', ⟨by have := HK1.out; omega⟩, ⟨by (with_reducible repeat (first | apply Kd.S_alloc | apply Kd.S_drewN | apply Kd.S_drew)); exact HO110.out⟩, ⟨by repeat (first | (with_reducible first | exact HB.out | apply below_alloc | apply pw_below_drewN | apply below_drew1) | exact HB.out)⟩⟩
      ·rw [if_neg c8] at H
       exact absurd H (by simp)
     ·rw [if_neg c7] at H
      exact absurd H (by simp)
    ·rw [if_neg c6] at H
     exact absurd H (by simp)
   ·rw [if_neg c5] at H
    have c5b0 : decide (x6_1 < a0) = false := decide_eq_false c5
    clear c5
    obtain rfl := Option.some.inj H
    go_wp2
    go_ret
    exact ⟨_, by first | rfl | (simp [errW_none, errW_some] <;> rfl) | (simp [*, errW_none, errW_some] <;> rfl), by (with_reducible repeat (first | apply Kd.S_alloc | apply Kd.S_drewN | apply Kd.S_drew)); exact HO_5.out, by repeat (first | (with_reducible first | exact HB.out | apply below_alloc | apply pw_below_drewN | apply below_drew1) | exact HB.out)⟩
end Go.Proofs.Ytckonklpdepgoaa.Q
namespace Go.Proofs.Ytckonklpdepgoaa.Q
open Go.RowKit Go.Proofs.YtckonklpdepgoaaW.PrintWords Go.Proofs.YtckonklpdepgoaaW.PrintLast Go.Proofs.YtckonklpdepgoaaW.PrintMore
attribute [local go_sem] max2_int min2_int max_two min_two max_three min_three max_four min_four   -- for this text's walks alone
set_option linter.unusedVariables false
set_option linter.unusedSimpArgs false
mutual
def spec_l09Doubling.l0 : Nat → Int → List (List Int) → Option (List (List Int))
 | 0, _, _ => none
 | k + 1, a0, out => if 0 < a0 then ((spec_l09Square.f k (wrap64 (2 * (out.length : Int))) (wrap64 (2 * (out.length : Int)))).bind fun nx => spec_l09Doubling.l1 k a0 out nx 0) else some out
def spec_l09Doubling.l1 : Nat → Int → List (List Int) → List (List Int) → Int → Option (List (List Int))
 | 0, _, _, _, _ => none
 | k + 1, a0, out, nx, i => if i < (out.length : Int) then spec_l09Doubling.l2 k a0 out nx i 0 else spec_l09Doubling.l0 k (wrap64 (a0 - 1)) nx
def spec_l09Doubling.l2 : Nat → Int → List (List Int) → List (List Int) → Int → Int → Option (List (List Int))
 | 0, _, _, _, _, _ => none
 | k + 1, a0, out, nx, i, y => if y < (out.length : Int) then (if 0 ≤ i then (if i < (out.length : Int) then (if 0 ≤ y then (if y < ((rda out i).length : Int) then ((put2 nx i y (wrap64 (4 * rd (rda out i) y))).bind fun n1 => (put2 n1 i (wrap64 (y + (out.length : Int))) (wrap64 (wrap64 (4 * rd (rda out i) y) + 2))).bind fun n2 => (put2 n2 (wrap64 (i + (out.length : Int))) y (wrap64 (wrap64 (4 * rd (rda out i) y) + 3))).bind fun n3 => (put2 n3 (wrap64 (i + (out.length : Int))) (wrap64 (y + (out.length : Int))) (wrap64 (wrap64 (4 * rd (rda out i) y) + 1))).bind fun n4 => spec_l09Doubling.l2 k a0 out n4 i (wrap64 (y + 1))) else none) else none) else none) else none) else spec_l09Doubling.l1 k a0 out nx (wrap64 (i + 1))
end
def spec_l09Doubling.f (k : Nat) (a0 : Int) : Option (List (List Int)) := spec_l09Doubling.l0 k a0 [[0]]
theorem spec_l09Doubling.mono_l : ∀ k, (∀ y0 y1, LeO (spec_l09Doubling.l0 k y0 y1) (spec_l09Doubling.l0 (k + 1) y0 y1)) ∧ (∀ y0 y1 y2 y3, LeO (spec_l09Doubling.l1 k y0 y1 y2 y3) (spec_l09Doubling.l1 (k + 1) y0 y1 y2 y3)) ∧ (∀ y0 y1 y2 y3 y4, LeO (spec_l09Doubling.l2 k y0 y1 y2 y3 y4) (spec_l09Doubling.l2 (k + 1) y0 y1 y2 y3 y4))
 | 0 => ⟨fun _ _ r h => by simp [spec_l09Doubling.l0] at h, fun _ _ _ _ r h => by simp [spec_l09Doubling.l1] at h, fun _ _ _ _ _ r h => by simp [spec_l09Doubling.l2] at h⟩
 | k + 1 => by
  obtain ⟨ih0, ih1, ih2⟩ := spec_l09Doubling.mono_l k
  refine ⟨?_, ?_, ?_⟩
  ·intro y0 y1
   unfold spec_l09Doubling.l0
   repeat' first
   | (with_reducible exact ih0 _ _)
   | (with_reducible exact ih1 _ _ _ _)
   | (with_reducible exact spec_l09Square.mono _ _ _)
   | (with_reducible exact LeO.refl _)
   | (with_reducible exact LeO.none _)
   | (with_reducible refine LeO.ite ?_ ?_)
   | (with_reducible refine LeO.bind ?_ (fun _ => ?_))
  ·intro y0 y1 y2 y3
   unfold spec_l09Doubling.l1
   repeat' first
   | (with_reducible exact ih0 _ _)
   | (with_reducible exact ih2 _ _ _ _ _)
   | (with_reducible exact LeO.refl _)
   | (with_reducible exact LeO.none _)
   | (with_reducible refine LeO.ite ?_ ?_)
   | (with_reducible refine LeO.bind ?_ (fun _ => ?_))
  ·intro y0 y1 y2 y3 y4
   unfold spec_l09Doubling.l2
   repeat' first
   | (with_reducible exact ih1 _ _ _ _)
   | (with_reducible exact ih2 _ _ _ _ _)
   | (with_reducible exact LeO.refl _)
   | (with_reducible exact LeO.none _)
   | (with_reducible refine LeO.ite ?_ ?_)
   | (with_reducible refine LeO.bind ?_ (fun _ => ?_))
theorem spec_l09Doubling.mono : ∀ a0 k, LeO (spec_l09Doubling.f k a0) (spec_l09Doubling.f (k + 1) a0) := by
 intro a0 k
 obtain ⟨ih0, ih1, ih2⟩ := spec_l09Doubling.mono_l k
 unfold spec_l09Doubling.f
 repeat' first
   | (with_reducible exact ih0 _ _)
   | (with_reducible exact spec_l09Square.mono _ _ _)
   | (with_reducible exact LeO.refl _)
   | (with_reducible exact LeO.none _)
   | (with_reducible refine LeO.ite ?_ ?_)
   | (with_reducible refine LeO.bind ?_ (fun _ => ?_))
set_option maxHeartbeats 8000000 in
set_option maxRecDepth 100000 in
theorem spec_l09Doubling.calls (k : Nat) (a0 : Int) (r : List (List Int)) (w : World) (h : spec_l09Doubling.f k a0 = some r) :
  Calls Try.prog 59 #[.int .i64 a0] w fun e w' => ∃ v0_ : Value, e = .returned (v0_) ∧ Kd.S (Kd.slice 2 (Kd.int .i64)) 34 w' w.heap.size (fun _ => True) v0_ r ∧ Below w.heap.size w w' := by
 have HB := Aside0.mk (Below.refl w.heap.size w)
 have H := h
 clear h
 unfold spec_l09Doubling.f at H
 have H' := Aside0.mk H
 clear H
 go_enter Try.func59, Try.ntmps59
 go_wp2_with (first | ((with_reducible refine gate_dst (N := 9) rfl ?_); refine Kd.R_lit (Kd.int .i64) _ 2 ?hg (N := 9) ?hd (xs := ([0] : List Int)) (inner := [.int .i64 0]) (ok := fun k_ => k_ = w.heap.size) (okp := fun k_ => k_ = w.heap.size) ?hr ?hp (fun _ hk => hk) rfl (Below.refl _ _) (Nat.le_refl _) (by simp) ?_; (case hd => rfl); (case hg => rfl); (case hr => first | (go_simp; done) | (go_simp; rfl)); (case hp => exact (Reps.one (show Kd.M (Kd.int .i64) _ _ _ 0 [.int .i64 0] from rfl) (Reps.none _ _))); intro v1 w2 ho3 hb hg_ hnew_; clear hg_ hnew_; have n0_ := Aside0.mk ho3; have n1_ := Aside0.mk (below_step HB.out hb); clear HB hb ho3; have HI := n0_; have HB := n1_; clear n0_ n1_; obtain ⟨Ao, co, eo⟩ := Kd.R_slice HI.out; subst eo) | ((with_reducible refine gate_dst (N := 10) rfl ?_); refine Kd.S_lits (Kd.slice 2 (Kd.int .i64)) w.heap.size 34 ?hg2 (N := 10) ?hd2 (xs := [([0] : List Int)]) (inner := [.slice Ao ([0] : List Int).length co]) (ok := fun _ => True) (fun j k => j = 0 ∧ k = w.heap.size) ?hr2 rfl ?hp2 (fun i j k h1 h2 => h1.1.trans h2.1.symm) (fun _ _ _ => trivial) trivial HB.out (below_size HB.out) (by simp) ?_; (case hd2 => rfl); (case hg2 => rfl); (case hr2 => first | (go_simp; done) | (go_simp; rfl)); (case hp2 => (intro j x hj; cases j with | zero => (cases hj; exact ⟨_, rfl, Kd.R_mono HI.out (fun k_ h_ => ⟨rfl, h_⟩)⟩) | succ j => (simp at hj))); intro v1 w5 ho6 hb hg_ hnew_; clear hg_ hnew_; have n0_ := Aside0.mk ho6; have n1_ := Aside0.mk hb; clear HB HI hb ho6; have HO := n0_; have HB := n1_; clear n0_ n1_; obtain ⟨Am, cm, em⟩ := Kd.S_slice HO.out; subst em))
 go_loopg [0, 3] k (fun kq v0 v3 w' => ∃ (A : Option Addr) (c : Nat) (xs : List (List Int)) (x : Int), v3 = .slice A xs.length c ∧ v0 = .int .i64 x ∧ Aside0 (spec_l09Doubling.l0 kq x xs = some r) ∧ Aside0 (kq ≤ k) ∧ Aside0 (Kd.S (Kd.slice 2 (Kd.int .i64)) 34 w' w.heap.size (fun _ => True) (.slice A xs.length c) xs) ∧ Aside0 (Below w.heap.size w w'))
 case atStart => exact ⟨_, _, [[0]], a0, rfl, rfl, H', ⟨Nat.le_refl _⟩, HO, HB⟩
 case round =>
  clear H' HO HB
  obtain ⟨A, c, xs, x, rfl, rfl, HA, HK, HO, HB⟩ := hrel
  cases gk with
  | zero => exact absurd HA.out (by simp [spec_l09Doubling.l0])
  | succ k1 =>
   have H := HA.out
   clear HA
   simp only [spec_l09Doubling.l0] at H
   by_cases c3 : 0 < x
   ·rw [if_pos c3] at H
    have c3b0 : decide (0 < x) = true := decide_eq_true c3
    clear c3
    replace H := Option.bind_eq_some_iff.mp H
    obtain ⟨nx, A3, H⟩ := H
    have A30 := Aside0.mk A3
    have H' := Aside0.mk H
    have HR := Aside0.mk (Kd.S_reads' HO.out).2.2
    have BB := HB
    clear A3 H HB
    have HB := Aside0.mk (Below.refl wr.heap.size wr)
    go_wp2_with (first | ((with_reducible refine gate_callee (f := 90) rfl ?_); refine goesL_ (some 21) rfl rfl Try.func90 (by kernel_rfl) rfl #[.int .i64 (wrap64 (2 * (xs.length : Int))), .int .i64 (wrap64 (2 * (xs.length : Int)))] rfl (by (try simp only [List.map_toArray, List.map_cons, List.map_nil]); first | done | rfl) ?_; (with_reducible refine (spec_l09Square.calls k1 _ _ nx _ A30.out).mono ?_); rintro e w3 ⟨v0, rfl, ho0, hb⟩; refine ⟨_, rfl, ?_⟩; have n0_ := Aside0.mk (Kd.S_lower ho0 (below_size HB.out)); have n1_ := Aside0.mk (below_step HB.out hb); clear HB hb ho0; have HN := n0_; have HB := n1_; clear n0_ n1_; obtain ⟨An, cn, en⟩ := Kd.S_slice HN.out; subst en))
    clear A30 HO c3b0
    obtain ⟨wo, rfl⟩ : ∃ wo : World, wo = wr := ⟨_, rfl⟩
    go_loopg [6] k1 (fun kq v27 w' => ∃ (ys : List (List Int)) (i : Int), v27 = .int .i64 i ∧ Aside0 (spec_l09Doubling.l1 kq x xs ys i = some r) ∧ Aside0 (kq ≤ k1) ∧ Aside0 (ys.length = nx.length) ∧ Aside0 (Kd.S (Kd.slice 2 (Kd.int .i64)) 34 w' wo.heap.size (fun _ => True) (.slice An nx.length cn) ys) ∧ Aside0 (Below wo.heap.size wo w'))
    case atStart => exact ⟨nx, 0, rfl, H', ⟨Nat.le_refl _⟩, ⟨rfl⟩, HN, HB⟩
    case round =>
     clear H' HN HB
     obtain ⟨ys, i, rfl, HA, HK1, HY, HN, HB⟩ := hrel
     cases gk with
     | zero => exact absurd HA.out (by simp [spec_l09Doubling.l1])
     | succ k2 =>
      have H := HA.out
      clear HA
      simp only [spec_l09Doubling.l1] at H
      by_cases c4 : i < (xs.length : Int)
      ·rw [if_pos c4] at H
       have H' := Aside0.mk H
       have c4b0 : decide (i < (xs.length : Int)) = true := decide_eq_true c4
       clear H c4
       go_wp2
       clear c4b0
       go_loopg [7] k2 (fun kq v34 w' => ∃ (zs : List (List Int)) (y : Int), v34 = .int .i64 y ∧ Aside0 (spec_l09Doubling.l2 kq x xs zs i y = some r) ∧ Aside0 (kq ≤ k2) ∧ Aside0 (zs.length = nx.length) ∧ Aside0 (Kd.S (Kd.slice 2 (Kd.int .i64)) 34 w' wo.heap.size (fun _ => True) (.slice An nx.length cn) zs) ∧ Aside0 (Below wo.heap.size wo w'))
       case atStart => exact ⟨ys, 0, rfl, H', ⟨Nat.le_refl _⟩, HY, HN, HB⟩
       case round =>
        clear H' HN HB HY
        obtain ⟨zs, y, rfl, HA, HK2, HY, HN, HB⟩ := hrel
        cases gk with
        | zero => exact absurd HA.out (by simp [spec_l09Doubling.l2])
        | succ k3 =>
         have H := HA.out
         clear HA
         simp only [spec_l09Doubling.l2] at H
         by_cases c6 : y < (xs.length : Int)
         ·rw [if_pos c6] at H
          by_cases c7 : 0 ≤ i
          ·rw [if_pos c7] at H
           by_cases c8 : i < (xs.length : Int)
           ·rw [if_pos c8] at H
            by_cases c9 : 0 ≤ y
            ·rw [if_pos c9] at H
             by_cases c10 : y < ((rda xs i).length : Int)
             ·rw [if_pos c10] at H
              replace H := Option.bind_eq_some_iff.mp H
              obtain ⟨n1, P1, H⟩ := H
              replace H := Option.bind_eq_some_iff.mp H
              obtain ⟨n2, P2, H⟩ := H
              replace H := Option.bind_eq_some_iff.mp H
              obtain ⟨n3, P3, H⟩ := H
              replace H := Option.bind_eq_some_iff.mp H
              obtain ⟨n4, P4, H⟩ := H
              have H' := Aside0.mk H
              clear H
              obtain ⟨ad, Ar, cr, e1, hx, hl, hi⟩ := at_rda HR.out i c7 c8
              obtain ⟨adr, er, hr⟩ := Kd.at_int hi y c9 c10
              cases er
              cases e1
              replace hx := (HB.out.cell (World.block_lt_of_cell? wo _ hx)).trans hx
              replace hr := (HB.out.cell (World.block_lt_of_cell? wo _ hr)).trans hr
              clear hi hl
              obtain ⟨a1, b1, d1, e1, f1⟩ := put2_some P1
              obtain ⟨g1, q1, cq1, eA1, hnl1, hg1, hc1, hf1, hq1, hl1, hgl1, htr1, hne1, hS1⟩ := rows_at HN.out (i) (y) a1 b1 d1 e1
              replace hS1 := hS1 (wrap64 (4 * rd (rda xs i) y))
              rw [← f1] at hS1
              have hB1 := Below.setCell HB.out (p := ⟨q1, (y).toNat, none⟩) hq1 (.int .i64 (wrap64 (4 * rd (rda xs i) y)))
              obtain ⟨W1, hW1⟩ : ∃ W_ : World, wr.setCell ⟨q1, (y).toNat, none⟩ (.int .i64 (wrap64 (4 * rd (rda xs i) y))) = W_ := ⟨_, rfl⟩
              rw [hW1] at hS1 hB1
              rw [← hnl1] at b1
              have F1 := Aside0.mk f1
              clear f1 hnl1 htr1 hl1 hgl1 hq1 hne1 P1
              obtain ⟨a2, b2, d2, e2, f2⟩ := put2_some P2
              obtain ⟨g2, q2, cq2, eA2, hnl2, hg2, hc2, hf2, hq2, hl2, hgl2, htr2, hne2, hS2⟩ := rows_at hS1 (i) (wrap64 (y + (xs.length : Int))) a2 b2 d2 e2
              replace hS2 := hS2 (wrap64 (wrap64 (4 * rd (rda xs i) y) + 2))
              rw [← f2] at hS2
              have hB2 := Below.setCell hB1 (p := ⟨q2, (wrap64 (y + (xs.length : Int))).toNat, none⟩) hq2 (.int .i64 (wrap64 (wrap64 (4 * rd (rda xs i) y) + 2)))
              obtain ⟨W2, hW2⟩ : ∃ W_ : World, W1.setCell ⟨q2, (wrap64 (y + (xs.length : Int))).toNat, none⟩ (.int .i64 (wrap64 (wrap64 (4 * rd (rda xs i) y) + 2))) = W_ := ⟨_, rfl⟩
              rw [hW2] at hS2 hB2
              rw [← hnl2] at b2
              have F2 := Aside0.mk f2
              clear f2 hnl2 htr2 hl2 hgl2 hq2 hne2 P2
              obtain ⟨a3, b3, d3, e3, f3⟩ := put2_some P3
              obtain ⟨g3, q3, cq3, eA3, hnl3, hg3, hc3, hf3, hq3, hl3, hgl3, htr3, hne3, hS3⟩ := rows_at hS2 (wrap64 (i + (xs.length : Int))) (y) a3 b3 d3 e3
              replace hS3 := hS3 (wrap64 (wrap64 (4 * rd (rda xs i) y) + 3))
              rw [← f3] at hS3
              have hB3 := Below.setCell hB2 (p := ⟨q3, (y).toNat, none⟩) hq3 (.int .i64 (wrap64 (wrap64 (4 * rd (rda xs i) y) + 3)))
              obtain ⟨W3, hW3⟩ : ∃ W_ : World, W2.setCell ⟨q3, (y).toNat, none⟩ (.int .i64 (wrap64 (wrap64 (4 * rd (rda xs i) y) + 3))) = W_ := ⟨_, rfl⟩
              rw [hW3] at hS3 hB3
              rw [← hnl3] at b3
              have F3 := Aside0.mk f3
              clear f3 hnl3 htr3 hl3 hgl3 hq3 hne3 P3
              obtain ⟨a4, b4, d4, e4, f4⟩ := put2_some P4
              obtain ⟨g4, q4, cq4, eA4, hnl4, hg4, hc4, hf4, hq4, hl4, hgl4, htr4, hne4, hS4⟩ := rows_at hS3 (wrap64 (i + (xs.length : Int))) (wrap64 (y + (xs.length : Int))) a4 b4 d4 e4
              replace hS4 := hS4 (wrap64 (wrap64 (4 * rd (rda xs i) y) + 1))
              rw [← f4] at hS4
              have hB4 := Below.setCell hB3 (p := ⟨q4, (wrap64 (y + (xs.length : Int))).toNat, none⟩) hq4 (.int .i64 (wrap64 (wrap64 (4 * rd (rda xs i) y) + 1)))
              obtain ⟨W4, hW4⟩ : ∃ W_ : World, W3.setCell ⟨q4, (wrap64 (y + (xs.length : Int))).toNat, none⟩ (.int .i64 (wrap64 (wrap64 (4 * rd (rda xs i) y) + 1))) = W_ := ⟨_, rfl⟩
              rw [hW4] at hS4 hB4
              rw [← hnl4] at b4
              have F4 := Aside0.mk f4
              clear f4 hnl4 htr4 hl4 hgl4 hq4 hne4 P4
              cases eA1
              cases eA2
              cases eA3
              cases eA4
              have hS5 := Aside0.mk hS4
              have hB5 := Aside0.mk hB4
              have HZ := HY
              clear hS1 hS2 hS3 hS4 hB1 hB2 hB3 hB4 HN HB HY
              have z0 : decide (0 ≤ i) = true := decide_eq_true c7
              have y0 := eq_true c7
              have z1 : decide (i < (xs.length : Int)) = true := decide_eq_true c8
              have y1 := eq_true c8
              have z2 : decide (0 ≤ y) = true := decide_eq_true c9
              have y2 := eq_true c9
              have z3 : decide (y < ((rda xs i).length : Int)) = true := decide_eq_true c10
              have y3 := eq_true c10
              have z4 : decide (y < (xs.length : Int)) = true := decide_eq_true c6
              have y4 := eq_true c6
              have z6 : decide (i < (nx.length : Int)) = true := decide_eq_true b1
              have y6 := eq_true b1
              have z8 : decide (y < ((rda zs (i)).length : Int)) = true := decide_eq_true e1
              have y8 := eq_true e1
              have z11 : decide (0 ≤ wrap64 (y + (xs.length : Int))) = true := decide_eq_true d2
              have y11 := eq_true d2
              have z12 : decide (wrap64 (y + (xs.length : Int)) < ((rda n1 (i)).length : Int)) = true := decide_eq_true e2
              have y12 := eq_true e2
              have z13 : decide (0 ≤ wrap64 (i + (xs.length : Int))) = true := decide_eq_true a3
              have y13 := eq_true a3
              have z14 : decide (wrap64 (i + (xs.length : Int)) < (nx.length : Int)) = true := decide_eq_true b3
              have y14 := eq_true b3
              have z16 : decide (y < ((rda n2 (wrap64 (i + (xs.length : Int)))).length : Int)) = true := decide_eq_true e3
              have y16 := eq_true e3
              have z20 : decide (wrap64 (y + (xs.length : Int)) < ((rda n3 (wrap64 (i + (xs.length : Int)))).length : Int)) = true := decide_eq_true e4
              have y20 := eq_true e4
              clear c7 c8 c9 c10 c6 a1 b1 d1 e1 a2 b2 d2 e2 a3 b3 d3 e3 a4 b4 d4 e4
              go_wp2
              go_roundg k3
              case measure => have := HK1.out; have := HK2.out; omega
              case rel => exact ⟨n4, wrap64 (y + 1), rfl, H', ⟨by have := HK1.out; have := HK2.out; omega⟩, ⟨by have := HZ.out; rw [F4.out, F3.out, F2.out, F1.out]; simp only [List.length_set]; exact this⟩, hS5, hB5⟩
             ·rw [if_neg c10] at H
              exact absurd H (by simp)
            ·rw [if_neg c9] at H
             exact absurd H (by simp)
           ·rw [if_neg c8] at H
            exact absurd H (by simp)
          ·rw [if_neg c7] at H
           exact absurd H (by simp)
         ·rw [if_neg c6] at H
          have c6b0 : decide (y < (xs.length : Int)) = false := decide_eq_false c6
          clear c6
          have H' := Aside0.mk H
          clear H
          go_wp2
          go_roundg k3
          case measure => have := HK1.out; have := HK2.out; omega
          case rel => exact ⟨zs, wrap64 (i + 1), rfl, H', ⟨by have := HK1.out; have := HK2.out; omega⟩, HY, HN, HB⟩
      ·rw [if_neg c4] at H
       have c4b0 : decide (i < (xs.length : Int)) = false := decide_eq_false c4
       clear c4
       have H' := Aside0.mk H
       clear H
       go_wp2
       go_roundg k2
       case measure => have := HK.out; have := HK1.out; omega
       case rel => exact ⟨An, cn, ys, wrap64 (x - 1), by rw [HY.out], rfl, H', ⟨by have := HK.out; have := HK1.out; omega⟩, ⟨by rw [HY.out]; exact Kd.S_lower HN.out (below_size BB.out)⟩, ⟨below_step BB.out HB.out⟩⟩
   ·rw [if_neg c3] at H
    have c3b0 : decide (0 < x) = false := decide_eq_false c3
    clear c3
    have H2 := Option.some.inj H
    subst H2
    clear H
    go_wp2
    go_ret
    exact ⟨_, rfl, HO.out, HB.out⟩
end Go.Proofs.Ytckonklpdepgoaa.Q
namespace Go.Proofs.Ytckonklpdepgoaa.Q
open Go.RowKit Go.Proofs.YtckonklpdepgoaaW.PrintWords Go.Proofs.YtckonklpdepgoaaW.PrintLast Go.Proofs.YtckonklpdepgoaaW.PrintMore
attribute [local go_sem] max2_int min2_int max_two min_two max_three min_three max_four min_four   -- for this text's walks alone
set_option linter.unusedVariables false
set_option linter.unusedSimpArgs false
def spec_DoublingMask.f (k : Nat) (a0 : Int) : Option ((List (List Int)) × Bool) := (spec_l09Order.f a0).bind fun t111 => (if t111 = true then ((spec_l09Doubling.f k a0).bind fun t112 => (some (t112, true))) else (some (([] : List (List Int)), false)))
theorem spec_DoublingMask.mono : ∀ a0 k, LeO (spec_DoublingMask.f k a0) (spec_DoublingMask.f (k + 1) a0) := by
 intro a0 k
 unfold spec_DoublingMask.f
 repeat' first
   | (with_reducible exact spec_l09Doubling.mono _ _)
   | (with_reducible exact LeO.refl _)
   | (with_reducible exact LeO.none _)
   | (with_reducible refine LeO.ite ?_ ?_)
   | (with_reducible refine LeO.bind ?_ (fun _ => ?_))
   | exact spec_l09Doubling.mono _ _
   | exact LeO.none _
   | refine LeO.ite ?_ ?_
   | refine LeO.bind ?_ (fun _ => ?_)
set_option maxHeartbeats 8000000 in
set_option maxRecDepth 100000 in
theorem spec_DoublingMask.calls (k : Nat) (a0 : Int) (r1 : List (List Int)) (r2 : Bool) (w : World) (h : spec_DoublingMask.f k a0 = some (r1, r2)) :
  Calls Try.prog 15 #[.int .i64 a0] w fun e w' => ∃ v0_ : Value, e = .returned (.tuple #[v0_, .bool r2]) ∧ Kd.S (Kd.slice 2 (Kd.int .i64)) 34 w' w.heap.size (fun _ => True) v0_ r1 ∧ Below w.heap.size w w' := by
 have HB := Aside0.mk (Below.refl w.heap.size w)
 have H : ((spec_l09Order.f a0).bind fun t111 => (if t111 = true then ((spec_l09Doubling.f k a0).bind fun t112 => (some (t112, true))) else (some (([] : List (List Int)), false)))) = some (r1, r2) := h
 clear h
 replace H := Option.bind_eq_some_iff.mp H
 obtain ⟨t111, A20, H⟩ := H
 replace H : (if t111 = true then ((spec_l09Doubling.f k a0).bind fun t112 => (some (t112, true))) else (some (([] : List (List Int)), false))) = some (r1, r2) := H
 have A2 := Aside0.mk A20
 clear A20
 by_cases c3 : t111 = true
 ·subst c3
  have H1 : ((spec_l09Doubling.f k a0).bind fun t112 => (some (t112, true))) = some (r1, r2) := by rw [if_pos rfl] at H; exact H
  clear H
  have H := H1
  clear H1
  replace H := Option.bind_eq_some_iff.mp H
  obtain ⟨t112, A40, H⟩ := H
  replace H : (some (t112, true)) = some (r1, r2) := H
  have A4 := Aside0.mk A40
  clear A40
  simp only [Option.some.injEq, Prod.mk.injEq] at H
  obtain ⟨rfl, rfl⟩ := H
  go_enter Try.func15, Try.ntmps15
  go_wp2_with (first | ((with_reducible refine gate_callee (f := 58) rfl ?_); refine goesL_ (some 5) rfl rfl Try.func58 (by kernel_rfl) rfl #[.int .i64 a0] rfl (by (try simp only [List.map_toArray, List.map_cons, List.map_nil]); first | done | rfl | (simp only [List.length_drop, List.length_take]; rfl) | (simp only [show ∀ (n_ : Nat) (b_ : Int), Int.tdiv (n_ : Int) b_ = (n_ : Int) / b_ from fun n_ b_ => Int.tdiv_eq_ediv_of_nonneg (Int.natCast_nonneg n_)]; rfl)) ?_; (with_reducible refine (spec_l09Order.calls a0 true _ A2.out).mono ?_); rintro e w' ⟨rfl, ⟨nd, rfl⟩⟩; refine ⟨_, rfl, ?_⟩) | ((with_reducible refine gate_callee (f := 59) rfl ?_); refine goesL_ (some 8) rfl rfl Try.func59 (by kernel_rfl) rfl #[.int .i64 a0] rfl (by (try simp only [List.map_toArray, List.map_cons, List.map_nil]); first | done | rfl | (simp only [List.length_drop, List.length_take]; rfl) | (simp only [show ∀ (n_ : Nat) (b_ : Int), Int.tdiv (n_ : Int) b_ = (n_ : Int) / b_ from fun n_ b_ => Int.tdiv_eq_ediv_of_nonneg (Int.natCast_nonneg n_)]; rfl)) ?_; (with_reducible refine (spec_l09Doubling.calls k a0 t112 _ A4.out).mono ?_); rintro e w5 ⟨v113, rfl, ho0, hb⟩; refine ⟨_, rfl, ?_⟩; have n0_ := Aside0.mk (Kd.S_lower ho0 (below_size (by repeat (first | (with_reducible first | exact HB.out | apply below_alloc | apply pw_below_drewN | apply below_drew1) | exact HB.out)))); have n1_ := Aside0.mk (below_step (by repeat (first | (with_reducible first | exact HB.out | apply below_alloc | apply pw_below_drewN | apply below_drew1) | exact HB.out)) hb); clear HB; have HO114 := n0_; have HB := n1_; clear n0_ n1_; (try clear hb); (try clear hb2); (try clear hk); (try clear hi); (try clear ho0)))
  go_ret2
  exact ⟨_, by first | rfl | (simp [errW_none, errW_some] <;> rfl) | (simp [*, errW_none, errW_some] <;> rfl), by (with_reducible repeat (first | apply Kd.S_alloc | apply Kd.S_drewN | apply Kd.S_drew)); exact HO114.out, by repeat (first | (with_reducible first | exact HB.out | apply below_alloc | apply pw_below_drewN | apply below_drew1) | exact HB.out)⟩
 ·replace c3 := Bool.eq_false_iff.mpr c3
  subst c3
  have H1 : (some (([] : List (List Int)), false)) = some (r1, r2) := by rw [if_neg (show ¬ (false = true) by decide)] at H; exact H
  clear H
  have H := H1
  clear H1
  simp only [Option.some.injEq, Prod.mk.injEq] at H
  obtain ⟨rfl, rfl⟩ := H
  go_enter Try.func15, Try.ntmps15
  go_wp2_with (first | ((with_reducible refine gate_callee (f := 58) rfl ?_); refine goesL_ (some 5) rfl rfl Try.func58 (by kernel_rfl) rfl #[.int .i64 a0] rfl (by (try simp only [List.map_toArray, List.map_cons, List.map_nil]); first | done | rfl | (simp only [List.length_drop, List.length_take]; rfl) | (simp only [show ∀ (n_ : Nat) (b_ : Int), Int.tdiv (n_ : Int) b_ = (n_ : Int) / b_ from fun n_ b_ => Int.tdiv_eq_ediv_of_nonneg (Int.natCast_nonneg n_)]; rfl)) ?_; (with_reducible refine (spec_l09Order.calls a0 false _ A2.out).mono ?_); rintro e w' ⟨rfl, ⟨nd, rfl⟩⟩; refine ⟨_, rfl, ?_⟩))
  go_ret2
  exact ⟨_, by first | rfl | (simp [errW_none, errW_some] <;> rfl) | (simp [*, errW_none, errW_some] <;> rfl), by first | exact Kd.S_nil _ _ _ _ _ | exact Kd.N_nil _ _ _ _ _ | exact Kd.V_nil _ _ _ _ _ | exact Kd.Q_nil _ _ _ _ _ | exact Kd.R_nil _ _ _ _ _, by repeat (first | (with_reducible first | exact HB.out | apply below_alloc | apply pw_below_drewN | apply below_drew1) | exact HB.out)⟩
def impl_within.f (a0 : Int) (a1 : Int) (a2 : Int) : Option (Bool) := if a1 ≤ a0 then (some (decide (a0 ≤ a2))) else (some false)
set_option maxHeartbeats 8000000 in
set_option maxRecDepth 100000 in
theorem impl_within.calls (a0 : Int) (a1 : Int) (a2 : Int) (r : Bool) (w : World) (h : impl_within.f a0 a1 a2 = some r) :
  Calls Try.prog 60 #[.int .i64 a0, .int .i64 a1, .int .i64 a2] w fun e w' => e = .returned (.bool r) ∧ Drawn0 w w' := by
 have H : (if a1 ≤ a0 then (some (decide (a0 ≤ a2))) else (some false)) = some r := h
 clear h
 by_cases c4 : a1 ≤ a0
 ·rw [if_pos c4] at H
  have c4b0 : decide (a1 ≤ a0) = true := decide_eq_true c4
  clear c4
  obtain rfl := Option.some.inj H
  go_enter Try.func60, Try.ntmps60
  go_wp2
  go_ret
  exact ⟨by first | rfl | (simp; done) | (simp [*]; done), by repeat (first | exact Drawn0.refl _ | apply Drawn0.step)⟩
 ·rw [if_neg c4] at H
  have c4b0 : decide (a1 ≤ a0) = false := decide_eq_false c4
  clear c4
  obtain rfl := Option.some.inj H
  go_enter Try.func60, Try.ntmps60
  go_wp2
  go_ret
  exact ⟨by first | rfl | (simp; done) | (simp [*]; done), by repeat (first | exact Drawn0.refl _ | apply Drawn0.step)⟩
end Go.Proofs.Ytckonklpdepgoaa.Q
namespace Go.Proofs.Ytckonklpdepgoaa.Q
open Go.RowKit Go.Proofs.YtckonklpdepgoaaW.PrintWords Go.Proofs.YtckonklpdepgoaaW.PrintLast Go.Proofs.YtckonklpdepgoaaW.PrintMore
attribute [local go_sem] max2_int min2_int max_two min_two max_three min_three max_four min_four   -- for this text's walks alone
set_option linter.unusedVariables false
set_option linter.unusedSimpArgs false
def impl_noughts.l0 : Nat → Int → List (List Int) → Int → Int → Option ((List (List Int)))
 | 0, _, _, _, _ => none
 | k + 1, x1, x5, x10, x11 => if x11 < x10 then (if 0 ≤ x1 then (if (x1 : Int).toNat ≤ 35184372088832 then (if 0 ≤ x11 then (if x11 < (x5.length : Int) then (impl_noughts.l0 k x1 (x5.set (x11 : Int).toNat (List.replicate (x1 : Int).toNat 0)) x10 (wrap64 (x11 + 1))) else (none)) else (none)) else (none)) else (none)) else (some x5)
def impl_noughts.f (k : Nat) (a0 : Int) (a1 : Int) : Option ((List (List Int))) := if 0 ≤ a0 then (if (a0 : Int).toNat ≤ 11728124029610 then ((some (List.replicate (a0 : Int).toNat [] : List (List Int))).bind fun y115 => (impl_noughts.l0 k a1 y115 (y115.length : Int) 0)) else (none)) else (none)
theorem impl_noughts.mono_l : ∀ k, (∀ y0 y1 y2 y3, LeO (impl_noughts.l0 k y0 y1 y2 y3) (impl_noughts.l0 (k + 1) y0 y1 y2 y3))
 | 0 => fun _ _ _ _ r h => by simp [impl_noughts.l0] at h
 | k + 1 => by
  have ih0 := impl_noughts.mono_l k
  ·intro y0 y1 y2 y3
   unfold impl_noughts.l0
   repeat' first
   | (with_reducible exact ih0 _ _ _ _)
   | (with_reducible exact LeO.refl _)
   | (with_reducible exact LeO.none _)
   | (with_reducible refine LeO.ite ?_ ?_)
   | (with_reducible refine LeO.bind ?_ (fun _ => ?_))
   | exact ih0 _ _ _ _
   | exact LeO.none _
   | refine LeO.ite ?_ ?_
   | refine LeO.bind ?_ (fun _ => ?_)
theorem impl_noughts.mono : ∀ a0 a1 k, LeO (impl_noughts.f k a0 a1) (impl_noughts.f (k + 1) a0 a1) := by
 intro a0 a1 k
 have ih0 := impl_noughts.mono_l k
 unfold impl_noughts.f
 repeat' first
   | (with_reducible exact ih0 _ _ _ _)
   | (with_reducible exact LeO.refl _)
   | (with_reducible exact LeO.none _)
   | (with_reducible refine LeO.ite ?_ ?_)
   | (with_reducible refine LeO.bind ?_ (fun _ => ?_))
   | exact ih0 _ _ _ _
   | exact LeO.none _
   | refine LeO.ite ?_ ?_
   | refine LeO.bind ?_ (fun _ => ?_)
set_option maxHeartbeats 8000000 in
set_option maxRecDepth 100000 in
theorem impl_noughts.calls (k : Nat) (a0 : Int) (a1 : Int) (r : List (List Int)) (w : World) (h : impl_noughts.f k a0 a1 = some r) :
  Calls Try.prog 61 #[.int .i64 a0, .int .i64 a1] w fun e w' => ∃ v0_ : Value, e = .returned (v0_) ∧ Kd.S (Kd.slice 2 (Kd.int .i64)) 34 w' w.heap.size (fun _ => True) v0_ r ∧ Below w.heap.size w w' := by
 have HB := Aside0.mk (Below.refl w.heap.size w)
 have H : (if 0 ≤ a0 then (if (a0 : Int).toNat ≤ 11728124029610 then ((some (List.replicate (a0 : Int).toNat [] : List (List Int))).bind fun y115 => (impl_noughts.l0 k a1 y115 (y115.length : Int) 0)) else (none)) else (none)) = some r := h
 clear h
 by_cases c3 : 0 ≤ a0
 ·rw [if_pos c3] at H
  have c3b0 := eq_true c3
  have c3b1 : decide (0 ≤ a0) = true := decide_eq_true c3
  clear c3
  by_cases c4 : (a0 : Int).toNat ≤ 11728124029610
  ·rw [if_pos c4] at H
   have c4b0 := eq_true c4
   have c4b1 : decide ((a0 : Int).toNat ≤ 11728124029610) = true := decide_eq_true c4
   clear c4
   obtain ⟨y115, hy115⟩ : ∃ y_ : List (List Int), y_ = (List.replicate (a0 : Int).toNat []) := ⟨_, rfl⟩
   replace H : (impl_noughts.l0 k a1 y115 (y115.length : Int) 0) = some r := by first | (rw [hy115]; with_reducible exact H) | (have H2_ := (Option.bind_some _ _).symm.trans H; rw [hy115]; with_reducible exact H2_) | (have H2_ := (Option.bind_some _ _).symm.trans H; with_reducible exact H2_) | with_reducible exact H | (rw [hy115]; exact H) | exact H
   have Ny115 := Aside0.mk hy115
   clear hy115
   have H' := Aside0.mk H
   clear H
   go_enter Try.func61, Try.ntmps61
   go_wp2_with (first | ((with_reducible refine gate_dst (N := 8) rfl ?_); refine Kd.S_make (Kd.slice 2 (Kd.int .i64)) _ 34 rfl (N := 8) rfl 22 _ _ rfl a0 rfl rfl Try.underlying22 (.slice none 0 0) 24 info34 rfl (by decide) (by omega) [] (ok := fun _ => True) (okp := fun _ => True) ⟨_, rfl, Kd.R_nil _ _ _ _ _⟩ (fun _ hk => hk) trivial (of_decide_eq_true (by first | (with_reducible assumption) | assumption)) (Nat.le_trans (Nat.mul_le_mul_right _ (of_decide_eq_true (by first | (with_reducible assumption) | assumption) : a0.toNat ≤ 11728124029610)) (by omega)) (Below.refl _ _) (Nat.le_refl _) ?_; intro v116 w5 ho6 hb hg_ hnew_; clear hg_ hnew_; (first | rw [← Ny115.out] at ho6 | (simp only [Int.reduceToNat] at ho6; rw [← Ny115.out] at ho6)); have n0_ := Aside0.mk (Kd.S_lower ho6 (below_size (by repeat (first | (with_reducible first | exact HB.out | apply below_alloc | apply pw_below_drewN | apply below_drew1) | exact HB.out)))); have n1_ := Aside0.mk (below_step (by repeat (first | (with_reducible first | exact HB.out | apply below_alloc | apply pw_below_drewN | apply below_drew1) | exact HB.out)) hb); clear HB; have HO117 := n0_; have HB := n1_; clear n0_ n1_; clear hb ho6; obtain ⟨Ao7, co7, eo7⟩ := Kd.S_slice HO117.out; subst eo7))
   go_loopg [11] k (fun kq v11 w' => ∃ (x5_1 : List (List Int)) (x11_1 : Int), v11 = .int .i64 x11_1 ∧ Aside0 (impl_noughts.l0 kq a1 x5_1 (y115.length : Int) x11_1 = some r) ∧ Aside0 (kq ≤ k) ∧ Aside0 (Kd.S (Kd.slice 2 (Kd.int .i64)) 34 w' w.heap.size (fun _ => True) (.slice Ao7 y115.length co7) x5_1) ∧ Aside0 (Below w.heap.size w w'))
   case atStart => exact ⟨(y115), (0), (by first | rfl | (simp; done) | (simp [*]; done)), H', ⟨Nat.le_refl _⟩, ⟨by (with_reducible repeat (first | apply Kd.S_alloc | apply Kd.S_drewN | apply Kd.S_drew)); exact HO117.out⟩, ⟨by repeat (first | (with_reducible first | exact HB.out | apply below_alloc | apply pw_below_drewN | apply below_drew1) | exact HB.out)⟩⟩
   case round =>
    clear H'
    try clear p2
    try clear c3
    try clear c3b0
    try clear c3b1
    try clear c4
    try clear c4b0
    try clear c4b1
    try clear c6
    obtain ⟨x5_1, x11_1, rfl, HA, HK1, HO_5, HB⟩ := hrel
    have hl5_1 := (Kd.S_reads' HO_5.out).1
    rw [hl5_1] at HO_5
    (try simp only [hl5_1])
    cases gk with
    | zero => exact absurd HA.out (by simp [impl_noughts.l0])
    | succ k1 =>
     have H := HA.out
     clear HA
     simp only [impl_noughts.l0] at H
     by_cases c8 : x11_1 < (y115.length : Int)
     ·rw [if_pos c8] at H
      have c8b0 : decide (x11_1 < (y115.length : Int)) = true := decide_eq_true c8
      clear c8
      by_cases c9 : 0 ≤ a1
      ·rw [if_pos c9] at H
       have c9b0 := eq_true c9
       have c9b1 : decide (0 ≤ a1) = true := decide_eq_true c9
       clear c9
       by_cases c10 : (a1 : Int).toNat ≤ 35184372088832
       ·rw [if_pos c10] at H
        have c10b0 := eq_true c10
        have c10b1 : decide ((a1 : Int).toNat ≤ 35184372088832) = true := decide_eq_true c10
        clear c10
        obtain ⟨y118, hy118⟩ : ∃ y_ : List Int, y_ = (List.replicate (a1 : Int).toNat 0) := ⟨_, rfl⟩
        replace H : (if 0 ≤ x11_1 then (if x11_1 < (x5_1.length : Int) then (impl_noughts.l0 k1 a1 (x5_1.set (x11_1 : Int).toNat y118) (y115.length : Int) (wrap64 (x11_1 + 1))) else (none)) else (none)) = some r := by first | (rw [hy118]; with_reducible exact H) | (have H2_ := (Option.bind_some _ _).symm.trans H; rw [hy118]; with_reducible exact H2_) | (have H2_ := (Option.bind_some _ _).symm.trans H; with_reducible exact H2_) | with_reducible exact H | (rw [hy118]; exact H) | exact H
        have Ny118 := Aside0.mk hy118
        clear hy118
        by_cases c11 : 0 ≤ x11_1
        ·rw [if_pos c11] at H
         have c11b0 : decide (0 ≤ x11_1) = true := decide_eq_true c11
         clear c11
         by_cases c12 : x11_1 < (x5_1.length : Int)
         ·rw [if_pos c12] at H
          have c12b0 : decide (x11_1 < (x5_1.length : Int)) = true := decide_eq_true c12
          clear c12
          obtain ⟨y121, hy121⟩ : ∃ y_ : List (List Int), y_ = (x5_1.set (x11_1 : Int).toNat y118) := ⟨_, rfl⟩
          replace H : (impl_noughts.l0 k1 a1 y121 (y115.length : Int) (wrap64 (x11_1 + 1))) = some r := by first | (rw [hy121]; with_reducible exact H) | (have H2_ := (Option.bind_some _ _).symm.trans H; rw [hy121]; with_reducible exact H2_) | (have H2_ := (Option.bind_some _ _).symm.trans H; with_reducible exact H2_) | with_reducible exact H | (rw [hy121]; exact H) | exact H
          have Ny121 := Aside0.mk hy121
          clear hy121
          have H' := Aside0.mk H
          clear H
          go_wp2_with (first | ((with_reducible refine gate_dst (N := 17) rfl ?_); refine Kd.R_make (Kd.int .i64) _ 2 rfl (N := 17) rfl 34 _ _ rfl a1 rfl rfl Try.underlying34 (.int .i64 0) 8 info2 rfl (by decide) (by omega) 0 (ok := fun _ => True) (okp := fun _ => True) rfl (fun _ hk => hk) trivial (of_decide_eq_true (by first | (with_reducible assumption) | assumption)) (Nat.le_trans (Nat.mul_le_mul_right _ (of_decide_eq_true (by first | (with_reducible assumption) | assumption) : a1.toNat ≤ 35184372088832)) (by omega)) (Below.refl _ _) (Nat.le_refl _) ?_; intro v119 w14 ho15 hb hg_ hnew_; clear hg_ hnew_; (first | rw [← Ny118.out] at ho15 | (simp only [Int.reduceToNat] at ho15; rw [← Ny118.out] at ho15)); have n0_ := Aside0.mk (Kd.S_elder' (by (with_reducible repeat (first | apply Kd.S_alloc | apply Kd.S_drewN | apply Kd.S_drew)); exact HO_5.out) (Kd.R_base ho15) hb); have n1_ := Aside0.mk (Kd.R_lower ho15 (below_size (by repeat (first | (with_reducible first | exact HB.out | apply below_alloc | apply pw_below_drewN | apply below_drew1) | exact HB.out)))); have n2_ := Aside0.mk (below_step (by repeat (first | (with_reducible first | exact HB.out | apply below_alloc | apply pw_below_drewN | apply below_drew1) | exact HB.out)) hb); clear HO_5; clear HB; have HO_5 := n0_; have HO120 := n1_; have HB := n2_; clear n0_ n1_ n2_; clear hb ho15; have p13 : 0 ≤ (x11_1 : Int) := of_decide_eq_true (by first | (with_reducible assumption) | assumption); have q13 : (x11_1 : Int) < ((x5_1.length : Int) : Int) := of_decide_eq_true (by first | (with_reducible assumption) | assumption); obtain ⟨go13, co13, eo13, gb13, gl13, cl13, HG13⟩ := Kd.S_form HO_5.out (by omega); (first | cases eo13 | (injection eo13 with ea_ en_ ec_; (first | subst ea_ | (injection ea_ with ea_; subst ea_)); subst ec_; clear en_)); have GB13 := Aside0.mk gb13; have GG13 := Aside0.mk HG13; clear gb13 gl13 HG13; obtain ⟨_, ce13, hcl13, hM13, hcc13, hfr13, _, _⟩ := Kd.S_elem HO_5.out [] (x11_1 : Int) p13 q13; obtain ⟨ve13_0, rfl, ge13_0⟩ := (id hM13); have hx13_0 := hcc13 0 _ rfl; have hf13_0 := hfr13 0; (try simp only [show ((Kd.slice 2 (Kd.int .i64))).sz = 1 from rfl, Nat.mul_one, Nat.add_zero] at hx13_0); (try simp only [show ((Kd.slice 2 (Kd.int .i64))).sz = 1 from rfl, Nat.mul_one, Nat.add_zero] at hf13_0); clear hcl13 hcc13 hfr13 hM13; replace p13 := eq_true p13; replace q13 := eq_true q13; obtain ⟨Ao18, co18, eo18⟩ := Kd.R_slice HO120.out; subst eo18; have n_ := Aside0.mk (Kd.S_mono (ok' := (fun k_ => some k_ ≠ (.slice Ao18 y118.length co18 : Value).ownBlock)) HO_5.out (fun k_ hk => hk.2)); clear HO_5; have HO_5 := n_; clear n_; have HX16 := Aside0.mk (show Kd.S (Kd.slice 2 (Kd.int .i64)) 34 w14 w.heap.size (fun k_ => ((fun _ => True)) k_ ∧ ¬ ((fun k_ => some k_ = (.slice Ao18 y118.length co18 : Value).ownBlock)) k_) (.slice (some ⟨go13, 0, none⟩) x5_1.length co7) x5_1 from (by (with_reducible repeat (first | apply Kd.S_alloc | apply Kd.S_drewN | apply Kd.S_drew)); exact Kd.S_mono HO_5.out (fun k_ hk => ⟨trivial, fun e_ => hk e_⟩))); obtain ⟨oki16, ce16, hcl16, hM16, hcc16, hfr16, hoki16, hH16⟩ := Kd.S_elem HX16.out [] (x11_1 : Int) (of_decide_eq_true (by first | (with_reducible assumption) | assumption)) (by have h_ : (x11_1 : Int) < ((x5_1.length : Int) : Int) := of_decide_eq_true (by first | (with_reducible assumption) | assumption); first | exact h_ | (have e_ := (Kd.S_reads' HO_5.out).1; omega) | simpa using h_); obtain ⟨ve16_0, rfl, ge16_0⟩ := (id hM16); have HP16 := Kd.S_seg hH16 (of_decide_eq_true (by first | (with_reducible assumption) | assumption)) (by have h_ : (x11_1 : Int) < ((x5_1.length : Int) : Int) := of_decide_eq_true (by first | (with_reducible assumption) | assumption); first | exact h_ | (have e_ := (Kd.S_reads' HO_5.out).1; omega) | simpa using h_) (seg := [.slice Ao18 y118.length co18]) (j := 0) (show 1 ≤ 1 from by decide) (x' := y118) (Kd.M_row (Kd.R_mono (Kd.R_tight rfl (Kd.R_mono (ok' := fun k_ => ((fun _ => True)) k_ ∧ k_ ≠ go13) (Kd.R_apart' (HO120.out) (Kd.S_typed HO_5.out) (by decide)) (fun k_ hk => ⟨trivial, fun e_ => (hk.2) (by rw [e_]; rfl)⟩))) (fun _ h_ => Or.inr (h_)))) (fun _ hk => hk) (fun k_ hk_ => ((Kd.R_mono (ok' := fun k_ => ((fun _ => True)) k_ ∧ k_ ≠ go13) (Kd.R_apart' (HO120.out) (Kd.S_typed HO_5.out) (by decide)) (fun k_ hk => ⟨trivial, fun e_ => (hk.2) (by rw [e_]; rfl)⟩))).1 k_ hk_.symm); have hx16_0 := hcc16 0 _ rfl; (try simp only [show ((Kd.slice 2 (Kd.int .i64))).sz = 1 from rfl, Nat.mul_one, Nat.add_zero] at hx16_0); have hf16_0 := hfr16 0; (try simp only [show ((Kd.slice 2 (Kd.int .i64))).sz = 1 from rfl, Nat.mul_one, Nat.add_zero] at hf16_0); clear hcl16 hcc16 hfr16 hM16 hoki16 hH16; (try simp only [show ((Kd.slice 2 (Kd.int .i64))).sz = 1 from rfl, Nat.mul_one, Nat.add_zero] at HP16)) | ((with_reducible refine gate_store (t := 34) (p := 18) rfl ?_); refine store_event (t := 34) (p := 18) (v := ?vo_w17) (w1 := (w14.setCell ⟨go13, (x11_1 : Int).toNat, none⟩ (.slice Ao18 y118.length co18))) ?hg ?ho ?hn ?hr ?_; (case ho => rfl); (case hg => rfl); (case hn => rfl); (case hr => first | (go_simp; done) | (go_simp; rfl)); intro w17 hw; have hg : w14.grownBy w17 (some go13) := (by rw [hw]; exact HP16.2); have hp_ : Kd.S (Kd.slice 2 (Kd.int .i64)) 34 w17 w.heap.size (fun _ => True) (.slice (some ⟨go13, 0, none⟩) x5_1.length co7) y121 := (by rw [hw, Ny121.out]; exact HP16.1); clear HP16; have n0_ := Aside0.mk (hp_); have n1_ := Aside0.mk ((by rw [hw]; exact below_set (HB.out) GB13.out : Below w.heap.size w w17)); clear HO_5; clear HB; clear HO120; have HO_5 := n0_; have HB := n1_; clear n0_ n1_; clear hg hw hp_))
          (try simp only [← hl5_1])
          go_roundg k1
          case measure => have := HK1.out; omega
          case rel => exact ⟨(y121), (wrap64 (x11_1 + 1)), (by first | rfl | (simp; done) | (simp [*]; done)), H', ⟨by have := HK1.out; omega⟩, ⟨by (try simp only [hl5_1]); (with_reducible repeat (first | apply Kd.S_alloc | apply Kd.S_drewN | apply Kd.S_drew)); exact HO_5.out⟩, ⟨by repeat (first | (with_reducible first | exact HB.out | apply below_alloc | apply pw_below_drewN | apply below_drew1) | exact HB.out)⟩⟩
         ·rw [if_neg c12] at H
          exact absurd H (by simp)
        ·rw [if_neg c11] at H
         exact absurd H (by simp)
       ·rw [if_neg c10] at H
        exact absurd H (by simp)
      ·rw [if_neg c9] at H
       exact absurd H (by simp)
     ·rw [if_neg c8] at H
      have c8b0 : decide (x11_1 < (y115.length : Int)) = false := decide_eq_false c8
      try (have c8b0h := c8b0; simp only [hl5_1] at c8b0h)
      clear c8
      obtain rfl := Option.some.inj H
      go_wp2
      go_ret
      exact ⟨_, by first | rfl | (simp [errW_none, errW_some] <;> rfl) | (simp [*, errW_none, errW_some] <;> rfl), by (with_reducible repeat (first | apply Kd.S_alloc | apply Kd.S_drewN | apply Kd.S_drew)); exact HO_5.out, by repeat (first | (with_reducible first | exact HB.out | apply below_alloc | apply pw_below_drewN | apply below_drew1) | exact HB.out)⟩
  ·rw [if_neg c4] at H
   exact absurd H (by simp)
 ·rw [if_neg c3] at H
  exact absurd H (by simp)
end Go.Proofs.Ytckonklpdepgoaa.Q
namespace Go.Proofs.Ytckonklpdepgoaa.Q
open Go.RowKit Go.Proofs.YtckonklpdepgoaaW.PrintWords Go.Proofs.YtckonklpdepgoaaW.PrintLast Go.Proofs.YtckonklpdepgoaaW.PrintMore
attribute [local go_sem] max2_int min2_int max_two min_two max_three min_three max_four min_four   -- for this text's walks alone
set_option linter.unusedVariables false
set_option linter.unusedSimpArgs false
mutual
def impl_DoublingMask.l0 : Nat → Int → List (List Int) → Int → Option (List (List Int) × Bool)
 | 0, _, _, _ => none
 | k + 1, a0, out, x => if x < a0 then ((impl_noughts.f k (wrap64 (2 * (out.length : Int))) (wrap64 (2 * (out.length : Int)))).bind fun nx => impl_DoublingMask.l1 k a0 out x nx 0) else some (out, true)
def impl_DoublingMask.l1 : Nat → Int → List (List Int) → Int → List (List Int) → Int → Option (List (List Int) × Bool)
 | 0, _, _, _, _, _ => none
 | k + 1, a0, out, x, nx, i => if i < (out.length : Int) then (if 0 ≤ i then impl_DoublingMask.l2 k a0 out x nx i 0 else none) else impl_DoublingMask.l0 k a0 nx (wrap64 (x + 1))
def impl_DoublingMask.l2 : Nat → Int → List (List Int) → Int → List (List Int) → Int → Int → Option (List (List Int) × Bool)
 | 0, _, _, _, _, _, _ => none
 | k + 1, a0, out, x, nx, i, y => if y < ((rda out i).length : Int) then (put2 nx i y (wrap64 (4 * rd (rda out i) y))).bind fun n1 => (put2 n1 i (wrap64 (y + (out.length : Int))) (wrap64 (wrap64 (4 * rd (rda out i) y) + 2))).bind fun n2 => (put2 n2 (wrap64 (i + (out.length : Int))) y (wrap64 (wrap64 (4 * rd (rda out i) y) + 3))).bind fun n3 => (put2 n3 (wrap64 (i + (out.length : Int))) (wrap64 (y + (out.length : Int))) (wrap64 (wrap64 (4 * rd (rda out i) y) + 1))).bind fun n4 => impl_DoublingMask.l2 k a0 out x n4 i (wrap64 (y + 1)) else impl_DoublingMask.l1 k a0 out x nx (wrap64 (i + 1))
end
def impl_DoublingMask.f (k : Nat) (a0 : Int) : Option (List (List Int) × Bool) := (impl_within.f a0 0 3).bind fun b => if (!b) = true then some ([], false) else (impl_noughts.f k 1 1).bind fun nx => impl_DoublingMask.l0 k a0 nx 0
theorem impl_DoublingMask.mono_l : ∀ k, (∀ y0 y1 y2, LeO (impl_DoublingMask.l0 k y0 y1 y2) (impl_DoublingMask.l0 (k + 1) y0 y1 y2)) ∧ (∀ y0 y1 y2 y3 y4, LeO (impl_DoublingMask.l1 k y0 y1 y2 y3 y4) (impl_DoublingMask.l1 (k + 1) y0 y1 y2 y3 y4)) ∧ (∀ y0 y1 y2 y3 y4 y5, LeO (impl_DoublingMask.l2 k y0 y1 y2 y3 y4 y5) (impl_DoublingMask.l2 (k + 1) y0 y1 y2 y3 y4 y5))
 | 0 => ⟨fun _ _ _ r h => by simp [impl_DoublingMask.l0] at h, fun _ _ _ _ _ r h => by simp [impl_DoublingMask.l1] at h, fun _ _ _ _ _ _ r h => by simp [impl_DoublingMask.l2] at h⟩
 | k + 1 => by
  obtain ⟨ih0, ih1, ih2⟩ := impl_DoublingMask.mono_l k
  refine ⟨?_, ?_, ?_⟩
  ·intro y0 y1 y2
   unfold impl_DoublingMask.l0
   repeat' first
   | (with_reducible exact ih0 _ _ _)
   | (with_reducible exact ih1 _ _ _ _ _)
   | (with_reducible exact impl_noughts.mono _ _ _)
   | (with_reducible exact LeO.refl _)
   | (with_reducible exact LeO.none _)
   | (with_reducible refine LeO.ite ?_ ?_)
   | (with_reducible refine LeO.bind ?_ (fun _ => ?_))
  ·intro y0 y1 y2 y3 y4
   unfold impl_DoublingMask.l1
   repeat' first
   | (with_reducible exact ih0 _ _ _)
   | (with_reducible exact ih2 _ _ _ _ _ _)
   | (with_reducible exact LeO.refl _)
   | (with_reducible exact LeO.none _)
   | (with_reducible refine LeO.ite ?_ ?_)
   | (with_reducible refine LeO.bind ?_ (fun _ => ?_))
  ·intro y0 y1 y2 y3 y4 y5
   unfold impl_DoublingMask.l2
   repeat' first
   | (with_reducible exact ih1 _ _ _ _ _)
   | (with_reducible exact ih2 _ _ _ _ _ _)
   | (with_reducible exact LeO.refl _)
   | (with_reducible exact LeO.none _)
   | (with_reducible refine LeO.ite ?_ ?_)
   | (with_reducible refine LeO.bind ?_ (fun _ => ?_))
theorem impl_DoublingMask.mono : ∀ a0 k, LeO (impl_DoublingMask.f k a0) (impl_DoublingMask.f (k + 1) a0) := by
 intro a0 k
 obtain ⟨ih0, ih1, ih2⟩ := impl_DoublingMask.mono_l k
 unfold impl_DoublingMask.f
 repeat' first
   | (with_reducible exact ih0 _ _ _)
   | (with_reducible exact impl_noughts.mono _ _ _)
   | (with_reducible exact LeO.refl _)
   | (with_reducible exact LeO.none _)
   | (with_reducible refine LeO.ite ?_ ?_)
   | (with_reducible refine LeO.bind ?_ (fun _ => ?_))
set_option maxHeartbeats 8000000 in
set_option maxRecDepth 100000 in
theorem impl_DoublingMask.calls (k : Nat) (a0 : Int) (r1 : List (List Int)) (r2 : Bool) (w : World) (h : impl_DoublingMask.f k a0 = some (r1, r2)) :
  Calls Try.prog 16 #[.int .i64 a0] w fun e w' => ∃ v0_ : Value, e = .returned (.tuple #[v0_, .bool r2]) ∧ Kd.S (Kd.slice 2 (Kd.int .i64)) 34 w' w.heap.size (fun _ => True) v0_ r1 ∧ Below w.heap.size w w' := by
 have HB := Aside0.mk (Below.refl w.heap.size w)
 have H := h
 clear h
 unfold impl_DoublingMask.f at H
 replace H := Option.bind_eq_some_iff.mp H
 obtain ⟨b, A1, H⟩ := H
 have A10 := Aside0.mk A1
 clear A1
 by_cases c1 : (!b) = true
 ·rw [if_pos c1] at H
  have H2 := Option.some.inj H
  injection H2 with h1 h2
  subst h1
  subst h2
  clear H
  go_enter Try.func16, Try.ntmps16
  go_wp2_with (go_at_call 60; refine (impl_within.calls _ _ _ _ _ A10.out).mono ?_; rintro e w' ⟨rfl, ⟨nd, rfl⟩⟩)
  go_ret2
  exact ⟨_, rfl, Kd.S_nil _ _ _ _ _, pw_below_drewN HB.out _⟩
 ·rw [if_neg c1] at H
  replace H := Option.bind_eq_some_iff.mp H
  obtain ⟨nx0, A2, H⟩ := H
  have A20 := Aside0.mk A2
  have H' := Aside0.mk H
  clear A2 H
  go_enter Try.func16, Try.ntmps16
  go_wp2_with (first | (go_at_call 60; refine (impl_within.calls _ _ _ _ _ A10.out).mono ?_; rintro e w' ⟨rfl, ⟨nd, rfl⟩⟩) | ((with_reducible refine gate_callee (f := 61) rfl ?_); refine goesL_ (some 14) rfl rfl Try.func61 (by kernel_rfl) rfl #[.int .i64 1, .int .i64 1] rfl (by (try simp only [List.map_toArray, List.map_cons, List.map_nil]); first | done | rfl) ?_; (with_reducible refine (impl_noughts.calls k 1 1 nx0 _ A20.out).mono ?_); rintro e w3 ⟨v0, rfl, ho0, hb⟩; refine ⟨_, rfl, ?_⟩; have n0_ := Aside0.mk (Kd.S_lower ho0 (below_size (pw_below_drewN HB.out _))); have n1_ := Aside0.mk (below_step (pw_below_drewN HB.out _) hb); clear HB hb ho0; have HO := n0_; have HB := n1_; clear n0_ n1_; obtain ⟨Ao, co, eo⟩ := Kd.S_slice HO.out; subst eo))
  go_loopg [4, 16] k (fun kq v4 v16 w' => ∃ (A : Option Addr) (c : Nat) (xs : List (List Int)) (x : Int), v4 = .slice A xs.length c ∧ v16 = .int .i64 x ∧ Aside0 (impl_DoublingMask.l0 kq a0 xs x = some (r1, r2)) ∧ Aside0 (kq ≤ k) ∧ Aside0 (Kd.S (Kd.slice 2 (Kd.int .i64)) 34 w' w.heap.size (fun _ => True) (.slice A xs.length c) xs) ∧ Aside0 (Below w.heap.size w w'))
  case atStart => exact ⟨Ao, co, nx0, 0, rfl, rfl, H', ⟨Nat.le_refl _⟩, HO, HB⟩
  case round =>
   clear H' HO HB A20 A10 c1
   obtain ⟨A, c, xs, x, rfl, rfl, HA, HK, HO, HB⟩ := hrel
   cases gk with
   | zero => exact absurd HA.out (by simp [impl_DoublingMask.l0])
   | succ k1 =>
    have H := HA.out
    clear HA
    simp only [impl_DoublingMask.l0] at H
    have hlb := (Kd.S_reads' HO.out).2.1
    have hcm := Kd.C_max (Kd.S_reads' HO.out).2.2
    by_cases c3 : x < a0
    ·rw [if_pos c3] at H
     have c3b0 : decide (x < a0) = true := decide_eq_true c3
     clear c3
     replace H := Option.bind_eq_some_iff.mp H
     obtain ⟨nx, A3, H⟩ := H
     have A30 := Aside0.mk A3
     have H' := Aside0.mk H
     have HR := Aside0.mk (Kd.S_reads' HO.out).2.2
     have BB := HB
     clear A3 H HB hlb hcm
     have HB := Aside0.mk (Below.refl wr.heap.size wr)
     go_wp2_with (first | ((with_reducible refine gate_callee (f := 61) rfl ?_); refine goesL_ (some 24) rfl rfl Try.func61 (by kernel_rfl) rfl #[.int .i64 (wrap64 (2 * (xs.length : Int))), .int .i64 (wrap64 (2 * (xs.length : Int)))] rfl (by (try simp only [List.map_toArray, List.map_cons, List.map_nil]); first | done | rfl) ?_; (with_reducible refine (impl_noughts.calls k1 _ _ nx _ A30.out).mono ?_); rintro e w3 ⟨v0, rfl, ho0, hb⟩; refine ⟨_, rfl, ?_⟩; have n0_ := Aside0.mk (Kd.S_lower ho0 (below_size HB.out)); have n1_ := Aside0.mk (below_step HB.out hb); clear HB hb ho0; have HN := n0_; have HB := n1_; clear n0_ n1_; obtain ⟨An, cn, en⟩ := Kd.S_slice HN.out; subst en))
     clear A30 HO
     obtain ⟨wo, rfl⟩ : ∃ wo : World, wo = wr := ⟨_, rfl⟩
     go_loopg [27] k1 (fun kq v27 w' => ∃ (ys : List (List Int)) (i : Int), v27 = .int .i64 i ∧ Aside0 (impl_DoublingMask.l1 kq a0 xs x ys i = some (r1, r2)) ∧ Aside0 (kq ≤ k1) ∧ Aside0 (ys.length = nx.length) ∧ Aside0 (Kd.S (Kd.slice 2 (Kd.int .i64)) 34 w' wo.heap.size (fun _ => True) (.slice An nx.length cn) ys) ∧ Aside0 (Below wo.heap.size wo w'))
     case atStart => exact ⟨nx, 0, rfl, H', ⟨Nat.le_refl _⟩, ⟨rfl⟩, HN, HB⟩
     case round =>
      clear H' HN HB c3b0
      obtain ⟨ys, i, rfl, HA, HK1, HY, HN, HB⟩ := hrel
      cases gk with
      | zero => exact absurd HA.out (by simp [impl_DoublingMask.l1])
      | succ k2 =>
       have H := HA.out
       clear HA
       simp only [impl_DoublingMask.l1] at H
       by_cases c4 : i < (xs.length : Int)
       ·rw [if_pos c4] at H
        by_cases c5 : 0 ≤ i
        ·rw [if_pos c5] at H
         have H' := Aside0.mk H
         clear H
         obtain ⟨ad, Ar, cr, e1, hx, hl, hi⟩ := at_rda HR.out i c5 c4
         cases e1
         replace hx := (HB.out.cell (World.block_lt_of_cell? wo _ hx)).trans hx
         have HI := Aside0.mk hi
         have c4b0 : decide (i < (xs.length : Int)) = true := decide_eq_true c4
         have c5b0 : decide (0 ≤ i) = true := decide_eq_true c5
         have c4e := eq_true c4
         have c5e := eq_true c5
         clear hi hl
         go_wp2
         clear c4b0 c5b0 c4e c5e hx
         go_loopg [34] k2 (fun kq v34 w' => ∃ (zs : List (List Int)) (y : Int), v34 = .int .i64 y ∧ Aside0 (impl_DoublingMask.l2 kq a0 xs x zs i y = some (r1, r2)) ∧ Aside0 (kq ≤ k2) ∧ Aside0 (zs.length = nx.length) ∧ Aside0 (Kd.S (Kd.slice 2 (Kd.int .i64)) 34 w' wo.heap.size (fun _ => True) (.slice An nx.length cn) zs) ∧ Aside0 (Below wo.heap.size wo w'))
         case atStart => exact ⟨ys, 0, rfl, H', ⟨Nat.le_refl _⟩, HY, HN, HB⟩
         case round =>
          clear H' HN HB HY
          obtain ⟨zs, y, rfl, HA, HK2, HY, HN, HB⟩ := hrel
          cases gk with
          | zero => exact absurd HA.out (by simp [impl_DoublingMask.l2])
          | succ k3 =>
           have H := HA.out
           clear HA
           simp only [impl_DoublingMask.l2] at H
           by_cases c6 : y < ((rda xs i).length : Int)
           ·rw [if_pos c6] at H
            replace H := Option.bind_eq_some_iff.mp H
            obtain ⟨n1, P1, H⟩ := H
            replace H := Option.bind_eq_some_iff.mp H
            obtain ⟨n2, P2, H⟩ := H
            replace H := Option.bind_eq_some_iff.mp H
            obtain ⟨n3, P3, H⟩ := H
            replace H := Option.bind_eq_some_iff.mp H
            obtain ⟨n4, P4, H⟩ := H
            obtain ⟨a1, a2, a3, a4, a5⟩ := put2_some P1
            obtain ⟨b1, b2, b3, b4, b5⟩ := put2_some P2
            obtain ⟨d1, d2, d3, d4, d5⟩ := put2_some P3
            obtain ⟨e1, e2, e3, e4, e5⟩ := put2_some P4
            clear P1 P2 P3 P4
            have H' := Aside0.mk H
            clear H
            obtain ⟨adr, er, hr⟩ := Kd.at_int HI.out y a3 c6
            cases er
            replace hr := (HB.out.cell (World.block_lt_of_cell? wo _ hr)).trans hr
            have hz : zs.length = nx.length := HY.out
            obtain ⟨g, q1, cq1, eA, hnl, hg1, hc1, hf1, hq1, hl1, hgl, htr, hne1, hS1⟩ := rows_at HN.out i y a1 a2 a3 a4
            have A5 := Aside0.mk a5
            have B5 := Aside0.mk b5
            have hS1' := hS1 (wrap64 (4 * rd (rda xs i) y))
            rw [← a5] at hS1'
            obtain ⟨hg2, hL2, hc2, hf2, hS2⟩ := rows_at_same i y (wrap64 (y + (xs.length : Int))) _ eA hg1 hne1 hS1' b1 b2 b3 b4
            have hS2' := Aside0.mk (hS2 (wrap64 (wrap64 (4 * rd (rda xs i) y) + 2)))
            rw [← b5] at hS2'
            rw [hL2] at b4
            have hB2 := Aside0.mk (Below.setCell (Below.setCell HB.out (p := ⟨q1, y.toNat, none⟩) hq1 (.int .i64 (wrap64 (4 * rd (rda xs i) y)))) (p := ⟨q1, (wrap64 (y + (xs.length : Int))).toNat, none⟩) hq1 (.int .i64 (wrap64 (wrap64 (4 * rd (rda xs i) y) + 2))))
            cases eA
            clear hS1 hS2 hS1' hL2 HN HB hnl htr a5 b5
            have D1 := Aside0.mk d1
            have D2 := Aside0.mk d2
            have D4 := Aside0.mk d4
            have D5 := Aside0.mk d5
            have E2 := Aside0.mk e2
            have E4 := Aside0.mk e4
            have E5 := Aside0.mk e5
            have A2 := Aside0.mk a2
            have A4 := Aside0.mk a4
            have C5 := Aside0.mk c5
            have B4 := Aside0.mk b4
            have HZ := Aside0.mk hz
            have C6 := Aside0.mk c6
            have C4 := Aside0.mk c4
            have A3 := Aside0.mk a3
            have B3 := Aside0.mk b3
            have c6e := eq_true c6
            have c6b0 : decide (y < ((rda xs i).length : Int)) = true := decide_eq_true c6
            rw [hz] at a2
            have p1b : decide (0 ≤ y) = true := decide_eq_true a3
            have p2b : decide (0 ≤ i) = true := decide_eq_true a1
            have p3b : decide (i < (nx.length : Int)) = true := decide_eq_true a2
            have p4b : decide (y < ((rda zs i).length : Int)) = true := decide_eq_true a4
            have p5b : decide (0 ≤ wrap64 (y + (xs.length : Int))) = true := decide_eq_true b3
            have p6b : decide (wrap64 (y + (xs.length : Int)) < ((rda zs i).length : Int)) = true := decide_eq_true b4
            have p1 := eq_true a3
            have p2 := eq_true a1
            have p3 := eq_true a2
            have p4 := eq_true a4
            have p5 := eq_true b3
            have p6 := eq_true b4
            clear d1 d2 d4 d5 e1 e2 e4 e5 a2 a4 c5 b2 b4 hz c6 c4 a3 b3 d3 e3 a1 b1 hq1
            go_wp2
            go_region
            have hN2 : Kd.S (Kd.slice 2 (Kd.int .i64)) 34 (((wr.setCell ⟨q1, y.toNat, none⟩ (.int .i64 (wrap64 (4 * rd (rda xs i) y)))).setCell ⟨q1, (wrap64 (y + (xs.length : Int))).toNat, none⟩ (.int .i64 (wrap64 (wrap64 (4 * rd (rda xs i) y) + 2)))).drew) wo.heap.size (fun _ => True) (.slice (some ⟨g, 0, none⟩) nx.length cn) n2 := Kd.S_drew hS2'.out
            have hB3 : Below wo.heap.size wo (((wr.setCell ⟨q1, y.toNat, none⟩ (.int .i64 (wrap64 (4 * rd (rda xs i) y)))).setCell ⟨q1, (wrap64 (y + (xs.length : Int))).toNat, none⟩ (.int .i64 (wrap64 (wrap64 (4 * rd (rda xs i) y) + 2)))).drew) := below_drew hB2.out
            clear hS2' hB2
            generalize hw2 : (((wr.setCell ⟨q1, y.toNat, none⟩ (.int .i64 (wrap64 (4 * rd (rda xs i) y)))).setCell ⟨q1, (wrap64 (y + (xs.length : Int))).toNat, none⟩ (.int .i64 (wrap64 (wrap64 (4 * rd (rda xs i) y) + 2)))).drew) = w2 at hN2 hB3 ⊢
            clear hw2 hg1 hc1 hf1 hg2 hc2 hf2 hl1 hne1 p2 p2b p3 p3b p4 p4b p5 p5b p6 p6b c6b0 c6e hr
            obtain ⟨g', q3, cq3, eA, hnl, hg1, hc1, hf1, hq1, hl1, hgl', htr, hne1, hS1⟩ := rows_at hN2 (wrap64 (i + (xs.length : Int))) y D1.out D2.out A3.out D4.out
            cases eA
            have hS1' := hS1 (wrap64 (wrap64 (4 * rd (rda xs i) y) + 3))
            rw [← D5.out] at hS1'
            obtain ⟨hg2, hL2, hc2, hf2, hS2⟩ := rows_at_same (wrap64 (i + (xs.length : Int))) y (wrap64 (y + (xs.length : Int))) _ rfl hg1 hne1 hS1' D1.out E2.out B3.out E4.out
            have hS2' := Aside0.mk (hS2 (wrap64 (wrap64 (4 * rd (rda xs i) y) + 1)))
            rw [← E5.out] at hS2'
            have e4 := E4.out
            rw [hL2] at e4
            have hB2 := Aside0.mk (Below.setCell (Below.setCell hB3 (p := ⟨q3, y.toNat, none⟩) hq1 (.int .i64 (wrap64 (wrap64 (4 * rd (rda xs i) y) + 3)))) (p := ⟨q3, (wrap64 (y + (xs.length : Int))).toNat, none⟩) hq1 (.int .i64 (wrap64 (wrap64 (4 * rd (rda xs i) y) + 1))))
            have d2 := D2.out
            rw [← hnl] at d2
            clear hS1 hS2 hS1' hL2 hN2 hB3 hnl htr
            have p2b : decide (0 ≤ wrap64 (i + (xs.length : Int))) = true := decide_eq_true D1.out
            have p3b : decide (wrap64 (i + (xs.length : Int)) < (nx.length : Int)) = true := decide_eq_true d2
            have p4b : decide (y < ((rda n2 (wrap64 (i + (xs.length : Int)))).length : Int)) = true := decide_eq_true D4.out
            have p5b : decide (0 ≤ wrap64 (y + (xs.length : Int))) = true := decide_eq_true B3.out
            have p6b : decide (wrap64 (y + (xs.length : Int)) < ((rda n2 (wrap64 (i + (xs.length : Int)))).length : Int)) = true := decide_eq_true e4
            have p2 := eq_true D1.out
            have p3 := eq_true d2
            have p4 := eq_true D4.out
            have p5 := eq_true B3.out
            have p6 := eq_true e4
            clear d2 e4
            go_wp2
            go_region
            have hN2 : Kd.S (Kd.slice 2 (Kd.int .i64)) 34 (((w2.setCell ⟨q3, y.toNat, none⟩ (.int .i64 (wrap64 (wrap64 (4 * rd (rda xs i) y) + 3)))).setCell ⟨q3, (wrap64 (y + (xs.length : Int))).toNat, none⟩ (.int .i64 (wrap64 (wrap64 (4 * rd (rda xs i) y) + 1)))).drew) wo.heap.size (fun _ => True) (.slice (some ⟨g, 0, none⟩) nx.length cn) n4 := Kd.S_drew hS2'.out
            have hB3 : Below wo.heap.size wo (((w2.setCell ⟨q3, y.toNat, none⟩ (.int .i64 (wrap64 (wrap64 (4 * rd (rda xs i) y) + 3)))).setCell ⟨q3, (wrap64 (y + (xs.length : Int))).toNat, none⟩ (.int .i64 (wrap64 (wrap64 (4 * rd (rda xs i) y) + 1)))).drew) := below_drew hB2.out
            clear hS2' hB2
            generalize hw4 : (((w2.setCell ⟨q3, y.toNat, none⟩ (.int .i64 (wrap64 (wrap64 (4 * rd (rda xs i) y) + 3)))).setCell ⟨q3, (wrap64 (y + (xs.length : Int))).toNat, none⟩ (.int .i64 (wrap64 (wrap64 (4 * rd (rda xs i) y) + 1)))).drew) = w4 at hN2 hB3 ⊢
            clear hw4
            go_wp2
            go_roundg k3
            case measure => have := HK1.out; have := HK2.out; omega
            case rel => exact ⟨n4, wrap64 (y + 1), rfl, H', ⟨by have := HK1.out; have := HK2.out; omega⟩, ⟨by have h1 := D5.out; have h2 := E5.out; have := HZ.out; rw [h2, h1, B5.out, A5.out]; simp only [List.length_set]; exact this⟩, ⟨hN2⟩, ⟨hB3⟩⟩
           ·rw [if_neg c6] at H
            have c6b0 : decide (y < ((rda xs i).length : Int)) = false := decide_eq_false c6
            clear c6
            have H' := Aside0.mk H
            clear H
            go_wp2
            go_roundg k3
            case measure => have := HK1.out; have := HK2.out; omega
            case rel => exact ⟨zs, wrap64 (i + 1), rfl, H', ⟨by have := HK1.out; have := HK2.out; omega⟩, HY, HN, HB⟩
        ·rw [if_neg c5] at H
         exact absurd H (by simp)
       ·rw [if_neg c4] at H
        have c4b0 : decide (i < (xs.length : Int)) = false := decide_eq_false c4
        clear c4
        have H' := Aside0.mk H
        clear H
        go_wp2
        go_roundg k2
        case measure => have := HK.out; have := HK1.out; omega
        case rel => exact ⟨An, cn, ys, wrap64 (x + 1), by rw [HY.out], rfl, H', ⟨by have := HK.out; have := HK1.out; omega⟩, ⟨by rw [HY.out]; exact Kd.S_lower HN.out (below_size BB.out)⟩, ⟨below_step BB.out HB.out⟩⟩
    ·rw [if_neg c3] at H
     have c3b0 : decide (x < a0) = false := decide_eq_false c3
     clear c3
     have H2 := Option.some.inj H
     injection H2 with h1 h2
     subst h1
     subst h2
     clear H
     go_wp2
     go_ret2
     exact ⟨_, rfl, HO.out, HB.out⟩
end Go.Proofs.Ytckonklpdepgoaa.Q
namespace Go.Proofs.Ytckonklpdepgoaa.Q
open Go.RowKit Go.Proofs.YtckonklpdepgoaaW.PrintWords Go.Proofs.YtckonklpdepgoaaW.PrintLast Go.Proofs.YtckonklpdepgoaaW.PrintMore
attribute [local go_sem] max2_int min2_int max_two min_two max_three min_three max_four min_four   -- for this text's walks alone
set_option linter.unusedVariables false
set_option linter.unusedSimpArgs false
mutual
def spec_l09Hilbert.l0 : Nat → Int → List (List Int) → Int → Option ((List (List Int)))
 | 0, _, _, _ => none
 | k + 1, x0, x3, x4 => if x0 > 0 then (spec_l09Hilbert.l1 k x0 x3 x4 (([] : List (List Int))) 0) else (some x3)
def spec_l09Hilbert.l1 : Nat → Int → List (List Int) → Int → List (List Int) → Int → Option ((List (List Int)))
 | 0, _, _, _, _, _ => none
 | k + 1, x0, x3, x4, x5, x6 => if x6 < (x3.length : Int) then (if 0 ≤ x6 then (if 1 < ((rd_L1 x3 x6).length : Int) then (if 0 < ((rd_L1 x3 x6).length : Int) then (if x5.length < 5864062014805 then (spec_l09Hilbert.l1 k x0 x3 x4 (x5 ++ [(([rd (rd_L1 x3 x6) 1, rd (rd_L1 x3 x6) 0] : List Int))]) (wrap64 (x6 + 1))) else (none)) else (none)) else (none)) else (none)) else (spec_l09Hilbert.l2 k x0 x3 x4 x5 0)
def spec_l09Hilbert.l2 : Nat → Int → List (List Int) → Int → List (List Int) → Int → Option ((List (List Int)))
 | 0, _, _, _, _, _ => none
 | k + 1, x0, x3, x4, x5, x7 => if x7 < (x3.length : Int) then (if 0 ≤ x7 then (if 0 < ((rd_L1 x3 x7).length : Int) then (if 1 < ((rd_L1 x3 x7).length : Int) then (if x5.length < 5864062014805 then (spec_l09Hilbert.l2 k x0 x3 x4 (x5 ++ [(([rd (rd_L1 x3 x7) 0, wrap64 ((rd (rd_L1 x3 x7) 1) + x4)] : List Int))]) (wrap64 (x7 + 1))) else (none)) else (none)) else (none)) else (none)) else (spec_l09Hilbert.l3 k x0 x3 x4 x5 0)
def spec_l09Hilbert.l3 : Nat → Int → List (List Int) → Int → List (List Int) → Int → Option ((List (List Int)))
 | 0, _, _, _, _, _ => none
 | k + 1, x0, x3, x4, x5, x8 => if x8 < (x3.length : Int) then (if 0 ≤ x8 then (if 0 < ((rd_L1 x3 x8).length : Int) then (if 1 < ((rd_L1 x3 x8).length : Int) then (if x5.length < 5864062014805 then (spec_l09Hilbert.l3 k x0 x3 x4 (x5 ++ [(([wrap64 ((rd (rd_L1 x3 x8) 0) + x4), wrap64 ((rd (rd_L1 x3 x8) 1) + x4)] : List Int))]) (wrap64 (x8 + 1))) else (none)) else (none)) else (none)) else (none)) else (spec_l09Hilbert.l4 k x0 x3 x4 x5 0)
def spec_l09Hilbert.l4 : Nat → Int → List (List Int) → Int → List (List Int) → Int → Option ((List (List Int)))
 | 0, _, _, _, _, _ => none
 | k + 1, x0, x3, x4, x5, x9 => if x9 < (x3.length : Int) then (if 0 ≤ x9 then (if 1 < ((rd_L1 x3 x9).length : Int) then (if 0 < ((rd_L1 x3 x9).length : Int) then (if x5.length < 5864062014805 then (spec_l09Hilbert.l4 k x0 x3 x4 (x5 ++ [(([wrap64 ((wrap64 ((wrap64 (2 * x4)) - 1)) - (rd (rd_L1 x3 x9) 1)), wrap64 ((wrap64 (x4 - 1)) - (rd (rd_L1 x3 x9) 0))] : List Int))]) (wrap64 (x9 + 1))) else (none)) else (none)) else (none)) else (none)) else (spec_l09Hilbert.l0 k (wrap64 (x0 - 1)) x5 (wrap64 (x4 * 2)))
end
def spec_l09Hilbert.f (k : Nat) (a0 : Int) : Option ((List (List Int))) := spec_l09Hilbert.l0 k a0 (([(([0, 0] : List Int))] : List (List Int))) 1
theorem spec_l09Hilbert.mono_l : ∀ k, (∀ y0 y1 y2, LeO (spec_l09Hilbert.l0 k y0 y1 y2) (spec_l09Hilbert.l0 (k + 1) y0 y1 y2)) ∧ (∀ y0 y1 y2 y3 y4, LeO (spec_l09Hilbert.l1 k y0 y1 y2 y3 y4) (spec_l09Hilbert.l1 (k + 1) y0 y1 y2 y3 y4)) ∧ (∀ y0 y1 y2 y3 y4, LeO (spec_l09Hilbert.l2 k y0 y1 y2 y3 y4) (spec_l09Hilbert.l2 (k + 1) y0 y1 y2 y3 y4)) ∧ (∀ y0 y1 y2 y3 y4, LeO (spec_l09Hilbert.l3 k y0 y1 y2 y3 y4) (spec_l09Hilbert.l3 (k + 1) y0 y1 y2 y3 y4)) ∧ (∀ y0 y1 y2 y3 y4, LeO (spec_l09Hilbert.l4 k y0 y1 y2 y3 y4) (spec_l09Hilbert.l4 (k + 1) y0 y1 y2 y3 y4))
 | 0 => ⟨fun _ _ _ r h => by simp [spec_l09Hilbert.l0] at h, fun _ _ _ _ _ r h => by simp [spec_l09Hilbert.l1] at h, fun _ _ _ _ _ r h => by simp [spec_l09Hilbert.l2] at h, fun _ _ _ _ _ r h => by simp [spec_l09Hilbert.l3] at h, fun _ _ _ _ _ r h => by simp [spec_l09Hilbert.l4] at h⟩
 | k + 1 => by
  obtain ⟨ih0, ih1, ih2, ih3, ih4⟩ := spec_l09Hilbert.mono_l k
  refine ⟨?_, ?_, ?_, ?_, ?_⟩
  ·intro y0 y1 y2
   unfold spec_l09Hilbert.l0
   repeat' first
   | (with_reducible exact ih0 _ _ _)
   | (with_reducible exact ih1 _ _ _ _ _)
   | (with_reducible exact ih2 _ _ _ _ _)
   | (with_reducible exact ih3 _ _ _ _ _)
   | (with_reducible exact ih4 _ _ _ _ _)
   | (with_reducible exact LeO.refl _)
   | (with_reducible exact LeO.none _)
   | (with_reducible refine LeO.ite ?_ ?_)
   | (with_reducible refine LeO.bind ?_ (fun _ => ?_))
   | exact ih0 _ _ _
   | exact ih1 _ _ _ _ _
   | exact ih2 _ _ _ _ _
   | exact ih3 _ _ _ _ _
   | exact ih4 _ _ _ _ _
   | exact LeO.none _
   | refine LeO.ite ?_ ?_
   | refine LeO.bind ?_ (fun _ => ?_)
  ·intro y0 y1 y2 y3 y4
   unfold spec_l09Hilbert.l1
   repeat' first
   | (with_reducible exact ih0 _ _ _)
   | (with_reducible exact ih1 _ _ _ _ _)
   | (with_reducible exact ih2 _ _ _ _ _)
   | (with_reducible exact ih3 _ _ _ _ _)
   | (with_reducible exact ih4 _ _ _ _ _)
   | (with_reducible exact LeO.refl _)
   | (with_reducible exact LeO.none _)
   | (with_reducible refine LeO.ite ?_ ?_)
   | (with_reducible refine LeO.bind ?_ (fun _ => ?_))
   | exact ih0 _ _ _
   | exact ih1 _ _ _ _ _
   | exact ih2 _ _ _ _ _
   | exact ih3 _ _ _ _ _
   | exact ih4 _ _ _ _ _
   | exact LeO.none _
   | refine LeO.ite ?_ ?_
   | refine LeO.bind ?_ (fun _ => ?_)
  ·intro y0 y1 y2 y3 y4
   unfold spec_l09Hilbert.l2
   repeat' first
   | (with_reducible exact ih0 _ _ _)
   | (with_reducible exact ih1 _ _ _ _ _)
   | (with_reducible exact ih2 _ _ _ _ _)
   | (with_reducible exact ih3 _ _ _ _ _)
   | (with_reducible exact ih4 _ _ _ _ _)
   | (with_reducible exact LeO.refl _)
   | (with_reducible exact LeO.none _)
   | (with_reducible refine LeO.ite ?_ ?_)
   | (with_reducible refine LeO.bind ?_ (fun _ => ?_))
   | exact ih0 _ _ _
   | exact ih1 _ _ _ _ _
   | exact ih2 _ _ _ _ _
   | exact ih3 _ _ _ _ _
   | exact ih4 _ _ _ _ _
   | exact LeO.none _
   | refine LeO.ite ?_ ?_
   | refine LeO.bind ?_ (fun _ => ?_)
  ·intro y0 y1 y2 y3 y4
   unfold spec_l09Hilbert.l3
   repeat' first
   | (with_reducible exact ih0 _ _ _)
   | (with_reducible exact ih1 _ _ _ _ _)
   | (with_reducible exact ih2 _ _ _ _ _)
   | (with_reducible exact ih3 _ _ _ _ _)
   | (with_reducible exact ih4 _ _ _ _ _)
   | (with_reducible exact LeO.refl _)
   | (with_reducible exact LeO.none _)
   | (with_reducible refine LeO.ite ?_ ?_)
   | (with_reducible refine LeO.bind ?_ (fun _ => ?_))
   | exact ih0 _ _ _
   | exact ih1 _ _ _ _ _
   | exact ih2 _ _ _ _ _
   | exact ih3 _ _ _ _ _
   | exact ih4 _ _ _ _ _
   | exact LeO.none _
   | refine LeO.ite ?_ ?_
   | refine LeO.bind ?_ (fun _ => ?_)
  ·intro y0 y1 y2 y3 y4
   unfold spec_l09Hilbert.l4
   repeat' first
   | (with_reducible exact ih0 _ _ _)
   | (with_reducible exact ih1 _ _ _ _ _)
   | (with_reducible exact ih2 _ _ _ _ _)
   | (with_reducible exact ih3 _ _ _ _ _)
   | (with_reducible exact ih4 _ _ _ _ _)
   | (with_reducible exact LeO.refl _)
   | (with_reducible exact LeO.none _)
   | (with_reducible refine LeO.ite ?_ ?_)
   | (with_reducible refine LeO.bind ?_ (fun _ => ?_))
   | exact ih0 _ _ _
   | exact ih1 _ _ _ _ _
   | exact ih2 _ _ _ _ _
   | exact ih3 _ _ _ _ _
   | exact ih4 _ _ _ _ _
   | exact LeO.none _
   | refine LeO.ite ?_ ?_
   | refine LeO.bind ?_ (fun _ => ?_)
theorem spec_l09Hilbert.mono : ∀ a0 k, LeO (spec_l09Hilbert.f k a0) (spec_l09Hilbert.f (k + 1) a0) := by
 intro a0 k
 obtain ⟨ih0, ih1, ih2, ih3, ih4⟩ := spec_l09Hilbert.mono_l k
 unfold spec_l09Hilbert.f
 repeat' first
   | (with_reducible exact ih0 _ _ _)
   | (with_reducible exact ih1 _ _ _ _ _)
   | (with_reducible exact ih2 _ _ _ _ _)
   | (with_reducible exact ih3 _ _ _ _ _)
   | (with_reducible exact ih4 _ _ _ _ _)
   | (with_reducible exact LeO.refl _)
   | (with_reducible exact LeO.none _)
   | (with_reducible refine LeO.ite ?_ ?_)
   | (with_reducible refine LeO.bind ?_ (fun _ => ?_))
   | exact ih0 _ _ _
   | exact ih1 _ _ _ _ _
   | exact ih2 _ _ _ _ _
   | exact ih3 _ _ _ _ _
   | exact ih4 _ _ _ _ _
   | exact LeO.none _
   | refine LeO.ite ?_ ?_
   | refine LeO.bind ?_ (fun _ => ?_)
def spec_l09Hilbert.T9 : Bool × List (List Nat × List Nat) := (true, [([], []), ([], []), ([], []), ([1, 2], [1, 2]), ([3], [3]), ([4], [4]), ([5], [5]), ([], []), ([], []), ([7, 8], [7, 8]), ([9], [9]), ([10], [10]), ([11], [11]), ([6, 12], [6, 12]), ([13], [13]), ([0, 14], [0, 14]), ([15, 15, 0, 1, 2, 3, 4, 5, 6, 7, 8, 9, 10, 11, 12, 13, 14, 15], [0, 15])])
def spec_l09Hilbert.B9 : List Nat := [0, 0, 0, 6, 14, 30, 62, 0, 0, 384, 896, 1920, 3968, 8190, 16382, 32767, 65535]
theorem spec_l09Hilbert.tab9 : rtab .any (opsOf Try.f65 9) = spec_l09Hilbert.T9 := by kernel_rfl
theorem spec_l09Hilbert.bits9 : waitsOk spec_l09Hilbert.T9.2 spec_l09Hilbert.B9 = true := by kernel_rfl
def spec_l09Hilbert.T13 : Bool × List (List Nat × List Nat) := (true, [([], []), ([], []), ([], []), ([1, 2], [1, 2]), ([3], [3]), ([4], [4]), ([5], [5]), ([], []), ([], []), ([7, 8], [7, 8]), ([9], [9]), ([10], [10]), ([11], [11]), ([], []), ([12, 13], [12, 13]), ([6, 14], [6, 14]), ([15], [15]), ([0, 16], [0, 16]), ([17, 17, 0, 1, 2, 3, 4, 5, 6, 7, 8, 9, 10, 11, 12, 13, 14, 15, 16, 17], [0, 17])])
def spec_l09Hilbert.B13 : List Nat := [0, 0, 0, 6, 14, 30, 62, 0, 0, 384, 896, 1920, 3968, 0, 16256, 32766, 65534, 131071, 262143]
theorem spec_l09Hilbert.tab13 : rtab .any (opsOf Try.f65 13) = spec_l09Hilbert.T13 := by kernel_rfl
theorem spec_l09Hilbert.bits13 : waitsOk spec_l09Hilbert.T13.2 spec_l09Hilbert.B13 = true := by kernel_rfl
def spec_l09Hilbert.T17 : Bool × List (List Nat × List Nat) := (true, [([], []), ([], []), ([], []), ([1, 2], [1, 2]), ([3], [3]), ([4], [4]), ([5], [5]), ([], []), ([6, 7], [6, 7]), ([], []), ([], []), ([9, 10], [9, 10]), ([11], [11]), ([12], [12]), ([13], [13]), ([], []), ([14, 15], [14, 15]), ([8, 16], [8, 16]), ([17], [17]), ([0, 18], [0, 18]), ([19, 19, 0, 1, 2, 3, 4, 5, 6, 7, 8, 9, 10, 11, 12, 13, 14, 15, 16, 17, 18, 19], [0, 19])])
def spec_l09Hilbert.B17 : List Nat := [0, 0, 0, 6, 14, 30, 62, 0, 254, 0, 0, 1536, 3584, 7680, 15872, 0, 65024, 131070, 262142, 524287, 1048575]
theorem spec_l09Hilbert.tab17 : rtab .any (opsOf Try.f65 17) = spec_l09Hilbert.T17 := by kernel_rfl
theorem spec_l09Hilbert.bits17 : waitsOk spec_l09Hilbert.T17.2 spec_l09Hilbert.B17 = true := by kernel_rfl
def spec_l09Hilbert.T21 : Bool × List (List Nat × List Nat) := (true, [([], []), ([], []), ([1], [1]), ([2], [2]), ([], []), ([], []), ([4, 5], [4, 5]), ([6], [6]), ([7], [7]), ([8], [8]), ([3, 9], [3, 9]), ([], []), ([11], [11]), ([], []), ([], []), ([13, 14], [13, 14]), ([15], [15]), ([16], [16]), ([17], [17]), ([12, 18], [12, 18]), ([10, 19], [10, 19]), ([20], [20]), ([0, 21], [0, 21]), ([22, 22, 0, 1, 2, 3, 4, 5, 6, 7, 8, 9, 10, 11, 12, 13, 14, 15, 16, 17, 18, 19, 20, 21, 22], [0, 22])])
def spec_l09Hilbert.B21 : List Nat := [0, 0, 2, 6, 0, 0, 48, 112, 240, 496, 1022, 0, 2048, 0, 0, 24576, 57344, 122880, 253952, 522240, 1048574, 2097150, 4194303, 8388607]
theorem spec_l09Hilbert.tab21 : rtab .any (opsOf Try.f65 21) = spec_l09Hilbert.T21 := by kernel_rfl
theorem spec_l09Hilbert.bits21 : waitsOk spec_l09Hilbert.T21.2 spec_l09Hilbert.B21 = true := by kernel_rfl
set_option maxHeartbeats 8000000 in
set_option maxRecDepth 100000 in
theorem spec_l09Hilbert.calls (k : Nat) (a0 : Int) (r : List (List Int)) (w : World) (h : spec_l09Hilbert.f k a0 = some r) :
  Calls Try.prog 65 #[.int .i64 a0] w fun e w' => ∃ v0_ : Value, e = .returned (v0_) ∧ Kd.N (Kd.slice 2 (Kd.int .i64)) 34 w' w.heap.size (fun k_ => (w.heap.size ≤ k_)) v0_ r ∧ Below w.heap.size w w' := by
 have HB := Aside0.mk (Below.refl w.heap.size w)
 have H : (spec_l09Hilbert.l0 k a0 (([(([0, 0] : List Int))] : List (List Int))) 1) = some r := h
 clear h
 obtain ⟨y141, hy141⟩ : ∃ y_ : List Int, y_ = (([0, 0] : List Int)) := ⟨_, rfl⟩
 replace H : (spec_l09Hilbert.l0 k a0 (([y141] : List (List Int))) 1) = some r := by first | (rw [hy141]; with_reducible exact H) | (have H2_ := (Option.bind_some _ _).symm.trans H; rw [hy141]; with_reducible exact H2_) | (have H2_ := (Option.bind_some _ _).symm.trans H; with_reducible exact H2_) | with_reducible exact H | (rw [hy141]; exact H) | exact H
 have Ny141 := Aside0.mk hy141
 clear hy141
 obtain ⟨y144, hy144⟩ : ∃ y_ : List (List Int), y_ = (([y141] : List (List Int))) := ⟨_, rfl⟩
 replace H : (spec_l09Hilbert.l0 k a0 y144 1) = some r := by first | (rw [hy144]; with_reducible exact H) | (have H2_ := (Option.bind_some _ _).symm.trans H; rw [hy144]; with_reducible exact H2_) | (have H2_ := (Option.bind_some _ _).symm.trans H; with_reducible exact H2_) | with_reducible exact H | (rw [hy144]; exact H) | exact H
 have Ny144 := Aside0.mk hy144
 clear hy144
 have H' := Aside0.mk H
 clear H
 go_enter Try.func65, Try.ntmps65
 go_wp2_with (first | ((with_reducible refine gate_dst (N := 10) rfl ?_); refine Kd.R_lit (Kd.int .i64) _ 2 ?hg (N := 10) ?hd (xs := ([0, 0] : List Int)) (inner := [.int .i64 0, .int .i64 0]) (ok := fun _ => True) (okp := fun _ => True) ?hr ?hp (fun _ hk => hk) trivial (Below.refl _ _) (Nat.le_refl _) (by simp) ?_; (case hd => rfl); (case hg => rfl); (case hr => first | (go_simp; done) | (go_simp; rfl)); (case hp => exact (Reps.one (show Kd.M (Kd.int .i64) _ _ _ 0 [.int .i64 0] from rfl) (Reps.one (show Kd.M (Kd.int .i64) _ _ _ 0 [.int .i64 0] from rfl) (Reps.none _ _)))); intro v142 w2 ho3 hb hg_ hnew_; clear hg_ hnew_; (first | rw [← Ny141.out] at ho3 | (simp only [Int.reduceToNat] at ho3; rw [← Ny141.out] at ho3)); have n0_ := Aside0.mk (Kd.R_lower (Kd.R_newM (M := fun k_ => (w.heap.size ≤ k_)) ho3 (below_size (by repeat (first | (with_reducible first | exact HB.out | apply below_alloc | apply pw_below_drewN | apply below_drew1) | exact HB.out))) (fun k_ h_ => h_)) (below_size (by repeat (first | (with_reducible first | exact HB.out | apply below_alloc | apply pw_below_drewN | apply below_drew1) | exact HB.out)))); have n1_ := Aside0.mk (below_step (by repeat (first | (with_reducible first | exact HB.out | apply below_alloc | apply pw_below_drewN | apply below_drew1) | exact HB.out)) hb); clear HB; have HO143 := n0_; have HB := n1_; clear n0_ n1_; clear hb ho3; obtain ⟨Ao4, co4, eo4⟩ := Kd.R_slice HO143.out; subst eo4) | ((with_reducible refine gate_dst (N := 11) rfl ?_); refine Kd.N_lit (Kd.slice 2 (Kd.int .i64)) _ 34 ?hg (N' := 11) ?hd (xs := ([y141] : List (List Int))) (inner := [.slice Ao4 y141.length co4]) (ok := (fun k_ => (w.heap.size ≤ k_))) (okp := (fun k_ => (w.heap.size ≤ k_))) ?hr ?hp (fun _ hk => hk) ((show ∀ k_, w2.heap.size ≤ k_ → (fun k_ => (w.heap.size ≤ k_)) k_ from fun k_ hk => (Nat.le_trans (below_size (by repeat (first | (with_reducible first | exact HB.out | apply below_alloc | apply pw_below_drewN | apply below_drew1) | exact HB.out))) hk)) _ (Nat.le_refl _)) (Below.refl _ _) (Nat.le_refl _) (by simp) ?_; (case hd => rfl); (case hg => rfl); (case hr => first | (go_simp; done) | (go_simp; rfl)); (case hp => exact (Reps.one (show Kd.FK (Kd.slice 2 (Kd.int .i64)) _ _ y141 [.slice Ao4 y141.length co4] from (Kd.FK_slice_mk (Kd.R_reads' (Kd.R_mono (ok' := (fun k_ => (w.heap.size ≤ k_))) (HO143.out) (fun k_ hk => hk.1))).2.1 (Kd.R_F (Kd.R_mono (ok' := (fun k_ => (w.heap.size ≤ k_))) (HO143.out) (fun k_ hk => hk.1))))) (Reps.none _ _))); intro v145 w5 ho6 hb hg_ hnew_; clear hg_ hnew_; (first | rw [← Ny144.out] at ho6 | (simp only [Int.reduceToNat] at ho6; rw [← Ny144.out] at ho6)); have n0_ := Aside0.mk (Kd.N_lower ho6 (below_size (by repeat (first | (with_reducible first | exact HB.out | apply below_alloc | apply pw_below_drewN | apply below_drew1) | exact HB.out)))); have n1_ := Aside0.mk (below_step (by repeat (first | (with_reducible first | exact HB.out | apply below_alloc | apply pw_below_drewN | apply below_drew1) | exact HB.out)) hb); clear HB; clear HO143; have HO146 := n0_; have HB := n1_; clear n0_ n1_; clear hb ho6))
 go_loopg [0, 3, 4] k (fun kq v0 v3 v4 w' => ∃ (x0_1 : Int) (x3_1 : List (List Int)) (x4_1 : Int), v0 = .int .i64 x0_1 ∧ v4 = .int .i64 x4_1 ∧ Aside0 (spec_l09Hilbert.l0 kq x0_1 x3_1 x4_1 = some r) ∧ Aside0 (kq ≤ k) ∧ Aside0 (Kd.N (Kd.slice 2 (Kd.int .i64)) 34 w' w.heap.size (fun k_ => (w.heap.size ≤ k_)) v3 x3_1) ∧ Aside0 (Below w.heap.size w w'))
 case atStart => exact ⟨(a0), (y144), (1), (by first | rfl | (simp; done) | (simp [*]; done)), (by first | rfl | (simp; done) | (simp [*]; done)), H', ⟨Nat.le_refl _⟩, ⟨by (with_reducible repeat (first | apply Kd.N_alloc | apply Kd.N_drewN | apply Kd.N_drew)); exact HO146.out⟩, ⟨by repeat (first | (with_reducible first | exact HB.out | apply below_alloc | apply pw_below_drewN | apply below_drew1) | exact HB.out)⟩⟩
 case round =>
  clear H'
  try clear p2
  try clear c6
  obtain ⟨x0_1, x3_1, x4_1, rfl, rfl, HA, HK1, HO_3, HB⟩ := hrel
  cases gk with
  | zero => exact absurd HA.out (by simp [spec_l09Hilbert.l0])
  | succ k1 =>
   have H := HA.out
   clear HA
   simp only [spec_l09Hilbert.l0] at H
   by_cases c7 : x0_1 > 0
   ·rw [if_pos c7] at H
    have c7b0 : decide (0 < x0_1) = true := decide_eq_true c7
    clear c7
    obtain ⟨y147, hy147⟩ : ∃ y_ : List (List Int), y_ = (([] : List (List Int))) := ⟨_, rfl⟩
    replace H : (spec_l09Hilbert.l1 k1 x0_1 x3_1 x4_1 y147 0) = some r := by first | (rw [hy147]; with_reducible exact H) | (have H2_ := (Option.bind_some _ _).symm.trans H; rw [hy147]; with_reducible exact H2_) | (have H2_ := (Option.bind_some _ _).symm.trans H; with_reducible exact H2_) | with_reducible exact H | (rw [hy147]; exact H) | exact H
    have Ny147 := Aside0.mk hy147
    clear hy147
    have H' := Aside0.mk H
    clear H
    go_wp2_with (first | ((with_reducible refine gate_dst (N := 16) rfl ?_); refine Kd.N_lit (Kd.slice 2 (Kd.int .i64)) _ 34 ?hg (N' := 16) ?hd (xs := ([] : List (List Int))) (inner := []) (ok := (fun k_ => (w.heap.size ≤ k_) ∧ some k_ ≠ (u3 : Value).ownBlock)) (okp := (fun k_ => (w.heap.size ≤ k_) ∧ some k_ ≠ (u3 : Value).ownBlock)) ?hr ?hp (fun _ hk => hk) ((show ∀ k_, wr.heap.size ≤ k_ → (fun k_ => (w.heap.size ≤ k_) ∧ some k_ ≠ (u3 : Value).ownBlock) k_ from fun k_ hk => ⟨(Nat.le_trans (below_size (by repeat (first | (with_reducible first | exact HB.out | apply below_alloc | apply pw_below_drewN | apply below_drew1) | exact HB.out))) hk), Kd.fresh' (Kd.N_lt (by (with_reducible repeat (first | apply Kd.N_alloc | apply Kd.N_drewN | apply Kd.N_drew)); exact HO_3.out)) k_ hk⟩) _ (Nat.le_refl _)) (Below.refl _ _) (Nat.le_refl _) (by simp) ?_; (case hd => rfl); (case hg => rfl); (case hr => first | (go_simp; done) | (go_simp; rfl)); (case hp => exact (Reps.none _ _)); intro v148 w8 ho9 hb hg_ hnew_; clear hg_ hnew_; (first | rw [← Ny147.out] at ho9 | (simp only [Int.reduceToNat] at ho9; rw [← Ny147.out] at ho9)); have n0_ := Aside0.mk (Kd.N_elder' (by (with_reducible repeat (first | apply Kd.N_alloc | apply Kd.N_drewN | apply Kd.N_drew)); exact HO_3.out) (Kd.N_base ho9) hb); have n1_ := Aside0.mk (Kd.N_lower ho9 (below_size (by repeat (first | (with_reducible first | exact HB.out | apply below_alloc | apply pw_below_drewN | apply below_drew1) | exact HB.out)))); have n2_ := Aside0.mk (below_step (by repeat (first | (with_reducible first | exact HB.out | apply below_alloc | apply pw_below_drewN | apply below_drew1) | exact HB.out)) hb); clear HO_3; clear HB; have HO_3 := n0_; have HO149 := n1_; have HB := n2_; clear n0_ n1_ n2_; clear hb ho9))
    go_loopg [5, 6] k1 (fun kq v5 v6 w' => ∃ (x5_2 : List (List Int)) (x6_2 : Int), v6 = .int .i64 x6_2 ∧ Aside0 (spec_l09Hilbert.l1 kq x0_1 x3_1 x4_1 x5_2 x6_2 = some r) ∧ Aside0 (kq ≤ k1) ∧ Aside0 (Kd.N (Kd.slice 2 (Kd.int .i64)) 34 w' w.heap.size (fun k_ => (w.heap.size ≤ k_) ∧ some k_ ≠ (v5 : Value).ownBlock) u3 x3_1) ∧ Aside0 (Kd.N (Kd.slice 2 (Kd.int .i64)) 34 w' w.heap.size (fun k_ => (w.heap.size ≤ k_) ∧ some k_ ≠ (u3 : Value).ownBlock) v5 x5_2) ∧ Aside0 (Below w.heap.size w w'))
    case atStart => exact ⟨(y147), (0), (by first | rfl | (simp; done) | (simp [*]; done)), H', ⟨Nat.le_refl _⟩, ⟨by (with_reducible repeat (first | apply Kd.N_alloc | apply Kd.N_drewN | apply Kd.N_drew)); exact HO_3.out⟩, ⟨by (with_reducible repeat (first | apply Kd.N_alloc | apply Kd.N_drewN | apply Kd.N_drew)); exact HO149.out⟩, ⟨by repeat (first | (with_reducible first | exact HB.out | apply below_alloc | apply pw_below_drewN | apply below_drew1) | exact HB.out)⟩⟩
    case round =>
     clear H'
     try clear p2
     try clear c6
     try clear c7
     try clear c7b0
     try clear p2
     obtain ⟨x5_2, x6_2, rfl, HA, HK2, HO_3, HO_5, HB⟩ := hrel
     cases gk with
     | zero => exact absurd HA.out (by simp [spec_l09Hilbert.l1])
     | succ k2 =>
      have H := HA.out
      clear HA
      simp only [spec_l09Hilbert.l1] at H
      by_cases c10 : x6_2 < (x3_1.length : Int)
      ·rw [if_pos c10] at H
       have c10b0 : decide (x6_2 < (x3_1.length : Int)) = true := decide_eq_true c10
       clear c10
       by_cases c11 : 0 ≤ x6_2
       ·rw [if_pos c11] at H
        have c11b0 : decide (0 ≤ x6_2) = true := decide_eq_true c11
        clear c11
        by_cases c12 : 1 < ((rd_L1 x3_1 x6_2).length : Int)
        ·rw [if_pos c12] at H
         have c12b0 : decide (1 < ((rd_L1 x3_1 x6_2).length : Int)) = true := decide_eq_true c12
         have c12b1 : decide (1 < (rd_L1 x3_1 x6_2).length) = true := decide_eq_true (by omega)
         clear c12
         by_cases c13 : 0 < ((rd_L1 x3_1 x6_2).length : Int)
         ·rw [if_pos c13] at H
          have c13b0 : decide (0 < ((rd_L1 x3_1 x6_2).length : Int)) = true := decide_eq_true c13
          have c13b1 : decide (0 < (rd_L1 x3_1 x6_2).length) = true := decide_eq_true (by omega)
          clear c13
          obtain ⟨y154, hy154⟩ : ∃ y_ : List Int, y_ = (([rd (rd_L1 x3_1 x6_2) 1, rd (rd_L1 x3_1 x6_2) 0] : List Int)) := ⟨_, rfl⟩
          replace H : (if x5_2.length < 5864062014805 then (spec_l09Hilbert.l1 k2 x0_1 x3_1 x4_1 (x5_2 ++ [y154]) (wrap64 (x6_2 + 1))) else (none)) = some r := by first | (rw [hy154]; with_reducible exact H) | (have H2_ := (Option.bind_some _ _).symm.trans H; rw [hy154]; with_reducible exact H2_) | (have H2_ := (Option.bind_some _ _).symm.trans H; with_reducible exact H2_) | with_reducible exact H | (rw [hy154]; exact H) | exact H
          have Ny154 := Aside0.mk hy154
          clear hy154
          by_cases c14 : x5_2.length < 5864062014805
          ·rw [if_pos c14] at H
           have LMc14 := Aside0.mk c14
           clear c14
           obtain ⟨y157, hy157⟩ : ∃ y_ : List (List Int), y_ = (x5_2 ++ [y154]) := ⟨_, rfl⟩
           replace H : (spec_l09Hilbert.l1 k2 x0_1 x3_1 x4_1 y157 (wrap64 (x6_2 + 1))) = some r := by first | (rw [hy157]; with_reducible exact H) | (have H2_ := (Option.bind_some _ _).symm.trans H; rw [hy157]; with_reducible exact H2_) | (have H2_ := (Option.bind_some _ _).symm.trans H; with_reducible exact H2_) | with_reducible exact H | (rw [hy157]; exact H) | exact H
           have Ny157 := Aside0.mk hy157
           clear hy157
           have H' := Aside0.mk H
           clear H
           obtain ⟨Ao15, co15, eo15⟩ := Kd.N_slice HO_3.out
           subst eo15
           try go_wp2
           have n0_ := Aside0.mk (Kd.N_drew HO_3.out)
           have n1_ := Aside0.mk (Kd.N_drew HO_5.out)
           have n2_ := Aside0.mk (below_drew1 HB.out)
           clear HO_3
           clear HO_5
           clear HB
           have HO_3 := n0_
           have HO_5 := n1_
           have HB := n2_
           clear n0_ n1_ n2_
           have p150 : 0 ≤ (x6_2 : Int) := of_decide_eq_true (by first | (with_reducible assumption) | assumption)
           have q150 : x6_2 < (x3_1.length : Int) := of_decide_eq_true (by first | (with_reducible assumption) | assumption)
           obtain ⟨ad150, A150_0, c150_0, e150, hx150_0, hl150_0, hi150_0⟩ := at_L1 (Kd.N_reads' HO_3.out).2.2 x6_2 p150 q150
           cases e150
           obtain ⟨ce150, hce150, hMe150, hcc150⟩ := Kd.N_get HO_3.out [] x6_2 p150 (by first | exact q150 | exact of_decide_eq_true (by first | (with_reducible assumption) | assumption) | (have e_ := (Kd.N_reads' HO_3.out).1; omega))
           obtain ⟨ua150_0, uc150_0, rfl, ul150_0, ge150_0⟩ := Kd.FK_slice_open hMe150
           have hv150_0 := hcc150 0 _ rfl
           rw [Nat.add_zero, show ((Kd.slice 2 (Kd.int .i64))).sz = 1 from rfl, Nat.mul_one] at hv150_0
           replace hv150_0 := Option.some.inj (hv150_0.symm.trans hx150_0)
           injection hv150_0 with hva_ hvn_ hvc_
           rw [hva_] at ge150_0
           rw [hvc_] at ul150_0
           have HL150_0 := Aside0.mk (show Kd.V (Kd.int .i64) 2 _ w.heap.size _ _ (rd_L1 x3_1 x6_2) from Kd.V_mk ul150_0 ge150_0)
           clear hva_ hvn_ hvc_ ge150_0 ul150_0
           clear hcc150 hce150
           have HR150_0 := Aside0.mk hi150_0
           have HC150_0 := Aside0.mk hl150_0
           clear hi150_0 hl150_0
           replace p150 := eq_true p150
           replace q150 := eq_true q150
           have p151 : 0 ≤ (1 : Int) := (by omega)
           have q151 : 1 < ((rd_L1 x3_1 x6_2).length : Int) := of_decide_eq_true (by first | (with_reducible assumption) | assumption)
           obtain ⟨ad151, e151, hx151_0⟩ := Kd.at_int (by repeat (first | (with_reducible exact HR150_0.out) | (with_reducible refine Kd.C_alloc ?_ _) | (with_reducible refine Kd.C_drewN ?_ _) | (with_reducible refine Kd.C_drew ?_) | exact HR150_0.out)) 1 p151 q151
           cases e151
           (try simp only [show (1 : Int).toNat = 1 from rfl, Nat.reduceMul, Nat.reduceEqDiff, Go.Addr.add, ↓reduceIte] at hx151_0)
           have qi151 : (1 < (rd_L1 x3_1 x6_2).length) = True := eq_true (by omega)
           (try rw [show ((1 : Int)).toNat = 1 from rfl] at hx151_0)
           replace p151 := eq_true p151
           replace q151 := eq_true q151
           have p152 : 0 ≤ (x6_2 : Int) := of_decide_eq_true (by first | (with_reducible assumption) | assumption)
           have q152 : x6_2 < (x3_1.length : Int) := of_decide_eq_true (by first | (with_reducible assumption) | assumption)
           obtain ⟨ad152, A152_0, c152_0, e152, hx152_0, hl152_0, hi152_0⟩ := at_L1 (Kd.N_reads' HO_3.out).2.2 x6_2 p152 q152
           obtain rfl : ad150 = ad152 := (by injection e152)
           obtain ⟨ce152, hce152, hMe152, hcc152⟩ := Kd.N_get HO_3.out [] x6_2 p152 (by first | exact q152 | exact of_decide_eq_true (by first | (with_reducible assumption) | assumption) | (have e_ := (Kd.N_reads' HO_3.out).1; omega))
           obtain ⟨ua152_0, uc152_0, rfl, ul152_0, ge152_0⟩ := Kd.FK_slice_open hMe152
           have hv152_0 := hcc152 0 _ rfl
           rw [Nat.add_zero, show ((Kd.slice 2 (Kd.int .i64))).sz = 1 from rfl, Nat.mul_one] at hv152_0
           replace hv152_0 := Option.some.inj (hv152_0.symm.trans hx152_0)
           injection hv152_0 with hva_ hvn_ hvc_
           rw [hva_] at ge152_0
           rw [hvc_] at ul152_0
           have HL152_0 := Aside0.mk (show Kd.V (Kd.int .i64) 2 _ w.heap.size _ _ (rd_L1 x3_1 x6_2) from Kd.V_mk ul152_0 ge152_0)
           clear hva_ hvn_ hvc_ ge152_0 ul152_0
           clear hcc152 hce152
           have HR152_0 := Aside0.mk hi152_0
           have HC152_0 := Aside0.mk hl152_0
           clear hi152_0 hl152_0
           replace p152 := eq_true p152
           replace q152 := eq_true q152
           have ea_ := Option.some.inj (hx150_0.symm.trans hx152_0)
           injection ea_ with ea_ en_ ec_
           subst ea_
           subst ec_
           clear en_
           have p153 : 0 ≤ (0 : Int) := (by omega)
           have q153 : 0 < ((rd_L1 x3_1 x6_2).length : Int) := of_decide_eq_true (by first | (with_reducible assumption) | assumption)
           obtain ⟨ad153, e153, hx153_0⟩ := Kd.at_int (by repeat (first | (with_reducible exact HR152_0.out) | (with_reducible refine Kd.C_alloc ?_ _) | (with_reducible refine Kd.C_drewN ?_ _) | (with_reducible refine Kd.C_drew ?_) | exact HR152_0.out)) 0 p153 q153
           cases e153
           have qi153 : (0 < (rd_L1 x3_1 x6_2).length) = True := eq_true (by omega)
           (try rw [show ((0 : Int)).toNat = 0 from rfl] at hx153_0)
           (try rw [Addr.add_zero'] at hx153_0)
           replace p153 := eq_true p153
           replace q153 := eq_true q153
           refine start_ (n := 17) (S := fun w' => w'.cell? (ad150.add (x6_2).toNat) = some (.slice (some ad151) (rd_L1 x3_1 x6_2).length c150_0) ∧ w'.cell? ⟨ad151.block, ad151.off + 1, none⟩ = some (.int .i64 (rd (rd_L1 x3_1 x6_2) 1)) ∧ w'.cell? (ad150.add (x6_2).toNat) = some (.slice (some ad151) (rd_L1 x3_1 x6_2).length c150_0) ∧ w'.cell? ad151 = some (.int .i64 (rd (rd_L1 x3_1 x6_2) 0))) (ds := [14, 15]) #[false, false, false, false, false, false, false, false, false, false, false, false, false, false, false, false, false] (by kernel_rfl) rfl rfl ⟨hx150_0, hx151_0, hx152_0, hx153_0⟩ (fun hHeld => ?_); refine with_tabW spec_l09Hilbert.tab9 spec_l09Hilbert.bits9 (fun HT_ HW_ => ?_)
           generalize wr.drew = w16 at HO_3 HO_5 HB HL150_0 HL152_0 HR150_0 HR152_0 hx150_0 hx151_0 hx152_0 hx153_0 hHeld ⊢
           refine pure_ (i := 0) (N := some 23) (v := ?_) (a' := ?_) #[true, false, false, false, false, false, false, false, false, false, false, false, false, false, false, false, false] rfl rfl (any_of HT_.out (by kernel_rfl)) (fun _ _ _ h => h) (Or.inl ⟨by rfl, ?_⟩) ?_ ?_
           rotate_left
           ·intro w'
            go_simp
            with_reducible rfl
           rotate_left
           ·simp only [Act.put, List.setIfInBounds_toArray, List.set_cons_zero, List.set_cons_succ, i64_w, i32_w]
            rfl
           refine pure_ (i := 1) (N := some 24) (v := ?_) (a' := ?_) #[true, true, false, false, false, false, false, false, false, false, false, false, false, false, false, false, false] rfl rfl (any_of HT_.out (by kernel_rfl)) (fun _ _ _ h => h) (Or.inl ⟨by rfl, ?_⟩) ?_ ?_
           rotate_left
           ·intro w'
            go_simp
            with_reducible rfl
           rotate_left
           ·simp only [Act.put, List.setIfInBounds_toArray, List.set_cons_zero, List.set_cons_succ, i64_w, i32_w]
            rfl
           refine pure_ (i := 2) (N := some 25) (v := ?_) (a' := ?_) #[true, true, true, false, false, false, false, false, false, false, false, false, false, false, false, false, false] rfl rfl (any_of HT_.out (by kernel_rfl)) (fun _ _ _ h => h) (Or.inl ⟨by rfl, ?_⟩) ?_ ?_
           rotate_left
           ·intro w'
            go_simp
            with_reducible rfl
           rotate_left
           ·simp only [Act.put, List.setIfInBounds_toArray, List.set_cons_zero, List.set_cons_succ, i64_w, i32_w]
            rfl
           refine pure_ (i := 3) (N := some 26) (v := ?_) (a' := ?_) #[true, true, true, true, false, false, false, false, false, false, false, false, false, false, false, false, false] rfl rfl (any_of HT_.out (by kernel_rfl)) (fun _ _ _ h => h) (Or.inl ⟨by rfl, ?_⟩) ?_ ?_
           rotate_left
           ·intro w'
            go_simp
            with_reducible rfl
           rotate_left
           ·simp only [Act.put, List.setIfInBounds_toArray, List.set_cons_zero, List.set_cons_succ, i64_w, i32_w]
            rfl
           refine pure_ (i := 7) (N := some 30) (v := ?_) (a' := ?_) #[true, true, true, true, false, false, false, true, false, false, false, false, false, false, false, false, false] rfl rfl (any_of HT_.out (by kernel_rfl)) (fun _ _ _ h => h) (Or.inl ⟨by rfl, ?_⟩) ?_ ?_
           rotate_left
           ·intro w'
            go_simp
            with_reducible rfl
           rotate_left
           ·simp only [Act.put, List.setIfInBounds_toArray, List.set_cons_zero, List.set_cons_succ, i64_w, i32_w]
            rfl
           refine pure_ (i := 8) (N := some 31) (v := ?_) (a' := ?_) #[true, true, true, true, false, false, false, true, true, false, false, false, false, false, false, false, false] rfl rfl (any_of HT_.out (by kernel_rfl)) (fun _ _ _ h => h) (Or.inl ⟨by rfl, ?_⟩) ?_ ?_
           rotate_left
           ·intro w'
            go_simp
            with_reducible rfl
           rotate_left
           ·simp only [Act.put, List.setIfInBounds_toArray, List.set_cons_zero, List.set_cons_succ, i64_w, i32_w]
            rfl
           refine pure_ (i := 9) (N := some 32) (v := ?_) (a' := ?_) #[true, true, true, true, false, false, false, true, true, true, false, false, false, false, false, false, false] rfl rfl (any_of HT_.out (by kernel_rfl)) (fun _ _ _ h => h) (Or.inl ⟨by rfl, ?_⟩) ?_ ?_
           rotate_left
           ·intro w'
            go_simp
            with_reducible rfl
           rotate_left
           ·simp only [Act.put, List.setIfInBounds_toArray, List.set_cons_zero, List.set_cons_succ, i64_w, i32_w]
            rfl
           refine take_ (i := 4) (N := some 27) (v := ?_) (a' := ?_) #[true, true, true, true, true, false, false, true, true, true, false, false, false, false, false, false, false] rfl rfl (take_ofW HT_.out HW_.out (by kernel_rfl)) (fun _ _ _ h => h) (Or.inl ⟨by rfl, ?_⟩) hHeld ?_ ?_
           rotate_left
           ·rintro w' ⟨s0, s1, s2, s3⟩
            go_simp
            with_reducible rfl
           rotate_left
           ·simp only [Act.put, List.setIfInBounds_toArray, List.set_cons_zero, List.set_cons_succ, i64_w, i32_w]
            rfl
           refine pure_ (i := 5) (N := some 28) (v := ?_) (a' := ?_) #[true, true, true, true, true, true, false, true, true, true, false, false, false, false, false, false, false] rfl rfl (any_of HT_.out (by kernel_rfl)) (fun _ _ _ h => h) (Or.inl ⟨by rfl, ?_⟩) ?_ ?_
           rotate_left
           ·intro w'
            go_simp
            with_reducible rfl
           rotate_left
           ·simp only [Act.put, List.setIfInBounds_toArray, List.set_cons_zero, List.set_cons_succ, i64_w, i32_w]
            rfl
           refine take_ (i := 6) (N := some 29) (v := ?_) (a' := ?_) #[true, true, true, true, true, true, true, true, true, true, false, false, false, false, false, false, false] rfl rfl (take_ofW HT_.out HW_.out (by kernel_rfl)) (fun _ _ _ h => h) (Or.inl ⟨by rfl, ?_⟩) hHeld ?_ ?_
           rotate_left
           ·rintro w' ⟨s0, s1, s2, s3⟩
            go_simp
            with_reducible rfl
           rotate_left
           ·simp only [Act.put, List.setIfInBounds_toArray, List.set_cons_zero, List.set_cons_succ, i64_w, i32_w]
            rfl
           refine take_ (i := 10) (N := some 33) (v := ?_) (a' := ?_) #[true, true, true, true, true, true, true, true, true, true, true, false, false, false, false, false, false] rfl rfl (take_ofW HT_.out HW_.out (by kernel_rfl)) (fun _ _ _ h => h) (Or.inl ⟨by rfl, ?_⟩) hHeld ?_ ?_
           rotate_left
           ·rintro w' ⟨s0, s1, s2, s3⟩
            go_simp
            with_reducible rfl
           rotate_left
           ·simp only [Act.put, List.setIfInBounds_toArray, List.set_cons_zero, List.set_cons_succ, i64_w, i32_w]
            rfl
           refine pure_ (i := 11) (N := some 34) (v := ?_) (a' := ?_) #[true, true, true, true, true, true, true, true, true, true, true, true, false, false, false, false, false] rfl rfl (any_of HT_.out (by kernel_rfl)) (fun _ _ _ h => h) (Or.inl ⟨by rfl, ?_⟩) ?_ ?_
           rotate_left
           ·intro w'
            go_simp
            with_reducible rfl
           rotate_left
           ·simp only [Act.put, List.setIfInBounds_toArray, List.set_cons_zero, List.set_cons_succ, i64_w, i32_w]
            rfl
           refine take_ (i := 12) (N := some 35) (v := ?_) (a' := ?_) #[true, true, true, true, true, true, true, true, true, true, true, true, true, false, false, false, false] rfl rfl (take_ofW HT_.out HW_.out (by kernel_rfl)) (fun _ _ _ h => h) (Or.inl ⟨by rfl, ?_⟩) hHeld ?_ ?_
           rotate_left
           ·rintro w' ⟨s0, s1, s2, s3⟩
            go_simp
            with_reducible rfl
           rotate_left
           ·simp only [Act.put, List.setIfInBounds_toArray, List.set_cons_zero, List.set_cons_succ, i64_w, i32_w]
            rfl
           refine one_ (i := 13) (N := some 36) #[true, true, true, true, true, true, true, true, true, true, true, true, true, true, false, false, false] rfl rfl (one_of HT_.out (by kernel_rfl)) (by decide) (fun K hK => ?_)
           refine Kd.R_lit_step (Kd.int .i64) _ 2 ?hg (N := 36) ?hd (xs := ([rd (rd_L1 x3_1 x6_2) 1, rd (rd_L1 x3_1 x6_2) 0] : List Int)) (inner := [.int .i64 (rd (rd_L1 x3_1 x6_2) 1), .int .i64 (rd (rd_L1 x3_1 x6_2) 0)]) (ok := fun _ => True) (okp := fun _ => True) ?hr ?hp (fun _ hk => hk) trivial (Below.refl _ _) (Nat.le_refl _) (by simp) ?_; (case hd => rfl); (case hg => rfl); (case hr => first | (go_simp; done) | (go_simp; rfl)); (case hp => exact (Reps.one (show Kd.M (Kd.int .i64) _ _ _ (rd (rd_L1 x3_1 x6_2) 1) [.int .i64 (rd (rd_L1 x3_1 x6_2) 1)] from rfl) (Reps.one (show Kd.M (Kd.int .i64) _ _ _ (rd (rd_L1 x3_1 x6_2) 0) [.int .i64 (rd (rd_L1 x3_1 x6_2) 0)] from rfl) (Reps.none _ _))))
           intro v155 w17 ho18 hb hg_ hnew_
           have HS0_ := (hb.cell (World.block_lt_of_cell? _ _ (hHeld.1))).trans (hHeld.1)
           have HS1_ := (hb.cell (World.block_lt_of_cell? _ _ (hHeld.2.1))).trans (hHeld.2.1)
           have HS2_ := (hb.cell (World.block_lt_of_cell? _ _ (hHeld.2.2.1))).trans (hHeld.2.2.1)
           have HS3_ := (hb.cell (World.block_lt_of_cell? _ _ (hHeld.2.2.2))).trans (hHeld.2.2.2)
           clear hg_ hnew_
           (first | rw [← Ny154.out] at ho18 | (simp only [Int.reduceToNat] at ho18; rw [← Ny154.out] at ho18))
           have n0_ := Aside0.mk (Kd.N_elder' (by (with_reducible repeat (first | apply Kd.N_alloc | apply Kd.N_drewN | apply Kd.N_drew)); exact HO_3.out) (Kd.R_base ho18) hb)
           have n1_ := Aside0.mk (Kd.N_elder' (by (with_reducible repeat (first | apply Kd.N_alloc | apply Kd.N_drewN | apply Kd.N_drew)); exact HO_5.out) (Kd.R_base ho18) hb)
           have n2_ := Aside0.mk (Kd.V_elder' (by (with_reducible repeat (first | apply Kd.V_alloc | apply Kd.V_drewN | apply Kd.V_drew)); exact HL150_0.out) (Kd.R_base ho18) hb)
           have n3_ := Aside0.mk (Kd.V_elder' (by (with_reducible repeat (first | apply Kd.V_alloc | apply Kd.V_drewN | apply Kd.V_drew)); exact HL152_0.out) (Kd.R_base ho18) hb)
           have n4_ := Aside0.mk (Kd.R_lower (Kd.R_newM (M := fun k_ => (w.heap.size ≤ k_)) ho18 (below_size (by repeat (first | (with_reducible first | exact HB.out | apply below_alloc | apply pw_below_drewN | apply below_drew1) | exact HB.out))) (fun k_ h_ => h_)) (below_size (by repeat (first | (with_reducible first | exact HB.out | apply below_alloc | apply pw_below_drewN | apply below_drew1) | exact HB.out))))
           have n5_ := Aside0.mk (Kd.C_below (by repeat (first | (with_reducible exact HR150_0.out) | (with_reducible refine Kd.C_alloc ?_ _) | (with_reducible refine Kd.C_drewN ?_ _) | (with_reducible refine Kd.C_drew ?_) | exact HR150_0.out)) hb)
           have n6_ := Aside0.mk (Kd.C_below (by repeat (first | (with_reducible exact HR152_0.out) | (with_reducible refine Kd.C_alloc ?_ _) | (with_reducible refine Kd.C_drewN ?_ _) | (with_reducible refine Kd.C_drew ?_) | exact HR152_0.out)) hb)
           have n7_ := Aside0.mk (below_step (by repeat (first | (with_reducible first | exact HB.out | apply below_alloc | apply pw_below_drewN | apply below_drew1) | exact HB.out)) hb)
           clear HO_3
           clear HO_5
           clear HL150_0
           clear HL152_0
           clear HR150_0
           clear HR152_0
           clear HB
           have HO_3 := n0_
           have HO_5 := n1_
           have HL150_0 := n2_
           have HL152_0 := n3_
           have HO156 := n4_
           have HR150_0 := n5_
           have HR152_0 := n6_
           have HB := n7_
           clear n0_ n1_ n2_ n3_ n4_ n5_ n6_ n7_
           clear hb ho18
           obtain ⟨Ao20, co20, eo20⟩ := Kd.R_slice HO156.out
           (first | subst eo20 | (injection eo20 with f1_ f2_ f3_; have f4_ := f1_.symm; have f5_ := f3_.symm; clear f1_ f2_ f3_; subst f4_; subst f5_))
           refine hK.out _ _ ⟨HS0_, HS1_, HS2_, HS3_⟩ (fun hHeld => ?_)
           clear hK K
           refine norm_ (a' := ?_) ?_ ?_
           rotate_left
           ·show Act.put _ (some 36) _ = _
            simp only [Act.put, List.setIfInBounds_toArray, List.set_cons_zero, List.set_cons_succ, i64_w, i32_w]
            rfl
           refine last_ (i := 14) (N := some 37) #[true, true, true, true, true, true, true, true, true, true, true, true, true, true, true, false, false] rfl rfl (one_of HT_.out (by kernel_rfl)) (by decide) (fun K hK => ?_)
           refine value_ (w1 := ?_) (v := ?_) (by rfl) rfl ?_ ?_
           rotate_left 2
           ·go_simp
            constructor
            ·rfl
            ·rfl
           refine hK.out _ _ ?_
           clear hK K
           refine norm_ (a' := ?_) ?_ ?_
           rotate_left
           ·show Act.put _ (some 37) _ = _
            simp only [Act.put, List.setIfInBounds_toArray, List.set_cons_zero, List.set_cons_succ, i64_w, i32_w]
            rfl
           refine last_ (i := 15) (N := some 38) #[true, true, true, true, true, true, true, true, true, true, true, true, true, true, true, true, false] rfl rfl (one_of HT_.out (by kernel_rfl)) (by decide) (fun K hK => ?_)
           refine Kd.N_append_step (Kd.slice 2 (Kd.int .i64)) (w0 := w) w.heap.size (by rfl) (.tmp 23) (.tmp 37) 22 34 (.slice none 0 0) 24 rfl Try.underlying22 info34 rfl (by decide) (by omega) u5 x5_2 y154 [.slice Ao20 y154.length co20] (fun k_ => (w.heap.size ≤ k_) ∧ some k_ ≠ (.slice (some ad150) x3_1.length co15 : Value).ownBlock) (fun k_ => ((fun k_ => (w.heap.size ≤ k_) ∧ some k_ ≠ (.slice (some ad150) x3_1.length co15 : Value).ownBlock)) k_ ∧ some k_ ≠ (u5 : Value).ownBlock) rfl rfl ?aP (fun _ hk => hk) ?aF ?aO ?aB ?aS ?aL ?_
           (case aP => exact (Kd.FK_slice_mk (Kd.R_reads' (Kd.R_mono (ok' := (fun k_ => ((fun k_ => (w.heap.size ≤ k_) ∧ some k_ ≠ (.slice (some ad150) x3_1.length co15 : Value).ownBlock)) k_ ∧ some k_ ≠ (u5 : Value).ownBlock)) (Kd.R_apart' (Kd.R_apart' (HO156.out) (Kd.N_typed HO_3.out) (by decide)) (Kd.N_typed HO_5.out) (by decide)) (fun k_ hk => ⟨⟨hk.1.1.1, hk.1.2⟩, hk.2⟩))).2.1 (Kd.R_F (Kd.R_mono (ok' := (fun k_ => ((fun k_ => (w.heap.size ≤ k_) ∧ some k_ ≠ (.slice (some ad150) x3_1.length co15 : Value).ownBlock)) k_ ∧ some k_ ≠ (u5 : Value).ownBlock)) (Kd.R_apart' (Kd.R_apart' (HO156.out) (Kd.N_typed HO_3.out) (by decide)) (Kd.N_typed HO_5.out) (by decide)) (fun k_ hk => ⟨⟨hk.1.1.1, hk.1.2⟩, hk.2⟩)))))
           (case aB => exact (by repeat (first | (with_reducible first | exact HB.out | apply below_alloc | apply pw_below_drewN | apply below_drew1) | exact HB.out)))
           (case aF => exact (fun k_ hk => ⟨(Nat.le_trans (below_size (by repeat (first | (with_reducible first | exact HB.out | apply below_alloc | apply pw_below_drewN | apply below_drew1) | exact HB.out))) hk), Kd.fresh' (Kd.N_lt (by (with_reducible repeat (first | apply Kd.N_alloc | apply Kd.N_drewN | apply Kd.N_drew)); exact HO_3.out)) k_ hk⟩))
           (case aO => exact (by (with_reducible repeat (first | apply Kd.N_alloc | apply Kd.N_drewN | apply Kd.N_drew)); exact Kd.N_mono HO_5.out (fun _ hk => ⟨hk.1.1, hk.1.2⟩)))
           (case aS => exact (below_size (by repeat (first | (with_reducible first | exact HB.out | apply below_alloc | apply pw_below_drewN | apply below_drew1) | exact HB.out))))
           (case aL => have := LMc14.out; omega)
           intro v158 w19 ho hb hg hat
           rw [← Ny157.out] at ho
           have n0_ := Aside0.mk (Kd.N_afterv (ok := (fun k_ => (w.heap.size ≤ k_) ∧ some k_ ≠ (.slice Ao20 y154.length co20 : Value).ownBlock)) (by (with_reducible repeat (first | apply Kd.N_alloc | apply Kd.N_drewN | apply Kd.N_drew)); exact Kd.N_mono HO_3.out (fun _ hk => ⟨⟨hk.1.1, hk.2⟩, hk.1.2⟩)) hg hat)
           have n1_ := Aside0.mk (Kd.V_afterv (ok := (fun k_ => (w.heap.size ≤ k_) ∧ some k_ ≠ (.slice (some ad150) x3_1.length co15 : Value).ownBlock ∧ some k_ ≠ (.slice Ao20 y154.length co20 : Value).ownBlock)) (by (with_reducible repeat (first | apply Kd.V_alloc | apply Kd.V_drewN | apply Kd.V_drew)); exact Kd.V_mono HL150_0.out (fun _ hk => ⟨⟨hk.1.1.1, ⟨hk.1.2, hk.2⟩⟩, hk.1.1.2⟩)) hg hat)
           have n2_ := Aside0.mk (Kd.V_afterv (ok := (fun k_ => (w.heap.size ≤ k_) ∧ some k_ ≠ (.slice (some ad150) x3_1.length co15 : Value).ownBlock ∧ some k_ ≠ (.slice Ao20 y154.length co20 : Value).ownBlock)) (by (with_reducible repeat (first | apply Kd.V_alloc | apply Kd.V_drewN | apply Kd.V_drew)); exact Kd.V_mono HL152_0.out (fun _ hk => ⟨⟨hk.1.1.1, ⟨hk.1.2, hk.2⟩⟩, hk.1.1.2⟩)) hg hat)
           have n3_ := Aside0.mk (hb)
           have n4_ := Aside0.mk (ho)
           clear HO_3
           clear HL150_0
           clear HL152_0
           clear HB
           clear HO_5
           clear HO156
           have HO_3 := n0_
           have HL150_0 := n1_
           have HL152_0 := n2_
           have HB := n3_
           have HO159 := n4_
           clear n0_ n1_ n2_ n3_ n4_
           clear ho hb hg hat
           refine hK.out _ _ ?_
           clear hK K
           refine norm_ (a' := ?_) ?_ ?_
           rotate_left
           ·show Act.put _ (some 38) _ = _
            simp only [Act.put, List.setIfInBounds_toArray, List.set_cons_zero, List.set_cons_succ, i64_w, i32_w]
            rfl
           refine pure_ (i := 16) (N := some 5) (v := ?_) (a' := ?_) #[true, true, true, true, true, true, true, true, true, true, true, true, true, true, true, true, true] rfl rfl (any_of HT_.out (by kernel_rfl)) (fun _ _ _ h => h) (Or.inl ⟨by rfl, ?_⟩) ?_ ?_
           rotate_left
           ·intro w'
            go_simp
            with_reducible rfl
           rotate_left
           ·simp only [Act.put, List.setIfInBounds_toArray, List.set_cons_zero, List.set_cons_succ, i64_w, i32_w]
            rfl
           refine done_ (done_of HT_.out (by kernel_rfl)) ?_
           try go_wp2
           go_roundg k2
           case measure => have := HK1.out; have := HK2.out; omega
           case rel => exact ⟨(y157), (wrap64 (x6_2 + 1)), (by first | rfl | (simp; done) | (simp [*]; done)), H', ⟨by have := HK1.out; have := HK2.out; omega⟩, ⟨by (with_reducible repeat (first | apply Kd.N_alloc | apply Kd.N_drewN | apply Kd.N_drew)); exact Kd.N_mono HO_3.out (fun _ hk => ⟨hk.1.1, hk.2⟩)⟩, ⟨by (with_reducible repeat (first | apply Kd.N_alloc | apply Kd.N_drewN | apply Kd.N_drew)); exact HO159.out⟩, ⟨by repeat (first | (with_reducible first | exact HB.out | apply below_alloc | apply pw_below_drewN | apply below_drew1) | exact HB.out)⟩⟩
          ·rw [if_neg c14] at H
           exact absurd H (by simp)
         ·rw [if_neg c13] at H
          exact absurd H (by simp)
        ·rw [if_neg c12] at H
         exact absurd H (by simp)
       ·rw [if_neg c11] at H
        exact absurd H (by simp)
      ·rw [if_neg c10] at H
       have c10b0 : decide (x6_2 < (x3_1.length : Int)) = false := decide_eq_false c10
       clear c10
       have H' := Aside0.mk H
       clear H
       obtain ⟨Ao21, co21, eo21⟩ := Kd.N_slice HO_3.out
       subst eo21
       go_wp2
       go_loopg [5, 7] k2 (fun kq v5 v7 w' => ∃ (x5_3 : List (List Int)) (x7_3 : Int), v7 = .int .i64 x7_3 ∧ Aside0 (spec_l09Hilbert.l2 kq x0_1 x3_1 x4_1 x5_3 x7_3 = some r) ∧ Aside0 (kq ≤ k2) ∧ Aside0 (Kd.N (Kd.slice 2 (Kd.int .i64)) 34 w' w.heap.size (fun k_ => (w.heap.size ≤ k_) ∧ some k_ ≠ (v5 : Value).ownBlock) (.slice Ao21 x3_1.length co21) x3_1) ∧ Aside0 (Kd.N (Kd.slice 2 (Kd.int .i64)) 34 w' w.heap.size (fun k_ => (w.heap.size ≤ k_) ∧ some k_ ≠ ((.slice Ao21 x3_1.length co21) : Value).ownBlock) v5 x5_3) ∧ Aside0 (Below w.heap.size w w'))
       case atStart => exact ⟨(x5_2), (0), (by first | rfl | (simp; done) | (simp [*]; done)), H', ⟨Nat.le_refl _⟩, ⟨by (with_reducible repeat (first | apply Kd.N_alloc | apply Kd.N_drewN | apply Kd.N_drew)); exact HO_3.out⟩, ⟨by (with_reducible repeat (first | apply Kd.N_alloc | apply Kd.N_drewN | apply Kd.N_drew)); exact HO_5.out⟩, ⟨by repeat (first | (with_reducible first | exact HB.out | apply below_alloc | apply pw_below_drewN | apply below_drew1) | exact HB.out)⟩⟩
       case round =>
        clear H'
        try clear c1
        try clear p1
        try clear q1
        try clear hx1
        try clear qi1
        try clear p2
        try clear c6
        try clear p6
        try clear c7
        try clear c7b0
        try clear c10
        try clear c10b0
        try clear c11
        try clear c11b0
        try clear c12
        try clear c12b0
        try clear c12b1
        try clear c13
        try clear c13b0
        try clear c13b1
        try clear c14
        try clear c15
        try clear p15
        try clear q15
        try clear hx15
        try clear qi15
        try clear hx150_0
        try clear hx151_0
        try clear hx152_0
        try clear hx153_0
        try clear p150
        try clear p151
        try clear p152
        try clear p153
        try clear p2
        try clear q150
        try clear q151
        try clear q152
        try clear q153
        obtain ⟨x5_3, x7_3, rfl, HA, HK3, HO_3, HO_5, HB⟩ := hrel
        cases gk with
        | zero => exact absurd HA.out (by simp [spec_l09Hilbert.l2])
        | succ k3 =>
         have H := HA.out
         clear HA
         simp only [spec_l09Hilbert.l2] at H
         by_cases c22 : x7_3 < (x3_1.length : Int)
         ·rw [if_pos c22] at H
          have c22b0 : decide (x7_3 < (x3_1.length : Int)) = true := decide_eq_true c22
          clear c22
          by_cases c23 : 0 ≤ x7_3
          ·rw [if_pos c23] at H
           have c23b0 : decide (0 ≤ x7_3) = true := decide_eq_true c23
           clear c23
           by_cases c24 : 0 < ((rd_L1 x3_1 x7_3).length : Int)
           ·rw [if_pos c24] at H
            have c24b0 : decide (0 < ((rd_L1 x3_1 x7_3).length : Int)) = true := decide_eq_true c24
            have c24b1 : decide (0 < (rd_L1 x3_1 x7_3).length) = true := decide_eq_true (by omega)
            clear c24
            by_cases c25 : 1 < ((rd_L1 x3_1 x7_3).length : Int)
            ·rw [if_pos c25] at H
             have c25b0 : decide (1 < ((rd_L1 x3_1 x7_3).length : Int)) = true := decide_eq_true c25
             have c25b1 : decide (1 < (rd_L1 x3_1 x7_3).length) = true := decide_eq_true (by omega)
             clear c25
             obtain ⟨y164, hy164⟩ : ∃ y_ : List Int, y_ = (([rd (rd_L1 x3_1 x7_3) 0, wrap64 ((rd (rd_L1 x3_1 x7_3) 1) + x4_1)] : List Int)) := ⟨_, rfl⟩
             replace H : (if x5_3.length < 5864062014805 then (spec_l09Hilbert.l2 k3 x0_1 x3_1 x4_1 (x5_3 ++ [y164]) (wrap64 (x7_3 + 1))) else (none)) = some r := by first | (rw [hy164]; with_reducible exact H) | (have H2_ := (Option.bind_some _ _).symm.trans H; rw [hy164]; with_reducible exact H2_) | (have H2_ := (Option.bind_some _ _).symm.trans H; with_reducible exact H2_) | with_reducible exact H | (rw [hy164]; exact H) | exact H
             have Ny164 := Aside0.mk hy164
             clear hy164
             by_cases c26 : x5_3.length < 5864062014805
             ·rw [if_pos c26] at H
              have LMc26 := Aside0.mk c26
              clear c26
              obtain ⟨y167, hy167⟩ : ∃ y_ : List (List Int), y_ = (x5_3 ++ [y164]) := ⟨_, rfl⟩
              replace H : (spec_l09Hilbert.l2 k3 x0_1 x3_1 x4_1 y167 (wrap64 (x7_3 + 1))) = some r := by first | (rw [hy167]; with_reducible exact H) | (have H2_ := (Option.bind_some _ _).symm.trans H; rw [hy167]; with_reducible exact H2_) | (have H2_ := (Option.bind_some _ _).symm.trans H; with_reducible exact H2_) | with_reducible exact H | (rw [hy167]; exact H) | exact H
              have Ny167 := Aside0.mk hy167
              clear hy167
              have H' := Aside0.mk H
              clear H
              try go_wp2
              have n0_ := Aside0.mk (Kd.N_drew HO_3.out)
              have n1_ := Aside0.mk (Kd.N_drew HO_5.out)
              have n2_ := Aside0.mk (below_drew1 HB.out)
              clear HO_3
              clear HO_5
              clear HB
              have HO_3 := n0_
              have HO_5 := n1_
              have HB := n2_
              clear n0_ n1_ n2_
              have p160 : 0 ≤ (x7_3 : Int) := of_decide_eq_true (by first | (with_reducible assumption) | assumption)
              have q160 : x7_3 < (x3_1.length : Int) := of_decide_eq_true (by first | (with_reducible assumption) | assumption)
              obtain ⟨ad160, A160_0, c160_0, e160, hx160_0, hl160_0, hi160_0⟩ := at_L1 (Kd.N_reads' HO_3.out).2.2 x7_3 p160 q160
              cases e160
              obtain ⟨ce160, hce160, hMe160, hcc160⟩ := Kd.N_get HO_3.out [] x7_3 p160 (by first | exact q160 | exact of_decide_eq_true (by first | (with_reducible assumption) | assumption) | (have e_ := (Kd.N_reads' HO_3.out).1; omega))
              obtain ⟨ua160_0, uc160_0, rfl, ul160_0, ge160_0⟩ := Kd.FK_slice_open hMe160
              have hv160_0 := hcc160 0 _ rfl
              rw [Nat.add_zero, show ((Kd.slice 2 (Kd.int .i64))).sz = 1 from rfl, Nat.mul_one] at hv160_0
              replace hv160_0 := Option.some.inj (hv160_0.symm.trans hx160_0)
              injection hv160_0 with hva_ hvn_ hvc_
              rw [hva_] at ge160_0
              rw [hvc_] at ul160_0
              have HL160_0 := Aside0.mk (show Kd.V (Kd.int .i64) 2 _ w.heap.size _ _ (rd_L1 x3_1 x7_3) from Kd.V_mk ul160_0 ge160_0)
              clear hva_ hvn_ hvc_ ge160_0 ul160_0
              clear hcc160 hce160
              have HR160_0 := Aside0.mk hi160_0
              have HC160_0 := Aside0.mk hl160_0
              clear hi160_0 hl160_0
              replace p160 := eq_true p160
              replace q160 := eq_true q160
              have p161 : 0 ≤ (0 : Int) := (by omega)
              have q161 : 0 < ((rd_L1 x3_1 x7_3).length : Int) := of_decide_eq_true (by first | (with_reducible assumption) | assumption)
              obtain ⟨ad161, e161, hx161_0⟩ := Kd.at_int (by repeat (first | (with_reducible exact HR160_0.out) | (with_reducible refine Kd.C_alloc ?_ _) | (with_reducible refine Kd.C_drewN ?_ _) | (with_reducible refine Kd.C_drew ?_) | exact HR160_0.out)) 0 p161 q161
              cases e161
              have qi161 : (0 < (rd_L1 x3_1 x7_3).length) = True := eq_true (by omega)
              (try rw [show ((0 : Int)).toNat = 0 from rfl] at hx161_0)
              (try rw [Addr.add_zero'] at hx161_0)
              replace p161 := eq_true p161
              replace q161 := eq_true q161
              have p162 : 0 ≤ (x7_3 : Int) := of_decide_eq_true (by first | (with_reducible assumption) | assumption)
              have q162 : x7_3 < (x3_1.length : Int) := of_decide_eq_true (by first | (with_reducible assumption) | assumption)
              obtain ⟨ad162, A162_0, c162_0, e162, hx162_0, hl162_0, hi162_0⟩ := at_L1 (Kd.N_reads' HO_3.out).2.2 x7_3 p162 q162
              obtain rfl : ad160 = ad162 := (by injection e162)
              obtain ⟨ce162, hce162, hMe162, hcc162⟩ := Kd.N_get HO_3.out [] x7_3 p162 (by first | exact q162 | exact of_decide_eq_true (by first | (with_reducible assumption) | assumption) | (have e_ := (Kd.N_reads' HO_3.out).1; omega))
              obtain ⟨ua162_0, uc162_0, rfl, ul162_0, ge162_0⟩ := Kd.FK_slice_open hMe162
              have hv162_0 := hcc162 0 _ rfl
              rw [Nat.add_zero, show ((Kd.slice 2 (Kd.int .i64))).sz = 1 from rfl, Nat.mul_one] at hv162_0
              replace hv162_0 := Option.some.inj (hv162_0.symm.trans hx162_0)
              injection hv162_0 with hva_ hvn_ hvc_
              rw [hva_] at ge162_0
              rw [hvc_] at ul162_0
              have HL162_0 := Aside0.mk (show Kd.V (Kd.int .i64) 2 _ w.heap.size _ _ (rd_L1 x3_1 x7_3) from Kd.V_mk ul162_0 ge162_0)
              clear hva_ hvn_ hvc_ ge162_0 ul162_0
              clear hcc162 hce162
              have HR162_0 := Aside0.mk hi162_0
              have HC162_0 := Aside0.mk hl162_0
              clear hi162_0 hl162_0
              replace p162 := eq_true p162
              replace q162 := eq_true q162
              have ea_ := Option.some.inj (hx160_0.symm.trans hx162_0)
              injection ea_ with ea_ en_ ec_
              subst ea_
              subst ec_
              clear en_
              have p163 : 0 ≤ (1 : Int) := (by omega)
              have q163 : 1 < ((rd_L1 x3_1 x7_3).length : Int) := of_decide_eq_true (by first | (with_reducible assumption) | assumption)
              obtain ⟨ad163, e163, hx163_0⟩ := Kd.at_int (by repeat (first | (with_reducible exact HR162_0.out) | (with_reducible refine Kd.C_alloc ?_ _) | (with_reducible refine Kd.C_drewN ?_ _) | (with_reducible refine Kd.C_drew ?_) | exact HR162_0.out)) 1 p163 q163
              cases e163
              (try simp only [show (1 : Int).toNat = 1 from rfl, Nat.reduceMul, Nat.reduceEqDiff, Go.Addr.add, ↓reduceIte] at hx163_0)
              have qi163 : (1 < (rd_L1 x3_1 x7_3).length) = True := eq_true (by omega)
              (try rw [show ((1 : Int)).toNat = 1 from rfl] at hx163_0)
              replace p163 := eq_true p163
              replace q163 := eq_true q163
              refine start_ (n := 19) (S := fun w' => w'.cell? (ad160.add (x7_3).toNat) = some (.slice (some ad161) (rd_L1 x3_1 x7_3).length c160_0) ∧ w'.cell? ad161 = some (.int .i64 (rd (rd_L1 x3_1 x7_3) 0)) ∧ w'.cell? (ad160.add (x7_3).toNat) = some (.slice (some ad161) (rd_L1 x3_1 x7_3).length c160_0) ∧ w'.cell? ⟨ad161.block, ad161.off + 1, none⟩ = some (.int .i64 (rd (rd_L1 x3_1 x7_3) 1))) (ds := [16, 17]) #[false, false, false, false, false, false, false, false, false, false, false, false, false, false, false, false, false, false, false] (by kernel_rfl) rfl rfl ⟨hx160_0, hx161_0, hx162_0, hx163_0⟩ (fun hHeld => ?_); refine with_tabW spec_l09Hilbert.tab13 spec_l09Hilbert.bits13 (fun HT_ HW_ => ?_)
              generalize wr.drew = w27 at HO_3 HO_5 HB HL160_0 HL162_0 HR160_0 HR162_0 hx160_0 hx161_0 hx162_0 hx163_0 hHeld ⊢
              refine pure_ (i := 0) (N := some 45) (v := ?_) (a' := ?_) #[true, false, false, false, false, false, false, false, false, false, false, false, false, false, false, false, false, false, false] rfl rfl (any_of HT_.out (by kernel_rfl)) (fun _ _ _ h => h) (Or.inl ⟨by rfl, ?_⟩) ?_ ?_
              rotate_left
              ·intro w'
               go_simp
               with_reducible rfl
              rotate_left
              ·simp only [Act.put, List.setIfInBounds_toArray, List.set_cons_zero, List.set_cons_succ, i64_w, i32_w]
               rfl
              refine pure_ (i := 1) (N := some 46) (v := ?_) (a' := ?_) #[true, true, false, false, false, false, false, false, false, false, false, false, false, false, false, false, false, false, false] rfl rfl (any_of HT_.out (by kernel_rfl)) (fun _ _ _ h => h) (Or.inl ⟨by rfl, ?_⟩) ?_ ?_
              rotate_left
              ·intro w'
               go_simp
               with_reducible rfl
              rotate_left
              ·simp only [Act.put, List.setIfInBounds_toArray, List.set_cons_zero, List.set_cons_succ, i64_w, i32_w]
               rfl
              refine pure_ (i := 2) (N := some 47) (v := ?_) (a' := ?_) #[true, true, true, false, false, false, false, false, false, false, false, false, false, false, false, false, false, false, false] rfl rfl (any_of HT_.out (by kernel_rfl)) (fun _ _ _ h => h) (Or.inl ⟨by rfl, ?_⟩) ?_ ?_
              rotate_left
              ·intro w'
               go_simp
               with_reducible rfl
              rotate_left
              ·simp only [Act.put, List.setIfInBounds_toArray, List.set_cons_zero, List.set_cons_succ, i64_w, i32_w]
               rfl
              refine pure_ (i := 3) (N := some 48) (v := ?_) (a' := ?_) #[true, true, true, true, false, false, false, false, false, false, false, false, false, false, false, false, false, false, false] rfl rfl (any_of HT_.out (by kernel_rfl)) (fun _ _ _ h => h) (Or.inl ⟨by rfl, ?_⟩) ?_ ?_
              rotate_left
              ·intro w'
               go_simp
               with_reducible rfl
              rotate_left
              ·simp only [Act.put, List.setIfInBounds_toArray, List.set_cons_zero, List.set_cons_succ, i64_w, i32_w]
               rfl
              refine pure_ (i := 7) (N := some 52) (v := ?_) (a' := ?_) #[true, true, true, true, false, false, false, true, false, false, false, false, false, false, false, false, false, false, false] rfl rfl (any_of HT_.out (by kernel_rfl)) (fun _ _ _ h => h) (Or.inl ⟨by rfl, ?_⟩) ?_ ?_
              rotate_left
              ·intro w'
               go_simp
               with_reducible rfl
              rotate_left
              ·simp only [Act.put, List.setIfInBounds_toArray, List.set_cons_zero, List.set_cons_succ, i64_w, i32_w]
               rfl
              refine pure_ (i := 8) (N := some 53) (v := ?_) (a' := ?_) #[true, true, true, true, false, false, false, true, true, false, false, false, false, false, false, false, false, false, false] rfl rfl (any_of HT_.out (by kernel_rfl)) (fun _ _ _ h => h) (Or.inl ⟨by rfl, ?_⟩) ?_ ?_
              rotate_left
              ·intro w'
               go_simp
               with_reducible rfl
              rotate_left
              ·simp only [Act.put, List.setIfInBounds_toArray, List.set_cons_zero, List.set_cons_succ, i64_w, i32_w]
               rfl
              refine pure_ (i := 9) (N := some 54) (v := ?_) (a' := ?_) #[true, true, true, true, false, false, false, true, true, true, false, false, false, false, false, false, false, false, false] rfl rfl (any_of HT_.out (by kernel_rfl)) (fun _ _ _ h => h) (Or.inl ⟨by rfl, ?_⟩) ?_ ?_
              rotate_left
              ·intro w'
               go_simp
               with_reducible rfl
              rotate_left
              ·simp only [Act.put, List.setIfInBounds_toArray, List.set_cons_zero, List.set_cons_succ, i64_w, i32_w]
               rfl
              refine pure_ (i := 13) (N := some 58) (v := ?_) (a' := ?_) #[true, true, true, true, false, false, false, true, true, true, false, false, false, true, false, false, false, false, false] rfl rfl (any_of HT_.out (by kernel_rfl)) (fun _ _ _ h => h) (Or.inl ⟨by rfl, ?_⟩) ?_ ?_
              rotate_left
              ·intro w'
               go_simp
               with_reducible rfl
              rotate_left
              ·simp only [Act.put, List.setIfInBounds_toArray, List.set_cons_zero, List.set_cons_succ, i64_w, i32_w]
               rfl
              refine take_ (i := 4) (N := some 49) (v := ?_) (a' := ?_) #[true, true, true, true, true, false, false, true, true, true, false, false, false, true, false, false, false, false, false] rfl rfl (take_ofW HT_.out HW_.out (by kernel_rfl)) (fun _ _ _ h => h) (Or.inl ⟨by rfl, ?_⟩) hHeld ?_ ?_
              rotate_left
              ·rintro w' ⟨s0, s1, s2, s3⟩
               go_simp
               with_reducible rfl
              rotate_left
              ·simp only [Act.put, List.setIfInBounds_toArray, List.set_cons_zero, List.set_cons_succ, i64_w, i32_w]
               rfl
              refine pure_ (i := 5) (N := some 50) (v := ?_) (a' := ?_) #[true, true, true, true, true, true, false, true, true, true, false, false, false, true, false, false, false, false, false] rfl rfl (any_of HT_.out (by kernel_rfl)) (fun _ _ _ h => h) (Or.inl ⟨by rfl, ?_⟩) ?_ ?_
              rotate_left
              ·intro w'
               go_simp
               with_reducible rfl
              rotate_left
              ·simp only [Act.put, List.setIfInBounds_toArray, List.set_cons_zero, List.set_cons_succ, i64_w, i32_w]
               rfl
              refine take_ (i := 6) (N := some 51) (v := ?_) (a' := ?_) #[true, true, true, true, true, true, true, true, true, true, false, false, false, true, false, false, false, false, false] rfl rfl (take_ofW HT_.out HW_.out (by kernel_rfl)) (fun _ _ _ h => h) (Or.inl ⟨by rfl, ?_⟩) hHeld ?_ ?_
              rotate_left
              ·rintro w' ⟨s0, s1, s2, s3⟩
               go_simp
               with_reducible rfl
              rotate_left
              ·simp only [Act.put, List.setIfInBounds_toArray, List.set_cons_zero, List.set_cons_succ, i64_w, i32_w]
               rfl
              refine take_ (i := 10) (N := some 55) (v := ?_) (a' := ?_) #[true, true, true, true, true, true, true, true, true, true, true, false, false, true, false, false, false, false, false] rfl rfl (take_ofW HT_.out HW_.out (by kernel_rfl)) (fun _ _ _ h => h) (Or.inl ⟨by rfl, ?_⟩) hHeld ?_ ?_
              rotate_left
              ·rintro w' ⟨s0, s1, s2, s3⟩
               go_simp
               with_reducible rfl
              rotate_left
              ·simp only [Act.put, List.setIfInBounds_toArray, List.set_cons_zero, List.set_cons_succ, i64_w, i32_w]
               rfl
              refine pure_ (i := 11) (N := some 56) (v := ?_) (a' := ?_) #[true, true, true, true, true, true, true, true, true, true, true, true, false, true, false, false, false, false, false] rfl rfl (any_of HT_.out (by kernel_rfl)) (fun _ _ _ h => h) (Or.inl ⟨by rfl, ?_⟩) ?_ ?_
              rotate_left
              ·intro w'
               go_simp
               with_reducible rfl
              rotate_left
              ·simp only [Act.put, List.setIfInBounds_toArray, List.set_cons_zero, List.set_cons_succ, i64_w, i32_w]
               rfl
              refine take_ (i := 12) (N := some 57) (v := ?_) (a' := ?_) #[true, true, true, true, true, true, true, true, true, true, true, true, true, true, false, false, false, false, false] rfl rfl (take_ofW HT_.out HW_.out (by kernel_rfl)) (fun _ _ _ h => h) (Or.inl ⟨by rfl, ?_⟩) hHeld ?_ ?_
              rotate_left
              ·rintro w' ⟨s0, s1, s2, s3⟩
               go_simp
               with_reducible rfl
              rotate_left
              ·simp only [Act.put, List.setIfInBounds_toArray, List.set_cons_zero, List.set_cons_succ, i64_w, i32_w]
               rfl
              refine pure_ (i := 14) (N := some 59) (v := ?_) (a' := ?_) #[true, true, true, true, true, true, true, true, true, true, true, true, true, true, true, false, false, false, false] rfl rfl (any_of HT_.out (by kernel_rfl)) (fun _ _ _ h => h) (Or.inl ⟨by rfl, ?_⟩) ?_ ?_
              rotate_left
              ·intro w'
               go_simp
               with_reducible rfl
              rotate_left
              ·simp only [Act.put, List.setIfInBounds_toArray, List.set_cons_zero, List.set_cons_succ, i64_w, i32_w]
               rfl
              refine one_ (i := 15) (N := some 60) #[true, true, true, true, true, true, true, true, true, true, true, true, true, true, true, true, false, false, false] rfl rfl (one_of HT_.out (by kernel_rfl)) (by decide) (fun K hK => ?_)
              refine Kd.R_lit_step (Kd.int .i64) _ 2 ?hg (N := 60) ?hd (xs := ([rd (rd_L1 x3_1 x7_3) 0, wrap64 ((rd (rd_L1 x3_1 x7_3) 1) + x4_1)] : List Int)) (inner := [.int .i64 (rd (rd_L1 x3_1 x7_3) 0), .int .i64 (wrap64 ((rd (rd_L1 x3_1 x7_3) 1) + x4_1))]) (ok := fun _ => True) (okp := fun _ => True) ?hr ?hp (fun _ hk => hk) trivial (Below.refl _ _) (Nat.le_refl _) (by simp) ?_; (case hd => rfl); (case hg => rfl); (case hr => first | (go_simp; done) | (go_simp; rfl)); (case hp => exact (Reps.one (show Kd.M (Kd.int .i64) _ _ _ (rd (rd_L1 x3_1 x7_3) 0) [.int .i64 (rd (rd_L1 x3_1 x7_3) 0)] from rfl) (Reps.one (show Kd.M (Kd.int .i64) _ _ _ (wrap64 ((rd (rd_L1 x3_1 x7_3) 1) + x4_1)) [.int .i64 (wrap64 ((rd (rd_L1 x3_1 x7_3) 1) + x4_1))] from rfl) (Reps.none _ _))))
              intro v165 w28 ho29 hb hg_ hnew_
              have HS0_ := (hb.cell (World.block_lt_of_cell? _ _ (hHeld.1))).trans (hHeld.1)
              have HS1_ := (hb.cell (World.block_lt_of_cell? _ _ (hHeld.2.1))).trans (hHeld.2.1)
              have HS2_ := (hb.cell (World.block_lt_of_cell? _ _ (hHeld.2.2.1))).trans (hHeld.2.2.1)
              have HS3_ := (hb.cell (World.block_lt_of_cell? _ _ (hHeld.2.2.2))).trans (hHeld.2.2.2)
              clear hg_ hnew_
              (first | rw [← Ny164.out] at ho29 | (simp only [Int.reduceToNat] at ho29; rw [← Ny164.out] at ho29))
              have n0_ := Aside0.mk (Kd.N_elder' (by (with_reducible repeat (first | apply Kd.N_alloc | apply Kd.N_drewN | apply Kd.N_drew)); exact HO_3.out) (Kd.R_base ho29) hb)
              have n1_ := Aside0.mk (Kd.N_elder' (by (with_reducible repeat (first | apply Kd.N_alloc | apply Kd.N_drewN | apply Kd.N_drew)); exact HO_5.out) (Kd.R_base ho29) hb)
              have n2_ := Aside0.mk (Kd.V_elder' (by (with_reducible repeat (first | apply Kd.V_alloc | apply Kd.V_drewN | apply Kd.V_drew)); exact HL160_0.out) (Kd.R_base ho29) hb)
              have n3_ := Aside0.mk (Kd.V_elder' (by (with_reducible repeat (first | apply Kd.V_alloc | apply Kd.V_drewN | apply Kd.V_drew)); exact HL162_0.out) (Kd.R_base ho29) hb)
              have n4_ := Aside0.mk (Kd.R_lower (Kd.R_newM (M := fun k_ => (w.heap.size ≤ k_)) ho29 (below_size (by repeat (first | (with_reducible first | exact HB.out | apply below_alloc | apply pw_below_drewN | apply below_drew1) | exact HB.out))) (fun k_ h_ => h_)) (below_size (by repeat (first | (with_reducible first | exact HB.out | apply below_alloc | apply pw_below_drewN | apply below_drew1) | exact HB.out))))
              have n5_ := Aside0.mk (Kd.C_below (by repeat (first | (with_reducible exact HR160_0.out) | (with_reducible refine Kd.C_alloc ?_ _) | (with_reducible refine Kd.C_drewN ?_ _) | (with_reducible refine Kd.C_drew ?_) | exact HR160_0.out)) hb)
              have n6_ := Aside0.mk (Kd.C_below (by repeat (first | (with_reducible exact HR162_0.out) | (with_reducible refine Kd.C_alloc ?_ _) | (with_reducible refine Kd.C_drewN ?_ _) | (with_reducible refine Kd.C_drew ?_) | exact HR162_0.out)) hb)
              have n7_ := Aside0.mk (below_step (by repeat (first | (with_reducible first | exact HB.out | apply below_alloc | apply pw_below_drewN | apply below_drew1) | exact HB.out)) hb)
              clear HO_3
              clear HO_5
              clear HL160_0
              clear HL162_0
              clear HR160_0
              clear HR162_0
              clear HB
              have HO_3 := n0_
              have HO_5 := n1_
              have HL160_0 := n2_
              have HL162_0 := n3_
              have HO166 := n4_
              have HR160_0 := n5_
              have HR162_0 := n6_
              have HB := n7_
              clear n0_ n1_ n2_ n3_ n4_ n5_ n6_ n7_
              clear hb ho29
              obtain ⟨Ao31, co31, eo31⟩ := Kd.R_slice HO166.out
              (first | subst eo31 | (injection eo31 with f1_ f2_ f3_; have f4_ := f1_.symm; have f5_ := f3_.symm; clear f1_ f2_ f3_; subst f4_; subst f5_))
              refine hK.out _ _ ⟨HS0_, HS1_, HS2_, HS3_⟩ (fun hHeld => ?_)
              clear hK K
              refine norm_ (a' := ?_) ?_ ?_
              rotate_left
              ·show Act.put _ (some 60) _ = _
               simp only [Act.put, List.setIfInBounds_toArray, List.set_cons_zero, List.set_cons_succ, i64_w, i32_w]
               rfl
              refine last_ (i := 16) (N := some 61) #[true, true, true, true, true, true, true, true, true, true, true, true, true, true, true, true, true, false, false] rfl rfl (one_of HT_.out (by kernel_rfl)) (by decide) (fun K hK => ?_)
              refine value_ (w1 := ?_) (v := ?_) (by rfl) rfl ?_ ?_
              rotate_left 2
              ·go_simp
               constructor
               ·rfl
               ·rfl
              refine hK.out _ _ ?_
              clear hK K
              refine norm_ (a' := ?_) ?_ ?_
              rotate_left
              ·show Act.put _ (some 61) _ = _
               simp only [Act.put, List.setIfInBounds_toArray, List.set_cons_zero, List.set_cons_succ, i64_w, i32_w]
               rfl
              refine last_ (i := 17) (N := some 62) #[true, true, true, true, true, true, true, true, true, true, true, true, true, true, true, true, true, true, false] rfl rfl (one_of HT_.out (by kernel_rfl)) (by decide) (fun K hK => ?_)
              refine Kd.N_append_step (Kd.slice 2 (Kd.int .i64)) (w0 := w) w.heap.size (by rfl) (.tmp 45) (.tmp 61) 22 34 (.slice none 0 0) 24 rfl Try.underlying22 info34 rfl (by decide) (by omega) u5 x5_3 y164 [.slice Ao31 y164.length co31] (fun k_ => (w.heap.size ≤ k_) ∧ some k_ ≠ (.slice (some ad160) x3_1.length co21 : Value).ownBlock) (fun k_ => ((fun k_ => (w.heap.size ≤ k_) ∧ some k_ ≠ (.slice (some ad160) x3_1.length co21 : Value).ownBlock)) k_ ∧ some k_ ≠ (u5 : Value).ownBlock) rfl rfl ?aP (fun _ hk => hk) ?aF ?aO ?aB ?aS ?aL ?_
              (case aP => exact (Kd.FK_slice_mk (Kd.R_reads' (Kd.R_mono (ok' := (fun k_ => ((fun k_ => (w.heap.size ≤ k_) ∧ some k_ ≠ (.slice (some ad160) x3_1.length co21 : Value).ownBlock)) k_ ∧ some k_ ≠ (u5 : Value).ownBlock)) (Kd.R_apart' (Kd.R_apart' (HO166.out) (Kd.N_typed HO_3.out) (by decide)) (Kd.N_typed HO_5.out) (by decide)) (fun k_ hk => ⟨⟨hk.1.1.1, hk.1.2⟩, hk.2⟩))).2.1 (Kd.R_F (Kd.R_mono (ok' := (fun k_ => ((fun k_ => (w.heap.size ≤ k_) ∧ some k_ ≠ (.slice (some ad160) x3_1.length co21 : Value).ownBlock)) k_ ∧ some k_ ≠ (u5 : Value).ownBlock)) (Kd.R_apart' (Kd.R_apart' (HO166.out) (Kd.N_typed HO_3.out) (by decide)) (Kd.N_typed HO_5.out) (by decide)) (fun k_ hk => ⟨⟨hk.1.1.1, hk.1.2⟩, hk.2⟩)))))
              (case aB => exact (by repeat (first | (with_reducible first | exact HB.out | apply below_alloc | apply pw_below_drewN | apply below_drew1) | exact HB.out)))
              (case aF => exact (fun k_ hk => ⟨(Nat.le_trans (below_size (by repeat (first | (with_reducible first | exact HB.out | apply below_alloc | apply pw_below_drewN | apply below_drew1) | exact HB.out))) hk), Kd.fresh' (Kd.N_lt (by (with_reducible repeat (first | apply Kd.N_alloc | apply Kd.N_drewN | apply Kd.N_drew)); exact HO_3.out)) k_ hk⟩))
              (case aO => exact (by (with_reducible repeat (first | apply Kd.N_alloc | apply Kd.N_drewN | apply Kd.N_drew)); exact Kd.N_mono HO_5.out (fun _ hk => ⟨hk.1.1, hk.1.2⟩)))
              (case aS => exact (below_size (by repeat (first | (with_reducible first | exact HB.out | apply below_alloc | apply pw_below_drewN | apply below_drew1) | exact HB.out))))
              (case aL => have := LMc26.out; omega)
              intro v168 w30 ho hb hg hat
              rw [← Ny167.out] at ho
              have n0_ := Aside0.mk (Kd.N_afterv (ok := (fun k_ => (w.heap.size ≤ k_) ∧ some k_ ≠ (.slice Ao31 y164.length co31 : Value).ownBlock)) (by (with_reducible repeat (first | apply Kd.N_alloc | apply Kd.N_drewN | apply Kd.N_drew)); exact Kd.N_mono HO_3.out (fun _ hk => ⟨⟨hk.1.1, hk.2⟩, hk.1.2⟩)) hg hat)
              have n1_ := Aside0.mk (Kd.V_afterv (ok := (fun k_ => (w.heap.size ≤ k_) ∧ some k_ ≠ (.slice (some ad160) x3_1.length co21 : Value).ownBlock ∧ some k_ ≠ (.slice Ao31 y164.length co31 : Value).ownBlock)) (by (with_reducible repeat (first | apply Kd.V_alloc | apply Kd.V_drewN | apply Kd.V_drew)); exact Kd.V_mono HL160_0.out (fun _ hk => ⟨⟨hk.1.1.1, ⟨hk.1.2, hk.2⟩⟩, hk.1.1.2⟩)) hg hat)
              have n2_ := Aside0.mk (Kd.V_afterv (ok := (fun k_ => (w.heap.size ≤ k_) ∧ some k_ ≠ (.slice (some ad160) x3_1.length co21 : Value).ownBlock ∧ some k_ ≠ (.slice Ao31 y164.length co31 : Value).ownBlock)) (by (with_reducible repeat (first | apply Kd.V_alloc | apply Kd.V_drewN | apply Kd.V_drew)); exact Kd.V_mono HL162_0.out (fun _ hk => ⟨⟨hk.1.1.1, ⟨hk.1.2, hk.2⟩⟩, hk.1.1.2⟩)) hg hat)
              have n3_ := Aside0.mk (hb)
              have n4_ := Aside0.mk (ho)
              clear HO_3
              clear HL160_0
              clear HL162_0
              clear HB
              clear HO_5
              clear HO166
              have HO_3 := n0_
              have HL160_0 := n1_
              have HL162_0 := n2_
              have HB := n3_
              have HO169 := n4_
              clear n0_ n1_ n2_ n3_ n4_
              clear ho hb hg hat
              refine hK.out _ _ ?_
              clear hK K
              refine norm_ (a' := ?_) ?_ ?_
              rotate_left
              ·show Act.put _ (some 62) _ = _
               simp only [Act.put, List.setIfInBounds_toArray, List.set_cons_zero, List.set_cons_succ, i64_w, i32_w]
               rfl
              refine pure_ (i := 18) (N := some 5) (v := ?_) (a' := ?_) #[true, true, true, true, true, true, true, true, true, true, true, true, true, true, true, true, true, true, true] rfl rfl (any_of HT_.out (by kernel_rfl)) (fun _ _ _ h => h) (Or.inl ⟨by rfl, ?_⟩) ?_ ?_
              rotate_left
              ·intro w'
               go_simp
               with_reducible rfl
              rotate_left
              ·simp only [Act.put, List.setIfInBounds_toArray, List.set_cons_zero, List.set_cons_succ, i64_w, i32_w]
               rfl
              refine done_ (done_of HT_.out (by kernel_rfl)) ?_
              try go_wp2
              go_roundg k3
              case measure => have := HK1.out; have := HK2.out; have := HK3.out; omega
              case rel => exact ⟨(y167), (wrap64 (x7_3 + 1)), (by first | rfl | (simp; done) | (simp [*]; done)), H', ⟨by have := HK1.out; have := HK2.out; have := HK3.out; omega⟩, ⟨by (with_reducible repeat (first | apply Kd.N_alloc | apply Kd.N_drewN | apply Kd.N_drew)); exact Kd.N_mono HO_3.out (fun _ hk => ⟨hk.1.1, hk.2⟩)⟩, ⟨by (with_reducible repeat (first | apply Kd.N_alloc | apply Kd.N_drewN | apply Kd.N_drew)); exact HO169.out⟩, ⟨by repeat (first | (with_reducible first | exact HB.out | apply below_alloc | apply pw_below_drewN | apply below_drew1) | exact HB.out)⟩⟩
             ·rw [if_neg c26] at H
              exact absurd H (by simp)
            ·rw [if_neg c25] at H
             exact absurd H (by simp)
           ·rw [if_neg c24] at H
            exact absurd H (by simp)
          ·rw [if_neg c23] at H
           exact absurd H (by simp)
         ·rw [if_neg c22] at H
          have c22b0 : decide (x7_3 < (x3_1.length : Int)) = false := decide_eq_false c22
          clear c22
          have H' := Aside0.mk H
          clear H
          go_wp2
          go_loopg [5, 8] k3 (fun kq v5 v8 w' => ∃ (x5_4 : List (List Int)) (x8_4 : Int), v8 = .int .i64 x8_4 ∧ Aside0 (spec_l09Hilbert.l3 kq x0_1 x3_1 x4_1 x5_4 x8_4 = some r) ∧ Aside0 (kq ≤ k3) ∧ Aside0 (Kd.N (Kd.slice 2 (Kd.int .i64)) 34 w' w.heap.size (fun k_ => (w.heap.size ≤ k_) ∧ some k_ ≠ (v5 : Value).ownBlock) (.slice Ao21 x3_1.length co21) x3_1) ∧ Aside0 (Kd.N (Kd.slice 2 (Kd.int .i64)) 34 w' w.heap.size (fun k_ => (w.heap.size ≤ k_) ∧ some k_ ≠ ((.slice Ao21 x3_1.length co21) : Value).ownBlock) v5 x5_4) ∧ Aside0 (Below w.heap.size w w'))
          case atStart => exact ⟨(x5_3), (0), (by first | rfl | (simp; done) | (simp [*]; done)), H', ⟨Nat.le_refl _⟩, ⟨by (with_reducible repeat (first | apply Kd.N_alloc | apply Kd.N_drewN | apply Kd.N_drew)); exact HO_3.out⟩, ⟨by (with_reducible repeat (first | apply Kd.N_alloc | apply Kd.N_drewN | apply Kd.N_drew)); exact HO_5.out⟩, ⟨by repeat (first | (with_reducible first | exact HB.out | apply below_alloc | apply pw_below_drewN | apply below_drew1) | exact HB.out)⟩⟩
          case round =>
           clear H'
           try clear c1
           try clear p1
           try clear q1
           try clear hx1
           try clear qi1
           try clear c2
           try clear p2
           try clear c6
           try clear p6
           try clear c7
           try clear c7b0
           try clear c10
           try clear c10b0
           try clear c11
           try clear c11b0
           try clear c12
           try clear c12b0
           try clear c12b1
           try clear c13
           try clear c13b0
           try clear c13b1
           try clear c14
           try clear c15
           try clear p15
           try clear q15
           try clear hx15
           try clear qi15
           try clear c16
           try clear p16
           try clear q16
           try clear hx16
           try clear qi16
           try clear c22
           try clear c22b0
           try clear c23
           try clear c23b0
           try clear c24
           try clear c24b0
           try clear c24b1
           try clear c25
           try clear c25b0
           try clear c25b1
           try clear c26
           try clear hx150_0
           try clear hx151_0
           try clear hx152_0
           try clear hx153_0
           try clear hx160_0
           try clear hx161_0
           try clear hx162_0
           try clear hx163_0
           try clear p1
           try clear p15
           try clear p150
           try clear p151
           try clear p152
           try clear p153
           try clear p160
           try clear p161
           try clear p162
           try clear p163
           try clear p2
           try clear p6
           try clear q1
           try clear q15
           try clear q150
           try clear q151
           try clear q152
           try clear q153
           try clear q160
           try clear q161
           try clear q162
           try clear q163
           obtain ⟨x5_4, x8_4, rfl, HA, HK4, HO_3, HO_5, HB⟩ := hrel
           cases gk with
           | zero => exact absurd HA.out (by simp [spec_l09Hilbert.l3])
           | succ k4 =>
            have H := HA.out
            clear HA
            simp only [spec_l09Hilbert.l3] at H
            by_cases c32 : x8_4 < (x3_1.length : Int)
            ·rw [if_pos c32] at H
             have c32b0 : decide (x8_4 < (x3_1.length : Int)) = true := decide_eq_true c32
             clear c32
             by_cases c33 : 0 ≤ x8_4
             ·rw [if_pos c33] at H
              have c33b0 : decide (0 ≤ x8_4) = true := decide_eq_true c33
              clear c33
              by_cases c34 : 0 < ((rd_L1 x3_1 x8_4).length : Int)
              ·rw [if_pos c34] at H
               have c34b0 : decide (0 < ((rd_L1 x3_1 x8_4).length : Int)) = true := decide_eq_true c34
               have c34b1 : decide (0 < (rd_L1 x3_1 x8_4).length) = true := decide_eq_true (by omega)
               clear c34
               by_cases c35 : 1 < ((rd_L1 x3_1 x8_4).length : Int)
               ·rw [if_pos c35] at H
                have c35b0 : decide (1 < ((rd_L1 x3_1 x8_4).length : Int)) = true := decide_eq_true c35
                have c35b1 : decide (1 < (rd_L1 x3_1 x8_4).length) = true := decide_eq_true (by omega)
                clear c35
                obtain ⟨y174, hy174⟩ : ∃ y_ : List Int, y_ = (([wrap64 ((rd (rd_L1 x3_1 x8_4) 0) + x4_1), wrap64 ((rd (rd_L1 x3_1 x8_4) 1) + x4_1)] : List Int)) := ⟨_, rfl⟩
                replace H : (if x5_4.length < 5864062014805 then (spec_l09Hilbert.l3 k4 x0_1 x3_1 x4_1 (x5_4 ++ [y174]) (wrap64 (x8_4 + 1))) else (none)) = some r := by first | (rw [hy174]; with_reducible exact H) | (have H2_ := (Option.bind_some _ _).symm.trans H; rw [hy174]; with_reducible exact H2_) | (have H2_ := (Option.bind_some _ _).symm.trans H; with_reducible exact H2_) | with_reducible exact H | (rw [hy174]; exact H) | exact H
                have Ny174 := Aside0.mk hy174
                clear hy174
                by_cases c36 : x5_4.length < 5864062014805
                ·rw [if_pos c36] at H
                 have LMc36 := Aside0.mk c36
                 clear c36
                 obtain ⟨y177, hy177⟩ : ∃ y_ : List (List Int), y_ = (x5_4 ++ [y174]) := ⟨_, rfl⟩
                 replace H : (spec_l09Hilbert.l3 k4 x0_1 x3_1 x4_1 y177 (wrap64 (x8_4 + 1))) = some r := by first | (rw [hy177]; with_reducible exact H) | (have H2_ := (Option.bind_some _ _).symm.trans H; rw [hy177]; with_reducible exact H2_) | (have H2_ := (Option.bind_some _ _).symm.trans H; with_reducible exact H2_) | with_reducible exact H | (rw [hy177]; exact H) | exact H
                 have Ny177 := Aside0.mk hy177
                 clear hy177
                 have H' := Aside0.mk H
                 clear H
                 try go_wp2
                 have n0_ := Aside0.mk (Kd.N_drew HO_3.out)
                 have n1_ := Aside0.mk (Kd.N_drew HO_5.out)
                 have n2_ := Aside0.mk (below_drew1 HB.out)
                 clear HO_3
                 clear HO_5
                 clear HB
                 have HO_3 := n0_
                 have HO_5 := n1_
                 have HB := n2_
                 clear n0_ n1_ n2_
                 have p170 : 0 ≤ (x8_4 : Int) := of_decide_eq_true (by first | (with_reducible assumption) | assumption)
                 have q170 : x8_4 < (x3_1.length : Int) := of_decide_eq_true (by first | (with_reducible assumption) | assumption)
                 obtain ⟨ad170, A170_0, c170_0, e170, hx170_0, hl170_0, hi170_0⟩ := at_L1 (Kd.N_reads' HO_3.out).2.2 x8_4 p170 q170
                 cases e170
                 obtain ⟨ce170, hce170, hMe170, hcc170⟩ := Kd.N_get HO_3.out [] x8_4 p170 (by first | exact q170 | exact of_decide_eq_true (by first | (with_reducible assumption) | assumption) | (have e_ := (Kd.N_reads' HO_3.out).1; omega))
                 obtain ⟨ua170_0, uc170_0, rfl, ul170_0, ge170_0⟩ := Kd.FK_slice_open hMe170
                 have hv170_0 := hcc170 0 _ rfl
                 rw [Nat.add_zero, show ((Kd.slice 2 (Kd.int .i64))).sz = 1 from rfl, Nat.mul_one] at hv170_0
                 replace hv170_0 := Option.some.inj (hv170_0.symm.trans hx170_0)
                 injection hv170_0 with hva_ hvn_ hvc_
                 rw [hva_] at ge170_0
                 rw [hvc_] at ul170_0
                 have HL170_0 := Aside0.mk (show Kd.V (Kd.int .i64) 2 _ w.heap.size _ _ (rd_L1 x3_1 x8_4) from Kd.V_mk ul170_0 ge170_0)
                 clear hva_ hvn_ hvc_ ge170_0 ul170_0
                 clear hcc170 hce170
                 have HR170_0 := Aside0.mk hi170_0
                 have HC170_0 := Aside0.mk hl170_0
                 clear hi170_0 hl170_0
                 replace p170 := eq_true p170
                 replace q170 := eq_true q170
                 have p171 : 0 ≤ (0 : Int) := (by omega)
                 have q171 : 0 < ((rd_L1 x3_1 x8_4).length : Int) := of_decide_eq_true (by first | (with_reducible assumption) | assumption)
                 obtain ⟨ad171, e171, hx171_0⟩ := Kd.at_int (by repeat (first | (with_reducible exact HR170_0.out) | (with_reducible refine Kd.C_alloc ?_ _) | (with_reducible refine Kd.C_drewN ?_ _) | (with_reducible refine Kd.C_drew ?_) | exact HR170_0.out)) 0 p171 q171
                 cases e171
                 have qi171 : (0 < (rd_L1 x3_1 x8_4).length) = True := eq_true (by omega)
                 (try rw [show ((0 : Int)).toNat = 0 from rfl] at hx171_0)
                 (try rw [Addr.add_zero'] at hx171_0)
                 replace p171 := eq_true p171
                 replace q171 := eq_true q171
                 have p172 : 0 ≤ (x8_4 : Int) := of_decide_eq_true (by first | (with_reducible assumption) | assumption)
                 have q172 : x8_4 < (x3_1.length : Int) := of_decide_eq_true (by first | (with_reducible assumption) | assumption)
                 obtain ⟨ad172, A172_0, c172_0, e172, hx172_0, hl172_0, hi172_0⟩ := at_L1 (Kd.N_reads' HO_3.out).2.2 x8_4 p172 q172
                 obtain rfl : ad170 = ad172 := (by injection e172)
                 obtain ⟨ce172, hce172, hMe172, hcc172⟩ := Kd.N_get HO_3.out [] x8_4 p172 (by first | exact q172 | exact of_decide_eq_true (by first | (with_reducible assumption) | assumption) | (have e_ := (Kd.N_reads' HO_3.out).1; omega))
                 obtain ⟨ua172_0, uc172_0, rfl, ul172_0, ge172_0⟩ := Kd.FK_slice_open hMe172
                 have hv172_0 := hcc172 0 _ rfl
                 rw [Nat.add_zero, show ((Kd.slice 2 (Kd.int .i64))).sz = 1 from rfl, Nat.mul_one] at hv172_0
                 replace hv172_0 := Option.some.inj (hv172_0.symm.trans hx172_0)
                 injection hv172_0 with hva_ hvn_ hvc_
                 rw [hva_] at ge172_0
                 rw [hvc_] at ul172_0
                 have HL172_0 := Aside0.mk (show Kd.V (Kd.int .i64) 2 _ w.heap.size _ _ (rd_L1 x3_1 x8_4) from Kd.V_mk ul172_0 ge172_0)
                 clear hva_ hvn_ hvc_ ge172_0 ul172_0
                 clear hcc172 hce172
                 have HR172_0 := Aside0.mk hi172_0
                 have HC172_0 := Aside0.mk hl172_0
                 clear hi172_0 hl172_0
                 replace p172 := eq_true p172
                 replace q172 := eq_true q172
                 have ea_ := Option.some.inj (hx170_0.symm.trans hx172_0)
                 injection ea_ with ea_ en_ ec_
                 subst ea_
                 subst ec_
                 clear en_
                 have p173 : 0 ≤ (1 : Int) := (by omega)
                 have q173 : 1 < ((rd_L1 x3_1 x8_4).length : Int) := of_decide_eq_true (by first | (with_reducible assumption) | assumption)
                 obtain ⟨ad173, e173, hx173_0⟩ := Kd.at_int (by repeat (first | (with_reducible exact HR172_0.out) | (with_reducible refine Kd.C_alloc ?_ _) | (with_reducible refine Kd.C_drewN ?_ _) | (with_reducible refine Kd.C_drew ?_) | exact HR172_0.out)) 1 p173 q173
                 cases e173
                 (try simp only [show (1 : Int).toNat = 1 from rfl, Nat.reduceMul, Nat.reduceEqDiff, Go.Addr.add, ↓reduceIte] at hx173_0)
                 have qi173 : (1 < (rd_L1 x3_1 x8_4).length) = True := eq_true (by omega)
                 (try rw [show ((1 : Int)).toNat = 1 from rfl] at hx173_0)
                 replace p173 := eq_true p173
                 replace q173 := eq_true q173
                 refine start_ (n := 21) (S := fun w' => w'.cell? (ad170.add (x8_4).toNat) = some (.slice (some ad171) (rd_L1 x3_1 x8_4).length c170_0) ∧ w'.cell? ad171 = some (.int .i64 (rd (rd_L1 x3_1 x8_4) 0)) ∧ w'.cell? (ad170.add (x8_4).toNat) = some (.slice (some ad171) (rd_L1 x3_1 x8_4).length c170_0) ∧ w'.cell? ⟨ad171.block, ad171.off + 1, none⟩ = some (.int .i64 (rd (rd_L1 x3_1 x8_4) 1))) (ds := [18, 19]) #[false, false, false, false, false, false, false, false, false, false, false, false, false, false, false, false, false, false, false, false, false] (by kernel_rfl) rfl rfl ⟨hx170_0, hx171_0, hx172_0, hx173_0⟩ (fun hHeld => ?_); refine with_tabW spec_l09Hilbert.tab17 spec_l09Hilbert.bits17 (fun HT_ HW_ => ?_)
                 generalize wr.drew = w37 at HO_3 HO_5 HB HL170_0 HL172_0 HR170_0 HR172_0 hx170_0 hx171_0 hx172_0 hx173_0 hHeld ⊢
                 refine pure_ (i := 0) (N := some 69) (v := ?_) (a' := ?_) #[true, false, false, false, false, false, false, false, false, false, false, false, false, false, false, false, false, false, false, false, false] rfl rfl (any_of HT_.out (by kernel_rfl)) (fun _ _ _ h => h) (Or.inl ⟨by rfl, ?_⟩) ?_ ?_
                 rotate_left
                 ·intro w'
                  go_simp
                  with_reducible rfl
                 rotate_left
                 ·simp only [Act.put, List.setIfInBounds_toArray, List.set_cons_zero, List.set_cons_succ, i64_w, i32_w]
                  rfl
                 refine pure_ (i := 1) (N := some 70) (v := ?_) (a' := ?_) #[true, true, false, false, false, false, false, false, false, false, false, false, false, false, false, false, false, false, false, false, false] rfl rfl (any_of HT_.out (by kernel_rfl)) (fun _ _ _ h => h) (Or.inl ⟨by rfl, ?_⟩) ?_ ?_
                 rotate_left
                 ·intro w'
                  go_simp
                  with_reducible rfl
                 rotate_left
                 ·simp only [Act.put, List.setIfInBounds_toArray, List.set_cons_zero, List.set_cons_succ, i64_w, i32_w]
                  rfl
                 refine pure_ (i := 2) (N := some 71) (v := ?_) (a' := ?_) #[true, true, true, false, false, false, false, false, false, false, false, false, false, false, false, false, false, false, false, false, false] rfl rfl (any_of HT_.out (by kernel_rfl)) (fun _ _ _ h => h) (Or.inl ⟨by rfl, ?_⟩) ?_ ?_
                 rotate_left
                 ·intro w'
                  go_simp
                  with_reducible rfl
                 rotate_left
                 ·simp only [Act.put, List.setIfInBounds_toArray, List.set_cons_zero, List.set_cons_succ, i64_w, i32_w]
                  rfl
                 refine pure_ (i := 3) (N := some 72) (v := ?_) (a' := ?_) #[true, true, true, true, false, false, false, false, false, false, false, false, false, false, false, false, false, false, false, false, false] rfl rfl (any_of HT_.out (by kernel_rfl)) (fun _ _ _ h => h) (Or.inl ⟨by rfl, ?_⟩) ?_ ?_
                 rotate_left
                 ·intro w'
                  go_simp
                  with_reducible rfl
                 rotate_left
                 ·simp only [Act.put, List.setIfInBounds_toArray, List.set_cons_zero, List.set_cons_succ, i64_w, i32_w]
                  rfl
                 refine pure_ (i := 7) (N := some 76) (v := ?_) (a' := ?_) #[true, true, true, true, false, false, false, true, false, false, false, false, false, false, false, false, false, false, false, false, false] rfl rfl (any_of HT_.out (by kernel_rfl)) (fun _ _ _ h => h) (Or.inl ⟨by rfl, ?_⟩) ?_ ?_
                 rotate_left
                 ·intro w'
                  go_simp
                  with_reducible rfl
                 rotate_left
                 ·simp only [Act.put, List.setIfInBounds_toArray, List.set_cons_zero, List.set_cons_succ, i64_w, i32_w]
                  rfl
                 refine pure_ (i := 9) (N := some 78) (v := ?_) (a' := ?_) #[true, true, true, true, false, false, false, true, false, true, false, false, false, false, false, false, false, false, false, false, false] rfl rfl (any_of HT_.out (by kernel_rfl)) (fun _ _ _ h => h) (Or.inl ⟨by rfl, ?_⟩) ?_ ?_
                 rotate_left
                 ·intro w'
                  go_simp
                  with_reducible rfl
                 rotate_left
                 ·simp only [Act.put, List.setIfInBounds_toArray, List.set_cons_zero, List.set_cons_succ, i64_w, i32_w]
                  rfl
                 refine pure_ (i := 10) (N := some 79) (v := ?_) (a' := ?_) #[true, true, true, true, false, false, false, true, false, true, true, false, false, false, false, false, false, false, false, false, false] rfl rfl (any_of HT_.out (by kernel_rfl)) (fun _ _ _ h => h) (Or.inl ⟨by rfl, ?_⟩) ?_ ?_
                 rotate_left
                 ·intro w'
                  go_simp
                  with_reducible rfl
                 rotate_left
                 ·simp only [Act.put, List.setIfInBounds_toArray, List.set_cons_zero, List.set_cons_succ, i64_w, i32_w]
                  rfl
                 refine pure_ (i := 11) (N := some 80) (v := ?_) (a' := ?_) #[true, true, true, true, false, false, false, true, false, true, true, true, false, false, false, false, false, false, false, false, false] rfl rfl (any_of HT_.out (by kernel_rfl)) (fun _ _ _ h => h) (Or.inl ⟨by rfl, ?_⟩) ?_ ?_
                 rotate_left
                 ·intro w'
                  go_simp
                  with_reducible rfl
                 rotate_left
                 ·simp only [Act.put, List.setIfInBounds_toArray, List.set_cons_zero, List.set_cons_succ, i64_w, i32_w]
                  rfl
                 refine pure_ (i := 15) (N := some 84) (v := ?_) (a' := ?_) #[true, true, true, true, false, false, false, true, false, true, true, true, false, false, false, true, false, false, false, false, false] rfl rfl (any_of HT_.out (by kernel_rfl)) (fun _ _ _ h => h) (Or.inl ⟨by rfl, ?_⟩) ?_ ?_
                 rotate_left
                 ·intro w'
                  go_simp
                  with_reducible rfl
                 rotate_left
                 ·simp only [Act.put, List.setIfInBounds_toArray, List.set_cons_zero, List.set_cons_succ, i64_w, i32_w]
                  rfl
                 refine take_ (i := 4) (N := some 73) (v := ?_) (a' := ?_) #[true, true, true, true, true, false, false, true, false, true, true, true, false, false, false, true, false, false, false, false, false] rfl rfl (take_ofW HT_.out HW_.out (by kernel_rfl)) (fun _ _ _ h => h) (Or.inl ⟨by rfl, ?_⟩) hHeld ?_ ?_
                 rotate_left
                 ·rintro w' ⟨s0, s1, s2, s3⟩
                  go_simp
                  with_reducible rfl
                 rotate_left
                 ·simp only [Act.put, List.setIfInBounds_toArray, List.set_cons_zero, List.set_cons_succ, i64_w, i32_w]
                  rfl
                 refine pure_ (i := 5) (N := some 74) (v := ?_) (a' := ?_) #[true, true, true, true, true, true, false, true, false, true, true, true, false, false, false, true, false, false, false, false, false] rfl rfl (any_of HT_.out (by kernel_rfl)) (fun _ _ _ h => h) (Or.inl ⟨by rfl, ?_⟩) ?_ ?_
                 rotate_left
                 ·intro w'
                  go_simp
                  with_reducible rfl
                 rotate_left
                 ·simp only [Act.put, List.setIfInBounds_toArray, List.set_cons_zero, List.set_cons_succ, i64_w, i32_w]
                  rfl
                 refine take_ (i := 6) (N := some 75) (v := ?_) (a' := ?_) #[true, true, true, true, true, true, true, true, false, true, true, true, false, false, false, true, false, false, false, false, false] rfl rfl (take_ofW HT_.out HW_.out (by kernel_rfl)) (fun _ _ _ h => h) (Or.inl ⟨by rfl, ?_⟩) hHeld ?_ ?_
                 rotate_left
                 ·rintro w' ⟨s0, s1, s2, s3⟩
                  go_simp
                  with_reducible rfl
                 rotate_left
                 ·simp only [Act.put, List.setIfInBounds_toArray, List.set_cons_zero, List.set_cons_succ, i64_w, i32_w]
                  rfl
                 refine pure_ (i := 8) (N := some 77) (v := ?_) (a' := ?_) #[true, true, true, true, true, true, true, true, true, true, true, true, false, false, false, true, false, false, false, false, false] rfl rfl (any_of HT_.out (by kernel_rfl)) (fun _ _ _ h => h) (Or.inl ⟨by rfl, ?_⟩) ?_ ?_
                 rotate_left
                 ·intro w'
                  go_simp
                  with_reducible rfl
                 rotate_left
                 ·simp only [Act.put, List.setIfInBounds_toArray, List.set_cons_zero, List.set_cons_succ, i64_w, i32_w]
                  rfl
                 refine take_ (i := 12) (N := some 81) (v := ?_) (a' := ?_) #[true, true, true, true, true, true, true, true, true, true, true, true, true, false, false, true, false, false, false, false, false] rfl rfl (take_ofW HT_.out HW_.out (by kernel_rfl)) (fun _ _ _ h => h) (Or.inl ⟨by rfl, ?_⟩) hHeld ?_ ?_
                 rotate_left
                 ·rintro w' ⟨s0, s1, s2, s3⟩
                  go_simp
                  with_reducible rfl
                 rotate_left
                 ·simp only [Act.put, List.setIfInBounds_toArray, List.set_cons_zero, List.set_cons_succ, i64_w, i32_w]
                  rfl
                 refine pure_ (i := 13) (N := some 82) (v := ?_) (a' := ?_) #[true, true, true, true, true, true, true, true, true, true, true, true, true, true, false, true, false, false, false, false, false] rfl rfl (any_of HT_.out (by kernel_rfl)) (fun _ _ _ h => h) (Or.inl ⟨by rfl, ?_⟩) ?_ ?_
                 rotate_left
                 ·intro w'
                  go_simp
                  with_reducible rfl
                 rotate_left
                 ·simp only [Act.put, List.setIfInBounds_toArray, List.set_cons_zero, List.set_cons_succ, i64_w, i32_w]
                  rfl
                 refine take_ (i := 14) (N := some 83) (v := ?_) (a' := ?_) #[true, true, true, true, true, true, true, true, true, true, true, true, true, true, true, true, false, false, false, false, false] rfl rfl (take_ofW HT_.out HW_.out (by kernel_rfl)) (fun _ _ _ h => h) (Or.inl ⟨by rfl, ?_⟩) hHeld ?_ ?_
                 rotate_left
                 ·rintro w' ⟨s0, s1, s2, s3⟩
                  go_simp
                  with_reducible rfl
                 rotate_left
                 ·simp only [Act.put, List.setIfInBounds_toArray, List.set_cons_zero, List.set_cons_succ, i64_w, i32_w]
                  rfl
                 refine pure_ (i := 16) (N := some 85) (v := ?_) (a' := ?_) #[true, true, true, true, true, true, true, true, true, true, true, true, true, true, true, true, true, false, false, false, false] rfl rfl (any_of HT_.out (by kernel_rfl)) (fun _ _ _ h => h) (Or.inl ⟨by rfl, ?_⟩) ?_ ?_
                 rotate_left
                 ·intro w'
                  go_simp
                  with_reducible rfl
                 rotate_left
                 ·simp only [Act.put, List.setIfInBounds_toArray, List.set_cons_zero, List.set_cons_succ, i64_w, i32_w]
                  rfl
                 refine one_ (i := 17) (N := some 86) #[true, true, true, true, true, true, true, true, true, true, true, true, true, true, true, true, true, true, false, false, false] rfl rfl (one_of HT_.out (by kernel_rfl)) (by decide) (fun K hK => ?_)
                 refine Kd.R_lit_step (Kd.int .i64) _ 2 ?hg (N := 86) ?hd (xs := ([wrap64 ((rd (rd_L1 x3_1 x8_4) 0) + x4_1), wrap64 ((rd (rd_L1 x3_1 x8_4) 1) + x4_1)] : List Int)) (inner := [.int .i64 (wrap64 ((rd (rd_L1 x3_1 x8_4) 0) + x4_1)), .int .i64 (wrap64 ((rd (rd_L1 x3_1 x8_4) 1) + x4_1))]) (ok := fun _ => True) (okp := fun _ => True) ?hr ?hp (fun _ hk => hk) trivial (Below.refl _ _) (Nat.le_refl _) (by simp) ?_; (case hd => rfl); (case hg => rfl); (case hr => first | (go_simp; done) | (go_simp; rfl)); (case hp => exact (Reps.one (show Kd.M (Kd.int .i64) _ _ _ (wrap64 ((rd (rd_L1 x3_1 x8_4) 0) + x4_1)) [.int .i64 (wrap64 ((rd (rd_L1 x3_1 x8_4) 0) + x4_1))] from rfl) (Reps.one (show Kd.M (Kd.int .i64) _ _ _ (wrap64 ((rd (rd_L1 x3_1 x8_4) 1) + x4_1)) [.int .i64 (wrap64 ((rd (rd_L1 x3_1 x8_4) 1) + x4_1))] from rfl) (Reps.none _ _))))
                 intro v175 w38 ho39 hb hg_ hnew_
                 have HS0_ := (hb.cell (World.block_lt_of_cell? _ _ (hHeld.1))).trans (hHeld.1)
                 have HS1_ := (hb.cell (World.block_lt_of_cell? _ _ (hHeld.2.1))).trans (hHeld.2.1)
                 have HS2_ := (hb.cell (World.block_lt_of_cell? _ _ (hHeld.2.2.1))).trans (hHeld.2.2.1)
                 have HS3_ := (hb.cell (World.block_lt_of_cell? _ _ (hHeld.2.2.2))).trans (hHeld.2.2.2)
                 clear hg_ hnew_
                 (first | rw [← Ny174.out] at ho39 | (simp only [Int.reduceToNat] at ho39; rw [← Ny174.out] at ho39))
                 have n0_ := Aside0.mk (Kd.N_elder' (by (with_reducible repeat (first | apply Kd.N_alloc | apply Kd.N_drewN | apply Kd.N_drew)); exact HO_3.out) (Kd.R_base ho39) hb)
                 have n1_ := Aside0.mk (Kd.N_elder' (by (with_reducible repeat (first | apply Kd.N_alloc | apply Kd.N_drewN | apply Kd.N_drew)); exact HO_5.out) (Kd.R_base ho39) hb)
                 have n2_ := Aside0.mk (Kd.V_elder' (by (with_reducible repeat (first | apply Kd.V_alloc | apply Kd.V_drewN | apply Kd.V_drew)); exact HL170_0.out) (Kd.R_base ho39) hb)
                 have n3_ := Aside0.mk (Kd.V_elder' (by (with_reducible repeat (first | apply Kd.V_alloc | apply Kd.V_drewN | apply Kd.V_drew)); exact HL172_0.out) (Kd.R_base ho39) hb)
                 have n4_ := Aside0.mk (Kd.R_lower (Kd.R_newM (M := fun k_ => (w.heap.size ≤ k_)) ho39 (below_size (by repeat (first | (with_reducible first | exact HB.out | apply below_alloc | apply pw_below_drewN | apply below_drew1) | exact HB.out))) (fun k_ h_ => h_)) (below_size (by repeat (first | (with_reducible first | exact HB.out | apply below_alloc | apply pw_below_drewN | apply below_drew1) | exact HB.out))))
                 have n5_ := Aside0.mk (Kd.C_below (by repeat (first | (with_reducible exact HR170_0.out) | (with_reducible refine Kd.C_alloc ?_ _) | (with_reducible refine Kd.C_drewN ?_ _) | (with_reducible refine Kd.C_drew ?_) | exact HR170_0.out)) hb)
                 have n6_ := Aside0.mk (Kd.C_below (by repeat (first | (with_reducible exact HR172_0.out) | (with_reducible refine Kd.C_alloc ?_ _) | (with_reducible refine Kd.C_drewN ?_ _) | (with_reducible refine Kd.C_drew ?_) | exact HR172_0.out)) hb)
                 have n7_ := Aside0.mk (below_step (by repeat (first | (with_reducible first | exact HB.out | apply below_alloc | apply pw_below_drewN | apply below_drew1) | exact HB.out)) hb)
                 clear HO_3
                 clear HO_5
                 clear HL170_0
                 clear HL172_0
                 clear HR170_0
                 clear HR172_0
                 clear HB
                 have HO_3 := n0_
                 have HO_5 := n1_
                 have HL170_0 := n2_
                 have HL172_0 := n3_
                 have HO176 := n4_
                 have HR170_0 := n5_
                 have HR172_0 := n6_
                 have HB := n7_
                 clear n0_ n1_ n2_ n3_ n4_ n5_ n6_ n7_
                 clear hb ho39
                 obtain ⟨Ao41, co41, eo41⟩ := Kd.R_slice HO176.out
                 (first | subst eo41 | (injection eo41 with f1_ f2_ f3_; have f4_ := f1_.symm; have f5_ := f3_.symm; clear f1_ f2_ f3_; subst f4_; subst f5_))
                 refine hK.out _ _ ⟨HS0_, HS1_, HS2_, HS3_⟩ (fun hHeld => ?_)
                 clear hK K
                 refine norm_ (a' := ?_) ?_ ?_
                 rotate_left
                 ·show Act.put _ (some 86) _ = _
                  simp only [Act.put, List.setIfInBounds_toArray, List.set_cons_zero, List.set_cons_succ, i64_w, i32_w]
                  rfl
                 refine last_ (i := 18) (N := some 87) #[true, true, true, true, true, true, true, true, true, true, true, true, true, true, true, true, true, true, true, false, false] rfl rfl (one_of HT_.out (by kernel_rfl)) (by decide) (fun K hK => ?_)
                 refine value_ (w1 := ?_) (v := ?_) (by rfl) rfl ?_ ?_
                 rotate_left 2
                 ·go_simp
                  constructor
                  ·rfl
                  ·rfl
                 refine hK.out _ _ ?_
                 clear hK K
                 refine norm_ (a' := ?_) ?_ ?_
                 rotate_left
                 ·show Act.put _ (some 87) _ = _
                  simp only [Act.put, List.setIfInBounds_toArray, List.set_cons_zero, List.set_cons_succ, i64_w, i32_w]
                  rfl
                 refine last_ (i := 19) (N := some 88) #[true, true, true, true, true, true, true, true, true, true, true, true, true, true, true, true, true, true, true, true, false] rfl rfl (one_of HT_.out (by kernel_rfl)) (by decide) (fun K hK => ?_)
                 refine Kd.N_append_step (Kd.slice 2 (Kd.int .i64)) (w0 := w) w.heap.size (by rfl) (.tmp 69) (.tmp 87) 22 34 (.slice none 0 0) 24 rfl Try.underlying22 info34 rfl (by decide) (by omega) u5 x5_4 y174 [.slice Ao41 y174.length co41] (fun k_ => (w.heap.size ≤ k_) ∧ some k_ ≠ (.slice (some ad170) x3_1.length co21 : Value).ownBlock) (fun k_ => ((fun k_ => (w.heap.size ≤ k_) ∧ some k_ ≠ (.slice (some ad170) x3_1.length co21 : Value).ownBlock)) k_ ∧ some k_ ≠ (u5 : Value).ownBlock) rfl rfl ?aP (fun _ hk => hk) ?aF ?aO ?aB ?aS ?aL ?_
                 (case aP => exact (Kd.FK_slice_mk (Kd.R_reads' (Kd.R_mono (ok' := (fun k_ => ((fun k_ => (w.heap.size ≤ k_) ∧ some k_ ≠ (.slice (some ad170) x3_1.length co21 : Value).ownBlock)) k_ ∧ some k_ ≠ (u5 : Value).ownBlock)) (Kd.R_apart' (Kd.R_apart' (HO176.out) (Kd.N_typed HO_3.out) (by decide)) (Kd.N_typed HO_5.out) (by decide)) (fun k_ hk => ⟨⟨hk.1.1.1, hk.1.2⟩, hk.2⟩))).2.1 (Kd.R_F (Kd.R_mono (ok' := (fun k_ => ((fun k_ => (w.heap.size ≤ k_) ∧ some k_ ≠ (.slice (some ad170) x3_1.length co21 : Value).ownBlock)) k_ ∧ some k_ ≠ (u5 : Value).ownBlock)) (Kd.R_apart' (Kd.R_apart' (HO176.out) (Kd.N_typed HO_3.out) (by decide)) (Kd.N_typed HO_5.out) (by decide)) (fun k_ hk => ⟨⟨hk.1.1.1, hk.1.2⟩, hk.2⟩)))))
                 (case aB => exact (by repeat (first | (with_reducible first | exact HB.out | apply below_alloc | apply pw_below_drewN | apply below_drew1) | exact HB.out)))
                 (case aF => exact (fun k_ hk => ⟨(Nat.le_trans (below_size (by repeat (first | (with_reducible first | exact HB.out | apply below_alloc | apply pw_below_drewN | apply below_drew1) | exact HB.out))) hk), Kd.fresh' (Kd.N_lt (by (with_reducible repeat (first | apply Kd.N_alloc | apply Kd.N_drewN | apply Kd.N_drew)); exact HO_3.out)) k_ hk⟩))
                 (case aO => exact (by (with_reducible repeat (first | apply Kd.N_alloc | apply Kd.N_drewN | apply Kd.N_drew)); exact Kd.N_mono HO_5.out (fun _ hk => ⟨hk.1.1, hk.1.2⟩)))
                 (case aS => exact (below_size (by repeat (first | (with_reducible first | exact HB.out | apply below_alloc | apply pw_below_drewN | apply below_drew1) | exact HB.out))))
                 (case aL => have := LMc36.out; omega)
                 intro v178 w40 ho hb hg hat
                 rw [← Ny177.out] at ho
                 have n0_ := Aside0.mk (Kd.N_afterv (ok := (fun k_ => (w.heap.size ≤ k_) ∧ some k_ ≠ (.slice Ao41 y174.length co41 : Value).ownBlock)) (by (with_reducible repeat (first | apply Kd.N_alloc | apply Kd.N_drewN | apply Kd.N_drew)); exact Kd.N_mono HO_3.out (fun _ hk => ⟨⟨hk.1.1, hk.2⟩, hk.1.2⟩)) hg hat)
                 have n1_ := Aside0.mk (Kd.V_afterv (ok := (fun k_ => (w.heap.size ≤ k_) ∧ some k_ ≠ (.slice (some ad170) x3_1.length co21 : Value).ownBlock ∧ some k_ ≠ (.slice Ao41 y174.length co41 : Value).ownBlock)) (by (with_reducible repeat (first | apply Kd.V_alloc | apply Kd.V_drewN | apply Kd.V_drew)); exact Kd.V_mono HL170_0.out (fun _ hk => ⟨⟨hk.1.1.1, ⟨hk.1.2, hk.2⟩⟩, hk.1.1.2⟩)) hg hat)
                 have n2_ := Aside0.mk (Kd.V_afterv (ok := (fun k_ => (w.heap.size ≤ k_) ∧ some k_ ≠ (.slice (some ad170) x3_1.length co21 : Value).ownBlock ∧ some k_ ≠ (.slice Ao41 y174.length co41 : Value).ownBlock)) (by (with_reducible repeat (first | apply Kd.V_alloc | apply Kd.V_drewN | apply Kd.V_drew)); exact Kd.V_mono HL172_0.out (fun _ hk => ⟨⟨hk.1.1.1, ⟨hk.1.2, hk.2⟩⟩, hk.1.1.2⟩)) hg hat)
                 have n3_ := Aside0.mk (hb)
                 have n4_ := Aside0.mk (ho)
                 clear HO_3
                 clear HL170_0
                 clear HL172_0
                 clear HB
                 clear HO_5
                 clear HO176
                 have HO_3 := n0_
                 have HL170_0 := n1_
                 have HL172_0 := n2_
                 have HB := n3_
                 have HO179 := n4_
                 clear n0_ n1_ n2_ n3_ n4_
                 clear ho hb hg hat
                 refine hK.out _ _ ?_
                 clear hK K
                 refine norm_ (a' := ?_) ?_ ?_
                 rotate_left
                 ·show Act.put _ (some 88) _ = _
                  simp only [Act.put, List.setIfInBounds_toArray, List.set_cons_zero, List.set_cons_succ, i64_w, i32_w]
                  rfl
                 refine pure_ (i := 20) (N := some 5) (v := ?_) (a' := ?_) #[true, true, true, true, true, true, true, true, true, true, true, true, true, true, true, true, true, true, true, true, true] rfl rfl (any_of HT_.out (by kernel_rfl)) (fun _ _ _ h => h) (Or.inl ⟨by rfl, ?_⟩) ?_ ?_
                 rotate_left
                 ·intro w'
                  go_simp
                  with_reducible rfl
                 rotate_left
                 ·simp only [Act.put, List.setIfInBounds_toArray, List.set_cons_zero, List.set_cons_succ, i64_w, i32_w]
                  rfl
                 refine done_ (done_of HT_.out (by kernel_rfl)) ?_
                 try go_wp2
                 go_roundg k4
                 case measure => have := HK1.out; have := HK2.out; have := HK3.out; have := HK4.out; omega
                 case rel => exact ⟨(y177), (wrap64 (x8_4 + 1)), (by first | rfl | (simp; done) | (simp [*]; done)), H', ⟨by have := HK1.out; have := HK2.out; have := HK3.out; have := HK4.out; omega⟩, ⟨by (with_reducible repeat (first | apply Kd.N_alloc | apply Kd.N_drewN | apply Kd.N_drew)); exact Kd.N_mono HO_3.out (fun _ hk => ⟨hk.1.1, hk.2⟩)⟩, ⟨by (with_reducible repeat (first | apply Kd.N_alloc | apply Kd.N_drewN | apply Kd.N_drew)); exact HO179.out⟩, ⟨by repeat (first | (with_reducible first | exact HB.out | apply below_alloc | apply pw_below_drewN | apply below_drew1) | exact HB.out)⟩⟩
                ·rw [if_neg c36] at H
                 exact absurd H (by simp)
               ·rw [if_neg c35] at H
                exact absurd H (by simp)
              ·rw [if_neg c34] at H
               exact absurd H (by simp)
             ·rw [if_neg c33] at H
              exact absurd H (by simp)
            ·rw [if_neg c32] at H
             have c32b0 : decide (x8_4 < (x3_1.length : Int)) = false := decide_eq_false c32
             clear c32
             have H' := Aside0.mk H
             clear H
             go_wp2
             go_loopg [5, 9] k4 (fun kq v5 v9 w' => ∃ (x5_5 : List (List Int)) (x9_5 : Int), v9 = .int .i64 x9_5 ∧ Aside0 (spec_l09Hilbert.l4 kq x0_1 x3_1 x4_1 x5_5 x9_5 = some r) ∧ Aside0 (kq ≤ k4) ∧ Aside0 (Kd.N (Kd.slice 2 (Kd.int .i64)) 34 w' w.heap.size (fun k_ => (w.heap.size ≤ k_) ∧ some k_ ≠ (v5 : Value).ownBlock) (.slice Ao21 x3_1.length co21) x3_1) ∧ Aside0 (Kd.N (Kd.slice 2 (Kd.int .i64)) 34 w' w.heap.size (fun k_ => (w.heap.size ≤ k_) ∧ some k_ ≠ ((.slice Ao21 x3_1.length co21) : Value).ownBlock) v5 x5_5) ∧ Aside0 (Below w.heap.size w w'))
             case atStart => exact ⟨(x5_4), (0), (by first | rfl | (simp; done) | (simp [*]; done)), H', ⟨Nat.le_refl _⟩, ⟨by (with_reducible repeat (first | apply Kd.N_alloc | apply Kd.N_drewN | apply Kd.N_drew)); exact HO_3.out⟩, ⟨by (with_reducible repeat (first | apply Kd.N_alloc | apply Kd.N_drewN | apply Kd.N_drew)); exact HO_5.out⟩, ⟨by repeat (first | (with_reducible first | exact HB.out | apply below_alloc | apply pw_below_drewN | apply below_drew1) | exact HB.out)⟩⟩
             case round =>
              clear H'
              try clear c1
              try clear p1
              try clear q1
              try clear hx1
              try clear qi1
              try clear c2
              try clear p2
              try clear c3
              try clear c6
              try clear p6
              try clear c7
              try clear c7b0
              try clear c10
              try clear c10b0
              try clear c11
              try clear c11b0
              try clear c12
              try clear c12b0
              try clear c12b1
              try clear c13
              try clear c13b0
              try clear c13b1
              try clear c14
              try clear c15
              try clear p15
              try clear q15
              try clear hx15
              try clear qi15
              try clear c16
              try clear p16
              try clear q16
              try clear hx16
              try clear qi16
              try clear c17
              try clear p17
              try clear q17
              try clear hx17
              try clear qi17
              try clear c22
              try clear c22b0
              try clear c23
              try clear c23b0
              try clear c24
              try clear c24b0
              try clear c24b1
              try clear c25
              try clear c25b0
              try clear c25b1
              try clear c26
              try clear c32
              try clear c32b0
              try clear c33
              try clear c33b0
              try clear c34
              try clear c34b0
              try clear c34b1
              try clear c35
              try clear c35b0
              try clear c35b1
              try clear c36
              try clear hx150_0
              try clear hx151_0
              try clear hx152_0
              try clear hx153_0
              try clear hx160_0
              try clear hx161_0
              try clear hx162_0
              try clear hx163_0
              try clear hx170_0
              try clear hx171_0
              try clear hx172_0
              try clear hx173_0
              try clear p1
              try clear p15
              try clear p150
              try clear p151
              try clear p152
              try clear p153
              try clear p16
              try clear p160
              try clear p161
              try clear p162
              try clear p163
              try clear p170
              try clear p171
              try clear p172
              try clear p173
              try clear p2
              try clear p6
              try clear q1
              try clear q15
              try clear q150
              try clear q151
              try clear q152
              try clear q153
              try clear q16
              try clear q160
              try clear q161
              try clear q162
              try clear q163
              try clear q170
              try clear q171
              try clear q172
              try clear q173
              obtain ⟨x5_5, x9_5, rfl, HA, HK5, HO_3, HO_5, HB⟩ := hrel
              cases gk with
              | zero => exact absurd HA.out (by simp [spec_l09Hilbert.l4])
              | succ k5 =>
               have H := HA.out
               clear HA
               simp only [spec_l09Hilbert.l4] at H
               by_cases c42 : x9_5 < (x3_1.length : Int)
               ·rw [if_pos c42] at H
                have c42b0 : decide (x9_5 < (x3_1.length : Int)) = true := decide_eq_true c42
                clear c42
                by_cases c43 : 0 ≤ x9_5
                ·rw [if_pos c43] at H
                 have c43b0 : decide (0 ≤ x9_5) = true := decide_eq_true c43
                 clear c43
                 by_cases c44 : 1 < ((rd_L1 x3_1 x9_5).length : Int)
                 ·rw [if_pos c44] at H
                  have c44b0 : decide (1 < ((rd_L1 x3_1 x9_5).length : Int)) = true := decide_eq_true c44
                  have c44b1 : decide (1 < (rd_L1 x3_1 x9_5).length) = true := decide_eq_true (by omega)
                  clear c44
                  by_cases c45 : 0 < ((rd_L1 x3_1 x9_5).length : Int)
                  ·rw [if_pos c45] at H
                   have c45b0 : decide (0 < ((rd_L1 x3_1 x9_5).length : Int)) = true := decide_eq_true c45
                   have c45b1 : decide (0 < (rd_L1 x3_1 x9_5).length) = true := decide_eq_true (by omega)
                   clear c45
                   obtain ⟨y184, hy184⟩ : ∃ y_ : List Int, y_ = (([wrap64 ((wrap64 ((wrap64 (2 * x4_1)) - 1)) - (rd (rd_L1 x3_1 x9_5) 1)), wrap64 ((wrap64 (x4_1 - 1)) - (rd (rd_L1 x3_1 x9_5) 0))] : List Int)) := ⟨_, rfl⟩
                   replace H : (if x5_5.length < 5864062014805 then (spec_l09Hilbert.l4 k5 x0_1 x3_1 x4_1 (x5_5 ++ [y184]) (wrap64 (x9_5 + 1))) else (none)) = some r := by first | (rw [hy184]; with_reducible exact H) | (have H2_ := (Option.bind_some _ _).symm.trans H; rw [hy184]; with_reducible exact H2_) | (have H2_ := (Option.bind_some _ _).symm.trans H; with_reducible exact H2_) | with_reducible exact H | (rw [hy184]; exact H) | exact H
                   have Ny184 := Aside0.mk hy184
                   clear hy184
                   by_cases c46 : x5_5.length < 5864062014805
                   ·rw [if_pos c46] at H
                    have LMc46 := Aside0.mk c46
                    clear c46
                    obtain ⟨y187, hy187⟩ : ∃ y_ : List (List Int), y_ = (x5_5 ++ [y184]) := ⟨_, rfl⟩
                    replace H : (spec_l09Hilbert.l4 k5 x0_1 x3_1 x4_1 y187 (wrap64 (x9_5 + 1))) = some r := by first | (rw [hy187]; with_reducible exact H) | (have H2_ := (Option.bind_some _ _).symm.trans H; rw [hy187]; with_reducible exact H2_) | (have H2_ := (Option.bind_some _ _).symm.trans H; with_reducible exact H2_) | with_reducible exact H | (rw [hy187]; exact H) | exact H
                    have Ny187 := Aside0.mk hy187
                    clear hy187
                    have H' := Aside0.mk H
                    clear H
                    try go_wp2
                    have n0_ := Aside0.mk (Kd.N_drew HO_3.out)
                    have n1_ := Aside0.mk (Kd.N_drew HO_5.out)
                    have n2_ := Aside0.mk (below_drew1 HB.out)
                    clear HO_3
                    clear HO_5
                    clear HB
                    have HO_3 := n0_
                    have HO_5 := n1_
                    have HB := n2_
                    clear n0_ n1_ n2_
                    have p180 : 0 ≤ (x9_5 : Int) := of_decide_eq_true (by first | (with_reducible assumption) | assumption)
                    have q180 : x9_5 < (x3_1.length : Int) := of_decide_eq_true (by first | (with_reducible assumption) | assumption)
                    obtain ⟨ad180, A180_0, c180_0, e180, hx180_0, hl180_0, hi180_0⟩ := at_L1 (Kd.N_reads' HO_3.out).2.2 x9_5 p180 q180
                    cases e180
                    obtain ⟨ce180, hce180, hMe180, hcc180⟩ := Kd.N_get HO_3.out [] x9_5 p180 (by first | exact q180 | exact of_decide_eq_true (by first | (with_reducible assumption) | assumption) | (have e_ := (Kd.N_reads' HO_3.out).1; omega))
                    obtain ⟨ua180_0, uc180_0, rfl, ul180_0, ge180_0⟩ := Kd.FK_slice_open hMe180
                    have hv180_0 := hcc180 0 _ rfl
                    rw [Nat.add_zero, show ((Kd.slice 2 (Kd.int .i64))).sz = 1 from rfl, Nat.mul_one] at hv180_0
                    replace hv180_0 := Option.some.inj (hv180_0.symm.trans hx180_0)
                    injection hv180_0 with hva_ hvn_ hvc_
                    rw [hva_] at ge180_0
                    rw [hvc_] at ul180_0
                    have HL180_0 := Aside0.mk (show Kd.V (Kd.int .i64) 2 _ w.heap.size _ _ (rd_L1 x3_1 x9_5) from Kd.V_mk ul180_0 ge180_0)
                    clear hva_ hvn_ hvc_ ge180_0 ul180_0
                    clear hcc180 hce180
                    have HR180_0 := Aside0.mk hi180_0
                    have HC180_0 := Aside0.mk hl180_0
                    clear hi180_0 hl180_0
                    replace p180 := eq_true p180
                    replace q180 := eq_true q180
                    have p181 : 0 ≤ (1 : Int) := (by omega)
                    have q181 : 1 < ((rd_L1 x3_1 x9_5).length : Int) := of_decide_eq_true (by first | (with_reducible assumption) | assumption)
                    obtain ⟨ad181, e181, hx181_0⟩ := Kd.at_int (by repeat (first | (with_reducible exact HR180_0.out) | (with_reducible refine Kd.C_alloc ?_ _) | (with_reducible refine Kd.C_drewN ?_ _) | (with_reducible refine Kd.C_drew ?_) | exact HR180_0.out)) 1 p181 q181
                    cases e181
                    (try simp only [show (1 : Int).toNat = 1 from rfl, Nat.reduceMul, Nat.reduceEqDiff, Go.Addr.add, ↓reduceIte] at hx181_0)
                    have qi181 : (1 < (rd_L1 x3_1 x9_5).length) = True := eq_true (by omega)
                    (try rw [show ((1 : Int)).toNat = 1 from rfl] at hx181_0)
                    replace p181 := eq_true p181
                    replace q181 := eq_true q181
                    have p182 : 0 ≤ (x9_5 : Int) := of_decide_eq_true (by first | (with_reducible assumption) | assumption)
                    have q182 : x9_5 < (x3_1.length : Int) := of_decide_eq_true (by first | (with_reducible assumption) | assumption)
                    obtain ⟨ad182, A182_0, c182_0, e182, hx182_0, hl182_0, hi182_0⟩ := at_L1 (Kd.N_reads' HO_3.out).2.2 x9_5 p182 q182
                    obtain rfl : ad180 = ad182 := (by injection e182)
                    obtain ⟨ce182, hce182, hMe182, hcc182⟩ := Kd.N_get HO_3.out [] x9_5 p182 (by first | exact q182 | exact of_decide_eq_true (by first | (with_reducible assumption) | assumption) | (have e_ := (Kd.N_reads' HO_3.out).1; omega))
                    obtain ⟨ua182_0, uc182_0, rfl, ul182_0, ge182_0⟩ := Kd.FK_slice_open hMe182
                    have hv182_0 := hcc182 0 _ rfl
                    rw [Nat.add_zero, show ((Kd.slice 2 (Kd.int .i64))).sz = 1 from rfl, Nat.mul_one] at hv182_0
                    replace hv182_0 := Option.some.inj (hv182_0.symm.trans hx182_0)
                    injection hv182_0 with hva_ hvn_ hvc_
                    rw [hva_] at ge182_0
                    rw [hvc_] at ul182_0
                    have HL182_0 := Aside0.mk (show Kd.V (Kd.int .i64) 2 _ w.heap.size _ _ (rd_L1 x3_1 x9_5) from Kd.V_mk ul182_0 ge182_0)
                    clear hva_ hvn_ hvc_ ge182_0 ul182_0
                    clear hcc182 hce182
                    have HR182_0 := Aside0.mk hi182_0
                    have HC182_0 := Aside0.mk hl182_0
                    clear hi182_0 hl182_0
                    replace p182 := eq_true p182
                    replace q182 := eq_true q182
                    have ea_ := Option.some.inj (hx180_0.symm.trans hx182_0)
                    injection ea_ with ea_ en_ ec_
                    subst ea_
                    subst ec_
                    clear en_
                    have p183 : 0 ≤ (0 : Int) := (by omega)
                    have q183 : 0 < ((rd_L1 x3_1 x9_5).length : Int) := of_decide_eq_true (by first | (with_reducible assumption) | assumption)
                    obtain ⟨ad183, e183, hx183_0⟩ := Kd.at_int (by repeat (first | (with_reducible exact HR182_0.out) | (with_reducible refine Kd.C_alloc ?_ _) | (with_reducible refine Kd.C_drewN ?_ _) | (with_reducible refine Kd.C_drew ?_) | exact HR182_0.out)) 0 p183 q183
                    cases e183
                    have qi183 : (0 < (rd_L1 x3_1 x9_5).length) = True := eq_true (by omega)
                    (try rw [show ((0 : Int)).toNat = 0 from rfl] at hx183_0)
                    (try rw [Addr.add_zero'] at hx183_0)
                    replace p183 := eq_true p183
                    replace q183 := eq_true q183
                    refine start_ (n := 24) (S := fun w' => w'.cell? (ad180.add (x9_5).toNat) = some (.slice (some ad181) (rd_L1 x3_1 x9_5).length c180_0) ∧ w'.cell? ⟨ad181.block, ad181.off + 1, none⟩ = some (.int .i64 (rd (rd_L1 x3_1 x9_5) 1)) ∧ w'.cell? (ad180.add (x9_5).toNat) = some (.slice (some ad181) (rd_L1 x3_1 x9_5).length c180_0) ∧ w'.cell? ad181 = some (.int .i64 (rd (rd_L1 x3_1 x9_5) 0))) (ds := [21, 22]) #[false, false, false, false, false, false, false, false, false, false, false, false, false, false, false, false, false, false, false, false, false, false, false, false] (by kernel_rfl) rfl rfl ⟨hx180_0, hx181_0, hx182_0, hx183_0⟩ (fun hHeld => ?_); refine with_tabW spec_l09Hilbert.tab21 spec_l09Hilbert.bits21 (fun HT_ HW_ => ?_)
                    generalize wr.drew = w47 at HO_3 HO_5 HB HL180_0 HL182_0 HR180_0 HR182_0 hx180_0 hx181_0 hx182_0 hx183_0 hHeld ⊢
                    refine pure_ (i := 0) (N := some 95) (v := ?_) (a' := ?_) #[true, false, false, false, false, false, false, false, false, false, false, false, false, false, false, false, false, false, false, false, false, false, false, false] rfl rfl (any_of HT_.out (by kernel_rfl)) (fun _ _ _ h => h) (Or.inl ⟨by rfl, ?_⟩) ?_ ?_
                    rotate_left
                    ·intro w'
                     go_simp
                     with_reducible rfl
                    rotate_left
                    ·simp only [Act.put, List.setIfInBounds_toArray, List.set_cons_zero, List.set_cons_succ, i64_w, i32_w]
                     rfl
                    refine pure_ (i := 1) (N := some 96) (v := ?_) (a' := ?_) #[true, true, false, false, false, false, false, false, false, false, false, false, false, false, false, false, false, false, false, false, false, false, false, false] rfl rfl (any_of HT_.out (by kernel_rfl)) (fun _ _ _ h => h) (Or.inl ⟨by rfl, ?_⟩) ?_ ?_
                    rotate_left
                    ·intro w'
                     go_simp
                     with_reducible rfl
                    rotate_left
                    ·simp only [Act.put, List.setIfInBounds_toArray, List.set_cons_zero, List.set_cons_succ, i64_w, i32_w]
                     rfl
                    refine pure_ (i := 2) (N := some 97) (v := ?_) (a' := ?_) #[true, true, true, false, false, false, false, false, false, false, false, false, false, false, false, false, false, false, false, false, false, false, false, false] rfl rfl (any_of HT_.out (by kernel_rfl)) (fun _ _ _ h => h) (Or.inl ⟨by rfl, ?_⟩) ?_ ?_
                    rotate_left
                    ·intro w'
                     go_simp
                     with_reducible rfl
                    rotate_left
                    ·simp only [Act.put, List.setIfInBounds_toArray, List.set_cons_zero, List.set_cons_succ, i64_w, i32_w]
                     rfl
                    refine pure_ (i := 3) (N := some 98) (v := ?_) (a' := ?_) #[true, true, true, true, false, false, false, false, false, false, false, false, false, false, false, false, false, false, false, false, false, false, false, false] rfl rfl (any_of HT_.out (by kernel_rfl)) (fun _ _ _ h => h) (Or.inl ⟨by rfl, ?_⟩) ?_ ?_
                    rotate_left
                    ·intro w'
                     go_simp
                     with_reducible rfl
                    rotate_left
                    ·simp only [Act.put, List.setIfInBounds_toArray, List.set_cons_zero, List.set_cons_succ, i64_w, i32_w]
                     rfl
                    refine pure_ (i := 4) (N := some 99) (v := ?_) (a' := ?_) #[true, true, true, true, true, false, false, false, false, false, false, false, false, false, false, false, false, false, false, false, false, false, false, false] rfl rfl (any_of HT_.out (by kernel_rfl)) (fun _ _ _ h => h) (Or.inl ⟨by rfl, ?_⟩) ?_ ?_
                    rotate_left
                    ·intro w'
                     go_simp
                     with_reducible rfl
                    rotate_left
                    ·simp only [Act.put, List.setIfInBounds_toArray, List.set_cons_zero, List.set_cons_succ, i64_w, i32_w]
                     rfl
                    refine pure_ (i := 5) (N := some 100) (v := ?_) (a' := ?_) #[true, true, true, true, true, true, false, false, false, false, false, false, false, false, false, false, false, false, false, false, false, false, false, false] rfl rfl (any_of HT_.out (by kernel_rfl)) (fun _ _ _ h => h) (Or.inl ⟨by rfl, ?_⟩) ?_ ?_
                    rotate_left
                    ·intro w'
                     go_simp
                     with_reducible rfl
                    rotate_left
                    ·simp only [Act.put, List.setIfInBounds_toArray, List.set_cons_zero, List.set_cons_succ, i64_w, i32_w]
                     rfl
                    refine pure_ (i := 6) (N := some 101) (v := ?_) (a' := ?_) #[true, true, true, true, true, true, true, false, false, false, false, false, false, false, false, false, false, false, false, false, false, false, false, false] rfl rfl (any_of HT_.out (by kernel_rfl)) (fun _ _ _ h => h) (Or.inl ⟨by rfl, ?_⟩) ?_ ?_
                    rotate_left
                    ·intro w'
                     go_simp
                     with_reducible rfl
                    rotate_left
                    ·simp only [Act.put, List.setIfInBounds_toArray, List.set_cons_zero, List.set_cons_succ, i64_w, i32_w]
                     rfl
                    refine pure_ (i := 11) (N := some 106) (v := ?_) (a' := ?_) #[true, true, true, true, true, true, true, false, false, false, false, true, false, false, false, false, false, false, false, false, false, false, false, false] rfl rfl (any_of HT_.out (by kernel_rfl)) (fun _ _ _ h => h) (Or.inl ⟨by rfl, ?_⟩) ?_ ?_
                    rotate_left
                    ·intro w'
                     go_simp
                     with_reducible rfl
                    rotate_left
                    ·simp only [Act.put, List.setIfInBounds_toArray, List.set_cons_zero, List.set_cons_succ, i64_w, i32_w]
                     rfl
                    refine pure_ (i := 12) (N := some 107) (v := ?_) (a' := ?_) #[true, true, true, true, true, true, true, false, false, false, false, true, true, false, false, false, false, false, false, false, false, false, false, false] rfl rfl (any_of HT_.out (by kernel_rfl)) (fun _ _ _ h => h) (Or.inl ⟨by rfl, ?_⟩) ?_ ?_
                    rotate_left
                    ·intro w'
                     go_simp
                     with_reducible rfl
                    rotate_left
                    ·simp only [Act.put, List.setIfInBounds_toArray, List.set_cons_zero, List.set_cons_succ, i64_w, i32_w]
                     rfl
                    refine pure_ (i := 13) (N := some 108) (v := ?_) (a' := ?_) #[true, true, true, true, true, true, true, false, false, false, false, true, true, true, false, false, false, false, false, false, false, false, false, false] rfl rfl (any_of HT_.out (by kernel_rfl)) (fun _ _ _ h => h) (Or.inl ⟨by rfl, ?_⟩) ?_ ?_
                    rotate_left
                    ·intro w'
                     go_simp
                     with_reducible rfl
                    rotate_left
                    ·simp only [Act.put, List.setIfInBounds_toArray, List.set_cons_zero, List.set_cons_succ, i64_w, i32_w]
                     rfl
                    refine pure_ (i := 14) (N := some 109) (v := ?_) (a' := ?_) #[true, true, true, true, true, true, true, false, false, false, false, true, true, true, true, false, false, false, false, false, false, false, false, false] rfl rfl (any_of HT_.out (by kernel_rfl)) (fun _ _ _ h => h) (Or.inl ⟨by rfl, ?_⟩) ?_ ?_
                    rotate_left
                    ·intro w'
                     go_simp
                     with_reducible rfl
                    rotate_left
                    ·simp only [Act.put, List.setIfInBounds_toArray, List.set_cons_zero, List.set_cons_succ, i64_w, i32_w]
                     rfl
                    refine pure_ (i := 15) (N := some 110) (v := ?_) (a' := ?_) #[true, true, true, true, true, true, true, false, false, false, false, true, true, true, true, true, false, false, false, false, false, false, false, false] rfl rfl (any_of HT_.out (by kernel_rfl)) (fun _ _ _ h => h) (Or.inl ⟨by rfl, ?_⟩) ?_ ?_
                    rotate_left
                    ·intro w'
                     go_simp
                     with_reducible rfl
                    rotate_left
                    ·simp only [Act.put, List.setIfInBounds_toArray, List.set_cons_zero, List.set_cons_succ, i64_w, i32_w]
                     rfl
                    refine take_ (i := 7) (N := some 102) (v := ?_) (a' := ?_) #[true, true, true, true, true, true, true, true, false, false, false, true, true, true, true, true, false, false, false, false, false, false, false, false] rfl rfl (take_ofW HT_.out HW_.out (by kernel_rfl)) (fun _ _ _ h => h) (Or.inl ⟨by rfl, ?_⟩) hHeld ?_ ?_
                    rotate_left
                    ·rintro w' ⟨s0, s1, s2, s3⟩
                     go_simp
                     with_reducible rfl
                    rotate_left
                    ·simp only [Act.put, List.setIfInBounds_toArray, List.set_cons_zero, List.set_cons_succ, i64_w, i32_w]
                     rfl
                    refine pure_ (i := 8) (N := some 103) (v := ?_) (a' := ?_) #[true, true, true, true, true, true, true, true, true, false, false, true, true, true, true, true, false, false, false, false, false, false, false, false] rfl rfl (any_of HT_.out (by kernel_rfl)) (fun _ _ _ h => h) (Or.inl ⟨by rfl, ?_⟩) ?_ ?_
                    rotate_left
                    ·intro w'
                     go_simp
                     with_reducible rfl
                    rotate_left
                    ·simp only [Act.put, List.setIfInBounds_toArray, List.set_cons_zero, List.set_cons_succ, i64_w, i32_w]
                     rfl
                    refine take_ (i := 9) (N := some 104) (v := ?_) (a' := ?_) #[true, true, true, true, true, true, true, true, true, true, false, true, true, true, true, true, false, false, false, false, false, false, false, false] rfl rfl (take_ofW HT_.out HW_.out (by kernel_rfl)) (fun _ _ _ h => h) (Or.inl ⟨by rfl, ?_⟩) hHeld ?_ ?_
                    rotate_left
                    ·rintro w' ⟨s0, s1, s2, s3⟩
                     go_simp
                     with_reducible rfl
                    rotate_left
                    ·simp only [Act.put, List.setIfInBounds_toArray, List.set_cons_zero, List.set_cons_succ, i64_w, i32_w]
                     rfl
                    refine pure_ (i := 10) (N := some 105) (v := ?_) (a' := ?_) #[true, true, true, true, true, true, true, true, true, true, true, true, true, true, true, true, false, false, false, false, false, false, false, false] rfl rfl (any_of HT_.out (by kernel_rfl)) (fun _ _ _ h => h) (Or.inl ⟨by rfl, ?_⟩) ?_ ?_
                    rotate_left
                    ·intro w'
                     go_simp
                     with_reducible rfl
                    rotate_left
                    ·simp only [Act.put, List.setIfInBounds_toArray, List.set_cons_zero, List.set_cons_succ, i64_w, i32_w]
                     rfl
                    refine take_ (i := 16) (N := some 111) (v := ?_) (a' := ?_) #[true, true, true, true, true, true, true, true, true, true, true, true, true, true, true, true, true, false, false, false, false, false, false, false] rfl rfl (take_ofW HT_.out HW_.out (by kernel_rfl)) (fun _ _ _ h => h) (Or.inl ⟨by rfl, ?_⟩) hHeld ?_ ?_
                    rotate_left
                    ·rintro w' ⟨s0, s1, s2, s3⟩
                     go_simp
                     with_reducible rfl
                    rotate_left
                    ·simp only [Act.put, List.setIfInBounds_toArray, List.set_cons_zero, List.set_cons_succ, i64_w, i32_w]
                     rfl
                    refine pure_ (i := 17) (N := some 112) (v := ?_) (a' := ?_) #[true, true, true, true, true, true, true, true, true, true, true, true, true, true, true, true, true, true, false, false, false, false, false, false] rfl rfl (any_of HT_.out (by kernel_rfl)) (fun _ _ _ h => h) (Or.inl ⟨by rfl, ?_⟩) ?_ ?_
                    rotate_left
                    ·intro w'
                     go_simp
                     with_reducible rfl
                    rotate_left
                    ·simp only [Act.put, List.setIfInBounds_toArray, List.set_cons_zero, List.set_cons_succ, i64_w, i32_w]
                     rfl
                    refine take_ (i := 18) (N := some 113) (v := ?_) (a' := ?_) #[true, true, true, true, true, true, true, true, true, true, true, true, true, true, true, true, true, true, true, false, false, false, false, false] rfl rfl (take_ofW HT_.out HW_.out (by kernel_rfl)) (fun _ _ _ h => h) (Or.inl ⟨by rfl, ?_⟩) hHeld ?_ ?_
                    rotate_left
                    ·rintro w' ⟨s0, s1, s2, s3⟩
                     go_simp
                     with_reducible rfl
                    rotate_left
                    ·simp only [Act.put, List.setIfInBounds_toArray, List.set_cons_zero, List.set_cons_succ, i64_w, i32_w]
                     rfl
                    refine pure_ (i := 19) (N := some 114) (v := ?_) (a' := ?_) #[true, true, true, true, true, true, true, true, true, true, true, true, true, true, true, true, true, true, true, true, false, false, false, false] rfl rfl (any_of HT_.out (by kernel_rfl)) (fun _ _ _ h => h) (Or.inl ⟨by rfl, ?_⟩) ?_ ?_
                    rotate_left
                    ·intro w'
                     go_simp
                     with_reducible rfl
                    rotate_left
                    ·simp only [Act.put, List.setIfInBounds_toArray, List.set_cons_zero, List.set_cons_succ, i64_w, i32_w]
                     rfl
                    refine one_ (i := 20) (N := some 115) #[true, true, true, true, true, true, true, true, true, true, true, true, true, true, true, true, true, true, true, true, true, false, false, false] rfl rfl (one_of HT_.out (by kernel_rfl)) (by decide) (fun K hK => ?_)
                    refine Kd.R_lit_step (Kd.int .i64) _ 2 ?hg (N := 115) ?hd (xs := ([wrap64 ((wrap64 ((wrap64 (2 * x4_1)) - 1)) - (rd (rd_L1 x3_1 x9_5) 1)), wrap64 ((wrap64 (x4_1 - 1)) - (rd (rd_L1 x3_1 x9_5) 0))] : List Int)) (inner := [.int .i64 (wrap64 ((wrap64 ((wrap64 (2 * x4_1)) - 1)) - (rd (rd_L1 x3_1 x9_5) 1))), .int .i64 (wrap64 ((wrap64 (x4_1 - 1)) - (rd (rd_L1 x3_1 x9_5) 0)))]) (ok := fun _ => True) (okp := fun _ => True) ?hr ?hp (fun _ hk => hk) trivial (Below.refl _ _) (Nat.le_refl _) (by simp) ?_; (case hd => rfl); (case hg => rfl); (case hr => first | (go_simp; done) | (go_simp; rfl)); (case hp => exact (Reps.one (show Kd.M (Kd.int .i64) _ _ _ (wrap64 ((wrap64 ((wrap64 (2 * x4_1)) - 1)) - (rd (rd_L1 x3_1 x9_5) 1))) [.int .i64 (wrap64 ((wrap64 ((wrap64 (2 * x4_1)) - 1)) - (rd (rd_L1 x3_1 x9_5) 1)))] from rfl) (Reps.one (show Kd.M (Kd.int .i64) _ _ _ (wrap64 ((wrap64 (x4_1 - 1)) - (rd (rd_L1 x3_1 x9_5) 0))) [.int .i64 (wrap64 ((wrap64 (x4_1 - 1)) - (rd (rd_L1 x3_1 x9_5) 0)))] from rfl) (Reps.none _ _))))
                    intro v185 w48 ho49 hb hg_ hnew_
                    have HS0_ := (hb.cell (World.block_lt_of_cell? _ _ (hHeld.1))).trans (hHeld.1)
                    have HS1_ := (hb.cell (World.block_lt_of_cell? _ _ (hHeld.2.1))).trans (hHeld.2.1)
                    have HS2_ := (hb.cell (World.block_lt_of_cell? _ _ (hHeld.2.2.1))).trans (hHeld.2.2.1)
                    have HS3_ := (hb.cell (World.block_lt_of_cell? _ _ (hHeld.2.2.2))).trans (hHeld.2.2.2)
                    clear hg_ hnew_
                    (first | rw [← Ny184.out] at ho49 | (simp only [Int.reduceToNat] at ho49; rw [← Ny184.out] at ho49))
                    have n0_ := Aside0.mk (Kd.N_elder' (by (with_reducible repeat (first | apply Kd.N_alloc | apply Kd.N_drewN | apply Kd.N_drew)); exact HO_3.out) (Kd.R_base ho49) hb)
                    have n1_ := Aside0.mk (Kd.N_elder' (by (with_reducible repeat (first | apply Kd.N_alloc | apply Kd.N_drewN | apply Kd.N_drew)); exact HO_5.out) (Kd.R_base ho49) hb)
                    have n2_ := Aside0.mk (Kd.V_elder' (by (with_reducible repeat (first | apply Kd.V_alloc | apply Kd.V_drewN | apply Kd.V_drew)); exact HL180_0.out) (Kd.R_base ho49) hb)
                    have n3_ := Aside0.mk (Kd.V_elder' (by (with_reducible repeat (first | apply Kd.V_alloc | apply Kd.V_drewN | apply Kd.V_drew)); exact HL182_0.out) (Kd.R_base ho49) hb)
                    have n4_ := Aside0.mk (Kd.R_lower (Kd.R_newM (M := fun k_ => (w.heap.size ≤ k_)) ho49 (below_size (by repeat (first | (with_reducible first | exact HB.out | apply below_alloc | apply pw_below_drewN | apply below_drew1) | exact HB.out))) (fun k_ h_ => h_)) (below_size (by repeat (first | (with_reducible first | exact HB.out | apply below_alloc | apply pw_below_drewN | apply below_drew1) | exact HB.out))))
                    have n5_ := Aside0.mk (Kd.C_below (by repeat (first | (with_reducible exact HR180_0.out) | (with_reducible refine Kd.C_alloc ?_ _) | (with_reducible refine Kd.C_drewN ?_ _) | (with_reducible refine Kd.C_drew ?_) | exact HR180_0.out)) hb)
                    have n6_ := Aside0.mk (Kd.C_below (by repeat (first | (with_reducible exact HR182_0.out) | (with_reducible refine Kd.C_alloc ?_ _) | (with_reducible refine Kd.C_drewN ?_ _) | (with_reducible refine Kd.C_drew ?_) | exact HR182_0.out)) hb)
                    have n7_ := Aside0.mk (below_step (by repeat (first | (with_reducible first | exact HB.out | apply below_alloc | apply pw_below_drewN | apply below_drew1) | exact HB.out)) hb)
                    clear HO_3
                    clear HO_5
                    clear HL180_0
                    clear HL182_0
                    clear HR180_0
                    clear HR182_0
                    clear HB
                    have HO_3 := n0_
                    have HO_5 := n1_
                    have HL180_0 := n2_
                    have HL182_0 := n3_
                    have HO186 := n4_
                    have HR180_0 := n5_
                    have HR182_0 := n6_
                    have HB := n7_
                    clear n0_ n1_ n2_ n3_ n4_ n5_ n6_ n7_
                    clear hb ho49
                    obtain ⟨Ao51, co51, eo51⟩ := Kd.R_slice HO186.out
                    (first | subst eo51 | (injection eo51 with f1_ f2_ f3_; have f4_ := f1_.symm; have f5_ := f3_.symm; clear f1_ f2_ f3_; subst f4_; subst f5_))
                    refine hK.out _ _ ⟨HS0_, HS1_, HS2_, HS3_⟩ (fun hHeld => ?_)
                    clear hK K
                    refine norm_ (a' := ?_) ?_ ?_
                    rotate_left
                    ·show Act.put _ (some 115) _ = _
                     simp only [Act.put, List.setIfInBounds_toArray, List.set_cons_zero, List.set_cons_succ, i64_w, i32_w]
                     rfl
                    refine last_ (i := 21) (N := some 116) #[true, true, true, true, true, true, true, true, true, true, true, true, true, true, true, true, true, true, true, true, true, true, false, false] rfl rfl (one_of HT_.out (by kernel_rfl)) (by decide) (fun K hK => ?_)
                    refine value_ (w1 := ?_) (v := ?_) (by rfl) rfl ?_ ?_
                    rotate_left 2
                    ·go_simp
                     constructor
                     ·rfl
                     ·rfl
                    refine hK.out _ _ ?_
                    clear hK K
                    refine norm_ (a' := ?_) ?_ ?_
                    rotate_left
                    ·show Act.put _ (some 116) _ = _
                     simp only [Act.put, List.setIfInBounds_toArray, List.set_cons_zero, List.set_cons_succ, i64_w, i32_w]
                     rfl
                    refine last_ (i := 22) (N := some 117) #[true, true, true, true, true, true, true, true, true, true, true, true, true, true, true, true, true, true, true, true, true, true, true, false] rfl rfl (one_of HT_.out (by kernel_rfl)) (by decide) (fun K hK => ?_)
                    refine Kd.N_append_step (Kd.slice 2 (Kd.int .i64)) (w0 := w) w.heap.size (by rfl) (.tmp 95) (.tmp 116) 22 34 (.slice none 0 0) 24 rfl Try.underlying22 info34 rfl (by decide) (by omega) u5 x5_5 y184 [.slice Ao51 y184.length co51] (fun k_ => (w.heap.size ≤ k_) ∧ some k_ ≠ (.slice (some ad180) x3_1.length co21 : Value).ownBlock) (fun k_ => ((fun k_ => (w.heap.size ≤ k_) ∧ some k_ ≠ (.slice (some ad180) x3_1.length co21 : Value).ownBlock)) k_ ∧ some k_ ≠ (u5 : Value).ownBlock) rfl rfl ?aP (fun _ hk => hk) ?aF ?aO ?aB ?aS ?aL ?_
                    (case aP => exact (Kd.FK_slice_mk (Kd.R_reads' (Kd.R_mono (ok' := (fun k_ => ((fun k_ => (w.heap.size ≤ k_) ∧ some k_ ≠ (.slice (some ad180) x3_1.length co21 : Value).ownBlock)) k_ ∧ some k_ ≠ (u5 : Value).ownBlock)) (Kd.R_apart' (Kd.R_apart' (HO186.out) (Kd.N_typed HO_3.out) (by decide)) (Kd.N_typed HO_5.out) (by decide)) (fun k_ hk => ⟨⟨hk.1.1.1, hk.1.2⟩, hk.2⟩))).2.1 (Kd.R_F (Kd.R_mono (ok' := (fun k_ => ((fun k_ => (w.heap.size ≤ k_) ∧ some k_ ≠ (.slice (some ad180) x3_1.length co21 : Value).ownBlock)) k_ ∧ some k_ ≠ (u5 : Value).ownBlock)) (Kd.R_apart' (Kd.R_apart' (HO186.out) (Kd.N_typed HO_3.out) (by decide)) (Kd.N_typed HO_5.out) (by decide)) (fun k_ hk => ⟨⟨hk.1.1.1, hk.1.2⟩, hk.2⟩)))))
                    (case aB => exact (by repeat (first | (with_reducible first | exact HB.out | apply below_alloc | apply pw_below_drewN | apply below_drew1) | exact HB.out)))
                    (case aF => exact (fun k_ hk => ⟨(Nat.le_trans (below_size (by repeat (first | (with_reducible first | exact HB.out | apply below_alloc | apply pw_below_drewN | apply below_drew1) | exact HB.out))) hk), Kd.fresh' (Kd.N_lt (by (with_reducible repeat (first | apply Kd.N_alloc | apply Kd.N_drewN | apply Kd.N_drew)); exact HO_3.out)) k_ hk⟩))
                    (case aO => exact (by (with_reducible repeat (first | apply Kd.N_alloc | apply Kd.N_drewN | apply Kd.N_drew)); exact Kd.N_mono HO_5.out (fun _ hk => ⟨hk.1.1, hk.1.2⟩)))
                    (case aS => exact (below_size (by repeat (first | (with_reducible first | exact HB.out | apply below_alloc | apply pw_below_drewN | apply below_drew1) | exact HB.out))))
                    (case aL => have := LMc46.out; omega)
                    intro v188 w50 ho hb hg hat
                    rw [← Ny187.out] at ho
                    have n0_ := Aside0.mk (Kd.N_afterv (ok := (fun k_ => (w.heap.size ≤ k_) ∧ some k_ ≠ (.slice Ao51 y184.length co51 : Value).ownBlock)) (by (with_reducible repeat (first | apply Kd.N_alloc | apply Kd.N_drewN | apply Kd.N_drew)); exact Kd.N_mono HO_3.out (fun _ hk => ⟨⟨hk.1.1, hk.2⟩, hk.1.2⟩)) hg hat)
                    have n1_ := Aside0.mk (Kd.V_afterv (ok := (fun k_ => (w.heap.size ≤ k_) ∧ some k_ ≠ (.slice (some ad180) x3_1.length co21 : Value).ownBlock ∧ some k_ ≠ (.slice Ao51 y184.length co51 : Value).ownBlock)) (by (with_reducible repeat (first | apply Kd.V_alloc | apply Kd.V_drewN | apply Kd.V_drew)); exact Kd.V_mono HL180_0.out (fun _ hk => ⟨⟨hk.1.1.1, ⟨hk.1.2, hk.2⟩⟩, hk.1.1.2⟩)) hg hat)
                    have n2_ := Aside0.mk (Kd.V_afterv (ok := (fun k_ => (w.heap.size ≤ k_) ∧ some k_ ≠ (.slice (some ad180) x3_1.length co21 : Value).ownBlock ∧ some k_ ≠ (.slice Ao51 y184.length co51 : Value).ownBlock)) (by (with_reducible repeat (first | apply Kd.V_alloc | apply Kd.V_drewN | apply Kd.V_drew)); exact Kd.V_mono HL182_0.out (fun _ hk => ⟨⟨hk.1.1.1, ⟨hk.1.2, hk.2⟩⟩, hk.1.1.2⟩)) hg hat)
                    have n3_ := Aside0.mk (hb)
                    have n4_ := Aside0.mk (ho)
                    clear HO_3
                    clear HL180_0
                    clear HL182_0
                    clear HB
                    clear HO_5
                    clear HO186
                    have HO_3 := n0_
                    have HL180_0 := n1_
                    have HL182_0 := n2_
                    have HB := n3_
                    have HO189 := n4_
                    clear n0_ n1_ n2_ n3_ n4_
                    clear ho hb hg hat
                    refine hK.out _ _ ?_
                    clear hK K
                    refine norm_ (a' := ?_) ?_ ?_
                    rotate_left
                    ·show Act.put _ (some 117) _ = _
                     simp only [Act.put, List.setIfInBounds_toArray, List.set_cons_zero, List.set_cons_succ, i64_w, i32_w]
                     rfl
                    refine pure_ (i := 23) (N := some 5) (v := ?_) (a' := ?_) #[true, true, true, true, true, true, true, true, true, true, true, true, true, true, true, true, true, true, true, true, true, true, true, true] rfl rfl (any_of HT_.out (by kernel_rfl)) (fun _ _ _ h => h) (Or.inl ⟨by rfl, ?_⟩) ?_ ?_
                    rotate_left
                    ·intro w'
                     go_simp
                     with_reducible rfl
                    rotate_left
                    ·simp only [Act.put, List.setIfInBounds_toArray, List.set_cons_zero, List.set_cons_succ, i64_w, i32_w]
                     rfl
                    refine done_ (done_of HT_.out (by kernel_rfl)) ?_
                    try go_wp2
                    go_roundg k5
                    case measure => have := HK1.out; have := HK2.out; have := HK3.out; have := HK4.out; have := HK5.out; omega
                    case rel => exact ⟨(y187), (wrap64 (x9_5 + 1)), (by first | rfl | (simp; done) | (simp [*]; done)), H', ⟨by have := HK1.out; have := HK2.out; have := HK3.out; have := HK4.out; have := HK5.out; omega⟩, ⟨by (with_reducible repeat (first | apply Kd.N_alloc | apply Kd.N_drewN | apply Kd.N_drew)); exact Kd.N_mono HO_3.out (fun _ hk => ⟨hk.1.1, hk.2⟩)⟩, ⟨by (with_reducible repeat (first | apply Kd.N_alloc | apply Kd.N_drewN | apply Kd.N_drew)); exact HO189.out⟩, ⟨by repeat (first | (with_reducible first | exact HB.out | apply below_alloc | apply pw_below_drewN | apply below_drew1) | exact HB.out)⟩⟩
                   ·rw [if_neg c46] at H
                    exact absurd H (by simp)
                  ·rw [if_neg c45] at H
                   exact absurd H (by simp)
                 ·rw [if_neg c44] at H
                  exact absurd H (by simp)
                ·rw [if_neg c43] at H
                 exact absurd H (by simp)
               ·rw [if_neg c42] at H
                have c42b0 : decide (x9_5 < (x3_1.length : Int)) = false := decide_eq_false c42
                clear c42
                have H' := Aside0.mk H
                clear H
                go_wp2
                go_roundg k5
                case measure => have := HK1.out; have := HK2.out; have := HK3.out; have := HK4.out; have := HK5.out; omega
                case rel => exact ⟨(wrap64 (x0_1 - 1)), (x5_5), (wrap64 (x4_1 * 2)), (by first | rfl | (simp; done) | (simp [*]; done)), (by first | rfl | (simp; done) | (simp [*]; done)), H', ⟨by have := HK1.out; have := HK2.out; have := HK3.out; have := HK4.out; have := HK5.out; omega⟩, ⟨by (with_reducible repeat (first | apply Kd.N_alloc | apply Kd.N_drewN | apply Kd.N_drew)); exact Kd.N_mono HO_5.out (fun _ hk => hk.1)⟩, ⟨by repeat (first | (with_reducible first | exact HB.out | apply below_alloc | apply pw_below_drewN | apply below_drew1) | exact HB.out)⟩⟩
   ·rw [if_neg c7] at H
    have c7b0 : decide (0 < x0_1) = false := decide_eq_false c7
    clear c7
    obtain rfl := Option.some.inj H
    go_wp2
    go_ret
    exact ⟨_, by first | rfl | (simp [errW_none, errW_some] <;> rfl) | (simp [*, errW_none, errW_some] <;> rfl), by (with_reducible repeat (first | apply Kd.N_alloc | apply Kd.N_drewN | apply Kd.N_drew)); exact HO_3.out, by repeat (first | (with_reducible first | exact HB.out | apply below_alloc | apply pw_below_drewN | apply below_drew1) | exact HB.out)⟩
end Go.Proofs.Ytckonklpdepgoaa.Q
namespace Go.Proofs.Ytckonklpdepgoaa.Q
open Go.RowKit Go.Proofs.YtckonklpdepgoaaW.PrintWords Go.Proofs.YtckonklpdepgoaaW.PrintLast Go.Proofs.YtckonklpdepgoaaW.PrintMore
attribute [local go_sem] max2_int min2_int max_two min_two max_three min_three max_four min_four   -- for this text's walks alone
set_option linter.unusedVariables false
set_option linter.unusedSimpArgs false
def spec_HilbertPath.f (k : Nat) (a0 : Int) : Option ((List (List Int)) × Bool) := (spec_l09Order.f a0).bind fun t190 => (if t190 = true then ((spec_l09Hilbert.f k a0).bind fun t191 => (some (t191, true))) else (some (([] : List (List Int)), false)))
theorem spec_HilbertPath.mono : ∀ a0 k, LeO (spec_HilbertPath.f k a0) (spec_HilbertPath.f (k + 1) a0) := by
 intro a0 k
 unfold spec_HilbertPath.f
 repeat' first
   | (with_reducible exact spec_l09Hilbert.mono _ _)
   | (with_reducible exact LeO.refl _)
   | (with_reducible exact LeO.none _)
   | (with_reducible refine LeO.ite ?_ ?_)
   | (with_reducible refine LeO.bind ?_ (fun _ => ?_))
   | exact spec_l09Hilbert.mono _ _
   | exact LeO.none _
   | refine LeO.ite ?_ ?_
   | refine LeO.bind ?_ (fun _ => ?_)
set_option maxHeartbeats 8000000 in
set_option maxRecDepth 100000 in
theorem spec_HilbertPath.calls (k : Nat) (a0 : Int) (r1 : List (List Int)) (r2 : Bool) (w : World) (h : spec_HilbertPath.f k a0 = some (r1, r2)) :
  Calls Try.prog 20 #[.int .i64 a0] w fun e w' => ∃ v0_ : Value, e = .returned (.tuple #[v0_, .bool r2]) ∧ Kd.N (Kd.slice 2 (Kd.int .i64)) 34 w' w.heap.size (fun k_ => (w.heap.size ≤ k_)) v0_ r1 ∧ Below w.heap.size w w' := by
 have HB := Aside0.mk (Below.refl w.heap.size w)
 have H : ((spec_l09Order.f a0).bind fun t190 => (if t190 = true then ((spec_l09Hilbert.f k a0).bind fun t191 => (some (t191, true))) else (some (([] : List (List Int)), false)))) = some (r1, r2) := h
 clear h
 replace H := Option.bind_eq_some_iff.mp H
 obtain ⟨t190, A20, H⟩ := H
 replace H : (if t190 = true then ((spec_l09Hilbert.f k a0).bind fun t191 => (some (t191, true))) else (some (([] : List (List Int)), false))) = some (r1, r2) := H
 have A2 := Aside0.mk A20
 clear A20
 by_cases c3 : t190 = true
 ·subst c3
  have H1 : ((spec_l09Hilbert.f k a0).bind fun t191 => (some (t191, true))) = some (r1, r2) := by rw [if_pos rfl] at H; exact H
  clear H
  have H := H1
  clear H1
  replace H := Option.bind_eq_some_iff.mp H
  obtain ⟨t191, A40, H⟩ := H
  replace H : (some (t191, true)) = some (r1, r2) := H
  have A4 := Aside0.mk A40
  clear A40
  simp only [Option.some.injEq, Prod.mk.injEq] at H
  obtain ⟨rfl, rfl⟩ := H
  go_enter Try.func20, Try.ntmps20
  go_wp2_with (first | ((with_reducible refine gate_callee (f := 58) rfl ?_); refine goesL_ (some 5) rfl rfl Try.func58 (by kernel_rfl) rfl #[.int .i64 a0] rfl (by (try simp only [List.map_toArray, List.map_cons, List.map_nil]); first | done | rfl | (simp only [List.length_drop, List.length_take]; rfl) | (simp only [show ∀ (n_ : Nat) (b_ : Int), Int.tdiv (n_ : Int) b_ = (n_ : Int) / b_ from fun n_ b_ => Int.tdiv_eq_ediv_of_nonneg (Int.natCast_nonneg n_)]; rfl)) ?_; (with_reducible refine (spec_l09Order.calls a0 true _ A2.out).mono ?_); rintro e w' ⟨rfl, ⟨nd, rfl⟩⟩; refine ⟨_, rfl, ?_⟩) | ((with_reducible refine gate_callee (f := 65) rfl ?_); refine goesL_ (some 8) rfl rfl Try.func65 (by kernel_rfl) rfl #[.int .i64 a0] rfl (by (try simp only [List.map_toArray, List.map_cons, List.map_nil]); first | done | rfl | (simp only [List.length_drop, List.length_take]; rfl) | (simp only [show ∀ (n_ : Nat) (b_ : Int), Int.tdiv (n_ : Int) b_ = (n_ : Int) / b_ from fun n_ b_ => Int.tdiv_eq_ediv_of_nonneg (Int.natCast_nonneg n_)]; rfl)) ?_; (with_reducible refine (spec_l09Hilbert.calls k a0 t191 _ A4.out).mono ?_); rintro e w5 ⟨v192, rfl, ho0, hb⟩; refine ⟨_, rfl, ?_⟩; have n0_ := Aside0.mk (Kd.N_lower (Kd.N_mono (ok' := fun k_ => (w.heap.size ≤ k_)) ho0 (fun k_ hk_ => (Nat.le_trans (below_size (by repeat (first | (with_reducible first | exact HB.out | apply below_alloc | apply pw_below_drewN | apply below_drew1) | exact HB.out))) hk_))) (below_size (by repeat (first | (with_reducible first | exact HB.out | apply below_alloc | apply pw_below_drewN | apply below_drew1) | exact HB.out)))); have n1_ := Aside0.mk (below_step (by repeat (first | (with_reducible first | exact HB.out | apply below_alloc | apply pw_below_drewN | apply below_drew1) | exact HB.out)) hb); clear HB; have HO193 := n0_; have HB := n1_; clear n0_ n1_; (try clear hb); (try clear hb2); (try clear hk); (try clear hi); (try clear ho0)))
  go_ret2
  exact ⟨_, by first | rfl | (simp [errW_none, errW_some] <;> rfl) | (simp [*, errW_none, errW_some] <;> rfl), by (with_reducible repeat (first | apply Kd.N_alloc | apply Kd.N_drewN | apply Kd.N_drew)); exact HO193.out, by repeat (first | (with_reducible first | exact HB.out | apply below_alloc | apply pw_below_drewN | apply below_drew1) | exact HB.out)⟩
 ·replace c3 := Bool.eq_false_iff.mpr c3
  subst c3
  have H1 : (some (([] : List (List Int)), false)) = some (r1, r2) := by rw [if_neg (show ¬ (false = true) by decide)] at H; exact H
  clear H
  have H := H1
  clear H1
  simp only [Option.some.injEq, Prod.mk.injEq] at H
  obtain ⟨rfl, rfl⟩ := H
  go_enter Try.func20, Try.ntmps20
  go_wp2_with (first | ((with_reducible refine gate_callee (f := 58) rfl ?_); refine goesL_ (some 5) rfl rfl Try.func58 (by kernel_rfl) rfl #[.int .i64 a0] rfl (by (try simp only [List.map_toArray, List.map_cons, List.map_nil]); first | done | rfl | (simp only [List.length_drop, List.length_take]; rfl) | (simp only [show ∀ (n_ : Nat) (b_ : Int), Int.tdiv (n_ : Int) b_ = (n_ : Int) / b_ from fun n_ b_ => Int.tdiv_eq_ediv_of_nonneg (Int.natCast_nonneg n_)]; rfl)) ?_; (with_reducible refine (spec_l09Order.calls a0 false _ A2.out).mono ?_); rintro e w' ⟨rfl, ⟨nd, rfl⟩⟩; refine ⟨_, rfl, ?_⟩))
  go_ret2
  exact ⟨_, by first | rfl | (simp [errW_none, errW_some] <;> rfl) | (simp [*, errW_none, errW_some] <;> rfl), by first | exact Kd.S_nil _ _ _ _ _ | exact Kd.N_nil _ _ _ _ _ | exact Kd.V_nil _ _ _ _ _ | exact Kd.Q_nil _ _ _ _ _ | exact Kd.R_nil _ _ _ _ _, by repeat (first | (with_reducible first | exact HB.out | apply below_alloc | apply pw_below_drewN | apply below_drew1) | exact HB.out)⟩
def laws_b10Long.f (l0 : List Int) (l1 : List Int) : Option (Bool) := if (l0.length : Int) > 1048576 then (some true) else (some (decide ((l1.length : Int) > 1048576)))
set_option maxHeartbeats 8000000 in
set_option maxRecDepth 100000 in
theorem laws_b10Long.calls (A0 : Option Addr) (c0 : Nat) (l0 : List Int) (A1 : Option Addr) (c1 : Nat) (l1 : List Int) (r : Bool) (w : World) (hr0 : Kd.C (Kd.int .u8) w A0 l0.length l0) (hc0 : l0.length ≤ c0) (hr1 : Kd.C (Kd.int .u8) w A1 l1.length l1) (hc1 : l1.length ≤ c1) (h : laws_b10Long.f l0 l1 = some r) :
  Calls Try.prog 22 #[.slice A0 l0.length c0, .slice A1 l1.length c1] w fun e w' => e = .returned (.bool r) ∧ Drawn0 w w' := by
 have HR0 := Aside0.mk hr0
 have HC0 := Aside0.mk hc0
 clear hr0 hc0
 have HR1 := Aside0.mk hr1
 have HC1 := Aside0.mk hc1
 clear hr1 hc1
 have H : (if (l0.length : Int) > 1048576 then (some true) else (some (decide ((l1.length : Int) > 1048576)))) = some r := h
 clear h
 by_cases c3 : (l0.length : Int) > 1048576
 ·rw [if_pos c3] at H
  have c3b0 : decide (1048576 < (l0.length : Int)) = true := decide_eq_true c3
  have c3b1 : decide (1048576 < l0.length) = true := decide_eq_true (by omega)
  clear c3
  obtain rfl := Option.some.inj H
  go_enter Try.func22, Try.ntmps22
  go_wp2
  go_ret
  exact ⟨by first | rfl | (simp; done) | (simp [*]; done), by repeat (first | exact Drawn0.refl _ | apply Drawn0.step)⟩
 ·rw [if_neg c3] at H
  have c3b0 : decide (1048576 < (l0.length : Int)) = false := decide_eq_false c3
  have c3b1 : decide (1048576 < l0.length) = false := decide_eq_false (by omega)
  clear c3
  obtain rfl := Option.some.inj H
  go_enter Try.func22, Try.ntmps22
  go_wp2
  go_ret
  exact ⟨by first | rfl | (simp; done) | (simp [*]; done), by repeat (first | exact Drawn0.refl _ | apply Drawn0.step)⟩
end Go.Proofs.Ytckonklpdepgoaa.Q
namespace Go.Proofs.Ytckonklpdepgoaa.Q
open Go.RowKit Go.Proofs.YtckonklpdepgoaaW.PrintWords Go.Proofs.YtckonklpdepgoaaW.PrintLast Go.Proofs.YtckonklpdepgoaaW.PrintMore
attribute [local go_sem] max2_int min2_int max_two min_two max_three min_three max_four min_four   -- for this text's walks alone
set_option linter.unusedVariables false
set_option linter.unusedSimpArgs false
def laws_b10At.f (l0 : List Int) (a1 : Int) (a2 : Int) : Option (Int) := if a2 ≤ 1 then (some 0) else (if a1 < (l0.length : Int) then (if 0 ≤ a1 then (if a2 = 0 then (none) else (some (Int.tmod (wrap64 (rd l0 a1)) a2))) else (none)) else (if a2 = 0 then (none) else (some (Int.tmod (wrap64 ((wrap64 (a1 * 37)) + 11)) a2))))
set_option maxHeartbeats 8000000 in
set_option maxRecDepth 100000 in
theorem laws_b10At.calls (A0 : Option Addr) (c0 : Nat) (l0 : List Int) (a1 : Int) (a2 : Int) (r : Int) (w : World) (hr0 : Kd.C (Kd.int .u8) w A0 l0.length l0) (hc0 : l0.length ≤ c0) (h : laws_b10At.f l0 a1 a2 = some r) :
  Calls Try.prog 23 #[.slice A0 l0.length c0, .int .i64 a1, .int .i64 a2] w fun e w' => e = .returned (.int .i64 r) ∧ Drawn0 w w' := by
 have HR0 := Aside0.mk hr0
 have HC0 := Aside0.mk hc0
 clear hr0 hc0
 have H : (if a2 ≤ 1 then (some 0) else (if a1 < (l0.length : Int) then (if 0 ≤ a1 then (if a2 = 0 then (none) else (some (Int.tmod (wrap64 (rd l0 a1)) a2))) else (none)) else (if a2 = 0 then (none) else (some (Int.tmod (wrap64 ((wrap64 (a1 * 37)) + 11)) a2))))) = some r := h
 clear h
 by_cases c4 : a2 ≤ 1
 ·rw [if_pos c4] at H
  have c4b0 : decide (a2 ≤ 1) = true := decide_eq_true c4
  clear c4
  obtain rfl := Option.some.inj H
  go_enter Try.func23, Try.ntmps23
  go_wp2
  go_ret
  exact ⟨by first | rfl | (simp; done) | (simp [*]; done), by repeat (first | exact Drawn0.refl _ | apply Drawn0.step)⟩
 ·rw [if_neg c4] at H
  have c4b0 : decide (a2 ≤ 1) = false := decide_eq_false c4
  clear c4
  by_cases c5 : a1 < (l0.length : Int)
  ·rw [if_pos c5] at H
   have c5b0 : decide (a1 < (l0.length : Int)) = true := decide_eq_true c5
   clear c5
   by_cases c6 : 0 ≤ a1
   ·rw [if_pos c6] at H
    have c6b0 : decide (0 ≤ a1) = true := decide_eq_true c6
    clear c6
    by_cases c7 : a2 = 0
    ·rw [if_pos c7] at H
     exact absurd H (by simp)
    ·rw [if_neg c7] at H
     have c7b0 : (a2 == 0) = false := beq_eq_false_iff_ne.mpr c7
     have c7b1 : (a2 != 0) = true := bne_iff_ne.mpr c7
     obtain rfl := Option.some.inj H
     have p206 : 0 ≤ (a1 : Int) := of_decide_eq_true (by first | (with_reducible assumption) | assumption)
     have q206 : a1 < (l0.length : Int) := of_decide_eq_true (by first | (with_reducible assumption) | assumption)
     obtain ⟨ad206, e206, hx206_0⟩ := Kd.at_int HR0.out a1 p206 q206
     cases e206
     replace p206 := eq_true p206
     replace q206 := eq_true q206
     go_enter Try.func23, Try.ntmps23
     go_wp2
     go_ret
     exact ⟨by first | rfl | (simp; done) | (simp [*]; done), by repeat (first | exact Drawn0.refl _ | apply Drawn0.step)⟩
   ·rw [if_neg c6] at H
    exact absurd H (by simp)
  ·rw [if_neg c5] at H
   have c5b0 : decide (a1 < (l0.length : Int)) = false := decide_eq_false c5
   clear c5
   by_cases c8 : a2 = 0
   ·rw [if_pos c8] at H
    exact absurd H (by simp)
   ·rw [if_neg c8] at H
    have c8b0 : (a2 == 0) = false := beq_eq_false_iff_ne.mpr c8
    have c8b1 : (a2 != 0) = true := bne_iff_ne.mpr c8
    obtain rfl := Option.some.inj H
    go_enter Try.func23, Try.ntmps23
    go_wp2
    go_ret
    exact ⟨by first | rfl | (simp; done) | (simp [*]; done), by repeat (first | exact Drawn0.refl _ | apply Drawn0.step)⟩
def impl_size_int64_68.f (l0 : List (List Int)) : Option (Int) := some (l0.length : Int)
set_option maxHeartbeats 8000000 in
set_option maxRecDepth 100000 in
theorem impl_size_int64_68.calls (A0 : Option Addr) (c0 : Nat) (l0 : List (List Int)) (r : Int) (w : World) (hr0 : Kd.C (Kd.slice 2 (Kd.int .i64)) w A0 l0.length l0) (hc0 : l0.length ≤ c0) (h : impl_size_int64_68.f l0 = some r) :
  Calls Try.prog 68 #[.slice A0 l0.length c0] w fun e w' => e = .returned (.int .i64 r) ∧ Drawn0 w w' := by
 have HR0 := Aside0.mk hr0
 have HC0 := Aside0.mk hc0
 clear hr0 hc0
 have H : (some (l0.length : Int)) = some r := h
 clear h
 obtain rfl := Option.some.inj H
 go_enter Try.func68, Try.ntmps68
 go_wp2
 go_ret
 exact ⟨by first | rfl | (simp; done) | (simp [*]; done), by repeat (first | exact Drawn0.refl _ | apply Drawn0.step)⟩
def impl_size_int64_69.f (l0 : List Int) : Option (Int) := some (l0.length : Int)
set_option maxHeartbeats 8000000 in
set_option maxRecDepth 100000 in
theorem impl_size_int64_69.calls (A0 : Option Addr) (c0 : Nat) (l0 : List Int) (r : Int) (w : World) (hr0 : Kd.C (Kd.int .i64) w A0 l0.length l0) (hc0 : l0.length ≤ c0) (h : impl_size_int64_69.f l0 = some r) :
  Calls Try.prog 69 #[.slice A0 l0.length c0] w fun e w' => e = .returned (.int .i64 r) ∧ Drawn0 w w' := by
 have HR0 := Aside0.mk hr0
 have HC0 := Aside0.mk hc0
 clear hr0 hc0
 have H : (some (l0.length : Int)) = some r := h
 clear h
 obtain rfl := Option.some.inj H
 go_enter Try.func69, Try.ntmps69
 go_wp2
 go_ret
 exact ⟨by first | rfl | (simp; done) | (simp [*]; done), by repeat (first | exact Drawn0.refl _ | apply Drawn0.step)⟩
end Go.Proofs.Ytckonklpdepgoaa.Q
namespace Go.Proofs.Ytckonklpdepgoaa.Q
open Go.RowKit Go.Proofs.YtckonklpdepgoaaW.PrintWords Go.Proofs.YtckonklpdepgoaaW.PrintLast Go.Proofs.YtckonklpdepgoaaW.PrintMore
attribute [local go_sem] max2_int min2_int max_two min_two max_three min_three max_four min_four   -- for this text's walks alone
set_option linter.unusedVariables false
set_option linter.unusedSimpArgs false
def rws_idxf {α : Type} (p : α → Bool) (l : List α) : Int := match l.findIdx? p with | some i => (i : Int) | none => -1
theorem rws_idxf_hit {α : Type} {p : α → Bool} {l : List α} {k : Nat} (hk : k < l.length) (h : p l[k] = true) (hb : ∀ j (hj : j < l.length), j < k → p l[j] = false) : rws_idxf p l = k := by
 unfold rws_idxf
 have : l.findIdx? p = some k := List.findIdx?_eq_some_iff_getElem.2 ⟨hk, h, fun j hj => by simp [hb j (by omega) hj]⟩
 rw [this]
theorem rws_idxf_miss {α : Type} {p : α → Bool} {l : List α} (hb : ∀ j (hj : j < l.length), p l[j] = false) : rws_idxf p l = -1 := by
 unfold rws_idxf
 have : l.findIdx? p = none := List.findIdx?_eq_none_iff.2 (fun x hx => by obtain ⟨j, hj, rfl⟩ := List.getElem_of_mem hx; exact hb j hj)
 rw [this]
theorem rws_idxf_any {α : Type} (p : α → Bool) (l : List α) : decide (rws_idxf p l ≥ 0) = l.any p := by
 unfold rws_idxf
 cases h : l.findIdx? p with
 | none =>
  have := List.findIdx?_eq_none_iff.1 h
  simp only [show ¬ ((-1 : Int) ≥ 0) by omega, decide_false]
  symm
  rw [List.any_eq_false]
  intro x hx
  simp [this x hx]
 | some i =>
  have := List.findIdx?_eq_some_iff_getElem.1 h
  obtain ⟨hi, h1, _⟩ := this
  have h2 : l.any p = true := List.any_eq_true.2 ⟨l[i], List.getElem_mem hi, h1⟩
  rw [h2]
  simp
set_option maxHeartbeats 2000000 in
theorem rws_ixf (g : Nat) (lb : Array Value) (eg : ∀ args w, (callFunc g args).run Try.prog w = .ok (.enter g args) w) (p : List Int → Bool) (A0 : Option Addr) (c0 : Nat) (l0 : List (List Int)) (w : World) (hr : Kd.C (Kd.slice 2 (Kd.int .i64)) w A0 l0.length l0)
  (hp : ∀ (x : List Int) (A : Option Addr) (c : Nat) (w1 : World), Below w.heap.size w w1 → x.length ≤ c → Kd.C (Kd.int .i64) w1 A x.length x → Calls Try.prog g (#[.slice A x.length c] ++ lb) w1 fun e w' => e = .returned (.bool (p x)) ∧ Below w1.heap.size w1 w') :
  Calls Try.prog 113 #[.slice A0 l0.length c0, .func (.func g) #[] lb] w fun e w' => e = .returned (.int .i64 (rws_idxf p l0)) ∧ Below w.heap.size w w' := by
 have hbig : l0.length ≤ 9223372036854775807 := hr.2.1
 have HR := Aside0.mk hr
 clear hr
 go_enter Try.func113, Try.ntmps113
 go_wp2
 go_loopg [5, 8] l0.length (fun gg _ s8 wr => ∃ kk : Nat, kk ≤ l0.length ∧ l0.length - kk ≤ gg ∧ s8 = .int .i64 kk ∧ Aside0 (Below w.heap.size w wr) ∧ Aside0 (∀ j (hj : j < l0.length), j < kk → p l0[j] = false))
 case atStart => exact ⟨0, Nat.zero_le _, by omega, rfl, ⟨Below.refl _ _⟩, ⟨fun j hj h => absurd h (Nat.not_lt_zero _)⟩⟩
 case round =>
  obtain ⟨kk, hkk, hg, rfl, HB, A⟩ := hrel
  by_cases hlt : kk < l0.length
  ·have hltz : (kk : Int) < (l0.length : Int) := by omega
   have HC := Kd.C_below HR.out HB.out
   obtain ⟨ad, rfl, hcs⟩ := HC.2.2 (by omega)
   obtain ⟨cs, hl1, hk1, hc1⟩ := hcs kk _ (List.getElem?_eq_getElem hlt)
   obtain ⟨A1, c1, rfl, hlc, hcr⟩ := hk1
   have hcell := hc1 0 _ rfl
   simp only [show (Kd.slice 2 (Kd.int .i64)).sz = 1 from rfl, Nat.mul_one, Nat.add_zero] at hcell
   have HCR := Aside0.mk hcr
   have HLC := Aside0.mk hlc
   clear hcs hc1 hl1 hcr hlc HC
   generalize hy : l0[kk] = y at hcell HCR HLC
   have B := Aside0.mk hy
   clear hy
   cases hq : p y with
   | true =>
    go_wp2_with fail
    refine (hp y A1 c1 _ HB.out HLC.out HCR.out).mono ?_
    rintro e w' ⟨rfl, hb⟩
    rw [hq]
    have HB2 := Aside0.mk (below_then HB.out HB.out.size hb)
    go_wp2
    go_ret
    exact ⟨by rw [rws_idxf_hit hlt (by rw [B.out]; exact hq) A.out]; rfl, by first | exact HB2.out | exact pw_below_drewN HB2.out _⟩
   | false =>
    go_wp2_with fail
    refine (hp y A1 c1 _ HB.out HLC.out HCR.out).mono ?_
    rintro e w' ⟨rfl, hb⟩
    rw [hq]
    have HB2 := Aside0.mk (below_then HB.out HB.out.size hb)
    go_wp2
    go_roundg (l0.length - (kk + 1))
    case measure => omega
    case rel =>
     refine ⟨kk + 1, by omega, by omega, by go_num, ⟨by first | exact HB2.out | exact pw_below_drewN HB2.out _⟩, ⟨fun j hj h => ?_⟩⟩
     by_cases e : j = kk
     ·subst e
      rw [B.out]; exact hq
     ·exact A.out j hj (by omega)
  ·have hltz : ¬ (kk : Int) < (l0.length : Int) := by omega
   have : kk = l0.length := by omega
   subst this
   go_wp2
   go_ret
   exact ⟨by rw [rws_idxf_miss (fun j hj => A.out j hj hj)]; rfl, by first | exact HB.out | exact pw_below_drewN HB.out _⟩
set_option maxHeartbeats 2000000 in
theorem rws_ctf (g : Nat) (lb : Array Value) (eg : ∀ args w, (callFunc g args).run Try.prog w = .ok (.enter g args) w) (p : List Int → Bool) (A0 : Option Addr) (c0 : Nat) (l0 : List (List Int)) (w : World) (hr : Kd.C (Kd.slice 2 (Kd.int .i64)) w A0 l0.length l0)
  (hp : ∀ (x : List Int) (A : Option Addr) (c : Nat) (w1 : World), Below w.heap.size w w1 → x.length ≤ c → Kd.C (Kd.int .i64) w1 A x.length x → Calls Try.prog g (#[.slice A x.length c] ++ lb) w1 fun e w' => e = .returned (.bool (p x)) ∧ Below w1.heap.size w1 w') :
  Calls Try.prog 80 #[.slice A0 l0.length c0, .func (.func g) #[] lb] w fun e w' => e = .returned (.bool (l0.any p)) ∧ Below w.heap.size w w' := by
 have HR := Aside0.mk hr
 clear hr
 rw [← rws_idxf_any]
 go_enter Try.func80, Try.ntmps80
 go_wp2_with (go_at_call 113; refine (rws_ixf g lb eg p A0 c0 l0 _ HR.out hp).mono ?_; rintro e w' ⟨rfl, hb⟩)
 go_ret
 exact ⟨rfl, by first | exact hb | exact pw_below_drewN hb _⟩
end Go.Proofs.Ytckonklpdepgoaa.Q
namespace Go.Proofs.Ytckonklpdepgoaa.Q
open Go.RowKit Go.Proofs.YtckonklpdepgoaaW.PrintWords Go.Proofs.YtckonklpdepgoaaW.PrintLast Go.Proofs.YtckonklpdepgoaaW.PrintMore
attribute [local go_sem] max2_int min2_int max_two min_two max_three min_three max_four min_four   -- for this text's walks alone
set_option linter.unusedVariables false
set_option linter.unusedSimpArgs false
theorem i64_enters {f : FuncId} {fn : Func} {c : Code} (hf : Try.prog.funcs[f]? = some fn) (hname : (fn.name == "runtime.NumGoroutine") = false) (hb : fn.body = some c) (args : Array Value) (w : World) : (callFunc f args).run Try.prog w = .ok (.enter f args) w := by
  have h1 : fn.name ≠ "runtime.NumGoroutine" := by simpa using hname
  simp [callFunc, hf, h1, hb, mark]
def i64_idxf {α : Type} (p : α → Bool) (l : List α) : Int := match l.findIdx? p with | some i => (i : Int) | none => -1
theorem i64_idxf_hit {α : Type} {p : α → Bool} {l : List α} {k : Nat} (hk : k < l.length) (h : p l[k] = true) (hb : ∀ j (hj : j < l.length), j < k → p l[j] = false) : i64_idxf p l = k := by
  unfold i64_idxf
  have : l.findIdx? p = some k := List.findIdx?_eq_some_iff_getElem.2 ⟨hk, h, fun j hj => by simp [hb j (by omega) hj]⟩
  rw [this]
theorem i64_idxf_miss {α : Type} {p : α → Bool} {l : List α} (hb : ∀ j (hj : j < l.length), p l[j] = false) : i64_idxf p l = -1 := by
  unfold i64_idxf
  have : l.findIdx? p = none := List.findIdx?_eq_none_iff.2 (fun x hx => by obtain ⟨j, hj, rfl⟩ := List.getElem_of_mem hx; exact hb j hj)
  rw [this]
theorem i64_idxf_any {α : Type} (p : α → Bool) (l : List α) : decide (i64_idxf p l ≥ 0) = l.any p := by
  unfold i64_idxf
  cases h : l.findIdx? p with
  | none =>
    have := List.findIdx?_eq_none_iff.1 h
    simp only [show ¬ ((-1 : Int) ≥ 0) by omega, decide_false]
    symm
    rw [List.any_eq_false]
    intro x hx
    simp [this x hx]
  | some i =>
    have := List.findIdx?_eq_some_iff_getElem.1 h
    obtain ⟨hi, h1, _⟩ := this
    have h2 : l.any p = true := List.any_eq_true.2 ⟨l[i], List.getElem_mem hi, h1⟩
    rw [h2]
    simp
set_option maxHeartbeats 2000000 in
theorem i64_ixf (g : Nat) (lb : Array Value) (eg : ∀ args w, (callFunc g args).run Try.prog w = .ok (.enter g args) w) (p : Int → Bool) (A0 : Option Addr) (c0 : Nat) (l0 : List Int) (w : World) (hr : Kd.C (Kd.int .i64) w A0 l0.length l0)
    (hp : ∀ (x : Int) (q : Nat), Calls Try.prog g (#[.int .i64 x] ++ lb) (w.drewN q) fun e w' => e = .returned (.bool (p x)) ∧ ∃ q', w' = (w.drewN q).drewN q') :
    Calls Try.prog 147 #[.slice A0 l0.length c0, .func (.func g) #[] lb] w fun e w' => e = .returned (.int .i64 (i64_idxf p l0)) ∧ ∃ q, w' = w.drewN q := by
  have hbig : l0.length ≤ 9223372036854775807 := hr.2.1
  have HR := Aside0.mk hr
  clear hr
  go_enter Try.func147, Try.ntmps147
  go_wp2
  go_loopg [5, 8] l0.length (fun gg _ s8 wr => ∃ kk q : Nat, kk ≤ l0.length ∧ l0.length - kk ≤ gg ∧ s8 = .int .i64 kk ∧ wr = w.drewN q ∧ Aside0 (∀ j (hj : j < l0.length), j < kk → p l0[j] = false))
  case atStart => exact ⟨0, 0, Nat.zero_le _, by omega, rfl, rfl, ⟨fun j hj h => absurd h (Nat.not_lt_zero _)⟩⟩
  case round =>
    obtain ⟨kk, q, hkk, hg, rfl, rfl, A⟩ := hrel
    by_cases hlt : kk < l0.length
    · have hltz : (kk : Int) < (l0.length : Int) := by omega
      obtain ⟨ad, rfl, hcs⟩ := HR.out.2.2 (by omega)
      obtain ⟨cs, hl1, hk1, hc1⟩ := hcs kk _ (List.getElem?_eq_getElem hlt)
      have hk2 : cs = [.int .i64 l0[kk]] := hk1
      subst hk2
      have hcell : w.cell? (ad.add kk) = some (.int .i64 l0[kk]) := by simpa [show (Kd.int .i64).sz = 1 from rfl] using hc1 0 _ rfl
      clear hcs hc1 hl1 hk1
      generalize hy : l0[kk] = y at hcell
      have B := Aside0.mk hy
      clear hy
      have hcall := hp y
      cases hq : p y with
      | true =>
        rw [hq] at hcall
        go_wp2_with fail
        refine (hcall _).mono ?_
        rintro e w' ⟨rfl, q', rfl⟩
        go_wp2
        go_ret
        exact ⟨by rw [i64_idxf_hit hlt (by rw [B.out]; exact hq) A.out]; rfl, _, rfl⟩
      | false =>
        rw [hq] at hcall
        go_wp2_with fail
        refine (hcall _).mono ?_
        rintro e w' ⟨rfl, q', rfl⟩
        go_wp2
        go_roundg (l0.length - (kk + 1))
        case measure => omega
        case rel =>
          refine ⟨kk + 1, _, by omega, by omega, by go_num, rfl, ⟨fun j hj h => ?_⟩⟩
          by_cases e : j = kk
          · subst e
            rw [B.out]; exact hq
          · exact A.out j hj (by omega)
    · have hltz : ¬ (kk : Int) < (l0.length : Int) := by omega
      have : kk = l0.length := by omega
      subst this
      go_wp2
      go_ret
      exact ⟨by rw [i64_idxf_miss (fun j hj => A.out j hj hj)]; rfl, q, rfl⟩
set_option maxHeartbeats 2000000 in
theorem i64_ctf (g : Nat) (lb : Array Value) (eg : ∀ args w, (callFunc g args).run Try.prog w = .ok (.enter g args) w) (p : Int → Bool) (A0 : Option Addr) (c0 : Nat) (l0 : List Int) (w : World) (hr : Kd.C (Kd.int .i64) w A0 l0.length l0)
    (hp : ∀ (x : Int) (q : Nat), Calls Try.prog g (#[.int .i64 x] ++ lb) (w.drewN q) fun e w' => e = .returned (.bool (p x)) ∧ ∃ q', w' = (w.drewN q).drewN q') :
    Calls Try.prog 138 #[.slice A0 l0.length c0, .func (.func g) #[] lb] w fun e w' => e = .returned (.bool (l0.any p)) ∧ ∃ q, w' = w.drewN q := by
  have HR := Aside0.mk hr
  clear hr
  rw [← i64_idxf_any]
  go_enter Try.func138, Try.ntmps138
  go_wp2_with (go_at_call 147; refine (i64_ixf g lb eg p A0 c0 l0 _ HR.out hp).mono ?_; rintro e w' ⟨rfl, q, rfl⟩)
  go_ret
  exact ⟨rfl, q, rfl⟩
def impl_areWithin.f (l0 : List Int) (a1 : Int) (a2 : Int) : Option (Bool) := some (l0.all fun x => decide (a1 ≤ x ∧ x ≤ a2))
theorem impl_within_tells (x a1 a2 : Int) : impl_within.f x a1 a2 = some (decide (a1 ≤ x ∧ x ≤ a2)) := by
  unfold impl_within.f
  split
  · simp [*]
  · simp [*]
set_option maxHeartbeats 2000000 in
theorem impl_areWithin.one (b1 b2 : Nat) (a1 a2 : Int) (x : Int) (w : World) (h1 : w.cell? ⟨b1, 0, none⟩ = some (.int .i64 a1)) (h2 : w.cell? ⟨b2, 0, none⟩ = some (.int .i64 a2)) :
   Calls Try.prog 139 (#[.int .i64 x] ++ #[.pointer (some ⟨b1, 0, none⟩), .pointer (some ⟨b2, 0, none⟩)]) w fun e w' => e = .returned (.bool (!decide (a1 ≤ x ∧ x ≤ a2))) ∧ ∃ q', w' = w.drewN q' := by
  have H := Aside0.mk (impl_within_tells x a1 a2)
  generalize decide (a1 ≤ x ∧ x ≤ a2) = b at H ⊢
  go_enter Try.func139, Try.ntmps139
  go_wp2_with (go_at_call 60; refine (impl_within.calls x a1 a2 b _ H.out).mono ?_; rintro e w' ⟨rfl, ⟨nd, rfl⟩⟩)
  go_ret
  exact ⟨rfl, _, rfl⟩
set_option maxHeartbeats 2000000 in
theorem impl_areWithin.calls (A0 : Option Addr) (c0 : Nat) (l0 : List Int) (a1 a2 : Int) (r : Bool) (w : World) (hr0 : Kd.C (Kd.int .i64) w A0 l0.length l0) (hc0 : l0.length ≤ c0) (h : impl_areWithin.f l0 a1 a2 = some r) :
    Calls Try.prog 119 #[.slice A0 l0.length c0, .int .i64 a1, .int .i64 a2] w fun e w' => e = .returned (.bool r) ∧ Below w.heap.size w w' := by
  obtain rfl := Option.some.inj h
  clear h hc0
  have eg : ∀ args w, (callFunc 139 args).run Try.prog w = .ok (.enter 139 args) w := i64_enters Try.func139 (by kernel_rfl) rfl
  have e : (l0.all fun x => decide (a1 ≤ x ∧ x ≤ a2)) = !(l0.any fun x => !decide (a1 ≤ x ∧ x ≤ a2)) := by simp [List.all_eq_not_any_not]
  rw [e]
  have HR := Aside0.mk hr0
  clear hr0 e
  have hp : ∃ p : Int → Bool, p = fun x => !decide (a1 ≤ x ∧ x ≤ a2) := ⟨_, rfl⟩
  obtain ⟨p, hp⟩ := hp
  rw [← hp]
  have HP := Aside0.mk hp
  clear hp
  go_enter Try.func119, Try.ntmps119
  go_wp2_with (go_at_call 138; refine (i64_ctf 139 _ eg p A0 c0 l0 _ (by have hb := ((Below.refl w.heap.size w).alloc (Nat.le_refl _) (.cells #[.int .i64 a1] 2 (0, 0))).alloc (by simp) (.cells #[.int .i64 a2] 2 (0, 0)); exact Kd.C_below HR.out hb) (fun x q => by rw [HP.out]; exact impl_areWithin.one _ _ a1 a2 x _ (by simp) (by simp))).mono ?_; rintro e w' ⟨rfl, q, rfl⟩)
  go_ret
  exact ⟨rfl, pw_below_drewN (((Below.refl w.heap.size w).alloc (Nat.le_refl _) _).alloc (by simp) _) _⟩
end Go.Proofs.Ytckonklpdepgoaa.Q
namespace Go.Proofs.Ytckonklpdepgoaa.Q
open Go.RowKit Go.Proofs.YtckonklpdepgoaaW.PrintWords Go.Proofs.YtckonklpdepgoaaW.PrintLast Go.Proofs.YtckonklpdepgoaaW.PrintMore
attribute [local go_sem] max2_int min2_int max_two min_two max_three min_three max_four min_four   -- for this text's walks alone
set_option linter.unusedVariables false
set_option linter.unusedSimpArgs false
set_option maxHeartbeats 4000000 in
set_option maxRecDepth 100000 in
theorem i64_grow (n : Nat) (w : World) (hn : n ≤ 1000000000) : Calls Try.prog 114 #[.slice none 0 0, .int .i64 n] w fun e w' => ∃ v : Value, e = .returned v ∧ Kd.R (Kd.int .i64) 2 w' w.heap.size (fun _ => True) v ([] : List Int) ∧ Below w.heap.size w w' := by
 by_cases h0 : n = 0
 ·subst h0
  go_enter Try.func114, Try.ntmps114
  go_wp2
  go_ret
  exact ⟨_, rfl, Kd.R_nil _ _ _ _ _, Below.refl _ _⟩
 ·have h1 : (0 : Int) < (n : Int) := by omega
  have hb : (n : Int) ≤ 1000000000 := by omega
  have HN := Aside0.mk hn
  have hci := (show (Try.prog.info? 2).map (fun i => (i.zero, i.size, i.bytes)) = some (some (.int .i64 0), 1, 8) from by kernel_rfl)
  have HCI := Aside0.mk hci
  obtain ⟨i0, hi, hz0⟩ := Option.map_eq_some_iff.1 hci
  have HI := Aside0.mk hi
  clear h0 hn hci hi hz0
  go_enter Try.func114, Try.ntmps114
  go_wp2_with ((with_reducible refine gate_dst (N := 22) rfl ?_); refine Kd.R_append_zeros (Kd.int .i64) w.heap.size ?hg (.tmp 20) (.tmp 21) 34 3 2 (.int .i64 0) 8 ?ho Try.underlying34 (k := .i64) ?hti HCI.out rfl (by decide) (by decide) (.slice none 0 0) [] (0) (kx := .i64) (n : Int) (fun _ => True) ?hs ?hx rfl (fun _ _ => trivial) (Kd.R_nil _ _ _ _ _) ?h0 (Below.refl _ _) (Nat.le_refl _) ?hl ?_; (case hg => rfl); (case ho => rfl); (case hti => exact Try.underlying3); (case hs => rfl); (case hx => rfl); (case h0 => omega); (case hl => (have := HN.out; simp <;> omega)); intro v1 w1 hr hb1 hg_ hat_; have HR := Aside0.mk hr; have HB := Aside0.mk hb1; clear hr hb1 hg_ hat_; obtain ⟨A1, c1, e1⟩ := Kd.R_slice HR.out; subst e1; have hcut := cut_to (P := Try.prog) 34 2 .i64 Try.underlying34 HI.out A1 (([] : List Int) ++ List.replicate (n : Int).toNat (0)).length c1 0 (by omega) (by omega) (Kd.R_reads' HR.out).2.1)
  go_ret
  exact ⟨.slice A1 0 c1, rfl, Kd.R_take (xs := ([] : List Int) ++ List.replicate (n : Int).toNat (0)) (m := 0) HR.out (Nat.zero_le _), HB.out⟩
def i64_tl (ls : List (List Int)) (kk : Nat) : Nat := (ls.take kk).flatten.length
set_option maxHeartbeats 4000000 in
set_option maxRecDepth 100000 in
theorem i64_concat (A0 : Option Addr) (c0 : Nat) (ls : List (List Int)) (w : World) (hr : Kd.C (Kd.slice 2 (Kd.int .i64)) w A0 ls.length ls) (hn : ls.flatten.length ≤ 1000000000) :
  Calls Try.prog 82 #[.slice A0 ls.length c0] w fun e w' => ∃ v : Value, e = .returned v ∧ Kd.R (Kd.int .i64) 2 w' w.heap.size (fun _ => True) v ls.flatten ∧ Below w.heap.size w w' := by
 have hbig : ls.length ≤ 9223372036854775807 := hr.2.1
 have HR := Aside0.mk hr
 have HN := Aside0.mk hn
 have hci := (show (Try.prog.info? 2).map (fun i => (i.zero, i.size, i.bytes)) = some (some (.int .i64 0), 1, 8) from by kernel_rfl)
 have HCI := Aside0.mk hci
 clear hr hn hci
 go_enter Try.func82, Try.ntmps82
 go_wp2
 go_loopg [3, 11] ls.length (fun gg s3 s11 wr => ∃ kk : Nat, kk ≤ ls.length ∧ ls.length - kk ≤ gg ∧ s11 = .int .i64 kk ∧ s3 = .int .i64 (i64_tl ls kk : Nat) ∧ w = wr)
 case atStart => exact ⟨0, Nat.zero_le _, by omega, rfl, rfl, rfl⟩
 case round =>
  obtain ⟨kk, hkk, hg, rfl, rfl, rfl⟩ := hrel
  by_cases hlt : kk < ls.length
  ·have hltz : (kk : Int) < (ls.length : Int) := by omega
   obtain ⟨ad, rfl, hcs⟩ := HR.out.2.2 (by omega)
   obtain ⟨cs, hl1, hk1, hc1⟩ := hcs kk _ (List.getElem?_eq_getElem hlt)
   obtain ⟨A1, c1, rfl, hlc, hcr⟩ := hk1
   have hcell := hc1 0 _ rfl
   simp only [show (Kd.slice 2 (Kd.int .i64)).sz = 1 from rfl, Nat.mul_one, Nat.add_zero] at hcell
   have hsum : (ls.take (kk + 1)).flatten.length = (ls.take kk).flatten.length + ls[kk].length := by rw [List.take_succ_eq_append_getElem hlt, List.flatten_append]; simp
   have hle : (ls.take (kk + 1)).flatten.length ≤ ls.flatten.length := by
    have h := congrArg (fun l => (List.flatten l).length) (List.take_append_drop (kk + 1) ls)
    simp only [List.flatten_append, List.length_append] at h
    omega
   have hnn := HN.out
   change i64_tl ls (kk + 1) = i64_tl ls kk + ls[kk].length at hsum
   change i64_tl ls (kk + 1) ≤ ls.flatten.length at hle
   generalize hm : i64_tl ls (kk + 1) = m at hsum hle
   generalize hm0 : i64_tl ls kk = m0 at hsum ⊢
   generalize hy : ls[kk].length = y at hcell hsum
   have hm1 : (m0 : Int) + (y : Int) ≤ 1000000000 := by omega
   have HM := Aside0.mk hm
   have HS := Aside0.mk hsum
   clear hcs hc1 hl1 hlc hcr hm hm0 hsum hle hnn hy
   go_wp2
   go_roundg (ls.length - (kk + 1))
   case measure => omega
   case rel => exact ⟨kk + 1, by omega, by omega, by go_num, by rw [HM.out, HS.out]; go_num, rfl⟩
  ·have : kk = ls.length := by omega
   subst this
   have hm : i64_tl ls ls.length = ls.flatten.length := by unfold i64_tl; rw [List.take_length]
   rw [hm]
   have hnn := HN.out
   clear hm
   obtain ⟨NN, hNN⟩ : ∃ N_ : Nat, ls.flatten.length = N_ := ⟨_, rfl⟩
   rw [hNN] at hnn ⊢
   have HNN := Aside0.mk hnn
   clear hNN
   go_wp2_with (go_at_call 114; refine (i64_grow NN _ HNN.out).mono ?_; rintro e w2 ⟨v2, rfl, hr2, hb2⟩)
   have HV := Aside0.mk hr2
   have HB := Aside0.mk hb2
   clear hr2 hb2
   go_loopg [6, 27] ls.length (fun gg s6 s27 w' => ∃ kk : Nat, kk ≤ ls.length ∧ ls.length - kk ≤ gg ∧ s27 = .int .i64 kk ∧ Aside0 (Kd.R (Kd.int .i64) 2 w' w.heap.size (fun _ => True) s6 (ls.take kk).flatten) ∧ Aside0 (Below w.heap.size w w'))
   case atStart => exact ⟨0, Nat.zero_le _, by omega, rfl, by rw [List.take_zero, List.flatten_nil]; exact HV, HB⟩
   case round =>
    clear HV HB
    obtain ⟨kk, hkk, hg, rfl, HV, HB⟩ := hrel
    by_cases hlt : kk < ls.length
    ·have hltz : (kk : Int) < (ls.length : Int) := by omega
     have HC := Kd.C_below HR.out HB.out
     obtain ⟨ad, rfl, hcs⟩ := HC.2.2 (by omega)
     obtain ⟨cs, hl1, hk1, hc1⟩ := hcs kk _ (List.getElem?_eq_getElem hlt)
     obtain ⟨A1, c1, rfl, hlc, hcr⟩ := hk1
     have hcell := hc1 0 _ rfl
     simp only [show (Kd.slice 2 (Kd.int .i64)).sz = 1 from rfl, Nat.mul_one, Nat.add_zero] at hcell
     have hsum : (ls.take (kk + 1)).flatten = (ls.take kk).flatten ++ ls[kk] := by rw [List.take_succ_eq_append_getElem hlt, List.flatten_append]; simp
     have hle : (ls.take (kk + 1)).flatten.length ≤ ls.flatten.length := by
      have h := congrArg (fun l => (List.flatten l).length) (List.take_append_drop (kk + 1) ls)
      simp only [List.flatten_append, List.length_append] at h
      omega
     rw [hsum] at hle
     generalize hm : (ls.take (kk + 1)).flatten = m at hsum
     generalize hm0 : (ls.take kk).flatten = m0 at hsum hle HV
     generalize hy : ls[kk] = y at hcell hsum hle hcr
     have HM := Aside0.mk hm
     have HS := Aside0.mk hsum
     have HCR := Aside0.mk hcr
     have HLE := Aside0.mk hle
     clear hcs hc1 hl1 hlc hcr hm hm0 hsum hle hy HC
     go_wp2_with ((with_reducible refine gate_dst (N := 33) rfl ?_); refine Kd.R_append_rows (Kd.int .i64) (Rr := fun x cs => cs = [.int .i64 x]) w.heap.size ?hg (.tmp 31) (.tmp 32) 34 2 (.int .i64 0) 8 ?ho Try.underlying34 HCI.out rfl (by decide) (by decide) _ m0 y A1 y.length c1 (fun _ => True) (fun _ => False) ?hs ?hx HV.out HCR.out (fun x cs h => h) (fun k h => h.elim) (fun _ _ => trivial) HB.out HB.out.size ?hl ?_; (case hg => rfl); (case ho => rfl); (case hs => rfl); (case hx => rfl); (case hl => (have h1 := HLE.out; have h2 := HN.out; rw [List.length_append] at h1; omega)); intro v1 w1 hr hb1 hg_ hat_; have HV1 := Aside0.mk hr; have HB1 := Aside0.mk hb1; clear hr hb1 hg_ hat_)
     go_roundg (ls.length - (kk + 1))
     case measure => omega
     case rel => exact ⟨kk + 1, by omega, by omega, by go_num, by rw [HM.out, HS.out]; exact HV1, HB1⟩
    ·have : kk = ls.length := by omega
     subst this
     rw [List.take_length] at HV
     go_wp2
     go_ret
     exact ⟨_, rfl, HV.out, HB.out⟩
end Go.Proofs.Ytckonklpdepgoaa.Q
namespace Go.Proofs.Ytckonklpdepgoaa.Q
open Go.RowKit Go.Proofs.YtckonklpdepgoaaW.PrintWords Go.Proofs.YtckonklpdepgoaaW.PrintLast Go.Proofs.YtckonklpdepgoaaW.PrintMore
attribute [local go_sem] max2_int min2_int max_two min_two max_three min_three max_four min_four   -- for this text's walks alone
set_option linter.unusedVariables false
set_option linter.unusedSimpArgs false
set_option maxHeartbeats 2000000 in
theorem i64_sort (base : Nat) (ok : Nat → Prop) (A : Option Addr) (c : Nat) (xs : List Int) (w : World) (h : Kd.R (Kd.int .i64) 2 w base ok (.slice A xs.length c) xs) (hp : 0 < xs.length) (hs : xs.length ≤ 1000000000) :
  Calls Try.prog 83 #[.slice A xs.length c] w fun e w' => e = .returned (.tuple #[]) ∧ Kd.R (Kd.int .i64) 2 w' base ok (.slice A xs.length c) (xs.mergeSort fun x y => decide (x ≤ y)) ∧ w.grownBy w' (Value.slice A xs.length c).ownBlock := by
 have ho := Kd.own_of_R h
 have hok := h.1
 obtain ⟨hl, hr⟩ := ho
 rcases hr with ⟨_, hn⟩ | ⟨g, cap, cur, hv, hb, hh, h1, h2, h3, h4⟩
 ·omega
 ·injection hv with e1 e2 e3
  subst e1
  subst e3
  refine (Try.slices_Sort_int g 0 c xs w (Go.holds_of_blockI hh ?_) (Array.getElem?_eq_some_iff.1 hh).1 (by omega)).mono ?_
  ·rw [Nat.mul_one] at h4
   exact h4
  ·rintro e w' ⟨rfl, n, os, rfl⟩
   refine ⟨rfl, ?_, Go.grownBy_sortedI _⟩
   have hlen : (xs.mergeSort fun x y => decide (x ≤ y)).length = xs.length := List.length_mergeSort _
   have hown := Go.ownsRow_sortedI (n := n) (os := os) (ss := xs) (ts := xs.mergeSort fun x y => decide (x ≤ y)) hlen hb hh h1 h2 h3
   rw [← hlen] at hown hok ⊢
   exact Kd.R_of_own hown hok
end Go.Proofs.Ytckonklpdepgoaa.Q
namespace Go.Proofs.Ytckonklpdepgoaa.Q
open Go.RowKit Go.Proofs.YtckonklpdepgoaaW.PrintWords Go.Proofs.YtckonklpdepgoaaW.PrintLast Go.Proofs.YtckonklpdepgoaaW.PrintMore
attribute [local go_sem] max2_int min2_int max_two min_two max_three min_three max_four min_four   -- for this text's walks alone
set_option linter.unusedVariables false
set_option linter.unusedSimpArgs false
def impl_isSet.l0 : Nat → List Int → Int → List Int → Int → Int → Option (Bool)
 | 0, _, _, _, _, _ => none
 | k + 1, x0, x1, x7, x8, x9 => if x9 < x8 then (if 0 ≤ x9 then (if x9 < (x7.length : Int) then ((impl_within.f (rd x7 x9) 0 (wrap64 (x1 - 1))).bind fun t422 => (if t422 = true then (if x9 > 0 then (if 0 ≤ (wrap64 (x9 - 1)) then (if (wrap64 (x9 - 1)) < (x0.length : Int) then (if (rd x7 x9) ≤ (rd x0 (wrap64 (x9 - 1))) then (some false) else (impl_isSet.l0 k x0 x1 x7 x8 (wrap64 (x9 + 1)))) else (none)) else (none)) else (impl_isSet.l0 k x0 x1 x7 x8 (wrap64 (x9 + 1)))) else (some false))) else (none)) else (none)) else (some true)
def impl_isSet.f (k : Nat) (l0 : List Int) (a1 : Int) : Option (Bool) := impl_isSet.l0 k l0 a1 l0 (l0.length : Int) 0
theorem impl_isSet.mono_l : ∀ k, (∀ y0 y1 y2 y3 y4, LeO (impl_isSet.l0 k y0 y1 y2 y3 y4) (impl_isSet.l0 (k + 1) y0 y1 y2 y3 y4))
 | 0 => fun _ _ _ _ _ r h => by simp [impl_isSet.l0] at h
 | k + 1 => by
  have ih0 := impl_isSet.mono_l k
  ·intro y0 y1 y2 y3 y4
   unfold impl_isSet.l0
   repeat' first
   | (with_reducible exact ih0 _ _ _ _ _)
   | (with_reducible exact LeO.refl _)
   | (with_reducible exact LeO.none _)
   | (with_reducible refine LeO.ite ?_ ?_)
   | (with_reducible refine LeO.bind ?_ (fun _ => ?_))
   | exact ih0 _ _ _ _ _
   | exact LeO.none _
   | refine LeO.ite ?_ ?_
   | refine LeO.bind ?_ (fun _ => ?_)
theorem impl_isSet.mono : ∀ a0 a1 k, LeO (impl_isSet.f k a0 a1) (impl_isSet.f (k + 1) a0 a1) := by
 intro a0 a1 k
 have ih0 := impl_isSet.mono_l k
 unfold impl_isSet.f
 repeat' first
   | (with_reducible exact ih0 _ _ _ _ _)
   | (with_reducible exact LeO.refl _)
   | (with_reducible exact LeO.none _)
   | (with_reducible refine LeO.ite ?_ ?_)
   | (with_reducible refine LeO.bind ?_ (fun _ => ?_))
   | exact ih0 _ _ _ _ _
   | exact LeO.none _
   | refine LeO.ite ?_ ?_
   | refine LeO.bind ?_ (fun _ => ?_)
set_option maxHeartbeats 8000000 in
set_option maxRecDepth 100000 in
theorem impl_isSet.calls (k : Nat) (A0 : Option Addr) (c0 : Nat) (l0 : List Int) (a1 : Int) (r : Bool) (w : World) (hr0 : Kd.C (Kd.int .i64) w A0 l0.length l0) (hc0 : l0.length ≤ c0) (h : impl_isSet.f k l0 a1 = some r) :
  Calls Try.prog 84 #[.slice A0 l0.length c0, .int .i64 a1] w fun e w' => e = .returned (.bool r) ∧ Drawn0 w w' := by
 have HR0 := Aside0.mk hr0
 have HC0 := Aside0.mk hc0
 clear hr0 hc0
 have H : (impl_isSet.l0 k l0 a1 l0 (l0.length : Int) 0) = some r := h
 clear h
 have H' := Aside0.mk H
 clear H
 go_enter Try.func84, Try.ntmps84
 go_wp2
 go_loopg [9] k (fun kq v9 w' => ∃ (x9_1 : Int), v9 = .int .i64 x9_1 ∧ Aside0 (impl_isSet.l0 kq l0 a1 l0 (l0.length : Int) x9_1 = some r) ∧ Aside0 (kq ≤ k) ∧ Drawn0 w w')
 case atStart => exact ⟨(0), (by first | rfl | (simp; done) | (simp [*]; done)), H', ⟨Nat.le_refl _⟩, by repeat (first | exact Drawn0.refl _ | apply Drawn0.step)⟩
 case round =>
  clear H'
  try clear p2
  obtain ⟨x9_1, rfl, HA, HK1, ⟨m1, rfl⟩⟩ := hrel
  cases gk with
  | zero => exact absurd HA.out (by simp [impl_isSet.l0])
  | succ k1 =>
   have H := HA.out
   clear HA
   simp only [impl_isSet.l0] at H
   by_cases c3 : x9_1 < (l0.length : Int)
   ·rw [if_pos c3] at H
    have c3b0 : decide (x9_1 < (l0.length : Int)) = true := decide_eq_true c3
    clear c3
    by_cases c4 : 0 ≤ x9_1
    ·rw [if_pos c4] at H
     have c4b0 : decide (0 ≤ x9_1) = true := decide_eq_true c4
     clear c4
     by_cases c5 : x9_1 < (l0.length : Int)
     ·rw [if_pos c5] at H
      have c5b0 : decide (x9_1 < (l0.length : Int)) = true := decide_eq_true c5
      clear c5
      replace H := Option.bind_eq_some_iff.mp H
      obtain ⟨t422, A60, H⟩ := H
      replace H : (if t422 = true then (if x9_1 > 0 then (if 0 ≤ (wrap64 (x9_1 - 1)) then (if (wrap64 (x9_1 - 1)) < (l0.length : Int) then (if (rd l0 x9_1) ≤ (rd l0 (wrap64 (x9_1 - 1))) then (some false) else (impl_isSet.l0 k1 l0 a1 l0 (l0.length : Int) (wrap64 (x9_1 + 1)))) else (none)) else (none)) else (impl_isSet.l0 k1 l0 a1 l0 (l0.length : Int) (wrap64 (x9_1 + 1)))) else (some false)) = some r := H
      have A6 := Aside0.mk A60
      clear A60
      by_cases c7 : t422 = true
      ·subst c7
       have H1 : (if x9_1 > 0 then (if 0 ≤ (wrap64 (x9_1 - 1)) then (if (wrap64 (x9_1 - 1)) < (l0.length : Int) then (if (rd l0 x9_1) ≤ (rd l0 (wrap64 (x9_1 - 1))) then (some false) else (impl_isSet.l0 k1 l0 a1 l0 (l0.length : Int) (wrap64 (x9_1 + 1)))) else (none)) else (none)) else (impl_isSet.l0 k1 l0 a1 l0 (l0.length : Int) (wrap64 (x9_1 + 1)))) = some r := by rw [if_pos rfl] at H; exact H
       clear H
       have H := H1
       clear H1
       by_cases c8 : x9_1 > 0
       ·rw [if_pos c8] at H
        have c8b0 : decide (0 < x9_1) = true := decide_eq_true c8
        clear c8
        obtain ⟨ji9, hji9⟩ : ∃ j_ : Int, (wrap64 (x9_1 - 1)) = j_ := ⟨_, rfl⟩
        replace H : (if 0 ≤ (ji9) then (if (ji9) < (l0.length : Int) then (if (rd l0 x9_1) ≤ (rd l0 (ji9)) then (some false) else (impl_isSet.l0 k1 l0 a1 l0 (l0.length : Int) (wrap64 (x9_1 + 1)))) else (none)) else (none)) = some r := by first | (rw [hji9] at H; exact H) | (simp only [hji9] at H ⊢; exact H)
        (try rw [hji9] at A6)
        have hji9w : (IntKind.i64.wrap (x9_1 - 1)) = ji9 := (i64_w _).trans hji9
        by_cases c10 : 0 ≤ (ji9)
        ·rw [if_pos c10] at H
         have c10b0 : decide (0 ≤ (ji9)) = true := decide_eq_true c10
         clear c10
         by_cases c11 : (ji9) < (l0.length : Int)
         ·rw [if_pos c11] at H
          have c11b0 : decide ((ji9) < (l0.length : Int)) = true := decide_eq_true c11
          clear c11
          by_cases c12 : (rd l0 x9_1) ≤ (rd l0 (ji9))
          ·rw [if_pos c12] at H
           have c12b0 : decide ((rd l0 x9_1) ≤ (rd l0 (ji9))) = true := decide_eq_true c12
           clear c12
           obtain rfl := Option.some.inj H
           have p421 : 0 ≤ (x9_1 : Int) := of_decide_eq_true (by first | (with_reducible assumption) | assumption)
           have q421 : x9_1 < (l0.length : Int) := of_decide_eq_true (by first | (with_reducible assumption) | assumption)
           obtain ⟨ad421, e421, hx421_0⟩ := Kd.at_int HR0.out x9_1 p421 q421
           cases e421
           replace p421 := eq_true p421
           replace q421 := eq_true q421
           go_wp2_with (first | ((with_reducible refine gate_callee (f := 60) rfl ?_); refine goesL_ (some 17) rfl rfl Try.func60 (by kernel_rfl) rfl #[.int .i64 (rd l0 x9_1), .int .i64 0, .int .i64 (wrap64 (a1 - 1))] rfl (by (try simp only [List.map_toArray, List.map_cons, List.map_nil]); first | done | rfl | (simp only [List.length_drop, List.length_take]; rfl) | (simp only [show ∀ (n_ : Nat) (b_ : Int), Int.tdiv (n_ : Int) b_ = (n_ : Int) / b_ from fun n_ b_ => Int.tdiv_eq_ediv_of_nonneg (Int.natCast_nonneg n_)]; rfl)) ?_; (with_reducible refine (impl_within.calls (rd l0 x9_1) 0 (wrap64 (a1 - 1)) true _ A6.out).mono ?_); rintro e w' ⟨rfl, ⟨nd, rfl⟩⟩; refine ⟨_, rfl, ?_⟩; have p423 : 0 ≤ ((ji9) : Int) := of_decide_eq_true (by first | (with_reducible assumption) | assumption); have q423 : (ji9) < (l0.length : Int) := of_decide_eq_true (by first | (with_reducible assumption) | assumption); obtain ⟨ad423, e423, hx423_0⟩ := Kd.at_int HR0.out (ji9) p423 q423; obtain rfl : ad421 = ad423 := (by injection e423); replace p423 := eq_true p423; replace q423 := eq_true q423))
           go_ret
           exact ⟨by first | rfl | (simp; done) | (simp only [← hji9] <;> (first | rfl | simp)) | (simp [*]; done), by repeat (first | exact Drawn0.refl _ | apply Drawn0.step)⟩
          ·rw [if_neg c12] at H
           have c12b0 : decide ((rd l0 x9_1) ≤ (rd l0 (ji9))) = false := decide_eq_false c12
           clear c12
           have H' := Aside0.mk H
           clear H
           have p421 : 0 ≤ (x9_1 : Int) := of_decide_eq_true (by first | (with_reducible assumption) | assumption)
           have q421 : x9_1 < (l0.length : Int) := of_decide_eq_true (by first | (with_reducible assumption) | assumption)
           obtain ⟨ad421, e421, hx421_0⟩ := Kd.at_int HR0.out x9_1 p421 q421
           cases e421
           replace p421 := eq_true p421
           replace q421 := eq_true q421
           go_wp2_with (first | ((with_reducible refine gate_callee (f := 60) rfl ?_); refine goesL_ (some 17) rfl rfl Try.func60 (by kernel_rfl) rfl #[.int .i64 (rd l0 x9_1), .int .i64 0, .int .i64 (wrap64 (a1 - 1))] rfl (by (try simp only [List.map_toArray, List.map_cons, List.map_nil]); first | done | rfl | (simp only [List.length_drop, List.length_take]; rfl) | (simp only [show ∀ (n_ : Nat) (b_ : Int), Int.tdiv (n_ : Int) b_ = (n_ : Int) / b_ from fun n_ b_ => Int.tdiv_eq_ediv_of_nonneg (Int.natCast_nonneg n_)]; rfl)) ?_; (with_reducible refine (impl_within.calls (rd l0 x9_1) 0 (wrap64 (a1 - 1)) true _ A6.out).mono ?_); rintro e w' ⟨rfl, ⟨nd, rfl⟩⟩; refine ⟨_, rfl, ?_⟩; have p423 : 0 ≤ ((ji9) : Int) := of_decide_eq_true (by first | (with_reducible assumption) | assumption); have q423 : (ji9) < (l0.length : Int) := of_decide_eq_true (by first | (with_reducible assumption) | assumption); obtain ⟨ad423, e423, hx423_0⟩ := Kd.at_int HR0.out (ji9) p423 q423; obtain rfl : ad421 = ad423 := (by injection e423); replace p423 := eq_true p423; replace q423 := eq_true q423))
           go_roundg k1
           case measure => have := HK1.out; omega
           case rel => exact ⟨(wrap64 (x9_1 + 1)), (by first | rfl | (simp; done) | (simp [*]; done)), H', ⟨by have := HK1.out; omega⟩, by repeat (first | exact Drawn0.refl _ | apply Drawn0.step)⟩
         ·rw [if_neg c11] at H
          exact absurd H (by simp)
        ·rw [if_neg c10] at H
         exact absurd H (by simp)
       ·rw [if_neg c8] at H
        have c8b0 : decide (0 < x9_1) = false := decide_eq_false c8
        clear c8
        have H' := Aside0.mk H
        clear H
        have p421 : 0 ≤ (x9_1 : Int) := of_decide_eq_true (by first | (with_reducible assumption) | assumption)
        have q421 : x9_1 < (l0.length : Int) := of_decide_eq_true (by first | (with_reducible assumption) | assumption)
        obtain ⟨ad421, e421, hx421_0⟩ := Kd.at_int HR0.out x9_1 p421 q421
        cases e421
        replace p421 := eq_true p421
        replace q421 := eq_true q421
        go_wp2_with (first | ((with_reducible refine gate_callee (f := 60) rfl ?_); refine goesL_ (some 17) rfl rfl Try.func60 (by kernel_rfl) rfl #[.int .i64 (rd l0 x9_1), .int .i64 0, .int .i64 (wrap64 (a1 - 1))] rfl (by (try simp only [List.map_toArray, List.map_cons, List.map_nil]); first | done | rfl | (simp only [List.length_drop, List.length_take]; rfl) | (simp only [show ∀ (n_ : Nat) (b_ : Int), Int.tdiv (n_ : Int) b_ = (n_ : Int) / b_ from fun n_ b_ => Int.tdiv_eq_ediv_of_nonneg (Int.natCast_nonneg n_)]; rfl)) ?_; (with_reducible refine (impl_within.calls (rd l0 x9_1) 0 (wrap64 (a1 - 1)) true _ A6.out).mono ?_); rintro e w' ⟨rfl, ⟨nd, rfl⟩⟩; refine ⟨_, rfl, ?_⟩))
        go_roundg k1
        case measure => have := HK1.out; omega
        case rel => exact ⟨(wrap64 (x9_1 + 1)), (by first | rfl | (simp; done) | (simp [*]; done)), H', ⟨by have := HK1.out; omega⟩, by repeat (first | exact Drawn0.refl _ | apply Drawn0.step)⟩
      ·replace c7 := Bool.eq_false_iff.mpr c7
       subst c7
       have H1 : (some false) = some r := by rw [if_neg (show ¬ (false = true) by decide)] at H; exact H
       clear H
       have H := H1
       clear H1
       obtain rfl := Option.some.inj H
       have p421 : 0 ≤ (x9_1 : Int) := of_decide_eq_true (by first | (with_reducible assumption) | assumption)
       have q421 : x9_1 < (l0.length : Int) := of_decide_eq_true (by first | (with_reducible assumption) | assumption)
       obtain ⟨ad421, e421, hx421_0⟩ := Kd.at_int HR0.out x9_1 p421 q421
       cases e421
       replace p421 := eq_true p421
       replace q421 := eq_true q421
       go_wp2_with (first | ((with_reducible refine gate_callee (f := 60) rfl ?_); refine goesL_ (some 17) rfl rfl Try.func60 (by kernel_rfl) rfl #[.int .i64 (rd l0 x9_1), .int .i64 0, .int .i64 (wrap64 (a1 - 1))] rfl (by (try simp only [List.map_toArray, List.map_cons, List.map_nil]); first | done | rfl | (simp only [List.length_drop, List.length_take]; rfl) | (simp only [show ∀ (n_ : Nat) (b_ : Int), Int.tdiv (n_ : Int) b_ = (n_ : Int) / b_ from fun n_ b_ => Int.tdiv_eq_ediv_of_nonneg (Int.natCast_nonneg n_)]; rfl)) ?_; (with_reducible refine (impl_within.calls (rd l0 x9_1) 0 (wrap64 (a1 - 1)) false _ A6.out).mono ?_); rintro e w' ⟨rfl, ⟨nd, rfl⟩⟩; refine ⟨_, rfl, ?_⟩))
       go_ret
       exact ⟨by first | rfl | (simp; done) | (simp [*]; done), by repeat (first | exact Drawn0.refl _ | apply Drawn0.step)⟩
     ·rw [if_neg c5] at H
      exact absurd H (by simp)
    ·rw [if_neg c4] at H
     exact absurd H (by simp)
   ·rw [if_neg c3] at H
    have c3b0 : decide (x9_1 < (l0.length : Int)) = false := decide_eq_false c3
    clear c3
    obtain rfl := Option.some.inj H
    go_wp2
    go_ret
    exact ⟨by first | rfl | (simp; done) | (simp [*]; done), by repeat (first | exact Drawn0.refl _ | apply Drawn0.step)⟩
end Go.Proofs.Ytckonklpdepgoaa.Q
