/- The statement FnPaths, with all that its proof stands on: functions of the program as plain functions, the program's walks, and the plain law. Conditions: none beyond the statement's own. -/
import Derived.ArgAppend
import Derived.Below
import Derived.BigQuiet
import Derived.BigRegion
import Derived.Deep.AppendLies
import Derived.Deep.CutBlock
import Derived.Deep.DeepCutAuto
import Derived.Deep.Draws
import Derived.Deep.LoopGhost
import Derived.Deep.OwnRows
import Derived.Deep.QuietTactic
import Derived.Deep.RegionHeld3
import Derived.Ground.SlgmProg
import Derived.Ground.SlgnProg
import Derived.KernelRfl
import Derived.Laws.BitsLemmas
import Derived.Laws.BytesArg
import Derived.Laws.IdiomCopy
import Derived.Laws.MakeOwn
import Derived.Laws.OwnMore
import Derived.Laws.Rows
import Derived.Laws.Slices
import Derived.Lib.AppendStr
import Derived.Lib.ConvBytes
import Derived.Maps.AppendAt
import Derived.OrdersHeld
import Derived.OwnWalk
import Derived.ProofKit
import Derived.RowKit
import Derived.RowKit3
import Derived.Shelf.SlicesE.Clone
import Derived.Shelf.Small.Bits
import Derived.Shelf.Small.Strs
import Derived.Shelf.SortM.Plain
import Derived.Shelf.Strconv.Itoa0
import Derived.Shelf.Strings.Search1
import Derived.Sort.OwnSortedInts
import Derived.Tactics
import Derived.Test.YtckonklpdepgoaaProg
import Derived.WalkKit
import Derived.WideLaws
import Derived.Test.YtckonklpdepgoaaBFnPaths1
import Derived.Test.YtckonklpdepgoaaBFnPaths2
import Derived.Test.YtckonklpdepgoaaBFnPaths3
import Derived.Test.YtckonklpdepgoaaBFnPaths4
set_option linter.unusedVariables false
set_option linter.unusedSimpArgs false
namespace Go.Proofs.Ytckonklpdepgoaa.Q
open Go.RowKit Go.Proofs.YtckonklpdepgoaaW.PrintWords Go.Proofs.YtckonklpdepgoaaW.PrintLast Go.Proofs.YtckonklpdepgoaaW.PrintMore
attribute [local go_sem] max2_int min2_int max_two min_two max_three min_three max_four min_four   -- for this text's walks alone
set_option linter.unusedVariables false
set_option linter.unusedSimpArgs false
def errW : Option Int → Value
 | none => .nilIface
 | some c => .iface 0 (.int .i64 c)
theorem errW_none : errW none = .nilIface := rfl
theorem errW_some (c : Int) : errW (some c) = .iface 0 (.int .i64 c) := rfl
theorem info2 : (Try.prog.info? 2).map (fun i => (i.zero, i.size, i.bytes)) = some (some (.int .i64 0), 1, 8) := by kernel_rfl
theorem info34 : (Try.prog.info? 34).map (fun i => (i.zero, i.size, i.bytes)) = some (some (.slice none 0 0), 1, 24) := by kernel_rfl
def rd_L1 (xs : List (List Int)) (i : Int) : (List Int) := xs.getD i.toNat ([] : List Int)
theorem at_L1 {w : World} {A : Option Addr} {n : Nat} {xs : List (List Int)} (h : Kd.C (Kd.slice 2 (Kd.int .i64)) w A n xs) (i : Int) (h0 : 0 ≤ i) (h1 : i < n) : ∃ ad A0 c0, A = some ad ∧ w.cell? (ad.add i.toNat) = some (.slice A0 (rd_L1 xs i).length c0) ∧ (rd_L1 xs i).length ≤ c0 ∧ (Kd.int .i64).C w A0 (rd_L1 xs i).length (rd_L1 xs i) := by
 obtain ⟨ad, c, e, _, hK, hc0⟩ := Kd.C_get h ([] : List Int) i h0 h1
 have hc : ∀ j u, c[j]? = some u → w.cell? (ad.add (i.toNat * 1 + j)) = some u := hc0
 obtain ⟨A0, c0, rfl, l0, g0⟩ := hK
 exact ⟨ad, A0, c0, e, by have hq := hc 0 _ rfl; rwa [Nat.mul_one, Nat.add_zero] at hq, l0, g0⟩
end Go.Proofs.Ytckonklpdepgoaa.Q
namespace Go.Proofs.Ytckonklpdepgoaa.Q
open Go.RowKit Go.Proofs.YtckonklpdepgoaaW.PrintWords Go.Proofs.YtckonklpdepgoaaW.PrintLast Go.Proofs.YtckonklpdepgoaaW.PrintMore
attribute [local go_sem] max2_int min2_int max_two min_two max_three min_three max_four min_four   -- for this text's walks alone
set_option linter.unusedVariables false
set_option linter.unusedSimpArgs false
def spec_l00In.f (a0 : Int) (a1 : Int) (a2 : Int) : Option (Bool) := if a0 ≥ a1 then (some (decide (a0 ≤ a2))) else (some false)
set_option maxHeartbeats 8000000 in
set_option maxRecDepth 100000 in
theorem spec_l00In.calls (a0 : Int) (a1 : Int) (a2 : Int) (r : Bool) (w : World) (h : spec_l00In.f a0 a1 a2 = some r) :
  Calls Try.prog 85 #[.int .i64 a0, .int .i64 a1, .int .i64 a2] w fun e w' => e = .returned (.bool r) ∧ Drawn0 w w' := by
 have H : (if a0 ≥ a1 then (some (decide (a0 ≤ a2))) else (some false)) = some r := h
 clear h
 by_cases c4 : a0 ≥ a1
 ·rw [if_pos c4] at H
  have c4b0 : decide (a1 ≤ a0) = true := decide_eq_true c4
  clear c4
  obtain rfl := Option.some.inj H
  go_enter Try.func85, Try.ntmps85
  go_wp2
  go_ret
  exact ⟨by first | rfl | (simp; done) | (simp [*]; done), by repeat (first | exact Drawn0.refl _ | apply Drawn0.step)⟩
 ·rw [if_neg c4] at H
  have c4b0 : decide (a1 ≤ a0) = false := decide_eq_false c4
  clear c4
  obtain rfl := Option.some.inj H
  go_enter Try.func85, Try.ntmps85
  go_wp2
  go_ret
  exact ⟨by first | rfl | (simp; done) | (simp [*]; done), by repeat (first | exact Drawn0.refl _ | apply Drawn0.step)⟩
def spec_l09Order.f (a0 : Int) : Option (Bool) := (spec_l00In.f a0 0 3).bind fun t101 => (some t101)
set_option maxHeartbeats 8000000 in
set_option maxRecDepth 100000 in
theorem spec_l09Order.calls (a0 : Int) (r : Bool) (w : World) (h : spec_l09Order.f a0 = some r) :
  Calls Try.prog 58 #[.int .i64 a0] w fun e w' => e = .returned (.bool r) ∧ Drawn0 w w' := by
 have H : ((spec_l00In.f a0 0 3).bind fun t101 => (some t101)) = some r := h
 clear h
 replace H := Option.bind_eq_some_iff.mp H
 obtain ⟨t101, A20, H⟩ := H
 replace H : (some t101) = some r := H
 have A2 := Aside0.mk A20
 clear A20
 obtain rfl := Option.some.inj H
 go_enter Try.func58, Try.ntmps58
 go_wp2_with (first | ((with_reducible refine gate_callee (f := 85) rfl ?_); refine goesL_ (some 4) rfl rfl Try.func85 (by kernel_rfl) rfl #[.int .i64 a0, .int .i64 0, .int .i64 3] rfl (by (try simp only [List.map_toArray, List.map_cons, List.map_nil]); first | done | rfl | (simp only [List.length_drop, List.length_take]; rfl) | (simp only [show ∀ (n_ : Nat) (b_ : Int), Int.tdiv (n_ : Int) b_ = (n_ : Int) / b_ from fun n_ b_ => Int.tdiv_eq_ediv_of_nonneg (Int.natCast_nonneg n_)]; rfl)) ?_; (with_reducible refine (spec_l00In.calls a0 0 3 t101 _ A2.out).mono ?_); rintro e w' ⟨rfl, ⟨nd, rfl⟩⟩; refine ⟨_, rfl, ?_⟩))
 go_ret
 exact ⟨by first | rfl | (simp; done) | (simp [*]; done), by repeat (first | exact Drawn0.refl _ | apply Drawn0.step)⟩
def spec_l09Square.l0 : Nat → Int → Int → List (List Int) → Int → Option ((List (List Int)))
 | 0, _, _, _, _ => none
 | k + 1, x0, x1, x5, x6 => if x6 < x0 then (if 0 ≤ x1 then (if (x1 : Int).toNat ≤ 35184372088832 then (if x5.length < 5864062014805 then (spec_l09Square.l0 k x0 x1 (x5 ++ [(List.replicate (x1 : Int).toNat 0)]) (wrap64 (x6 + 1))) else (none)) else (none)) else (none)) else (some x5)
def spec_l09Square.f (k : Nat) (a0 : Int) (a1 : Int) : Option ((List (List Int))) := spec_l09Square.l0 k a0 a1 (([] : List (List Int))) 0
theorem spec_l09Square.mono_l : ∀ k, (∀ y0 y1 y2 y3, LeO (spec_l09Square.l0 k y0 y1 y2 y3) (spec_l09Square.l0 (k + 1) y0 y1 y2 y3))
 | 0 => fun _ _ _ _ r h => by simp [spec_l09Square.l0] at h
 | k + 1 => by
  have ih0 := spec_l09Square.mono_l k
  ·intro y0 y1 y2 y3
   unfold spec_l09Square.l0
   repeat' first
   | (with_reducible exact ih0 _ _ _ _)
   | (with_reducible exact LeO.refl _)
   | (with_reducible exact LeO.none _)
   | (with_reducible refine LeO.ite ?_ ?_)
   | (with_reducible refine LeO.bind ?_ (fun _ => ?_))
   | exact ih0 _ _ _ _
   | exact LeO.none _
   | refine LeO.ite ?_ ?_
   | refine LeO.bind ?_ (fun _ => ?_)
theorem spec_l09Square.mono : ∀ a0 a1 k, LeO (spec_l09Square.f k a0 a1) (spec_l09Square.f (k + 1) a0 a1) := by
 intro a0 a1 k
 have ih0 := spec_l09Square.mono_l k
 unfold spec_l09Square.f
 repeat' first
   | (with_reducible exact ih0 _ _ _ _)
   | (with_reducible exact LeO.refl _)
   | (with_reducible exact LeO.none _)
   | (with_reducible refine LeO.ite ?_ ?_)
   | (with_reducible refine LeO.bind ?_ (fun _ => ?_))
   | exact ih0 _ _ _ _
   | exact LeO.none _
   | refine LeO.ite ?_ ?_
   | refine LeO.bind ?_ (fun _ => ?_)
set_option maxHeartbeats 8000000 in
set_option maxRecDepth 100000 in
theorem spec_l09Square.calls (k : Nat) (a0 : Int) (a1 : Int) (r : List (List Int)) (w : World) (h : spec_l09Square.f k a0 a1 = some r) :
  Calls Try.prog 90 #[.int .i64 a0, .int .i64 a1] w fun e w' => ∃ v0_ : Value, e = .returned (v0_) ∧ Kd.S (Kd.slice 2 (Kd.int .i64)) 34 w' w.heap.size (fun _ => True) v0_ r ∧ Below w.heap.size w w' := by
 have HB := Aside0.mk (Below.refl w.heap.size w)
 have H : (spec_l09Square.l0 k a0 a1 (([] : List (List Int))) 0) = some r := h
 clear h
 obtain ⟨y102, hy102⟩ : ∃ y_ : List (List Int), y_ = (([] : List (List Int))) := ⟨_, rfl⟩
 replace H : (spec_l09Square.l0 k a0 a1 y102 0) = some r := by first | (rw [hy102]; with_reducible exact H) | (have H2_ := (Option.bind_some _ _).symm.trans H; rw [hy102]; with_reducible exact H2_) | (have H2_ := (Option.bind_some _ _).symm.trans H; with_reducible exact H2_) | with_reducible exact H | (rw [hy102]; exact H) | exact H
 have Ny102 := Aside0.mk hy102
 clear hy102
 have H' := Aside0.mk H
 clear H
 go_enter Try.func90, Try.ntmps90
 go_wp2_with (first | ((with_reducible refine gate_dst (N := 7) rfl ?_); refine Kd.S_lit (Kd.slice 2 (Kd.int .i64)) _ 34 ?hg (N := 7) ?hd (xs := ([] : List (List Int))) (inner := []) (ok := fun _ => True) (okp := fun _ => True) ?hr ?hp (fun _ hk => hk) trivial (Below.refl _ _) (Nat.le_refl _) (by simp) ?_; (case hd => rfl); (case hg => rfl); (case hr => first | (go_simp; done) | (go_simp; rfl)); (case hp => exact (Reps.none _ _)); intro v103 w3 ho4 hb hg_ hnew_; clear hg_ hnew_; (first | rw [← Ny102.out] at ho4 | (simp only [Int.reduceToNat] at ho4; rw [← Ny102.out] at ho4)); have n0_ := Aside0.mk (Kd.S_lower ho4 (below_size (by repeat (first | (with_reducible first | exact HB.out | apply below_alloc | apply pw_below_drewN | apply below_drew1) | exact HB.out)))); have n1_ := Aside0.mk (below_step (by repeat (first | (with_reducible first | exact HB.out | apply below_alloc | apply pw_below_drewN | apply below_drew1) | exact HB.out)) hb); clear HB; have HO104 := n0_; have HB := n1_; clear n0_ n1_; clear hb ho4))
 go_loopg [5, 6] k (fun kq v5 v6 w' => ∃ (x5_1 : List (List Int)) (x6_1 : Int), v6 = .int .i64 x6_1 ∧ Aside0 (spec_l09Square.l0 kq a0 a1 x5_1 x6_1 = some r) ∧ Aside0 (kq ≤ k) ∧ Aside0 (Kd.S (Kd.slice 2 (Kd.int .i64)) 34 w' w.heap.size (fun _ => True) v5 x5_1) ∧ Aside0 (Below w.heap.size w w'))
 case atStart => exact ⟨(y102), (0), (by first | rfl | (simp; done) | (simp [*]; done)), H', ⟨Nat.le_refl _⟩, ⟨by (with_reducible repeat (first | apply Kd.S_alloc | apply Kd.S_drewN | apply Kd.S_drew)); exact HO104.out⟩, ⟨by repeat (first | (with_reducible first | exact HB.out | apply below_alloc | apply pw_below_drewN | apply below_drew1) | exact HB.out)⟩⟩
 case round =>
  clear H'
  try clear p2
  obtain ⟨x5_1, x6_1, rfl, HA, HK1, HO_5, HB⟩ := hrel
  cases gk with
  | zero => exact absurd HA.out (by simp [spec_l09Square.l0])
  | succ k1 =>
   have H := HA.out
   clear HA
   simp only [spec_l09Square.l0] at H
   by_cases c5 : x6_1 < a0
   ·rw [if_pos c5] at H
    have c5b0 : decide (x6_1 < a0) = true := decide_eq_true c5
    clear c5
    by_cases c6 : 0 ≤ a1
    ·rw [if_pos c6] at H
     have c6b0 := eq_true c6
     have c6b1 : decide (0 ≤ a1) = true := decide_eq_true c6
     clear c6
     by_cases c7 : (a1 : Int).toNat ≤ 35184372088832
     ·rw [if_pos c7] at H
      have c7b0 := eq_true c7
      have c7b1 : decide ((a1 : Int).toNat ≤ 35184372088832) = true := decide_eq_true c7
      clear c7
      obtain ⟨y105, hy105⟩ : ∃ y_ : List Int, y_ = (List.replicate (a1 : Int).toNat 0) := ⟨_, rfl⟩
      replace H : (if x5_1.length < 5864062014805 then (spec_l09Square.l0 k1 a0 a1 (x5_1 ++ [y105]) (wrap64 (x6_1 + 1))) else (none)) = some r := by first | (rw [hy105]; with_reducible exact H) | (have H2_ := (Option.bind_some _ _).symm.trans H; rw [hy105]; with_reducible exact H2_) | (have H2_ := (Option.bind_some _ _).symm.trans H; with_reducible exact H2_) | with_reducible exact H | (rw [hy105]; exact H) | exact H
      have Ny105 := Aside0.mk hy105
      clear hy105
      by_cases c8 : x5_1.length < 5864062014805
      ·rw [if_pos c8] at H
       have LMc8 := Aside0.mk c8
       clear c8
       obtain ⟨y108, hy108⟩ : ∃ y_ : List (List Int), y_ = (x5_1 ++ [y105]) := ⟨_, rfl⟩
       replace H : (spec_l09Square.l0 k1 a0 a1 y108 (wrap64 (x6_1 + 1))) = some r := by first | (rw [hy108]; with_reducible exact H) | (have H2_ := (Option.bind_some _ _).symm.trans H; rw [hy108]; with_reducible exact H2_) | (have H2_ := (Option.bind_some _ _).symm.trans H; with_reducible exact H2_) | with_reducible exact H | (rw [hy108]; exact H) | exact H
       have Ny108 := Aside0.mk hy108
       clear hy108
       have H' := Aside0.mk H
       clear H
       go_wp2_with (first | ((with_reducible refine gate_dst (N := 15) rfl ?_); refine Kd.R_make (Kd.int .i64) _ 2 rfl (N := 15) rfl 34 _ _ rfl a1 rfl rfl Try.underlying34 (.int .i64 0) 8 info2 rfl (by decide) (by omega) 0 (ok := fun _ => True) (okp := fun _ => True) rfl (fun _ hk => hk) trivial (of_decide_eq_true (by first | (with_reducible assumption) | assumption)) (Nat.le_trans (Nat.mul_le_mul_right _ (of_decide_eq_true (by first | (with_reducible assumption) | assumption) : a1.toNat ≤ 35184372088832)) (by omega)) (Below.refl _ _) (Nat.le_refl _) ?_; intro v106 w9 ho10 hb hg_ hnew_; clear hg_ hnew_; (first | rw [← Ny105.out] at ho10 | (simp only [Int.reduceToNat] at ho10; rw [← Ny105.out] at ho10)); have n0_ := Aside0.mk (Kd.S_elder' (by (with_reducible repeat (first | apply Kd.S_alloc | apply Kd.S_drewN | apply Kd.S_drew)); exact HO_5.out) (Kd.R_base ho10) hb); have n1_ := Aside0.mk (Kd.R_lower ho10 (below_size (by repeat (first | (with_reducible first | exact HB.out | apply below_alloc | apply pw_below_drewN | apply below_drew1) | exact HB.out)))); have n2_ := Aside0.mk (below_step (by repeat (first | (with_reducible first | exact HB.out | apply below_alloc | apply pw_below_drewN | apply below_drew1) | exact HB.out)) hb); clear HO_5; clear HB; have HO_5 := n0_; have HO107 := n1_; have HB := n2_; clear n0_ n1_ n2_; clear hb ho10; obtain ⟨Ao12, co12, eo12⟩ := Kd.R_slice HO107.out; subst eo12) | ((with_reducible refine gate_builtin (b := .append) (xs := #[.tmp 13, .tmp 16]) rfl ?_); at_builtin; refine Kd.S_append (Kd.slice 2 (Kd.int .i64)) (w0 := w) w.heap.size rfl (.tmp 13) (.tmp 16) 22 34 (.slice none 0 0) 24 rfl Try.underlying22 info34 rfl (by decide) (by omega) u5 x5_1 y105 [.slice Ao12 y105.length co12] (fun _ => True) (fun k_ => some k_ = (.slice Ao12 y105.length co12 : Value).ownBlock) rfl rfl ?aP (fun k_ hk_ => ((Kd.R_mono (ok' := fun k_ => ((fun _ => True)) k_ ∧ some k_ ≠ (u5 : Value).ownBlock) (Kd.R_apart' (HO107.out) (Kd.S_typed HO_5.out) (by decide)) (fun k_ hk => ⟨trivial, hk.2⟩))).1 k_ hk_.symm) ?aF ?aO ?aB ?aS ?aL ?_; (case aP => exact Kd.M_row (Kd.R_mono (Kd.R_tight rfl (Kd.R_mono (ok' := fun k_ => ((fun _ => True)) k_ ∧ some k_ ≠ (u5 : Value).ownBlock) (Kd.R_apart' (HO107.out) (Kd.S_typed HO_5.out) (by decide)) (fun k_ hk => ⟨trivial, hk.2⟩))) (fun _ h_ => h_))); (case aB => exact (by repeat (first | (with_reducible first | exact HB.out | apply below_alloc | apply pw_below_drewN | apply below_drew1) | exact HB.out))); (case aF => exact (fun _ _ => trivial)); (case aO => exact (by (with_reducible repeat (first | apply Kd.S_alloc | apply Kd.S_drewN | apply Kd.S_drew)); exact Kd.S_mono HO_5.out (fun k_ hk => ⟨trivial, fun e_ => hk.2 e_⟩))); (case aS => exact (below_size (by repeat (first | (with_reducible first | exact HB.out | apply below_alloc | apply pw_below_drewN | apply below_drew1) | exact HB.out)))); (case aL => have := LMc8.out; omega); intro v109 w11 ho hb hg hat; rw [← Ny108.out] at ho; have n0_ := Aside0.mk (hb); have n1_ := Aside0.mk (ho); clear HB; clear HO_5; clear HO107; have HB := n0_; have HO110 := n1_; clear n0_ n1_; clear ho hb hg hat))
       go_roundg k1
       case measure => have := HK1.out; omega
       case rel => exact ⟨(y108), (wrap64 (x6_1 + 1)), (by first | rfl | (simp; done) | (simp [*]; done)), H', ⟨by have := HK1.out; omega⟩, ⟨by (with_reducible repeat (first | apply Kd.S_alloc | apply Kd.S_drewN | apply Kd.S_drew)); exact HO110.out⟩, ⟨by repeat (first | (with_reducible first | exact HB.out | apply below_alloc | apply pw_below_drewN | apply below_drew1) | exact HB.out)⟩⟩
      ·rw [if_neg c8] at H
       exact absurd H (by simp)
     ·rw [if_neg c7] at H
      exact absurd H (by simp)
    ·rw [if_neg c6] at H
     exact absurd H (by simp)
   ·rw [if_neg c5] at H
    have c5b0 : decide (x6_1 < a0) = false := decide_eq_false c5
    clear c5
    obtain rfl := Option.some.inj H
    go_wp2
    go_ret
    exact ⟨_, by first | rfl | (simp [errW_none, errW_some] <;> rfl) | (simp [*, errW_none, errW_some] <;> rfl), by (with_reducible repeat (first | apply Kd.S_alloc | apply Kd.S_drewN | apply Kd.S_drew)); exact HO_5.out, by repeat (first | (with_reducible first | exact HB.out | apply below_alloc | apply pw_below_drewN | apply below_drew1) | exact HB.out)⟩
end Go.Proofs.Ytckonklpdepgoaa.Q
namespace Go.Proofs.Ytckonklpdepgoaa.Q
open Go.RowKit Go.Proofs.YtckonklpdepgoaaW.PrintWords Go.Proofs.YtckonklpdepgoaaW.PrintLast Go.Proofs.YtckonklpdepgoaaW.PrintMore
attribute [local go_sem] max2_int min2_int max_two min_two max_three min_three max_four min_four   -- for this text's walks alone
set_option linter.unusedVariables false
set_option linter.unusedSimpArgs false
mutual
def spec_l09Doubling.l0 : Nat → Int → List (List Int) → Option (List (List Int))
 | 0, _, _ => none
 | k + 1, a0, out => if 0 < a0 then ((spec_l09Square.f k (wrap64 (2 * (out.length : Int))) (wrap64 (2 * (out.length : Int)))).bind fun nx => spec_l09Doubling.l1 k a0 out nx 0) else some out
def spec_l09Doubling.l1 : Nat → Int → List (List Int) → List (List Int) → Int → Option (List (List Int))
 | 0, _, _, _, _ => none
 | k + 1, a0, out, nx, i => if i < (out.length : Int) then spec_l09Doubling.l2 k a0 out nx i 0 else spec_l09Doubling.l0 k (wrap64 (a0 - 1)) nx
def spec_l09Doubling.l2 : Nat → Int → List (List Int) → List (List Int) → Int → Int → Option (List (List Int))
 | 0, _, _, _, _, _ => none
 | k + 1, a0, out, nx, i, y => if y < (out.length : Int) then (if 0 ≤ i then (if i < (out.length : Int) then (if 0 ≤ y then (if y < ((rda out i).length : Int) then ((put2 nx i y (wrap64 (4 * rd (rda out i) y))).bind fun n1 => (put2 n1 i (wrap64 (y + (out.length : Int))) (wrap64 (wrap64 (4 * rd (rda out i) y) + 2))).bind fun n2 => (put2 n2 (wrap64 (i + (out.length : Int))) y (wrap64 (wrap64 (4 * rd (rda out i) y) + 3))).bind fun n3 => (put2 n3 (wrap64 (i + (out.length : Int))) (wrap64 (y + (out.length : Int))) (wrap64 (wrap64 (4 * rd (rda out i) y) + 1))).bind fun n4 => spec_l09Doubling.l2 k a0 out n4 i (wrap64 (y + 1))) else none) else none) else none) else none) else spec_l09Doubling.l1 k a0 out nx (wrap64 (i + 1))
end
def spec_l09Doubling.f (k : Nat) (a0 : Int) : Option (List (List Int)) := spec_l09Doubling.l0 k a0 [[0]]
theorem spec_l09Doubling.mono_l : ∀ k, (∀ y0 y1, LeO (spec_l09Doubling.l0 k y0 y1) (spec_l09Doubling.l0 (k + 1) y0 y1)) ∧ (∀ y0 y1 y2 y3, LeO (spec_l09Doubling.l1 k y0 y1 y2 y3) (spec_l09Doubling.l1 (k + 1) y0 y1 y2 y3)) ∧ (∀ y0 y1 y2 y3 y4, LeO (spec_l09Doubling.l2 k y0 y1 y2 y3 y4) (spec_l09Doubling.l2 (k + 1) y0 y1 y2 y3 y4))
 | 0 => ⟨fun _ _ r h => by simp [spec_l09Doubling.l0] at h, fun _ _ _ _ r h => by simp [spec_l09Doubling.l1] at h, fun _ _ _ _ _ r h => by simp [spec_l09Doubling.l2] at h⟩
 | k + 1 => by
  obtain ⟨ih0, ih1, ih2⟩ := spec_l09Doubling.mono_l k
  refine ⟨?_, ?_, ?_⟩
  ·intro y0 y1
   unfold spec_l09Doubling.l0
   repeat' first
   | (with_reducible exact ih0 _ _)
   | (with_reducible exact ih1 _ _ _ _)
   | (with_reducible exact spec_l09Square.mono _ _ _)
   | (with_reducible exact LeO.refl _)
   | (with_reducible exact LeO.none _)
   | (with_reducible refine LeO.ite ?_ ?_)
   | (with_reducible refine LeO.bind ?_ (fun _ => ?_))
  ·intro y0 y1 y2 y3
   unfold spec_l09Doubling.l1
   repeat' first
   | (with_reducible exact ih0 _ _)
   | (with_reducible exact ih2 _ _ _ _ _)
   | (with_reducible exact LeO.refl _)
   | (with_reducible exact LeO.none _)
   | (with_reducible refine LeO.ite ?_ ?_)
   | (with_reducible refine LeO.bind ?_ (fun _ => ?_))
  ·intro y0 y1 y2 y3 y4
   unfold spec_l09Doubling.l2
   repeat' first
   | (with_reducible exact ih1 _ _ _ _)
   | (with_reducible exact ih2 _ _ _ _ _)
   | (with_reducible exact LeO.refl _)
   | (with_reducible exact LeO.none _)
   | (with_reducible refine LeO.ite ?_ ?_)
   | (with_reducible refine LeO.bind ?_ (fun _ => ?_))
theorem spec_l09Doubling.mono : ∀ a0 k, LeO (spec_l09Doubling.f k a0) (spec_l09Doubling.f (k + 1) a0) := by
 intro a0 k
 obtain ⟨ih0, ih1, ih2⟩ := spec_l09Doubling.mono_l k
 unfold spec_l09Doubling.f
 repeat' first
   | (with_reducible exact ih0 _ _)
   | (with_reducible exact spec_l09Square.mono _ _ _)
   | (with_reducible exact LeO.refl _)
   | (with_reducible exact LeO.none _)
   | (with_reducible refine LeO.ite ?_ ?_)
   | (with_reducible refine LeO.bind ?_ (fun _ => ?_))
set_option maxHeartbeats 8000000 in
set_option maxRecDepth 100000 in
theorem spec_l09Doubling.calls (k : Nat) (a0 : Int) (r : List (List Int)) (w : World) (h : spec_l09Doubling.f k a0 = some r) :
  Calls Try.prog 59 #[.int .i64 a0] w fun e w' => ∃ v0_ : Value, e = .returned (v0_) ∧ Kd.S (Kd.slice 2 (Kd.int .i64)) 34 w' w.heap.size (fun _ => True) v0_ r ∧ Below w.heap.size w w' := by
 have HB := Aside0.mk (Below.refl w.heap.size w)
 have H := h
 clear h
 unfold spec_l09Doubling.f at H
 have H' := Aside0.mk H
 clear H
 go_enter Try.func59, Try.ntmps59
 go_wp2_with (first | ((with_reducible refine gate_dst (N := 9) rfl ?_); refine Kd.R_lit (Kd.int .i64) _ 2 ?hg (N := 9) ?hd (xs := ([0] : List Int)) (inner := [.int .i64 0]) (ok := fun k_ => k_ = w.heap.size) (okp := fun k_ => k_ = w.heap.size) ?hr ?hp (fun _ hk => hk) rfl (Below.refl _ _) (Nat.le_refl _) (by simp) ?_; (case hd => rfl); (case hg => rfl); (case hr => first | (go_simp; done) | (go_simp; rfl)); (case hp => exact (Reps.one (show Kd.M (Kd.int .i64) _ _ _ 0 [.int .i64 0] from rfl) (Reps.none _ _))); intro v1 w2 ho3 hb hg_ hnew_; clear hg_ hnew_; have n0_ := Aside0.mk ho3; have n1_ := Aside0.mk (below_step HB.out hb); clear HB hb ho3; have HI := n0_; have HB := n1_; clear n0_ n1_; obtain ⟨Ao, co, eo⟩ := Kd.R_slice HI.out; subst eo) | ((with_reducible refine gate_dst (N := 10) rfl ?_); refine Kd.S_lits (Kd.slice 2 (Kd.int .i64)) w.heap.size 34 ?hg2 (N := 10) ?hd2 (xs := [([0] : List Int)]) (inner := [.slice Ao ([0] : List Int).length co]) (ok := fun _ => True) (fun j k => j = 0 ∧ k = w.heap.size) ?hr2 rfl ?hp2 (fun i j k h1 h2 => h1.1.trans h2.1.symm) (fun _ _ _ => trivial) trivial HB.out (below_size HB.out) (by simp) ?_; (case hd2 => rfl); (case hg2 => rfl); (case hr2 => first | (go_simp; done) | (go_simp; rfl)); (case hp2 => (intro j x hj; cases j with | zero => (cases hj; exact ⟨_, rfl, Kd.R_mono HI.out (fun k_ h_ => ⟨rfl, h_⟩)⟩) | succ j => (simp at hj))); intro v1 w5 ho6 hb hg_ hnew_; clear hg_ hnew_; have n0_ := Aside0.mk ho6; have n1_ := Aside0.mk hb; clear HB HI hb ho6; have HO := n0_; have HB := n1_; clear n0_ n1_; obtain ⟨Am, cm, em⟩ := Kd.S_slice HO.out; subst em))
 go_loopg [0, 3] k (fun kq v0 v3 w' => ∃ (A : Option Addr) (c : Nat) (xs : List (List Int)) (x : Int), v3 = .slice A xs.length c ∧ v0 = .int .i64 x ∧ Aside0 (spec_l09Doubling.l0 kq x xs = some r) ∧ Aside0 (kq ≤ k) ∧ Aside0 (Kd.S (Kd.slice 2 (Kd.int .i64)) 34 w' w.heap.size (fun _ => True) (.slice A xs.length c) xs) ∧ Aside0 (Below w.heap.size w w'))
 case atStart => exact ⟨_, _, [[0]], a0, rfl, rfl, H', ⟨Nat.le_refl _⟩, HO, HB⟩
 case round =>
  clear H' HO HB
  obtain ⟨A, c, xs, x, rfl, rfl, HA, HK, HO, HB⟩ := hrel
  cases gk with
  | zero => exact absurd HA.out (by simp [spec_l09Doubling.l0])
  | succ k1 =>
   have H := HA.out
   clear HA
   simp only [spec_l09Doubling.l0] at H
   by_cases c3 : 0 < x
   ·rw [if_pos c3] at H
    have c3b0 : decide (0 < x) = true := decide_eq_true c3
    clear c3
    replace H := Option.bind_eq_some_iff.mp H
    obtain ⟨nx, A3, H⟩ := H
    have A30 := Aside0.mk A3
    have H' := Aside0.mk H
    have HR := Aside0.mk (Kd.S_reads' HO.out).2.2
    have BB := HB
    clear A3 H HB
    have HB := Aside0.mk (Below.refl wr.heap.size wr)
    go_wp2_with (first | ((with_reducible refine gate_callee (f := 90) rfl ?_); refine goesL_ (some 21) rfl rfl Try.func90 (by kernel_rfl) rfl #[.int .i64 (wrap64 (2 * (xs.length : Int))), .int .i64 (wrap64 (2 * (xs.length : Int)))] rfl (by (try simp only [List.map_toArray, List.map_cons, List.map_nil]); first | done | rfl) ?_; (with_reducible refine (spec_l09Square.calls k1 _ _ nx _ A30.out).mono ?_); rintro e w3 ⟨v0, rfl, ho0, hb⟩; refine ⟨_, rfl, ?_⟩; have n0_ := Aside0.mk (Kd.S_lower ho0 (below_size HB.out)); have n1_ := Aside0.mk (below_step HB.out hb); clear HB hb ho0; have HN := n0_; have HB := n1_; clear n0_ n1_; obtain ⟨An, cn, en⟩ := Kd.S_slice HN.out; subst en))
    clear A30 HO c3b0
    obtain ⟨wo, rfl⟩ : ∃ wo : World, wo = wr := ⟨_, rfl⟩
    go_loopg [6] k1 (fun kq v27 w' => ∃ (ys : List (List Int)) (i : Int), v27 = .int .i64 i ∧ Aside0 (spec_l09Doubling.l1 kq x xs ys i = some r) ∧ Aside0 (kq ≤ k1) ∧ Aside0 (ys.length = nx.length) ∧ Aside0 (Kd.S (Kd.slice 2 (Kd.int .i64)) 34 w' wo.heap.size (fun _ => True) (.slice An nx.length cn) ys) ∧ Aside0 (Below wo.heap.size wo w'))
    case atStart => exact ⟨nx, 0, rfl, H', ⟨Nat.le_refl _⟩, ⟨rfl⟩, HN, HB⟩
    case round =>
     clear H' HN HB
     obtain ⟨ys, i, rfl, HA, HK1, HY, HN, HB⟩ := hrel
     cases gk with
     | zero => exact absurd HA.out (by simp [spec_l09Doubling.l1])
     | succ k2 =>
      have H := HA.out
      clear HA
      simp only [spec_l09Doubling.l1] at H
      by_cases c4 : i < (xs.length : Int)
      ·rw [if_pos c4] at H
       have H' := Aside0.mk H
       have c4b0 : decide (i < (xs.length : Int)) = true := decide_eq_true c4
       clear H c4
       go_wp2
       clear c4b0
       go_loopg [7] k2 (fun kq v34 w' => ∃ (zs : List (List Int)) (y : Int), v34 = .int .i64 y ∧ Aside0 (spec_l09Doubling.l2 kq x xs zs i y = some r) ∧ Aside0 (kq ≤ k2) ∧ Aside0 (zs.length = nx.length) ∧ Aside0 (Kd.S (Kd.slice 2 (Kd.int .i64)) 34 w' wo.heap.size (fun _ => True) (.slice An nx.length cn) zs) ∧ Aside0 (Below wo.heap.size wo w'))
       case atStart => exact ⟨ys, 0, rfl, H', ⟨Nat.le_refl _⟩, HY, HN, HB⟩
       case round =>
        clear H' HN HB HY
        obtain ⟨zs, y, rfl, HA, HK2, HY, HN, HB⟩ := hrel
        cases gk with
        | zero => exact absurd HA.out (by simp [spec_l09Doubling.l2])
        | succ k3 =>
         have H := HA.out
         clear HA
         simp only [spec_l09Doubling.l2] at H
         by_cases c6 : y < (xs.length : Int)
         ·rw [if_pos c6] at H
          by_cases c7 : 0 ≤ i
          ·rw [if_pos c7] at H
           by_cases c8 : i < (xs.length : Int)
           ·rw [if_pos c8] at H
            by_cases c9 : 0 ≤ y
            ·rw [if_pos c9] at H
             by_cases c10 : y < ((rda xs i).length : Int)
             ·rw [if_pos c10] at H
              replace H := Option.bind_eq_some_iff.mp H
              obtain ⟨n1, P1, H⟩ := H
              replace H := Option.bind_eq_some_iff.mp H
              obtain ⟨n2, P2, H⟩ := H
              replace H := Option.bind_eq_some_iff.mp H
              obtain ⟨n3, P3, H⟩ := H
              replace H := Option.bind_eq_some_iff.mp H
              obtain ⟨n4, P4, H⟩ := H
              have H' := Aside0.mk H
              clear H
              obtain ⟨ad, Ar, cr, e1, hx, hl, hi⟩ := at_rda HR.out i c7 c8
              obtain ⟨adr, er, hr⟩ := Kd.at_int hi y c9 c10
              cases er
              cases e1
              replace hx := (HB.out.cell (World.block_lt_of_cell? wo _ hx)).trans hx
              replace hr := (HB.out.cell (World.block_lt_of_cell? wo _ hr)).trans hr
              clear hi hl
              obtain ⟨a1, b1, d1, e1, f1⟩ := put2_some P1
              obtain ⟨g1, q1, cq1, eA1, hnl1, hg1, hc1, hf1, hq1, hl1, hgl1, htr1, hne1, hS1⟩ := rows_at HN.out (i) (y) a1 b1 d1 e1
              replace hS1 := hS1 (wrap64 (4 * rd (rda xs i) y))
              rw [← f1] at hS1
              have hB1 := Below.setCell HB.out (p := ⟨q1, (y).toNat, none⟩) hq1 (.int .i64 (wrap64 (4 * rd (rda xs i) y)))
              obtain ⟨W1, hW1⟩ : ∃ W_ : World, wr.setCell ⟨q1, (y).toNat, none⟩ (.int .i64 (wrap64 (4 * rd (rda xs i) y))) = W_ := ⟨_, rfl⟩
              rw [hW1] at hS1 hB1
              rw [← hnl1] at b1
              have F1 := Aside0.mk f1
              clear f1 hnl1 htr1 hl1 hgl1 hq1 hne1 P1
              obtain ⟨a2, b2, d2, e2, f2⟩ := put2_some P2
              obtain ⟨g2, q2, cq2, eA2, hnl2, hg2, hc2, hf2, hq2, hl2, hgl2, htr2, hne2, hS2⟩ := rows_at hS1 (i) (wrap64 (y + (xs.length : Int))) a2 b2 d2 e2
              replace hS2 := hS2 (wrap64 (wrap64 (4 * rd (rda xs i) y) + 2))
              rw [← f2] at hS2
              have hB2 := Below.setCell hB1 (p := ⟨q2, (wrap64 (y + (xs.length : Int))).toNat, none⟩) hq2 (.int .i64 (wrap64 (wrap64 (4 * rd (rda xs i) y) + 2)))
              obtain ⟨W2, hW2⟩ : ∃ W_ : World, W1.setCell ⟨q2, (wrap64 (y + (xs.length : Int))).toNat, none⟩ (.int .i64 (wrap64 (wrap64 (4 * rd (rda xs i) y) + 2))) = W_ := ⟨_, rfl⟩
              rw [hW2] at hS2 hB2
              rw [← hnl2] at b2
              have F2 := Aside0.mk f2
              clear f2 hnl2 htr2 hl2 hgl2 hq2 hne2 P2
              obtain ⟨a3, b3, d3, e3, f3⟩ := put2_some P3
              obtain ⟨g3, q3, cq3, eA3, hnl3, hg3, hc3, hf3, hq3, hl3, hgl3, htr3, hne3, hS3⟩ := rows_at hS2 (wrap64 (i + (xs.length : Int))) (y) a3 b3 d3 e3
              replace hS3 := hS3 (wrap64 (wrap64 (4 * rd (rda xs i) y) + 3))
              rw [← f3] at hS3
              have hB3 := Below.setCell hB2 (p := ⟨q3, (y).toNat, none⟩) hq3 (.int .i64 (wrap64 (wrap64 (4 * rd (rda xs i) y) + 3)))
              obtain ⟨W3, hW3⟩ : ∃ W_ : World, W2.setCell ⟨q3, (y).toNat, none⟩ (.int .i64 (wrap64 (wrap64 (4 * rd (rda xs i) y) + 3))) = W_ := ⟨_, rfl⟩
              rw [hW3] at hS3 hB3
              rw [← hnl3] at b3
              have F3 := Aside0.mk f3
              clear f3 hnl3 htr3 hl3 hgl3 hq3 hne3 P3
              obtain ⟨a4, b4, d4, e4, f4⟩ := put2_some P4
              obtain ⟨g4, q4, cq4, eA4, hnl4, hg4, hc4, hf4, hq4, hl4, hgl4, htr4, hne4, hS4⟩ := rows_at hS3 (wrap64 (i + (xs.length : Int))) (wrap64 (y + (xs.length : Int))) a4 b4 d4 e4
              replace hS4 := hS4 (wrap64 (wrap64 (4 * rd (rda xs i) y) + 1))
              rw [← f4] at hS4
              have hB4 := Below.setCell hB3 (p := ⟨q4, (wrap64 (y + (xs.length : Int))).toNat, none⟩) hq4 (.int .i64 (wrap64 (wrap64 (4 * rd (rda xs i) y) + 1)))
              obtain ⟨W4, hW4⟩ : ∃ W_ : World, W3.setCell ⟨q4, (wrap64 (y + (xs.length : Int))).toNat, none⟩ (.int .i64 (wrap64 (wrap64 (4 * rd (rda xs i) y) + 1))) = W_ := ⟨_, rfl⟩
              rw [hW4] at hS4 hB4
              rw [← hnl4] at b4
              have F4 := Aside0.mk f4
              clear f4 hnl4 htr4 hl4 hgl4 hq4 hne4 P4
              cases eA1
              cases eA2
              cases eA3
              cases eA4
              have hS5 := Aside0.mk hS4
              have hB5 := Aside0.mk hB4
              have HZ := HY
              clear hS1 hS2 hS3 hS4 hB1 hB2 hB3 hB4 HN HB HY
              have z0 : decide (0 ≤ i) = true := decide_eq_true c7
              have y0 := eq_true c7
              have z1 : decide (i < (xs.length : Int)) = true := decide_eq_true c8
              have y1 := eq_true c8
              have z2 : decide (0 ≤ y) = true := decide_eq_true c9
              have y2 := eq_true c9
              have z3 : decide (y < ((rda xs i).length : Int)) = true := decide_eq_true c10
              have y3 := eq_true c10
              have z4 : decide (y < (xs.length : Int)) = true := decide_eq_true c6
              have y4 := eq_true c6
              have z6 : decide (i < (nx.length : Int)) = true := decide_eq_true b1
              have y6 := eq_true b1
              have z8 : decide (y < ((rda zs (i)).length : Int)) = true := decide_eq_true e1
              have y8 := eq_true e1
              have z11 : decide (0 ≤ wrap64 (y + (xs.length : Int))) = true := decide_eq_true d2
              have y11 := eq_true d2
              have z12 : decide (wrap64 (y + (xs.length : Int)) < ((rda n1 (i)).length : Int)) = true := decide_eq_true e2
              have y12 := eq_true e2
              have z13 : decide (0 ≤ wrap64 (i + (xs.length : Int))) = true := decide_eq_true a3
              have y13 := eq_true a3
              have z14 : decide (wrap64 (i + (xs.length : Int)) < (nx.length : Int)) = true := decide_eq_true b3
              have y14 := eq_true b3
              have z16 : decide (y < ((rda n2 (wrap64 (i + (xs.length : Int)))).length : Int)) = true := decide_eq_true e3
              have y16 := eq_true e3
              have z20 : decide (wrap64 (y + (xs.length : Int)) < ((rda n3 (wrap64 (i + (xs.length : Int)))).length : Int)) = true := decide_eq_true e4
              have y20 := eq_true e4
              clear c7 c8 c9 c10 c6 a1 b1 d1 e1 a2 b2 d2 e2 a3 b3 d3 e3 a4 b4 d4 e4
              go_wp2
              go_roundg k3
              case measure => have := HK1.out; have := HK2.out; omega
              case rel => exact ⟨n4, wrap64 (y + 1), rfl, H', ⟨by have := HK1.out; have := HK2.out; omega⟩, ⟨by have := HZ.out; rw [F4.out, F3.out, F2.out, F1.out]; simp only [List.length_set]; exact this⟩, hS5, hB5⟩
             ·rw [if_neg c10] at H
              exact absurd H (by simp)
            ·rw [if_neg c9] at H
             exact absurd H (by simp)
           ·rw [if_neg c8] at H
            exact absurd H (by simp)
          ·rw [if_neg c7] at H
           exact absurd H (by simp)
         ·rw [if_neg c6] at H
          have c6b0 : decide (y < (xs.length : Int)) = false := decide_eq_false c6
          clear c6
          have H' := Aside0.mk H
          clear H
          go_wp2
          go_roundg k3
          case measure => have := HK1.out; have := HK2.out; omega
          case rel => exact ⟨zs, wrap64 (i + 1), rfl, H', ⟨by have := HK1.out; have := HK2.out; omega⟩, HY, HN, HB⟩
      ·rw [if_neg c4] at H
       have c4b0 : decide (i < (xs.length : Int)) = false := decide_eq_false c4
       clear c4
       have H' := Aside0.mk H
       clear H
       go_wp2
       go_roundg k2
       case measure => have := HK.out; have := HK1.out; omega
       case rel => exact ⟨An, cn, ys, wrap64 (x - 1), by rw [HY.out], rfl, H', ⟨by have := HK.out; have := HK1.out; omega⟩, ⟨by rw [HY.out]; exact Kd.S_lower HN.out (below_size BB.out)⟩, ⟨below_step BB.out HB.out⟩⟩
   ·rw [if_neg c3] at H
    have c3b0 : decide (0 < x) = false := decide_eq_false c3
    clear c3
    have H2 := Option.some.inj H
    subst H2
    clear H
    go_wp2
    go_ret
    exact ⟨_, rfl, HO.out, HB.out⟩
end Go.Proofs.Ytckonklpdepgoaa.Q
namespace Go.Proofs.Ytckonklpdepgoaa.Q
open Go.RowKit Go.Proofs.YtckonklpdepgoaaW.PrintWords Go.Proofs.YtckonklpdepgoaaW.PrintLast Go.Proofs.YtckonklpdepgoaaW.PrintMore
attribute [local go_sem] max2_int min2_int max_two min_two max_three min_three max_four min_four   -- for this text's walks alone
set_option linter.unusedVariables false
set_option linter.unusedSimpArgs false
def spec_DoublingMask.f (k : Nat) (a0 : Int) : Option ((List (List Int)) × Bool) := (spec_l09Order.f a0).bind fun t111 => (if t111 = true then ((spec_l09Doubling.f k a0).bind fun t112 => (some (t112, true))) else (some (([] : List (List Int)), false)))
theorem spec_DoublingMask.mono : ∀ a0 k, LeO (spec_DoublingMask.f k a0) (spec_DoublingMask.f (k + 1) a0) := by
 intro a0 k
 unfold spec_DoublingMask.f
 repeat' first
   | (with_reducible exact spec_l09Doubling.mono _ _)
   | (with_reducible exact LeO.refl _)
   | (with_reducible exact LeO.none _)
   | (with_reducible refine LeO.ite ?_ ?_)
   | (with_reducible refine LeO.bind ?_ (fun _ => ?_))
   | exact spec_l09Doubling.mono _ _
   | exact LeO.none _
   | refine LeO.ite ?_ ?_
   | refine LeO.bind ?_ (fun _ => ?_)
set_option maxHeartbeats 8000000 in
set_option maxRecDepth 100000 in
theorem spec_DoublingMask.calls (k : Nat) (a0 : Int) (r1 : List (List Int)) (r2 : Bool) (w : World) (h : spec_DoublingMask.f k a0 = some (r1, r2)) :
  Calls Try.prog 15 #[.int .i64 a0] w fun e w' => ∃ v0_ : Value, e = .returned (.tuple #[v0_, .bool r2]) ∧ Kd.S (Kd.slice 2 (Kd.int .i64)) 34 w' w.heap.size (fun _ => True) v0_ r1 ∧ Below w.heap.size w w' := by
 have HB := Aside0.mk (Below.refl w.heap.size w)
 have H : ((spec_l09Order.f a0).bind fun t111 => (if t111 = true then ((spec_l09Doubling.f k a0).bind fun t112 => (some (t112, true))) else (some (([] : List (List Int)), false)))) = some (r1, r2) := h
 clear h
 replace H := Option.bind_eq_some_iff.mp H
 obtain ⟨t111, A20, H⟩ := H
 replace H : (if t111 = true then ((spec_l09Doubling.f k a0).bind fun t112 => (some (t112, true))) else (some (([] : List (List Int)), false))) = some (r1, r2) := H
 have A2 := Aside0.mk A20
 clear A20
 by_cases c3 : t111 = true
 ·subst c3
  have H1 : ((spec_l09Doubling.f k a0).bind fun t112 => (some (t112, true))) = some (r1, r2) := by rw [if_pos rfl] at H; exact H
  clear H
  have H := H1
  clear H1
  replace H := Option.bind_eq_some_iff.mp H
  obtain ⟨t112, A40, H⟩ := H
  replace H : (some (t112, true)) = some (r1, r2) := H
  have A4 := Aside0.mk A40
  clear A40
  simp only [Option.some.injEq, Prod.mk.injEq] at H
  obtain ⟨rfl, rfl⟩ := H
  go_enter Try.func15, Try.ntmps15
  go_wp2_with (first | ((with_reducible refine gate_callee (f := 58) rfl ?_); refine goesL_ (some 5) rfl rfl Try.func58 (by kernel_rfl) rfl #[.int .i64 a0] rfl (by (try simp only [List.map_toArray, List.map_cons, List.map_nil]); first | done | rfl | (simp only [List.length_drop, List.length_take]; rfl) | (simp only [show ∀ (n_ : Nat) (b_ : Int), Int.tdiv (n_ : Int) b_ = (n_ : Int) / b_ from fun n_ b_ => Int.tdiv_eq_ediv_of_nonneg (Int.natCast_nonneg n_)]; rfl)) ?_; (with_reducible refine (spec_l09Order.calls a0 true _ A2.out).mono ?_); rintro e w' ⟨rfl, ⟨nd, rfl⟩⟩; refine ⟨_, rfl, ?_⟩) | ((with_reducible refine gate_callee (f := 59) rfl ?_); refine goesL_ (some 8) rfl rfl Try.func59 (by kernel_rfl) rfl #[.int .i64 a0] rfl (by (try simp only [List.map_toArray, List.map_cons, List.map_nil]); first | done | rfl | (simp only [List.length_drop, List.length_take]; rfl) | (simp only [show ∀ (n_ : Nat) (b_ : Int), Int.tdiv (n_ : Int) b_ = (n_ : Int) / b_ from fun n_ b_ => Int.tdiv_eq_ediv_of_nonneg (Int.natCast_nonneg n_)]; rfl)) ?_; (with_reducible refine (spec_l09Doubling.calls k a0 t112 _ A4.out).mono ?_); rintro e w5 ⟨v113, rfl, ho0, hb⟩; refine ⟨_, rfl, ?_⟩; have n0_ := Aside0.mk (Kd.S_lower ho0 (below_size (by repeat (first | (with_reducible first | exact HB.out | apply below_alloc | apply pw_below_drewN | apply below_drew1) | exact HB.out)))); have n1_ := Aside0.mk (below_step (by repeat (first | (with_reducible first | exact HB.out | apply below_alloc | apply pw_below_drewN | apply below_drew1) | exact HB.out)) hb); clear HB; have HO114 := n0_; have HB := n1_; clear n0_ n1_; (try clear hb); (try clear hb2); (try clear hk); (try clear hi); (try clear ho0)))
  go_ret2
  exact ⟨_, by first | rfl | (simp [errW_none, errW_some] <;> rfl) | (simp [*, errW_none, errW_some] <;> rfl), by (with_reducible repeat (first | apply Kd.S_alloc | apply Kd.S_drewN | apply Kd.S_drew)); exact HO114.out, by repeat (first | (with_reducible first | exact HB.out | apply below_alloc | apply pw_below_drewN | apply below_drew1) | exact HB.out)⟩
 ·replace c3 := Bool.eq_false_iff.mpr c3
  subst c3
  have H1 : (some (([] : List (List Int)), false)) = some (r1, r2) := by rw [if_neg (show ¬ (false = true) by decide)] at H; exact H
  clear H
  have H := H1
  clear H1
  simp only [Option.some.injEq, Prod.mk.injEq] at H
  obtain ⟨rfl, rfl⟩ := H
  go_enter Try.func15, Try.ntmps15
  go_wp2_with (first | ((with_reducible refine gate_callee (f := 58) rfl ?_); refine goesL_ (some 5) rfl rfl Try.func58 (by kernel_rfl) rfl #[.int .i64 a0] rfl (by (try simp only [List.map_toArray, List.map_cons, List.map_nil]); first | done | rfl | (simp only [List.length_drop, List.length_take]; rfl) | (simp only [show ∀ (n_ : Nat) (b_ : Int), Int.tdiv (n_ : Int) b_ = (n_ : Int) / b_ from fun n_ b_ => Int.tdiv_eq_ediv_of_nonneg (Int.natCast_nonneg n_)]; rfl)) ?_; (with_reducible refine (spec_l09Order.calls a0 false _ A2.out).mono ?_); rintro e w' ⟨rfl, ⟨nd, rfl⟩⟩; refine ⟨_, rfl, ?_⟩))
  go_ret2
  exact ⟨_, by first | rfl | (simp [errW_none, errW_some] <;> rfl) | (simp [*, errW_none, errW_some] <;> rfl), by first | exact Kd.S_nil _ _ _ _ _ | exact Kd.N_nil _ _ _ _ _ | exact Kd.V_nil _ _ _ _ _ | exact Kd.Q_nil _ _ _ _ _ | exact Kd.R_nil _ _ _ _ _, by repeat (first | (with_reducible first | exact HB.out | apply below_alloc | apply pw_below_drewN | apply below_drew1) | exact HB.out)⟩
def impl_within.f (a0 : Int) (a1 : Int) (a2 : Int) : Option (Bool) := if a1 ≤ a0 then (some (decide (a0 ≤ a2))) else (some false)
set_option maxHeartbeats 8000000 in
set_option maxRecDepth 100000 in
theorem impl_within.calls (a0 : Int) (a1 : Int) (a2 : Int) (r : Bool) (w : World) (h : impl_within.f a0 a1 a2 = some r) :
  Calls Try.prog 60 #[.int .i64 a0, .int .i64 a1, .int .i64 a2] w fun e w' => e = .returned (.bool r) ∧ Drawn0 w w' := by
 have H : (if a1 ≤ a0 then (some (decide (a0 ≤ a2))) else (some false)) = some r := h
 clear h
 by_cases c4 : a1 ≤ a0
 ·rw [if_pos c4] at H
  have c4b0 : decide (a1 ≤ a0) = true := decide_eq_true c4
  clear c4
  obtain rfl := Option.some.inj H
  go_enter Try.func60, Try.ntmps60
  go_wp2
  go_ret
  exact ⟨by first | rfl | (simp; done) | (simp [*]; done), by repeat (first | exact Drawn0.refl _ | apply Drawn0.step)⟩
 ·rw [if_neg c4] at H
  have c4b0 : decide (a1 ≤ a0) = false := decide_eq_false c4
  clear c4
  obtain rfl := Option.some.inj H
  go_enter Try.func60, Try.ntmps60
  go_wp2
  go_ret
  exact ⟨by first | rfl | (simp; done) | (simp [*]; done), by repeat (first | exact Drawn0.refl _ | apply Drawn0.step)⟩
end Go.Proofs.Ytckonklpdepgoaa.Q
namespace Go.Proofs.Ytckonklpdepgoaa.Q
open Go.RowKit Go.Proofs.YtckonklpdepgoaaW.PrintWords Go.Proofs.YtckonklpdepgoaaW.PrintLast Go.Proofs.YtckonklpdepgoaaW.PrintMore
attribute [local go_sem] max2_int min2_int max_two min_two max_three min_three max_four min_four   -- for this text's walks alone
set_option linter.unusedVariables false
set_option linter.unusedSimpArgs false
abbrev OC : Type := { v : Value // v.oneCell' = true }
def kv : Kd OC := Kd.scalar (fun v : OC => v.1) (fun v => v.2)
def ocNil : OC := ⟨.slice none 0 0, rfl⟩
def sv (b : Nat) : Value := .slice (some ⟨b, 0, none⟩) 2 2
def ov (b : Nat) : OC := ⟨sv b, rfl⟩
set_option maxHeartbeats 4000000 in
set_option maxRecDepth 100000 in
theorem rws_grow (n : Nat) (w : World) (hn : n ≤ 1000000000) : Calls Try.prog 107 #[.slice none 0 0, .int .i64 n] w fun e w' => ∃ v : Value, e = .returned v ∧ Kd.R kv 34 w' w.heap.size (fun _ => True) v ([] : List OC) ∧ Below w.heap.size w w' := by
 by_cases h0 : n = 0
 ·subst h0
  go_enter Try.func107, Try.ntmps107
  go_wp2
  go_ret
  exact ⟨_, rfl, Kd.R_nil _ _ _ _ _, Below.refl _ _⟩
 ·have h1 : (0 : Int) < (n : Int) := by omega
  have hb : (n : Int) ≤ 1000000000 := by omega
  have HN := Aside0.mk hn
  have hci := (show (Try.prog.info? 34).map (fun i => (i.zero, i.size, i.bytes)) = some (some (.slice none 0 0), 1, 24) from by kernel_rfl)
  have HCI := Aside0.mk hci
  obtain ⟨i0, hi, hz0⟩ := Option.map_eq_some_iff.1 hci
  have HI := Aside0.mk hi
  clear h0 hn hci hi hz0
  go_enter Try.func107, Try.ntmps107
  go_wp2_with ((with_reducible refine gate_dst (N := 22) rfl ?_); refine Kd.R_append_zeros kv w.heap.size ?hg (.tmp 20) (.tmp 21) 22 3 34 (.slice none 0 0) 24 ?ho Try.underlying22 (k := .i64) ?hti HCI.out rfl (by decide) (by decide) (.slice none 0 0) [] (ocNil) (kx := .i64) (n : Int) (fun _ => True) ?hs ?hx rfl (fun _ _ => trivial) (Kd.R_nil _ _ _ _ _) ?h0 (Below.refl _ _) (Nat.le_refl _) ?hl ?_; (case hg => rfl); (case ho => rfl); (case hti => exact Try.underlying3); (case hs => rfl); (case hx => rfl); (case h0 => omega); (case hl => (have := HN.out; simp <;> omega)); intro v1 w1 hr hb1 hg_ hat_; have HR := Aside0.mk hr; have HB := Aside0.mk hb1; clear hr hb1 hg_ hat_; obtain ⟨A1, c1, e1⟩ := Kd.R_slice HR.out; subst e1; have hcut := cut_to (P := Try.prog) 22 34 .i64 Try.underlying22 HI.out A1 (([] : List OC) ++ List.replicate (n : Int).toNat (ocNil)).length c1 0 (by omega) (by omega) (Kd.R_reads' HR.out).2.1)
  go_ret
  exact ⟨.slice A1 0 c1, rfl, Kd.R_take (xs := ([] : List OC) ++ List.replicate (n : Int).toNat (ocNil)) (m := 0) HR.out (Nat.zero_le _), HB.out⟩
def rws_tl (ls : List (List OC)) (kk : Nat) : Nat := (ls.take kk).flatten.length
set_option maxHeartbeats 4000000 in
set_option maxRecDepth 100000 in
theorem rws_concat (A0 : Option Addr) (c0 : Nat) (ls : List (List OC)) (w : World) (hr : Kd.C (Kd.slice 34 kv) w A0 ls.length ls) (hn : ls.flatten.length ≤ 1000000000) :
  Calls Try.prog 66 #[.slice A0 ls.length c0] w fun e w' => ∃ v : Value, e = .returned v ∧ Kd.R kv 34 w' w.heap.size (fun _ => True) v ls.flatten ∧ Below w.heap.size w w' := by
 have hbig : ls.length ≤ 9223372036854775807 := hr.2.1
 have HR := Aside0.mk hr
 have HN := Aside0.mk hn
 have hci := (show (Try.prog.info? 34).map (fun i => (i.zero, i.size, i.bytes)) = some (some (.slice none 0 0), 1, 24) from by kernel_rfl)
 have HCI := Aside0.mk hci
 clear hr hn hci
 go_enter Try.func66, Try.ntmps66
 go_wp2
 go_loopg [3, 11] ls.length (fun gg s3 s11 wr => ∃ kk : Nat, kk ≤ ls.length ∧ ls.length - kk ≤ gg ∧ s11 = .int .i64 kk ∧ s3 = .int .i64 (rws_tl ls kk : Nat) ∧ w = wr)
 case atStart => exact ⟨0, Nat.zero_le _, by omega, rfl, rfl, rfl⟩
 case round =>
  obtain ⟨kk, hkk, hg, rfl, rfl, rfl⟩ := hrel
  by_cases hlt : kk < ls.length
  ·have hltz : (kk : Int) < (ls.length : Int) := by omega
   obtain ⟨ad, rfl, hcs⟩ := HR.out.2.2 (by omega)
   obtain ⟨cs, hl1, hk1, hc1⟩ := hcs kk _ (List.getElem?_eq_getElem hlt)
   obtain ⟨A1, c1, rfl, hlc, hcr⟩ := hk1
   have hcell := hc1 0 _ rfl
   simp only [show (Kd.slice 34 kv).sz = 1 from rfl, Nat.mul_one, Nat.add_zero] at hcell
   have hsum : (ls.take (kk + 1)).flatten.length = (ls.take kk).flatten.length + ls[kk].length := by rw [List.take_succ_eq_append_getElem hlt, List.flatten_append]; simp
   have hle : (ls.take (kk + 1)).flatten.length ≤ ls.flatten.length := by
    have h := congrArg (fun l => (List.flatten l).length) (List.take_append_drop (kk + 1) ls)
    simp only [List.flatten_append, List.length_append] at h
    omega
   have hnn := HN.out
   change rws_tl ls (kk + 1) = rws_tl ls kk + ls[kk].length at hsum
   change rws_tl ls (kk + 1) ≤ ls.flatten.length at hle
   generalize hm : rws_tl ls (kk + 1) = m at hsum hle
   generalize hm0 : rws_tl ls kk = m0 at hsum ⊢
   generalize hy : ls[kk].length = y at hcell hsum
   have hm1 : (m0 : Int) + (y : Int) ≤ 1000000000 := by omega
   have HM := Aside0.mk hm
   have HS := Aside0.mk hsum
   clear hcs hc1 hl1 hlc hcr hm hm0 hsum hle hnn hy
   go_wp2
   go_roundg (ls.length - (kk + 1))
   case measure => omega
   case rel => exact ⟨kk + 1, by omega, by omega, by go_num, by rw [HM.out, HS.out]; go_num, rfl⟩
  ·have : kk = ls.length := by omega
   subst this
   have hm : rws_tl ls ls.length = ls.flatten.length := by unfold rws_tl; rw [List.take_length]
   rw [hm]
   have hnn := HN.out
   clear hm
   obtain ⟨NN, hNN⟩ : ∃ N_ : Nat, ls.flatten.length = N_ := ⟨_, rfl⟩
   rw [hNN] at hnn ⊢
   have HNN := Aside0.mk hnn
   clear hNN
   go_wp2_with (go_at_call 107; refine (rws_grow NN _ HNN.out).mono ?_; rintro e w2 ⟨v2, rfl, hr2, hb2⟩)
   have HV := Aside0.mk hr2
   have HB := Aside0.mk hb2
   clear hr2 hb2
   go_loopg [6, 27] ls.length (fun gg s6 s27 w' => ∃ kk : Nat, kk ≤ ls.length ∧ ls.length - kk ≤ gg ∧ s27 = .int .i64 kk ∧ Aside0 (Kd.R kv 34 w' w.heap.size (fun _ => True) s6 (ls.take kk).flatten) ∧ Aside0 (Below w.heap.size w w'))
   case atStart => exact ⟨0, Nat.zero_le _, by omega, rfl, by rw [List.take_zero, List.flatten_nil]; exact HV, HB⟩
   case round =>
    clear HV HB
    obtain ⟨kk, hkk, hg, rfl, HV, HB⟩ := hrel
    by_cases hlt : kk < ls.length
    ·have hltz : (kk : Int) < (ls.length : Int) := by omega
     have HC := Kd.C_below HR.out HB.out
     obtain ⟨ad, rfl, hcs⟩ := HC.2.2 (by omega)
     obtain ⟨cs, hl1, hk1, hc1⟩ := hcs kk _ (List.getElem?_eq_getElem hlt)
     obtain ⟨A1, c1, rfl, hlc, hcr⟩ := hk1
     have hcell := hc1 0 _ rfl
     simp only [show (Kd.slice 34 kv).sz = 1 from rfl, Nat.mul_one, Nat.add_zero] at hcell
     have hsum : (ls.take (kk + 1)).flatten = (ls.take kk).flatten ++ ls[kk] := by rw [List.take_succ_eq_append_getElem hlt, List.flatten_append]; simp
     have hle : (ls.take (kk + 1)).flatten.length ≤ ls.flatten.length := by
      have h := congrArg (fun l => (List.flatten l).length) (List.take_append_drop (kk + 1) ls)
      simp only [List.flatten_append, List.length_append] at h
      omega
     rw [hsum] at hle
     generalize hm : (ls.take (kk + 1)).flatten = m at hsum
     generalize hm0 : (ls.take kk).flatten = m0 at hsum hle HV
     generalize hy : ls[kk] = y at hcell hsum hle hcr
     have HM := Aside0.mk hm
     have HS := Aside0.mk hsum
     have HCR := Aside0.mk hcr
     have HLE := Aside0.mk hle
     clear hcs hc1 hl1 hlc hcr hm hm0 hsum hle hy HC
     go_wp2_with ((with_reducible refine gate_dst (N := 33) rfl ?_); refine Kd.R_append_rows kv (Rr := fun x cs => cs = [Subtype.val x]) w.heap.size ?hg (.tmp 31) (.tmp 32) 22 34 (.slice none 0 0) 24 ?ho Try.underlying22 HCI.out rfl (by decide) (by decide) _ m0 y A1 y.length c1 (fun _ => True) (fun _ => False) ?hs ?hx HV.out HCR.out (fun x cs h => h) (fun k h => h.elim) (fun _ _ => trivial) HB.out HB.out.size ?hl ?_; (case hg => rfl); (case ho => rfl); (case hs => rfl); (case hx => rfl); (case hl => (have h1 := HLE.out; have h2 := HN.out; rw [List.length_append] at h1; omega)); intro v1 w1 hr hb1 hg_ hat_; have HV1 := Aside0.mk hr; have HB1 := Aside0.mk hb1; clear hr hb1 hg_ hat_)
     go_roundg (ls.length - (kk + 1))
     case measure => omega
     case rel => exact ⟨kk + 1, by omega, by omega, by go_num, by rw [HM.out, HS.out]; exact HV1, HB1⟩
    ·have : kk = ls.length := by omega
     subst this
     rw [List.take_length] at HV
     go_wp2
     go_ret
     exact ⟨_, rfl, HV.out, HB.out⟩
end Go.Proofs.Ytckonklpdepgoaa.Q
namespace Go.Proofs.Ytckonklpdepgoaa.Q
open Go.RowKit Go.Proofs.YtckonklpdepgoaaW.PrintWords Go.Proofs.YtckonklpdepgoaaW.PrintLast Go.Proofs.YtckonklpdepgoaaW.PrintMore
attribute [local go_sem] max2_int min2_int max_two min_two max_three min_three max_four min_four   -- for this text's walks alone
set_option linter.unusedVariables false
set_option linter.unusedSimpArgs false
def RowsAt (w : World) (base : Nat) (bs : List Nat) (ps : List (List Int)) : Prop := bs.length = ps.length ∧ ∀ (i b : Nat), bs[i]? = some b → ∃ x y : Int, base ≤ b ∧ w.heap[b]? = some (.cells #[.int .i64 x, .int .i64 y] 2 (0, 0)) ∧ ps[i]? = some [x, y]
theorem RowsAt.move {w w1 : World} {base : Nat} {bs : List Nat} {ps : List (List Int)} (h : RowsAt w base bs ps) (hm : ∀ (b : Nat) (cs : Array Value), w.heap[b]? = some (Obj.cells cs 2 (0, 0)) → w1.heap[b]? = some (Obj.cells cs 2 (0, 0))) : RowsAt w1 base bs ps :=
 ⟨h.1, fun i b hb => by
  obtain ⟨x, y, h1, h2, h3⟩ := h.2 i b hb
  exact ⟨x, y, h1, hm _ _ h2, h3⟩⟩
theorem RowsAt.below {w w1 : World} {base : Nat} {bs : List Nat} {ps : List (List Int)} (h : RowsAt w base bs ps) (hb : Below w.heap.size w w1) : RowsAt w1 base bs ps := h.move (fun b cs h1 => blk_below h1 hb)
theorem RowsAt.snoc {w : World} {base : Nat} {bs : List Nat} {ps : List (List Int)} (h : RowsAt w base bs ps) {b : Nat} {x y : Int} (h1 : base ≤ b) (h2 : w.heap[b]? = some (.cells #[.int .i64 x, .int .i64 y] 2 (0, 0))) : RowsAt w base (bs ++ [b]) (ps ++ [[x, y]]) := by
 refine ⟨by rw [List.length_append, List.length_append, h.1]; rfl, fun i b' hb => ?_⟩
 by_cases c : i < bs.length
 ·rw [List.getElem?_append_left c] at hb
  obtain ⟨x', y', k1, k2, k3⟩ := h.2 i b' hb
  exact ⟨x', y', k1, k2, by rw [List.getElem?_append_left (by rw [← h.1]; exact c)]; exact k3⟩
 ·rw [List.getElem?_append_right (by omega)] at hb
  have : i - bs.length = 0 := by
   cases hq : i - bs.length with
   | zero => rfl
   | succ n => rw [hq] at hb; simp at hb
  rw [this] at hb
  have hb' : b = b' := by simpa using hb
  subst hb'
  exact ⟨x, y, h1, h2, by rw [List.getElem?_append_right (by rw [← h.1]; omega), ← h.1, this]; rfl⟩
theorem RowsAt.app {w : World} {base : Nat} {bs bs' : List Nat} {ps ps' : List (List Int)} (h : RowsAt w base bs ps) (h' : RowsAt w base bs' ps') : RowsAt w base (bs ++ bs') (ps ++ ps') := by
 refine ⟨by rw [List.length_append, List.length_append, h.1, h'.1], fun i b hb => ?_⟩
 by_cases c : i < bs.length
 ·rw [List.getElem?_append_left c] at hb
  obtain ⟨x', y', k1, k2, k3⟩ := h.2 i b hb
  exact ⟨x', y', k1, k2, by rw [List.getElem?_append_left (by rw [← h.1]; exact c)]; exact k3⟩
 ·rw [List.getElem?_append_right (by omega)] at hb
  obtain ⟨x', y', k1, k2, k3⟩ := h'.2 _ b hb
  exact ⟨x', y', k1, k2, by rw [List.getElem?_append_right (by rw [← h.1]; omega), ← h.1]; exact k3⟩
theorem RowsAt.lt {w : World} {base : Nat} {bs : List Nat} {ps : List (List Int)} (h : RowsAt w base bs ps) {b : Nat} (hb : b ∈ bs) : b < w.heap.size := by
 obtain ⟨i, hi, rfl⟩ := List.getElem_of_mem hb
 obtain ⟨x, y, _, h2, _⟩ := h.2 i _ (List.getElem?_eq_getElem hi)
 exact blk_lt h2
def Hilb (w : World) (base : Nat) (v : Value) (bs : List Nat) (xs : List (List Int)) : Prop := kv.R 34 w base (fun _ => True) v (bs.map ov) ∧ RowsAt w base bs xs ∧ bs.Nodup
theorem own_rowOf {w : World} {base b : Nat} {x y : Int} (h1 : base ≤ b) (h2 : w.heap[b]? = some (.cells #[.int .i64 x, .int .i64 y] 2 (0, 0))) : w.ownsRow base 2 1 (sv b) 2 [.int .i64 x, .int .i64 y] :=
 ⟨rfl, .inr ⟨b, 2, #[.int .i64 x, .int .i64 y], rfl, h1, h2, Nat.le_refl _, by decide, rfl, rfl⟩⟩
theorem Hilb.S {w : World} {base : Nat} {v : Value} {bs : List Nat} {xs : List (List Int)} (h : Hilb w base v bs xs) : Kd.S (Kd.slice 2 (Kd.int .i64)) 34 w base (fun _ => True) v xs := by
 obtain ⟨hr, ha, hn⟩ := h
 have hty := Kd.R_typed hr
 have hown := Kd.own_of_R hr
 have hlen : (bs.map ov).length = xs.length := by rw [List.length_map, ha.1]
 refine ⟨fun b => bs.idxOf b, fun k _ => trivial, (bs.map ov).map (fun v : OC => v.1), ?_, ?_, fun j p hj => ?_⟩
 ·rw [List.length_zipIdx, ← hlen]
  exact hown
 ·rw [List.length_map, List.length_zipIdx, hlen]
  exact (Nat.mul_one _).symm
 ·rw [List.getElem?_zipIdx, Nat.zero_add] at hj
  obtain ⟨q, hq, rfl⟩ := Option.map_eq_some_iff.1 hj
  have hjl : j < bs.length := by rw [ha.1]; exact (List.getElem?_eq_some_iff.1 hq).1
  obtain ⟨x, y, h1, h2, h3⟩ := ha.2 j _ (List.getElem?_eq_getElem hjl)
  rw [hq] at h3
  have hq' := Option.some.inj h3
  subst hq'
  have hcell : (((bs.map ov).map (fun v : OC => v.1)).drop (j * 1)).take 1 = [sv bs[j]] := by
   rw [Nat.mul_one, List.drop_eq_getElem_cons (by simpa using hjl), List.take_succ_cons, List.take_zero]
   simp [ov]
  have hgoal : (Kd.slice 2 (Kd.int .i64)).M w base (fun k => (True ∧ some k ≠ v.ownBlock) ∧ bs.idxOf k = j) [x, y] [sv bs[j]] := by
   refine ⟨sv bs[j], rfl, Kd.R_of_own (own_rowOf h1 h2) (fun k hk => ?_)⟩
   have hk' : bs[j] = k := by simpa [sv, Value.ownBlock] using hk
   subst hk'
   refine ⟨⟨trivial, fun he => ?_⟩, ?_⟩
   ·obtain ⟨cells, hc⟩ := hty _ he.symm
    rw [h2] at hc
    injection hc with hc
    injection hc with _ hc
    cases hc
   ·exact List.Nodup.idxOf_getElem hn j hjl
  rw [← hcell] at hgoal
  exact hgoal
def upd4 {α : Type} (f : Nat → α) (j : Nat) (a : α) : Nat → α := fun i => if i = j then a else f i
def PS (w : World) (base bp : Nat) (vs : Nat → Value) (bs : Nat → List Nat) (ps : Nat → List (List Int)) : Prop :=
 base ≤ bp ∧ w.heap[bp]? = some (.cells #[vs 0, vs 1, vs 2, vs 3] 82 (0, 0)) ∧ (∀ j, j < 4 → kv.R 34 w base (fun _ => True) (vs j) ((bs j).map ov) ∧ RowsAt w base (bs j) (ps j)) ∧
 (∀ i j, i < 4 → j < 4 → i ≠ j → (vs i).ownBlock = none ∨ (vs i).ownBlock ≠ (vs j).ownBlock) ∧ (bs 0 ++ bs 1 ++ bs 2 ++ bs 3).Nodup
theorem PS.congr {w : World} {base bp : Nat} {vs : Nat → Value} {bs : Nat → List Nat} {ps ps' : Nat → List (List Int)} (h : PS w base bp vs bs ps) (e : ∀ q, q < 4 → ps q = ps' q) : PS w base bp vs bs ps' :=
 ⟨h.1, h.2.1, fun j hj => ⟨(h.2.2.1 j hj).1, by rw [← e j hj]; exact (h.2.2.1 j hj).2⟩, h.2.2.2⟩
theorem PS.below {w w1 : World} {base bp : Nat} {vs : Nat → Value} {bs : Nat → List Nat} {ps : Nat → List (List Int)} (h : PS w base bp vs bs ps) (hb : Below w.heap.size w w1) : PS w1 base bp vs bs ps :=
 ⟨h.1, blk_below h.2.1 hb, fun j hj => ⟨Kd.R_below (h.2.2.1 j hj).1 hb, (h.2.2.1 j hj).2.below hb⟩, h.2.2.2⟩
theorem own_R {w : World} {base : Nat} {v : Value} {hs : List OC} (h : kv.R 34 w base (fun _ => True) v hs) : w.ownsRow base 34 1 v hs.length (hs.map (fun v : OC => v.1)) := Kd.own_of_R h
theorem cells_set4 (vs : Nat → Value) (j : Nat) (hj : j < 4) (v : Value) : (#[vs 0, vs 1, vs 2, vs 3] : Array Value).setIfInBounds j v = #[upd4 vs j v 0, upd4 vs j v 1, upd4 vs j v 2, upd4 vs j v 3] := by
 match j, hj with
 | 0, _ => rfl
 | 1, _ => rfl
 | 2, _ => rfl
 | 3, _ => rfl
theorem nodup_mid {A B : List Nat} {b : Nat} (h : (A ++ B).Nodup) (hb : b ∉ A ++ B) : (A ++ [b] ++ B).Nodup := by
 have hp : (A ++ [b] ++ B).Perm (b :: (A ++ B)) := by
  rw [List.append_assoc]
  exact List.perm_middle
 rw [hp.nodup_iff, List.nodup_cons]
 exact ⟨hb, h⟩
theorem PS.nodup {bs : Nat → List Nat} {j b : Nat} (hj : j < 4) (h : (bs 0 ++ bs 1 ++ bs 2 ++ bs 3).Nodup) (hb : ∀ q, q < 4 → b ∉ bs q) : (upd4 bs j (bs j ++ [b]) 0 ++ upd4 bs j (bs j ++ [b]) 1 ++ upd4 bs j (bs j ++ [b]) 2 ++ upd4 bs j (bs j ++ [b]) 3).Nodup := by
 have h0 := hb 0 (by omega)
 have h1 := hb 1 (by omega)
 have h2 := hb 2 (by omega)
 have h3 := hb 3 (by omega)
 match j, hj with
 | 0, _ =>
  have := nodup_mid (A := bs 0) (B := bs 1 ++ bs 2 ++ bs 3) (b := b) (by simpa [List.append_assoc] using h) (by simp [h0, h1, h2, h3])
  simpa [upd4, List.append_assoc] using this
 | 1, _ =>
  have := nodup_mid (A := bs 0 ++ bs 1) (B := bs 2 ++ bs 3) (b := b) (by simpa [List.append_assoc] using h) (by simp [h0, h1, h2, h3])
  simpa [upd4, List.append_assoc] using this
 | 2, _ =>
  have := nodup_mid (A := bs 0 ++ bs 1 ++ bs 2) (B := bs 3) (b := b) (by simpa [List.append_assoc] using h) (by simp [h0, h1, h2, h3])
  simpa [upd4, List.append_assoc] using this
 | 3, _ =>
  have := nodup_mid (A := bs 0 ++ bs 1 ++ bs 2 ++ bs 3) (B := []) (b := b) (by simpa [List.append_assoc] using h) (by simp [h0, h1, h2, h3])
  simpa [upd4, List.append_assoc] using this
theorem R_ty_ne {w : World} {base k : Nat} {v : Value} {hs : List OC} {cs : Array Value} {t : Nat} (h : kv.R 34 w base (fun _ => True) v hs) (hk : w.heap[k]? = some (.cells cs t (0, 0))) (ht : 34 ≠ t) : some k ≠ v.ownBlock := fun e => by
 obtain ⟨cells, hc⟩ := Kd.R_typed h k e.symm
 rw [hk] at hc
 injection hc with hc
 injection hc with _ hc
 exact ht hc.symm
theorem PS.step {w w3 : World} {base bp j : Nat} {vs : Nat → Value} {bs : Nat → List Nat} {ps : Nat → List (List Int)} {x y : Int} {v' : Value} (h : PS w base bp vs bs ps) (hj : j < 4) (hbase : base ≤ w.heap.size)
  (hr : kv.R 34 w3 base (fun _ => True) v' ((bs j).map ov ++ [ov w.heap.size])) (hg : (w.alloc (.cells #[.int .i64 x, .int .i64 y] 2 (0, 0))).grownBy w3 (vs j).ownBlock)
  (hat : v'.ownBlock = (vs j).ownBlock ∨ ∃ b, v'.ownBlock = some b ∧ (w.alloc (.cells #[.int .i64 x, .int .i64 y] 2 (0, 0))).heap.size ≤ b) :
  ∃ vs' bs', PS (w3.setCell ⟨bp, j, none⟩ v') base bp vs' bs' (upd4 ps j (ps j ++ [[x, y]])) := by
 obtain ⟨h1, h2, h3, h4, h5⟩ := h
 obtain ⟨W, hW⟩ : ∃ W, w.alloc (.cells #[.int .i64 x, .int .i64 y] 2 (0, 0)) = W := ⟨_, rfl⟩
 rw [hW] at hg hat
 have hbl : Below w.heap.size w W := by rw [← hW]; exact below_alloc (Below.refl _ _) _
 have hnew : W.heap[w.heap.size]? = some (.cells #[.int .i64 x, .int .i64 y] 2 (0, 0)) := by rw [← hW]; exact blk_new _ _
 have hbpW := blk_below h2 hbl
 have hjR := Kd.R_below (h3 j hj).1 hbl
 have hbp3 : w3.heap[bp]? = some (.cells #[vs 0, vs 1, vs 2, vs 3] 82 (0, 0)) := blk_grown hbpW hg (R_ty_ne hjR hbpW (by decide))
 have hbp4 := blk_set hbp3 j v'
 rw [cells_set4 vs j hj v'] at hbp4
 have rowmove : ∀ (b : Nat) (cs : Array Value), w.heap[b]? = some (Obj.cells cs 2 (0, 0)) → (w3.setCell ⟨bp, j, none⟩ v').heap[b]? = some (Obj.cells cs 2 (0, 0)) := fun b cs hb => by
  have e1 := blk_below hb hbl
  have e2 := blk_grown e1 hg (R_ty_ne hjR e1 (by decide))
  exact blk_far e2 (p := ⟨bp, j, none⟩) (fun e => by
   have e' : b = bp := e
   rw [e', hbp3] at e2
   injection e2 with e2
   injection e2 with _ e2
   cases e2) v'
 have hnew3 : (w3.setCell ⟨bp, j, none⟩ v').heap[w.heap.size]? = some (.cells #[.int .i64 x, .int .i64 y] 2 (0, 0)) := by
  have e2 := blk_grown hnew hg (R_ty_ne hjR hnew (by decide))
  exact blk_far e2 (p := ⟨bp, j, none⟩) (fun e => by have := blk_lt h2; have e' : w.heap.size = bp := e; omega) v'
 have own3 : ∀ {v : Value} {hs : List OC}, kv.R 34 w3 base (fun _ => True) v hs → kv.R 34 (w3.setCell ⟨bp, j, none⟩ v') base (fun _ => True) v hs := fun {v hs} hv =>
  Kd.R_mono (Kd.R_set hv hbp3 (by intro q hq; simp [kv, Kd.scalar] at hq; rw [hq]; decide) j v') (fun _ _ => trivial)
 refine ⟨upd4 vs j v', upd4 bs j (bs j ++ [w.heap.size]), h1, hbp4, fun i hi => ?_, fun i q hi hq hne => ?_, PS.nodup hj h5 (fun q hq hm => ?_)⟩
 ·by_cases e : i = j
  ·subst e
   simp only [upd4, if_true]
   refine ⟨by rw [List.map_append]; exact own3 hr, ((h3 i hi).2.move rowmove).snoc (Nat.le_trans hbase (Nat.le_refl _)) hnew3⟩
  ·simp only [upd4, if_neg e]
   refine ⟨own3 ?_, (h3 i hi).2.move rowmove⟩
   have hi2 := own_other (own_R (Kd.R_below (h3 i hi).1 hbl)) hg (h4 i j hi hj e)
   exact Kd.R_of_own hi2 (fun _ _ => trivial)
 ·have lt : ∀ q, q < 4 → ∀ k, (vs q).ownBlock = some k → k < W.heap.size := fun q hq k hk => by have := Kd.R_lt (h3 q hq).1 k hk; have := hbl.size; omega
  by_cases e : i = j
  ·subst e
   have e2 : ¬ q = i := fun e2 => hne e2.symm
   simp only [upd4, if_true, if_neg e2]
   rcases hat with hat | ⟨b, hb, hge⟩
   ·rw [hat]; exact h4 i q hi hq hne
   ·refine .inr (fun e3 => ?_)
    rw [hb] at e3
    have := lt q hq b e3.symm
    omega
  ·by_cases e2 : q = j
   ·subst e2
    simp only [upd4, if_true, if_neg e]
    rcases hat with hat | ⟨b, hb, hge⟩
    ·rw [hat]; exact h4 i q hi hq hne
    ·refine .inr (fun e3 => ?_)
     rw [hb] at e3
     have := lt i hi b e3
     omega
   ·simp only [upd4, if_neg e, if_neg e2]
    exact h4 i q hi hq hne
 ·have := (h3 q hq).2.lt hm
  omega
theorem PS.start {w : World} {base bp : Nat} (h1 : base ≤ bp) (h2 : w.heap[bp]? = some (.cells #[.slice none 0 0, .slice none 0 0, .slice none 0 0, .slice none 0 0] 82 (0, 0))) : PS w base bp (fun _ => .slice none 0 0) (fun _ => []) (fun _ => []) :=
 ⟨h1, h2, fun j _ => ⟨Kd.R_nil _ _ _ _ _, rfl, fun i b hb => by simp at hb⟩, fun i j _ _ _ => .inl rfl, by simp⟩
theorem PS.cell {w : World} {base bp : Nat} {vs : Nat → Value} {bs : Nat → List Nat} {ps : Nat → List (List Int)} (h : PS w base bp vs bs ps) : w.cell? ⟨bp, 0, none⟩ = some (vs 0) ∧ w.cell? ⟨bp, 1, none⟩ = some (vs 1) ∧ w.cell? ⟨bp, 2, none⟩ = some (vs 2) ∧ w.cell? ⟨bp, 3, none⟩ = some (vs 3) ∧ (∀ j, w.frozen? ⟨bp, j, none⟩ = false) :=
 ⟨blk_cell h.2.1 0, blk_cell h.2.1 1, blk_cell h.2.1 2, blk_cell h.2.1 3, fun j => blk_frozen h.2.1 j⟩
theorem PS.C {w : World} {base bp : Nat} {vs : Nat → Value} {bs : Nat → List Nat} {ps : Nat → List (List Int)} (h : PS w base bp vs bs ps) : Kd.C (Kd.slice 34 kv) w (some ⟨bp, 0, none⟩) 4 [(bs 0).map ov, (bs 1).map ov, (bs 2).map ov, (bs 3).map ov] := by
 refine ⟨rfl, by decide, fun _ => ⟨⟨bp, 0, none⟩, rfl, fun j p hp => ?_⟩⟩
 have hj : j < 4 := by
  have := (List.getElem?_eq_some_iff.1 hp).1
  simpa using this
 have hpj : p = (bs j).map ov := by
  match j, hj with
  | 0, _ => exact (Option.some.inj hp).symm
  | 1, _ => exact (Option.some.inj hp).symm
  | 2, _ => exact (Option.some.inj hp).symm
  | 3, _ => exact (Option.some.inj hp).symm
 subst hpj
 obtain ⟨A, c, e, hl, hc⟩ := Kd.R_reads (h.2.2.1 j hj).1
 refine ⟨[vs j], rfl, ⟨A, c, by rw [e], hl, hc⟩, fun q u hu => ?_⟩
 have hq : q = 0 := by
  cases q with
  | zero => rfl
  | succ n => simp at hu
 subst hq
 have hu' : vs j = u := by simpa using hu
 subst hu'
 show w.cell? ((⟨bp, 0, none⟩ : Addr).add (j * 1 + 0)) = some (vs j)
 rw [add_at, Nat.mul_one, Nat.add_zero, Nat.zero_add, blk_cell h.2.1 j]
 match j, hj with
 | 0, _ => rfl
 | 1, _ => rfl
 | 2, _ => rfl
 | 3, _ => rfl
theorem PS.hilb {w w' : World} {base bp : Nat} {vs : Nat → Value} {bs : Nat → List Nat} {ps : Nat → List (List Int)} {v : Value} (h : PS w base bp vs bs ps) (hb : Below w.heap.size w w') (hbase : base ≤ w.heap.size) (hr : kv.R 34 w' w.heap.size (fun _ => True) v [(bs 0).map ov, (bs 1).map ov, (bs 2).map ov, (bs 3).map ov].flatten) : Hilb w' base v (bs 0 ++ bs 1 ++ bs 2 ++ bs 3) (ps 0 ++ ps 1 ++ ps 2 ++ ps 3) := by
 have r := fun j hj => ((h.2.2.1 j hj).2.below hb)
 refine ⟨?_, ((((r 0 (by omega)).app (r 1 (by omega))).app (r 2 (by omega))).app (r 3 (by omega))), h.2.2.2.2⟩
 have e : ((bs 0 ++ bs 1 ++ bs 2 ++ bs 3).map ov) = [(bs 0).map ov, (bs 1).map ov, (bs 2).map ov, (bs 3).map ov].flatten := by simp [List.flatten_cons]
 rw [e]
 exact Kd.R_lower hr hbase
theorem Hilb.below {w w1 : World} {base : Nat} {v : Value} {bs : List Nat} {xs : List (List Int)} (h : Hilb w base v bs xs) (hb : Below w.heap.size w w1) : Hilb w1 base v bs xs := ⟨Kd.R_below h.1 hb, h.2.1.below hb, h.2.2⟩
theorem Hilb.lower {w : World} {base base' : Nat} {v : Value} {bs : List Nat} {xs : List (List Int)} (h : Hilb w base v bs xs) (hb : base' ≤ base) : Hilb w base' v bs xs := ⟨Kd.R_lower h.1 hb, ⟨h.2.1.1, fun i b hi => by
 obtain ⟨x, y, h1, h2, h3⟩ := h.2.1.2 i b hi
 exact ⟨x, y, by omega, h2, h3⟩⟩, h.2.2⟩
theorem Hilb.at_ {w : World} {base n c : Nat} {A : Option Addr} {bs : List Nat} {xs : List (List Int)} (h : Hilb w base (.slice A n c) bs xs) (i : Nat) (hi : i < xs.length) :
  ∃ g b x y, A = some ⟨g, 0, none⟩ ∧ n = xs.length ∧ w.cell? ⟨g, i, none⟩ = some (.slice (some ⟨b, 0, none⟩) 2 2) ∧ w.cell? ⟨b, 0, none⟩ = some (.int .i64 x) ∧ w.cell? ⟨b, 1, none⟩ = some (.int .i64 y) ∧ xs[i] = [x, y] := by
 obtain ⟨hr, ha, _⟩ := h
 have hn := (Kd.R_reads' hr).1
 rw [List.length_map, ha.1] at hn
 obtain ⟨g, cap', e1, hg1, hg2, _⟩ := Kd.R_form hr (by rw [List.length_map, ha.1]; omega)
 injection e1 with e1 _ e3
 subst e1
 have hib : i < bs.length := by rw [ha.1]; exact hi
 obtain ⟨x, y, h1, h2, h3⟩ := ha.2 i _ (List.getElem?_eq_getElem hib)
 rw [List.getElem?_eq_getElem hi] at h3
 obtain ⟨ad, cc, e2, hl, hK, hc⟩ := Kd.C_get (Kd.R_reads' hr).2.2 ocNil (i : Int) (by omega) (by rw [List.length_map]; omega)
 cases e2
 rw [Int.toNat_natCast] at hK hc
 have hk : cc = [(((bs.map ov).getD i ocNil).1)] := hK
 subst hk
 have h0 := hc 0 _ rfl
 simp only [show kv.sz = 1 from rfl, add_at, Nat.zero_add, Nat.add_zero, Nat.mul_one] at h0
 have e : ((bs.map ov).getD i ocNil).1 = sv bs[i] := by rw [List.getD_eq_getElem?_getD, List.getElem?_map, List.getElem?_eq_getElem hib]; rfl
 rw [e] at h0
 exact ⟨g, bs[i], x, y, rfl, hn, h0, blk_cell h2 0, blk_cell h2 1, Option.some.inj h3⟩
theorem PS.append {P : Program} {ops : Array Oper} {o : Oper} {rest : List Oper} {a : Act} {Q : Exit → Act → World → Prop} {w0 wX : World} {base bp j b : Nat} {vs : Nat → Value} {bs : Nat → List Nat} {ps : Nat → List (List Int)} {x y : Int} (hgd : o.guard = none) (s xo : Operand)
  (ho : o.op = .call { callee := .builtin .append, args := #[s, xo], argTypes := #[22, 22] }) (ht : P.underlying 22 = some (.slice 34)) (hinfo : (P.info? 34).map (fun i => (i.zero, i.size, i.bytes)) = some (some (.slice none 0 0), 1, 24))
  (HP : PS wX base bp vs bs ps) (hsb : wX.heap.size = b) (hs : a.eval s = vs j) (hx : a.eval xo = .slice (some ⟨b + 1, 0, none⟩) 1 1) (hj : j < 4) (HB : Below base w0 wX) (hbase : base ≤ wX.heap.size) (hl : (ps j).length ≤ 1000000)
  (h : ∀ A1 n1 c1 w1 W4 vs' bs' ps', w1.setCell ⟨bp, j, none⟩ (.slice A1 n1 c1) = W4 → upd4 ps j (ps j ++ [[x, y]]) = ps' → PS W4 base bp vs' bs' ps' → Below base w0 W4 → w1.cell? ⟨bp, j, none⟩ = some (vs j) → w1.frozen? ⟨bp, j, none⟩ = false → wpList P ops Q rest (a.put o.dst (.slice A1 n1 c1)) w1) :
  wpList P ops Q (o :: rest) a ((wX.alloc (.cells #[.int .i64 x, .int .i64 y] 2 (0, 0))).alloc (.cells #[.slice (some ⟨b, 0, none⟩) 2 2] 34 (0, 0))) := by
 subst hsb
 have hbl : Below wX.heap.size wX (wX.alloc (.cells #[.int .i64 x, .int .i64 y] 2 (0, 0))) := below_alloc (Below.refl _ _) _
 have hjR := Kd.R_below (HP.2.2.1 j hj).1 hbl
 have hsz : (wX.alloc (.cells #[.int .i64 x, .int .i64 y] 2 (0, 0))).heap.size = wX.heap.size + 1 := Array.size_push _
 have hlen : ((bs j).map ov).length = (ps j).length := by rw [List.length_map, (HP.2.2.1 j hj).2.1]
 refine Kd.R_append kv (w0 := w0) base hgd s xo 22 34 (.slice none 0 0) 24 ho ht hinfo rfl (by decide) (by decide) (vs j) ((bs j).map ov) (ov wX.heap.size) [sv wX.heap.size] (fun _ => True) (fun _ => False) hs (by rw [hsz]; exact hx) rfl (fun _ hk => hk.elim) (fun _ _ => trivial) hjR (HB.alloc hbase _) (by rw [hsz]; omega) (by rw [hlen]; omega) ?_
 intro v1 w1 hr hb hg hat
 have hbp1 := blk_grown (blk_below HP.2.1 hbl) hg (R_ty_ne hjR (blk_below HP.2.1 hbl) (by decide))
 obtain ⟨vs', bs', h4⟩ := PS.step HP hj hbase hr hg hat
 obtain ⟨A1, c1, e1⟩ := Kd.R_slice hr
 subst e1
 refine h _ _ _ w1 _ vs' bs' _ rfl rfl h4 (Below.setCell hb HP.1 _) ?_ (blk_frozen hbp1 j)
 rw [blk_cell hbp1 j]
 match j, hj with
 | 0, _ => rfl
 | 1, _ => rfl
 | 2, _ => rfl
 | 3, _ => rfl
theorem Hilb.start {w : World} {base b : Nat} (hsb : w.heap.size = b) (hbase : base ≤ b) (x y : Int) : Hilb ((w.alloc (.cells #[.int .i64 x, .int .i64 y] 2 (0, 0))).alloc (.cells #[.slice (some ⟨b, 0, none⟩) 2 2] 34 (0, 0))) base (.slice (some ⟨b + 1, 0, none⟩) 1 1) [b] [[x, y]] := by
 subst hsb
 have hsz : (w.alloc (.cells #[.int .i64 x, .int .i64 y] 2 (0, 0))).heap.size = w.heap.size + 1 := Array.size_push _
 refine ⟨?_, ⟨rfl, fun i b hb => ?_⟩, by simp⟩
 ·have h2 := World.ownsRow_lit (base := base) (e := 34) (size := 1) (w.alloc (.cells #[.int .i64 x, .int .i64 y] 2 (0, 0))) #[sv w.heap.size] 1 (by omega) (by decide) rfl
  rw [hsz] at h2
  have h3 : World.ownsRow ((w.alloc (.cells #[.int .i64 x, .int .i64 y] 2 (0, 0))).alloc (.cells #[.slice (some ⟨w.heap.size, 0, none⟩) 2 2] 34 (0, 0))) base 34 1 (.slice (some ⟨w.heap.size + 1, 0, none⟩) 1 1) ([ov w.heap.size] : List OC).length (([ov w.heap.size] : List OC).map (fun v : OC => v.1)) := h2
  exact Kd.R_of_own h3 (fun _ _ => trivial)
 ·have hi : i = 0 := by
   cases i with
   | zero => rfl
   | succ n => simp at hb
  subst hi
  have hb' : w.heap.size = b := by simpa using hb
  subst hb'
  exact ⟨x, y, hbase, blk_alloc (blk_new _ _) _, rfl⟩
theorem upd4_len {ps ps' : Nat → List (List Int)} {j N : Nat} {a : List (List Int)} (h : ∀ q, j ≤ q → (ps q).length ≤ N) (e : upd4 ps j a = ps') : ∀ q, j + 1 ≤ q → (ps' q).length ≤ N := by
 intro q hq
 rw [← e]
 simp only [upd4]
 rw [if_neg (by omega)]
 exact h q (by omega)
def hpF (h : Int) (q : Nat) (p : List Int) : List Int :=
 if q = 0 then [rd p 1, rd p 0] else if q = 1 then [rd p 0, wrap64 (rd p 1 + h)] else if q = 2 then [wrap64 (rd p 0 + h), wrap64 (rd p 1 + h)] else [wrap64 (wrap64 (wrap64 (2 * h) - 1) - rd p 1), wrap64 (wrap64 (h - 1) - rd p 0)]
def hpS (h : Int) (xs : List (List Int)) : List (List Int) := xs.map (hpF h 0) ++ xs.map (hpF h 1) ++ xs.map (hpF h 2) ++ xs.map (hpF h 3)
def hil : Nat → List (List Int) × Int
 | 0 => ([[0, 0]], 1)
 | n + 1 => (hpS (hil n).2 (hil n).1, wrap64 (2 * (hil n).2))
theorem hpS_len (h : Int) (xs : List (List Int)) : (hpS h xs).length = 4 * xs.length := by
 simp only [hpS, List.length_append, List.length_map]
 omega
theorem hil_len : ∀ n, n ≤ 3 → (hil n).1.length ≤ 64
 | 0, _ => by simp [hil]
 | 1, _ => by simp [hil, hpS_len]
 | 2, _ => by simp [hil, hpS_len]
 | 3, _ => by simp [hil, hpS_len]
theorem hp_step {h x y : Int} {xs : List (List Int)} {j : Nat} (hj : j < xs.length) (hxy : xs[j] = [x, y]) {pp0 pp1 pp2 pp3 pp4 : Nat → List (List Int)} (H0 : (fun q => (xs.take j).map (hpF h q)) = pp0) (H1 : upd4 pp0 0 (pp0 0 ++ [[y, x]]) = pp1) (H2 : upd4 pp1 1 (pp1 1 ++ [[x, wrap64 (y + h)]]) = pp2)
  (H3 : upd4 pp2 2 (pp2 2 ++ [[wrap64 (x + h), wrap64 (y + h)]]) = pp3) (H4 : upd4 pp3 3 (pp3 3 ++ [[wrap64 (wrap64 (wrap64 (2 * h) - 1) - y), wrap64 (wrap64 (h - 1) - x)]]) = pp4) : ∀ q, q < 4 → pp4 q = (xs.take (j + 1)).map (hpF h q) := by
 subst H4 H3 H2 H1 H0
 intro q hq
 rw [List.take_succ_eq_append_getElem hj, List.map_append, List.map_singleton, hxy]
 match q, hq with
 | 0, _ => simp [upd4, hpF, rd]
 | 1, _ => simp [upd4, hpF, rd]
 | 2, _ => simp [upd4, hpF, rd]
 | 3, _ => simp [upd4, hpF, rd]
theorem rws_concat4 (A0 : Option Addr) (c0 : Nat) (a b c d : List OC) (w : World) (hr : Kd.C (Kd.slice 34 kv) w A0 4 [a, b, c, d]) (hn : [a, b, c, d].flatten.length ≤ 1000000000) :
  Calls Try.prog 66 #[.slice A0 4 c0] w fun e w' => ∃ v : Value, e = .returned v ∧ Kd.R kv 34 w' w.heap.size (fun _ => True) v [a, b, c, d].flatten ∧ Below w.heap.size w w' := rws_concat A0 c0 [a, b, c, d] w hr hn
theorem PS.flat {w : World} {base bp n : Nat} {vs : Nat → Value} {bs : Nat → List Nat} {ps : Nat → List (List Int)} (h : PS w base bp vs bs ps) (hn : ∀ q, q < 4 → (ps q).length ≤ n) (hn2 : n ≤ 1000000 := by decide) : [(bs 0).map ov, (bs 1).map ov, (bs 2).map ov, (bs 3).map ov].flatten.length ≤ 1000000000 := by
 have l := fun q hq => (h.2.2.1 q hq).2.1
 have := hn 0 (by omega)
 have := hn 1 (by omega)
 have := hn 2 (by omega)
 have := hn 3 (by omega)
 have := l 0 (by omega)
 have := l 1 (by omega)
 have := l 2 (by omega)
 have := l 3 (by omega)
 simp only [List.flatten_cons, List.flatten_nil, List.length_append, List.length_map, List.length_nil]
 omega
theorem hil_step {w : World} {base : Nat} {v : Value} {bs : List Nat} {m : Nat} {xs : List (List Int)} {h : Int} (h1 : (hil m).1 = xs) (h2 : (hil m).2 = h) (hx : Hilb w base v bs (xs.map (hpF h 0) ++ xs.map (hpF h 1) ++ xs.map (hpF h 2) ++ xs.map (hpF h 3))) : Hilb w base v bs (hil (m + 1)).1 := by
 subst h1 h2
 exact hx
def impl_HilbertPath.f (a0 : Int) : Option (List (List Int) × Bool) := (impl_within.f a0 0 3).bind fun b => if (!b) = true then some ([], false) else some ((hil a0.toNat).1, true)
theorem within_is {a lo hi : Int} (h : impl_within.f a lo hi = some true) : lo ≤ a ∧ a ≤ hi := by
 unfold impl_within.f at h
 split at h
 ·exact ⟨by omega, by simpa using h⟩
 ·simp at h
set_option maxHeartbeats 8000000 in
set_option maxRecDepth 100000 in
theorem impl_HilbertPath.calls (a0 : Int) (r1 : List (List Int)) (r2 : Bool) (w : World) (h : impl_HilbertPath.f a0 = some (r1, r2)) :
  Calls Try.prog 21 #[.int .i64 a0] w fun e w' => ∃ v0_ : Value, e = .returned (.tuple #[v0_, .bool r2]) ∧ Kd.S (Kd.slice 2 (Kd.int .i64)) 34 w' w.heap.size (fun _ => True) v0_ r1 ∧ Below w.heap.size w w' := by
 have HB := Aside0.mk (Below.refl w.heap.size w)
 have H := h
 clear h
 unfold impl_HilbertPath.f at H
 replace H := Option.bind_eq_some_iff.mp H
 obtain ⟨b, A1, H⟩ := H
 have A10 := Aside0.mk A1
 by_cases c1 : (!b) = true
 ·clear A1
  rw [if_pos c1] at H
  have H2 := Option.some.inj H
  injection H2 with h1 h2
  subst h1
  subst h2
  clear H
  go_enter Try.func21, Try.ntmps21
  go_wp2_with (go_at_call 60; refine (impl_within.calls _ _ _ _ _ A10.out).mono ?_; rintro e w' ⟨rfl, ⟨nd, rfl⟩⟩)
  go_ret2
  exact ⟨_, rfl, Kd.S_nil _ _ _ _ _, pw_below_drewN HB.out _⟩
 ·rw [if_neg c1] at H
  have hb1 : b = true := by simpa using c1
  subst hb1
  obtain ⟨hlo, hhi⟩ := within_is A1
  obtain ⟨n, rfl⟩ := Int.eq_ofNat_of_zero_le hlo
  have hn3 : n ≤ 3 := by omega
  have H2 := Option.some.inj H
  injection H2 with h1 h2
  have R1 := Aside0.mk h1
  subst h2
  have HCI := Aside0.mk (show (Try.prog.info? 34).map (fun i => (i.zero, i.size, i.bytes)) = some (some (.slice none 0 0), 1, 24) from by kernel_rfl)
  have HN3 := Aside0.mk hn3
  clear A1 H c1 hlo hhi hn3 h1
  go_enter Try.func21, Try.ntmps21
  go_wp2_with (go_at_call 60; refine (impl_within.calls _ _ _ _ _ A10.out).mono ?_; rintro e w' ⟨rfl, ⟨nd, rfl⟩⟩)
  have HH := Aside0.mk (Hilb.start (w := w.drewN nd) (base := w.heap.size) (b := w.heap.size) (by simp) (Nat.le_refl _) 0 0)
  have HB1 := Aside0.mk (below_alloc (below_alloc (pw_below_drewN HB.out nd) (.cells #[.int .i64 0, .int .i64 0] 2 (0, 0))) (.cells #[.slice (some ⟨w.heap.size, 0, none⟩) 2 2] 34 (0, 0)))
  clear HB A10
  go_loopg [4, 5, 17] n (fun gg v4 v5 v17 w' => ∃ m bs, m ≤ n ∧ n - m ≤ gg ∧ v17 = .int .i64 (m : Nat) ∧ v5 = .int .i64 (hil m).2 ∧ Aside0 (Hilb w' w.heap.size v4 bs (hil m).1) ∧ Aside0 (Below w.heap.size w w'))
  case atStart => exact ⟨0, [w.heap.size], Nat.zero_le _, by omega, rfl, rfl, HH, HB1⟩
  case round =>
   clear HH HB1
   obtain ⟨m, bs, hm, hg, rfl, rfl, HH, HB⟩ := hrel
   by_cases hlt : m < n
   ·have hltz : decide ((m : Int) < (n : Int)) = true := decide_eq_true (by omega)
    have hl64 := hil_len m (by have := HN3.out; omega)
    obtain ⟨xs, hxs⟩ : ∃ xs, (hil m).1 = xs := ⟨_, rfl⟩
    obtain ⟨h, hh⟩ : ∃ h, (hil m).2 = h := ⟨_, rfl⟩
    rw [hxs] at HH hl64
    rw [hh]
    have HXS := Aside0.mk hxs
    have HHS := Aside0.mk hh
    have HL := Aside0.mk hl64
    clear hxs hh hl64
    have hbl : bs.length = xs.length := HH.out.2.1.1
    obtain ⟨A, c, e⟩ := Kd.R_slice HH.out.1
    rw [List.length_map, hbl] at e
    subst e
    have hcap := (Kd.R_reads' HH.out.1).2.1
    clear hbl
    obtain ⟨wo, rfl⟩ : ∃ wo : World, wo = wr := ⟨_, rfl⟩
    have hl9 : (xs.length : Int) ≤ 64 := by have := HL.out; omega
    go_wp2
    have hst := Aside0.mk (PS.start (w := wo.alloc (.cells #[.slice none 0 0, .slice none 0 0, .slice none 0 0, .slice none 0 0] 82 (0, 0))) (base := wo.heap.size) (bp := wo.heap.size) (Nat.le_refl _) (blk_new _ _))
    have hB0 := Aside0.mk (below_alloc (Below.refl wo.heap.size wo) (.cells #[.slice none 0 0, .slice none 0 0, .slice none 0 0, .slice none 0 0] 82 (0, 0)))
    go_loopg [22] xs.length (fun gg v22 w' => ∃ j vs bb, j ≤ xs.length ∧ xs.length - j ≤ gg ∧ v22 = .int .i64 (j : Nat) ∧ Aside0 (PS w' wo.heap.size wo.heap.size vs bb (fun q => (xs.take j).map (hpF h q))) ∧ Aside0 (Below wo.heap.size wo w'))
    case atStart => exact ⟨0, _, _, Nat.zero_le _, by omega, rfl, ⟨hst.out.congr (fun q _ => by simp)⟩, hB0⟩
    case round =>
     clear hst hB0
     obtain ⟨j, vs0, bb0, hj, hg1, rfl, HP0, HB0⟩ := hrel
     by_cases hlt1 : j < xs.length
     ·have hltz1 : decide ((j : Int) < (xs.length : Int)) = true := decide_eq_true (by omega)
      obtain ⟨g, b, x, y, rfl, _, hc1, hc2, hc3, hxy⟩ := Hilb.at_ HH.out j hlt1
      replace hc1 := (HB0.out.cell (World.block_lt_of_cell? wo _ hc1)).trans hc1
      replace hc2 := (HB0.out.cell (World.block_lt_of_cell? wo _ hc2)).trans hc2
      replace hc3 := (HB0.out.cell (World.block_lt_of_cell? wo _ hc3)).trans hc3
      have HXY := Aside0.mk hxy
      clear hxy
      have hlt2 : (j : Int) < (xs.length : Int) := by omega
      obtain ⟨pp0, hpp⟩ : ∃ pp_, (fun q => (xs.take j).map (hpF h q)) = pp_ := ⟨_, rfl⟩
      rw [hpp] at HP0
      have HU0 := Aside0.mk hpp
      have LP0 : Aside0 (∀ q, 0 ≤ q → (pp0 q).length ≤ 64) := ⟨fun q _ => by have := HL.out; rw [← hpp]; simp; omega⟩
      clear hpp
      have h01 : decide ((0 : Int) < 2) = true := rfl
      have h11 : decide ((1 : Int) < 2) = true := rfl
      obtain ⟨ce0, ce1, ce2, ce3, cef⟩ := HP0.out.cell
      go_wp2
      go_region
      clear hc1 hc2 hc3
      have HPd := HP0.out.below (below_drew1 (Below.refl _ _))
      have HBd := below_drew1 HB0.out
      clear HP0 HB0 ce0 ce1 ce2 ce3 cef
      obtain ⟨wd, hwd⟩ : ∃ wd_ : World, wr.drew = wd_ := ⟨_, rfl⟩
      rw [hwd] at HPd HBd ⊢
      clear hwd
      have HP0 := Aside0.mk HPd
      have HB0 := Aside0.mk HBd
      clear HPd HBd
      obtain ⟨ce0, ce1, ce2, ce3, cef⟩ := HP0.out.cell
      go_wp2_with (first | ((with_reducible refine gate_builtin (b := .append) (xs := #[.tmp 33, .tmp 37]) rfl ?_); at_builtin; refine PS.append (w0 := wo) (base := wo.heap.size) (bp := wo.heap.size) (j := 0) (vs := vs0) (bs := bb0) (ps := pp0) rfl (.tmp 33) (.tmp 37) rfl Try.underlying22 HCI.out ?aP ?aZ rfl rfl (by decide) ?aB ?aS ?aL ?_; (case aP => first | exact HP0.out | exact PS.below HP0.out (by repeat (first | (with_reducible exact Below.refl _ _) | apply below_alloc | apply pw_below_drewN | apply below_drew1))); (case aZ => first | rfl | (simp; done)); (case aB => exact (by repeat (first | (with_reducible exact Below.refl _ _) | exact HB0.out | apply below_alloc | apply pw_below_drewN | apply below_drew1))); (case aS => exact below_size (by repeat (first | (with_reducible exact Below.refl _ _) | exact HB0.out | apply below_alloc | apply pw_below_drewN | apply below_drew1))); (case aL => have := LP0.out 0 (Nat.le_refl _); omega); intro A1 n1 c1 w1 W4 vs1 bb1 pp1 hW4 hpp hP hB hc hf; obtain ⟨ce0, ce1, ce2, ce3, cef⟩ := hP.cell; have HP1 := Aside0.mk hP; have HB1 := Aside0.mk hB; have LP1 := Aside0.mk (upd4_len LP0.out hpp); have HU1 := Aside0.mk hpp; clear hP hB hpp) | ((with_reducible refine gate_builtin (b := .append) (xs := #[.tmp 41, .tmp 47]) rfl ?_); at_builtin; refine PS.append (w0 := wo) (base := wo.heap.size) (bp := wo.heap.size) (j := 1) (vs := vs1) (bs := bb1) (ps := pp1) rfl (.tmp 41) (.tmp 47) rfl Try.underlying22 HCI.out ?aP ?aZ rfl rfl (by decide) ?aB ?aS ?aL ?_; (case aP => first | exact HP1.out | exact PS.below HP1.out (by repeat (first | (with_reducible exact Below.refl _ _) | apply below_alloc | apply pw_below_drewN | apply below_drew1))); (case aZ => first | rfl | (simp; done)); (case aB => exact (by repeat (first | (with_reducible exact Below.refl _ _) | exact HB1.out | apply below_alloc | apply pw_below_drewN | apply below_drew1))); (case aS => exact below_size (by repeat (first | (with_reducible exact Below.refl _ _) | exact HB1.out | apply below_alloc | apply pw_below_drewN | apply below_drew1))); (case aL => have := LP1.out 1 (Nat.le_refl _); omega); intro A1 n1 c1 w1 W4 vs2 bb2 pp2 hW4 hpp hP hB hc hf; obtain ⟨ce0, ce1, ce2, ce3, cef⟩ := hP.cell; have HP2 := Aside0.mk hP; have HB2 := Aside0.mk hB; have LP2 := Aside0.mk (upd4_len LP1.out hpp); have HU2 := Aside0.mk hpp; clear hP hB hpp) | ((with_reducible refine gate_builtin (b := .append) (xs := #[.tmp 51, .tmp 59]) rfl ?_); at_builtin; refine PS.append (w0 := wo) (base := wo.heap.size) (bp := wo.heap.size) (j := 2) (vs := vs2) (bs := bb2) (ps := pp2) rfl (.tmp 51) (.tmp 59) rfl Try.underlying22 HCI.out ?aP ?aZ rfl rfl (by decide) ?aB ?aS ?aL ?_; (case aP => first | exact HP2.out | exact PS.below HP2.out (by repeat (first | (with_reducible exact Below.refl _ _) | apply below_alloc | apply pw_below_drewN | apply below_drew1))); (case aZ => first | rfl | (simp; done)); (case aB => exact (by repeat (first | (with_reducible exact Below.refl _ _) | exact HB2.out | apply below_alloc | apply pw_below_drewN | apply below_drew1))); (case aS => exact below_size (by repeat (first | (with_reducible exact Below.refl _ _) | exact HB2.out | apply below_alloc | apply pw_below_drewN | apply below_drew1))); (case aL => have := LP2.out 2 (Nat.le_refl _); omega); intro A1 n1 c1 w1 W4 vs3 bb3 pp3 hW4 hpp hP hB hc hf; obtain ⟨ce0, ce1, ce2, ce3, cef⟩ := hP.cell; have HP3 := Aside0.mk hP; have HB3 := Aside0.mk hB; have LP3 := Aside0.mk (upd4_len LP2.out hpp); have HU3 := Aside0.mk hpp; clear hP hB hpp) | ((with_reducible refine gate_builtin (b := .append) (xs := #[.tmp 63, .tmp 74]) rfl ?_); at_builtin; refine PS.append (w0 := wo) (base := wo.heap.size) (bp := wo.heap.size) (j := 3) (vs := vs3) (bs := bb3) (ps := pp3) rfl (.tmp 63) (.tmp 74) rfl Try.underlying22 HCI.out ?aP ?aZ rfl rfl (by decide) ?aB ?aS ?aL ?_; (case aP => first | exact HP3.out | exact PS.below HP3.out (by repeat (first | (with_reducible exact Below.refl _ _) | apply below_alloc | apply pw_below_drewN | apply below_drew1))); (case aZ => first | rfl | (simp; done)); (case aB => exact (by repeat (first | (with_reducible exact Below.refl _ _) | exact HB3.out | apply below_alloc | apply pw_below_drewN | apply below_drew1))); (case aS => exact below_size (by repeat (first | (with_reducible exact Below.refl _ _) | exact HB3.out | apply below_alloc | apply pw_below_drewN | apply below_drew1))); (case aL => have := LP3.out 3 (Nat.le_refl _); omega); intro A1 n1 c1 w1 W4 vs4 bb4 pp4 hW4 hpp hP hB hc hf; obtain ⟨ce0, ce1, ce2, ce3, cef⟩ := hP.cell; have HP4 := Aside0.mk hP; have HB4 := Aside0.mk hB; have LP4 := Aside0.mk (upd4_len LP3.out hpp); have HU4 := Aside0.mk hpp; clear hP hB hpp))
      go_roundg (xs.length - (j + 1))
      case measure => omega
      case rel => exact ⟨j + 1, vs4, bb4, by omega, by omega, by go_num, ⟨HP4.out.congr (hp_step hlt1 HXY.out HU0.out HU1.out HU2.out HU3.out HU4.out)⟩, HB4⟩
     ·have : j = xs.length := by omega
      subst this
      have hltz1 : decide ((xs.length : Int) < (xs.length : Int)) = false := decide_eq_false (by omega)
      rw [List.take_length] at HP0
      have hfl := Aside0.mk (PS.flat HP0.out (n := 64) (fun q _ => by have := HL.out; simpa using this))
      clear hl9 hj hg1 hlt1
      go_wp2_with (go_at_call 66; refine (rws_concat4 _ 4 _ _ _ _ _ HP0.out.C hfl.out).mono ?_; rintro e w2 ⟨v2, rfl, hr2, hb2⟩)
      have HX := Aside0.mk (HP0.out.hilb hb2 (below_size HB0.out) hr2)
      have HB2 := Aside0.mk (below_then HB0.out (below_size HB0.out) hb2)
      clear hr2 hb2
      go_roundg (n - (m + 1))
      case measure => omega
      case rel => exact ⟨m + 1, _, by omega, by omega, by (have := HN3.out; show Value.int .i64 (wrap64 ((m : Int) + 1)) = Value.int .i64 ((m + 1 : Nat) : Int); rw [show wrap64 ((m : Int) + 1) = ((m + 1 : Nat) : Int) from by unfold wrap64; omega]), by rw [← HHS.out]; rfl, ⟨(hil_step HXS.out HHS.out HX.out).lower (below_size HB.out)⟩, ⟨below_step HB.out HB2.out⟩⟩
   ·have : m = n := by omega
    subst this
    go_wp2
    go_ret2
    exact ⟨_, rfl, by rw [← R1.out]; exact HH.out.S, HB.out⟩
end Go.Proofs.Ytckonklpdepgoaa.Q
namespace Go.Proofs.Ytckonklpdepgoaa.Q
open Go.RowKit Go.Proofs.YtckonklpdepgoaaW.PrintWords Go.Proofs.YtckonklpdepgoaaW.PrintLast Go.Proofs.YtckonklpdepgoaaW.PrintMore
attribute [local go_sem] max2_int min2_int max_two min_two max_three min_three max_four min_four   -- for this text's walks alone
set_option linter.unusedVariables false
set_option linter.unusedSimpArgs false
def laws_b10Long.f (l0 : List Int) (l1 : List Int) : Option (Bool) := if (l0.length : Int) > 1048576 then (some true) else (some (decide ((l1.length : Int) > 1048576)))
set_option maxHeartbeats 8000000 in
set_option maxRecDepth 100000 in
theorem laws_b10Long.calls (A0 : Option Addr) (c0 : Nat) (l0 : List Int) (A1 : Option Addr) (c1 : Nat) (l1 : List Int) (r : Bool) (w : World) (hr0 : Kd.C (Kd.int .u8) w A0 l0.length l0) (hc0 : l0.length ≤ c0) (hr1 : Kd.C (Kd.int .u8) w A1 l1.length l1) (hc1 : l1.length ≤ c1) (h : laws_b10Long.f l0 l1 = some r) :
  Calls Try.prog 22 #[.slice A0 l0.length c0, .slice A1 l1.length c1] w fun e w' => e = .returned (.bool r) ∧ Drawn0 w w' := by
 have HR0 := Aside0.mk hr0
 have HC0 := Aside0.mk hc0
 clear hr0 hc0
 have HR1 := Aside0.mk hr1
 have HC1 := Aside0.mk hc1
 clear hr1 hc1
 have H : (if (l0.length : Int) > 1048576 then (some true) else (some (decide ((l1.length : Int) > 1048576)))) = some r := h
 clear h
 by_cases c3 : (l0.length : Int) > 1048576
 ·rw [if_pos c3] at H
  have c3b0 : decide (1048576 < (l0.length : Int)) = true := decide_eq_true c3
  have c3b1 : decide (1048576 < l0.length) = true := decide_eq_true (by omega)
  clear c3
  obtain rfl := Option.some.inj H
  go_enter Try.func22, Try.ntmps22
  go_wp2
  go_ret
  exact ⟨by first | rfl | (simp; done) | (simp [*]; done), by repeat (first | exact Drawn0.refl _ | apply Drawn0.step)⟩
 ·rw [if_neg c3] at H
  have c3b0 : decide (1048576 < (l0.length : Int)) = false := decide_eq_false c3
  have c3b1 : decide (1048576 < l0.length) = false := decide_eq_false (by omega)
  clear c3
  obtain rfl := Option.some.inj H
  go_enter Try.func22, Try.ntmps22
  go_wp2
  go_ret
  exact ⟨by first | rfl | (simp; done) | (simp [*]; done), by repeat (first | exact Drawn0.refl _ | apply Drawn0.step)⟩
def laws_b10At.f (l0 : List Int) (a1 : Int) (a2 : Int) : Option (Int) := if a2 ≤ 1 then (some 0) else (if a1 < (l0.length : Int) then (if 0 ≤ a1 then (if a2 = 0 then (none) else (some (Int.tmod (wrap64 (rd l0 a1)) a2))) else (none)) else (if a2 = 0 then (none) else (some (Int.tmod (wrap64 ((wrap64 (a1 * 37)) + 11)) a2))))
set_option maxHeartbeats 8000000 in
set_option maxRecDepth 100000 in
theorem laws_b10At.calls (A0 : Option Addr) (c0 : Nat) (l0 : List Int) (a1 : Int) (a2 : Int) (r : Int) (w : World) (hr0 : Kd.C (Kd.int .u8) w A0 l0.length l0) (hc0 : l0.length ≤ c0) (h : laws_b10At.f l0 a1 a2 = some r) :
  Calls Try.prog 23 #[.slice A0 l0.length c0, .int .i64 a1, .int .i64 a2] w fun e w' => e = .returned (.int .i64 r) ∧ Drawn0 w w' := by
 have HR0 := Aside0.mk hr0
 have HC0 := Aside0.mk hc0
 clear hr0 hc0
 have H : (if a2 ≤ 1 then (some 0) else (if a1 < (l0.length : Int) then (if 0 ≤ a1 then (if a2 = 0 then (none) else (some (Int.tmod (wrap64 (rd l0 a1)) a2))) else (none)) else (if a2 = 0 then (none) else (some (Int.tmod (wrap64 ((wrap64 (a1 * 37)) + 11)) a2))))) = some r := h
 clear h
 by_cases c4 : a2 ≤ 1
 ·rw [if_pos c4] at H
  have c4b0 : decide (a2 ≤ 1) = true := decide_eq_true c4
  clear c4
  obtain rfl := Option.some.inj H
  go_enter Try.func23, Try.ntmps23
  go_wp2
  go_ret
  exact ⟨by first | rfl | (simp; done) | (simp [*]; done), by repeat (first | exact Drawn0.refl _ | apply Drawn0.step)⟩
 ·rw [if_neg c4] at H
  have c4b0 : decide (a2 ≤ 1) = false := decide_eq_false c4
  clear c4
  by_cases c5 : a1 < (l0.length : Int)
  ·rw [if_pos c5] at H
   have c5b0 : decide (a1 < (l0.length : Int)) = true := decide_eq_true c5
   clear c5
   by_cases c6 : 0 ≤ a1
   ·rw [if_pos c6] at H
    have c6b0 : decide (0 ≤ a1) = true := decide_eq_true c6
    clear c6
    by_cases c7 : a2 = 0
    ·rw [if_pos c7] at H
     exact absurd H (by simp)
    ·rw [if_neg c7] at H
     have c7b0 : (a2 == 0) = false := beq_eq_false_iff_ne.mpr c7
     have c7b1 : (a2 != 0) = true := bne_iff_ne.mpr c7
     obtain rfl := Option.some.inj H
     have p203 : 0 ≤ (a1 : Int) := of_decide_eq_true (by first | (with_reducible assumption) | assumption)
     have q203 : a1 < (l0.length : Int) := of_decide_eq_true (by first | (with_reducible assumption) | assumption)
     obtain ⟨ad203, e203, hx203_0⟩ := Kd.at_int HR0.out a1 p203 q203
     cases e203
     replace p203 := eq_true p203
     replace q203 := eq_true q203
     go_enter Try.func23, Try.ntmps23
     go_wp2
     go_ret
     exact ⟨by first | rfl | (simp; done) | (simp [*]; done), by repeat (first | exact Drawn0.refl _ | apply Drawn0.step)⟩
   ·rw [if_neg c6] at H
    exact absurd H (by simp)
  ·rw [if_neg c5] at H
   have c5b0 : decide (a1 < (l0.length : Int)) = false := decide_eq_false c5
   clear c5
   by_cases c8 : a2 = 0
   ·rw [if_pos c8] at H
    exact absurd H (by simp)
   ·rw [if_neg c8] at H
    have c8b0 : (a2 == 0) = false := beq_eq_false_iff_ne.mpr c8
    have c8b1 : (a2 != 0) = true := bne_iff_ne.mpr c8
    obtain rfl := Option.some.inj H
    go_enter Try.func23, Try.ntmps23
    go_wp2
    go_ret
    exact ⟨by first | rfl | (simp; done) | (simp [*]; done), by repeat (first | exact Drawn0.refl _ | apply Drawn0.step)⟩
def impl_size_int64_68.f (l0 : List (List Int)) : Option (Int) := some (l0.length : Int)
set_option maxHeartbeats 8000000 in
set_option maxRecDepth 100000 in
theorem impl_size_int64_68.calls (A0 : Option Addr) (c0 : Nat) (l0 : List (List Int)) (r : Int) (w : World) (hr0 : Kd.C (Kd.slice 2 (Kd.int .i64)) w A0 l0.length l0) (hc0 : l0.length ≤ c0) (h : impl_size_int64_68.f l0 = some r) :
  Calls Try.prog 68 #[.slice A0 l0.length c0] w fun e w' => e = .returned (.int .i64 r) ∧ Drawn0 w w' := by
 have HR0 := Aside0.mk hr0
 have HC0 := Aside0.mk hc0
 clear hr0 hc0
 have H : (some (l0.length : Int)) = some r := h
 clear h
 obtain rfl := Option.some.inj H
 go_enter Try.func68, Try.ntmps68
 go_wp2
 go_ret
 exact ⟨by first | rfl | (simp; done) | (simp [*]; done), by repeat (first | exact Drawn0.refl _ | apply Drawn0.step)⟩
def impl_size_int64_69.f (l0 : List Int) : Option (Int) := some (l0.length : Int)
set_option maxHeartbeats 8000000 in
set_option maxRecDepth 100000 in
theorem impl_size_int64_69.calls (A0 : Option Addr) (c0 : Nat) (l0 : List Int) (r : Int) (w : World) (hr0 : Kd.C (Kd.int .i64) w A0 l0.length l0) (hc0 : l0.length ≤ c0) (h : impl_size_int64_69.f l0 = some r) :
  Calls Try.prog 69 #[.slice A0 l0.length c0] w fun e w' => e = .returned (.int .i64 r) ∧ Drawn0 w w' := by
 have HR0 := Aside0.mk hr0
 have HC0 := Aside0.mk hc0
 clear hr0 hc0
 have H : (some (l0.length : Int)) = some r := h
 clear h
 obtain rfl := Option.some.inj H
 go_enter Try.func69, Try.ntmps69
 go_wp2
 go_ret
 exact ⟨by first | rfl | (simp; done) | (simp [*]; done), by repeat (first | exact Drawn0.refl _ | apply Drawn0.step)⟩
end Go.Proofs.Ytckonklpdepgoaa.Q
namespace Go.Proofs.Ytckonklpdepgoaa.Q
open Go.RowKit Go.Proofs.YtckonklpdepgoaaW.PrintWords Go.Proofs.YtckonklpdepgoaaW.PrintLast Go.Proofs.YtckonklpdepgoaaW.PrintMore
attribute [local go_sem] max2_int min2_int max_two min_two max_three min_three max_four min_four   -- for this text's walks alone
set_option linter.unusedVariables false
set_option linter.unusedSimpArgs false
def impl_noughts.l0 : Nat → Int → List (List Int) → Int → Int → Option ((List (List Int)))
 | 0, _, _, _, _ => none
 | k + 1, x1, x5, x10, x11 => if x11 < x10 then (if 0 ≤ x1 then (if (x1 : Int).toNat ≤ 35184372088832 then (if 0 ≤ x11 then (if x11 < (x5.length : Int) then (impl_noughts.l0 k x1 (x5.set (x11 : Int).toNat (List.replicate (x1 : Int).toNat 0)) x10 (wrap64 (x11 + 1))) else (none)) else (none)) else (none)) else (none)) else (some x5)
def impl_noughts.f (k : Nat) (a0 : Int) (a1 : Int) : Option ((List (List Int))) := if 0 ≤ a0 then (if (a0 : Int).toNat ≤ 11728124029610 then ((some (List.replicate (a0 : Int).toNat [] : List (List Int))).bind fun y115 => (impl_noughts.l0 k a1 y115 (y115.length : Int) 0)) else (none)) else (none)
theorem impl_noughts.mono_l : ∀ k, (∀ y0 y1 y2 y3, LeO (impl_noughts.l0 k y0 y1 y2 y3) (impl_noughts.l0 (k + 1) y0 y1 y2 y3))
 | 0 => fun _ _ _ _ r h => by simp [impl_noughts.l0] at h
 | k + 1 => by
  have ih0 := impl_noughts.mono_l k
  ·intro y0 y1 y2 y3
   unfold impl_noughts.l0
   repeat' first
   | (with_reducible exact ih0 _ _ _ _)
   | (with_reducible exact LeO.refl _)
   | (with_reducible exact LeO.none _)
   | (with_reducible refine LeO.ite ?_ ?_)
   | (with_reducible refine LeO.bind ?_ (fun _ => ?_))
   | exact ih0 _ _ _ _
   | exact LeO.none _
   | refine LeO.ite ?_ ?_
   | refine LeO.bind ?_ (fun _ => ?_)
theorem impl_noughts.mono : ∀ a0 a1 k, LeO (impl_noughts.f k a0 a1) (impl_noughts.f (k + 1) a0 a1) := by
 intro a0 a1 k
 have ih0 := impl_noughts.mono_l k
 unfold impl_noughts.f
 repeat' first
   | (with_reducible exact ih0 _ _ _ _)
   | (with_reducible exact LeO.refl _)
   | (with_reducible exact LeO.none _)
   | (with_reducible refine LeO.ite ?_ ?_)
   | (with_reducible refine LeO.bind ?_ (fun _ => ?_))
   | exact ih0 _ _ _ _
   | exact LeO.none _
   | refine LeO.ite ?_ ?_
   | refine LeO.bind ?_ (fun _ => ?_)
set_option maxHeartbeats 8000000 in
set_option maxRecDepth 100000 in
theorem impl_noughts.calls (k : Nat) (a0 : Int) (a1 : Int) (r : List (List Int)) (w : World) (h : impl_noughts.f k a0 a1 = some r) :
  Calls Try.prog 61 #[.int .i64 a0, .int .i64 a1] w fun e w' => ∃ v0_ : Value, e = .returned (v0_) ∧ Kd.S (Kd.slice 2 (Kd.int .i64)) 34 w' w.heap.size (fun _ => True) v0_ r ∧ Below w.heap.size w w' := by
 have HB := Aside0.mk (Below.refl w.heap.size w)
 have H : (if 0 ≤ a0 then (if (a0 : Int).toNat ≤ 11728124029610 then ((some (List.replicate (a0 : Int).toNat [] : List (List Int))).bind fun y115 => (impl_noughts.l0 k a1 y115 (y115.length : Int) 0)) else (none)) else (none)) = some r := h
 clear h
 by_cases c3 : 0 ≤ a0
 ·rw [if_pos c3] at H
  have c3b0 := eq_true c3
  have c3b1 : decide (0 ≤ a0) = true := decide_eq_true c3
  clear c3
  by_cases c4 : (a0 : Int).toNat ≤ 11728124029610
  ·rw [if_pos c4] at H
   have c4b0 := eq_true c4
   have c4b1 : decide ((a0 : Int).toNat ≤ 11728124029610) = true := decide_eq_true c4
   clear c4
   obtain ⟨y115, hy115⟩ : ∃ y_ : List (List Int), y_ = (List.replicate (a0 : Int).toNat []) := ⟨_, rfl⟩
   replace H : (impl_noughts.l0 k a1 y115 (y115.length : Int) 0) = some r := by first | (rw [hy115]; with_reducible exact H) | (have H2_ := (Option.bind_some _ _).symm.trans H; rw [hy115]; with_reducible exact H2_) | (have H2_ := (Option.bind_some _ _).symm.trans H; with_reducible exact H2_) | with_reducible exact H | (rw [hy115]; exact H) | exact H
   have Ny115 := Aside0.mk hy115
   clear hy115
   have H' := Aside0.mk H
   clear H
   go_enter Try.func61, Try.ntmps61
   go_wp2_with (first | ((with_reducible refine gate_dst (N := 8) rfl ?_); refine Kd.S_make (Kd.slice 2 (Kd.int .i64)) _ 34 rfl (N := 8) rfl 22 _ _ rfl a0 rfl rfl Try.underlying22 (.slice none 0 0) 24 info34 rfl (by decide) (by omega) [] (ok := fun _ => True) (okp := fun _ => True) ⟨_, rfl, Kd.R_nil _ _ _ _ _⟩ (fun _ hk => hk) trivial (of_decide_eq_true (by first | (with_reducible assumption) | assumption)) (Nat.le_trans (Nat.mul_le_mul_right _ (of_decide_eq_true (by first | (with_reducible assumption) | assumption) : a0.toNat ≤ 11728124029610)) (by omega)) (Below.refl _ _) (Nat.le_refl _) ?_; intro v116 w5 ho6 hb hg_ hnew_; clear hg_ hnew_; (first | rw [← Ny115.out] at ho6 | (simp only [Int.reduceToNat] at ho6; rw [← Ny115.out] at ho6)); have n0_ := Aside0.mk (Kd.S_lower ho6 (below_size (by repeat (first | (with_reducible first | exact HB.out | apply below_alloc | apply pw_below_drewN | apply below_drew1) | exact HB.out)))); have n1_ := Aside0.mk (below_step (by repeat (first | (with_reducible first | exact HB.out | apply below_alloc | apply pw_below_drewN | apply below_drew1) | exact HB.out)) hb); clear HB; have HO117 := n0_; have HB := n1_; clear n0_ n1_; clear hb ho6; obtain ⟨Ao7, co7, eo7⟩ := Kd.S_slice HO117.out; subst eo7))
   go_loopg [11] k (fun kq v11 w' => ∃ (x5_1 : List (List Int)) (x11_1 : Int), v11 = .int .i64 x11_1 ∧ Aside0 (impl_noughts.l0 kq a1 x5_1 (y115.length : Int) x11_1 = some r) ∧ Aside0 (kq ≤ k) ∧ Aside0 (Kd.S (Kd.slice 2 (Kd.int .i64)) 34 w' w.heap.size (fun _ => True) (.slice Ao7 y115.length co7) x5_1) ∧ Aside0 (Below w.heap.size w w'))
   case atStart => exact ⟨(y115), (0), (by first | rfl | (simp; done) | (simp [*]; done)), H', ⟨Nat.le_refl _⟩, ⟨by (with_reducible repeat (first | apply Kd.S_alloc | apply Kd.S_drewN | apply Kd.S_drew)); exact HO117.out⟩, ⟨by repeat (first | (with_reducible first | exact HB.out | apply below_alloc | apply pw_below_drewN | apply below_drew1) | exact HB.out)⟩⟩
   case round =>
    clear H'
    try clear p2
    try clear c3
    try clear c3b0
    try clear c3b1
    try clear c4
    try clear c4b0
    try clear c4b1
    try clear c6
    obtain ⟨x5_1, x11_1, rfl, HA, HK1, HO_5, HB⟩ := hrel
    have hl5_1 := (Kd.S_reads' HO_5.out).1
    rw [hl5_1] at HO_5
    (try simp only [hl5_1])
    cases gk with
    | zero => exact absurd HA.out (by simp [impl_noughts.l0])
    | succ k1 =>
     have H := HA.out
     clear HA
     simp only [impl_noughts.l0] at H
     by_cases c8 : x11_1 < (y115.length : Int)
     ·rw [if_pos c8] at H
      have c8b0 : decide (x11_1 < (y115.length : Int)) = true := decide_eq_true c8
      clear c8
      by_cases c9 : 0 ≤ a1
      ·rw [if_pos c9] at H
       have c9b0 := eq_true c9
       have c9b1 : decide (0 ≤ a1) = true := decide_eq_true c9
       clear c9
       by_cases c10 : (a1 : Int).toNat ≤ 35184372088832
       ·rw [if_pos c10] at H
        have c10b0 := eq_true c10
        have c10b1 : decide ((a1 : Int).toNat ≤ 35184372088832) = true := decide_eq_true c10
        clear c10
        obtain ⟨y118, hy118⟩ : ∃ y_ : List Int, y_ = (List.replicate (a1 : Int).toNat 0) := ⟨_, rfl⟩
        replace H : (if 0 ≤ x11_1 then (if x11_1 < (x5_1.length : Int) then (impl_noughts.l0 k1 a1 (x5_1.set (x11_1 : Int).toNat y118) (y115.length : Int) (wrap64 (x11_1 + 1))) else (none)) else (none)) = some r := by first | (rw [hy118]; with_reducible exact H) | (have H2_ := (Option.bind_some _ _).symm.trans H; rw [hy118]; with_reducible exact H2_) | (have H2_ := (Option.bind_some _ _).symm.trans H; with_reducible exact H2_) | with_reducible exact H | (rw [hy118]; exact H) | exact H
        have Ny118 := Aside0.mk hy118
        clear hy118
        by_cases c11 : 0 ≤ x11_1
        ·rw [if_pos c11] at H
         have c11b0 : decide (0 ≤ x11_1) = true := decide_eq_true c11
         clear c11
         by_cases c12 : x11_1 < (x5_1.length : Int)
         ·rw [if_pos c12] at H
          have c12b0 : decide (x11_1 < (x5_1.length : Int)) = true := decide_eq_true c12
          clear c12
          obtain ⟨y121, hy121⟩ : ∃ y_ : List (List Int), y_ = (x5_1.set (x11_1 : Int).toNat y118) := ⟨_, rfl⟩
          replace H : (impl_noughts.l0 k1 a1 y121 (y115.length : Int) (wrap64 (x11_1 + 1))) = some r := by first | (rw [hy121]; with_reducible exact H) | (have H2_ := (Option.bind_some _ _).symm.trans H; rw [hy121]; with_reducible exact H2_) | (have H2_ := (Option.bind_some _ _).symm.trans H; with_reducible exact H2_) | with_reducible exact H | (rw [hy121]; exact H) | exact H
          have Ny121 := Aside0.mk hy121
          clear hy121
          have H' := Aside0.mk H
          clear H
          go_wp2_with (first | ((with_reducible refine gate_dst (N := 17) rfl ?_); refine Kd.R_make (Kd.int .i64) _ 2 rfl (N := 17) rfl 34 _ _ rfl a1 rfl rfl Try.underlying34 (.int .i64 0) 8 info2 rfl (by decide) (by omega) 0 (ok := fun _ => True) (okp := fun _ => True) rfl (fun _ hk => hk) trivial (of_decide_eq_true (by first | (with_reducible assumption) | assumption)) (Nat.le_trans (Nat.mul_le_mul_right _ (of_decide_eq_true (by first | (with_reducible assumption) | assumption) : a1.toNat ≤ 35184372088832)) (by omega)) (Below.refl _ _) (Nat.le_refl _) ?_; intro v119 w14 ho15 hb hg_ hnew_; clear hg_ hnew_; (first | rw [← Ny118.out] at ho15 | (simp only [Int.reduceToNat] at ho15; rw [← Ny118.out] at ho15)); have n0_ := Aside0.mk (Kd.S_elder' (by (with_reducible repeat (first | apply Kd.S_alloc | apply Kd.S_drewN | apply Kd.S_drew)); exact HO_5.out) (Kd.R_base ho15) hb); have n1_ := Aside0.mk (Kd.R_lower ho15 (below_size (by repeat (first | (with_reducible first | exact HB.out | apply below_alloc | apply pw_below_drewN | apply below_drew1) | exact HB.out)))); have n2_ := Aside0.mk (below_step (by repeat (first | (with_reducible first | exact HB.out | apply below_alloc | apply pw_below_drewN | apply below_drew1) | exact HB.out)) hb); clear HO_5; clear HB; have HO_5 := n0_; have HO120 := n1_; have HB := n2_; clear n0_ n1_ n2_; clear hb ho15; have p13 : 0 ≤ (x11_1 : Int) := of_decide_eq_true (by first | (with_reducible assumption) | assumption); have q13 : (x11_1 : Int) < ((x5_1.length : Int) : Int) := of_decide_eq_true (by first | (with_reducible assumption) | assumption); obtain ⟨go13, co13, eo13, gb13, gl13, cl13, HG13⟩ := Kd.S_form HO_5.out (by omega); (first | cases eo13 | (injection eo13 with ea_ en_ ec_; (first | subst ea_ | (injection ea_ with ea_; subst ea_)); subst ec_; clear en_)); have GB13 := Aside0.mk gb13; have GG13 := Aside0.mk HG13; clear gb13 gl13 HG13; obtain ⟨_, ce13, hcl13, hM13, hcc13, hfr13, _, _⟩ := Kd.S_elem HO_5.out [] (x11_1 : Int) p13 q13; obtain ⟨ve13_0, rfl, ge13_0⟩ := (id hM13); have hx13_0 := hcc13 0 _ rfl; have hf13_0 := hfr13 0; (try simp only [show ((Kd.slice 2 (Kd.int .i64))).sz = 1 from rfl, Nat.mul_one, Nat.add_zero] at hx13_0); (try simp only [show ((Kd.slice 2 (Kd.int .i64))).sz = 1 from rfl, Nat.mul_one, Nat.add_zero] at hf13_0); clear hcl13 hcc13 hfr13 hM13; replace p13 := eq_true p13; replace q13 := eq_true q13; obtain ⟨Ao18, co18, eo18⟩ := Kd.R_slice HO120.out; subst eo18; have n_ := Aside0.mk (Kd.S_mono (ok' := (fun k_ => some k_ ≠ (.slice Ao18 y118.length co18 : Value).ownBlock)) HO_5.out (fun k_ hk => hk.2)); clear HO_5; have HO_5 := n_; clear n_; have HX16 := Aside0.mk (show Kd.S (Kd.slice 2 (Kd.int .i64)) 34 w14 w.heap.size (fun k_ => ((fun _ => True)) k_ ∧ ¬ ((fun k_ => some k_ = (.slice Ao18 y118.length co18 : Value).ownBlock)) k_) (.slice (some ⟨go13, 0, none⟩) x5_1.length co7) x5_1 from (by (with_reducible repeat (first | apply Kd.S_alloc | apply Kd.S_drewN | apply Kd.S_drew)); exact Kd.S_mono HO_5.out (fun k_ hk => ⟨trivial, fun e_ => hk e_⟩))); obtain ⟨oki16, ce16, hcl16, hM16, hcc16, hfr16, hoki16, hH16⟩ := Kd.S_elem HX16.out [] (x11_1 : Int) (of_decide_eq_true (by first | (with_reducible assumption) | assumption)) (by have h_ : (x11_1 : Int) < ((x5_1.length : Int) : Int) := of_decide_eq_true (by first | (with_reducible assumption) | assumption); first | exact h_ | (have e_ := (Kd.S_reads' HO_5.out).1; omega) | simpa using h_); obtain ⟨ve16_0, rfl, ge16_0⟩ := (id hM16); have HP16 := Kd.S_seg hH16 (of_decide_eq_true (by first | (with_reducible assumption) | assumption)) (by have h_ : (x11_1 : Int) < ((x5_1.length : Int) : Int) := of_decide_eq_true (by first | (with_reducible assumption) | assumption); first | exact h_ | (have e_ := (Kd.S_reads' HO_5.out).1; omega) | simpa using h_) (seg := [.slice Ao18 y118.length co18]) (j := 0) (show 1 ≤ 1 from by decide) (x' := y118) (Kd.M_row (Kd.R_mono (Kd.R_tight rfl (Kd.R_mono (ok' := fun k_ => ((fun _ => True)) k_ ∧ k_ ≠ go13) (Kd.R_apart' (HO120.out) (Kd.S_typed HO_5.out) (by decide)) (fun k_ hk => ⟨trivial, fun e_ => (hk.2) (by rw [e_]; rfl)⟩))) (fun _ h_ => Or.inr (h_)))) (fun _ hk => hk) (fun k_ hk_ => ((Kd.R_mono (ok' := fun k_ => ((fun _ => True)) k_ ∧ k_ ≠ go13) (Kd.R_apart' (HO120.out) (Kd.S_typed HO_5.out) (by decide)) (fun k_ hk => ⟨trivial, fun e_ => (hk.2) (by rw [e_]; rfl)⟩))).1 k_ hk_.symm); have hx16_0 := hcc16 0 _ rfl; (try simp only [show ((Kd.slice 2 (Kd.int .i64))).sz = 1 from rfl, Nat.mul_one, Nat.add_zero] at hx16_0); have hf16_0 := hfr16 0; (try simp only [show ((Kd.slice 2 (Kd.int .i64))).sz = 1 from rfl, Nat.mul_one, Nat.add_zero] at hf16_0); clear hcl16 hcc16 hfr16 hM16 hoki16 hH16; (try simp only [show ((Kd.slice 2 (Kd.int .i64))).sz = 1 from rfl, Nat.mul_one, Nat.add_zero] at HP16)) | ((with_reducible refine gate_store (t := 34) (p := 18) rfl ?_); refine store_event (t := 34) (p := 18) (v := ?vo_w17) (w1 := (w14.setCell ⟨go13, (x11_1 : Int).toNat, none⟩ (.slice Ao18 y118.length co18))) ?hg ?ho ?hn ?hr ?_; (case ho => rfl); (case hg => rfl); (case hn => rfl); (case hr => first | (go_simp; done) | (go_simp; rfl)); intro w17 hw; have hg : w14.grownBy w17 (some go13) := (by rw [hw]; exact HP16.2); have hp_ : Kd.S (Kd.slice 2 (Kd.int .i64)) 34 w17 w.heap.size (fun _ => True) (.slice (some ⟨go13, 0, none⟩) x5_1.length co7) y121 := (by rw [hw, Ny121.out]; exact HP16.1); clear HP16; have n0_ := Aside0.mk (hp_); have n1_ := Aside0.mk ((by rw [hw]; exact below_set (HB.out) GB13.out : Below w.heap.size w w17)); clear HO_5; clear HB; clear HO120; have HO_5 := n0_; have HB := n1_; clear n0_ n1_; clear hg hw hp_))
          (try simp only [← hl5_1])
          go_roundg k1
          case measure => have := HK1.out; omega
          case rel => exact ⟨(y121), (wrap64 (x11_1 + 1)), (by first | rfl | (simp; done) | (simp [*]; done)), H', ⟨by have := HK1.out; omega⟩, ⟨by (try simp only [hl5_1]); (with_reducible repeat (first | apply Kd.S_alloc | apply Kd.S_drewN | apply Kd.S_drew)); exact HO_5.out⟩, ⟨by repeat (first | (with_reducible first | exact HB.out | apply below_alloc | apply pw_below_drewN | apply below_drew1) | exact HB.out)⟩⟩
         ·rw [if_neg c12] at H
          exact absurd H (by simp)
        ·rw [if_neg c11] at H
         exact absurd H (by simp)
       ·rw [if_neg c10] at H
        exact absurd H (by simp)
      ·rw [if_neg c9] at H
       exact absurd H (by simp)
     ·rw [if_neg c8] at H
      have c8b0 : decide (x11_1 < (y115.length : Int)) = false := decide_eq_false c8
      try (have c8b0h := c8b0; simp only [hl5_1] at c8b0h)
      clear c8
      obtain rfl := Option.some.inj H
      go_wp2
      go_ret
      exact ⟨_, by first | rfl | (simp [errW_none, errW_some] <;> rfl) | (simp [*, errW_none, errW_some] <;> rfl), by (with_reducible repeat (first | apply Kd.S_alloc | apply Kd.S_drewN | apply Kd.S_drew)); exact HO_5.out, by repeat (first | (with_reducible first | exact HB.out | apply below_alloc | apply pw_below_drewN | apply below_drew1) | exact HB.out)⟩
  ·rw [if_neg c4] at H
   exact absurd H (by simp)
 ·rw [if_neg c3] at H
  exact absurd H (by simp)
end Go.Proofs.Ytckonklpdepgoaa.Q
namespace Go.Proofs.Ytckonklpdepgoaa.Q
open Go.RowKit Go.Proofs.YtckonklpdepgoaaW.PrintWords Go.Proofs.YtckonklpdepgoaaW.PrintLast Go.Proofs.YtckonklpdepgoaaW.PrintMore
attribute [local go_sem] max2_int min2_int max_two min_two max_three min_three max_four min_four   -- for this text's walks alone
set_option linter.unusedVariables false
set_option linter.unusedSimpArgs false
def rws_idxf {α : Type} (p : α → Bool) (l : List α) : Int := match l.findIdx? p with | some i => (i : Int) | none => -1
theorem rws_idxf_hit {α : Type} {p : α → Bool} {l : List α} {k : Nat} (hk : k < l.length) (h : p l[k] = true) (hb : ∀ j (hj : j < l.length), j < k → p l[j] = false) : rws_idxf p l = k := by
 unfold rws_idxf
 have : l.findIdx? p = some k := List.findIdx?_eq_some_iff_getElem.2 ⟨hk, h, fun j hj => by simp [hb j (by omega) hj]⟩
 rw [this]
theorem rws_idxf_miss {α : Type} {p : α → Bool} {l : List α} (hb : ∀ j (hj : j < l.length), p l[j] = false) : rws_idxf p l = -1 := by
 unfold rws_idxf
 have : l.findIdx? p = none := List.findIdx?_eq_none_iff.2 (fun x hx => by obtain ⟨j, hj, rfl⟩ := List.getElem_of_mem hx; exact hb j hj)
 rw [this]
theorem rws_idxf_any {α : Type} (p : α → Bool) (l : List α) : decide (rws_idxf p l ≥ 0) = l.any p := by
 unfold rws_idxf
 cases h : l.findIdx? p with
 | none =>
  have := List.findIdx?_eq_none_iff.1 h
  simp only [show ¬ ((-1 : Int) ≥ 0) by omega, decide_false]
  symm
  rw [List.any_eq_false]
  intro x hx
  simp [this x hx]
 | some i =>
  have := List.findIdx?_eq_some_iff_getElem.1 h
  obtain ⟨hi, h1, _⟩ := this
  have h2 : l.any p = true := List.any_eq_true.2 ⟨l[i], List.getElem_mem hi, h1⟩
  rw [h2]
  simp
set_option maxHeartbeats 2000000 in
theorem rws_ixf (g : Nat) (lb : Array Value) (eg : ∀ args w, (callFunc g args).run Try.prog w = .ok (.enter g args) w) (p : List Int → Bool) (A0 : Option Addr) (c0 : Nat) (l0 : List (List Int)) (w : World) (hr : Kd.C (Kd.slice 2 (Kd.int .i64)) w A0 l0.length l0)
  (hp : ∀ (x : List Int) (A : Option Addr) (c : Nat) (w1 : World), Below w.heap.size w w1 → x.length ≤ c → Kd.C (Kd.int .i64) w1 A x.length x → Calls Try.prog g (#[.slice A x.length c] ++ lb) w1 fun e w' => e = .returned (.bool (p x)) ∧ Below w1.heap.size w1 w') :
  Calls Try.prog 113 #[.slice A0 l0.length c0, .func (.func g) #[] lb] w fun e w' => e = .returned (.int .i64 (rws_idxf p l0)) ∧ Below w.heap.size w w' := by
 have hbig : l0.length ≤ 9223372036854775807 := hr.2.1
 have HR := Aside0.mk hr
 clear hr
 go_enter Try.func113, Try.ntmps113
 go_wp2
 go_loopg [5, 8] l0.length (fun gg _ s8 wr => ∃ kk : Nat, kk ≤ l0.length ∧ l0.length - kk ≤ gg ∧ s8 = .int .i64 kk ∧ Aside0 (Below w.heap.size w wr) ∧ Aside0 (∀ j (hj : j < l0.length), j < kk → p l0[j] = false))
 case atStart => exact ⟨0, Nat.zero_le _, by omega, rfl, ⟨Below.refl _ _⟩, ⟨fun j hj h => absurd h (Nat.not_lt_zero _)⟩⟩
 case round =>
  obtain ⟨kk, hkk, hg, rfl, HB, A⟩ := hrel
  by_cases hlt : kk < l0.length
  ·have hltz : (kk : Int) < (l0.length : Int) := by omega
   have HC := Kd.C_below HR.out HB.out
   obtain ⟨ad, rfl, hcs⟩ := HC.2.2 (by omega)
   obtain ⟨cs, hl1, hk1, hc1⟩ := hcs kk _ (List.getElem?_eq_getElem hlt)
   obtain ⟨A1, c1, rfl, hlc, hcr⟩ := hk1
   have hcell := hc1 0 _ rfl
   simp only [show (Kd.slice 2 (Kd.int .i64)).sz = 1 from rfl, Nat.mul_one, Nat.add_zero] at hcell
   have HCR := Aside0.mk hcr
   have HLC := Aside0.mk hlc
   clear hcs hc1 hl1 hcr hlc HC
   generalize hy : l0[kk] = y at hcell HCR HLC
   have B := Aside0.mk hy
   clear hy
   cases hq : p y with
   | true =>
    go_wp2_with fail
    refine (hp y A1 c1 _ HB.out HLC.out HCR.out).mono ?_
    rintro e w' ⟨rfl, hb⟩
    rw [hq]
    have HB2 := Aside0.mk (below_then HB.out HB.out.size hb)
    go_wp2
    go_ret
    exact ⟨by rw [rws_idxf_hit hlt (by rw [B.out]; exact hq) A.out]; rfl, by first | exact HB2.out | exact pw_below_drewN HB2.out _⟩
   | false =>
    go_wp2_with fail
    refine (hp y A1 c1 _ HB.out HLC.out HCR.out).mono ?_
    rintro e w' ⟨rfl, hb⟩
    rw [hq]
    have HB2 := Aside0.mk (below_then HB.out HB.out.size hb)
    go_wp2
    go_roundg (l0.length - (kk + 1))
    case measure => omega
    case rel =>
     refine ⟨kk + 1, by omega, by omega, by go_num, ⟨by first | exact HB2.out | exact pw_below_drewN HB2.out _⟩, ⟨fun j hj h => ?_⟩⟩
     by_cases e : j = kk
     ·subst e
      rw [B.out]; exact hq
     ·exact A.out j hj (by omega)
  ·have hltz : ¬ (kk : Int) < (l0.length : Int) := by omega
   have : kk = l0.length := by omega
   subst this
   go_wp2
   go_ret
   exact ⟨by rw [rws_idxf_miss (fun j hj => A.out j hj hj)]; rfl, by first | exact HB.out | exact pw_below_drewN HB.out _⟩
set_option maxHeartbeats 2000000 in
theorem rws_ctf (g : Nat) (lb : Array Value) (eg : ∀ args w, (callFunc g args).run Try.prog w = .ok (.enter g args) w) (p : List Int → Bool) (A0 : Option Addr) (c0 : Nat) (l0 : List (List Int)) (w : World) (hr : Kd.C (Kd.slice 2 (Kd.int .i64)) w A0 l0.length l0)
  (hp : ∀ (x : List Int) (A : Option Addr) (c : Nat) (w1 : World), Below w.heap.size w w1 → x.length ≤ c → Kd.C (Kd.int .i64) w1 A x.length x → Calls Try.prog g (#[.slice A x.length c] ++ lb) w1 fun e w' => e = .returned (.bool (p x)) ∧ Below w1.heap.size w1 w') :
  Calls Try.prog 80 #[.slice A0 l0.length c0, .func (.func g) #[] lb] w fun e w' => e = .returned (.bool (l0.any p)) ∧ Below w.heap.size w w' := by
 have HR := Aside0.mk hr
 clear hr
 rw [← rws_idxf_any]
 go_enter Try.func80, Try.ntmps80
 go_wp2_with (go_at_call 113; refine (rws_ixf g lb eg p A0 c0 l0 _ HR.out hp).mono ?_; rintro e w' ⟨rfl, hb⟩)
 go_ret
 exact ⟨rfl, by first | exact hb | exact pw_below_drewN hb _⟩
end Go.Proofs.Ytckonklpdepgoaa.Q
namespace Go.Proofs.Ytckonklpdepgoaa.Q
open Go.RowKit Go.Proofs.YtckonklpdepgoaaW.PrintWords Go.Proofs.YtckonklpdepgoaaW.PrintLast Go.Proofs.YtckonklpdepgoaaW.PrintMore
attribute [local go_sem] max2_int min2_int max_two min_two max_three min_three max_four min_four   -- for this text's walks alone
set_option linter.unusedVariables false
set_option linter.unusedSimpArgs false
theorem i64_enters {f : FuncId} {fn : Func} {c : Code} (hf : Try.prog.funcs[f]? = some fn) (hname : (fn.name == "runtime.NumGoroutine") = false) (hb : fn.body = some c) (args : Array Value) (w : World) : (callFunc f args).run Try.prog w = .ok (.enter f args) w := by
  have h1 : fn.name ≠ "runtime.NumGoroutine" := by simpa using hname
  simp [callFunc, hf, h1, hb, mark]
def i64_idxf {α : Type} (p : α → Bool) (l : List α) : Int := match l.findIdx? p with | some i => (i : Int) | none => -1
theorem i64_idxf_hit {α : Type} {p : α → Bool} {l : List α} {k : Nat} (hk : k < l.length) (h : p l[k] = true) (hb : ∀ j (hj : j < l.length), j < k → p l[j] = false) : i64_idxf p l = k := by
  unfold i64_idxf
  have : l.findIdx? p = some k := List.findIdx?_eq_some_iff_getElem.2 ⟨hk, h, fun j hj => by simp [hb j (by omega) hj]⟩
  rw [this]
theorem i64_idxf_miss {α : Type} {p : α → Bool} {l : List α} (hb : ∀ j (hj : j < l.length), p l[j] = false) : i64_idxf p l = -1 := by
  unfold i64_idxf
  have : l.findIdx? p = none := List.findIdx?_eq_none_iff.2 (fun x hx => by obtain ⟨j, hj, rfl⟩ := List.getElem_of_mem hx; exact hb j hj)
  rw [this]
theorem i64_idxf_any {α : Type} (p : α → Bool) (l : List α) : decide (i64_idxf p l ≥ 0) = l.any p := by
  unfold i64_idxf
  cases h : l.findIdx? p with
  | none =>
    have := List.findIdx?_eq_none_iff.1 h
    simp only [show ¬ ((-1 : Int) ≥ 0) by omega, decide_false]
    symm
    rw [List.any_eq_false]
    intro x hx
    simp [this x hx]
  | some i =>
    have := List.findIdx?_eq_some_iff_getElem.1 h
    obtain ⟨hi, h1, _⟩ := this
    have h2 : l.any p = true := List.any_eq_true.2 ⟨l[i], List.getElem_mem hi, h1⟩
    rw [h2]
    simp
set_option maxHeartbeats 2000000 in
theorem i64_ixf (g : Nat) (lb : Array Value) (eg : ∀ args w, (callFunc g args).run Try.prog w = .ok (.enter g args) w) (p : Int → Bool) (A0 : Option Addr) (c0 : Nat) (l0 : List Int) (w : World) (hr : Kd.C (Kd.int .i64) w A0 l0.length l0)
    (hp : ∀ (x : Int) (q : Nat), Calls Try.prog g (#[.int .i64 x] ++ lb) (w.drewN q) fun e w' => e = .returned (.bool (p x)) ∧ ∃ q', w' = (w.drewN q).drewN q') :
    Calls Try.prog 147 #[.slice A0 l0.length c0, .func (.func g) #[] lb] w fun e w' => e = .returned (.int .i64 (i64_idxf p l0)) ∧ ∃ q, w' = w.drewN q := by
  have hbig : l0.length ≤ 9223372036854775807 := hr.2.1
  have HR := Aside0.mk hr
  clear hr
  go_enter Try.func147, Try.ntmps147
  go_wp2
  go_loopg [5, 8] l0.length (fun gg _ s8 wr => ∃ kk q : Nat, kk ≤ l0.length ∧ l0.length - kk ≤ gg ∧ s8 = .int .i64 kk ∧ wr = w.drewN q ∧ Aside0 (∀ j (hj : j < l0.length), j < kk → p l0[j] = false))
  case atStart => exact ⟨0, 0, Nat.zero_le _, by omega, rfl, rfl, ⟨fun j hj h => absurd h (Nat.not_lt_zero _)⟩⟩
  case round =>
    obtain ⟨kk, q, hkk, hg, rfl, rfl, A⟩ := hrel
    by_cases hlt : kk < l0.length
    · have hltz : (kk : Int) < (l0.length : Int) := by omega
      obtain ⟨ad, rfl, hcs⟩ := HR.out.2.2 (by omega)
      obtain ⟨cs, hl1, hk1, hc1⟩ := hcs kk _ (List.getElem?_eq_getElem hlt)
      have hk2 : cs = [.int .i64 l0[kk]] := hk1
      subst hk2
      have hcell : w.cell? (ad.add kk) = some (.int .i64 l0[kk]) := by simpa [show (Kd.int .i64).sz = 1 from rfl] using hc1 0 _ rfl
      clear hcs hc1 hl1 hk1
      generalize hy : l0[kk] = y at hcell
      have B := Aside0.mk hy
      clear hy
      have hcall := hp y
      cases hq : p y with
      | true =>
        rw [hq] at hcall
        go_wp2_with fail
        refine (hcall _).mono ?_
        rintro e w' ⟨rfl, q', rfl⟩
        go_wp2
        go_ret
        exact ⟨by rw [i64_idxf_hit hlt (by rw [B.out]; exact hq) A.out]; rfl, _, rfl⟩
      | false =>
        rw [hq] at hcall
        go_wp2_with fail
        refine (hcall _).mono ?_
        rintro e w' ⟨rfl, q', rfl⟩
        go_wp2
        go_roundg (l0.length - (kk + 1))
        case measure => omega
        case rel =>
          refine ⟨kk + 1, _, by omega, by omega, by go_num, rfl, ⟨fun j hj h => ?_⟩⟩
          by_cases e : j = kk
          · subst e
            rw [B.out]; exact hq
          · exact A.out j hj (by omega)
    · have hltz : ¬ (kk : Int) < (l0.length : Int) := by omega
      have : kk = l0.length := by omega
      subst this
      go_wp2
      go_ret
      exact ⟨by rw [i64_idxf_miss (fun j hj => A.out j hj hj)]; rfl, q, rfl⟩
set_option maxHeartbeats 2000000 in
theorem i64_ctf (g : Nat) (lb : Array Value) (eg : ∀ args w, (callFunc g args).run Try.prog w = .ok (.enter g args) w) (p : Int → Bool) (A0 : Option Addr) (c0 : Nat) (l0 : List Int) (w : World) (hr : Kd.C (Kd.int .i64) w A0 l0.length l0)
    (hp : ∀ (x : Int) (q : Nat), Calls Try.prog g (#[.int .i64 x] ++ lb) (w.drewN q) fun e w' => e = .returned (.bool (p x)) ∧ ∃ q', w' = (w.drewN q).drewN q') :
    Calls Try.prog 138 #[.slice A0 l0.length c0, .func (.func g) #[] lb] w fun e w' => e = .returned (.bool (l0.any p)) ∧ ∃ q, w' = w.drewN q := by
  have HR := Aside0.mk hr
  clear hr
  rw [← i64_idxf_any]
  go_enter Try.func138, Try.ntmps138
  go_wp2_with (go_at_call 147; refine (i64_ixf g lb eg p A0 c0 l0 _ HR.out hp).mono ?_; rintro e w' ⟨rfl, q, rfl⟩)
  go_ret
  exact ⟨rfl, q, rfl⟩
def impl_areWithin.f (l0 : List Int) (a1 : Int) (a2 : Int) : Option (Bool) := some (l0.all fun x => decide (a1 ≤ x ∧ x ≤ a2))
theorem impl_within_tells (x a1 a2 : Int) : impl_within.f x a1 a2 = some (decide (a1 ≤ x ∧ x ≤ a2)) := by
  unfold impl_within.f
  split
  · simp [*]
  · simp [*]
set_option maxHeartbeats 2000000 in
theorem impl_areWithin.one (b1 b2 : Nat) (a1 a2 : Int) (x : Int) (w : World) (h1 : w.cell? ⟨b1, 0, none⟩ = some (.int .i64 a1)) (h2 : w.cell? ⟨b2, 0, none⟩ = some (.int .i64 a2)) :
   Calls Try.prog 139 (#[.int .i64 x] ++ #[.pointer (some ⟨b1, 0, none⟩), .pointer (some ⟨b2, 0, none⟩)]) w fun e w' => e = .returned (.bool (!decide (a1 ≤ x ∧ x ≤ a2))) ∧ ∃ q', w' = w.drewN q' := by
  have H := Aside0.mk (impl_within_tells x a1 a2)
  generalize decide (a1 ≤ x ∧ x ≤ a2) = b at H ⊢
  go_enter Try.func139, Try.ntmps139
  go_wp2_with (go_at_call 60; refine (impl_within.calls x a1 a2 b _ H.out).mono ?_; rintro e w' ⟨rfl, ⟨nd, rfl⟩⟩)
  go_ret
  exact ⟨rfl, _, rfl⟩
set_option maxHeartbeats 2000000 in
theorem impl_areWithin.calls (A0 : Option Addr) (c0 : Nat) (l0 : List Int) (a1 a2 : Int) (r : Bool) (w : World) (hr0 : Kd.C (Kd.int .i64) w A0 l0.length l0) (hc0 : l0.length ≤ c0) (h : impl_areWithin.f l0 a1 a2 = some r) :
    Calls Try.prog 119 #[.slice A0 l0.length c0, .int .i64 a1, .int .i64 a2] w fun e w' => e = .returned (.bool r) ∧ Below w.heap.size w w' := by
  obtain rfl := Option.some.inj h
  clear h hc0
  have eg : ∀ args w, (callFunc 139 args).run Try.prog w = .ok (.enter 139 args) w := i64_enters Try.func139 (by kernel_rfl) rfl
  have e : (l0.all fun x => decide (a1 ≤ x ∧ x ≤ a2)) = !(l0.any fun x => !decide (a1 ≤ x ∧ x ≤ a2)) := by simp [List.all_eq_not_any_not]
  rw [e]
  have HR := Aside0.mk hr0
  clear hr0 e
  have hp : ∃ p : Int → Bool, p = fun x => !decide (a1 ≤ x ∧ x ≤ a2) := ⟨_, rfl⟩
  obtain ⟨p, hp⟩ := hp
  rw [← hp]
  have HP := Aside0.mk hp
  clear hp
  go_enter Try.func119, Try.ntmps119
  go_wp2_with (go_at_call 138; refine (i64_ctf 139 _ eg p A0 c0 l0 _ (by have hb := ((Below.refl w.heap.size w).alloc (Nat.le_refl _) (.cells #[.int .i64 a1] 2 (0, 0))).alloc (by simp) (.cells #[.int .i64 a2] 2 (0, 0)); exact Kd.C_below HR.out hb) (fun x q => by rw [HP.out]; exact impl_areWithin.one _ _ a1 a2 x _ (by simp) (by simp))).mono ?_; rintro e w' ⟨rfl, q, rfl⟩)
  go_ret
  exact ⟨rfl, pw_below_drewN (((Below.refl w.heap.size w).alloc (Nat.le_refl _) _).alloc (by simp) _) _⟩
end Go.Proofs.Ytckonklpdepgoaa.Q
namespace Go.Proofs.Ytckonklpdepgoaa.Q
open Go.RowKit Go.Proofs.YtckonklpdepgoaaW.PrintWords Go.Proofs.YtckonklpdepgoaaW.PrintLast Go.Proofs.YtckonklpdepgoaaW.PrintMore
attribute [local go_sem] max2_int min2_int max_two min_two max_three min_three max_four min_four   -- for this text's walks alone
set_option linter.unusedVariables false
set_option linter.unusedSimpArgs false
theorem impl_areRows.lt_ {w : World} {a : Addr} {v : Value} (h : w.cell? a = some v) : a.block < w.heap.size := by
 cases hb : w.heap[a.block]? with
 | none =>
  unfold World.cell? at h
  rw [hb] at h
  simp at h
 | some x => exact (Array.getElem?_eq_some_iff.1 hb).1
def impl_areRows.p (m : Nat) (a1 : Int) (x : List Int) : Bool := decide (x.length ≠ m) || !(x.all fun z => decide (0 ≤ z ∧ z ≤ a1))
def impl_areRows.f (l0 : List (List Int)) (a1 : Int) : Option (Bool) := match l0 with
 | [] => some false
 | y :: _ => some (decide (l0.length ≤ 12) && decide (1 ≤ y.length ∧ y.length ≤ 12) && !(l0.any (impl_areRows.p y.length a1)))
set_option maxHeartbeats 2000000 in
theorem impl_areRows.one (b1 b2 : Nat) (ad : Addr) (c0 n : Nat) (hn : 0 < n) (A1 : Option Addr) (c1 m : Nat) (a1 : Int) (A : Option Addr) (c : Nat) (x : List Int) (w : World) (h1 : w.cell? ⟨b1, 0, none⟩ = some (.slice (some ad) n c0)) (h2 : w.cell? ⟨b2, 0, none⟩ = some (.int .i64 a1))
  (h3 : w.cell? ad = some (.slice A1 m c1)) (hlc : x.length ≤ c) (hx : Kd.C (Kd.int .i64) w A x.length x) :
  Calls Try.prog 118 (#[.slice A x.length c] ++ #[.pointer (some ⟨b1, 0, none⟩), .pointer (some ⟨b2, 0, none⟩)]) w fun e w' => e = .returned (.bool (impl_areRows.p m a1 x)) ∧ Below w.heap.size w w' := by
 have HX := Aside0.mk hx
 have HL := Aside0.mk hlc
 have hnz : (0 : Int) < (n : Int) := by omega
 clear hx hlc
 by_cases q : x.length = m
 ·have q1 : ((x.length : Int) == (m : Int)) = true := by simp [q]
  have q2 : ((x.length : Int) != (m : Int)) = false := by simp [q]
  have HQ := Aside0.mk q
  clear q
  go_enter Try.func118, Try.ntmps118
  go_wp2_with (go_at_call 119; refine (impl_areWithin.calls A c x 0 a1 _ _ (Kd.C_below HX.out (by first | exact Below.refl _ _ | exact pw_below_drewN (Below.refl _ _) _)) HL.out rfl).mono ?_; rintro e w' ⟨rfl, hb⟩)
  go_ret
  refine ⟨?_, ?_⟩
  ·simp [impl_areRows.p, HQ.out]
  ·first | exact hb | exact pw_below_drewN hb _ | exact below_then (pw_below_drewN (Below.refl _ _) _) (Nat.le_refl _) hb
 ·have q1 : ((x.length : Int) == (m : Int)) = false := by simp; omega
  have q2 : ((x.length : Int) != (m : Int)) = true := by simp; omega
  have HQ := Aside0.mk q
  clear q
  go_enter Try.func118, Try.ntmps118
  go_wp2
  go_ret
  refine ⟨?_, ?_⟩
  ·simp [impl_areRows.p, HQ.out]
  ·first | exact Below.refl _ _ | exact pw_below_drewN (Below.refl _ _) _
set_option maxHeartbeats 4000000 in
theorem impl_areRows.calls (A0 : Option Addr) (c0 : Nat) (l0 : List (List Int)) (a1 : Int) (r : Bool) (w : World) (hr0 : Kd.C (Kd.slice 2 (Kd.int .i64)) w A0 l0.length l0) (hc0 : l0.length ≤ c0) (h : impl_areRows.f l0 a1 = some r) :
  Calls Try.prog 91 #[.slice A0 l0.length c0, .int .i64 a1] w fun e w' => e = .returned (.bool r) ∧ Below w.heap.size w w' := by
 have eg : ∀ args w, (callFunc 118 args).run Try.prog w = .ok (.enter 118 args) w := i64_enters Try.func118 (by kernel_rfl) rfl
 have HR := Aside0.mk hr0
 have HC0 := Aside0.mk hc0
 have H1 := Aside0.mk (impl_within_tells (l0.length : Int) 1 12)
 have up : ∀ o1 o2, Below w.heap.size w ((w.alloc o1).alloc o2) := fun o1 o2 => below_alloc (below_alloc (Below.refl _ _) o1) o2
 cases l0 with
 | nil =>
  have e : r = false := by
   have h' : some false = some r := h
   injection h' with h'; exact h'.symm
  subst e
  clear hr0 hc0 h
  have H1' := Aside0.mk (show impl_within.f (([] : List (List Int)).length : Int) 1 12 = some false from H1.out)
  clear H1
  have UP := Aside0.mk up
  clear up
  go_enter Try.func91, Try.ntmps91
  go_wp2_with (first | (go_at_call 68; refine (impl_size_int64_68.calls A0 c0 [] _ _ (Kd.C_below HR.out (by repeat (first | exact UP.out _ _ | apply pw_below_drewN))) HC0.out rfl).mono ?_; rintro e w' ⟨rfl, ⟨nd, rfl⟩⟩) | (go_at_call 60; refine (impl_within.calls _ _ _ _ _ H1'.out).mono ?_; rintro e w' ⟨rfl, ⟨nd, rfl⟩⟩))
  go_ret
  exact ⟨rfl, by repeat (first | exact UP.out _ _ | apply pw_below_drewN)⟩
 | cons y ys =>
  have hl : (y :: ys).length = ys.length + 1 := rfl
  have er : r = (decide ((y :: ys).length ≤ 12) && decide (1 ≤ y.length ∧ y.length ≤ 12) && !((y :: ys).any (impl_areRows.p y.length a1))) := by
   have h' : some (decide ((y :: ys).length ≤ 12) && decide (1 ≤ y.length ∧ y.length ≤ 12) && !((y :: ys).any (impl_areRows.p y.length a1))) = some r := h
   injection h' with h'; exact h'.symm
  have hr1 := Kd.C_below hr0 (up (.cells #[.slice A0 (y :: ys).length c0] 22 (0, 0)) (.cells #[.int .i64 a1] 2 (0, 0)))
  obtain ⟨ad, rfl, hcs⟩ := hr1.2.2 (by rw [hl]; omega)
  obtain ⟨cs, _, ⟨A1, c1, rfl, hlc, hcr⟩, hc1⟩ := hcs 0 y rfl
  have hcell := hc1 0 _ rfl
  simp only [show (Kd.slice 2 (Kd.int .i64)).sz = 1 from rfl, Nat.mul_one, Nat.add_zero, show ad.add 0 = ad by cases ad; simp [Addr.add]] at hcell
  have HCR := Aside0.mk hcr
  have HLC := Aside0.mk hlc
  have H2 := Aside0.mk (impl_within_tells (y.length : Int) 1 12)
  have HR1 := Aside0.mk hr1
  clear hcs hc1 hcr hlc hr0 hc0 h hr1 HR
  have UP := Aside0.mk up
  clear up
  have hnz : (0 : Int) < ((y :: ys).length : Int) := by rw [hl]; omega
  have hnz' : 0 < (y :: ys).length := by rw [hl]; omega
  have ER := Aside0.mk er
  clear er hl
  have AL : (y :: ys) = (y :: ys) := rfl
  generalize hL : y :: ys = L at hcell hnz hnz' HR1 HCR HC0 H1 ER ⊢
  have HLL := Aside0.mk hL
  clear hL AL
  by_cases q1 : L.length ≤ 12
  ·have H1' : Aside0 (impl_within.f (L.length : Int) 1 12 = some true) := ⟨H1.out.trans (by rw [decide_eq_true (show 1 ≤ (L.length : Int) ∧ (L.length : Int) ≤ 12 by omega)])⟩
   by_cases q2 : 1 ≤ y.length ∧ y.length ≤ 12
   ·have H2' : Aside0 (impl_within.f (y.length : Int) 1 12 = some true) := ⟨H2.out.trans (by rw [decide_eq_true (show 1 ≤ (y.length : Int) ∧ (y.length : Int) ≤ 12 by omega)])⟩
    have ER' : r = !(L.any (impl_areRows.p y.length a1)) := by rw [ER.out, decide_eq_true q1, decide_eq_true q2]; rfl
    subst ER'
    clear q1 q2 H1 H2 ER
    have HLT := Aside0.mk (impl_areRows.lt_ hcell)
    generalize hp : impl_areRows.p y.length a1 = p
    have HP := Aside0.mk hp
    clear hp
    go_enter Try.func91, Try.ntmps91
    go_wp2_with (first
     | (go_at_call 68; refine (impl_size_int64_68.calls (some ad) c0 L _ _ (Kd.C_below HR1.out (by repeat (first | exact Below.refl _ _ | apply pw_below_drewN))) HC0.out rfl).mono ?_; rintro e w' ⟨rfl, ⟨nd, rfl⟩⟩)
     | (go_at_call 69; refine (impl_size_int64_69.calls A1 c1 y _ _ (Kd.C_below HCR.out (by repeat (first | exact Below.refl _ _ | apply pw_below_drewN))) HLC.out rfl).mono ?_; rintro e w' ⟨rfl, ⟨nd2, rfl⟩⟩)
     | (go_at_call 60; refine (impl_within.calls _ _ _ true _ (by with_reducible first | exact H1'.out | exact H2'.out)).mono ?_; rintro e w' ⟨rfl, ⟨nd3, rfl⟩⟩)
     | (go_at_call 80; refine (rws_ctf 118 _ eg p (some ad) c0 L _ (Kd.C_below HR1.out (by repeat (first | exact Below.refl _ _ | apply pw_below_drewN))) (fun x A c w1 hb hc hx => by rw [← HP.out]; exact impl_areRows.one _ _ ad c0 L.length hnz' A1 c1 y.length a1 A c x w1 (by rw [Below.cell hb (by simp <;> omega)]; simp) (by rw [Below.cell hb (by simp <;> omega)]; simp) (by rw [Below.cell hb (by have := HLT.out; simp at this ⊢; omega)]; simp [hcell]) hc hx)).mono ?_; rintro e w' ⟨rfl, hb⟩))
    go_ret
    exact ⟨rfl, by first | exact below_then (by repeat (first | exact UP.out _ _ | apply pw_below_drewN)) (by simp <;> omega) hb | exact pw_below_drewN (below_then (by repeat (first | exact UP.out _ _ | apply pw_below_drewN)) (by simp <;> omega) hb) _⟩
   ·have H2' : Aside0 (impl_within.f (y.length : Int) 1 12 = some false) := ⟨H2.out.trans (by rw [decide_eq_false (show ¬ (1 ≤ (y.length : Int) ∧ (y.length : Int) ≤ 12) by omega)])⟩
    have ER' : r = false := by rw [ER.out, decide_eq_false q2]; simp
    subst ER'
    clear ER q1 q2 H1 H2
    go_enter Try.func91, Try.ntmps91
    go_wp2_with (first
     | (go_at_call 68; refine (impl_size_int64_68.calls (some ad) c0 L _ _ (Kd.C_below HR1.out (by repeat (first | exact Below.refl _ _ | apply pw_below_drewN))) HC0.out rfl).mono ?_; rintro e w' ⟨rfl, ⟨nd, rfl⟩⟩)
     | (go_at_call 69; refine (impl_size_int64_69.calls A1 c1 y _ _ (Kd.C_below HCR.out (by repeat (first | exact Below.refl _ _ | apply pw_below_drewN))) HLC.out rfl).mono ?_; rintro e w' ⟨rfl, ⟨nd2, rfl⟩⟩)
     | (go_at_call 60; refine (impl_within.calls _ _ _ true _ (by with_reducible exact H1'.out)).mono ?_; rintro e w' ⟨rfl, ⟨nd3, rfl⟩⟩)
     | (go_at_call 60; refine (impl_within.calls _ _ _ false _ (by with_reducible exact H2'.out)).mono ?_; rintro e w' ⟨rfl, ⟨nd4, rfl⟩⟩))
    go_ret
    exact ⟨rfl, by repeat (first | exact UP.out _ _ | apply pw_below_drewN)⟩
  ·have H1' : Aside0 (impl_within.f (L.length : Int) 1 12 = some false) := ⟨H1.out.trans (by rw [decide_eq_false (show ¬ (1 ≤ (L.length : Int) ∧ (L.length : Int) ≤ 12) by omega)])⟩
   have H2' := H1'
   have ER' : r = false := by rw [ER.out, decide_eq_false q1]; simp
   subst ER'
   clear ER q1 H1 H2
   go_enter Try.func91, Try.ntmps91
   go_wp2_with (first
    | (go_at_call 68; refine (impl_size_int64_68.calls (some ad) c0 L _ _ (Kd.C_below HR1.out (by repeat (first | exact Below.refl _ _ | apply pw_below_drewN))) HC0.out rfl).mono ?_; rintro e w' ⟨rfl, ⟨nd, rfl⟩⟩)
    | (go_at_call 69; refine (impl_size_int64_69.calls A1 c1 y _ _ (Kd.C_below HCR.out (by repeat (first | exact Below.refl _ _ | apply pw_below_drewN))) HLC.out rfl).mono ?_; rintro e w' ⟨rfl, ⟨nd2, rfl⟩⟩)
    | (go_at_call 60; refine (impl_within.calls _ _ _ false _ (by with_reducible exact H1'.out)).mono ?_; rintro e w' ⟨rfl, ⟨nd3, rfl⟩⟩)
    | (go_at_call 60; refine (impl_within.calls _ _ _ false _ (by with_reducible exact H2'.out)).mono ?_; rintro e w' ⟨rfl, ⟨nd4, rfl⟩⟩))
   go_ret
   exact ⟨rfl, by repeat (first | exact UP.out _ _ | apply pw_below_drewN)⟩
end Go.Proofs.Ytckonklpdepgoaa.Q
namespace Go.Proofs.Ytckonklpdepgoaa.Q
open Go.RowKit Go.Proofs.YtckonklpdepgoaaW.PrintWords Go.Proofs.YtckonklpdepgoaaW.PrintLast Go.Proofs.YtckonklpdepgoaaW.PrintMore
attribute [local go_sem] max2_int min2_int max_two min_two max_three min_three max_four min_four   -- for this text's walks alone
set_option linter.unusedVariables false
set_option linter.unusedSimpArgs false
def impl_ValidPicture.f (l0_0 : List (List Int)) : Option (Bool) := (impl_areRows.f l0_0 255).bind fun t205 => (some t205)
set_option maxHeartbeats 8000000 in
set_option maxRecDepth 100000 in
theorem impl_ValidPicture.calls (A0_0 : Option Addr) (c0_0 : Nat) (l0_0 : List (List Int)) (r : Bool) (w : World) (hr0_0 : Kd.C (Kd.slice 2 (Kd.int .i64)) w A0_0 l0_0.length l0_0) (hc0_0 : l0_0.length ≤ c0_0) (h : impl_ValidPicture.f l0_0 = some r) :
  Calls Try.prog 67 #[.agg #[.slice A0_0 l0_0.length c0_0]] w fun e w' => e = .returned (.bool r) ∧ Below w.heap.size w w' := by
 have hu33 := Try.underlying33
 have HR0_0 := Aside0.mk hr0_0
 have HC0_0 := Aside0.mk hc0_0
 clear hr0_0 hc0_0
 have HB := Aside0.mk (Below.refl w.heap.size w)
 have H : ((impl_areRows.f l0_0 255).bind fun t205 => (some t205)) = some r := h
 clear h
 replace H := Option.bind_eq_some_iff.mp H
 obtain ⟨t205, A20, H⟩ := H
 replace H : (some t205) = some r := H
 have A2 := Aside0.mk A20
 clear A20
 obtain rfl := Option.some.inj H
 go_enter Try.func67, Try.ntmps67
 go_wp2_with (first | ((with_reducible refine gate_dst (N := 1) rfl ?_); refine box_event ?hg (N := 1) ?hd (cs := #[.slice A0_0 l0_0.length c0_0]) (t := 33) ?hr ?_; (case hd => rfl); (case hg => rfl); (case hr => first | (go_simp; done) | (go_simp; rfl)); intro gb204 hg w3 hbox hb; have n0_ := Aside0.mk (below_step (by repeat (first | (with_reducible first | exact HB.out | apply below_alloc | apply pw_below_drewN | apply below_drew1) | exact HB.out)) hb); have n1_ := Aside0.mk (hbox); have n2_ := Aside0.mk ((by rw [hg]; exact (below_size (by repeat (first | (with_reducible first | exact HB.out | apply below_alloc | apply pw_below_drewN | apply below_drew1) | exact HB.out))) : w.heap.size ≤ gb204)); have n3_ := Aside0.mk ((by rw [hg]; exact (below_size (by repeat (first | (with_reducible first | exact HB.out | apply below_alloc | apply pw_below_drewN | apply below_drew1) | exact HB.out))) : w.heap.size ≤ gb204)); clear HB; have HB := n0_; have BK204 := n1_; have GW204 := n2_; have GE204 := n3_; clear n0_ n1_ n2_ n3_; clear hb hbox hg; have hcz4_0 : w3.cell? ⟨gb204, 0, none⟩ = some (.slice A0_0 l0_0.length c0_0) := (blk_cell BK204.out 0).trans rfl; have hfz4_0 := blk_frozen BK204.out 0) | ((with_reducible refine gate_callee (f := 91) rfl ?_); refine goesL_ (some 5) rfl rfl Try.func91 (by kernel_rfl) rfl #[.slice A0_0 l0_0.length c0_0, .int .i64 255] rfl (by (try simp only [List.map_toArray, List.map_cons, List.map_nil]); first | done | rfl | (simp only [List.length_drop, List.length_take]; rfl) | (simp only [show ∀ (n_ : Nat) (b_ : Int), Int.tdiv (n_ : Int) b_ = (n_ : Int) / b_ from fun n_ b_ => Int.tdiv_eq_ediv_of_nonneg (Int.natCast_nonneg n_)]; rfl)) ?_; (with_reducible refine (impl_areRows.calls _ _ l0_0 255 t205 _ ?side1 ?side2 A2.out).mono ?_); (case side1 => repeat (first | exact (Kd.C_below HR0_0.out HB.out) | (with_reducible refine Kd.C_alloc ?_ _) | (with_reducible refine Kd.C_drewN ?_ _) | (with_reducible refine Kd.C_drew ?_))); (case side2 => exact HC0_0.out); rintro e w5 ⟨rfl, hb⟩; refine ⟨_, rfl, ?_⟩; have n0_ := Aside0.mk (blk_below (g := gb204) (o := .cells #[.slice A0_0 l0_0.length c0_0] 33 (0, 0)) (by (with_reducible repeat (first | refine blk_drewN ?_ _ | refine blk_drew ?_ | refine blk_alloc ?_ _)); exact BK204.out) hb); have n1_ := Aside0.mk (below_step (by repeat (first | (with_reducible first | exact HB.out | apply below_alloc | apply pw_below_drewN | apply below_drew1 | refine below_set ?_ GE204.out) | exact HB.out)) hb); clear BK204; clear HB; have BK204 := n0_; have HB := n1_; clear n0_ n1_; (try clear hb); (try clear hb2); (try clear hk); (try clear hi)))
 go_ret
 exact ⟨by first | rfl | (simp [errW_none, errW_some] <;> rfl) | (simp [*, errW_none, errW_some] <;> rfl), by repeat (first | (with_reducible first | exact HB.out | apply below_alloc | apply pw_below_drewN | apply below_drew1 | refine below_set ?_ GE204.out) | exact HB.out)⟩
end Go.Proofs.Ytckonklpdepgoaa.Q
