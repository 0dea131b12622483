/- The statement FnExactIntervalSystem, with all that its proof stands on: functions of the program as plain functions, the program's walks, and the plain law. Conditions: none beyond the statement's own. -/
import Derived.ArgAppend
import Derived.Below
import Derived.BigQuiet
import Derived.Deep.AppendLies
import Derived.Deep.CutBlock
import Derived.Deep.DeepCutAuto
import Derived.Deep.Draws
import Derived.Deep.LoopGhost
import Derived.Deep.OwnRows
import Derived.Deep.QuietTactic
import Derived.Deep.RegionHeld3
import Derived.KernelRfl
import Derived.Laws.BitsLemmas
import Derived.Laws.BytesArg
import Derived.Laws.IdiomCopy
import Derived.Laws.MakeOwn
import Derived.Laws.OwnMore
import Derived.Laws.Rows
import Derived.Laws.Slices
import Derived.Lib.AppendStr
import Derived.Lib.ConvBytes
import Derived.Maps.AppendAt
import Derived.OrdersHeld
import Derived.OwnWalk
import Derived.RowKit
import Derived.RowKit3
import Derived.Tactics
import Derived.Test.YtplgfchiaapmfaaProg
import Derived.WalkKit
import Derived.WideLaws
import Derived.Test.YtplgfchiaapmfaaBFnExactIntervalSystem0
import Derived.Test.YtplgfchiaapmfaaBFnExactIntervalSystem1
import Derived.Test.YtplgfchiaapmfaaBFnExactIntervalSystem2
import Derived.Test.YtplgfchiaapmfaaBFnExactIntervalSystem3
set_option linter.unusedVariables false
set_option linter.unusedSimpArgs false
namespace Go.Proofs.Ytplgfchiaapmfaa.Q
open Go.RowKit Go.Proofs.YtplgfchiaapmfaaW.PrintWords Go.Proofs.YtplgfchiaapmfaaW.PrintLast Go.Proofs.YtplgfchiaapmfaaW.PrintMore
attribute [local go_sem] max2_int min2_int max_two min_two max_three min_three max_four min_four   -- for this text's walks alone
set_option linter.unusedVariables false
set_option linter.unusedSimpArgs false
def laws_toInt64SS.l0 : Nat → List (List Int) → List (List Int) → Int → Option ((List (List Int)))
 | 0, _, _, _ => none
 | k + 1, x0, x3, x4 => if x4 < (x0.length : Int) then (if 0 ≤ x4 then ((laws_toInt64S.f k (rd_L1 x0 x4)).bind fun t251 => (if x4 < (x3.length : Int) then (laws_toInt64SS.l0 k x0 (x3.set (x4 : Int).toNat t251) (wrap64 (x4 + 1))) else (none))) else (none)) else (some x3)
def laws_toInt64SS.f (k : Nat) (l0 : List (List Int)) : Option ((List (List Int))) := if 0 ≤ (l0.length : Int) then (if ((l0.length : Int) : Int).toNat ≤ 11728124029610 then (laws_toInt64SS.l0 k l0 (List.replicate ((l0.length : Int) : Int).toNat []) 0) else (none)) else (none)
theorem laws_toInt64SS.mono_l : ∀ k, (∀ y0 y1 y2, LeO (laws_toInt64SS.l0 k y0 y1 y2) (laws_toInt64SS.l0 (k + 1) y0 y1 y2))
 | 0 => fun _ _ _ r h => by simp [laws_toInt64SS.l0] at h
 | k + 1 => by
  have ih0 := laws_toInt64SS.mono_l k
  ·intro y0 y1 y2
   unfold laws_toInt64SS.l0
   repeat' first
   | (with_reducible exact ih0 _ _ _)
   | (with_reducible exact laws_toInt64S.mono _ _)
   | (with_reducible exact LeO.refl _)
   | (with_reducible exact LeO.none _)
   | (with_reducible refine LeO.ite ?_ ?_)
   | (with_reducible refine LeO.bind ?_ (fun _ => ?_))
   | exact ih0 _ _ _
   | exact laws_toInt64S.mono _ _
   | exact LeO.none _
   | refine LeO.ite ?_ ?_
   | refine LeO.bind ?_ (fun _ => ?_)
theorem laws_toInt64SS.mono : ∀ a0 k, LeO (laws_toInt64SS.f k a0) (laws_toInt64SS.f (k + 1) a0) := by
 intro a0 k
 have ih0 := laws_toInt64SS.mono_l k
 unfold laws_toInt64SS.f
 repeat' first
   | (with_reducible exact ih0 _ _ _)
   | (with_reducible exact laws_toInt64S.mono _ _)
   | (with_reducible exact LeO.refl _)
   | (with_reducible exact LeO.none _)
   | (with_reducible refine LeO.ite ?_ ?_)
   | (with_reducible refine LeO.bind ?_ (fun _ => ?_))
   | exact ih0 _ _ _
   | exact laws_toInt64S.mono _ _
   | exact LeO.none _
   | refine LeO.ite ?_ ?_
   | refine LeO.bind ?_ (fun _ => ?_)
set_option maxHeartbeats 8000000 in
set_option maxRecDepth 100000 in
theorem laws_toInt64SS.calls (k : Nat) (A0 : Option Addr) (c0 : Nat) (l0 : List (List Int)) (r : List (List Int)) (w : World) (hr0 : Kd.C (Kd.slice 2 (Kd.int .i64)) w A0 l0.length l0) (hc0 : l0.length ≤ c0) (h : laws_toInt64SS.f k l0 = some r) :
  Calls Try.prog 28 #[.slice A0 l0.length c0] w fun e w' => ∃ v0_ : Value, e = .returned (v0_) ∧ Kd.S (Kd.slice 2 (Kd.int .i64)) 22 w' w.heap.size (fun _ => True) v0_ r ∧ Below w.heap.size w w' := by
 have HR0 := Aside0.mk hr0
 have HC0 := Aside0.mk hc0
 clear hr0 hc0
 have HB := Aside0.mk (Below.refl w.heap.size w)
 have H : (if 0 ≤ (l0.length : Int) then (if ((l0.length : Int) : Int).toNat ≤ 11728124029610 then (laws_toInt64SS.l0 k l0 (List.replicate ((l0.length : Int) : Int).toNat []) 0) else (none)) else (none)) = some r := h
 clear h
 by_cases c2 : 0 ≤ (l0.length : Int)
 ·rw [if_pos c2] at H
  have c2b0 := eq_true c2
  have c2b1 : decide (0 ≤ (l0.length : Int)) = true := decide_eq_true c2
  clear c2
  by_cases c3 : ((l0.length : Int) : Int).toNat ≤ 11728124029610
  ·rw [if_pos c3] at H
   have c3b0 := eq_true c3
   have c3b1 : decide (((l0.length : Int) : Int).toNat ≤ 11728124029610) = true := decide_eq_true c3
   clear c3
   obtain ⟨y247, hy247⟩ : ∃ y_ : List (List Int), y_ = (List.replicate ((l0.length : Int) : Int).toNat []) := ⟨_, rfl⟩
   replace H : (laws_toInt64SS.l0 k l0 y247 0) = some r := by first | (rw [hy247]; with_reducible exact H) | (have H2_ := (Option.bind_some _ _).symm.trans H; rw [hy247]; with_reducible exact H2_) | (have H2_ := (Option.bind_some _ _).symm.trans H; with_reducible exact H2_) | with_reducible exact H | (rw [hy247]; exact H) | exact H
   have Ny247 := Aside0.mk hy247
   clear hy247
   have H' := Aside0.mk H
   clear H
   go_enter Try.func28, Try.ntmps28
   go_wp2_with (first | ((with_reducible refine gate_dst (N := 7) rfl ?_); refine Kd.S_make (Kd.slice 2 (Kd.int .i64)) _ 22 rfl (N := 7) rfl 37 _ _ rfl (l0.length : Int) rfl rfl Try.underlying37 (.slice none 0 0) 24 info22 rfl (by decide) (by omega) [] (ok := fun _ => True) (okp := fun _ => True) ⟨_, rfl, Kd.R_nil _ _ _ _ _⟩ (fun _ hk => hk) trivial (of_decide_eq_true (by first | (with_reducible assumption) | assumption)) (Nat.le_trans (Nat.mul_le_mul_right _ (of_decide_eq_true (by first | (with_reducible assumption) | assumption) : (l0.length : Int).toNat ≤ 11728124029610)) (by omega)) (Below.refl _ _) (Nat.le_refl _) ?_; intro v248 w4 ho5 hb hg_ hnew_; clear hg_ hnew_; (first | rw [← Ny247.out] at ho5 | (simp only [Int.reduceToNat] at ho5; rw [← Ny247.out] at ho5)); have n0_ := Aside0.mk (Kd.S_lower ho5 (below_size (by repeat (first | (with_reducible first | exact HB.out | apply below_alloc | apply pw_below_drewN | apply below_drew1) | exact HB.out)))); have n1_ := Aside0.mk (below_step (by repeat (first | (with_reducible first | exact HB.out | apply below_alloc | apply pw_below_drewN | apply below_drew1) | exact HB.out)) hb); clear HB; have HO249 := n0_; have HB := n1_; clear n0_ n1_; clear hb ho5))
   go_loopg [4] k (fun kq v4 w' => ∃ (x3_1 : List (List Int)) (x4_1 : Int), v4 = .int .i64 x4_1 ∧ Aside0 (laws_toInt64SS.l0 kq l0 x3_1 x4_1 = some r) ∧ Aside0 (kq ≤ k) ∧ Aside0 (Kd.S (Kd.slice 2 (Kd.int .i64)) 22 w' w.heap.size (fun _ => True) v248 x3_1) ∧ Aside0 (Below w.heap.size w w'))
   case atStart => exact ⟨(y247), (0), (by first | rfl | (simp; done) | (simp [*]; done)), H', ⟨Nat.le_refl _⟩, ⟨by (with_reducible repeat (first | apply Kd.S_alloc | apply Kd.S_drewN | apply Kd.S_drew)); exact HO249.out⟩, ⟨by repeat (first | (with_reducible first | exact HB.out | apply below_alloc | apply pw_below_drewN | apply below_drew1) | exact HB.out)⟩⟩
   case round =>
    clear H'
    try clear c2
    try clear c2b0
    try clear c2b1
    try clear p2
    try clear c3
    try clear c3b0
    try clear c3b1
    obtain ⟨x3_1, x4_1, rfl, HA, HK1, HO_3, HB⟩ := hrel
    cases gk with
    | zero => exact absurd HA.out (by simp [laws_toInt64SS.l0])
    | succ k1 =>
     have H := HA.out
     clear HA
     simp only [laws_toInt64SS.l0] at H
     by_cases c6 : x4_1 < (l0.length : Int)
     ·rw [if_pos c6] at H
      have c6b0 : decide (x4_1 < (l0.length : Int)) = true := decide_eq_true c6
      clear c6
      by_cases c7 : 0 ≤ x4_1
      ·rw [if_pos c7] at H
       have c7b0 : decide (0 ≤ x4_1) = true := decide_eq_true c7
       clear c7
       replace H := Option.bind_eq_some_iff.mp H
       obtain ⟨t251, A80, H⟩ := H
       replace H : (if x4_1 < (x3_1.length : Int) then (laws_toInt64SS.l0 k1 l0 (x3_1.set (x4_1 : Int).toNat t251) (wrap64 (x4_1 + 1))) else (none)) = some r := H
       have A8 := Aside0.mk A80
       clear A80
       by_cases c9 : x4_1 < (x3_1.length : Int)
       ·rw [if_pos c9] at H
        have c9b0 : decide (x4_1 < (x3_1.length : Int)) = true := decide_eq_true c9
        clear c9
        obtain ⟨y254, hy254⟩ : ∃ y_ : List (List Int), y_ = (x3_1.set (x4_1 : Int).toNat t251) := ⟨_, rfl⟩
        replace H : (laws_toInt64SS.l0 k1 l0 y254 (wrap64 (x4_1 + 1))) = some r := by first | (rw [hy254]; with_reducible exact H) | (have H2_ := (Option.bind_some _ _).symm.trans H; rw [hy254]; with_reducible exact H2_) | (have H2_ := (Option.bind_some _ _).symm.trans H; with_reducible exact H2_) | with_reducible exact H | (rw [hy254]; exact H) | exact H
        have Ny254 := Aside0.mk hy254
        clear hy254
        have H' := Aside0.mk H
        clear H
        have p250 : 0 ≤ (x4_1 : Int) := of_decide_eq_true (by first | (with_reducible assumption) | assumption)
        have q250 : x4_1 < (l0.length : Int) := of_decide_eq_true (by first | (with_reducible assumption) | assumption)
        obtain ⟨ad250, A250_0, c250_0, e250, hx250_0, hl250_0, hi250_0⟩ := at_L1 HR0.out x4_1 p250 q250
        cases e250
        replace hx250_0 := (HB.out.cell (World.block_lt_of_cell? w _ hx250_0)).trans hx250_0
        have HR250_0 := Aside0.mk hi250_0
        have HC250_0 := Aside0.mk hl250_0
        clear hi250_0 hl250_0
        replace p250 := eq_true p250
        replace q250 := eq_true q250
        go_wp2_with (first | ((with_reducible refine gate_callee (f := 54) rfl ?_); refine goesL_ (some 20) rfl rfl Try.func54 (by kernel_rfl) rfl #[.slice A250_0 (rd_L1 l0 x4_1).length c250_0] rfl (by (try simp only [List.map_toArray, List.map_cons, List.map_nil]); first | done | rfl | (simp only [List.length_drop, List.length_take]; rfl) | (simp only [show ∀ (n_ : Nat) (b_ : Int), Int.tdiv (n_ : Int) b_ = (n_ : Int) / b_ from fun n_ b_ => Int.tdiv_eq_ediv_of_nonneg (Int.natCast_nonneg n_)]; rfl)) ?_; (with_reducible refine (laws_toInt64S.calls k1 _ _ (rd_L1 l0 x4_1) t251 _ ?side1 ?side2 A8.out).mono ?_); (case side1 => repeat (first | exact (Kd.C_below HR250_0.out HB.out) | (with_reducible refine Kd.C_alloc ?_ _) | (with_reducible refine Kd.C_drewN ?_ _) | (with_reducible refine Kd.C_drew ?_))); (case side2 => exact HC250_0.out); rintro e w11 ⟨v252, rfl, ho0, hb⟩; refine ⟨_, rfl, ?_⟩; have n0_ := Aside0.mk (Kd.S_elder' (by (with_reducible repeat (first | apply Kd.S_alloc | apply Kd.S_drewN | apply Kd.S_drew)); exact HO_3.out) (Kd.R_base ho0) hb); have n1_ := Aside0.mk (Kd.R_lower ho0 (below_size (by repeat (first | (with_reducible first | exact HB.out | apply below_alloc | apply pw_below_drewN | apply below_drew1) | exact HB.out)))); have n2_ := Aside0.mk (below_step (by repeat (first | (with_reducible first | exact HB.out | apply below_alloc | apply pw_below_drewN | apply below_drew1) | exact HB.out)) hb); clear HO_3; clear HB; have HO_3 := n0_; have HO253 := n1_; have HB := n2_; clear n0_ n1_ n2_; (try clear hb); (try clear hb2); (try clear hk); (try clear hi); (try clear ho0); have p10 : 0 ≤ (x4_1 : Int) := of_decide_eq_true (by first | (with_reducible assumption) | assumption); have q10 : (x4_1 : Int) < ((x3_1.length : Int) : Int) := of_decide_eq_true (by first | (with_reducible assumption) | assumption); obtain ⟨go10, co10, eo10, gb10, gl10, cl10, HG10⟩ := Kd.S_form HO_3.out (by omega); (first | cases eo10 | (injection eo10 with ea_ en_ ec_; (first | subst ea_ | (injection ea_ with ea_; subst ea_)); subst ec_; clear en_)); have GB10 := Aside0.mk gb10; have GG10 := Aside0.mk HG10; clear gb10 gl10 HG10; obtain ⟨_, ce10, hcl10, hM10, hcc10, hfr10, _, _⟩ := Kd.S_elem HO_3.out [] (x4_1 : Int) p10 q10; obtain ⟨ve10_0, rfl, ge10_0⟩ := (id hM10); have hx10_0 := hcc10 0 _ rfl; have hf10_0 := hfr10 0; (try simp only [show ((Kd.slice 2 (Kd.int .i64))).sz = 1 from rfl, Nat.mul_one, Nat.add_zero] at hx10_0); (try simp only [show ((Kd.slice 2 (Kd.int .i64))).sz = 1 from rfl, Nat.mul_one, Nat.add_zero] at hf10_0); clear hcl10 hcc10 hfr10 hM10; replace p10 := eq_true p10; replace q10 := eq_true q10; obtain ⟨Ao14, co14, eo14⟩ := Kd.R_slice HO253.out; subst eo14; have n_ := Aside0.mk (Kd.S_mono (ok' := (fun k_ => some k_ ≠ (.slice Ao14 t251.length co14 : Value).ownBlock)) HO_3.out (fun k_ hk => hk.2)); clear HO_3; have HO_3 := n_; clear n_; have HX12 := Aside0.mk (show Kd.S (Kd.slice 2 (Kd.int .i64)) 22 w11 w.heap.size (fun k_ => ((fun _ => True)) k_ ∧ ¬ ((fun k_ => some k_ = (.slice Ao14 t251.length co14 : Value).ownBlock)) k_) (.slice (some ⟨go10, 0, none⟩) x3_1.length co10) x3_1 from (by (with_reducible repeat (first | apply Kd.S_alloc | apply Kd.S_drewN | apply Kd.S_drew)); exact Kd.S_mono HO_3.out (fun k_ hk => ⟨trivial, fun e_ => hk e_⟩))); obtain ⟨oki12, ce12, hcl12, hM12, hcc12, hfr12, hoki12, hH12⟩ := Kd.S_elem HX12.out [] (x4_1 : Int) (of_decide_eq_true (by first | (with_reducible assumption) | assumption)) (by have h_ : (x4_1 : Int) < ((x3_1.length : Int) : Int) := of_decide_eq_true (by first | (with_reducible assumption) | assumption); first | exact h_ | (have e_ := (Kd.S_reads' HO_3.out).1; omega) | simpa using h_); obtain ⟨ve12_0, rfl, ge12_0⟩ := (id hM12); have HP12 := Kd.S_seg hH12 (of_decide_eq_true (by first | (with_reducible assumption) | assumption)) (by have h_ : (x4_1 : Int) < ((x3_1.length : Int) : Int) := of_decide_eq_true (by first | (with_reducible assumption) | assumption); first | exact h_ | (have e_ := (Kd.S_reads' HO_3.out).1; omega) | simpa using h_) (seg := [.slice Ao14 t251.length co14]) (j := 0) (show 1 ≤ 1 from by decide) (x' := t251) (Kd.M_row (Kd.R_mono (Kd.R_tight rfl (Kd.R_mono (ok' := fun k_ => ((fun _ => True)) k_ ∧ k_ ≠ go10) (Kd.R_apart' (HO253.out) (Kd.S_typed HO_3.out) (by decide)) (fun k_ hk => ⟨trivial, fun e_ => (hk.2) (by rw [e_]; rfl)⟩))) (fun _ h_ => Or.inr (h_)))) (fun _ hk => hk) (fun k_ hk_ => ((Kd.R_mono (ok' := fun k_ => ((fun _ => True)) k_ ∧ k_ ≠ go10) (Kd.R_apart' (HO253.out) (Kd.S_typed HO_3.out) (by decide)) (fun k_ hk => ⟨trivial, fun e_ => (hk.2) (by rw [e_]; rfl)⟩))).1 k_ hk_.symm); have hx12_0 := hcc12 0 _ rfl; (try simp only [show ((Kd.slice 2 (Kd.int .i64))).sz = 1 from rfl, Nat.mul_one, Nat.add_zero] at hx12_0); have hf12_0 := hfr12 0; (try simp only [show ((Kd.slice 2 (Kd.int .i64))).sz = 1 from rfl, Nat.mul_one, Nat.add_zero] at hf12_0); clear hcl12 hcc12 hfr12 hM12 hoki12 hH12; (try simp only [show ((Kd.slice 2 (Kd.int .i64))).sz = 1 from rfl, Nat.mul_one, Nat.add_zero] at HP12)) | ((with_reducible refine gate_store (t := 22) (p := 21) rfl ?_); refine store_event (t := 22) (p := 21) (v := ?vo_w13) (w1 := (w11.setCell ⟨go10, (x4_1 : Int).toNat, none⟩ (.slice Ao14 t251.length co14))) ?hg ?ho ?hn ?hr ?_; (case ho => rfl); (case hg => rfl); (case hn => rfl); (case hr => first | (go_simp; done) | (go_simp; rfl)); intro w13 hw; have hg : w11.grownBy w13 (some go10) := (by rw [hw]; exact HP12.2); have hp_ : Kd.S (Kd.slice 2 (Kd.int .i64)) 22 w13 w.heap.size (fun _ => True) (.slice (some ⟨go10, 0, none⟩) x3_1.length co10) y254 := (by rw [hw, Ny254.out]; exact HP12.1); clear HP12; have n0_ := Aside0.mk (hp_); have n1_ := Aside0.mk ((by rw [hw]; exact below_set (HB.out) GB10.out : Below w.heap.size w w13)); clear HO_3; clear HB; clear HO253; have HO_3 := n0_; have HB := n1_; clear n0_ n1_; clear hg hw hp_))
        go_roundg k1
        case measure => have := HK1.out; omega
        case rel => exact ⟨(y254), (wrap64 (x4_1 + 1)), (by first | rfl | (simp; done) | (simp [*]; done)), H', ⟨by have := HK1.out; omega⟩, ⟨by (with_reducible repeat (first | apply Kd.S_alloc | apply Kd.S_drewN | apply Kd.S_drew)); exact HO_3.out⟩, ⟨by repeat (first | (with_reducible first | exact HB.out | apply below_alloc | apply pw_below_drewN | apply below_drew1) | exact HB.out)⟩⟩
       ·rw [if_neg c9] at H
        exact absurd H (by simp)
      ·rw [if_neg c7] at H
       exact absurd H (by simp)
     ·rw [if_neg c6] at H
      have c6b0 : decide (x4_1 < (l0.length : Int)) = false := decide_eq_false c6
      clear c6
      obtain rfl := Option.some.inj H
      go_wp2
      go_ret
      exact ⟨_, by first | rfl | (simp [errW_none, errW_some] <;> rfl) | (simp [*, errW_none, errW_some] <;> rfl), by (with_reducible repeat (first | apply Kd.S_alloc | apply Kd.S_drewN | apply Kd.S_drew)); exact HO_3.out, by repeat (first | (with_reducible first | exact HB.out | apply below_alloc | apply pw_below_drewN | apply below_drew1) | exact HB.out)⟩
  ·rw [if_neg c3] at H
   exact absurd H (by simp)
 ·rw [if_neg c2] at H
  exact absurd H (by simp)
end Go.Proofs.Ytplgfchiaapmfaa.Q
namespace Go.Proofs.Ytplgfchiaapmfaa.Q
open Go.RowKit Go.Proofs.YtplgfchiaapmfaaW.PrintWords Go.Proofs.YtplgfchiaapmfaaW.PrintLast Go.Proofs.YtplgfchiaapmfaaW.PrintMore
attribute [local go_sem] max2_int min2_int max_two min_two max_three min_three max_four min_four   -- for this text's walks alone
set_option linter.unusedVariables false
set_option linter.unusedSimpArgs false
def laws_toSystem.f (k : Nat) (a0_0 : Int) (l0_1 : List Int) : Option (Int × List Int) := (laws_toInt64S.f k l0_1).bind fun t117 => (some (a0_0, t117))
theorem laws_toSystem.mono : ∀ a0 a1 k, LeO (laws_toSystem.f k a0 a1) (laws_toSystem.f (k + 1) a0 a1) := by
 intro a0 a1 k
 unfold laws_toSystem.f
 repeat' first
   | (with_reducible exact laws_toInt64S.mono _ _)
   | (with_reducible exact LeO.refl _)
   | (with_reducible exact LeO.none _)
   | (with_reducible refine LeO.ite ?_ ?_)
   | (with_reducible refine LeO.bind ?_ (fun _ => ?_))
   | exact laws_toInt64S.mono _ _
   | exact LeO.none _
   | refine LeO.ite ?_ ?_
   | refine LeO.bind ?_ (fun _ => ?_)
set_option maxHeartbeats 8000000 in
set_option maxRecDepth 100000 in
theorem laws_toSystem.calls (k : Nat) (a0_0 : Int) (A0_1 : Option Addr) (c0_1 : Nat) (l0_1 : List Int) (r1 : Int) (r2 : List Int) (w : World) (hr0_1 : Kd.C (Kd.int .i64) w A0_1 l0_1.length l0_1) (hc0_1 : l0_1.length ≤ c0_1) (h : laws_toSystem.f k a0_0 l0_1 = some (r1, r2)) :
  Calls Try.prog 17 #[.agg #[.int .i64 a0_0, .slice A0_1 l0_1.length c0_1]] w fun e w' => ∃ v1_ : Value, e = .returned (.agg #[.int .i64 r1, v1_]) ∧ Kd.R (Kd.int .i64) 2 w' w.heap.size (fun _ => True) v1_ r2 ∧ Below w.heap.size w w' := by
 have hu24 := Try.underlying24
 have hu27 := Try.underlying27
 have HR0_1 := Aside0.mk hr0_1
 have HC0_1 := Aside0.mk hc0_1
 clear hr0_1 hc0_1
 have HB := Aside0.mk (Below.refl w.heap.size w)
 have H : ((laws_toInt64S.f k l0_1).bind fun t117 => (some (a0_0, t117))) = some (r1, r2) := h
 clear h
 replace H := Option.bind_eq_some_iff.mp H
 obtain ⟨t117, A20, H⟩ := H
 replace H : (some (a0_0, t117)) = some (r1, r2) := H
 have A2 := Aside0.mk A20
 clear A20
 simp only [Option.some.injEq, Prod.mk.injEq] at H
 obtain ⟨rfl, rfl⟩ := H
 go_enter Try.func17, Try.ntmps17
 go_wp2_with (first | ((with_reducible refine gate_dst (N := 1) rfl ?_); refine box_event ?hg (N := 1) ?hd (cs := #[.int .i64 a0_0, .slice A0_1 l0_1.length c0_1]) (t := 24) ?hr ?_; (case hd => rfl); (case hg => rfl); (case hr => first | (go_simp; done) | (go_simp; rfl)); intro gb114 hg w3 hbox hb; have n0_ := Aside0.mk (below_step (by repeat (first | (with_reducible first | exact HB.out | apply below_alloc | apply pw_below_drewN | apply below_drew1) | exact HB.out)) hb); have n1_ := Aside0.mk (hbox); have n2_ := Aside0.mk ((by rw [hg]; exact (below_size (by repeat (first | (with_reducible first | exact HB.out | apply below_alloc | apply pw_below_drewN | apply below_drew1) | exact HB.out))) : w.heap.size ≤ gb114)); have n3_ := Aside0.mk ((by rw [hg]; exact (below_size (by repeat (first | (with_reducible first | exact HB.out | apply below_alloc | apply pw_below_drewN | apply below_drew1) | exact HB.out))) : w.heap.size ≤ gb114)); clear HB; have HB := n0_; have BK114 := n1_; have GW114 := n2_; have GE114 := n3_; clear n0_ n1_ n2_ n3_; clear hb hbox hg) | ((with_reducible refine gate_dst (N := 2) rfl ?_); refine box_event ?hg (N := 2) ?hd (cs := #[.int .i64 0, .slice none 0 0]) (t := 27) ?hr ?_; (case hd => rfl); (case hg => rfl); (case hr => first | (go_simp; done) | (go_simp; rfl)); intro gb115 hg w4 hbox hb; have n0_ := Aside0.mk (blk_below (g := gb114) (o := .cells #[.int .i64 a0_0, .slice A0_1 l0_1.length c0_1] 24 (0, 0)) (by (with_reducible repeat (first | refine blk_drewN ?_ _ | refine blk_drew ?_ | refine blk_alloc ?_ _)); exact BK114.out) hb); have n1_ := Aside0.mk (below_step (by repeat (first | (with_reducible first | exact HB.out | apply below_alloc | apply pw_below_drewN | apply below_drew1 | refine below_set ?_ GE114.out) | exact HB.out)) hb); have n2_ := Aside0.mk (hbox); have n3_ := Aside0.mk ((by rw [hg]; exact (below_size (by repeat (first | (with_reducible first | exact HB.out | apply below_alloc | apply pw_below_drewN | apply below_drew1 | refine below_set ?_ GE114.out) | exact HB.out))) : w.heap.size ≤ gb115)); have n4_ := Aside0.mk ((by rw [hg]; exact (below_size (by repeat (first | (with_reducible first | exact HB.out | apply below_alloc | apply pw_below_drewN | apply below_drew1 | refine below_set ?_ GE114.out) | exact HB.out))) : w.heap.size ≤ gb115)); have n5_ := Aside0.mk ((by rw [hg]; exact Nat.ne_of_lt (blk_lt (g := gb114) (o := .cells #[.int .i64 a0_0, .slice A0_1 l0_1.length c0_1] 24 (0, 0)) (by (with_reducible repeat (first | refine blk_drewN ?_ _ | refine blk_drew ?_ | refine blk_alloc ?_ _)); exact BK114.out)) : gb114 ≠ gb115)); have n6_ := Aside0.mk ((by rw [hg]; exact Nat.ne_of_gt (blk_lt (g := gb114) (o := .cells #[.int .i64 a0_0, .slice A0_1 l0_1.length c0_1] 24 (0, 0)) (by (with_reducible repeat (first | refine blk_drewN ?_ _ | refine blk_drew ?_ | refine blk_alloc ?_ _)); exact BK114.out)) : gb115 ≠ gb114)); clear BK114; clear HB; have BK114 := n0_; have HB := n1_; have BK115 := n2_; have GW115 := n3_; have GE115 := n4_; have NB114_115 := n5_; have NB115_114 := n6_; clear n0_ n1_ n2_ n3_ n4_ n5_ n6_; clear hb hbox hg) | ((with_reducible refine gate_dst (N := 3) rfl ?_); refine box_event ?hg (N := 3) ?hd (cs := #[.int .i64 0, .slice none 0 0]) (t := 27) ?hr ?_; (case hd => rfl); (case hg => rfl); (case hr => first | (go_simp; done) | (go_simp; rfl)); intro gb116 hg w5 hbox hb; have n0_ := Aside0.mk (blk_below (g := gb114) (o := .cells #[.int .i64 a0_0, .slice A0_1 l0_1.length c0_1] 24 (0, 0)) (by (with_reducible repeat (first | refine blk_drewN ?_ _ | refine blk_drew ?_ | refine blk_alloc ?_ _)); exact BK114.out) hb); have n1_ := Aside0.mk (blk_below (g := gb115) (o := .cells #[.int .i64 0, .slice none 0 0] 27 (0, 0)) (by (with_reducible repeat (first | refine blk_drewN ?_ _ | refine blk_drew ?_ | refine blk_alloc ?_ _)); exact BK115.out) hb); have n2_ := Aside0.mk (below_step (by repeat (first | (with_reducible first | exact HB.out | apply below_alloc | apply pw_below_drewN | apply below_drew1 | refine below_set ?_ GE114.out | refine below_set ?_ GE115.out) | exact HB.out)) hb); have n3_ := Aside0.mk (hbox); have n4_ := Aside0.mk ((by rw [hg]; exact (below_size (by repeat (first | (with_reducible first | exact HB.out | apply below_alloc | apply pw_below_drewN | apply below_drew1 | refine below_set ?_ GE114.out | refine below_set ?_ GE115.out) | exact HB.out))) : w.heap.size ≤ gb116)); have n5_ := Aside0.mk ((by rw [hg]; exact (below_size (by repeat (first | (with_reducible first | exact HB.out | apply below_alloc | apply pw_below_drewN | apply below_drew1 | refine below_set ?_ GE114.out | refine below_set ?_ GE115.out) | exact HB.out))) : w.heap.size ≤ gb116)); have n6_ := Aside0.mk ((by rw [hg]; exact Nat.ne_of_lt (blk_lt (g := gb114) (o := .cells #[.int .i64 a0_0, .slice A0_1 l0_1.length c0_1] 24 (0, 0)) (by (with_reducible repeat (first | refine blk_drewN ?_ _ | refine blk_drew ?_ | refine blk_alloc ?_ _)); exact BK114.out)) : gb114 ≠ gb116)); have n7_ := Aside0.mk ((by rw [hg]; exact Nat.ne_of_gt (blk_lt (g := gb114) (o := .cells #[.int .i64 a0_0, .slice A0_1 l0_1.length c0_1] 24 (0, 0)) (by (with_reducible repeat (first | refine blk_drewN ?_ _ | refine blk_drew ?_ | refine blk_alloc ?_ _)); exact BK114.out)) : gb116 ≠ gb114)); have n8_ := Aside0.mk ((by rw [hg]; exact Nat.ne_of_lt (blk_lt (g := gb115) (o := .cells #[.int .i64 0, .slice none 0 0] 27 (0, 0)) (by (with_reducible repeat (first | refine blk_drewN ?_ _ | refine blk_drew ?_ | refine blk_alloc ?_ _)); exact BK115.out)) : gb115 ≠ gb116)); have n9_ := Aside0.mk ((by rw [hg]; exact Nat.ne_of_gt (blk_lt (g := gb115) (o := .cells #[.int .i64 0, .slice none 0 0] 27 (0, 0)) (by (with_reducible repeat (first | refine blk_drewN ?_ _ | refine blk_drew ?_ | refine blk_alloc ?_ _)); exact BK115.out)) : gb116 ≠ gb115)); clear BK114; clear BK115; clear HB; have BK114 := n0_; have BK115 := n1_; have HB := n2_; have BK116 := n3_; have GW116 := n4_; have GE116 := n5_; have NB114_116 := n6_; have NB116_114 := n7_; have NB115_116 := n8_; have NB116_115 := n9_; clear n0_ n1_ n2_ n3_ n4_ n5_ n6_ n7_ n8_ n9_; clear hb hbox hg; have hnb6 := NB114_115.out; have hnc6 := NB115_114.out; have hnb7 := NB114_116.out; have hnc7 := NB116_114.out; have hcz8_0 : w5.cell? ⟨gb114, 0, none⟩ = some (.int .i64 a0_0) := (blk_cell BK114.out 0).trans rfl; have hcz8_1 : w5.cell? ⟨gb114, 1, none⟩ = some (.slice A0_1 l0_1.length c0_1) := (blk_cell BK114.out 1).trans rfl; have hfz8_0 := blk_frozen BK114.out 0; have hfz8_1 := blk_frozen BK114.out 1; have hnb9 := NB116_115.out; have hnc9 := NB115_116.out; have hcz10_0 : w5.cell? ⟨gb116, 0, none⟩ = some (.int .i64 0) := (blk_cell BK116.out 0).trans rfl; have hcz10_1 : w5.cell? ⟨gb116, 1, none⟩ = some (.slice none 0 0) := (blk_cell BK116.out 1).trans rfl; have hfz10_0 := blk_frozen BK116.out 0; have hfz10_1 := blk_frozen BK116.out 1) | ((with_reducible refine gate_callee (f := 54) rfl ?_); refine goesL_ (some 9) rfl rfl Try.func54 (by kernel_rfl) rfl #[.slice A0_1 l0_1.length c0_1] rfl (by (try simp only [List.map_toArray, List.map_cons, List.map_nil]); first | done | rfl | (simp only [List.length_drop, List.length_take]; rfl) | (simp only [show ∀ (n_ : Nat) (b_ : Int), Int.tdiv (n_ : Int) b_ = (n_ : Int) / b_ from fun n_ b_ => Int.tdiv_eq_ediv_of_nonneg (Int.natCast_nonneg n_)]; rfl)) ?_; (with_reducible refine (laws_toInt64S.calls k _ _ l0_1 t117 _ ?side1 ?side2 A2.out).mono ?_); (case side1 => exact Kd.C_below HR0_1.out (by repeat (first | (with_reducible first | exact HB.out | apply below_alloc | apply pw_below_drewN | apply below_drew1 | refine below_set ?_ GE114.out | refine below_set ?_ GE115.out | refine below_set ?_ GE116.out) | exact HB.out))); (case side2 => exact HC0_1.out); rintro e w11 ⟨v118, rfl, ho0, hb⟩; refine ⟨_, rfl, ?_⟩; have n0_ := Aside0.mk (Kd.R_lower ho0 (below_size (by repeat (first | (with_reducible first | exact HB.out | apply below_alloc | apply pw_below_drewN | apply below_drew1 | refine below_set ?_ GE114.out | refine below_set ?_ GE115.out | refine below_set ?_ GE116.out) | exact HB.out)))); have n1_ := Aside0.mk (blk_below (g := gb114) (o := .cells #[.int .i64 a0_0, .slice A0_1 l0_1.length c0_1] 24 (0, 0)) (by (with_reducible repeat (first | refine blk_drewN ?_ _ | refine blk_drew ?_ | refine blk_alloc ?_ _)); refine blk_far ?_ NB114_116.out _; (with_reducible repeat (first | refine blk_drewN ?_ _ | refine blk_drew ?_ | refine blk_alloc ?_ _)); exact BK114.out) hb); have n2_ := Aside0.mk (blk_below (g := gb115) (o := .cells #[.int .i64 0, .slice none 0 0] 27 (0, 0)) (by (with_reducible repeat (first | refine blk_drewN ?_ _ | refine blk_drew ?_ | refine blk_alloc ?_ _)); refine blk_far ?_ NB115_116.out _; (with_reducible repeat (first | refine blk_drewN ?_ _ | refine blk_drew ?_ | refine blk_alloc ?_ _)); exact BK115.out) hb); have n3_ := Aside0.mk (blk_below (g := gb116) (o := .cells #[.int .i64 a0_0, .slice none 0 0] 27 (0, 0)) (by (with_reducible repeat (first | refine blk_drewN ?_ _ | refine blk_drew ?_ | refine blk_alloc ?_ _)); refine blk_put (cs := #[.int .i64 0, .slice none 0 0]) ?_ 0 _ rfl; (with_reducible repeat (first | refine blk_drewN ?_ _ | refine blk_drew ?_ | refine blk_alloc ?_ _)); exact BK116.out) hb); have n4_ := Aside0.mk (below_step (by repeat (first | (with_reducible first | exact HB.out | apply below_alloc | apply pw_below_drewN | apply below_drew1 | refine below_set ?_ GE114.out | refine below_set ?_ GE115.out | refine below_set ?_ GE116.out) | exact HB.out)) hb); clear BK114; clear BK115; clear BK116; clear HB; have HO119 := n0_; have BK114 := n1_; have BK115 := n2_; have BK116 := n3_; have HB := n4_; clear n0_ n1_ n2_ n3_ n4_; (try clear hb); (try clear hb2); (try clear hk); (try clear hi); (try clear ho0); obtain ⟨Ao12, co12, eo12⟩ := Kd.R_slice HO119.out; subst eo12; have hcz13_0 : w11.cell? ⟨gb116, 0, none⟩ = some (.int .i64 a0_0) := (blk_cell BK116.out 0).trans rfl; have hcz13_1 : w11.cell? ⟨gb116, 1, none⟩ = some (.slice none 0 0) := (blk_cell BK116.out 1).trans rfl; have hfz13_0 := blk_frozen BK116.out 0; have hfz13_1 := blk_frozen BK116.out 1; have hcz14_0 : w11.cell? ⟨gb115, 0, none⟩ = some (.int .i64 0) := (blk_cell BK115.out 0).trans rfl; have hcz14_1 : w11.cell? ⟨gb115, 1, none⟩ = some (.slice none 0 0) := (blk_cell BK115.out 1).trans rfl; have hfz14_0 := blk_frozen BK115.out 0; have hfz14_1 := blk_frozen BK115.out 1))
 refine bodyPost_ret (results_cell_row rfl _ _ gb115 27 #[.int .i64 a0_0, .slice Ao12 t117.length co12] (0, 0) _ rfl (by (with_reducible repeat (first | refine blk_drewN ?_ _ | refine blk_drew ?_ | refine blk_alloc ?_ _)); refine blk_put (cs := #[.int .i64 a0_0, .slice none 0 0]) ?_ 1 _ rfl; (with_reducible repeat (first | refine blk_drewN ?_ _ | refine blk_drew ?_ | refine blk_alloc ?_ _)); refine blk_put (cs := #[.int .i64 0, .slice none 0 0]) ?_ 0 _ rfl; (with_reducible repeat (first | refine blk_drewN ?_ _ | refine blk_drew ?_ | refine blk_alloc ?_ _)); refine blk_far ?_ NB115_116.out _; (with_reducible repeat (first | refine blk_drewN ?_ _ | refine blk_drew ?_ | refine blk_alloc ?_ _)); exact BK115.out) Try.underlying27 rfl (by kernel_rfl)) rfl ?_
 exact ⟨_, by first | rfl | (simp [errW_none, errW_some] <;> rfl) | (simp [*, errW_none, errW_some] <;> rfl), by (with_reducible repeat (first | apply Kd.R_alloc | apply Kd.R_drewN | apply Kd.R_drew)); exact Kd.R_mono (Kd.R_far (p := ⟨gb115, 1, none⟩) (Kd.R_far (p := ⟨gb115, 0, none⟩) (Kd.R_far (p := ⟨gb116, 1, none⟩) (Kd.R_types (Kd.R_types HO119.out BK116.out (by decide)) BK115.out (by decide)) (fun _ hk => hk.1.2) (.slice Ao12 t117.length co12)) (fun _ hk => hk.2) (.int .i64 a0_0)) (fun _ hk => hk.2) (.slice Ao12 t117.length co12)) (fun _ hk => trivial), by repeat (first | (with_reducible first | exact HB.out | apply below_alloc | apply pw_below_drewN | apply below_drew1 | refine below_set ?_ GE114.out | refine below_set ?_ GE115.out | refine below_set ?_ GE116.out) | exact HB.out)⟩
def impl_within.f (a0 : Int) (a1 : Int) (a2 : Int) : Option (Bool) := if a1 ≤ a0 then (some (decide (a0 ≤ a2))) else (some false)
set_option maxHeartbeats 8000000 in
set_option maxRecDepth 100000 in
theorem impl_within.calls (a0 : Int) (a1 : Int) (a2 : Int) (r : Bool) (w : World) (h : impl_within.f a0 a1 a2 = some r) :
  Calls Try.prog 55 #[.int .i64 a0, .int .i64 a1, .int .i64 a2] w fun e w' => e = .returned (.bool r) ∧ Drawn0 w w' := by
 have H : (if a1 ≤ a0 then (some (decide (a0 ≤ a2))) else (some false)) = some r := h
 clear h
 by_cases c4 : a1 ≤ a0
 ·rw [if_pos c4] at H
  have c4b0 : decide (a1 ≤ a0) = true := decide_eq_true c4
  clear c4
  obtain rfl := Option.some.inj H
  go_enter Try.func55, Try.ntmps55
  go_wp2
  go_ret
  exact ⟨by first | rfl | (simp; done) | (simp [*]; done), by repeat (first | exact Drawn0.refl _ | apply Drawn0.step)⟩
 ·rw [if_neg c4] at H
  have c4b0 : decide (a1 ≤ a0) = false := decide_eq_false c4
  clear c4
  obtain rfl := Option.some.inj H
  go_enter Try.func55, Try.ntmps55
  go_wp2
  go_ret
  exact ⟨by first | rfl | (simp; done) | (simp [*]; done), by repeat (first | exact Drawn0.refl _ | apply Drawn0.step)⟩
theorem i64_enters {f : FuncId} {fn : Func} {c : Code} (hf : Try.prog.funcs[f]? = some fn) (hname : (fn.name == "runtime.NumGoroutine") = false) (hb : fn.body = some c) (args : Array Value) (w : World) : (callFunc f args).run Try.prog w = .ok (.enter f args) w := by
 have h1 : fn.name ≠ "runtime.NumGoroutine" := by simpa using hname
 simp [callFunc, hf, h1, hb, mark]
def i64_idxf {α : Type} (p : α → Bool) (l : List α) : Int := match l.findIdx? p with | some i => (i : Int) | none => -1
theorem i64_idxf_hit {α : Type} {p : α → Bool} {l : List α} {k : Nat} (hk : k < l.length) (h : p l[k] = true) (hb : ∀ j (hj : j < l.length), j < k → p l[j] = false) : i64_idxf p l = k := by
 unfold i64_idxf
 have : l.findIdx? p = some k := List.findIdx?_eq_some_iff_getElem.2 ⟨hk, h, fun j hj => by simp [hb j (by omega) hj]⟩
 rw [this]
theorem i64_idxf_miss {α : Type} {p : α → Bool} {l : List α} (hb : ∀ j (hj : j < l.length), p l[j] = false) : i64_idxf p l = -1 := by
 unfold i64_idxf
 have : l.findIdx? p = none := List.findIdx?_eq_none_iff.2 (fun x hx => by obtain ⟨j, hj, rfl⟩ := List.getElem_of_mem hx; exact hb j hj)
 rw [this]
theorem i64_idxf_any {α : Type} (p : α → Bool) (l : List α) : decide (i64_idxf p l ≥ 0) = l.any p := by
 unfold i64_idxf
 cases h : l.findIdx? p with
 | none =>
  have := List.findIdx?_eq_none_iff.1 h
  simp only [show ¬ ((-1 : Int) ≥ 0) by omega, decide_false]
  symm
  rw [List.any_eq_false]
  intro x hx
  simp [this x hx]
 | some i =>
  have := List.findIdx?_eq_some_iff_getElem.1 h
  obtain ⟨hi, h1, _⟩ := this
  have h2 : l.any p = true := List.any_eq_true.2 ⟨l[i], List.getElem_mem hi, h1⟩
  rw [h2]
  simp
set_option maxHeartbeats 2000000 in
theorem i64_ixf (g : Nat) (lb : Array Value) (eg : ∀ args w, (callFunc g args).run Try.prog w = .ok (.enter g args) w) (p : Int → Bool) (A0 : Option Addr) (c0 : Nat) (l0 : List Int) (w : World) (hr : Kd.C (Kd.int .i64) w A0 l0.length l0)
  (hp : ∀ (x : Int) (q : Nat), Calls Try.prog g (#[.int .i64 x] ++ lb) (w.drewN q) fun e w' => e = .returned (.bool (p x)) ∧ ∃ q', w' = (w.drewN q).drewN q') :
  Calls Try.prog 79 #[.slice A0 l0.length c0, .func (.func g) #[] lb] w fun e w' => e = .returned (.int .i64 (i64_idxf p l0)) ∧ ∃ q, w' = w.drewN q := by
 have hbig : l0.length ≤ 9223372036854775807 := hr.2.1
 have HR := Aside0.mk hr
 clear hr
 go_enter Try.func79, Try.ntmps79
 go_wp2
 go_loopg [5, 8] l0.length (fun gg _ s8 wr => ∃ kk q : Nat, kk ≤ l0.length ∧ l0.length - kk ≤ gg ∧ s8 = .int .i64 kk ∧ wr = w.drewN q ∧ Aside0 (∀ j (hj : j < l0.length), j < kk → p l0[j] = false))
 case atStart => exact ⟨0, 0, Nat.zero_le _, by omega, rfl, rfl, ⟨fun j hj h => absurd h (Nat.not_lt_zero _)⟩⟩
 case round =>
  obtain ⟨kk, q, hkk, hg, rfl, rfl, A⟩ := hrel
  by_cases hlt : kk < l0.length
  ·have hltz : (kk : Int) < (l0.length : Int) := by omega
   obtain ⟨ad, rfl, hcs⟩ := HR.out.2.2 (by omega)
   obtain ⟨cs, hl1, hk1, hc1⟩ := hcs kk _ (List.getElem?_eq_getElem hlt)
   have hk2 : cs = [.int .i64 l0[kk]] := hk1
   subst hk2
   have hcell : w.cell? (ad.add kk) = some (.int .i64 l0[kk]) := by simpa [show (Kd.int .i64).sz = 1 from rfl] using hc1 0 _ rfl
   clear hcs hc1 hl1 hk1
   generalize hy : l0[kk] = y at hcell
   have B := Aside0.mk hy
   clear hy
   have hcall := hp y
   cases hq : p y with
   | true =>
    rw [hq] at hcall
    go_wp2_with fail
    refine (hcall _).mono ?_
    rintro e w' ⟨rfl, q', rfl⟩
    go_wp2
    go_ret
    exact ⟨by rw [i64_idxf_hit hlt (by rw [B.out]; exact hq) A.out]; rfl, _, rfl⟩
   | false =>
    rw [hq] at hcall
    go_wp2_with fail
    refine (hcall _).mono ?_
    rintro e w' ⟨rfl, q', rfl⟩
    go_wp2
    go_roundg (l0.length - (kk + 1))
    case measure => omega
    case rel =>
     refine ⟨kk + 1, _, by omega, by omega, by go_num, rfl, ⟨fun j hj h => ?_⟩⟩
     by_cases e : j = kk
     ·subst e
      rw [B.out]; exact hq
     ·exact A.out j hj (by omega)
  ·have hltz : ¬ (kk : Int) < (l0.length : Int) := by omega
   have : kk = l0.length := by omega
   subst this
   go_wp2
   go_ret
   exact ⟨by rw [i64_idxf_miss (fun j hj => A.out j hj hj)]; rfl, q, rfl⟩
end Go.Proofs.Ytplgfchiaapmfaa.Q
namespace Go.Proofs.Ytplgfchiaapmfaa.Q
open Go.RowKit Go.Proofs.YtplgfchiaapmfaaW.PrintWords Go.Proofs.YtplgfchiaapmfaaW.PrintLast Go.Proofs.YtplgfchiaapmfaaW.PrintMore
attribute [local go_sem] max2_int min2_int max_two min_two max_three min_three max_four min_four   -- for this text's walks alone
set_option linter.unusedVariables false
set_option linter.unusedSimpArgs false
set_option maxHeartbeats 2000000 in
theorem i64_ctf (g : Nat) (lb : Array Value) (eg : ∀ args w, (callFunc g args).run Try.prog w = .ok (.enter g args) w) (p : Int → Bool) (A0 : Option Addr) (c0 : Nat) (l0 : List Int) (w : World) (hr : Kd.C (Kd.int .i64) w A0 l0.length l0)
    (hp : ∀ (x : Int) (q : Nat), Calls Try.prog g (#[.int .i64 x] ++ lb) (w.drewN q) fun e w' => e = .returned (.bool (p x)) ∧ ∃ q', w' = (w.drewN q).drewN q') :
    Calls Try.prog 73 #[.slice A0 l0.length c0, .func (.func g) #[] lb] w fun e w' => e = .returned (.bool (l0.any p)) ∧ ∃ q, w' = w.drewN q := by
  have HR := Aside0.mk hr
  clear hr
  rw [← i64_idxf_any]
  go_enter Try.func73, Try.ntmps73
  go_wp2_with (go_at_call 79; refine (i64_ixf g lb eg p A0 c0 l0 _ HR.out hp).mono ?_; rintro e w' ⟨rfl, q, rfl⟩)
  go_ret
  exact ⟨rfl, q, rfl⟩
def impl_areWithin.f (l0 : List Int) (a1 : Int) (a2 : Int) : Option (Bool) := some (l0.all fun x => decide (a1 ≤ x ∧ x ≤ a2))
theorem impl_within_tells (x a1 a2 : Int) : impl_within.f x a1 a2 = some (decide (a1 ≤ x ∧ x ≤ a2)) := by
  unfold impl_within.f
  split
  · simp [*]
  · simp [*]
set_option maxHeartbeats 2000000 in
theorem impl_areWithin.one (b1 b2 : Nat) (a1 a2 : Int) (x : Int) (w : World) (h1 : w.cell? ⟨b1, 0, none⟩ = some (.int .i64 a1)) (h2 : w.cell? ⟨b2, 0, none⟩ = some (.int .i64 a2)) :
   Calls Try.prog 74 (#[.int .i64 x] ++ #[.pointer (some ⟨b1, 0, none⟩), .pointer (some ⟨b2, 0, none⟩)]) w fun e w' => e = .returned (.bool (!decide (a1 ≤ x ∧ x ≤ a2))) ∧ ∃ q', w' = w.drewN q' := by
  have H := Aside0.mk (impl_within_tells x a1 a2)
  generalize decide (a1 ≤ x ∧ x ≤ a2) = b at H ⊢
  go_enter Try.func74, Try.ntmps74
  go_wp2_with (go_at_call 55; refine (impl_within.calls x a1 a2 b _ H.out).mono ?_; rintro e w' ⟨rfl, ⟨nd, rfl⟩⟩)
  go_ret
  exact ⟨rfl, _, rfl⟩
set_option maxHeartbeats 2000000 in
theorem impl_areWithin.calls (A0 : Option Addr) (c0 : Nat) (l0 : List Int) (a1 a2 : Int) (r : Bool) (w : World) (hr0 : Kd.C (Kd.int .i64) w A0 l0.length l0) (hc0 : l0.length ≤ c0) (h : impl_areWithin.f l0 a1 a2 = some r) :
    Calls Try.prog 56 #[.slice A0 l0.length c0, .int .i64 a1, .int .i64 a2] w fun e w' => e = .returned (.bool r) ∧ Below w.heap.size w w' := by
  obtain rfl := Option.some.inj h
  clear h hc0
  have eg : ∀ args w, (callFunc 74 args).run Try.prog w = .ok (.enter 74 args) w := i64_enters Try.func74 (by kernel_rfl) rfl
  have e : (l0.all fun x => decide (a1 ≤ x ∧ x ≤ a2)) = !(l0.any fun x => !decide (a1 ≤ x ∧ x ≤ a2)) := by simp [List.all_eq_not_any_not]
  rw [e]
  have HR := Aside0.mk hr0
  clear hr0 e
  have hp : ∃ p : Int → Bool, p = fun x => !decide (a1 ≤ x ∧ x ≤ a2) := ⟨_, rfl⟩
  obtain ⟨p, hp⟩ := hp
  rw [← hp]
  have HP := Aside0.mk hp
  clear hp
  go_enter Try.func56, Try.ntmps56
  go_wp2_with (go_at_call 73; refine (i64_ctf 74 _ eg p A0 c0 l0 _ (by have hb := ((Below.refl w.heap.size w).alloc (Nat.le_refl _) (.cells #[.int .i64 a1] 2 (0, 0))).alloc (by simp) (.cells #[.int .i64 a2] 2 (0, 0)); exact Kd.C_below HR.out hb) (fun x q => by rw [HP.out]; exact impl_areWithin.one _ _ a1 a2 x _ (by simp) (by simp))).mono ?_; rintro e w' ⟨rfl, q, rfl⟩)
  go_ret
  exact ⟨rfl, pw_below_drewN (((Below.refl w.heap.size w).alloc (Nat.le_refl _) _).alloc (by simp) _) _⟩
end Go.Proofs.Ytplgfchiaapmfaa.Q
namespace Go.Proofs.Ytplgfchiaapmfaa.Q
open Go.RowKit Go.Proofs.YtplgfchiaapmfaaW.PrintWords Go.Proofs.YtplgfchiaapmfaaW.PrintLast Go.Proofs.YtplgfchiaapmfaaW.PrintMore
attribute [local go_sem] max2_int min2_int max_two min_two max_three min_three max_four min_four   -- for this text's walks alone
set_option linter.unusedVariables false
set_option linter.unusedSimpArgs false
mutual
def impl_IntervalSystem.j0 : Nat → Int → List (List Int) → Bool → Option (Int × List Int × Bool)
 | 0, _, _, _ => none
 | k + 1, x0, x1, x16 => if x16 = true then (some (0, ([] : List Int), false)) else (impl_IntervalSystem.l0 k x0 x1 (x1.length : Int) 0 x0 ([] : List Int))
def impl_IntervalSystem.l0 : Nat → Int → List (List Int) → Int → Int → Int → List Int → Option (Int × List Int × Bool)
 | 0, _, _, _, _, _, _ => none
 | k + 1, x0, x20, x21, x22, x258000, x258001 => if x22 < x21 then (if 0 ≤ x22 then (if x22 < (x20.length : Int) then (if ((rd_L1 x20 x22).length : Int) = 2 then ((impl_areWithin.f (rd_L1 x20 x22) 0 (wrap64 (x0 - 1))).bind fun t259 => (if t259 = true then (if 0 < ((rd_L1 x20 x22).length : Int) then (if 1 < ((rd_L1 x20 x22).length : Int) then (if (rd (rd_L1 x20 x22) 0) > (rd (rd_L1 x20 x22) 1) then (some (0, ([] : List Int), false)) else (if 0 ≤ (wrap64 ((rd (rd_L1 x20 x22) 1) + 1)) then (if 0 ≤ (rd (rd_L1 x20 x22) 0) then (if x258001.length < 17592186044416 then (impl_IntervalSystem.l0 k x0 x20 x21 (wrap64 (x22 + 1)) x258000 (x258001 ++ [wrap64 ((shl .i64 1 (wrap64 ((rd (rd_L1 x20 x22) 1) + 1))) - (shl .i64 1 (rd (rd_L1 x20 x22) 0)))])) else (none)) else (none)) else (none))) else (none)) else (none)) else (some (0, ([] : List Int), false)))) else (some (0, ([] : List Int), false))) else (none)) else (none)) else (some (x258000, x258001, true))
end
def impl_IntervalSystem.f (k : Nat) (a0 : Int) (l1 : List (List Int)) : Option (Int × List Int × Bool) := (impl_within.f a0 0 12).bind fun t256 => (if t256 = true then (impl_IntervalSystem.j0 k a0 l1 (decide ((l1.length : Int) > 12))) else (impl_IntervalSystem.j0 k a0 l1 true))
theorem impl_IntervalSystem.mono_l : ∀ k, (∀ y0 y1 y2, LeO (impl_IntervalSystem.j0 k y0 y1 y2) (impl_IntervalSystem.j0 (k + 1) y0 y1 y2)) ∧ (∀ y0 y1 y2 y3 y4 y5, LeO (impl_IntervalSystem.l0 k y0 y1 y2 y3 y4 y5) (impl_IntervalSystem.l0 (k + 1) y0 y1 y2 y3 y4 y5))
 | 0 => ⟨fun _ _ _ r h => by simp [impl_IntervalSystem.j0] at h, fun _ _ _ _ _ _ r h => by simp [impl_IntervalSystem.l0] at h⟩
 | k + 1 => by
  obtain ⟨ih0, ih1⟩ := impl_IntervalSystem.mono_l k
  refine ⟨?_, ?_⟩
  ·intro y0 y1 y2
   unfold impl_IntervalSystem.j0
   repeat' first
   | (with_reducible exact ih0 _ _ _)
   | (with_reducible exact ih1 _ _ _ _ _ _)
   | (with_reducible exact LeO.refl _)
   | (with_reducible exact LeO.none _)
   | (with_reducible refine LeO.ite ?_ ?_)
   | (with_reducible refine LeO.bind ?_ (fun _ => ?_))
   | exact ih0 _ _ _
   | exact ih1 _ _ _ _ _ _
   | exact LeO.none _
   | refine LeO.ite ?_ ?_
   | refine LeO.bind ?_ (fun _ => ?_)
  ·intro y0 y1 y2 y3 y4 y5
   unfold impl_IntervalSystem.l0
   repeat' first
   | (with_reducible exact ih0 _ _ _)
   | (with_reducible exact ih1 _ _ _ _ _ _)
   | (with_reducible exact LeO.refl _)
   | (with_reducible exact LeO.none _)
   | (with_reducible refine LeO.ite ?_ ?_)
   | (with_reducible refine LeO.bind ?_ (fun _ => ?_))
   | exact ih0 _ _ _
   | exact ih1 _ _ _ _ _ _
   | exact LeO.none _
   | refine LeO.ite ?_ ?_
   | refine LeO.bind ?_ (fun _ => ?_)
theorem impl_IntervalSystem.mono : ∀ a0 a1 k, LeO (impl_IntervalSystem.f k a0 a1) (impl_IntervalSystem.f (k + 1) a0 a1) := by
 intro a0 a1 k
 obtain ⟨ih0, ih1⟩ := impl_IntervalSystem.mono_l k
 unfold impl_IntervalSystem.f
 repeat' first
   | (with_reducible exact ih0 _ _ _)
   | (with_reducible exact ih1 _ _ _ _ _ _)
   | (with_reducible exact LeO.refl _)
   | (with_reducible exact LeO.none _)
   | (with_reducible refine LeO.ite ?_ ?_)
   | (with_reducible refine LeO.bind ?_ (fun _ => ?_))
   | exact ih0 _ _ _
   | exact ih1 _ _ _ _ _ _
   | exact LeO.none _
   | refine LeO.ite ?_ ?_
   | refine LeO.bind ?_ (fun _ => ?_)
def impl_IntervalSystem.T7 : Bool × List (List Nat × List Nat) := (true, [([], []), ([0], [0]), ([1], [1]), ([2], [2]), ([3], [3]), ([3], [3]), ([5, 3], [3, 5]), ([4, 6, 3, 3], [3, 4, 6]), ([7, 3], [3, 7]), ([3, 8], [3, 8]), ([9, 7], [9]), ([10], [10]), ([11, 10], [10, 11]), ([12, 10], [10, 12]), ([10], [10]), ([14, 10], [10, 14]), ([15, 10], [10, 15]), ([13, 16, 10], [10, 13, 16]), ([10, 17], [10, 17])])
def impl_IntervalSystem.B7 : List Nat := [0, 1, 3, 7, 15, 15, 47, 127, 255, 511, 1023, 2047, 4095, 8191, 2047, 18431, 51199, 131071, 262143]
theorem impl_IntervalSystem.tab7 : rtab .any (opsOf Try.f29 7) = impl_IntervalSystem.T7 := by kernel_rfl
theorem impl_IntervalSystem.bits7 : waitsOk impl_IntervalSystem.T7.2 impl_IntervalSystem.B7 = true := by kernel_rfl
def impl_IntervalSystem.T9 : Bool × List (List Nat × List Nat) := (true, [([], []), ([0], [0]), ([], []), ([2], [2]), ([3], [3]), ([4], [4]), ([5], [5]), ([], []), ([7], [7]), ([8], [8]), ([9], [9]), ([6, 10], [6, 10]), ([11], [11]), ([1, 12], [1, 12]), ([0, 1, 2, 3, 4, 5, 6, 7, 8, 9, 10, 11, 12, 13], []), ([14, 13, 13, 0, 1, 2, 3, 4, 5, 6, 7, 8, 9, 10, 11, 12, 13], [13, 14])])
def impl_IntervalSystem.B9 : List Nat := [0, 1, 0, 4, 12, 28, 60, 0, 128, 384, 896, 2044, 4092, 8191, 16383, 32767]
theorem impl_IntervalSystem.tab9 : rtab .any (opsOf Try.f29 9) = impl_IntervalSystem.T9 := by kernel_rfl
theorem impl_IntervalSystem.bits9 : waitsOk impl_IntervalSystem.T9.2 impl_IntervalSystem.B9 = true := by kernel_rfl
set_option maxHeartbeats 8000000 in
set_option maxRecDepth 100000 in
theorem impl_IntervalSystem.calls (k : Nat) (a0 : Int) (A1 : Option Addr) (c1 : Nat) (l1 : List (List Int)) (r1 : Int) (r2 : List Int) (r3 : Bool) (w : World) (hr1 : Kd.C (Kd.slice 2 (Kd.int .i64)) w A1 l1.length l1) (hc1 : l1.length ≤ c1) (h : impl_IntervalSystem.f k a0 l1 = some (r1, r2, r3)) :
  Calls Try.prog 29 #[.int .i64 a0, .slice A1 l1.length c1] w fun e w' => ∃ v1_ : Value, e = .returned (.tuple #[.agg #[.int .i64 r1, v1_], .bool r3]) ∧ Kd.R (Kd.int .i64) 2 w' w.heap.size (fun _ => True) v1_ r2 ∧ Below w.heap.size w w' := by
 have hu27 := Try.underlying27
 have HR1 := Aside0.mk hr1
 have HC1 := Aside0.mk hc1
 clear hr1 hc1
 have HB := Aside0.mk (Below.refl w.heap.size w)
 have H : ((impl_within.f a0 0 12).bind fun t256 => (if t256 = true then (impl_IntervalSystem.j0 k a0 l1 (decide ((l1.length : Int) > 12))) else (impl_IntervalSystem.j0 k a0 l1 true))) = some (r1, r2, r3) := h
 clear h
 have HC3 := Aside0.mk H
 clear H
 go_enter Try.func29, Try.ntmps29
 go_upto_region 1 with (first | ((with_reducible refine gate_dst (N := 4) rfl ?_); (try (refine gate_guard (by rfl) ?_; dsimp only)); refine box_event ?hg (N := 4) ?hd (cs := #[.int .i64 0, .slice none 0 0]) (t := 27) ?hr ?_; (case hd => rfl); (case hg => rfl); (case hr => first | (go_simp; done) | (go_simp; rfl)); intro gb255 hg w4 hbox hb; have n0_ := Aside0.mk (below_step (by repeat (first | (with_reducible first | exact HB.out | apply below_alloc | apply pw_below_drewN | apply below_drew1) | exact HB.out)) hb); have n1_ := Aside0.mk (hbox); have n2_ := Aside0.mk ((by rw [hg]; exact (below_size (by repeat (first | (with_reducible first | exact HB.out | apply below_alloc | apply pw_below_drewN | apply below_drew1) | exact HB.out))) : w.heap.size ≤ gb255)); have n3_ := Aside0.mk ((by rw [hg]; exact (below_size (by repeat (first | (with_reducible first | exact HB.out | apply below_alloc | apply pw_below_drewN | apply below_drew1) | exact HB.out))) : w.heap.size ≤ gb255)); clear HB; have HB := n0_; have BK255 := n1_; have GW255 := n2_; have GE255 := n3_; clear n0_ n1_ n2_ n3_; clear hb hbox hg))
 (try simp only [Act.put, List.setIfInBounds_toArray, List.set_cons_zero, List.set_cons_succ])
 go_cut [16] (fun v16 wc => ∃ (kq : Nat) (x16_2 : Bool), v16 = .bool x16_2 ∧ Aside0 (impl_IntervalSystem.j0 kq a0 l1 x16_2 = some (r1, r2, r3)) ∧ Aside0 (kq ≤ k) ∧ Aside0 (wc.heap[gb255]? = some (.cells #[.int .i64 0, (.slice none 0 0)] 27 (0, 0))) ∧ Aside0 (Below w.heap.size w wc))
 case first =>
  have H := HC3.out
  clear HC3
  replace H := Option.bind_eq_some_iff.mp H
  obtain ⟨t256, A50, H⟩ := H
  replace H : (if t256 = true then (impl_IntervalSystem.j0 k a0 l1 (decide ((l1.length : Int) > 12))) else (impl_IntervalSystem.j0 k a0 l1 true)) = some (r1, r2, r3) := H
  have A5 := Aside0.mk A50
  clear A50
  by_cases c6 : t256 = true
  ·subst c6
   have H1 : (impl_IntervalSystem.j0 k a0 l1 (decide ((l1.length : Int) > 12))) = some (r1, r2, r3) := by rw [if_pos rfl] at H; exact H
   clear H
   have H := H1
   clear H1
   have H' := Aside0.mk H
   clear H
   go_wp2_with (first | ((with_reducible refine gate_callee (f := 55) rfl ?_); refine goesL_ (some 10) rfl rfl Try.func55 (by kernel_rfl) rfl #[.int .i64 a0, .int .i64 0, .int .i64 12] rfl (by (try simp only [List.map_toArray, List.map_cons, List.map_nil]); first | done | rfl | (simp only [List.length_drop, List.length_take]; rfl) | (simp only [show ∀ (n_ : Nat) (b_ : Int), Int.tdiv (n_ : Int) b_ = (n_ : Int) / b_ from fun n_ b_ => Int.tdiv_eq_ediv_of_nonneg (Int.natCast_nonneg n_)]; rfl)) ?_; (with_reducible refine (impl_within.calls a0 0 12 true _ A5.out).mono ?_); rintro e w' ⟨rfl, ⟨nd, rfl⟩⟩; refine ⟨_, rfl, ?_⟩))
   go_meet
   case rel => exact ⟨_, (decide ((l1.length : Int) > 12)), (by first | rfl | (simp; done) | (simp [*]; done)), H', ⟨by first | omega | exact Nat.le_refl _⟩, ⟨by (with_reducible repeat (first | refine blk_drewN ?_ _ | refine blk_drew ?_ | refine blk_alloc ?_ _)); exact BK255.out⟩, ⟨by repeat (first | (with_reducible first | exact HB.out | apply below_alloc | apply pw_below_drewN | apply below_drew1 | refine below_set ?_ GE255.out) | exact HB.out)⟩⟩
  ·replace c6 := Bool.eq_false_iff.mpr c6
   subst c6
   have H1 : (impl_IntervalSystem.j0 k a0 l1 true) = some (r1, r2, r3) := by rw [if_neg (show ¬ (false = true) by decide)] at H; exact H
   clear H
   have H := H1
   clear H1
   have H' := Aside0.mk H
   clear H
   go_wp2_with (first | ((with_reducible refine gate_callee (f := 55) rfl ?_); refine goesL_ (some 10) rfl rfl Try.func55 (by kernel_rfl) rfl #[.int .i64 a0, .int .i64 0, .int .i64 12] rfl (by (try simp only [List.map_toArray, List.map_cons, List.map_nil]); first | done | rfl | (simp only [List.length_drop, List.length_take]; rfl) | (simp only [show ∀ (n_ : Nat) (b_ : Int), Int.tdiv (n_ : Int) b_ = (n_ : Int) / b_ from fun n_ b_ => Int.tdiv_eq_ediv_of_nonneg (Int.natCast_nonneg n_)]; rfl)) ?_; (with_reducible refine (impl_within.calls a0 0 12 false _ A5.out).mono ?_); rintro e w' ⟨rfl, ⟨nd, rfl⟩⟩; refine ⟨_, rfl, ?_⟩))
   go_meet
   case rel => exact ⟨_, (true), (by first | rfl | (simp; done) | (simp [*]; done)), H', ⟨by first | omega | exact Nat.le_refl _⟩, ⟨by (with_reducible repeat (first | refine blk_drewN ?_ _ | refine blk_drew ?_ | refine blk_alloc ?_ _)); exact BK255.out⟩, ⟨by repeat (first | (with_reducible first | exact HB.out | apply below_alloc | apply pw_below_drewN | apply below_drew1 | refine below_set ?_ GE255.out) | exact HB.out)⟩⟩
 case rest =>
  clear HC3
  try clear c1
  try clear c2
  try clear p2
  try clear c5
  try clear c6
  obtain ⟨kq, x16_2, rfl, HA, HJ2, BK255, HB⟩ := hcut
  cases kq with
  | zero => exact absurd HA.out (by simp [impl_IntervalSystem.j0])
  | succ kj2 =>
   have H := HA.out
   clear HA
   simp only [impl_IntervalSystem.j0] at H
   by_cases c7 : x16_2 = true
   ·subst c7
    have H1 : (some (0, ([] : List Int), false)) = some (r1, r2, r3) := by rw [if_pos rfl] at H; exact H
    clear H
    have H := H1
    clear H1
    simp only [Option.some.injEq, Prod.mk.injEq] at H
    obtain ⟨rfl, rfl, rfl⟩ := H
    have hcz8_0 : wc.cell? ⟨gb255, 0, none⟩ = some (.int .i64 0) := (blk_cell BK255.out 0).trans rfl
    have hcz8_1 : wc.cell? ⟨gb255, 1, none⟩ = some (.slice none 0 0) := (blk_cell BK255.out 1).trans rfl
    have hfz8_0 := blk_frozen BK255.out 0
    have hfz8_1 := blk_frozen BK255.out 1
    go_wp2
    refine bodyPost_ret (results_ct rfl _ _ gb255 27 #[.int .i64 0, .slice none 0 0] (0, 0) _ rfl (by (with_reducible repeat (first | refine blk_drewN ?_ _ | refine blk_drew ?_ | refine blk_alloc ?_ _)); refine blk_put (cs := #[.int .i64 0, .slice none 0 0]) ?_ 1 _ rfl; (with_reducible repeat (first | refine blk_drewN ?_ _ | refine blk_drew ?_ | refine blk_alloc ?_ _)); refine blk_put (cs := #[.int .i64 0, .slice none 0 0]) ?_ 0 _ rfl; (with_reducible repeat (first | refine blk_drewN ?_ _ | refine blk_drew ?_ | refine blk_alloc ?_ _)); exact BK255.out) Try.underlying27 rfl (by kernel_rfl)) rfl ?_
    exact ⟨_, by first | rfl | (simp [errW_none, errW_some] <;> rfl) | (simp [*, errW_none, errW_some] <;> rfl), by first | exact Kd.R_nil _ _ _ _ _ | exact Kd.N_nil _ _ _ _ _ | exact Kd.V_nil _ _ _ _ _ | exact Kd.Q_nil _ _ _ _ _ | exact Kd.S_nil _ _ _ _ _, by repeat (first | (with_reducible first | exact HB.out | apply below_alloc | apply pw_below_drewN | apply below_drew1 | refine below_set ?_ GE255.out) | exact HB.out)⟩
   ·replace c7 := Bool.eq_false_iff.mpr c7
    subst c7
    have H1 : (impl_IntervalSystem.l0 kj2 a0 l1 (l1.length : Int) 0 a0 ([] : List Int)) = some (r1, r2, r3) := by rw [if_neg (show ¬ (false = true) by decide)] at H; exact H
    clear H
    have H := H1
    clear H1
    have H' := Aside0.mk H
    clear H
    go_wp2_with (first | ((with_reducible refine gate_dst (N := 6) rfl ?_); (try (refine gate_guard (by rfl) ?_; dsimp only)); refine box_event ?hg (N := 6) ?hd (cs := #[.int .i64 0, .slice none 0 0]) (t := 27) ?hr ?_; (case hd => rfl); (case hg => rfl); (case hr => first | (go_simp; done) | (go_simp; rfl)); intro gb257 hg w9 hbox hb; have n0_ := Aside0.mk (blk_below (g := gb255) (o := .cells #[.int .i64 0, .slice none 0 0] 27 (0, 0)) (by (with_reducible repeat (first | refine blk_drewN ?_ _ | refine blk_drew ?_ | refine blk_alloc ?_ _)); exact BK255.out) hb); have n1_ := Aside0.mk (below_step (by repeat (first | (with_reducible first | exact HB.out | apply below_alloc | apply pw_below_drewN | apply below_drew1 | refine below_set ?_ GE255.out) | exact HB.out)) hb); have n2_ := Aside0.mk (hbox); have n3_ := Aside0.mk ((by rw [hg]; exact (below_size (by repeat (first | (with_reducible first | exact HB.out | apply below_alloc | apply pw_below_drewN | apply below_drew1 | refine below_set ?_ GE255.out) | exact HB.out))) : w.heap.size ≤ gb257)); have n4_ := Aside0.mk ((by rw [hg]; exact (below_size (by repeat (first | (with_reducible first | exact HB.out | apply below_alloc | apply pw_below_drewN | apply below_drew1 | refine below_set ?_ GE255.out) | exact HB.out))) : w.heap.size ≤ gb257)); have n5_ := Aside0.mk ((by rw [hg]; exact Nat.ne_of_lt (blk_lt (g := gb255) (o := .cells #[.int .i64 0, .slice none 0 0] 27 (0, 0)) (by (with_reducible repeat (first | refine blk_drewN ?_ _ | refine blk_drew ?_ | refine blk_alloc ?_ _)); exact BK255.out)) : gb255 ≠ gb257)); have n6_ := Aside0.mk ((by rw [hg]; exact Nat.ne_of_gt (blk_lt (g := gb255) (o := .cells #[.int .i64 0, .slice none 0 0] 27 (0, 0)) (by (with_reducible repeat (first | refine blk_drewN ?_ _ | refine blk_drew ?_ | refine blk_alloc ?_ _)); exact BK255.out)) : gb257 ≠ gb255)); clear BK255; clear HB; have BK255 := n0_; have HB := n1_; have BK257 := n2_; have GW257 := n3_; have GE257 := n4_; have NB255_257 := n5_; have NB257_255 := n6_; clear n0_ n1_ n2_ n3_ n4_ n5_ n6_; clear hb hbox hg; have hnb10 := NB257_255.out; have hnc10 := NB255_257.out; have hcz11_0 : w9.cell? ⟨gb257, 0, none⟩ = some (.int .i64 0) := (blk_cell BK257.out 0).trans rfl; have hcz11_1 : w9.cell? ⟨gb257, 1, none⟩ = some (.slice none 0 0) := (blk_cell BK257.out 1).trans rfl; have hfz11_0 := blk_frozen BK257.out 0; have hfz11_1 := blk_frozen BK257.out 1))
    go_loopg [22] kj2 (fun kq v22 w' => ∃ (x22_2 : Int) (x256000_2 : Int) (x258001_2 : List Int) (u258001 : Value), v22 = .int .i64 x22_2 ∧ Aside0 (impl_IntervalSystem.l0 kq a0 l1 (l1.length : Int) x22_2 a0 x258001_2 = some (r1, r2, r3)) ∧ Aside0 (kq ≤ kj2) ∧ Aside0 (Kd.R (Kd.int .i64) 2 w' w.heap.size (fun _ => True) u258001 x258001_2) ∧ Aside0 (w'.heap[gb255]? = some (.cells #[.int .i64 x256000_2, (.slice none 0 0)] 27 (0, 0))) ∧ Aside0 (w'.heap[gb257]? = some (.cells #[.int .i64 a0, u258001] 27 (0, 0))) ∧ Aside0 (Below w.heap.size w w'))
    case atStart => exact ⟨(0), (0), (([] : List Int)), (.slice none 0 0), (by first | rfl | (simp; done) | (simp [*]; done)), H', ⟨Nat.le_refl _⟩, ⟨by first | exact Kd.R_nil _ _ _ _ _ | exact Kd.N_nil _ _ _ _ _ | exact Kd.V_nil _ _ _ _ _ | exact Kd.Q_nil _ _ _ _ _ | exact Kd.S_nil _ _ _ _ _⟩, ⟨by (with_reducible repeat (first | refine blk_drewN ?_ _ | refine blk_drew ?_ | refine blk_alloc ?_ _)); refine blk_far ?_ NB255_257.out _; (with_reducible repeat (first | refine blk_drewN ?_ _ | refine blk_drew ?_ | refine blk_alloc ?_ _)); refine blk_far ?_ NB255_257.out _; (with_reducible repeat (first | refine blk_drewN ?_ _ | refine blk_drew ?_ | refine blk_alloc ?_ _)); exact BK255.out⟩, ⟨by (with_reducible repeat (first | refine blk_drewN ?_ _ | refine blk_drew ?_ | refine blk_alloc ?_ _)); refine blk_put (cs := #[.int .i64 a0, .slice none 0 0]) ?_ 1 _ rfl; (with_reducible repeat (first | refine blk_drewN ?_ _ | refine blk_drew ?_ | refine blk_alloc ?_ _)); refine blk_put (cs := #[.int .i64 0, .slice none 0 0]) ?_ 0 _ rfl; (with_reducible repeat (first | refine blk_drewN ?_ _ | refine blk_drew ?_ | refine blk_alloc ?_ _)); exact BK257.out⟩, ⟨by repeat (first | (with_reducible first | exact HB.out | apply below_alloc | apply pw_below_drewN | apply below_drew1 | refine below_set ?_ GE255.out | refine below_set ?_ GE257.out) | exact HB.out)⟩⟩
    case round =>
     clear H'
     try clear c1
     try clear c2
     try clear p2
     try clear c5
     try clear c6
     try clear c7
     try clear c10
     try clear hcz11_0
     try clear hcz11_1
     try clear hcz8_0
     try clear hcz8_1
     try clear hfz11_0
     try clear hfz11_1
     try clear hfz8_0
     try clear hfz8_1
     try clear p2
     obtain ⟨x22_2, x256000_2, x258001_2, u258001, rfl, HA, HK2, HO_258001, BK255, BK257, HB⟩ := hrel
     cases gk with
     | zero => exact absurd HA.out (by simp [impl_IntervalSystem.l0])
     | succ k2 =>
      have H := HA.out
      clear HA
      simp only [impl_IntervalSystem.l0] at H
      by_cases c12 : x22_2 < (l1.length : Int)
      ·rw [if_pos c12] at H
       have c12b0 : decide (x22_2 < (l1.length : Int)) = true := decide_eq_true c12
       clear c12
       by_cases c13 : 0 ≤ x22_2
       ·rw [if_pos c13] at H
        have c13b0 : decide (0 ≤ x22_2) = true := decide_eq_true c13
        clear c13
        by_cases c14 : x22_2 < (l1.length : Int)
        ·rw [if_pos c14] at H
         have c14b0 : decide (x22_2 < (l1.length : Int)) = true := decide_eq_true c14
         clear c14
         by_cases c15 : ((rd_L1 l1 x22_2).length : Int) = 2
         ·rw [if_pos c15] at H
          have c15b0 : (((rd_L1 l1 x22_2).length : Int) == 2) = true := beq_iff_eq.mpr c15
          have c15b1 : (((rd_L1 l1 x22_2).length : Int) != 2) = false := bne_eq_false_iff_eq.mpr c15
          clear c15
          replace H := Option.bind_eq_some_iff.mp H
          obtain ⟨t259, A160, H⟩ := H
          replace H : (if t259 = true then (if 0 < ((rd_L1 l1 x22_2).length : Int) then (if 1 < ((rd_L1 l1 x22_2).length : Int) then (if (rd (rd_L1 l1 x22_2) 0) > (rd (rd_L1 l1 x22_2) 1) then (some (0, ([] : List Int), false)) else (if 0 ≤ (wrap64 ((rd (rd_L1 l1 x22_2) 1) + 1)) then (if 0 ≤ (rd (rd_L1 l1 x22_2) 0) then (if x258001_2.length < 17592186044416 then (impl_IntervalSystem.l0 k2 a0 l1 (l1.length : Int) (wrap64 (x22_2 + 1)) a0 (x258001_2 ++ [wrap64 ((shl .i64 1 (wrap64 ((rd (rd_L1 l1 x22_2) 1) + 1))) - (shl .i64 1 (rd (rd_L1 l1 x22_2) 0)))])) else (none)) else (none)) else (none))) else (none)) else (none)) else (some (0, ([] : List Int), false))) = some (r1, r2, r3) := H
          have A16 := Aside0.mk A160
          clear A160
          by_cases c17 : t259 = true
          ·subst c17
           have H1 : (if 0 < ((rd_L1 l1 x22_2).length : Int) then (if 1 < ((rd_L1 l1 x22_2).length : Int) then (if (rd (rd_L1 l1 x22_2) 0) > (rd (rd_L1 l1 x22_2) 1) then (some (0, ([] : List Int), false)) else (if 0 ≤ (wrap64 ((rd (rd_L1 l1 x22_2) 1) + 1)) then (if 0 ≤ (rd (rd_L1 l1 x22_2) 0) then (if x258001_2.length < 17592186044416 then (impl_IntervalSystem.l0 k2 a0 l1 (l1.length : Int) (wrap64 (x22_2 + 1)) a0 (x258001_2 ++ [wrap64 ((shl .i64 1 (wrap64 ((rd (rd_L1 l1 x22_2) 1) + 1))) - (shl .i64 1 (rd (rd_L1 l1 x22_2) 0)))])) else (none)) else (none)) else (none))) else (none)) else (none)) = some (r1, r2, r3) := by rw [if_pos rfl] at H; exact H
           clear H
           have H := H1
           clear H1
           by_cases c18 : 0 < ((rd_L1 l1 x22_2).length : Int)
           ·rw [if_pos c18] at H
            have c18b0 : decide (0 < ((rd_L1 l1 x22_2).length : Int)) = true := decide_eq_true c18
            have c18b1 : decide (0 < (rd_L1 l1 x22_2).length) = true := decide_eq_true (by omega)
            clear c18
            by_cases c19 : 1 < ((rd_L1 l1 x22_2).length : Int)
            ·rw [if_pos c19] at H
             have c19b0 : decide (1 < ((rd_L1 l1 x22_2).length : Int)) = true := decide_eq_true c19
             have c19b1 : decide (1 < (rd_L1 l1 x22_2).length) = true := decide_eq_true (by omega)
             clear c19
             by_cases c20 : (rd (rd_L1 l1 x22_2) 0) > (rd (rd_L1 l1 x22_2) 1)
             ·rw [if_pos c20] at H
              have c20b0 : decide ((rd (rd_L1 l1 x22_2) 1) < (rd (rd_L1 l1 x22_2) 0)) = true := decide_eq_true c20
              clear c20
              simp only [Option.some.injEq, Prod.mk.injEq] at H
              obtain ⟨rfl, rfl, rfl⟩ := H
              have p258 : 0 ≤ (x22_2 : Int) := of_decide_eq_true (by first | (with_reducible assumption) | assumption)
              have q258 : x22_2 < (l1.length : Int) := of_decide_eq_true (by first | (with_reducible assumption) | assumption)
              obtain ⟨ad258, A258_0, c258_0, e258, hx258_0, hl258_0, hi258_0⟩ := at_L1 HR1.out x22_2 p258 q258
              cases e258
              replace hx258_0 := (HB.out.cell (World.block_lt_of_cell? w _ hx258_0)).trans hx258_0
              have HR258_0 := Aside0.mk hi258_0
              have HC258_0 := Aside0.mk hl258_0
              clear hi258_0 hl258_0
              replace p258 := eq_true p258
              replace q258 := eq_true q258
              try go_wp2
              have n0_ := Aside0.mk (Kd.R_drew HO_258001.out)
              have n1_ := Aside0.mk (blk_drew BK255.out)
              have n2_ := Aside0.mk (blk_drew BK257.out)
              have n3_ := Aside0.mk (below_drew1 HB.out)
              clear HO_258001
              clear BK255
              clear BK257
              clear HB
              have HO_258001 := n0_
              have BK255 := n1_
              have BK257 := n2_
              have HB := n3_
              clear n0_ n1_ n2_ n3_
              have p260 : 0 ≤ (0 : Int) := (by omega)
              have q260 : 0 < ((rd_L1 l1 x22_2).length : Int) := of_decide_eq_true (by first | (with_reducible assumption) | assumption)
              obtain ⟨ad260, e260, hx260_0⟩ := Kd.at_int HR258_0.out 0 p260 q260
              have hw260_0 := hx260_0
              (try rw [show ((0 : Int)).toNat = 0 from rfl] at hw260_0)
              (try rw [show 0 * 1 = 0 from rfl] at hw260_0)
              (try rw [Addr.add_zero'] at hw260_0)
              cases e260
              have qi260 : (0 < (rd_L1 l1 x22_2).length) = True := eq_true (by omega)
              (try rw [show ((0 : Int)).toNat = 0 from rfl] at hx260_0)
              (try rw [Addr.add_zero'] at hx260_0)
              replace hx260_0 := (HB.out.cell (World.block_lt_of_cell? w _ hx260_0)).trans hx260_0
              replace p260 := eq_true p260
              replace q260 := eq_true q260
              have p261 : 0 ≤ (1 : Int) := (by omega)
              have q261 : 1 < ((rd_L1 l1 x22_2).length : Int) := of_decide_eq_true (by first | (with_reducible assumption) | assumption)
              obtain ⟨ad261, e261, hx261_0⟩ := Kd.at_int HR258_0.out 1 p261 q261
              have hw261_0 := hx261_0
              (try rw [show ((1 : Int)).toNat = 1 from rfl] at hw261_0)
              (try rw [show 1 * 1 = 1 from rfl] at hw261_0)
              (try simp only [Nat.reduceMul, Nat.reduceEqDiff, Go.Addr.add, ↓reduceIte] at hw261_0)
              obtain rfl : ad260 = ad261 := (by injection e261)
              (try simp only [show (1 : Int).toNat = 1 from rfl, Nat.reduceMul, Nat.reduceEqDiff, Go.Addr.add, ↓reduceIte] at hx261_0)
              have qi261 : (1 < (rd_L1 l1 x22_2).length) = True := eq_true (by omega)
              (try rw [show ((1 : Int)).toNat = 1 from rfl] at hx261_0)
              replace hx261_0 := (HB.out.cell (World.block_lt_of_cell? w _ hx261_0)).trans hx261_0
              replace p261 := eq_true p261
              replace q261 := eq_true q261
              refine start_ (n := 19) (S := fun w' => w'.cell? ad260 = some (.int .i64 (rd (rd_L1 l1 x22_2) 0)) ∧ w'.cell? ⟨ad260.block, ad260.off + 1, none⟩ = some (.int .i64 (rd (rd_L1 l1 x22_2) 1))) (ds := []) #[false, false, false, false, false, false, false, false, false, false, false, false, false, false, false, false, false, false, false] (by kernel_rfl) rfl rfl ⟨((HB.out.cell (World.block_lt_of_cell? w _ hw260_0)).trans hw260_0), ((HB.out.cell (World.block_lt_of_cell? w _ hw261_0)).trans hw261_0)⟩ (fun hHeld => ?_); refine with_tabW impl_IntervalSystem.tab7 impl_IntervalSystem.bits7 (fun HT_ HW_ => ?_)
              generalize wr.drew = w21 at HO_258001 BK255 BK257 HB hx260_0 hx261_0 hHeld ⊢
              refine pure_ (i := 0) (N := some 26) (v := ?_) (a' := ?_) #[true, false, false, false, false, false, false, false, false, false, false, false, false, false, false, false, false, false, false] rfl rfl (any_of HT_.out (by kernel_rfl)) (fun _ _ _ h => h) (Or.inl ⟨by rfl, ?_⟩) ?_ ?_
              rotate_left
              ·intro w'
               go_simp
               with_reducible rfl
              rotate_left
              ·simp only [Act.put, List.setIfInBounds_toArray, List.set_cons_zero, List.set_cons_succ, i64_w, i32_w]
               rfl
              refine pure_ (i := 1) (N := some 27) (v := ?_) (a' := ?_) #[true, true, false, false, false, false, false, false, false, false, false, false, false, false, false, false, false, false, false] rfl rfl (any_of HT_.out (by kernel_rfl)) (fun _ _ _ h => h) (Or.inl ⟨by rfl, ?_⟩) ?_ ?_
              rotate_left
              ·intro w'
               go_simp
               with_reducible rfl
              rotate_left
              ·simp only [Act.put, List.setIfInBounds_toArray, List.set_cons_zero, List.set_cons_succ, i64_w, i32_w]
               rfl
              refine pure_ (i := 2) (N := some 28) (v := ?_) (a' := ?_) #[true, true, true, false, false, false, false, false, false, false, false, false, false, false, false, false, false, false, false] rfl rfl (any_of HT_.out (by kernel_rfl)) (fun _ _ _ h => h) (Or.inl ⟨by rfl, ?_⟩) ?_ ?_
              rotate_left
              ·intro w'
               go_simp
               with_reducible rfl
              rotate_left
              ·simp only [Act.put, List.setIfInBounds_toArray, List.set_cons_zero, List.set_cons_succ, i64_w, i32_w]
               rfl
              refine pure_ (i := 3) (N := some 29) (v := ?_) (a' := ?_) #[true, true, true, true, false, false, false, false, false, false, false, false, false, false, false, false, false, false, false] rfl rfl (any_of HT_.out (by kernel_rfl)) (fun _ _ _ h => h) (Or.inl ⟨by rfl, ?_⟩) ?_ ?_
              rotate_left
              ·intro w'
               go_simp
               with_reducible rfl
              rotate_left
              ·simp only [Act.put, List.setIfInBounds_toArray, List.set_cons_zero, List.set_cons_succ, i64_w, i32_w]
               rfl
              refine pure_ (i := 4) (N := some 30) (v := ?_) (a' := ?_) #[true, true, true, true, true, false, false, false, false, false, false, false, false, false, false, false, false, false, false] rfl rfl (any_of HT_.out (by kernel_rfl)) (fun _ _ _ h => h) (Or.inl ⟨by rfl, ?_⟩) ?_ ?_
              rotate_left
              ·intro w'
               go_simp
               with_reducible rfl
              rotate_left
              ·simp only [Act.put, List.setIfInBounds_toArray, List.set_cons_zero, List.set_cons_succ, i64_w, i32_w]
               rfl
              refine pure_ (i := 5) (N := some 31) (v := ?_) (a' := ?_) #[true, true, true, true, true, true, false, false, false, false, false, false, false, false, false, false, false, false, false] rfl rfl (any_of HT_.out (by kernel_rfl)) (fun _ _ _ h => h) (Or.inl ⟨by rfl, ?_⟩) ?_ ?_
              rotate_left
              ·intro w'
               go_simp
               with_reducible rfl
              rotate_left
              ·simp only [Act.put, List.setIfInBounds_toArray, List.set_cons_zero, List.set_cons_succ, i64_w, i32_w]
               rfl
              refine pure_ (i := 6) (N := some 32) (v := ?_) (a' := ?_) #[true, true, true, true, true, true, true, false, false, false, false, false, false, false, false, false, false, false, false] rfl rfl (any_of HT_.out (by kernel_rfl)) (fun _ _ _ h => h) (Or.inl ⟨by rfl, ?_⟩) ?_ ?_
              rotate_left
              ·intro w'
               go_simp
               with_reducible rfl
              rotate_left
              ·simp only [Act.put, List.setIfInBounds_toArray, List.set_cons_zero, List.set_cons_succ, i64_w, i32_w]
               rfl
              refine one_ (i := 7) (N := some 33) #[true, true, true, true, true, true, true, true, false, false, false, false, false, false, false, false, false, false, false] rfl rfl (one_of HT_.out (by kernel_rfl)) (by decide) (fun K hK => ?_)
              refine goes_ Try.func56 (by kernel_rfl) rfl #[.slice (some ad260) (rd_L1 l1 x22_2).length c258_0, .int .i64 0, .int .i64 (wrap64 (a0 - 1))] (by rfl) rfl rfl (by (try simp only [List.map_toArray, List.map_cons, List.map_nil]); first | done | rfl | (simp only [List.length_drop, List.length_take]; rfl) | (simp only [show ∀ (n_ : Nat) (b_ : Int), Int.tdiv (n_ : Int) b_ = (n_ : Int) / b_ from fun n_ b_ => Int.tdiv_eq_ediv_of_nonneg (Int.natCast_nonneg n_)]; rfl)) ?_
              with_reducible refine (impl_areWithin.calls _ _ (rd_L1 l1 x22_2) 0 (wrap64 (a0 - 1)) true _ ?side1 ?side2 A16.out).mono ?_
              (case side1 => repeat (first | exact (Kd.C_below HR258_0.out HB.out) | (with_reducible refine Kd.C_alloc ?_ _) | (with_reducible refine Kd.C_drewN ?_ _) | (with_reducible refine Kd.C_drew ?_)))
              (case side2 => exact HC258_0.out)
              rintro e w22 ⟨rfl, hb⟩
              refine ⟨_, rfl, ?_⟩
              have n0_ := Aside0.mk (Kd.R_below (by (with_reducible repeat (first | apply Kd.R_alloc | apply Kd.R_drewN | apply Kd.R_drew)); exact HO_258001.out) hb)
              have n1_ := Aside0.mk (blk_below (g := gb255) (o := .cells #[.int .i64 x256000_2, .slice none 0 0] 27 (0, 0)) (by (with_reducible repeat (first | refine blk_drewN ?_ _ | refine blk_drew ?_ | refine blk_alloc ?_ _)); exact BK255.out) hb)
              have n2_ := Aside0.mk (blk_below (g := gb257) (o := .cells #[.int .i64 a0, u258001] 27 (0, 0)) (by (with_reducible repeat (first | refine blk_drewN ?_ _ | refine blk_drew ?_ | refine blk_alloc ?_ _)); exact BK257.out) hb)
              have n3_ := Aside0.mk (below_step (by repeat (first | (with_reducible first | exact HB.out | apply below_alloc | apply pw_below_drewN | apply below_drew1 | refine below_set ?_ GE255.out | refine below_set ?_ GE257.out) | exact HB.out)) hb)
              clear HO_258001
              clear BK255
              clear BK257
              clear HB
              have HO_258001 := n0_
              have BK255 := n1_
              have BK257 := n2_
              have HB := n3_
              clear n0_ n1_ n2_ n3_
              (try clear hb)
              (try clear hb2)
              (try clear hk)
              (try clear hi)
              refine hK.out _ _ ⟨((HB.out.cell (World.block_lt_of_cell? w _ hw260_0)).trans hw260_0), ((HB.out.cell (World.block_lt_of_cell? w _ hw261_0)).trans hw261_0)⟩ (fun hHeld => ?_)
              clear hK K
              refine norm_ (a' := ?_) ?_ ?_
              rotate_left
              ·show Act.put _ (some 33) _ = _
               simp only [Act.put, List.setIfInBounds_toArray, List.set_cons_zero, List.set_cons_succ, i64_w, i32_w]
               rfl
              refine pure_ (i := 8) (N := some 34) (v := ?_) (a' := ?_) #[true, true, true, true, true, true, true, true, true, false, false, false, false, false, false, false, false, false, false] rfl rfl (any_of HT_.out (by kernel_rfl)) (fun _ _ _ h => h) (Or.inl ⟨by rfl, ?_⟩) ?_ ?_
              rotate_left
              ·intro w'
               go_simp
               with_reducible rfl
              rotate_left
              ·simp only [Act.put, List.setIfInBounds_toArray, List.set_cons_zero, List.set_cons_succ, i64_w, i32_w]
               rfl
              refine pure_ (i := 9) (N := some 35) (v := ?_) (a' := ?_) #[true, true, true, true, true, true, true, true, true, true, false, false, false, false, false, false, false, false, false] rfl rfl (any_of HT_.out (by kernel_rfl)) (fun _ _ _ h => h) (Or.inl ⟨by rfl, ?_⟩) ?_ ?_
              rotate_left
              ·intro w'
               go_simp
               with_reducible rfl
              rotate_left
              ·simp only [Act.put, List.setIfInBounds_toArray, List.set_cons_zero, List.set_cons_succ, i64_w, i32_w]
               rfl
              refine pure_ (i := 10) (N := some 36) (v := ?_) (a' := ?_) #[true, true, true, true, true, true, true, true, true, true, true, false, false, false, false, false, false, false, false] rfl rfl (any_of HT_.out (by kernel_rfl)) (fun _ _ _ h => h) (Or.inl ⟨by rfl, ?_⟩) ?_ ?_
              rotate_left
              ·intro w'
               go_simp
               with_reducible rfl
              rotate_left
              ·simp only [Act.put, List.setIfInBounds_toArray, List.set_cons_zero, List.set_cons_succ, i64_w, i32_w]
               rfl
              refine pure_ (i := 11) (N := some 37) (v := ?_) (a' := ?_) #[true, true, true, true, true, true, true, true, true, true, true, true, false, false, false, false, false, false, false] rfl rfl (any_of HT_.out (by kernel_rfl)) (fun _ _ _ h => h) (Or.inl ⟨by rfl, ?_⟩) ?_ ?_
              rotate_left
              ·intro w'
               go_simp
               with_reducible rfl
              rotate_left
              ·simp only [Act.put, List.setIfInBounds_toArray, List.set_cons_zero, List.set_cons_succ, i64_w, i32_w]
               rfl
              refine pure_ (i := 12) (N := some 38) (v := ?_) (a' := ?_) #[true, true, true, true, true, true, true, true, true, true, true, true, true, false, false, false, false, false, false] rfl rfl (any_of HT_.out (by kernel_rfl)) (fun _ _ _ h => h) (Or.inl ⟨by rfl, ?_⟩) ?_ ?_
              rotate_left
              ·intro w'
               go_simp
               with_reducible rfl
              rotate_left
              ·simp only [Act.put, List.setIfInBounds_toArray, List.set_cons_zero, List.set_cons_succ, i64_w, i32_w]
               rfl
              refine pure_ (i := 14) (N := some 40) (v := ?_) (a' := ?_) #[true, true, true, true, true, true, true, true, true, true, true, true, true, false, true, false, false, false, false] rfl rfl (any_of HT_.out (by kernel_rfl)) (fun _ _ _ h => h) (Or.inl ⟨by rfl, ?_⟩) ?_ ?_
              rotate_left
              ·intro w'
               go_simp
               with_reducible rfl
              rotate_left
              ·simp only [Act.put, List.setIfInBounds_toArray, List.set_cons_zero, List.set_cons_succ, i64_w, i32_w]
               rfl
              refine pure_ (i := 15) (N := some 41) (v := ?_) (a' := ?_) #[true, true, true, true, true, true, true, true, true, true, true, true, true, false, true, true, false, false, false] rfl rfl (any_of HT_.out (by kernel_rfl)) (fun _ _ _ h => h) (Or.inl ⟨by rfl, ?_⟩) ?_ ?_
              rotate_left
              ·intro w'
               go_simp
               with_reducible rfl
              rotate_left
              ·simp only [Act.put, List.setIfInBounds_toArray, List.set_cons_zero, List.set_cons_succ, i64_w, i32_w]
               rfl
              refine take_ (i := 13) (N := some 39) (v := ?_) (a' := ?_) #[true, true, true, true, true, true, true, true, true, true, true, true, true, true, true, true, false, false, false] rfl rfl (take_ofW HT_.out HW_.out (by kernel_rfl)) (fun _ _ _ h => h) (Or.inl ⟨by rfl, ?_⟩) hHeld ?_ ?_
              rotate_left
              ·rintro w' ⟨s0, s1⟩
               go_simp
               with_reducible rfl
              rotate_left
              ·simp only [Act.put, List.setIfInBounds_toArray, List.set_cons_zero, List.set_cons_succ, i64_w, i32_w]
               rfl
              refine take_ (i := 16) (N := some 42) (v := ?_) (a' := ?_) #[true, true, true, true, true, true, true, true, true, true, true, true, true, true, true, true, true, false, false] rfl rfl (take_ofW HT_.out HW_.out (by kernel_rfl)) (fun _ _ _ h => h) (Or.inl ⟨by rfl, ?_⟩) hHeld ?_ ?_
              rotate_left
              ·rintro w' ⟨s0, s1⟩
               go_simp
               with_reducible rfl
              rotate_left
              ·simp only [Act.put, List.setIfInBounds_toArray, List.set_cons_zero, List.set_cons_succ, i64_w, i32_w]
               rfl
              refine pure_ (i := 17) (N := some 43) (v := ?_) (a' := ?_) #[true, true, true, true, true, true, true, true, true, true, true, true, true, true, true, true, true, true, false] rfl rfl (any_of HT_.out (by kernel_rfl)) (fun _ _ _ h => h) (Or.inl ⟨by rfl, ?_⟩) ?_ ?_
              rotate_left
              ·intro w'
               go_simp
               with_reducible rfl
              rotate_left
              ·simp only [Act.put, List.setIfInBounds_toArray, List.set_cons_zero, List.set_cons_succ, i64_w, i32_w]
               rfl
              refine pure_ (i := 18) (N := some 44) (v := ?_) (a' := ?_) #[true, true, true, true, true, true, true, true, true, true, true, true, true, true, true, true, true, true, true] rfl rfl (any_of HT_.out (by kernel_rfl)) (fun _ _ _ h => h) (Or.inl ⟨by rfl, ?_⟩) ?_ ?_
              rotate_left
              ·intro w'
               go_simp
               with_reducible rfl
              rotate_left
              ·simp only [Act.put, List.setIfInBounds_toArray, List.set_cons_zero, List.set_cons_succ, i64_w, i32_w]
               rfl
              refine done_ (done_of HT_.out (by kernel_rfl)) ?_
              have hnb23 := NB255_257.out
              have hnc23 := NB257_255.out
              have hcz24_0 : w22.cell? ⟨gb255, 0, none⟩ = some (.int .i64 x256000_2) := (blk_cell BK255.out 0).trans rfl
              have hcz24_1 : w22.cell? ⟨gb255, 1, none⟩ = some (.slice none 0 0) := (blk_cell BK255.out 1).trans rfl
              have hfz24_0 := blk_frozen BK255.out 0
              have hfz24_1 := blk_frozen BK255.out 1
              try go_wp2
              refine bodyPost_ret (results_ct rfl _ _ gb255 27 #[.int .i64 0, .slice none 0 0] (0, 0) _ rfl (by (with_reducible repeat (first | refine blk_drewN ?_ _ | refine blk_drew ?_ | refine blk_alloc ?_ _)); refine blk_put (cs := #[.int .i64 0, .slice none 0 0]) ?_ 1 _ rfl; (with_reducible repeat (first | refine blk_drewN ?_ _ | refine blk_drew ?_ | refine blk_alloc ?_ _)); refine blk_put (cs := #[.int .i64 x256000_2, .slice none 0 0]) ?_ 0 _ rfl; (with_reducible repeat (first | refine blk_drewN ?_ _ | refine blk_drew ?_ | refine blk_alloc ?_ _)); exact BK255.out) Try.underlying27 rfl (by kernel_rfl)) rfl ?_
              exact ⟨_, by first | rfl | (simp [errW_none, errW_some] <;> rfl) | (simp [*, errW_none, errW_some] <;> rfl), by first | exact Kd.R_nil _ _ _ _ _ | exact Kd.N_nil _ _ _ _ _ | exact Kd.V_nil _ _ _ _ _ | exact Kd.Q_nil _ _ _ _ _ | exact Kd.S_nil _ _ _ _ _, by repeat (first | (with_reducible first | exact HB.out | apply below_alloc | apply pw_below_drewN | apply below_drew1 | refine below_set ?_ GE255.out | refine below_set ?_ GE257.out) | exact HB.out)⟩
             ·rw [if_neg c20] at H
              have c20b0 : decide ((rd (rd_L1 l1 x22_2) 1) < (rd (rd_L1 l1 x22_2) 0)) = false := decide_eq_false c20
              clear c20
              obtain ⟨ji25, hji25⟩ : ∃ j_ : Int, (wrap64 ((rd (rd_L1 l1 x22_2) 1) + 1)) = j_ := ⟨_, rfl⟩
              replace H : (if 0 ≤ (ji25) then (if 0 ≤ (rd (rd_L1 l1 x22_2) 0) then (if x258001_2.length < 17592186044416 then (impl_IntervalSystem.l0 k2 a0 l1 (l1.length : Int) (wrap64 (x22_2 + 1)) a0 (x258001_2 ++ [wrap64 ((shl .i64 1 (ji25)) - (shl .i64 1 (rd (rd_L1 l1 x22_2) 0)))])) else (none)) else (none)) else (none)) = some (r1, r2, r3) := by first | (rw [hji25] at H; exact H) | (simp only [hji25] at H ⊢; exact H)
              (try rw [hji25] at A16)
              have hji25w : (IntKind.i64.wrap ((rd (rd_L1 l1 x22_2) 1) + 1)) = ji25 := (i64_w _).trans hji25
              by_cases c26 : 0 ≤ (ji25)
              ·rw [if_pos c26] at H
               have c26b0 := eq_true c26
               have c26b1 : decide (0 ≤ (ji25)) = true := decide_eq_true c26
               clear c26
               obtain ⟨ji27, hji27⟩ : ∃ j_ : Int, (shl .i64 1 (ji25)) = j_ := ⟨_, rfl⟩
               replace H : (if 0 ≤ (rd (rd_L1 l1 x22_2) 0) then (if x258001_2.length < 17592186044416 then (impl_IntervalSystem.l0 k2 a0 l1 (l1.length : Int) (wrap64 (x22_2 + 1)) a0 (x258001_2 ++ [wrap64 ((ji27) - (shl .i64 1 (rd (rd_L1 l1 x22_2) 0)))])) else (none)) else (none)) = some (r1, r2, r3) := by first | (rw [hji27] at H; exact H) | (simp only [hji27] at H ⊢; exact H)
               (try rw [hji27] at A16)
               have hji27_ : (IntKind.i64.wrap (1 * 2 ^ min (ji25).toNat 64)) = ji27 := hji27
               have hji27z : (ji25) ≤ 64 → (IntKind.i64.wrap (1 * 2 ^ (ji25).toNat)) = ji27 := shl_small hji27
               have hji27u : (IntKind.i64.wrap (2 ^ min (ji25).toNat 64)) = ji27 := by have h_ := hji27_; rw [Int.one_mul] at h_; exact h_
               have hji27v : (ji25) ≤ 64 → (IntKind.i64.wrap (2 ^ (ji25).toNat)) = ji27 := fun hle_ => by have h_ := hji27z hle_; rw [Int.one_mul] at h_; exact h_
               have hji27y : (wrap64 (1 * 2 ^ min (ji25).toNat 64)) = ji27 := (i64_w _).symm.trans hji27_
               have hji27x : (ji25) ≤ 64 → (wrap64 (1 * 2 ^ (ji25).toNat)) = ji27 := fun h_ => (i64_w _).symm.trans (hji27z h_)
               by_cases c28 : 0 ≤ (rd (rd_L1 l1 x22_2) 0)
               ·rw [if_pos c28] at H
                have c28b0 := eq_true c28
                have c28b1 : decide (0 ≤ (rd (rd_L1 l1 x22_2) 0)) = true := decide_eq_true c28
                clear c28
                obtain ⟨ji29, hji29⟩ : ∃ j_ : Int, (shl .i64 1 (rd (rd_L1 l1 x22_2) 0)) = j_ := ⟨_, rfl⟩
                replace H : (if x258001_2.length < 17592186044416 then (impl_IntervalSystem.l0 k2 a0 l1 (l1.length : Int) (wrap64 (x22_2 + 1)) a0 (x258001_2 ++ [wrap64 ((ji27) - (ji29))])) else (none)) = some (r1, r2, r3) := by first | (rw [hji29] at H; exact H) | (simp only [hji29] at H ⊢; exact H)
                (try rw [hji29] at A16)
                have hji29_ : (IntKind.i64.wrap (1 * 2 ^ min (rd (rd_L1 l1 x22_2) 0).toNat 64)) = ji29 := hji29
                have hji29z : (rd (rd_L1 l1 x22_2) 0) ≤ 64 → (IntKind.i64.wrap (1 * 2 ^ (rd (rd_L1 l1 x22_2) 0).toNat)) = ji29 := shl_small hji29
                have hji29u : (IntKind.i64.wrap (2 ^ min (rd (rd_L1 l1 x22_2) 0).toNat 64)) = ji29 := by have h_ := hji29_; rw [Int.one_mul] at h_; exact h_
                have hji29v : (rd (rd_L1 l1 x22_2) 0) ≤ 64 → (IntKind.i64.wrap (2 ^ (rd (rd_L1 l1 x22_2) 0).toNat)) = ji29 := fun hle_ => by have h_ := hji29z hle_; rw [Int.one_mul] at h_; exact h_
                have hji29y : (wrap64 (1 * 2 ^ min (rd (rd_L1 l1 x22_2) 0).toNat 64)) = ji29 := (i64_w _).symm.trans hji29_
                have hji29x : (rd (rd_L1 l1 x22_2) 0) ≤ 64 → (wrap64 (1 * 2 ^ (rd (rd_L1 l1 x22_2) 0).toNat)) = ji29 := fun h_ => (i64_w _).symm.trans (hji29z h_)
                by_cases c30 : x258001_2.length < 17592186044416
                ·rw [if_pos c30] at H
                 have LMc30 := Aside0.mk c30
                 clear c30
                 obtain ⟨y264, hy264⟩ : ∃ y_ : List Int, y_ = (x258001_2 ++ [wrap64 ((ji27) - (ji29))]) := ⟨_, rfl⟩
                 replace H : (impl_IntervalSystem.l0 k2 a0 l1 (l1.length : Int) (wrap64 (x22_2 + 1)) a0 y264) = some (r1, r2, r3) := by first | (rw [hy264]; with_reducible exact H) | (have H2_ := (Option.bind_some _ _).symm.trans H; rw [hy264]; with_reducible exact H2_) | (have H2_ := (Option.bind_some _ _).symm.trans H; with_reducible exact H2_) | with_reducible exact H | (rw [hy264]; exact H) | exact H
                 have Ny264 := Aside0.mk hy264
                 clear hy264
                 have H' := Aside0.mk H
                 clear H
                 have p258 : 0 ≤ (x22_2 : Int) := of_decide_eq_true (by first | (with_reducible assumption) | assumption)
                 have q258 : x22_2 < (l1.length : Int) := of_decide_eq_true (by first | (with_reducible assumption) | assumption)
                 obtain ⟨ad258, A258_0, c258_0, e258, hx258_0, hl258_0, hi258_0⟩ := at_L1 HR1.out x22_2 p258 q258
                 cases e258
                 replace hx258_0 := (HB.out.cell (World.block_lt_of_cell? w _ hx258_0)).trans hx258_0
                 have HR258_0 := Aside0.mk hi258_0
                 have HC258_0 := Aside0.mk hl258_0
                 clear hi258_0 hl258_0
                 replace p258 := eq_true p258
                 replace q258 := eq_true q258
                 try go_wp2
                 have n0_ := Aside0.mk (Kd.R_drew HO_258001.out)
                 have n1_ := Aside0.mk (blk_drew BK255.out)
                 have n2_ := Aside0.mk (blk_drew BK257.out)
                 have n3_ := Aside0.mk (below_drew1 HB.out)
                 clear HO_258001
                 clear BK255
                 clear BK257
                 clear HB
                 have HO_258001 := n0_
                 have BK255 := n1_
                 have BK257 := n2_
                 have HB := n3_
                 clear n0_ n1_ n2_ n3_
                 have p260 : 0 ≤ (0 : Int) := (by omega)
                 have q260 : 0 < ((rd_L1 l1 x22_2).length : Int) := of_decide_eq_true (by first | (with_reducible assumption) | assumption)
                 obtain ⟨ad260, e260, hx260_0⟩ := Kd.at_int HR258_0.out 0 p260 q260
                 have hw260_0 := hx260_0
                 (try rw [show ((0 : Int)).toNat = 0 from rfl] at hw260_0)
                 (try rw [show 0 * 1 = 0 from rfl] at hw260_0)
                 (try rw [Addr.add_zero'] at hw260_0)
                 cases e260
                 have qi260 : (0 < (rd_L1 l1 x22_2).length) = True := eq_true (by omega)
                 (try rw [show ((0 : Int)).toNat = 0 from rfl] at hx260_0)
                 (try rw [Addr.add_zero'] at hx260_0)
                 replace hx260_0 := (HB.out.cell (World.block_lt_of_cell? w _ hx260_0)).trans hx260_0
                 replace p260 := eq_true p260
                 replace q260 := eq_true q260
                 have p261 : 0 ≤ (1 : Int) := (by omega)
                 have q261 : 1 < ((rd_L1 l1 x22_2).length : Int) := of_decide_eq_true (by first | (with_reducible assumption) | assumption)
                 obtain ⟨ad261, e261, hx261_0⟩ := Kd.at_int HR258_0.out 1 p261 q261
                 have hw261_0 := hx261_0
                 (try rw [show ((1 : Int)).toNat = 1 from rfl] at hw261_0)
                 (try rw [show 1 * 1 = 1 from rfl] at hw261_0)
                 (try simp only [Nat.reduceMul, Nat.reduceEqDiff, Go.Addr.add, ↓reduceIte] at hw261_0)
                 obtain rfl : ad260 = ad261 := (by injection e261)
                 (try simp only [show (1 : Int).toNat = 1 from rfl, Nat.reduceMul, Nat.reduceEqDiff, Go.Addr.add, ↓reduceIte] at hx261_0)
                 have qi261 : (1 < (rd_L1 l1 x22_2).length) = True := eq_true (by omega)
                 (try rw [show ((1 : Int)).toNat = 1 from rfl] at hx261_0)
                 replace hx261_0 := (HB.out.cell (World.block_lt_of_cell? w _ hx261_0)).trans hx261_0
                 replace p261 := eq_true p261
                 replace q261 := eq_true q261
                 refine start_ (n := 19) (S := fun w' => w'.cell? ad260 = some (.int .i64 (rd (rd_L1 l1 x22_2) 0)) ∧ w'.cell? ⟨ad260.block, ad260.off + 1, none⟩ = some (.int .i64 (rd (rd_L1 l1 x22_2) 1))) (ds := []) #[false, false, false, false, false, false, false, false, false, false, false, false, false, false, false, false, false, false, false] (by kernel_rfl) rfl rfl ⟨((HB.out.cell (World.block_lt_of_cell? w _ hw260_0)).trans hw260_0), ((HB.out.cell (World.block_lt_of_cell? w _ hw261_0)).trans hw261_0)⟩ (fun hHeld => ?_); refine with_tabW impl_IntervalSystem.tab7 impl_IntervalSystem.bits7 (fun HT_ HW_ => ?_)
                 generalize wr.drew = w31 at HO_258001 BK255 BK257 HB hx260_0 hx261_0 hHeld ⊢
                 refine pure_ (i := 0) (N := some 26) (v := ?_) (a' := ?_) #[true, false, false, false, false, false, false, false, false, false, false, false, false, false, false, false, false, false, false] rfl rfl (any_of HT_.out (by kernel_rfl)) (fun _ _ _ h => h) (Or.inl ⟨by rfl, ?_⟩) ?_ ?_
                 rotate_left
                 ·intro w'
                  go_simp
                  with_reducible rfl
                 rotate_left
                 ·simp only [Act.put, List.setIfInBounds_toArray, List.set_cons_zero, List.set_cons_succ, i64_w, i32_w]
                  rfl
                 refine pure_ (i := 1) (N := some 27) (v := ?_) (a' := ?_) #[true, true, false, false, false, false, false, false, false, false, false, false, false, false, false, false, false, false, false] rfl rfl (any_of HT_.out (by kernel_rfl)) (fun _ _ _ h => h) (Or.inl ⟨by rfl, ?_⟩) ?_ ?_
                 rotate_left
                 ·intro w'
                  go_simp
                  with_reducible rfl
                 rotate_left
                 ·simp only [Act.put, List.setIfInBounds_toArray, List.set_cons_zero, List.set_cons_succ, i64_w, i32_w]
                  rfl
                 refine pure_ (i := 2) (N := some 28) (v := ?_) (a' := ?_) #[true, true, true, false, false, false, false, false, false, false, false, false, false, false, false, false, false, false, false] rfl rfl (any_of HT_.out (by kernel_rfl)) (fun _ _ _ h => h) (Or.inl ⟨by rfl, ?_⟩) ?_ ?_
                 rotate_left
                 ·intro w'
                  go_simp
                  with_reducible rfl
                 rotate_left
                 ·simp only [Act.put, List.setIfInBounds_toArray, List.set_cons_zero, List.set_cons_succ, i64_w, i32_w]
                  rfl
                 refine pure_ (i := 3) (N := some 29) (v := ?_) (a' := ?_) #[true, true, true, true, false, false, false, false, false, false, false, false, false, false, false, false, false, false, false] rfl rfl (any_of HT_.out (by kernel_rfl)) (fun _ _ _ h => h) (Or.inl ⟨by rfl, ?_⟩) ?_ ?_
                 rotate_left
                 ·intro w'
                  go_simp
                  with_reducible rfl
                 rotate_left
                 ·simp only [Act.put, List.setIfInBounds_toArray, List.set_cons_zero, List.set_cons_succ, i64_w, i32_w]
                  rfl
                 refine pure_ (i := 4) (N := some 30) (v := ?_) (a' := ?_) #[true, true, true, true, true, false, false, false, false, false, false, false, false, false, false, false, false, false, false] rfl rfl (any_of HT_.out (by kernel_rfl)) (fun _ _ _ h => h) (Or.inl ⟨by rfl, ?_⟩) ?_ ?_
                 rotate_left
                 ·intro w'
                  go_simp
                  with_reducible rfl
                 rotate_left
                 ·simp only [Act.put, List.setIfInBounds_toArray, List.set_cons_zero, List.set_cons_succ, i64_w, i32_w]
                  rfl
                 refine pure_ (i := 5) (N := some 31) (v := ?_) (a' := ?_) #[true, true, true, true, true, true, false, false, false, false, false, false, false, false, false, false, false, false, false] rfl rfl (any_of HT_.out (by kernel_rfl)) (fun _ _ _ h => h) (Or.inl ⟨by rfl, ?_⟩) ?_ ?_
                 rotate_left
                 ·intro w'
                  go_simp
                  with_reducible rfl
                 rotate_left
                 ·simp only [Act.put, List.setIfInBounds_toArray, List.set_cons_zero, List.set_cons_succ, i64_w, i32_w]
                  rfl
                 refine pure_ (i := 6) (N := some 32) (v := ?_) (a' := ?_) #[true, true, true, true, true, true, true, false, false, false, false, false, false, false, false, false, false, false, false] rfl rfl (any_of HT_.out (by kernel_rfl)) (fun _ _ _ h => h) (Or.inl ⟨by rfl, ?_⟩) ?_ ?_
                 rotate_left
                 ·intro w'
                  go_simp
                  with_reducible rfl
                 rotate_left
                 ·simp only [Act.put, List.setIfInBounds_toArray, List.set_cons_zero, List.set_cons_succ, i64_w, i32_w]
                  rfl
                 refine one_ (i := 7) (N := some 33) #[true, true, true, true, true, true, true, true, false, false, false, false, false, false, false, false, false, false, false] rfl rfl (one_of HT_.out (by kernel_rfl)) (by decide) (fun K hK => ?_)
                 refine goes_ Try.func56 (by kernel_rfl) rfl #[.slice (some ad260) (rd_L1 l1 x22_2).length c258_0, .int .i64 0, .int .i64 (wrap64 (a0 - 1))] (by rfl) rfl rfl (by (try simp only [List.map_toArray, List.map_cons, List.map_nil]); first | done | rfl | (simp only [List.length_drop, List.length_take]; rfl) | (simp only [show ∀ (n_ : Nat) (b_ : Int), Int.tdiv (n_ : Int) b_ = (n_ : Int) / b_ from fun n_ b_ => Int.tdiv_eq_ediv_of_nonneg (Int.natCast_nonneg n_)]; rfl)) ?_
                 with_reducible refine (impl_areWithin.calls _ _ (rd_L1 l1 x22_2) 0 (wrap64 (a0 - 1)) true _ ?side1 ?side2 A16.out).mono ?_
                 (case side1 => repeat (first | exact (Kd.C_below HR258_0.out HB.out) | (with_reducible refine Kd.C_alloc ?_ _) | (with_reducible refine Kd.C_drewN ?_ _) | (with_reducible refine Kd.C_drew ?_)))
                 (case side2 => exact HC258_0.out)
                 rintro e w32 ⟨rfl, hb⟩
                 refine ⟨_, rfl, ?_⟩
                 have n0_ := Aside0.mk (Kd.R_below (by (with_reducible repeat (first | apply Kd.R_alloc | apply Kd.R_drewN | apply Kd.R_drew)); exact HO_258001.out) hb)
                 have n1_ := Aside0.mk (blk_below (g := gb255) (o := .cells #[.int .i64 x256000_2, .slice none 0 0] 27 (0, 0)) (by (with_reducible repeat (first | refine blk_drewN ?_ _ | refine blk_drew ?_ | refine blk_alloc ?_ _)); exact BK255.out) hb)
                 have n2_ := Aside0.mk (blk_below (g := gb257) (o := .cells #[.int .i64 a0, u258001] 27 (0, 0)) (by (with_reducible repeat (first | refine blk_drewN ?_ _ | refine blk_drew ?_ | refine blk_alloc ?_ _)); exact BK257.out) hb)
                 have n3_ := Aside0.mk (below_step (by repeat (first | (with_reducible first | exact HB.out | apply below_alloc | apply pw_below_drewN | apply below_drew1 | refine below_set ?_ GE255.out | refine below_set ?_ GE257.out) | exact HB.out)) hb)
                 clear HO_258001
                 clear BK255
                 clear BK257
                 clear HB
                 have HO_258001 := n0_
                 have BK255 := n1_
                 have BK257 := n2_
                 have HB := n3_
                 clear n0_ n1_ n2_ n3_
                 (try clear hb)
                 (try clear hb2)
                 (try clear hk)
                 (try clear hi)
                 refine hK.out _ _ ⟨((HB.out.cell (World.block_lt_of_cell? w _ hw260_0)).trans hw260_0), ((HB.out.cell (World.block_lt_of_cell? w _ hw261_0)).trans hw261_0)⟩ (fun hHeld => ?_)
                 clear hK K
                 refine norm_ (a' := ?_) ?_ ?_
                 rotate_left
                 ·show Act.put _ (some 33) _ = _
                  simp only [Act.put, List.setIfInBounds_toArray, List.set_cons_zero, List.set_cons_succ, i64_w, i32_w]
                  rfl
                 refine pure_ (i := 8) (N := some 34) (v := ?_) (a' := ?_) #[true, true, true, true, true, true, true, true, true, false, false, false, false, false, false, false, false, false, false] rfl rfl (any_of HT_.out (by kernel_rfl)) (fun _ _ _ h => h) (Or.inl ⟨by rfl, ?_⟩) ?_ ?_
                 rotate_left
                 ·intro w'
                  go_simp
                  with_reducible rfl
                 rotate_left
                 ·simp only [Act.put, List.setIfInBounds_toArray, List.set_cons_zero, List.set_cons_succ, i64_w, i32_w]
                  rfl
                 refine pure_ (i := 9) (N := some 35) (v := ?_) (a' := ?_) #[true, true, true, true, true, true, true, true, true, true, false, false, false, false, false, false, false, false, false] rfl rfl (any_of HT_.out (by kernel_rfl)) (fun _ _ _ h => h) (Or.inl ⟨by rfl, ?_⟩) ?_ ?_
                 rotate_left
                 ·intro w'
                  go_simp
                  with_reducible rfl
                 rotate_left
                 ·simp only [Act.put, List.setIfInBounds_toArray, List.set_cons_zero, List.set_cons_succ, i64_w, i32_w]
                  rfl
                 refine pure_ (i := 10) (N := some 36) (v := ?_) (a' := ?_) #[true, true, true, true, true, true, true, true, true, true, true, false, false, false, false, false, false, false, false] rfl rfl (any_of HT_.out (by kernel_rfl)) (fun _ _ _ h => h) (Or.inl ⟨by rfl, ?_⟩) ?_ ?_
                 rotate_left
                 ·intro w'
                  go_simp
                  with_reducible rfl
                 rotate_left
                 ·simp only [Act.put, List.setIfInBounds_toArray, List.set_cons_zero, List.set_cons_succ, i64_w, i32_w]
                  rfl
                 refine pure_ (i := 11) (N := some 37) (v := ?_) (a' := ?_) #[true, true, true, true, true, true, true, true, true, true, true, true, false, false, false, false, false, false, false] rfl rfl (any_of HT_.out (by kernel_rfl)) (fun _ _ _ h => h) (Or.inl ⟨by rfl, ?_⟩) ?_ ?_
                 rotate_left
                 ·intro w'
                  go_simp
                  with_reducible rfl
                 rotate_left
                 ·simp only [Act.put, List.setIfInBounds_toArray, List.set_cons_zero, List.set_cons_succ, i64_w, i32_w]
                  rfl
                 refine pure_ (i := 12) (N := some 38) (v := ?_) (a' := ?_) #[true, true, true, true, true, true, true, true, true, true, true, true, true, false, false, false, false, false, false] rfl rfl (any_of HT_.out (by kernel_rfl)) (fun _ _ _ h => h) (Or.inl ⟨by rfl, ?_⟩) ?_ ?_
                 rotate_left
                 ·intro w'
                  go_simp
                  with_reducible rfl
                 rotate_left
                 ·simp only [Act.put, List.setIfInBounds_toArray, List.set_cons_zero, List.set_cons_succ, i64_w, i32_w]
                  rfl
                 refine pure_ (i := 14) (N := some 40) (v := ?_) (a' := ?_) #[true, true, true, true, true, true, true, true, true, true, true, true, true, false, true, false, false, false, false] rfl rfl (any_of HT_.out (by kernel_rfl)) (fun _ _ _ h => h) (Or.inl ⟨by rfl, ?_⟩) ?_ ?_
                 rotate_left
                 ·intro w'
                  go_simp
                  with_reducible rfl
                 rotate_left
                 ·simp only [Act.put, List.setIfInBounds_toArray, List.set_cons_zero, List.set_cons_succ, i64_w, i32_w]
                  rfl
                 refine pure_ (i := 15) (N := some 41) (v := ?_) (a' := ?_) #[true, true, true, true, true, true, true, true, true, true, true, true, true, false, true, true, false, false, false] rfl rfl (any_of HT_.out (by kernel_rfl)) (fun _ _ _ h => h) (Or.inl ⟨by rfl, ?_⟩) ?_ ?_
                 rotate_left
                 ·intro w'
                  go_simp
                  with_reducible rfl
                 rotate_left
                 ·simp only [Act.put, List.setIfInBounds_toArray, List.set_cons_zero, List.set_cons_succ, i64_w, i32_w]
                  rfl
                 refine take_ (i := 13) (N := some 39) (v := ?_) (a' := ?_) #[true, true, true, true, true, true, true, true, true, true, true, true, true, true, true, true, false, false, false] rfl rfl (take_ofW HT_.out HW_.out (by kernel_rfl)) (fun _ _ _ h => h) (Or.inl ⟨by rfl, ?_⟩) hHeld ?_ ?_
                 rotate_left
                 ·rintro w' ⟨s0, s1⟩
                  go_simp
                  with_reducible rfl
                 rotate_left
                 ·simp only [Act.put, List.setIfInBounds_toArray, List.set_cons_zero, List.set_cons_succ, i64_w, i32_w]
                  rfl
                 refine take_ (i := 16) (N := some 42) (v := ?_) (a' := ?_) #[true, true, true, true, true, true, true, true, true, true, true, true, true, true, true, true, true, false, false] rfl rfl (take_ofW HT_.out HW_.out (by kernel_rfl)) (fun _ _ _ h => h) (Or.inl ⟨by rfl, ?_⟩) hHeld ?_ ?_
                 rotate_left
                 ·rintro w' ⟨s0, s1⟩
                  go_simp
                  with_reducible rfl
                 rotate_left
                 ·simp only [Act.put, List.setIfInBounds_toArray, List.set_cons_zero, List.set_cons_succ, i64_w, i32_w]
                  rfl
                 refine pure_ (i := 17) (N := some 43) (v := ?_) (a' := ?_) #[true, true, true, true, true, true, true, true, true, true, true, true, true, true, true, true, true, true, false] rfl rfl (any_of HT_.out (by kernel_rfl)) (fun _ _ _ h => h) (Or.inl ⟨by rfl, ?_⟩) ?_ ?_
                 rotate_left
                 ·intro w'
                  go_simp
                  with_reducible rfl
                 rotate_left
                 ·simp only [Act.put, List.setIfInBounds_toArray, List.set_cons_zero, List.set_cons_succ, i64_w, i32_w]
                  rfl
                 refine pure_ (i := 18) (N := some 44) (v := ?_) (a' := ?_) #[true, true, true, true, true, true, true, true, true, true, true, true, true, true, true, true, true, true, true] rfl rfl (any_of HT_.out (by kernel_rfl)) (fun _ _ _ h => h) (Or.inl ⟨by rfl, ?_⟩) ?_ ?_
                 rotate_left
                 ·intro w'
                  go_simp
                  with_reducible rfl
                 rotate_left
                 ·simp only [Act.put, List.setIfInBounds_toArray, List.set_cons_zero, List.set_cons_succ, i64_w, i32_w]
                  rfl
                 refine done_ (done_of HT_.out (by kernel_rfl)) ?_
                 try go_wp2
                 have n0_ := Aside0.mk (Kd.R_drew HO_258001.out)
                 have n1_ := Aside0.mk (blk_drew BK255.out)
                 have n2_ := Aside0.mk (blk_drew BK257.out)
                 have n3_ := Aside0.mk (below_drew1 HB.out)
                 clear HO_258001
                 clear BK255
                 clear BK257
                 clear HB
                 have HO_258001 := n0_
                 have BK255 := n1_
                 have BK257 := n2_
                 have HB := n3_
                 clear n0_ n1_ n2_ n3_
                 have p262 : 0 ≤ (1 : Int) := (by omega)
                 have q262 : 1 < ((rd_L1 l1 x22_2).length : Int) := of_decide_eq_true (by first | (with_reducible assumption) | assumption)
                 obtain ⟨ad262, e262, hx262_0⟩ := Kd.at_int HR258_0.out 1 p262 q262
                 have hw262_0 := hx262_0
                 (try rw [show ((1 : Int)).toNat = 1 from rfl] at hw262_0)
                 (try rw [show 1 * 1 = 1 from rfl] at hw262_0)
                 (try simp only [Nat.reduceMul, Nat.reduceEqDiff, Go.Addr.add, ↓reduceIte] at hw262_0)
                 obtain rfl : ad260 = ad262 := (by injection e262)
                 (try simp only [show (1 : Int).toNat = 1 from rfl, Nat.reduceMul, Nat.reduceEqDiff, Go.Addr.add, ↓reduceIte] at hx262_0)
                 have qi262 : (1 < (rd_L1 l1 x22_2).length) = True := eq_true (by omega)
                 (try rw [show ((1 : Int)).toNat = 1 from rfl] at hx262_0)
                 replace hx262_0 := (HB.out.cell (World.block_lt_of_cell? w _ hx262_0)).trans hx262_0
                 replace p262 := eq_true p262
                 replace q262 := eq_true q262
                 have p263 : 0 ≤ (0 : Int) := (by omega)
                 have q263 : 0 < ((rd_L1 l1 x22_2).length : Int) := of_decide_eq_true (by first | (with_reducible assumption) | assumption)
                 obtain ⟨ad263, e263, hx263_0⟩ := Kd.at_int HR258_0.out 0 p263 q263
                 have hw263_0 := hx263_0
                 (try rw [show ((0 : Int)).toNat = 0 from rfl] at hw263_0)
                 (try rw [show 0 * 1 = 0 from rfl] at hw263_0)
                 (try rw [Addr.add_zero'] at hw263_0)
                 obtain rfl : ad260 = ad263 := (by injection e263)
                 have qi263 : (0 < (rd_L1 l1 x22_2).length) = True := eq_true (by omega)
                 (try rw [show ((0 : Int)).toNat = 0 from rfl] at hx263_0)
                 (try rw [Addr.add_zero'] at hx263_0)
                 replace hx263_0 := (HB.out.cell (World.block_lt_of_cell? w _ hx263_0)).trans hx263_0
                 replace p263 := eq_true p263
                 replace q263 := eq_true q263
                 refine start_ (n := 16) (S := fun w' => w'.cell? ⟨gb257, 0, none⟩ = some (.int .i64 a0) ∧ w'.cell? ⟨gb257, 1, none⟩ = some (u258001) ∧ w'.cell? ⟨ad260.block, ad260.off + 1, none⟩ = some (.int .i64 (rd (rd_L1 l1 x22_2) 1)) ∧ w'.cell? ad260 = some (.int .i64 (rd (rd_L1 l1 x22_2) 0))) (ds := [15]) #[false, false, false, false, false, false, false, false, false, false, false, false, false, false, false, false] (by kernel_rfl) rfl rfl ⟨(blk_cell BK257.out 0).trans rfl, (blk_cell BK257.out 1).trans rfl, ((HB.out.cell (World.block_lt_of_cell? w _ hw262_0)).trans hw262_0), ((HB.out.cell (World.block_lt_of_cell? w _ hw263_0)).trans hw263_0)⟩ (fun hHeld => ?_); refine with_tabW impl_IntervalSystem.tab9 impl_IntervalSystem.bits9 (fun HT_ HW_ => ?_)
                 generalize w32.drew = w33 at HO_258001 BK255 BK257 HB hx262_0 hx263_0 hHeld ⊢
                 refine pure_ (i := 0) (N := some 46) (v := ?_) (a' := ?_) #[true, false, false, false, false, false, false, false, false, false, false, false, false, false, false, false] rfl rfl (any_of HT_.out (by kernel_rfl)) (fun _ _ _ h => h) (Or.inl ⟨by rfl, ?_⟩) ?_ ?_
                 rotate_left
                 ·intro w'
                  go_simp
                  with_reducible rfl
                 rotate_left
                 ·simp only [Act.put, List.setIfInBounds_toArray, List.set_cons_zero, List.set_cons_succ, i64_w, i32_w]
                  rfl
                 refine pure_ (i := 2) (N := some 48) (v := ?_) (a' := ?_) #[true, false, true, false, false, false, false, false, false, false, false, false, false, false, false, false] rfl rfl (any_of HT_.out (by kernel_rfl)) (fun _ _ _ h => h) (Or.inl ⟨by rfl, ?_⟩) ?_ ?_
                 rotate_left
                 ·intro w'
                  go_simp
                  with_reducible rfl
                 rotate_left
                 ·simp only [Act.put, List.setIfInBounds_toArray, List.set_cons_zero, List.set_cons_succ, i64_w, i32_w]
                  rfl
                 refine pure_ (i := 3) (N := some 49) (v := ?_) (a' := ?_) #[true, false, true, true, false, false, false, false, false, false, false, false, false, false, false, false] rfl rfl (any_of HT_.out (by kernel_rfl)) (fun _ _ _ h => h) (Or.inl ⟨by rfl, ?_⟩) ?_ ?_
                 rotate_left
                 ·intro w'
                  go_simp
                  with_reducible rfl
                 rotate_left
                 ·simp only [Act.put, List.setIfInBounds_toArray, List.set_cons_zero, List.set_cons_succ, i64_w, i32_w]
                  rfl
                 refine pure_ (i := 7) (N := some 53) (v := ?_) (a' := ?_) #[true, false, true, true, false, false, false, true, false, false, false, false, false, false, false, false] rfl rfl (any_of HT_.out (by kernel_rfl)) (fun _ _ _ h => h) (Or.inl ⟨by rfl, ?_⟩) ?_ ?_
                 rotate_left
                 ·intro w'
                  go_simp
                  with_reducible rfl
                 rotate_left
                 ·simp only [Act.put, List.setIfInBounds_toArray, List.set_cons_zero, List.set_cons_succ, i64_w, i32_w]
                  rfl
                 refine pure_ (i := 8) (N := some 54) (v := ?_) (a' := ?_) #[true, false, true, true, false, false, false, true, true, false, false, false, false, false, false, false] rfl rfl (any_of HT_.out (by kernel_rfl)) (fun _ _ _ h => h) (Or.inl ⟨by rfl, ?_⟩) ?_ ?_
                 rotate_left
                 ·intro w'
                  go_simp
                  with_reducible rfl
                 rotate_left
                 ·simp only [Act.put, List.setIfInBounds_toArray, List.set_cons_zero, List.set_cons_succ, i64_w, i32_w]
                  rfl
                 refine take_ (i := 1) (N := some 47) (v := ?_) (a' := ?_) #[true, true, true, true, false, false, false, true, true, false, false, false, false, false, false, false] rfl rfl (take_ofW HT_.out HW_.out (by kernel_rfl)) (fun _ _ _ h => h) (Or.inl ⟨by rfl, ?_⟩) hHeld ?_ ?_
                 rotate_left
                 ·rintro w' ⟨s0, s1, s2, s3⟩
                  go_simp
                  with_reducible rfl
                 rotate_left
                 ·simp only [Act.put, List.setIfInBounds_toArray, List.set_cons_zero, List.set_cons_succ, i64_w, i32_w]
                  rfl
                 refine take_ (i := 4) (N := some 50) (v := ?_) (a' := ?_) #[true, true, true, true, true, false, false, true, true, false, false, false, false, false, false, false] rfl rfl (take_ofW HT_.out HW_.out (by kernel_rfl)) (fun _ _ _ h => h) (Or.inl ⟨by rfl, ?_⟩) hHeld ?_ ?_
                 rotate_left
                 ·rintro w' ⟨s0, s1, s2, s3⟩
                  go_simp
                  with_reducible rfl
                 rotate_left
                 ·simp only [Act.put, List.setIfInBounds_toArray, List.set_cons_zero, List.set_cons_succ, i64_w, i32_w]
                  rfl
                 refine pure_ (i := 5) (N := some 51) (v := ?_) (a' := ?_) #[true, true, true, true, true, true, false, true, true, false, false, false, false, false, false, false] rfl rfl (any_of HT_.out (by kernel_rfl)) (fun _ _ _ h => h) (Or.inl ⟨by rfl, ?_⟩) ?_ ?_
                 rotate_left
                 ·intro w'
                  go_simp
                  with_reducible rfl
                 rotate_left
                 ·simp only [Act.put, List.setIfInBounds_toArray, List.set_cons_zero, List.set_cons_succ, i64_w, i32_w]
                  rfl
                 refine pure_ (i := 6) (N := some 52) (v := ?_) (a' := ?_) #[true, true, true, true, true, true, true, true, true, false, false, false, false, false, false, false] rfl rfl (any_of HT_.out (by kernel_rfl)) (fun _ _ _ h => h) (Or.inl ⟨by rfl, ?_⟩) ?_ ?_
                 rotate_left
                 ·intro w'
                  go_simp
                  with_reducible rfl
                 rotate_left
                 ·simp only [Act.put, List.setIfInBounds_toArray, List.set_cons_zero, List.set_cons_succ, i64_w, i32_w]
                  rfl
                 refine take_ (i := 9) (N := some 55) (v := ?_) (a' := ?_) #[true, true, true, true, true, true, true, true, true, true, false, false, false, false, false, false] rfl rfl (take_ofW HT_.out HW_.out (by kernel_rfl)) (fun _ _ _ h => h) (Or.inl ⟨by rfl, ?_⟩) hHeld ?_ ?_
                 rotate_left
                 ·rintro w' ⟨s0, s1, s2, s3⟩
                  go_simp
                  with_reducible rfl
                 rotate_left
                 ·simp only [Act.put, List.setIfInBounds_toArray, List.set_cons_zero, List.set_cons_succ, i64_w, i32_w]
                  rfl
                 refine pure_ (i := 10) (N := some 56) (v := ?_) (a' := ?_) #[true, true, true, true, true, true, true, true, true, true, true, false, false, false, false, false] rfl rfl (any_of HT_.out (by kernel_rfl)) (fun _ _ _ h => h) (Or.inl ⟨by rfl, ?_⟩) ?_ ?_
                 rotate_left
                 ·intro w'
                  go_simp
                  with_reducible rfl
                 rotate_left
                 ·simp only [Act.put, List.setIfInBounds_toArray, List.set_cons_zero, List.set_cons_succ, i64_w, i32_w]
                  rfl
                 refine pure_ (i := 11) (N := some 57) (v := ?_) (a' := ?_) #[true, true, true, true, true, true, true, true, true, true, true, true, false, false, false, false] rfl rfl (any_of HT_.out (by kernel_rfl)) (fun _ _ _ h => h) (Or.inl ⟨by rfl, ?_⟩) ?_ ?_
                 rotate_left
                 ·intro w'
                  go_simp
                  with_reducible rfl
                 rotate_left
                 ·simp only [Act.put, List.setIfInBounds_toArray, List.set_cons_zero, List.set_cons_succ, i64_w, i32_w]
                  rfl
                 refine one_ (i := 12) (N := some 58) #[true, true, true, true, true, true, true, true, true, true, true, true, true, false, false, false] rfl rfl (one_of HT_.out (by kernel_rfl)) (by decide) (fun K hK => ?_)
                 refine value_ (w1 := ?_) (v := ?_) (by rfl) rfl ?_ ?_
                 rotate_left 2
                 ·go_simp
                  constructor
                  ·rfl
                  ·rfl
                 refine hK.out _ _ ⟨(blk_cell (blk_alloc BK257.out _) 0).trans rfl, (blk_cell (blk_alloc BK257.out _) 1).trans rfl, (World.cell?_alloc_lt _ _ _ (World.block_lt_of_cell? _ _ (((HB.out.cell (World.block_lt_of_cell? w _ hw262_0)).trans hw262_0)))).trans (((HB.out.cell (World.block_lt_of_cell? w _ hw262_0)).trans hw262_0)), (World.cell?_alloc_lt _ _ _ (World.block_lt_of_cell? _ _ (((HB.out.cell (World.block_lt_of_cell? w _ hw263_0)).trans hw263_0)))).trans (((HB.out.cell (World.block_lt_of_cell? w _ hw263_0)).trans hw263_0))⟩ (fun hHeld => ?_)
                 clear hK K
                 refine norm_ (a' := ?_) ?_ ?_
                 rotate_left
                 ·show Act.put _ (some 58) _ = _
                  simp only [Act.put, List.setIfInBounds_toArray, List.set_cons_zero, List.set_cons_succ, i64_w, i32_w]
                  rfl
                 refine one_ (i := 13) (N := some 59) #[true, true, true, true, true, true, true, true, true, true, true, true, true, true, false, false] rfl rfl (one_of HT_.out (by kernel_rfl)) (by decide) (fun K hK => ?_)
                 refine Kd.R_append_step (Kd.int .i64) (w0 := w) w.heap.size (by rfl) (.tmp 47) (.tmp 58) 22 2 (.int .i64 0) 8 rfl Try.underlying22 info2 rfl (by decide) (by omega) u258001 x258001_2 (wrap64 ((ji27) - (ji29))) [.int .i64 (wrap64 ((ji27) - (ji29)))] (fun _ => True) (fun _ => False) rfl rfl ?aP (fun _ hk => hk.elim) ?aF ?aO ?aB ?aS ?aL ?_
                 (case aP => exact rfl)
                 (case aB => exact (by repeat (first | (with_reducible first | exact HB.out | apply below_alloc | apply pw_below_drewN | apply below_drew1 | refine below_set ?_ GE255.out | refine below_set ?_ GE257.out) | exact HB.out)))
                 (case aF => exact (fun _ _ => trivial))
                 (case aO => exact (by (with_reducible repeat (first | apply Kd.R_alloc | apply Kd.R_drewN | apply Kd.R_drew)); exact HO_258001.out))
                 (case aS => exact (below_size (by repeat (first | (with_reducible first | exact HB.out | apply below_alloc | apply pw_below_drewN | apply below_drew1 | refine below_set ?_ GE255.out | refine below_set ?_ GE257.out) | exact HB.out))))
                 (case aL => have := LMc30.out; omega)
                 intro v265 w34 ho hb hg hat
                 rw [← Ny264.out] at ho
                 have n0_ := Aside0.mk (blk_grown (g := gb255) (o := .cells #[.int .i64 x256000_2, .slice none 0 0] 27 (0, 0)) (by (with_reducible repeat (first | refine blk_drewN ?_ _ | refine blk_drew ?_ | refine blk_alloc ?_ _)); exact BK255.out) hg (Kd.R_ne HO_258001.out BK255.out (by decide)))
                 have n1_ := Aside0.mk (blk_grown (g := gb257) (o := .cells #[.int .i64 a0, u258001] 27 (0, 0)) (by (with_reducible repeat (first | refine blk_drewN ?_ _ | refine blk_drew ?_ | refine blk_alloc ?_ _)); exact BK257.out) hg (Kd.R_ne HO_258001.out BK257.out (by decide)))
                 have n2_ := Aside0.mk (hb)
                 have n3_ := Aside0.mk (ho)
                 clear BK255
                 clear BK257
                 clear HB
                 clear HO_258001
                 have BK255 := n0_
                 have BK257 := n1_
                 have HB := n2_
                 have HO266 := n3_
                 clear n0_ n1_ n2_ n3_
                 clear ho hb hg hat
                 obtain ⟨Ao35, co35, eo35⟩ := Kd.R_slice HO266.out
                 (first | subst eo35 | (injection eo35 with f1_ f2_ f3_; have f4_ := f1_.symm; have f5_ := f3_.symm; clear f1_ f2_ f3_; subst f4_; subst f5_))
                 refine hK.out _ _ ⟨(blk_cell BK257.out 0).trans rfl, (blk_cell BK257.out 1).trans rfl, ((HB.out.cell (World.block_lt_of_cell? w _ hw262_0)).trans hw262_0), ((HB.out.cell (World.block_lt_of_cell? w _ hw263_0)).trans hw263_0)⟩ (fun hHeld => ?_)
                 clear hK K
                 refine norm_ (a' := ?_) ?_ ?_
                 rotate_left
                 ·show Act.put _ (some 59) _ = _
                  simp only [Act.put, List.setIfInBounds_toArray, List.set_cons_zero, List.set_cons_succ, i64_w, i32_w]
                  rfl
                 refine pure_ (i := 14) (N := some 60) (v := ?_) (a' := ?_) #[true, true, true, true, true, true, true, true, true, true, true, true, true, true, true, false] rfl rfl (any_of HT_.out (by kernel_rfl)) (fun _ _ _ h => h) (Or.inl ⟨by rfl, ?_⟩) ?_ ?_
                 rotate_left
                 ·intro w'
                  go_simp
                  with_reducible rfl
                 rotate_left
                 ·simp only [Act.put, List.setIfInBounds_toArray, List.set_cons_zero, List.set_cons_succ, i64_w, i32_w]
                  rfl
                 refine last_ (i := 15) (N := none) #[true, true, true, true, true, true, true, true, true, true, true, true, true, true, true, true] rfl rfl (one_of HT_.out (by kernel_rfl)) (by decide) (fun K hK => ?_)
                 have hs36 : w34.cell? ⟨gb257, 1, none⟩ = some (u258001) := (blk_cell BK257.out 1).trans rfl
                 have hfs36 := blk_frozen BK257.out 1
                 have hns36_0 := NB255_257.out
                 have hms36_0 := NB257_255.out
                 refine skip_ (w1 := ?_) (by rfl) rfl ?_ ?_
                 rotate_left
                 ·go_simp
                  rfl
                 refine hK.out _ _ ?_
                 clear hK K
                 refine done_ (done_of HT_.out (by kernel_rfl)) ?_
                 try go_wp2
                 go_roundg k2
                 case measure => have := HJ2.out; have := HK2.out; omega
                 case rel => exact ⟨(wrap64 (x22_2 + 1)), (x256000_2), (y264), (.slice Ao35 y264.length co35), (by first | rfl | (simp; done) | (simp [*]; done)), H', ⟨by have := HJ2.out; have := HK2.out; omega⟩, ⟨by (with_reducible repeat (first | apply Kd.R_alloc | apply Kd.R_drewN | apply Kd.R_drew)); exact Kd.R_mono (Kd.R_far (p := ⟨gb257, 1, none⟩) (Kd.R_types HO266.out BK257.out (by decide)) (fun _ hk => hk.2) (.slice Ao35 y264.length co35)) (fun _ hk => trivial)⟩, ⟨by (with_reducible repeat (first | refine blk_drewN ?_ _ | refine blk_drew ?_ | refine blk_alloc ?_ _)); refine blk_far ?_ NB255_257.out _; (with_reducible repeat (first | refine blk_drewN ?_ _ | refine blk_drew ?_ | refine blk_alloc ?_ _)); exact BK255.out⟩, ⟨by (with_reducible repeat (first | refine blk_drewN ?_ _ | refine blk_drew ?_ | refine blk_alloc ?_ _)); refine blk_put (cs := #[.int .i64 a0, u258001]) ?_ 1 _ rfl; (with_reducible repeat (first | refine blk_drewN ?_ _ | refine blk_drew ?_ | refine blk_alloc ?_ _)); exact BK257.out⟩, ⟨by repeat (first | (with_reducible first | exact HB.out | apply below_alloc | apply pw_below_drewN | apply below_drew1 | refine below_set ?_ GE255.out | refine below_set ?_ GE257.out) | exact HB.out)⟩⟩
                ·rw [if_neg c30] at H
                 exact absurd H (by simp)
               ·rw [if_neg c28] at H
                exact absurd H (by simp)
              ·rw [if_neg c26] at H
               exact absurd H (by simp)
            ·rw [if_neg c19] at H
             exact absurd H (by simp)
           ·rw [if_neg c18] at H
            exact absurd H (by simp)
          ·replace c17 := Bool.eq_false_iff.mpr c17
           subst c17
           have H1 : (some (0, ([] : List Int), false)) = some (r1, r2, r3) := by rw [if_neg (show ¬ (false = true) by decide)] at H; exact H
           clear H
           have H := H1
           clear H1
           simp only [Option.some.injEq, Prod.mk.injEq] at H
           obtain ⟨rfl, rfl, rfl⟩ := H
           have p258 : 0 ≤ (x22_2 : Int) := of_decide_eq_true (by first | (with_reducible assumption) | assumption)
           have q258 : x22_2 < (l1.length : Int) := of_decide_eq_true (by first | (with_reducible assumption) | assumption)
           obtain ⟨ad258, A258_0, c258_0, e258, hx258_0, hl258_0, hi258_0⟩ := at_L1 HR1.out x22_2 p258 q258
           cases e258
           replace hx258_0 := (HB.out.cell (World.block_lt_of_cell? w _ hx258_0)).trans hx258_0
           have HR258_0 := Aside0.mk hi258_0
           have HC258_0 := Aside0.mk hl258_0
           clear hi258_0 hl258_0
           replace p258 := eq_true p258
           replace q258 := eq_true q258
           try go_wp2
           have n0_ := Aside0.mk (Kd.R_drew HO_258001.out)
           have n1_ := Aside0.mk (blk_drew BK255.out)
           have n2_ := Aside0.mk (blk_drew BK257.out)
           have n3_ := Aside0.mk (below_drew1 HB.out)
           clear HO_258001
           clear BK255
           clear BK257
           clear HB
           have HO_258001 := n0_
           have BK255 := n1_
           have BK257 := n2_
           have HB := n3_
           clear n0_ n1_ n2_ n3_
           refine start_ (n := 19) (S := fun w' => True) (ds := []) #[false, false, false, false, false, false, false, false, false, false, false, false, false, false, false, false, false, false, false] (by kernel_rfl) rfl rfl trivial (fun hHeld => ?_); refine with_tabW impl_IntervalSystem.tab7 impl_IntervalSystem.bits7 (fun HT_ HW_ => ?_)
           generalize wr.drew = w37 at HO_258001 BK255 BK257 HB hHeld ⊢
           refine pure_ (i := 0) (N := some 26) (v := ?_) (a' := ?_) #[true, false, false, false, false, false, false, false, false, false, false, false, false, false, false, false, false, false, false] rfl rfl (any_of HT_.out (by kernel_rfl)) (fun _ _ _ h => h) (Or.inl ⟨by rfl, ?_⟩) ?_ ?_
           rotate_left
           ·intro w'
            go_simp
            with_reducible rfl
           rotate_left
           ·simp only [Act.put, List.setIfInBounds_toArray, List.set_cons_zero, List.set_cons_succ, i64_w, i32_w]
            rfl
           refine pure_ (i := 1) (N := some 27) (v := ?_) (a' := ?_) #[true, true, false, false, false, false, false, false, false, false, false, false, false, false, false, false, false, false, false] rfl rfl (any_of HT_.out (by kernel_rfl)) (fun _ _ _ h => h) (Or.inl ⟨by rfl, ?_⟩) ?_ ?_
           rotate_left
           ·intro w'
            go_simp
            with_reducible rfl
           rotate_left
           ·simp only [Act.put, List.setIfInBounds_toArray, List.set_cons_zero, List.set_cons_succ, i64_w, i32_w]
            rfl
           refine pure_ (i := 2) (N := some 28) (v := ?_) (a' := ?_) #[true, true, true, false, false, false, false, false, false, false, false, false, false, false, false, false, false, false, false] rfl rfl (any_of HT_.out (by kernel_rfl)) (fun _ _ _ h => h) (Or.inl ⟨by rfl, ?_⟩) ?_ ?_
           rotate_left
           ·intro w'
            go_simp
            with_reducible rfl
           rotate_left
           ·simp only [Act.put, List.setIfInBounds_toArray, List.set_cons_zero, List.set_cons_succ, i64_w, i32_w]
            rfl
           refine pure_ (i := 3) (N := some 29) (v := ?_) (a' := ?_) #[true, true, true, true, false, false, false, false, false, false, false, false, false, false, false, false, false, false, false] rfl rfl (any_of HT_.out (by kernel_rfl)) (fun _ _ _ h => h) (Or.inl ⟨by rfl, ?_⟩) ?_ ?_
           rotate_left
           ·intro w'
            go_simp
            with_reducible rfl
           rotate_left
           ·simp only [Act.put, List.setIfInBounds_toArray, List.set_cons_zero, List.set_cons_succ, i64_w, i32_w]
            rfl
           refine pure_ (i := 4) (N := some 30) (v := ?_) (a' := ?_) #[true, true, true, true, true, false, false, false, false, false, false, false, false, false, false, false, false, false, false] rfl rfl (any_of HT_.out (by kernel_rfl)) (fun _ _ _ h => h) (Or.inl ⟨by rfl, ?_⟩) ?_ ?_
           rotate_left
           ·intro w'
            go_simp
            with_reducible rfl
           rotate_left
           ·simp only [Act.put, List.setIfInBounds_toArray, List.set_cons_zero, List.set_cons_succ, i64_w, i32_w]
            rfl
           refine pure_ (i := 5) (N := some 31) (v := ?_) (a' := ?_) #[true, true, true, true, true, true, false, false, false, false, false, false, false, false, false, false, false, false, false] rfl rfl (any_of HT_.out (by kernel_rfl)) (fun _ _ _ h => h) (Or.inl ⟨by rfl, ?_⟩) ?_ ?_
           rotate_left
           ·intro w'
            go_simp
            with_reducible rfl
           rotate_left
           ·simp only [Act.put, List.setIfInBounds_toArray, List.set_cons_zero, List.set_cons_succ, i64_w, i32_w]
            rfl
           refine pure_ (i := 6) (N := some 32) (v := ?_) (a' := ?_) #[true, true, true, true, true, true, true, false, false, false, false, false, false, false, false, false, false, false, false] rfl rfl (any_of HT_.out (by kernel_rfl)) (fun _ _ _ h => h) (Or.inl ⟨by rfl, ?_⟩) ?_ ?_
           rotate_left
           ·intro w'
            go_simp
            with_reducible rfl
           rotate_left
           ·simp only [Act.put, List.setIfInBounds_toArray, List.set_cons_zero, List.set_cons_succ, i64_w, i32_w]
            rfl
           refine one_ (i := 7) (N := some 33) #[true, true, true, true, true, true, true, true, false, false, false, false, false, false, false, false, false, false, false] rfl rfl (one_of HT_.out (by kernel_rfl)) (by decide) (fun K hK => ?_)
           refine goes_ Try.func56 (by kernel_rfl) rfl #[.slice A258_0 (rd_L1 l1 x22_2).length c258_0, .int .i64 0, .int .i64 (wrap64 (a0 - 1))] (by rfl) rfl rfl (by (try simp only [List.map_toArray, List.map_cons, List.map_nil]); first | done | rfl | (simp only [List.length_drop, List.length_take]; rfl) | (simp only [show ∀ (n_ : Nat) (b_ : Int), Int.tdiv (n_ : Int) b_ = (n_ : Int) / b_ from fun n_ b_ => Int.tdiv_eq_ediv_of_nonneg (Int.natCast_nonneg n_)]; rfl)) ?_
           with_reducible refine (impl_areWithin.calls _ _ (rd_L1 l1 x22_2) 0 (wrap64 (a0 - 1)) false _ ?side1 ?side2 A16.out).mono ?_
           (case side1 => repeat (first | exact (Kd.C_below HR258_0.out HB.out) | (with_reducible refine Kd.C_alloc ?_ _) | (with_reducible refine Kd.C_drewN ?_ _) | (with_reducible refine Kd.C_drew ?_)))
           (case side2 => exact HC258_0.out)
           rintro e w38 ⟨rfl, hb⟩
           refine ⟨_, rfl, ?_⟩
           have n0_ := Aside0.mk (Kd.R_below (by (with_reducible repeat (first | apply Kd.R_alloc | apply Kd.R_drewN | apply Kd.R_drew)); exact HO_258001.out) hb)
           have n1_ := Aside0.mk (blk_below (g := gb255) (o := .cells #[.int .i64 x256000_2, .slice none 0 0] 27 (0, 0)) (by (with_reducible repeat (first | refine blk_drewN ?_ _ | refine blk_drew ?_ | refine blk_alloc ?_ _)); exact BK255.out) hb)
           have n2_ := Aside0.mk (blk_below (g := gb257) (o := .cells #[.int .i64 a0, u258001] 27 (0, 0)) (by (with_reducible repeat (first | refine blk_drewN ?_ _ | refine blk_drew ?_ | refine blk_alloc ?_ _)); exact BK257.out) hb)
           have n3_ := Aside0.mk (below_step (by repeat (first | (with_reducible first | exact HB.out | apply below_alloc | apply pw_below_drewN | apply below_drew1 | refine below_set ?_ GE255.out | refine below_set ?_ GE257.out) | exact HB.out)) hb)
           clear HO_258001
           clear BK255
           clear BK257
           clear HB
           have HO_258001 := n0_
           have BK255 := n1_
           have BK257 := n2_
           have HB := n3_
           clear n0_ n1_ n2_ n3_
           (try clear hb)
           (try clear hb2)
           (try clear hk)
           (try clear hi)
           refine hK.out _ _ trivial (fun hHeld => ?_)
           clear hK K
           refine norm_ (a' := ?_) ?_ ?_
           rotate_left
           ·show Act.put _ (some 33) _ = _
            simp only [Act.put, List.setIfInBounds_toArray, List.set_cons_zero, List.set_cons_succ, i64_w, i32_w]
            rfl
           refine pure_ (i := 8) (N := some 34) (v := ?_) (a' := ?_) #[true, true, true, true, true, true, true, true, true, false, false, false, false, false, false, false, false, false, false] rfl rfl (any_of HT_.out (by kernel_rfl)) (fun _ _ _ h => h) (Or.inl ⟨by rfl, ?_⟩) ?_ ?_
           rotate_left
           ·intro w'
            go_simp
            with_reducible rfl
           rotate_left
           ·simp only [Act.put, List.setIfInBounds_toArray, List.set_cons_zero, List.set_cons_succ, i64_w, i32_w]
            rfl
           refine pure_ (i := 9) (N := some 35) (v := ?_) (a' := ?_) #[true, true, true, true, true, true, true, true, true, true, false, false, false, false, false, false, false, false, false] rfl rfl (any_of HT_.out (by kernel_rfl)) (fun _ _ _ h => h) (Or.inl ⟨by rfl, ?_⟩) ?_ ?_
           rotate_left
           ·intro w'
            go_simp
            with_reducible rfl
           rotate_left
           ·simp only [Act.put, List.setIfInBounds_toArray, List.set_cons_zero, List.set_cons_succ, i64_w, i32_w]
            rfl
           refine pure_ (i := 10) (N := some 36) (v := ?_) (a' := ?_) #[true, true, true, true, true, true, true, true, true, true, true, false, false, false, false, false, false, false, false] rfl rfl (any_of HT_.out (by kernel_rfl)) (fun _ _ _ h => h) (Or.inl ⟨by rfl, ?_⟩) ?_ ?_
           rotate_left
           ·intro w'
            go_simp
            with_reducible rfl
           rotate_left
           ·simp only [Act.put, List.setIfInBounds_toArray, List.set_cons_zero, List.set_cons_succ, i64_w, i32_w]
            rfl
           refine pure_ (i := 11) (N := some 37) (v := undef) (a' := ?_) #[true, true, true, true, true, true, true, true, true, true, true, true, false, false, false, false, false, false, false] rfl rfl (any_of HT_.out (by kernel_rfl)) (fun _ _ _ h => h) (Or.inr ⟨by rfl, rfl⟩) ?_ ?_
           rotate_left
           ·simp only [Act.put, List.setIfInBounds_toArray, List.set_cons_zero, List.set_cons_succ, i64_w, i32_w]
            rfl
           refine pure_ (i := 12) (N := some 38) (v := undef) (a' := ?_) #[true, true, true, true, true, true, true, true, true, true, true, true, true, false, false, false, false, false, false] rfl rfl (any_of HT_.out (by kernel_rfl)) (fun _ _ _ h => h) (Or.inr ⟨by rfl, rfl⟩) ?_ ?_
           rotate_left
           ·simp only [Act.put, List.setIfInBounds_toArray, List.set_cons_zero, List.set_cons_succ, i64_w, i32_w]
            rfl
           refine pure_ (i := 13) (N := some 39) (v := undef) (a' := ?_) #[true, true, true, true, true, true, true, true, true, true, true, true, true, true, false, false, false, false, false] rfl rfl (any_of HT_.out (by kernel_rfl)) (fun _ _ _ h => h) (Or.inr ⟨by rfl, rfl⟩) ?_ ?_
           rotate_left
           ·simp only [Act.put, List.setIfInBounds_toArray, List.set_cons_zero, List.set_cons_succ, i64_w, i32_w]
            rfl
           refine pure_ (i := 14) (N := some 40) (v := undef) (a' := ?_) #[true, true, true, true, true, true, true, true, true, true, true, true, true, true, true, false, false, false, false] rfl rfl (any_of HT_.out (by kernel_rfl)) (fun _ _ _ h => h) (Or.inr ⟨by rfl, rfl⟩) ?_ ?_
           rotate_left
           ·simp only [Act.put, List.setIfInBounds_toArray, List.set_cons_zero, List.set_cons_succ, i64_w, i32_w]
            rfl
           refine pure_ (i := 15) (N := some 41) (v := undef) (a' := ?_) #[true, true, true, true, true, true, true, true, true, true, true, true, true, true, true, true, false, false, false] rfl rfl (any_of HT_.out (by kernel_rfl)) (fun _ _ _ h => h) (Or.inr ⟨by rfl, rfl⟩) ?_ ?_
           rotate_left
           ·simp only [Act.put, List.setIfInBounds_toArray, List.set_cons_zero, List.set_cons_succ, i64_w, i32_w]
            rfl
           refine pure_ (i := 16) (N := some 42) (v := undef) (a' := ?_) #[true, true, true, true, true, true, true, true, true, true, true, true, true, true, true, true, true, false, false] rfl rfl (any_of HT_.out (by kernel_rfl)) (fun _ _ _ h => h) (Or.inr ⟨by rfl, rfl⟩) ?_ ?_
           rotate_left
           ·simp only [Act.put, List.setIfInBounds_toArray, List.set_cons_zero, List.set_cons_succ, i64_w, i32_w]
            rfl
           refine pure_ (i := 17) (N := some 43) (v := undef) (a' := ?_) #[true, true, true, true, true, true, true, true, true, true, true, true, true, true, true, true, true, true, false] rfl rfl (any_of HT_.out (by kernel_rfl)) (fun _ _ _ h => h) (Or.inr ⟨by rfl, rfl⟩) ?_ ?_
           rotate_left
           ·simp only [Act.put, List.setIfInBounds_toArray, List.set_cons_zero, List.set_cons_succ, i64_w, i32_w]
            rfl
           refine pure_ (i := 18) (N := some 44) (v := ?_) (a' := ?_) #[true, true, true, true, true, true, true, true, true, true, true, true, true, true, true, true, true, true, true] rfl rfl (any_of HT_.out (by kernel_rfl)) (fun _ _ _ h => h) (Or.inl ⟨by rfl, ?_⟩) ?_ ?_
           rotate_left
           ·intro w'
            go_simp
            with_reducible rfl
           rotate_left
           ·simp only [Act.put, List.setIfInBounds_toArray, List.set_cons_zero, List.set_cons_succ, i64_w, i32_w]
            rfl
           refine done_ (done_of HT_.out (by kernel_rfl)) ?_
           have hnb39 := NB255_257.out
           have hnc39 := NB257_255.out
           have hcz40_0 : w38.cell? ⟨gb255, 0, none⟩ = some (.int .i64 x256000_2) := (blk_cell BK255.out 0).trans rfl
           have hcz40_1 : w38.cell? ⟨gb255, 1, none⟩ = some (.slice none 0 0) := (blk_cell BK255.out 1).trans rfl
           have hfz40_0 := blk_frozen BK255.out 0
           have hfz40_1 := blk_frozen BK255.out 1
           try go_wp2
           refine bodyPost_ret (results_ct rfl _ _ gb255 27 #[.int .i64 0, .slice none 0 0] (0, 0) _ rfl (by (with_reducible repeat (first | refine blk_drewN ?_ _ | refine blk_drew ?_ | refine blk_alloc ?_ _)); refine blk_put (cs := #[.int .i64 0, .slice none 0 0]) ?_ 1 _ rfl; (with_reducible repeat (first | refine blk_drewN ?_ _ | refine blk_drew ?_ | refine blk_alloc ?_ _)); refine blk_put (cs := #[.int .i64 x256000_2, .slice none 0 0]) ?_ 0 _ rfl; (with_reducible repeat (first | refine blk_drewN ?_ _ | refine blk_drew ?_ | refine blk_alloc ?_ _)); exact BK255.out) Try.underlying27 rfl (by kernel_rfl)) rfl ?_
           exact ⟨_, by first | rfl | (simp [errW_none, errW_some] <;> rfl) | (simp [*, errW_none, errW_some] <;> rfl), by first | exact Kd.R_nil _ _ _ _ _ | exact Kd.N_nil _ _ _ _ _ | exact Kd.V_nil _ _ _ _ _ | exact Kd.Q_nil _ _ _ _ _ | exact Kd.S_nil _ _ _ _ _, by repeat (first | (with_reducible first | exact HB.out | apply below_alloc | apply pw_below_drewN | apply below_drew1 | refine below_set ?_ GE255.out | refine below_set ?_ GE257.out) | exact HB.out)⟩
         ·rw [if_neg c15] at H
          have c15b0 : (((rd_L1 l1 x22_2).length : Int) == 2) = false := beq_eq_false_iff_ne.mpr c15
          have c15b1 : (((rd_L1 l1 x22_2).length : Int) != 2) = true := bne_iff_ne.mpr c15
          simp only [Option.some.injEq, Prod.mk.injEq] at H
          obtain ⟨rfl, rfl, rfl⟩ := H
          have p258 : 0 ≤ (x22_2 : Int) := of_decide_eq_true (by first | (with_reducible assumption) | assumption)
          have q258 : x22_2 < (l1.length : Int) := of_decide_eq_true (by first | (with_reducible assumption) | assumption)
          obtain ⟨ad258, A258_0, c258_0, e258, hx258_0, hl258_0, hi258_0⟩ := at_L1 HR1.out x22_2 p258 q258
          cases e258
          replace hx258_0 := (HB.out.cell (World.block_lt_of_cell? w _ hx258_0)).trans hx258_0
          have HR258_0 := Aside0.mk hi258_0
          have HC258_0 := Aside0.mk hl258_0
          clear hi258_0 hl258_0
          replace p258 := eq_true p258
          replace q258 := eq_true q258
          try go_wp2
          have n0_ := Aside0.mk (Kd.R_drew HO_258001.out)
          have n1_ := Aside0.mk (blk_drew BK255.out)
          have n2_ := Aside0.mk (blk_drew BK257.out)
          have n3_ := Aside0.mk (below_drew1 HB.out)
          clear HO_258001
          clear BK255
          clear BK257
          clear HB
          have HO_258001 := n0_
          have BK255 := n1_
          have BK257 := n2_
          have HB := n3_
          clear n0_ n1_ n2_ n3_
          refine start_ (n := 19) (S := fun w' => True) (ds := []) #[false, false, false, false, false, false, false, false, false, false, false, false, false, false, false, false, false, false, false] (by kernel_rfl) rfl rfl trivial (fun hHeld => ?_); refine with_tabW impl_IntervalSystem.tab7 impl_IntervalSystem.bits7 (fun HT_ HW_ => ?_)
          generalize wr.drew = w41 at HO_258001 BK255 BK257 HB hHeld ⊢
          refine pure_ (i := 0) (N := some 26) (v := ?_) (a' := ?_) #[true, false, false, false, false, false, false, false, false, false, false, false, false, false, false, false, false, false, false] rfl rfl (any_of HT_.out (by kernel_rfl)) (fun _ _ _ h => h) (Or.inl ⟨by rfl, ?_⟩) ?_ ?_
          rotate_left
          ·intro w'
           go_simp
           with_reducible rfl
          rotate_left
          ·simp only [Act.put, List.setIfInBounds_toArray, List.set_cons_zero, List.set_cons_succ, i64_w, i32_w]
           rfl
          refine pure_ (i := 1) (N := some 27) (v := ?_) (a' := ?_) #[true, true, false, false, false, false, false, false, false, false, false, false, false, false, false, false, false, false, false] rfl rfl (any_of HT_.out (by kernel_rfl)) (fun _ _ _ h => h) (Or.inl ⟨by rfl, ?_⟩) ?_ ?_
          rotate_left
          ·intro w'
           go_simp
           with_reducible rfl
          rotate_left
          ·simp only [Act.put, List.setIfInBounds_toArray, List.set_cons_zero, List.set_cons_succ, i64_w, i32_w]
           rfl
          refine pure_ (i := 2) (N := some 28) (v := ?_) (a' := ?_) #[true, true, true, false, false, false, false, false, false, false, false, false, false, false, false, false, false, false, false] rfl rfl (any_of HT_.out (by kernel_rfl)) (fun _ _ _ h => h) (Or.inl ⟨by rfl, ?_⟩) ?_ ?_
          rotate_left
          ·intro w'
           go_simp
           with_reducible rfl
          rotate_left
          ·simp only [Act.put, List.setIfInBounds_toArray, List.set_cons_zero, List.set_cons_succ, i64_w, i32_w]
           rfl
          refine pure_ (i := 3) (N := some 29) (v := ?_) (a' := ?_) #[true, true, true, true, false, false, false, false, false, false, false, false, false, false, false, false, false, false, false] rfl rfl (any_of HT_.out (by kernel_rfl)) (fun _ _ _ h => h) (Or.inl ⟨by rfl, ?_⟩) ?_ ?_
          rotate_left
          ·intro w'
           go_simp
           with_reducible rfl
          rotate_left
          ·simp only [Act.put, List.setIfInBounds_toArray, List.set_cons_zero, List.set_cons_succ, i64_w, i32_w]
           rfl
          refine pure_ (i := 4) (N := some 30) (v := undef) (a' := ?_) #[true, true, true, true, true, false, false, false, false, false, false, false, false, false, false, false, false, false, false] rfl rfl (any_of HT_.out (by kernel_rfl)) (fun _ _ _ h => h) (Or.inr ⟨by rfl, rfl⟩) ?_ ?_
          rotate_left
          ·simp only [Act.put, List.setIfInBounds_toArray, List.set_cons_zero, List.set_cons_succ, i64_w, i32_w]
           rfl
          refine pure_ (i := 5) (N := some 31) (v := undef) (a' := ?_) #[true, true, true, true, true, true, false, false, false, false, false, false, false, false, false, false, false, false, false] rfl rfl (any_of HT_.out (by kernel_rfl)) (fun _ _ _ h => h) (Or.inr ⟨by rfl, rfl⟩) ?_ ?_
          rotate_left
          ·simp only [Act.put, List.setIfInBounds_toArray, List.set_cons_zero, List.set_cons_succ, i64_w, i32_w]
           rfl
          refine pure_ (i := 6) (N := some 32) (v := undef) (a' := ?_) #[true, true, true, true, true, true, true, false, false, false, false, false, false, false, false, false, false, false, false] rfl rfl (any_of HT_.out (by kernel_rfl)) (fun _ _ _ h => h) (Or.inr ⟨by rfl, rfl⟩) ?_ ?_
          rotate_left
          ·simp only [Act.put, List.setIfInBounds_toArray, List.set_cons_zero, List.set_cons_succ, i64_w, i32_w]
           rfl
          refine pure_ (i := 7) (N := some 33) (v := undef) (a' := ?_) #[true, true, true, true, true, true, true, true, false, false, false, false, false, false, false, false, false, false, false] rfl rfl (any_of HT_.out (by kernel_rfl)) (fun _ _ _ h => h) (Or.inr ⟨by rfl, rfl⟩) ?_ ?_
          rotate_left
          ·simp only [Act.put, List.setIfInBounds_toArray, List.set_cons_zero, List.set_cons_succ, i64_w, i32_w]
           rfl
          refine pure_ (i := 8) (N := some 34) (v := undef) (a' := ?_) #[true, true, true, true, true, true, true, true, true, false, false, false, false, false, false, false, false, false, false] rfl rfl (any_of HT_.out (by kernel_rfl)) (fun _ _ _ h => h) (Or.inr ⟨by rfl, rfl⟩) ?_ ?_
          rotate_left
          ·simp only [Act.put, List.setIfInBounds_toArray, List.set_cons_zero, List.set_cons_succ, i64_w, i32_w]
           rfl
          refine pure_ (i := 9) (N := some 35) (v := ?_) (a' := ?_) #[true, true, true, true, true, true, true, true, true, true, false, false, false, false, false, false, false, false, false] rfl rfl (any_of HT_.out (by kernel_rfl)) (fun _ _ _ h => h) (Or.inl ⟨by rfl, ?_⟩) ?_ ?_
          rotate_left
          ·intro w'
           go_simp
           with_reducible rfl
          rotate_left
          ·simp only [Act.put, List.setIfInBounds_toArray, List.set_cons_zero, List.set_cons_succ, i64_w, i32_w]
           rfl
          refine pure_ (i := 10) (N := some 36) (v := ?_) (a' := ?_) #[true, true, true, true, true, true, true, true, true, true, true, false, false, false, false, false, false, false, false] rfl rfl (any_of HT_.out (by kernel_rfl)) (fun _ _ _ h => h) (Or.inl ⟨by rfl, ?_⟩) ?_ ?_
          rotate_left
          ·intro w'
           go_simp
           with_reducible rfl
          rotate_left
          ·simp only [Act.put, List.setIfInBounds_toArray, List.set_cons_zero, List.set_cons_succ, i64_w, i32_w]
           rfl
          refine pure_ (i := 11) (N := some 37) (v := undef) (a' := ?_) #[true, true, true, true, true, true, true, true, true, true, true, true, false, false, false, false, false, false, false] rfl rfl (any_of HT_.out (by kernel_rfl)) (fun _ _ _ h => h) (Or.inr ⟨by rfl, rfl⟩) ?_ ?_
          rotate_left
          ·simp only [Act.put, List.setIfInBounds_toArray, List.set_cons_zero, List.set_cons_succ, i64_w, i32_w]
           rfl
          refine pure_ (i := 12) (N := some 38) (v := undef) (a' := ?_) #[true, true, true, true, true, true, true, true, true, true, true, true, true, false, false, false, false, false, false] rfl rfl (any_of HT_.out (by kernel_rfl)) (fun _ _ _ h => h) (Or.inr ⟨by rfl, rfl⟩) ?_ ?_
          rotate_left
          ·simp only [Act.put, List.setIfInBounds_toArray, List.set_cons_zero, List.set_cons_succ, i64_w, i32_w]
           rfl
          refine pure_ (i := 13) (N := some 39) (v := undef) (a' := ?_) #[true, true, true, true, true, true, true, true, true, true, true, true, true, true, false, false, false, false, false] rfl rfl (any_of HT_.out (by kernel_rfl)) (fun _ _ _ h => h) (Or.inr ⟨by rfl, rfl⟩) ?_ ?_
          rotate_left
          ·simp only [Act.put, List.setIfInBounds_toArray, List.set_cons_zero, List.set_cons_succ, i64_w, i32_w]
           rfl
          refine pure_ (i := 14) (N := some 40) (v := undef) (a' := ?_) #[true, true, true, true, true, true, true, true, true, true, true, true, true, true, true, false, false, false, false] rfl rfl (any_of HT_.out (by kernel_rfl)) (fun _ _ _ h => h) (Or.inr ⟨by rfl, rfl⟩) ?_ ?_
          rotate_left
          ·simp only [Act.put, List.setIfInBounds_toArray, List.set_cons_zero, List.set_cons_succ, i64_w, i32_w]
           rfl
          refine pure_ (i := 15) (N := some 41) (v := undef) (a' := ?_) #[true, true, true, true, true, true, true, true, true, true, true, true, true, true, true, true, false, false, false] rfl rfl (any_of HT_.out (by kernel_rfl)) (fun _ _ _ h => h) (Or.inr ⟨by rfl, rfl⟩) ?_ ?_
          rotate_left
          ·simp only [Act.put, List.setIfInBounds_toArray, List.set_cons_zero, List.set_cons_succ, i64_w, i32_w]
           rfl
          refine pure_ (i := 16) (N := some 42) (v := undef) (a' := ?_) #[true, true, true, true, true, true, true, true, true, true, true, true, true, true, true, true, true, false, false] rfl rfl (any_of HT_.out (by kernel_rfl)) (fun _ _ _ h => h) (Or.inr ⟨by rfl, rfl⟩) ?_ ?_
          rotate_left
          ·simp only [Act.put, List.setIfInBounds_toArray, List.set_cons_zero, List.set_cons_succ, i64_w, i32_w]
           rfl
          refine pure_ (i := 17) (N := some 43) (v := undef) (a' := ?_) #[true, true, true, true, true, true, true, true, true, true, true, true, true, true, true, true, true, true, false] rfl rfl (any_of HT_.out (by kernel_rfl)) (fun _ _ _ h => h) (Or.inr ⟨by rfl, rfl⟩) ?_ ?_
          rotate_left
          ·simp only [Act.put, List.setIfInBounds_toArray, List.set_cons_zero, List.set_cons_succ, i64_w, i32_w]
           rfl
          refine pure_ (i := 18) (N := some 44) (v := ?_) (a' := ?_) #[true, true, true, true, true, true, true, true, true, true, true, true, true, true, true, true, true, true, true] rfl rfl (any_of HT_.out (by kernel_rfl)) (fun _ _ _ h => h) (Or.inl ⟨by rfl, ?_⟩) ?_ ?_
          rotate_left
          ·intro w'
           go_simp
           with_reducible rfl
          rotate_left
          ·simp only [Act.put, List.setIfInBounds_toArray, List.set_cons_zero, List.set_cons_succ, i64_w, i32_w]
           rfl
          refine done_ (done_of HT_.out (by kernel_rfl)) ?_
          have hnb42 := NB255_257.out
          have hnc42 := NB257_255.out
          have hcz43_0 : w41.cell? ⟨gb255, 0, none⟩ = some (.int .i64 x256000_2) := (blk_cell BK255.out 0).trans rfl
          have hcz43_1 : w41.cell? ⟨gb255, 1, none⟩ = some (.slice none 0 0) := (blk_cell BK255.out 1).trans rfl
          have hfz43_0 := blk_frozen BK255.out 0
          have hfz43_1 := blk_frozen BK255.out 1
          try go_wp2
          refine bodyPost_ret (results_ct rfl _ _ gb255 27 #[.int .i64 0, .slice none 0 0] (0, 0) _ rfl (by (with_reducible repeat (first | refine blk_drewN ?_ _ | refine blk_drew ?_ | refine blk_alloc ?_ _)); refine blk_put (cs := #[.int .i64 0, .slice none 0 0]) ?_ 1 _ rfl; (with_reducible repeat (first | refine blk_drewN ?_ _ | refine blk_drew ?_ | refine blk_alloc ?_ _)); refine blk_put (cs := #[.int .i64 x256000_2, .slice none 0 0]) ?_ 0 _ rfl; (with_reducible repeat (first | refine blk_drewN ?_ _ | refine blk_drew ?_ | refine blk_alloc ?_ _)); exact BK255.out) Try.underlying27 rfl (by kernel_rfl)) rfl ?_
          exact ⟨_, by first | rfl | (simp [errW_none, errW_some] <;> rfl) | (simp [*, errW_none, errW_some] <;> rfl), by first | exact Kd.R_nil _ _ _ _ _ | exact Kd.N_nil _ _ _ _ _ | exact Kd.V_nil _ _ _ _ _ | exact Kd.Q_nil _ _ _ _ _ | exact Kd.S_nil _ _ _ _ _, by repeat (first | (with_reducible first | exact HB.out | apply below_alloc | apply pw_below_drewN | apply below_drew1 | refine below_set ?_ GE255.out | refine below_set ?_ GE257.out) | exact HB.out)⟩
        ·rw [if_neg c14] at H
         exact absurd H (by simp)
       ·rw [if_neg c13] at H
        exact absurd H (by simp)
      ·rw [if_neg c12] at H
       have c12b0 : decide (x22_2 < (l1.length : Int)) = false := decide_eq_false c12
       clear c12
       simp only [Option.some.injEq, Prod.mk.injEq] at H
       obtain ⟨rfl, rfl, rfl⟩ := H
       have hnb44 := NB257_255.out
       have hnc44 := NB255_257.out
       have hcz45_0 : wr.cell? ⟨gb257, 0, none⟩ = some (.int .i64 a0) := (blk_cell BK257.out 0).trans rfl
       have hcz45_1 : wr.cell? ⟨gb257, 1, none⟩ = some (u258001) := (blk_cell BK257.out 1).trans rfl
       have hfz45_0 := blk_frozen BK257.out 0
       have hfz45_1 := blk_frozen BK257.out 1
       have hcz46_0 : wr.cell? ⟨gb255, 0, none⟩ = some (.int .i64 x256000_2) := (blk_cell BK255.out 0).trans rfl
       have hcz46_1 : wr.cell? ⟨gb255, 1, none⟩ = some (.slice none 0 0) := (blk_cell BK255.out 1).trans rfl
       have hfz46_0 := blk_frozen BK255.out 0
       have hfz46_1 := blk_frozen BK255.out 1
       obtain ⟨Ao47, co47, eo47⟩ := Kd.R_slice HO_258001.out
       subst eo47
       go_wp2
       refine bodyPost_ret (results_ct rfl _ _ gb255 27 #[.int .i64 a0, .slice Ao47 x258001_2.length co47] (0, 0) _ rfl (by (with_reducible repeat (first | refine blk_drewN ?_ _ | refine blk_drew ?_ | refine blk_alloc ?_ _)); refine blk_put (cs := #[.int .i64 a0, .slice none 0 0]) ?_ 1 _ rfl; (with_reducible repeat (first | refine blk_drewN ?_ _ | refine blk_drew ?_ | refine blk_alloc ?_ _)); refine blk_put (cs := #[.int .i64 x256000_2, .slice none 0 0]) ?_ 0 _ rfl; (with_reducible repeat (first | refine blk_drewN ?_ _ | refine blk_drew ?_ | refine blk_alloc ?_ _)); exact BK255.out) Try.underlying27 rfl (by kernel_rfl)) rfl ?_
       exact ⟨_, by first | rfl | (simp [errW_none, errW_some] <;> rfl) | (simp [*, errW_none, errW_some] <;> rfl), by (with_reducible repeat (first | apply Kd.R_alloc | apply Kd.R_drewN | apply Kd.R_drew)); exact Kd.R_mono (Kd.R_far (p := ⟨gb255, 1, none⟩) (Kd.R_far (p := ⟨gb255, 0, none⟩) (Kd.R_types HO_258001.out BK255.out (by decide)) (fun _ hk => hk.2) (.int .i64 a0)) (fun _ hk => hk.2) (.slice Ao47 x258001_2.length co47)) (fun _ hk => trivial), by repeat (first | (with_reducible first | exact HB.out | apply below_alloc | apply pw_below_drewN | apply below_drew1 | refine below_set ?_ GE255.out | refine below_set ?_ GE257.out) | exact HB.out)⟩
end Go.Proofs.Ytplgfchiaapmfaa.Q
namespace Go.Proofs.Ytplgfchiaapmfaa.Q
open Go.RowKit Go.Proofs.YtplgfchiaapmfaaW.PrintWords Go.Proofs.YtplgfchiaapmfaaW.PrintLast Go.Proofs.YtplgfchiaapmfaaW.PrintMore
attribute [local go_sem] max2_int min2_int max_two min_two max_three min_three max_four min_four   -- for this text's walks alone
set_option linter.unusedVariables false
set_option linter.unusedSimpArgs false
def laws_eqInt64SS.l0 : Nat → List (List Int) → List (List Int) → Int → Option (Bool)
 | 0, _, _, _ => none
 | k + 1, x0, x1, x5 => if x5 < (x0.length : Int) then (if 0 ≤ x5 then (if x5 < (x1.length : Int) then ((laws_eqInt64S.f k (rd_L1 x0 x5) (rd_L1 x1 x5)).bind fun t269 => (if t269 = true then (laws_eqInt64SS.l0 k x0 x1 (wrap64 (x5 + 1))) else (some false))) else (none)) else (none)) else (some true)
def laws_eqInt64SS.f (k : Nat) (l0 : List (List Int)) (l1 : List (List Int)) : Option (Bool) := if (l0.length : Int) = (l1.length : Int) then (laws_eqInt64SS.l0 k l0 l1 0) else (some false)
theorem laws_eqInt64SS.mono_l : ∀ k, (∀ y0 y1 y2, LeO (laws_eqInt64SS.l0 k y0 y1 y2) (laws_eqInt64SS.l0 (k + 1) y0 y1 y2))
 | 0 => fun _ _ _ r h => by simp [laws_eqInt64SS.l0] at h
 | k + 1 => by
  have ih0 := laws_eqInt64SS.mono_l k
  ·intro y0 y1 y2
   unfold laws_eqInt64SS.l0
   repeat' first
   | (with_reducible exact ih0 _ _ _)
   | (with_reducible exact laws_eqInt64S.mono _ _ _)
   | (with_reducible exact LeO.refl _)
   | (with_reducible exact LeO.none _)
   | (with_reducible refine LeO.ite ?_ ?_)
   | (with_reducible refine LeO.bind ?_ (fun _ => ?_))
   | exact ih0 _ _ _
   | exact laws_eqInt64S.mono _ _ _
   | exact LeO.none _
   | refine LeO.ite ?_ ?_
   | refine LeO.bind ?_ (fun _ => ?_)
theorem laws_eqInt64SS.mono : ∀ a0 a1 k, LeO (laws_eqInt64SS.f k a0 a1) (laws_eqInt64SS.f (k + 1) a0 a1) := by
 intro a0 a1 k
 have ih0 := laws_eqInt64SS.mono_l k
 unfold laws_eqInt64SS.f
 repeat' first
   | (with_reducible exact ih0 _ _ _)
   | (with_reducible exact laws_eqInt64S.mono _ _ _)
   | (with_reducible exact LeO.refl _)
   | (with_reducible exact LeO.none _)
   | (with_reducible refine LeO.ite ?_ ?_)
   | (with_reducible refine LeO.bind ?_ (fun _ => ?_))
   | exact ih0 _ _ _
   | exact laws_eqInt64S.mono _ _ _
   | exact LeO.none _
   | refine LeO.ite ?_ ?_
   | refine LeO.bind ?_ (fun _ => ?_)
set_option maxHeartbeats 8000000 in
set_option maxRecDepth 100000 in
theorem laws_eqInt64SS.calls (k : Nat) (A0 : Option Addr) (c0 : Nat) (l0 : List (List Int)) (A1 : Option Addr) (c1 : Nat) (l1 : List (List Int)) (r : Bool) (w : World) (hr0 : Kd.C (Kd.slice 2 (Kd.int .i64)) w A0 l0.length l0) (hc0 : l0.length ≤ c0) (hr1 : Kd.C (Kd.slice 2 (Kd.int .i64)) w A1 l1.length l1) (hc1 : l1.length ≤ c1) (h : laws_eqInt64SS.f k l0 l1 = some r) :
  Calls Try.prog 30 #[.slice A0 l0.length c0, .slice A1 l1.length c1] w fun e w' => e = .returned (.bool r) ∧ Drawn0 w w' := by
 have HR0 := Aside0.mk hr0
 have HC0 := Aside0.mk hc0
 clear hr0 hc0
 have HR1 := Aside0.mk hr1
 have HC1 := Aside0.mk hc1
 clear hr1 hc1
 have H : (if (l0.length : Int) = (l1.length : Int) then (laws_eqInt64SS.l0 k l0 l1 0) else (some false)) = some r := h
 clear h
 by_cases c3 : (l0.length : Int) = (l1.length : Int)
 ·rw [if_pos c3] at H
  have c3b0 : ((l0.length : Int) == (l1.length : Int)) = true := beq_iff_eq.mpr c3
  have c3b1 : ((l0.length : Int) != (l1.length : Int)) = false := bne_eq_false_iff_eq.mpr c3
  have c3b2 : (l0.length == l1.length) = true := by first | simpa using c3 | (simp at c3 ⊢; omega)
  clear c3
  have H' := Aside0.mk H
  clear H
  go_enter Try.func30, Try.ntmps30
  go_wp2
  repeat (go_quiet (fail); try go_wp2)
  go_loopg [5] k (fun kq v5 w' => ∃ (x5_1 : Int), v5 = .int .i64 x5_1 ∧ Aside0 (laws_eqInt64SS.l0 kq l0 l1 x5_1 = some r) ∧ Aside0 (kq ≤ k) ∧ Drawn0 w w')
  case atStart => exact ⟨(0), (by first | rfl | (simp; done) | (simp [*]; done)), H', ⟨Nat.le_refl _⟩, by repeat (first | exact Drawn0.refl _ | apply Drawn0.step)⟩
  case round =>
   clear H'
   try clear c1
   try clear p2
   try clear c3
   try clear c3b0
   try clear c3b1
   try clear c3b2
   obtain ⟨x5_1, rfl, HA, HK1, ⟨m1, rfl⟩⟩ := hrel
   cases gk with
   | zero => exact absurd HA.out (by simp [laws_eqInt64SS.l0])
   | succ k1 =>
    have H := HA.out
    clear HA
    simp only [laws_eqInt64SS.l0] at H
    by_cases c4 : x5_1 < (l0.length : Int)
    ·rw [if_pos c4] at H
     have c4b0 : decide (x5_1 < (l0.length : Int)) = true := decide_eq_true c4
     clear c4
     by_cases c5 : 0 ≤ x5_1
     ·rw [if_pos c5] at H
      have c5b0 : decide (0 ≤ x5_1) = true := decide_eq_true c5
      clear c5
      by_cases c6 : x5_1 < (l1.length : Int)
      ·rw [if_pos c6] at H
       have c6b0 : decide (x5_1 < (l1.length : Int)) = true := decide_eq_true c6
       clear c6
       replace H := Option.bind_eq_some_iff.mp H
       obtain ⟨t269, A70, H⟩ := H
       replace H : (if t269 = true then (laws_eqInt64SS.l0 k1 l0 l1 (wrap64 (x5_1 + 1))) else (some false)) = some r := H
       have A7 := Aside0.mk A70
       clear A70
       by_cases c8 : t269 = true
       ·subst c8
        have H1 : (laws_eqInt64SS.l0 k1 l0 l1 (wrap64 (x5_1 + 1))) = some r := by rw [if_pos rfl] at H; exact H
        clear H
        have H := H1
        clear H1
        have H' := Aside0.mk H
        clear H
        have p267 : 0 ≤ (x5_1 : Int) := of_decide_eq_true (by first | (with_reducible assumption) | assumption)
        have q267 : x5_1 < (l0.length : Int) := of_decide_eq_true (by first | (with_reducible assumption) | assumption)
        obtain ⟨ad267, A267_0, c267_0, e267, hx267_0, hl267_0, hi267_0⟩ := at_L1 HR0.out x5_1 p267 q267
        cases e267
        have HR267_0 := Aside0.mk hi267_0
        have HC267_0 := Aside0.mk hl267_0
        clear hi267_0 hl267_0
        replace p267 := eq_true p267
        replace q267 := eq_true q267
        have p268 : 0 ≤ (x5_1 : Int) := of_decide_eq_true (by first | (with_reducible assumption) | assumption)
        have q268 : x5_1 < (l1.length : Int) := of_decide_eq_true (by first | (with_reducible assumption) | assumption)
        obtain ⟨ad268, A268_0, c268_0, e268, hx268_0, hl268_0, hi268_0⟩ := at_L1 HR1.out x5_1 p268 q268
        cases e268
        have HR268_0 := Aside0.mk hi268_0
        have HC268_0 := Aside0.mk hl268_0
        clear hi268_0 hl268_0
        replace p268 := eq_true p268
        replace q268 := eq_true q268
        go_wp2_with (first | (go_at_call 42; (with_reducible refine (laws_eqInt64S.calls k1 _ _ (rd_L1 l0 x5_1) _ _ (rd_L1 l1 x5_1) true _ ?side1 ?side2 ?side3 ?side4 A7.out).mono ?_); (case side1 => repeat (first | exact HR267_0.out | (with_reducible refine Kd.C_alloc ?_ _) | (with_reducible refine Kd.C_drewN ?_ _) | (with_reducible refine Kd.C_drew ?_))); (case side2 => exact HC267_0.out); (case side3 => repeat (first | exact HR268_0.out | (with_reducible refine Kd.C_alloc ?_ _) | (with_reducible refine Kd.C_drewN ?_ _) | (with_reducible refine Kd.C_drew ?_))); (case side4 => exact HC268_0.out); rintro e w' ⟨rfl, ⟨nd, rfl⟩⟩; (try first | exact ⟨rfl, _, World.drewN_drewN _ _ _⟩ | exact ⟨rfl, _, Eq.trans (World.drewN_drewN _ _ _) (congrArg (World.drewN _) (Nat.add_assoc _ _ _))⟩)))
        repeat (go_quiet (first | (go_at_call 42; (with_reducible refine (laws_eqInt64S.calls k1 _ _ (rd_L1 l0 x5_1) _ _ (rd_L1 l1 x5_1) true _ ?side1 ?side2 ?side3 ?side4 A7.out).mono ?_); (case side1 => repeat (first | exact HR267_0.out | (with_reducible refine Kd.C_alloc ?_ _) | (with_reducible refine Kd.C_drewN ?_ _) | (with_reducible refine Kd.C_drew ?_))); (case side2 => exact HC267_0.out); (case side3 => repeat (first | exact HR268_0.out | (with_reducible refine Kd.C_alloc ?_ _) | (with_reducible refine Kd.C_drewN ?_ _) | (with_reducible refine Kd.C_drew ?_))); (case side4 => exact HC268_0.out); rintro e w' ⟨rfl, ⟨nd, rfl⟩⟩; (try first | exact ⟨rfl, _, World.drewN_drewN _ _ _⟩ | exact ⟨rfl, _, Eq.trans (World.drewN_drewN _ _ _) (congrArg (World.drewN _) (Nat.add_assoc _ _ _))⟩))); try go_wp2_with (first | (go_at_call 42; (with_reducible refine (laws_eqInt64S.calls k1 _ _ (rd_L1 l0 x5_1) _ _ (rd_L1 l1 x5_1) true _ ?side1 ?side2 ?side3 ?side4 A7.out).mono ?_); (case side1 => repeat (first | exact HR267_0.out | (with_reducible refine Kd.C_alloc ?_ _) | (with_reducible refine Kd.C_drewN ?_ _) | (with_reducible refine Kd.C_drew ?_))); (case side2 => exact HC267_0.out); (case side3 => repeat (first | exact HR268_0.out | (with_reducible refine Kd.C_alloc ?_ _) | (with_reducible refine Kd.C_drewN ?_ _) | (with_reducible refine Kd.C_drew ?_))); (case side4 => exact HC268_0.out); rintro e w' ⟨rfl, ⟨nd, rfl⟩⟩; (try first | exact ⟨rfl, _, World.drewN_drewN _ _ _⟩ | exact ⟨rfl, _, Eq.trans (World.drewN_drewN _ _ _) (congrArg (World.drewN _) (Nat.add_assoc _ _ _))⟩))))
        go_roundg k1
        case measure => have := HK1.out; omega
        case rel => exact ⟨(wrap64 (x5_1 + 1)), (by first | rfl | (simp; done) | (simp [*]; done)), H', ⟨by have := HK1.out; omega⟩, by repeat (first | exact Drawn0.refl _ | apply Drawn0.step)⟩
       ·replace c8 := Bool.eq_false_iff.mpr c8
        subst c8
        have H1 : (some false) = some r := by rw [if_neg (show ¬ (false = true) by decide)] at H; exact H
        clear H
        have H := H1
        clear H1
        obtain rfl := Option.some.inj H
        have p267 : 0 ≤ (x5_1 : Int) := of_decide_eq_true (by first | (with_reducible assumption) | assumption)
        have q267 : x5_1 < (l0.length : Int) := of_decide_eq_true (by first | (with_reducible assumption) | assumption)
        obtain ⟨ad267, A267_0, c267_0, e267, hx267_0, hl267_0, hi267_0⟩ := at_L1 HR0.out x5_1 p267 q267
        cases e267
        have HR267_0 := Aside0.mk hi267_0
        have HC267_0 := Aside0.mk hl267_0
        clear hi267_0 hl267_0
        replace p267 := eq_true p267
        replace q267 := eq_true q267
        have p268 : 0 ≤ (x5_1 : Int) := of_decide_eq_true (by first | (with_reducible assumption) | assumption)
        have q268 : x5_1 < (l1.length : Int) := of_decide_eq_true (by first | (with_reducible assumption) | assumption)
        obtain ⟨ad268, A268_0, c268_0, e268, hx268_0, hl268_0, hi268_0⟩ := at_L1 HR1.out x5_1 p268 q268
        cases e268
        have HR268_0 := Aside0.mk hi268_0
        have HC268_0 := Aside0.mk hl268_0
        clear hi268_0 hl268_0
        replace p268 := eq_true p268
        replace q268 := eq_true q268
        go_wp2_with (first | (go_at_call 42; (with_reducible refine (laws_eqInt64S.calls k1 _ _ (rd_L1 l0 x5_1) _ _ (rd_L1 l1 x5_1) false _ ?side1 ?side2 ?side3 ?side4 A7.out).mono ?_); (case side1 => repeat (first | exact HR267_0.out | (with_reducible refine Kd.C_alloc ?_ _) | (with_reducible refine Kd.C_drewN ?_ _) | (with_reducible refine Kd.C_drew ?_))); (case side2 => exact HC267_0.out); (case side3 => repeat (first | exact HR268_0.out | (with_reducible refine Kd.C_alloc ?_ _) | (with_reducible refine Kd.C_drewN ?_ _) | (with_reducible refine Kd.C_drew ?_))); (case side4 => exact HC268_0.out); rintro e w' ⟨rfl, ⟨nd, rfl⟩⟩; (try first | exact ⟨rfl, _, World.drewN_drewN _ _ _⟩ | exact ⟨rfl, _, Eq.trans (World.drewN_drewN _ _ _) (congrArg (World.drewN _) (Nat.add_assoc _ _ _))⟩)))
        repeat (go_quiet (first | (go_at_call 42; (with_reducible refine (laws_eqInt64S.calls k1 _ _ (rd_L1 l0 x5_1) _ _ (rd_L1 l1 x5_1) false _ ?side1 ?side2 ?side3 ?side4 A7.out).mono ?_); (case side1 => repeat (first | exact HR267_0.out | (with_reducible refine Kd.C_alloc ?_ _) | (with_reducible refine Kd.C_drewN ?_ _) | (with_reducible refine Kd.C_drew ?_))); (case side2 => exact HC267_0.out); (case side3 => repeat (first | exact HR268_0.out | (with_reducible refine Kd.C_alloc ?_ _) | (with_reducible refine Kd.C_drewN ?_ _) | (with_reducible refine Kd.C_drew ?_))); (case side4 => exact HC268_0.out); rintro e w' ⟨rfl, ⟨nd, rfl⟩⟩; (try first | exact ⟨rfl, _, World.drewN_drewN _ _ _⟩ | exact ⟨rfl, _, Eq.trans (World.drewN_drewN _ _ _) (congrArg (World.drewN _) (Nat.add_assoc _ _ _))⟩))); try go_wp2_with (first | (go_at_call 42; (with_reducible refine (laws_eqInt64S.calls k1 _ _ (rd_L1 l0 x5_1) _ _ (rd_L1 l1 x5_1) false _ ?side1 ?side2 ?side3 ?side4 A7.out).mono ?_); (case side1 => repeat (first | exact HR267_0.out | (with_reducible refine Kd.C_alloc ?_ _) | (with_reducible refine Kd.C_drewN ?_ _) | (with_reducible refine Kd.C_drew ?_))); (case side2 => exact HC267_0.out); (case side3 => repeat (first | exact HR268_0.out | (with_reducible refine Kd.C_alloc ?_ _) | (with_reducible refine Kd.C_drewN ?_ _) | (with_reducible refine Kd.C_drew ?_))); (case side4 => exact HC268_0.out); rintro e w' ⟨rfl, ⟨nd, rfl⟩⟩; (try first | exact ⟨rfl, _, World.drewN_drewN _ _ _⟩ | exact ⟨rfl, _, Eq.trans (World.drewN_drewN _ _ _) (congrArg (World.drewN _) (Nat.add_assoc _ _ _))⟩))))
        go_ret
        exact ⟨by first | rfl | (simp; done) | (simp [*]; done), by repeat (first | exact Drawn0.refl _ | apply Drawn0.step)⟩
      ·rw [if_neg c6] at H
       exact absurd H (by simp)
     ·rw [if_neg c5] at H
      exact absurd H (by simp)
    ·rw [if_neg c4] at H
     have c4b0 : decide (x5_1 < (l0.length : Int)) = false := decide_eq_false c4
     clear c4
     obtain rfl := Option.some.inj H
     go_wp2
     repeat (go_quiet (fail); try go_wp2)
     go_ret
     exact ⟨by first | rfl | (simp; done) | (simp [*]; done), by repeat (first | exact Drawn0.refl _ | apply Drawn0.step)⟩
 ·rw [if_neg c3] at H
  have c3b0 : ((l0.length : Int) == (l1.length : Int)) = false := beq_eq_false_iff_ne.mpr c3
  have c3b1 : ((l0.length : Int) != (l1.length : Int)) = true := bne_iff_ne.mpr c3
  have c3b2 : (l0.length == l1.length) = false := by first | simpa using c3 | (simp at c3 ⊢; omega)
  obtain rfl := Option.some.inj H
  go_enter Try.func30, Try.ntmps30
  go_wp2
  repeat (go_quiet (fail); try go_wp2)
  go_ret
  exact ⟨by first | rfl | (simp; done) | (simp [*]; done), by repeat (first | exact Drawn0.refl _ | apply Drawn0.step)⟩
end Go.Proofs.Ytplgfchiaapmfaa.Q
namespace Go.Proofs.Ytplgfchiaapmfaa.Q
open Go.RowKit Go.Proofs.YtplgfchiaapmfaaW.PrintWords Go.Proofs.YtplgfchiaapmfaaW.PrintLast Go.Proofs.YtplgfchiaapmfaaW.PrintMore
set_option linter.unusedVariables false
def laws_markInt64SS.l0 : Nat → List (List Int) → Int → Int → Option (Int × List (List Int))
 | 0, _, _, _ => none
 | k + 1, x0, x1, x5 => if x5 < (x0.length : Int) then (if 0 ≤ x5 then ((laws_markInt64S.f k (rd_L1 x0 x5) x1).bind fun bt => laws_markInt64SS.l0 k (x0.set x5.toNat bt.2) bt.1 (wrap64 (x5 + 1))) else none) else some (x1, x0)
def laws_markInt64SS.f (k : Nat) (l0 : List (List Int)) (a1 : Int) : Option (Int × List (List Int)) := laws_markInt64SS.l0 k l0 a1 0
theorem laws_markInt64SS.mono_l : ∀ k, (∀ y0 y1 y2, LeO (laws_markInt64SS.l0 k y0 y1 y2) (laws_markInt64SS.l0 (k + 1) y0 y1 y2))
 | 0 => fun _ _ _ r h => by simp [laws_markInt64SS.l0] at h
 | k + 1 => by
  have ih0 := laws_markInt64SS.mono_l k
  intro y0 y1 y2
  unfold laws_markInt64SS.l0
  repeat' first
   | (with_reducible exact ih0 _ _ _)
   | (with_reducible exact laws_markInt64S.mono _ _ _)
   | (with_reducible exact LeO.refl _)
   | (with_reducible exact LeO.none _)
   | (with_reducible refine LeO.ite ?_ ?_)
   | (with_reducible refine LeO.bind ?_ (fun _ => ?_))
theorem laws_markInt64SS.mono : ∀ a0 a1 k, LeO (laws_markInt64SS.f k a0 a1) (laws_markInt64SS.f (k + 1) a0 a1) := fun a0 a1 k => laws_markInt64SS.mono_l k a0 a1 0
set_option maxHeartbeats 8000000 in
set_option maxRecDepth 100000 in
theorem laws_markInt64SS.calls (k : Nat) (P0_ : Nat → Prop) (u9000_ : Value) (l0 : List (List Int)) (a1 : Int) (r1 : Int) (r2 : List (List Int)) (w0 w : World) (hB : Below w0.heap.size w0 w) (ho0 : Kd.S (Kd.slice 2 (Kd.int .i64)) 22 w w0.heap.size P0_ u9000_ l0) (h : laws_markInt64SS.f k l0 a1 = some (r1, r2)) :
  Calls Try.prog 31 #[u9000_, .int .i64 a1] w fun e w' => e = .returned (.int .i64 r1) ∧ Kd.S (Kd.slice 2 (Kd.int .i64)) 22 w' w0.heap.size P0_ u9000_ r2 ∧ Below w0.heap.size w0 w' ∧ Kept w w' P0_ := by
 obtain ⟨A0, c0, rfl⟩ := Kd.S_slice ho0
 have HO := Aside0.mk ho0
 have HK := Aside0.mk (Kept.refl w P0_)
 have HB := Aside0.mk hB
 have H' := Aside0.mk (show laws_markInt64SS.l0 k l0 a1 0 = some (r1, r2) from h)
 clear hB ho0 h
 go_enter Try.func31, Try.ntmps31
 go_wp2
 go_loopg [1, 5] k (fun kq v1 v5 w' => ∃ (x0_1 : List (List Int)) (x1_1 : Int) (x5_1 : Int), v1 = .int .i64 x1_1 ∧ v5 = .int .i64 x5_1 ∧ Aside0 (x0_1.length = l0.length) ∧ Aside0 (laws_markInt64SS.l0 kq x0_1 x1_1 x5_1 = some (r1, r2)) ∧ Aside0 (kq ≤ k) ∧ Aside0 (Kd.S (Kd.slice 2 (Kd.int .i64)) 22 w' w0.heap.size P0_ (.slice A0 l0.length c0) x0_1) ∧ Aside0 (Kept w w' P0_) ∧ Aside0 (Below w0.heap.size w0 w'))
 case atStart => exact ⟨l0, a1, 0, (by first | rfl | (simp; done) | (simp [*]; done)), (by first | rfl | (simp; done) | (simp [*]; done)), ⟨rfl⟩, H', ⟨Nat.le_refl _⟩, ⟨by (with_reducible repeat (first | apply Kd.S_alloc | apply Kd.S_drewN | apply Kd.S_drew)); exact HO.out⟩, ⟨by repeat (first | (with_reducible first | exact HK.out | apply Kept.alloc | apply Kept.drewN | apply Kept.drew) | exact HK.out)⟩, ⟨by repeat (first | (with_reducible first | exact HB.out | apply below_alloc | apply pw_below_drewN | apply below_drew1) | exact HB.out)⟩⟩
 case round =>
  clear H' HO HK HB
  obtain ⟨x0_1, x1_1, x5_1, rfl, rfl, HL, HA, HK1, HO, HK, HB⟩ := hrel
  cases gk with
  | zero => exact absurd HA.out (by simp [laws_markInt64SS.l0])
  | succ k1 =>
   have H := HA.out
   clear HA
   simp only [laws_markInt64SS.l0, HL.out] at H
   by_cases c3 : x5_1 < (l0.length : Int)
   ·rw [if_pos c3] at H
    by_cases c4 : 0 ≤ x5_1
    ·rw [if_pos c4] at H
     replace H := Option.bind_eq_some_iff.mp H
     obtain ⟨⟨t1, t2⟩, A50, H⟩ := H
     have A5 := Aside0.mk A50
     clear A50
     have H' := Aside0.mk H
     clear H
     obtain ⟨g, cap, e, hgb, hgl, _⟩ := Kd.S_form HO.out (by rw [HL.out]; omega)
     rw [HL.out] at e
     injection e with e1 e2 e3
     subst e1
     subst e3
     obtain ⟨oki, ce, hcl, hM, hcc, hfr, hoki, hH⟩ := Kd.S_elem HO.out [] x5_1 c4 c3
     obtain ⟨ve, rfl, hR⟩ := hM
     have hcell := hcc 0 _ rfl
     simp only [show (Kd.slice 2 (Kd.int .i64)).sz = 1 from rfl, Nat.mul_one, Nat.add_zero] at hcell
     have HR := Aside0.mk hR
     have HH := Aside0.mk hH
     have HI := Aside0.mk hoki
     have c3b0 : decide (x5_1 < (l0.length : Int)) = true := decide_eq_true c3
     have c4b0 : decide (0 ≤ x5_1) = true := decide_eq_true c4
     have c4e := eq_true c4
     have c3e := eq_true c3
     clear hgb hgl hcl hcc hfr hR hH hoki c3 c4 e2
     obtain ⟨Ae, cce, rfl⟩ := Kd.R_slice HR.out
     go_wp2_with (first | ((with_reducible refine gate_callee (f := 43) rfl ?_); refine goesL_ (some 17) rfl rfl Try.func43 (by kernel_rfl) rfl #[_, .int .i64 x1_1] rfl (by (try simp only [List.map_toArray, List.map_cons, List.map_nil]); first | done | rfl) ?_; (with_reducible refine (laws_markInt64S.calls k1 oki _ (rd_L1 x0_1 x5_1) x1_1 t1 t2 w0 _ ?side1 ?side2 A5.out).mono ?_); (case side1 => repeat (first | (with_reducible first | exact HB.out | apply below_alloc | apply pw_below_drewN | apply below_drew1) | exact HB.out)); (case side2 => (with_reducible repeat (first | apply Kd.R_alloc | apply Kd.R_drewN | apply Kd.R_drew)); exact HR.out); rintro e w3 ⟨rfl, hy, hb, hkp⟩; have n0_ := Aside0.mk (Kd.H_back (Kd.H_kept (by (with_reducible repeat (first | apply Kd.H_alloc | apply Kd.H_drewN | apply Kd.H_drew)); exact HH.out) hkp (fun _ _ hn hs => hn hs)) (show (Kd.slice 2 (Kd.int .i64)).M w3 w0.heap.size oki t2 [_] from ⟨_, rfl, Kd.R_reok rfl hy (fun k_ e_ => HR.out.1 k_ e_)⟩) (fun _ h_ => h_)); have n1_ := Aside0.mk (Kept.then_ (by repeat (first | (with_reducible first | exact HK.out | apply Kept.alloc | apply Kept.drewN | apply Kept.drew) | exact HK.out)) hkp (fun k_ hk_ => .inl (HI.out k_ hk_).1)); have n2_ := Aside0.mk hb; clear HO HK HB hy hkp hb HH; have HO := n0_; have HK := n1_; have HB := n2_; clear n0_ n1_ n2_; refine ⟨_, rfl, ?_⟩))
     go_roundg k1
     case measure => have := HK1.out; omega
     case rel => exact ⟨x0_1.set x5_1.toNat t2, t1, wrap64 (x5_1 + 1), (by first | rfl | (simp; done) | (simp [*]; done)), (by first | rfl | (simp; done) | (simp [*]; done)), ⟨by rw [List.length_set]; exact HL.out⟩, H', ⟨by have := HK1.out; omega⟩, ⟨by (with_reducible repeat (first | apply Kd.S_alloc | apply Kd.S_drewN | apply Kd.S_drew)); exact HO.out⟩, ⟨by repeat (first | (with_reducible first | exact HK.out | apply Kept.alloc | apply Kept.drewN | apply Kept.drew) | exact HK.out)⟩, ⟨by repeat (first | (with_reducible first | exact HB.out | apply below_alloc | apply pw_below_drewN | apply below_drew1) | exact HB.out)⟩⟩
    ·rw [if_neg c4] at H
     exact absurd H (by simp)
   ·rw [if_neg c3] at H
    have c3b0 : decide (x5_1 < (l0.length : Int)) = false := decide_eq_false c3
    clear c3
    have H2 := Option.some.inj H
    injection H2 with h1 h2
    subst h1
    subst h2
    go_wp2
    go_ret
    exact ⟨rfl, by (with_reducible repeat (first | apply Kd.S_alloc | apply Kd.S_drewN | apply Kd.S_drew)); exact HO.out, by repeat (first | (with_reducible first | exact HB.out | apply below_alloc | apply pw_below_drewN | apply below_drew1) | exact HB.out), by repeat (first | (with_reducible first | exact HK.out | apply Kept.alloc | apply Kept.drewN | apply Kept.drew) | exact HK.out)⟩
end Go.Proofs.Ytplgfchiaapmfaa.Q
namespace Go.Proofs.Ytplgfchiaapmfaa.Q
open Go.RowKit Go.Proofs.YtplgfchiaapmfaaW.PrintWords Go.Proofs.YtplgfchiaapmfaaW.PrintLast Go.Proofs.YtplgfchiaapmfaaW.PrintMore
set_option linter.unusedVariables false
set_option linter.unusedSimpArgs false
def laws_FnExactIntervalSystem.f (k : Nat) (a0 : Int) (l1 : List (List Int)) : Option Bool := (laws_szInt64SS.f k l1 1048576).bind fun bt1 => (if bt1 < 0 then some true else ((laws_toInt64SS.f k l1).bind fun bt2 => ((spec_IntervalSystem.f k a0 bt2).bind fun bt4 => ((laws_toInt64SS.f k l1).bind fun bt9 => ((impl_IntervalSystem.f k a0 bt9).bind fun bt11 => ((laws_eqSystem.f k bt11.1 bt11.2.1 bt4.1 bt4.2.1).bind fun bt16 => (if bt16 = true then (if bt11.2.2 = bt4.2.2 then ((laws_toInt64SS.f k l1).bind fun bt17 => ((laws_eqInt64SS.f k bt9 bt17).bind fun bt19 => (if bt19 = true then ((laws_markInt64SS.f k bt9 1).bind fun bt20 => (if bt20.1 < 0 then some false else ((laws_eqSystem.f k bt11.1 bt11.2.1 bt4.1 bt4.2.1).bind fun bt22 => (if bt22 = true then ((laws_markSystem.f k bt11.1 bt11.2.1 1).bind fun bt23 => ((laws_heldSystem.f k bt11.1 bt23.2 1).bind fun bt25 => (if bt25 < 0 then some false else (if bt25 = bt23.1 then ((laws_toInt64SS.f k l1).bind fun bt26 => ((impl_IntervalSystem.f k a0 bt26).bind fun bt28 => ((laws_eqSystem.f k bt28.1 bt28.2.1 bt4.1 bt4.2.1).bind fun bt33 => (if bt33 = true then (if bt28.2.2 = bt11.2.2 then ((laws_heldSystem.f k bt11.1 bt23.2 1).bind fun bt34 => (if bt34 < 0 then some false else (if bt34 = bt25 then (some true) else some false))) else some false) else some false)))) else some false)))) else some false)))) else some false))) else some false) else some false)))))))
def laws_FnExactIntervalSystem.Pure : Prop := ∀ (a0 : Int) (l1 : List (List Int)), (Lit.int .i64 a0).wf = true → (l1.length ≤ maxLen ∧ ∀ y ∈ l1, (y.length ≤ maxLen ∧ ∀ y_ ∈ y, (Lit.int .i64 y_).wf = true)) → ∃ k, laws_FnExactIntervalSystem.f k a0 l1 = some true
set_option maxHeartbeats 16000000 in
set_option maxRecDepth 100000 in
theorem laws_FnExactIntervalSystem.calls (k : Nat) (a0 : Int) (A1 : Option Addr) (c1 : Nat) (l1 : List (List Int)) (w : World) (hr1 : Kd.C (Kd.slice 2 (Kd.int .i64)) w A1 l1.length l1) (hc1 : l1.length ≤ c1) (h : laws_FnExactIntervalSystem.f k a0 l1 = some true) :
  Calls Try.prog 6 #[.int .i64 a0, .slice A1 l1.length c1] w fun e w' => e = .returned (.bool true) ∧ Below w.heap.size w w' := by
 have HR1 := Aside0.mk hr1
 have HC1 := Aside0.mk hc1
 clear hr1 hc1
 have HB := Aside0.mk (Below.refl w.heap.size w)
 have H := h
 clear h
 unfold laws_FnExactIntervalSystem.f at H
 replace H := Option.bind_eq_some_iff.mp H
 obtain ⟨t1, E10, H⟩ := H
 (try dsimp only at H)
 have E1 := Aside0.mk E10
 clear E10
 by_cases c1 : t1 < 0
 ·clear H
  have c1b : decide (t1 < 0) = true := decide_eq_true c1
  clear c1
  go_enter Try.func6, Try.ntmps6
  go_wp2_with (first | ((with_reducible refine gate_callee (f := 26) rfl ?_); refine goesL_ (some 18) rfl rfl Try.func26 (by kernel_rfl) rfl #[.slice A1 l1.length c1, .int .i64 1048576] rfl (by (try simp only [List.map_toArray, List.map_cons, List.map_nil]); first | done | rfl) ?_; (with_reducible refine (laws_szInt64SS.calls k _ _ l1 1048576 t1 _ ?side1 ?side2 E1.out).mono ?_); (case side1 => exact Kd.C_below HR1.out HB.out); (case side2 => exact HC1.out); rintro e w_1 ⟨rfl, hd⟩; have hb := Drawn0.below hd; refine ⟨_, rfl, ?_⟩; have n0_ := Aside0.mk (below_step HB.out hb); clear HB; have HB := n0_; clear n0_; clear hb; clear hd))
  go_ret
  exact ⟨by first | rfl | (simp; done) | (simp [*]; done), HB.out⟩
 rw [if_neg c1] at H
 have c1b : decide (t1 < 0) = false := decide_eq_false c1
 clear c1
 replace H := Option.bind_eq_some_iff.mp H
 obtain ⟨t2, E30, H⟩ := H
 (try dsimp only at H)
 have E3 := Aside0.mk E30
 clear E30
 replace H := Option.bind_eq_some_iff.mp H
 obtain ⟨⟨t4, t5, t6⟩, E40, H⟩ := H
 (try dsimp only at H)
 have E4 := Aside0.mk E40
 clear E40
 replace H := Option.bind_eq_some_iff.mp H
 obtain ⟨t9, E50, H⟩ := H
 (try dsimp only at H)
 have E5 := Aside0.mk E50
 clear E50
 replace H := Option.bind_eq_some_iff.mp H
 obtain ⟨⟨t11, t12, t13⟩, E60, H⟩ := H
 (try dsimp only at H)
 have E6 := Aside0.mk E60
 clear E60
 replace H := Option.bind_eq_some_iff.mp H
 obtain ⟨t16, E70, H⟩ := H
 (try dsimp only at H)
 have E7 := Aside0.mk E70
 clear E70
 by_cases c7 : t16 = true
 rotate_left
 ·rw [if_neg c7] at H; exact absurd H (by simp)
 rw [if_pos c7] at H
 subst c7
 by_cases c8 : t13 = t6
 rotate_left
 ·rw [if_neg c8] at H; exact absurd H (by simp)
 rw [if_pos c8] at H
 subst c8
 replace H := Option.bind_eq_some_iff.mp H
 obtain ⟨t17, E100, H⟩ := H
 (try dsimp only at H)
 have E10 := Aside0.mk E100
 clear E100
 replace H := Option.bind_eq_some_iff.mp H
 obtain ⟨t19, E110, H⟩ := H
 (try dsimp only at H)
 have E11 := Aside0.mk E110
 clear E110
 by_cases c11 : t19 = true
 rotate_left
 ·rw [if_neg c11] at H; exact absurd H (by simp)
 rw [if_pos c11] at H
 subst c11
 replace H := Option.bind_eq_some_iff.mp H
 obtain ⟨⟨t20, t21⟩, E130, H⟩ := H
 (try dsimp only at H)
 have E13 := Aside0.mk E130
 clear E130
 by_cases c13 : t20 < 0
 ·rw [if_pos c13] at H; exact absurd H (by simp)
 rw [if_neg c13] at H
 have c13b : decide (t20 < 0) = false := decide_eq_false c13
 clear c13
 replace H := Option.bind_eq_some_iff.mp H
 obtain ⟨t22, E150, H⟩ := H
 (try dsimp only at H)
 have E15 := Aside0.mk E150
 clear E150
 by_cases c15 : t22 = true
 rotate_left
 ·rw [if_neg c15] at H; exact absurd H (by simp)
 rw [if_pos c15] at H
 subst c15
 replace H := Option.bind_eq_some_iff.mp H
 obtain ⟨⟨t23, t24⟩, E170, H⟩ := H
 (try dsimp only at H)
 have E17 := Aside0.mk E170
 clear E170
 replace H := Option.bind_eq_some_iff.mp H
 obtain ⟨t25, E180, H⟩ := H
 (try dsimp only at H)
 have E18 := Aside0.mk E180
 clear E180
 by_cases c18 : t25 < 0
 ·rw [if_pos c18] at H; exact absurd H (by simp)
 rw [if_neg c18] at H
 have c18b : decide (t25 < 0) = false := decide_eq_false c18
 clear c18
 by_cases c19 : t25 = t23
 rotate_left
 ·rw [if_neg c19] at H; exact absurd H (by simp)
 rw [if_pos c19] at H
 subst c19
 replace H := Option.bind_eq_some_iff.mp H
 obtain ⟨t26, E210, H⟩ := H
 (try dsimp only at H)
 have E21 := Aside0.mk E210
 clear E210
 replace H := Option.bind_eq_some_iff.mp H
 obtain ⟨⟨t28, t29, t30⟩, E220, H⟩ := H
 (try dsimp only at H)
 have E22 := Aside0.mk E220
 clear E220
 replace H := Option.bind_eq_some_iff.mp H
 obtain ⟨t33, E230, H⟩ := H
 (try dsimp only at H)
 have E23 := Aside0.mk E230
 clear E230
 by_cases c23 : t33 = true
 rotate_left
 ·rw [if_neg c23] at H; exact absurd H (by simp)
 rw [if_pos c23] at H
 subst c23
 by_cases c24 : t30 = t13
 rotate_left
 ·rw [if_neg c24] at H; exact absurd H (by simp)
 rw [if_pos c24] at H
 subst c24
 replace H := Option.bind_eq_some_iff.mp H
 obtain ⟨t34, E260, H⟩ := H
 (try dsimp only at H)
 have E26 := Aside0.mk E260
 clear E260
 by_cases c26 : t34 < 0
 ·rw [if_pos c26] at H; exact absurd H (by simp)
 rw [if_neg c26] at H
 have c26b : decide (t34 < 0) = false := decide_eq_false c26
 clear c26
 by_cases c27 : t34 = t25
 rotate_left
 ·rw [if_neg c27] at H; exact absurd H (by simp)
 rw [if_pos c27] at H
 subst c27
 clear H
 go_enter Try.func6, Try.ntmps6
 go_wp2_with (first | ((with_reducible refine gate_callee (f := 26) rfl ?_); refine goesL_ (some 18) rfl rfl Try.func26 (by kernel_rfl) rfl #[.slice A1 l1.length c1, .int .i64 1048576] rfl (by (try simp only [List.map_toArray, List.map_cons, List.map_nil]); first | done | rfl) ?_; (with_reducible refine (laws_szInt64SS.calls k _ _ l1 1048576 t1 _ ?side1 ?side2 E1.out).mono ?_); (case side1 => exact Kd.C_below HR1.out HB.out); (case side2 => exact HC1.out); rintro e w_1 ⟨rfl, hd⟩; have hb := Drawn0.below hd; refine ⟨_, rfl, ?_⟩; have n0_ := Aside0.mk (below_step HB.out hb); clear HB; have HB := n0_; clear n0_; clear hb; clear hd) | ((with_reducible refine gate_callee (f := 28) rfl ?_); refine goesL_ (some 24) rfl rfl Try.func28 (by kernel_rfl) rfl #[.slice A1 l1.length c1] rfl (by (try simp only [List.map_toArray, List.map_cons, List.map_nil]); first | done | rfl) ?_; (with_reducible refine (laws_toInt64SS.calls k _ _ l1 t2 _ ?side1 ?side2 E3.out).mono ?_); (case side1 => exact Kd.C_below HR1.out HB.out); (case side2 => exact HC1.out); rintro e w_2 ⟨vR3, rfl, hoR3, hb⟩; refine ⟨_, rfl, ?_⟩; obtain ⟨loR3, hloR3⟩ : ∃ n_ : Nat, n_ = w_1.heap.size := ⟨_, rfl⟩; obtain ⟨hiR3, hhiR3⟩ : ∃ n_ : Nat, n_ = w_2.heap.size := ⟨_, rfl⟩; have n0_ := Aside0.mk (below_step HB.out hb); have n1_ := Aside0.mk (Kd.S_lower (Kd.S_mono (ok' := fun k_ => loR3 ≤ k_ ∧ k_ < hiR3) (Kd.S_bound hoR3) (fun k_ hk_ => ⟨by rw [hloR3]; exact hk_.2.1, by rw [hhiR3]; exact hk_.2.2.1⟩)) (below_size HB.out)); have n2_ := Aside0.mk (by rw [hhiR3]; exact Nat.le_refl _ : hiR3 ≤ w_2.heap.size); clear HB; have HB := n0_; have HOR3 := n1_; have UPR3 := n2_; clear n0_ n1_ n2_; clear hb; clear hoR3 hloR3 hhiR3; obtain ⟨AR3, cR3, eqR3⟩ := Kd.S_slice HOR3.out; subst eqR3) | ((with_reducible refine gate_callee (f := 27) rfl ?_); refine goesL_ (some 25) rfl rfl Try.func27 (by kernel_rfl) rfl #[.int .i64 a0, .slice AR3 t2.length cR3] rfl (by (try simp only [List.map_toArray, List.map_cons, List.map_nil]); first | done | rfl) ?_; (with_reducible refine (spec_IntervalSystem.calls k a0 _ _ t2 t4 t5 t30 _ ?side1 ?side2 E4.out).mono ?_); (case side1 => exact (Kd.S_reads' HOR3.out).2.2); (case side2 => exact (Kd.S_reads' HOR3.out).2.1); rintro e w_3 ⟨vR7, rfl, hoR7, hb⟩; refine ⟨_, rfl, ?_⟩; obtain ⟨loR7, hloR7⟩ : ∃ n_ : Nat, n_ = w_2.heap.size := ⟨_, rfl⟩; obtain ⟨hiR7, hhiR7⟩ : ∃ n_ : Nat, n_ = w_3.heap.size := ⟨_, rfl⟩; have n0_ := Aside0.mk (Kd.S_below HOR3.out hb); have n1_ := Aside0.mk (Nat.le_trans UPR3.out hb.size); have n2_ := Aside0.mk (below_step HB.out hb); have n3_ := Aside0.mk (Kd.R_lower (Kd.R_mono (ok' := fun k_ => loR7 ≤ k_ ∧ k_ < hiR7) (Kd.R_bound hoR7) (fun k_ hk_ => ⟨by rw [hloR7]; exact hk_.2.1, by rw [hhiR7]; exact hk_.2.2.1⟩)) (below_size HB.out)); have n4_ := Aside0.mk (by rw [hhiR7]; exact Nat.le_refl _ : hiR7 ≤ w_3.heap.size); have n5_ := Aside0.mk (fun k_ h1_ h2_ => by have := UPR3.out; rw [← hloR7] at this; omega : ∀ k_, loR3 ≤ k_ ∧ k_ < hiR3 → ¬ (loR7 ≤ k_ ∧ k_ < hiR7)); have n6_ := Aside0.mk (fun k_ h1_ h2_ => by have := UPR3.out; rw [← hloR7] at this; omega : ∀ k_, loR7 ≤ k_ ∧ k_ < hiR7 → ¬ (loR3 ≤ k_ ∧ k_ < hiR3)); clear HOR3; clear UPR3; clear HB; have HOR3 := n0_; have UPR3 := n1_; have HB := n2_; have HOR7 := n3_; have UPR7 := n4_; have NRR3_R7 := n5_; have NRR7_R3 := n6_; clear n0_ n1_ n2_ n3_ n4_ n5_ n6_; clear hb; clear hoR7 hloR7 hhiR7; obtain ⟨AR7, cR7, eqR7⟩ := Kd.R_slice HOR7.out; subst eqR7) | ((with_reducible refine gate_dst (N := 6) rfl ?_); refine box_event ?hg (N := 6) ?hd (cs := #[.int .i64 0, .slice none 0 0]) (t := 27) ?hr ?_; (case hd => rfl); (case hg => rfl); (case hr => first | (go_simp; done) | (go_simp; rfl)); intro gb8 hg w_4 hbox hb; have n0_ := Aside0.mk (Kd.S_below HOR3.out hb); have n1_ := Aside0.mk (Kd.R_below HOR7.out hb); have n2_ := Aside0.mk (Nat.le_trans UPR3.out hb.size); have n3_ := Aside0.mk (Nat.le_trans UPR7.out hb.size); have n4_ := Aside0.mk (below_step HB.out hb); have n5_ := Aside0.mk (hbox); have n6_ := Aside0.mk (blk_lt hbox); have n7_ := Aside0.mk (by rw [hg]; exact below_size HB.out : w.heap.size ≤ gb8); have n8_ := Aside0.mk (fun k_ hk_ => by have := UPR3.out; rw [← hg] at this; omega : ∀ k_, loR3 ≤ k_ ∧ k_ < hiR3 → k_ ≠ gb8); have n9_ := Aside0.mk (fun k_ hk_ => by have := UPR7.out; rw [← hg] at this; omega : ∀ k_, loR7 ≤ k_ ∧ k_ < hiR7 → k_ ≠ gb8); clear HOR3; clear HOR7; clear UPR3; clear UPR7; clear HB; have HOR3 := n0_; have HOR7 := n1_; have UPR3 := n2_; have UPR7 := n3_; have HB := n4_; have BKgb8 := n5_; have GUgb8 := n6_; have GEgb8 := n7_; have NER3_gb8 := n8_; have NER7_gb8 := n9_; clear n0_ n1_ n2_ n3_ n4_ n5_ n6_ n7_ n8_ n9_; clear hb hbox hg; (try clear hczgb8_0); (try clear hfzgb8_0); (try clear hczgb8_1); (try clear hfzgb8_1); have hczgb8_0 : w_4.cell? ⟨gb8, 0, none⟩ = some (.int .i64 0) := (blk_cell BKgb8.out 0).trans rfl; have hfzgb8_0 := blk_frozen BKgb8.out 0; have hczgb8_1 : w_4.cell? ⟨gb8, 1, none⟩ = some (.slice none 0 0) := (blk_cell BKgb8.out 1).trans rfl; have hfzgb8_1 := blk_frozen BKgb8.out 1) | ((with_reducible refine gate_store (t := 27) (p := 6) rfl ?_); refine store_event (t := 27) (p := 6) (v := ?vow_5) (w1 := ((w_4.setCell ⟨gb8, 0, none⟩ (.int .i64 t4)).setCell ⟨gb8, 1, none⟩ (.slice AR7 t5.length cR7))) ?hg ?ho ?hn ?hr ?_; (case ho => rfl); (case hg => rfl); (case hn => rfl); (case hr => first | (go_simp; done) | (go_simp; rfl)); intro w_5 hw; have n0_ := Aside0.mk (by rw [hw]; exact (Kd.S_far (p := ⟨gb8, 1, none⟩) (Kd.S_far (p := ⟨gb8, 0, none⟩) HOR3.out NER3_gb8.out (.int .i64 t4)) NER3_gb8.out (.slice AR7 t5.length cR7)) : Kd.S (Kd.slice 2 (Kd.int .i64)) 22 w_5 w.heap.size (fun k_ => loR3 ≤ k_ ∧ k_ < hiR3) (.slice AR3 t2.length cR3) t2); have n1_ := Aside0.mk (by rw [hw]; simp only [World.size_setCell]; exact UPR3.out : hiR3 ≤ w_5.heap.size); have n2_ := Aside0.mk (by rw [hw]; exact (Kd.R_far (p := ⟨gb8, 1, none⟩) (Kd.R_far (p := ⟨gb8, 0, none⟩) HOR7.out NER7_gb8.out (.int .i64 t4)) NER7_gb8.out (.slice AR7 t5.length cR7)) : Kd.R (Kd.int .i64) 2 w_5 w.heap.size (fun k_ => loR7 ≤ k_ ∧ k_ < hiR7) (.slice AR7 t5.length cR7) t5); have n3_ := Aside0.mk (by rw [hw]; simp only [World.size_setCell]; exact UPR7.out : hiR7 ≤ w_5.heap.size); have n4_ := Aside0.mk (by rw [hw]; exact (blk_put (cs' := #[.int .i64 t4, .slice AR7 t5.length cR7]) (blk_put (cs' := #[.int .i64 t4, .slice none 0 0]) BKgb8.out 0 (.int .i64 t4) rfl) 1 (.slice AR7 t5.length cR7) rfl) : w_5.heap[gb8]? = some (.cells #[.int .i64 t4, .slice AR7 t5.length cR7] 27 (0, 0))); have n5_ := Aside0.mk (by rw [hw]; simp only [World.size_setCell]; exact GUgb8.out : gb8 < w_5.heap.size); have n6_ := Aside0.mk (by rw [hw]; exact (below_set (below_set HB.out GEgb8.out) GEgb8.out) : Below w.heap.size w w_5); clear HOR3; clear UPR3; clear HOR7; clear UPR7; clear BKgb8; clear GUgb8; clear HB; have HOR3 := n0_; have UPR3 := n1_; have HOR7 := n2_; have UPR7 := n3_; have BKgb8 := n4_; have GUgb8 := n5_; have HB := n6_; clear n0_ n1_ n2_ n3_ n4_ n5_ n6_; clear hw; (try clear hczgb8_0); (try clear hfzgb8_0); (try clear hczgb8_1); (try clear hfzgb8_1); have hczgb8_0 : w_5.cell? ⟨gb8, 0, none⟩ = some (.int .i64 t4) := (blk_cell BKgb8.out 0).trans rfl; have hfzgb8_0 := blk_frozen BKgb8.out 0; have hczgb8_1 : w_5.cell? ⟨gb8, 1, none⟩ = some (.slice AR7 t5.length cR7) := (blk_cell BKgb8.out 1).trans rfl; have hfzgb8_1 := blk_frozen BKgb8.out 1) | ((with_reducible refine gate_callee (f := 28) rfl ?_); refine goesL_ (some 29) rfl rfl Try.func28 (by kernel_rfl) rfl #[.slice A1 l1.length c1] rfl (by (try simp only [List.map_toArray, List.map_cons, List.map_nil]); first | done | rfl) ?_; have HWM := HB; have HBM := Aside0.mk (Below.refl w_5.heap.size w_5); (with_reducible refine (laws_toInt64SS.calls k _ _ l1 t9 _ ?side1 ?side2 E5.out).mono ?_); (case side1 => exact Kd.C_below HR1.out HB.out); (case side2 => exact HC1.out); rintro e w_6 ⟨vR10, rfl, hoR10, hb⟩; refine ⟨_, rfl, ?_⟩; obtain ⟨loR10, hloR10⟩ : ∃ n_ : Nat, n_ = w_5.heap.size := ⟨_, rfl⟩; obtain ⟨hiR10, hhiR10⟩ : ∃ n_ : Nat, n_ = w_6.heap.size := ⟨_, rfl⟩; have n0_ := Aside0.mk (Kd.S_below HOR3.out hb); have n1_ := Aside0.mk (Kd.R_below HOR7.out hb); have n2_ := Aside0.mk (Nat.le_trans UPR3.out hb.size); have n3_ := Aside0.mk (Nat.le_trans UPR7.out hb.size); have n4_ := Aside0.mk (blk_below (g := gb8) BKgb8.out hb); have n5_ := Aside0.mk (Nat.lt_of_lt_of_le GUgb8.out hb.size); have n6_ := Aside0.mk (below_step HB.out hb); have n7_ := Aside0.mk (below_step HBM.out hb); have n8_ := Aside0.mk (Kd.S_lower (Kd.S_mono (ok' := fun k_ => loR10 ≤ k_ ∧ k_ < hiR10) (Kd.S_bound hoR10) (fun k_ hk_ => ⟨by rw [hloR10]; exact hk_.2.1, by rw [hhiR10]; exact hk_.2.2.1⟩)) (below_size HBM.out)); have n9_ := Aside0.mk (by rw [hhiR10]; exact Nat.le_refl _ : hiR10 ≤ w_6.heap.size); have n10_ := Aside0.mk (fun k_ h1_ h2_ => by have := UPR3.out; rw [← hloR10] at this; omega : ∀ k_, loR3 ≤ k_ ∧ k_ < hiR3 → ¬ (loR10 ≤ k_ ∧ k_ < hiR10)); have n11_ := Aside0.mk (fun k_ h1_ h2_ => by have := UPR3.out; rw [← hloR10] at this; omega : ∀ k_, loR10 ≤ k_ ∧ k_ < hiR10 → ¬ (loR3 ≤ k_ ∧ k_ < hiR3)); have n12_ := Aside0.mk (fun k_ h1_ h2_ => by have := UPR7.out; rw [← hloR10] at this; omega : ∀ k_, loR7 ≤ k_ ∧ k_ < hiR7 → ¬ (loR10 ≤ k_ ∧ k_ < hiR10)); have n13_ := Aside0.mk (fun k_ h1_ h2_ => by have := UPR7.out; rw [← hloR10] at this; omega : ∀ k_, loR10 ≤ k_ ∧ k_ < hiR10 → ¬ (loR7 ≤ k_ ∧ k_ < hiR7)); have n14_ := Aside0.mk (fun k_ hk_ => by have := GUgb8.out; rw [← hloR10] at this; omega : ∀ k_, loR10 ≤ k_ ∧ k_ < hiR10 → k_ ≠ gb8); clear HOR3; clear HOR7; clear UPR3; clear UPR7; clear BKgb8; clear GUgb8; clear HB; clear HBM; have HOR3 := n0_; have HOR7 := n1_; have UPR3 := n2_; have UPR7 := n3_; have BKgb8 := n4_; have GUgb8 := n5_; have HB := n6_; have HBM := n7_; have HOR10 := n8_; have UPR10 := n9_; have NRR3_R10 := n10_; have NRR10_R3 := n11_; have NRR7_R10 := n12_; have NRR10_R7 := n13_; have NER10_gb8 := n14_; clear n0_ n1_ n2_ n3_ n4_ n5_ n6_ n7_ n8_ n9_ n10_ n11_ n12_ n13_ n14_; clear hb; clear hoR10 hloR10 hhiR10; obtain ⟨AR10, cR10, eqR10⟩ := Kd.S_slice HOR10.out; subst eqR10; (try clear hczgb8_0); (try clear hfzgb8_0); (try clear hczgb8_1); (try clear hfzgb8_1); have hczgb8_0 : w_6.cell? ⟨gb8, 0, none⟩ = some (.int .i64 t4) := (blk_cell BKgb8.out 0).trans rfl; have hfzgb8_0 := blk_frozen BKgb8.out 0; have hczgb8_1 : w_6.cell? ⟨gb8, 1, none⟩ = some (.slice AR7 t5.length cR7) := (blk_cell BKgb8.out 1).trans rfl; have hfzgb8_1 := blk_frozen BKgb8.out 1) | ((with_reducible refine gate_callee (f := 29) rfl ?_); refine goesL_ (some 33) rfl rfl Try.func29 (by kernel_rfl) rfl #[.int .i64 a0, .slice AR10 t9.length cR10] rfl (by (try simp only [List.map_toArray, List.map_cons, List.map_nil]); first | done | rfl) ?_; (with_reducible refine (impl_IntervalSystem.calls k a0 _ _ t9 t11 t12 t30 _ ?side1 ?side2 E6.out).mono ?_); (case side1 => exact (Kd.S_reads' HOR10.out).2.2); (case side2 => exact (Kd.S_reads' HOR10.out).2.1); rintro e w_7 ⟨vR14, rfl, hoR14, hb⟩; refine ⟨_, rfl, ?_⟩; obtain ⟨loR14, hloR14⟩ : ∃ n_ : Nat, n_ = w_6.heap.size := ⟨_, rfl⟩; obtain ⟨hiR14, hhiR14⟩ : ∃ n_ : Nat, n_ = w_7.heap.size := ⟨_, rfl⟩; have n0_ := Aside0.mk (Kd.S_below HOR3.out hb); have n1_ := Aside0.mk (Kd.R_below HOR7.out hb); have n2_ := Aside0.mk (Kd.S_below HOR10.out hb); have n3_ := Aside0.mk (Nat.le_trans UPR3.out hb.size); have n4_ := Aside0.mk (Nat.le_trans UPR7.out hb.size); have n5_ := Aside0.mk (Nat.le_trans UPR10.out hb.size); have n6_ := Aside0.mk (blk_below (g := gb8) BKgb8.out hb); have n7_ := Aside0.mk (Nat.lt_of_lt_of_le GUgb8.out hb.size); have n8_ := Aside0.mk (below_step HB.out hb); have n9_ := Aside0.mk (below_step HBM.out hb); have n10_ := Aside0.mk (Kd.R_lower (Kd.R_mono (ok' := fun k_ => loR14 ≤ k_ ∧ k_ < hiR14) (Kd.R_bound hoR14) (fun k_ hk_ => ⟨by rw [hloR14]; exact hk_.2.1, by rw [hhiR14]; exact hk_.2.2.1⟩)) (below_size HBM.out)); have n11_ := Aside0.mk (by rw [hhiR14]; exact Nat.le_refl _ : hiR14 ≤ w_7.heap.size); have n12_ := Aside0.mk (fun k_ h1_ h2_ => by have := UPR3.out; rw [← hloR14] at this; omega : ∀ k_, loR3 ≤ k_ ∧ k_ < hiR3 → ¬ (loR14 ≤ k_ ∧ k_ < hiR14)); have n13_ := Aside0.mk (fun k_ h1_ h2_ => by have := UPR3.out; rw [← hloR14] at this; omega : ∀ k_, loR14 ≤ k_ ∧ k_ < hiR14 → ¬ (loR3 ≤ k_ ∧ k_ < hiR3)); have n14_ := Aside0.mk (fun k_ h1_ h2_ => by have := UPR7.out; rw [← hloR14] at this; omega : ∀ k_, loR7 ≤ k_ ∧ k_ < hiR7 → ¬ (loR14 ≤ k_ ∧ k_ < hiR14)); have n15_ := Aside0.mk (fun k_ h1_ h2_ => by have := UPR7.out; rw [← hloR14] at this; omega : ∀ k_, loR14 ≤ k_ ∧ k_ < hiR14 → ¬ (loR7 ≤ k_ ∧ k_ < hiR7)); have n16_ := Aside0.mk (fun k_ h1_ h2_ => by have := UPR10.out; rw [← hloR14] at this; omega : ∀ k_, loR10 ≤ k_ ∧ k_ < hiR10 → ¬ (loR14 ≤ k_ ∧ k_ < hiR14)); have n17_ := Aside0.mk (fun k_ h1_ h2_ => by have := UPR10.out; rw [← hloR14] at this; omega : ∀ k_, loR14 ≤ k_ ∧ k_ < hiR14 → ¬ (loR10 ≤ k_ ∧ k_ < hiR10)); have n18_ := Aside0.mk (fun k_ hk_ => by have := GUgb8.out; rw [← hloR14] at this; omega : ∀ k_, loR14 ≤ k_ ∧ k_ < hiR14 → k_ ≠ gb8); clear HOR3; clear HOR7; clear HOR10; clear UPR3; clear UPR7; clear UPR10; clear BKgb8; clear GUgb8; clear HB; clear HBM; have HOR3 := n0_; have HOR7 := n1_; have HOR10 := n2_; have UPR3 := n3_; have UPR7 := n4_; have UPR10 := n5_; have BKgb8 := n6_; have GUgb8 := n7_; have HB := n8_; have HBM := n9_; have HOR14 := n10_; have UPR14 := n11_; have NRR3_R14 := n12_; have NRR14_R3 := n13_; have NRR7_R14 := n14_; have NRR14_R7 := n15_; have NRR10_R14 := n16_; have NRR14_R10 := n17_; have NER14_gb8 := n18_; clear n0_ n1_ n2_ n3_ n4_ n5_ n6_ n7_ n8_ n9_ n10_ n11_ n12_ n13_ n14_ n15_ n16_ n17_ n18_; clear hb; clear hoR14 hloR14 hhiR14; obtain ⟨AR14, cR14, eqR14⟩ := Kd.R_slice HOR14.out; subst eqR14; (try clear hczgb8_0); (try clear hfzgb8_0); (try clear hczgb8_1); (try clear hfzgb8_1); have hczgb8_0 : w_7.cell? ⟨gb8, 0, none⟩ = some (.int .i64 t4) := (blk_cell BKgb8.out 0).trans rfl; have hfzgb8_0 := blk_frozen BKgb8.out 0; have hczgb8_1 : w_7.cell? ⟨gb8, 1, none⟩ = some (.slice AR7 t5.length cR7) := (blk_cell BKgb8.out 1).trans rfl; have hfzgb8_1 := blk_frozen BKgb8.out 1) | ((with_reducible refine gate_dst (N := 9) rfl ?_); refine box_event ?hg (N := 9) ?hd (cs := #[.int .i64 0, .slice none 0 0]) (t := 27) ?hr ?_; (case hd => rfl); (case hg => rfl); (case hr => first | (go_simp; done) | (go_simp; rfl)); intro gb15 hg w_8 hbox hb; have n0_ := Aside0.mk (Kd.S_below HOR3.out hb); have n1_ := Aside0.mk (Kd.R_below HOR7.out hb); have n2_ := Aside0.mk (Kd.S_below HOR10.out hb); have n3_ := Aside0.mk (Kd.R_below HOR14.out hb); have n4_ := Aside0.mk (Nat.le_trans UPR3.out hb.size); have n5_ := Aside0.mk (Nat.le_trans UPR7.out hb.size); have n6_ := Aside0.mk (Nat.le_trans UPR10.out hb.size); have n7_ := Aside0.mk (Nat.le_trans UPR14.out hb.size); have n8_ := Aside0.mk (blk_below (g := gb8) BKgb8.out hb); have n9_ := Aside0.mk (Nat.lt_of_lt_of_le GUgb8.out hb.size); have n10_ := Aside0.mk (below_step HB.out hb); have n11_ := Aside0.mk (below_step HBM.out hb); have n12_ := Aside0.mk (hbox); have n13_ := Aside0.mk (blk_lt hbox); have n14_ := Aside0.mk (by rw [hg]; exact below_size HB.out : w.heap.size ≤ gb15); have n15_ := Aside0.mk (by rw [hg]; exact below_size HBM.out : w_5.heap.size ≤ gb15); have n16_ := Aside0.mk (fun k_ hk_ => by have := UPR3.out; rw [← hg] at this; omega : ∀ k_, loR3 ≤ k_ ∧ k_ < hiR3 → k_ ≠ gb15); have n17_ := Aside0.mk (fun k_ hk_ => by have := UPR7.out; rw [← hg] at this; omega : ∀ k_, loR7 ≤ k_ ∧ k_ < hiR7 → k_ ≠ gb15); have n18_ := Aside0.mk (fun k_ hk_ => by have := UPR10.out; rw [← hg] at this; omega : ∀ k_, loR10 ≤ k_ ∧ k_ < hiR10 → k_ ≠ gb15); have n19_ := Aside0.mk (fun k_ hk_ => by have := UPR14.out; rw [← hg] at this; omega : ∀ k_, loR14 ≤ k_ ∧ k_ < hiR14 → k_ ≠ gb15); have n20_ := Aside0.mk (by have := GUgb8.out; rw [← hg] at this; omega : gb8 ≠ gb15); have n21_ := Aside0.mk (by have := GUgb8.out; rw [← hg] at this; omega : gb15 ≠ gb8); clear HOR3; clear HOR7; clear HOR10; clear HOR14; clear UPR3; clear UPR7; clear UPR10; clear UPR14; clear BKgb8; clear GUgb8; clear HB; clear HBM; have HOR3 := n0_; have HOR7 := n1_; have HOR10 := n2_; have HOR14 := n3_; have UPR3 := n4_; have UPR7 := n5_; have UPR10 := n6_; have UPR14 := n7_; have BKgb8 := n8_; have GUgb8 := n9_; have HB := n10_; have HBM := n11_; have BKgb15 := n12_; have GUgb15 := n13_; have GEgb15 := n14_; have GMgb15 := n15_; have NER3_gb15 := n16_; have NER7_gb15 := n17_; have NER10_gb15 := n18_; have NER14_gb15 := n19_; have NBgb8_gb15 := n20_; have NBgb15_gb8 := n21_; clear n0_ n1_ n2_ n3_ n4_ n5_ n6_ n7_ n8_ n9_ n10_ n11_ n12_ n13_ n14_ n15_ n16_ n17_ n18_ n19_ n20_ n21_; clear hb hbox hg; (try clear hczgb8_0); (try clear hfzgb8_0); (try clear hczgb8_1); (try clear hfzgb8_1); (try clear hczgb15_0); (try clear hfzgb15_0); (try clear hczgb15_1); (try clear hfzgb15_1); have hczgb8_0 : w_8.cell? ⟨gb8, 0, none⟩ = some (.int .i64 t4) := (blk_cell BKgb8.out 0).trans rfl; have hfzgb8_0 := blk_frozen BKgb8.out 0; have hczgb8_1 : w_8.cell? ⟨gb8, 1, none⟩ = some (.slice AR7 t5.length cR7) := (blk_cell BKgb8.out 1).trans rfl; have hfzgb8_1 := blk_frozen BKgb8.out 1; have hczgb15_0 : w_8.cell? ⟨gb15, 0, none⟩ = some (.int .i64 0) := (blk_cell BKgb15.out 0).trans rfl; have hfzgb15_0 := blk_frozen BKgb15.out 0; have hczgb15_1 : w_8.cell? ⟨gb15, 1, none⟩ = some (.slice none 0 0) := (blk_cell BKgb15.out 1).trans rfl; have hfzgb15_1 := blk_frozen BKgb15.out 1) | ((with_reducible refine gate_store (t := 27) (p := 9) rfl ?_); refine store_event (t := 27) (p := 9) (v := ?vow_9) (w1 := ((w_8.setCell ⟨gb15, 0, none⟩ (.int .i64 t11)).setCell ⟨gb15, 1, none⟩ (.slice AR14 t12.length cR14))) ?hg ?ho ?hn ?hr ?_; (case ho => rfl); (case hg => rfl); (case hn => rfl); (case hr => first | (go_simp; done) | (go_simp; rfl)); intro w_9 hw; have n0_ := Aside0.mk (by rw [hw]; exact (Kd.S_far (p := ⟨gb15, 1, none⟩) (Kd.S_far (p := ⟨gb15, 0, none⟩) HOR3.out NER3_gb15.out (.int .i64 t11)) NER3_gb15.out (.slice AR14 t12.length cR14)) : Kd.S (Kd.slice 2 (Kd.int .i64)) 22 w_9 w.heap.size (fun k_ => loR3 ≤ k_ ∧ k_ < hiR3) (.slice AR3 t2.length cR3) t2); have n1_ := Aside0.mk (by rw [hw]; simp only [World.size_setCell]; exact UPR3.out : hiR3 ≤ w_9.heap.size); have n2_ := Aside0.mk (by rw [hw]; exact (Kd.R_far (p := ⟨gb15, 1, none⟩) (Kd.R_far (p := ⟨gb15, 0, none⟩) HOR7.out NER7_gb15.out (.int .i64 t11)) NER7_gb15.out (.slice AR14 t12.length cR14)) : Kd.R (Kd.int .i64) 2 w_9 w.heap.size (fun k_ => loR7 ≤ k_ ∧ k_ < hiR7) (.slice AR7 t5.length cR7) t5); have n3_ := Aside0.mk (by rw [hw]; simp only [World.size_setCell]; exact UPR7.out : hiR7 ≤ w_9.heap.size); have n4_ := Aside0.mk (by rw [hw]; exact (Kd.S_far (p := ⟨gb15, 1, none⟩) (Kd.S_far (p := ⟨gb15, 0, none⟩) HOR10.out NER10_gb15.out (.int .i64 t11)) NER10_gb15.out (.slice AR14 t12.length cR14)) : Kd.S (Kd.slice 2 (Kd.int .i64)) 22 w_9 w_5.heap.size (fun k_ => loR10 ≤ k_ ∧ k_ < hiR10) (.slice AR10 t9.length cR10) t9); have n5_ := Aside0.mk (by rw [hw]; simp only [World.size_setCell]; exact UPR10.out : hiR10 ≤ w_9.heap.size); have n6_ := Aside0.mk (by rw [hw]; exact (Kd.R_far (p := ⟨gb15, 1, none⟩) (Kd.R_far (p := ⟨gb15, 0, none⟩) HOR14.out NER14_gb15.out (.int .i64 t11)) NER14_gb15.out (.slice AR14 t12.length cR14)) : Kd.R (Kd.int .i64) 2 w_9 w_5.heap.size (fun k_ => loR14 ≤ k_ ∧ k_ < hiR14) (.slice AR14 t12.length cR14) t12); have n7_ := Aside0.mk (by rw [hw]; simp only [World.size_setCell]; exact UPR14.out : hiR14 ≤ w_9.heap.size); have n8_ := Aside0.mk (by rw [hw]; exact (blk_far (blk_far BKgb8.out NBgb8_gb15.out (.int .i64 t11)) NBgb8_gb15.out (.slice AR14 t12.length cR14)) : w_9.heap[gb8]? = some (.cells #[.int .i64 t4, .slice AR7 t5.length cR7] 27 (0, 0))); have n9_ := Aside0.mk (by rw [hw]; simp only [World.size_setCell]; exact GUgb8.out : gb8 < w_9.heap.size); have n10_ := Aside0.mk (by rw [hw]; exact (blk_put (cs' := #[.int .i64 t11, .slice AR14 t12.length cR14]) (blk_put (cs' := #[.int .i64 t11, .slice none 0 0]) BKgb15.out 0 (.int .i64 t11) rfl) 1 (.slice AR14 t12.length cR14) rfl) : w_9.heap[gb15]? = some (.cells #[.int .i64 t11, .slice AR14 t12.length cR14] 27 (0, 0))); have n11_ := Aside0.mk (by rw [hw]; simp only [World.size_setCell]; exact GUgb15.out : gb15 < w_9.heap.size); have n12_ := Aside0.mk (by rw [hw]; exact (below_set (below_set HB.out GEgb15.out) GEgb15.out) : Below w.heap.size w w_9); have n13_ := Aside0.mk (by rw [hw]; exact (below_set (below_set HBM.out GMgb15.out) GMgb15.out) : Below w_5.heap.size w_5 w_9); clear HOR3; clear UPR3; clear HOR7; clear UPR7; clear HOR10; clear UPR10; clear HOR14; clear UPR14; clear BKgb8; clear GUgb8; clear BKgb15; clear GUgb15; clear HB; clear HBM; have HOR3 := n0_; have UPR3 := n1_; have HOR7 := n2_; have UPR7 := n3_; have HOR10 := n4_; have UPR10 := n5_; have HOR14 := n6_; have UPR14 := n7_; have BKgb8 := n8_; have GUgb8 := n9_; have BKgb15 := n10_; have GUgb15 := n11_; have HB := n12_; have HBM := n13_; clear n0_ n1_ n2_ n3_ n4_ n5_ n6_ n7_ n8_ n9_ n10_ n11_ n12_ n13_; clear hw; (try clear hczgb8_0); (try clear hfzgb8_0); (try clear hczgb8_1); (try clear hfzgb8_1); (try clear hczgb15_0); (try clear hfzgb15_0); (try clear hczgb15_1); (try clear hfzgb15_1); have hczgb8_0 : w_9.cell? ⟨gb8, 0, none⟩ = some (.int .i64 t4) := (blk_cell BKgb8.out 0).trans rfl; have hfzgb8_0 := blk_frozen BKgb8.out 0; have hczgb8_1 : w_9.cell? ⟨gb8, 1, none⟩ = some (.slice AR7 t5.length cR7) := (blk_cell BKgb8.out 1).trans rfl; have hfzgb8_1 := blk_frozen BKgb8.out 1; have hczgb15_0 : w_9.cell? ⟨gb15, 0, none⟩ = some (.int .i64 t11) := (blk_cell BKgb15.out 0).trans rfl; have hfzgb15_0 := blk_frozen BKgb15.out 0; have hczgb15_1 : w_9.cell? ⟨gb15, 1, none⟩ = some (.slice AR14 t12.length cR14) := (blk_cell BKgb15.out 1).trans rfl; have hfzgb15_1 := blk_frozen BKgb15.out 1) | ((with_reducible refine gate_callee (f := 19) rfl ?_); refine goesL_ (some 38) rfl rfl Try.func19 (by kernel_rfl) rfl #[.agg #[.int .i64 t11, .slice AR14 t12.length cR14], .agg #[.int .i64 t4, .slice AR7 t5.length cR7]] rfl (by (try simp only [List.map_toArray, List.map_cons, List.map_nil]); first | done | rfl) ?_; (with_reducible refine (laws_eqSystem.calls k t11 _ _ t12 t4 _ _ t5 true _ ?side1 ?side2 ?side3 ?side4 E7.out).mono ?_); (case side1 => exact (Kd.R_reads' HOR14.out).2.2); (case side2 => exact (Kd.R_reads' HOR14.out).2.1); (case side3 => exact (Kd.R_reads' HOR7.out).2.2); (case side4 => exact (Kd.R_reads' HOR7.out).2.1); rintro e w_10 ⟨rfl, hb⟩; refine ⟨_, rfl, ?_⟩; have n0_ := Aside0.mk (Kd.S_below HOR3.out hb); have n1_ := Aside0.mk (Kd.R_below HOR7.out hb); have n2_ := Aside0.mk (Kd.S_below HOR10.out hb); have n3_ := Aside0.mk (Kd.R_below HOR14.out hb); have n4_ := Aside0.mk (Nat.le_trans UPR3.out hb.size); have n5_ := Aside0.mk (Nat.le_trans UPR7.out hb.size); have n6_ := Aside0.mk (Nat.le_trans UPR10.out hb.size); have n7_ := Aside0.mk (Nat.le_trans UPR14.out hb.size); have n8_ := Aside0.mk (blk_below (g := gb8) BKgb8.out hb); have n9_ := Aside0.mk (blk_below (g := gb15) BKgb15.out hb); have n10_ := Aside0.mk (Nat.lt_of_lt_of_le GUgb8.out hb.size); have n11_ := Aside0.mk (Nat.lt_of_lt_of_le GUgb15.out hb.size); have n12_ := Aside0.mk (below_step HB.out hb); have n13_ := Aside0.mk (below_step HBM.out hb); clear HOR3; clear HOR7; clear HOR10; clear HOR14; clear UPR3; clear UPR7; clear UPR10; clear UPR14; clear BKgb8; clear BKgb15; clear GUgb8; clear GUgb15; clear HB; clear HBM; have HOR3 := n0_; have HOR7 := n1_; have HOR10 := n2_; have HOR14 := n3_; have UPR3 := n4_; have UPR7 := n5_; have UPR10 := n6_; have UPR14 := n7_; have BKgb8 := n8_; have BKgb15 := n9_; have GUgb8 := n10_; have GUgb15 := n11_; have HB := n12_; have HBM := n13_; clear n0_ n1_ n2_ n3_ n4_ n5_ n6_ n7_ n8_ n9_ n10_ n11_ n12_ n13_; clear hb; (try clear hczgb8_0); (try clear hfzgb8_0); (try clear hczgb8_1); (try clear hfzgb8_1); (try clear hczgb15_0); (try clear hfzgb15_0); (try clear hczgb15_1); (try clear hfzgb15_1); have hczgb8_0 : w_10.cell? ⟨gb8, 0, none⟩ = some (.int .i64 t4) := (blk_cell BKgb8.out 0).trans rfl; have hfzgb8_0 := blk_frozen BKgb8.out 0; have hczgb8_1 : w_10.cell? ⟨gb8, 1, none⟩ = some (.slice AR7 t5.length cR7) := (blk_cell BKgb8.out 1).trans rfl; have hfzgb8_1 := blk_frozen BKgb8.out 1; have hczgb15_0 : w_10.cell? ⟨gb15, 0, none⟩ = some (.int .i64 t11) := (blk_cell BKgb15.out 0).trans rfl; have hfzgb15_0 := blk_frozen BKgb15.out 0; have hczgb15_1 : w_10.cell? ⟨gb15, 1, none⟩ = some (.slice AR14 t12.length cR14) := (blk_cell BKgb15.out 1).trans rfl; have hfzgb15_1 := blk_frozen BKgb15.out 1) | ((with_reducible refine gate_callee (f := 28) rfl ?_); refine goesL_ (some 47) rfl rfl Try.func28 (by kernel_rfl) rfl #[.slice A1 l1.length c1] rfl (by (try simp only [List.map_toArray, List.map_cons, List.map_nil]); first | done | rfl) ?_; (with_reducible refine (laws_toInt64SS.calls k _ _ l1 t17 _ ?side1 ?side2 E10.out).mono ?_); (case side1 => exact Kd.C_below HR1.out HB.out); (case side2 => exact HC1.out); rintro e w_11 ⟨vR18, rfl, hoR18, hb⟩; refine ⟨_, rfl, ?_⟩; obtain ⟨loR18, hloR18⟩ : ∃ n_ : Nat, n_ = w_10.heap.size := ⟨_, rfl⟩; obtain ⟨hiR18, hhiR18⟩ : ∃ n_ : Nat, n_ = w_11.heap.size := ⟨_, rfl⟩; have n0_ := Aside0.mk (Kd.S_below HOR3.out hb); have n1_ := Aside0.mk (Kd.R_below HOR7.out hb); have n2_ := Aside0.mk (Kd.S_below HOR10.out hb); have n3_ := Aside0.mk (Kd.R_below HOR14.out hb); have n4_ := Aside0.mk (Nat.le_trans UPR3.out hb.size); have n5_ := Aside0.mk (Nat.le_trans UPR7.out hb.size); have n6_ := Aside0.mk (Nat.le_trans UPR10.out hb.size); have n7_ := Aside0.mk (Nat.le_trans UPR14.out hb.size); have n8_ := Aside0.mk (blk_below (g := gb8) BKgb8.out hb); have n9_ := Aside0.mk (blk_below (g := gb15) BKgb15.out hb); have n10_ := Aside0.mk (Nat.lt_of_lt_of_le GUgb8.out hb.size); have n11_ := Aside0.mk (Nat.lt_of_lt_of_le GUgb15.out hb.size); have n12_ := Aside0.mk (below_step HB.out hb); have n13_ := Aside0.mk (below_step HBM.out hb); have n14_ := Aside0.mk (Kd.S_lower (Kd.S_mono (ok' := fun k_ => loR18 ≤ k_ ∧ k_ < hiR18) (Kd.S_bound hoR18) (fun k_ hk_ => ⟨by rw [hloR18]; exact hk_.2.1, by rw [hhiR18]; exact hk_.2.2.1⟩)) (below_size HBM.out)); have n15_ := Aside0.mk (by rw [hhiR18]; exact Nat.le_refl _ : hiR18 ≤ w_11.heap.size); have n16_ := Aside0.mk (fun k_ h1_ h2_ => by have := UPR3.out; rw [← hloR18] at this; omega : ∀ k_, loR3 ≤ k_ ∧ k_ < hiR3 → ¬ (loR18 ≤ k_ ∧ k_ < hiR18)); have n17_ := Aside0.mk (fun k_ h1_ h2_ => by have := UPR3.out; rw [← hloR18] at this; omega : ∀ k_, loR18 ≤ k_ ∧ k_ < hiR18 → ¬ (loR3 ≤ k_ ∧ k_ < hiR3)); have n18_ := Aside0.mk (fun k_ h1_ h2_ => by have := UPR7.out; rw [← hloR18] at this; omega : ∀ k_, loR7 ≤ k_ ∧ k_ < hiR7 → ¬ (loR18 ≤ k_ ∧ k_ < hiR18)); have n19_ := Aside0.mk (fun k_ h1_ h2_ => by have := UPR7.out; rw [← hloR18] at this; omega : ∀ k_, loR18 ≤ k_ ∧ k_ < hiR18 → ¬ (loR7 ≤ k_ ∧ k_ < hiR7)); have n20_ := Aside0.mk (fun k_ h1_ h2_ => by have := UPR10.out; rw [← hloR18] at this; omega : ∀ k_, loR10 ≤ k_ ∧ k_ < hiR10 → ¬ (loR18 ≤ k_ ∧ k_ < hiR18)); have n21_ := Aside0.mk (fun k_ h1_ h2_ => by have := UPR10.out; rw [← hloR18] at this; omega : ∀ k_, loR18 ≤ k_ ∧ k_ < hiR18 → ¬ (loR10 ≤ k_ ∧ k_ < hiR10)); have n22_ := Aside0.mk (fun k_ h1_ h2_ => by have := UPR14.out; rw [← hloR18] at this; omega : ∀ k_, loR14 ≤ k_ ∧ k_ < hiR14 → ¬ (loR18 ≤ k_ ∧ k_ < hiR18)); have n23_ := Aside0.mk (fun k_ h1_ h2_ => by have := UPR14.out; rw [← hloR18] at this; omega : ∀ k_, loR18 ≤ k_ ∧ k_ < hiR18 → ¬ (loR14 ≤ k_ ∧ k_ < hiR14)); have n24_ := Aside0.mk (fun k_ hk_ => by have := GUgb8.out; rw [← hloR18] at this; omega : ∀ k_, loR18 ≤ k_ ∧ k_ < hiR18 → k_ ≠ gb8); have n25_ := Aside0.mk (fun k_ hk_ => by have := GUgb15.out; rw [← hloR18] at this; omega : ∀ k_, loR18 ≤ k_ ∧ k_ < hiR18 → k_ ≠ gb15); clear HOR3; clear HOR7; clear HOR10; clear HOR14; clear UPR3; clear UPR7; clear UPR10; clear UPR14; clear BKgb8; clear BKgb15; clear GUgb8; clear GUgb15; clear HB; clear HBM; have HOR3 := n0_; have HOR7 := n1_; have HOR10 := n2_; have HOR14 := n3_; have UPR3 := n4_; have UPR7 := n5_; have UPR10 := n6_; have UPR14 := n7_; have BKgb8 := n8_; have BKgb15 := n9_; have GUgb8 := n10_; have GUgb15 := n11_; have HB := n12_; have HBM := n13_; have HOR18 := n14_; have UPR18 := n15_; have NRR3_R18 := n16_; have NRR18_R3 := n17_; have NRR7_R18 := n18_; have NRR18_R7 := n19_; have NRR10_R18 := n20_; have NRR18_R10 := n21_; have NRR14_R18 := n22_; have NRR18_R14 := n23_; have NER18_gb8 := n24_; have NER18_gb15 := n25_; clear n0_ n1_ n2_ n3_ n4_ n5_ n6_ n7_ n8_ n9_ n10_ n11_ n12_ n13_ n14_ n15_ n16_ n17_ n18_ n19_ n20_ n21_ n22_ n23_ n24_ n25_; clear hb; clear hoR18 hloR18 hhiR18; obtain ⟨AR18, cR18, eqR18⟩ := Kd.S_slice HOR18.out; subst eqR18; (try clear hczgb8_0); (try clear hfzgb8_0); (try clear hczgb8_1); (try clear hfzgb8_1); (try clear hczgb15_0); (try clear hfzgb15_0); (try clear hczgb15_1); (try clear hfzgb15_1); have hczgb8_0 : w_11.cell? ⟨gb8, 0, none⟩ = some (.int .i64 t4) := (blk_cell BKgb8.out 0).trans rfl; have hfzgb8_0 := blk_frozen BKgb8.out 0; have hczgb8_1 : w_11.cell? ⟨gb8, 1, none⟩ = some (.slice AR7 t5.length cR7) := (blk_cell BKgb8.out 1).trans rfl; have hfzgb8_1 := blk_frozen BKgb8.out 1; have hczgb15_0 : w_11.cell? ⟨gb15, 0, none⟩ = some (.int .i64 t11) := (blk_cell BKgb15.out 0).trans rfl; have hfzgb15_0 := blk_frozen BKgb15.out 0; have hczgb15_1 : w_11.cell? ⟨gb15, 1, none⟩ = some (.slice AR14 t12.length cR14) := (blk_cell BKgb15.out 1).trans rfl; have hfzgb15_1 := blk_frozen BKgb15.out 1) | ((with_reducible refine gate_callee (f := 30) rfl ?_); refine goesL_ (some 48) rfl rfl Try.func30 (by kernel_rfl) rfl #[.slice AR10 t9.length cR10, .slice AR18 t17.length cR18] rfl (by (try simp only [List.map_toArray, List.map_cons, List.map_nil]); first | done | rfl) ?_; (with_reducible refine (laws_eqInt64SS.calls k _ _ t9 _ _ t17 true _ ?side1 ?side2 ?side3 ?side4 E11.out).mono ?_); (case side1 => exact (Kd.S_reads' HOR10.out).2.2); (case side2 => exact (Kd.S_reads' HOR10.out).2.1); (case side3 => exact (Kd.S_reads' HOR18.out).2.2); (case side4 => exact (Kd.S_reads' HOR18.out).2.1); rintro e w_12 ⟨rfl, hd⟩; have hb := Drawn0.below hd; refine ⟨_, rfl, ?_⟩; have n0_ := Aside0.mk (Kd.S_below HOR3.out hb); have n1_ := Aside0.mk (Kd.R_below HOR7.out hb); have n2_ := Aside0.mk (Kd.S_below HOR10.out hb); have n3_ := Aside0.mk (Kd.R_below HOR14.out hb); have n4_ := Aside0.mk (Kd.S_below HOR18.out hb); have n5_ := Aside0.mk (Nat.le_trans UPR3.out hb.size); have n6_ := Aside0.mk (Nat.le_trans UPR7.out hb.size); have n7_ := Aside0.mk (Nat.le_trans UPR10.out hb.size); have n8_ := Aside0.mk (Nat.le_trans UPR14.out hb.size); have n9_ := Aside0.mk (Nat.le_trans UPR18.out hb.size); have n10_ := Aside0.mk (blk_below (g := gb8) BKgb8.out hb); have n11_ := Aside0.mk (blk_below (g := gb15) BKgb15.out hb); have n12_ := Aside0.mk (Nat.lt_of_lt_of_le GUgb8.out hb.size); have n13_ := Aside0.mk (Nat.lt_of_lt_of_le GUgb15.out hb.size); have n14_ := Aside0.mk (below_step HB.out hb); have n15_ := Aside0.mk (below_step HBM.out hb); clear HOR3; clear HOR7; clear HOR10; clear HOR14; clear HOR18; clear UPR3; clear UPR7; clear UPR10; clear UPR14; clear UPR18; clear BKgb8; clear BKgb15; clear GUgb8; clear GUgb15; clear HB; clear HBM; have HOR3 := n0_; have HOR7 := n1_; have HOR10 := n2_; have HOR14 := n3_; have HOR18 := n4_; have UPR3 := n5_; have UPR7 := n6_; have UPR10 := n7_; have UPR14 := n8_; have UPR18 := n9_; have BKgb8 := n10_; have BKgb15 := n11_; have GUgb8 := n12_; have GUgb15 := n13_; have HB := n14_; have HBM := n15_; clear n0_ n1_ n2_ n3_ n4_ n5_ n6_ n7_ n8_ n9_ n10_ n11_ n12_ n13_ n14_ n15_; clear hb; clear hd; (try clear hczgb8_0); (try clear hfzgb8_0); (try clear hczgb8_1); (try clear hfzgb8_1); (try clear hczgb15_0); (try clear hfzgb15_0); (try clear hczgb15_1); (try clear hfzgb15_1); have hczgb8_0 : w_12.cell? ⟨gb8, 0, none⟩ = some (.int .i64 t4) := (blk_cell BKgb8.out 0).trans rfl; have hfzgb8_0 := blk_frozen BKgb8.out 0; have hczgb8_1 : w_12.cell? ⟨gb8, 1, none⟩ = some (.slice AR7 t5.length cR7) := (blk_cell BKgb8.out 1).trans rfl; have hfzgb8_1 := blk_frozen BKgb8.out 1; have hczgb15_0 : w_12.cell? ⟨gb15, 0, none⟩ = some (.int .i64 t11) := (blk_cell BKgb15.out 0).trans rfl; have hfzgb15_0 := blk_frozen BKgb15.out 0; have hczgb15_1 : w_12.cell? ⟨gb15, 1, none⟩ = some (.slice AR14 t12.length cR14) := (blk_cell BKgb15.out 1).trans rfl; have hfzgb15_1 := blk_frozen BKgb15.out 1) | ((with_reducible refine gate_callee (f := 31) rfl ?_); refine goesL_ (some 52) rfl rfl Try.func31 (by kernel_rfl) rfl #[.slice AR10 t9.length cR10, .int .i64 1] rfl (by (try simp only [List.map_toArray, List.map_cons, List.map_nil]); first | done | rfl) ?_; (with_reducible refine (laws_markInt64SS.calls k (fun k_ => loR10 ≤ k_ ∧ k_ < hiR10) _ t9 1 t20 t21 w_5 _ ?side1 ?side2 E13.out).mono ?_); (case side1 => exact HBM.out); (case side2 => exact HOR10.out); rintro e w_13 ⟨rfl, hy, hb, hkp⟩; refine ⟨_, rfl, ?_⟩; have n0_ := Aside0.mk (Kd.S_kept HOR3.out hkp NRR3_R10.out); have n1_ := Aside0.mk (Nat.le_trans UPR3.out hkp.1); have n2_ := Aside0.mk (Kd.R_kept HOR7.out hkp NRR7_R10.out); have n3_ := Aside0.mk (Nat.le_trans UPR7.out hkp.1); have n4_ := Aside0.mk (hy); have n5_ := Aside0.mk (Nat.le_trans UPR10.out hkp.1); have n6_ := Aside0.mk (Kd.R_kept HOR14.out hkp NRR14_R10.out); have n7_ := Aside0.mk (Nat.le_trans UPR14.out hkp.1); have n8_ := Aside0.mk (Kd.S_kept HOR18.out hkp NRR18_R10.out); have n9_ := Aside0.mk (Nat.le_trans UPR18.out hkp.1); have n10_ := Aside0.mk (blk_kept (g := gb8) BKgb8.out hkp (fun h_ => NER10_gb8.out _ h_ rfl)); have n11_ := Aside0.mk (Nat.lt_of_lt_of_le GUgb8.out hkp.1); have n12_ := Aside0.mk (blk_kept (g := gb15) BKgb15.out hkp (fun h_ => NER10_gb15.out _ h_ rfl)); have n13_ := Aside0.mk (Nat.lt_of_lt_of_le GUgb15.out hkp.1); have n14_ := Aside0.mk (below_step HWM.out hb); have n15_ := Aside0.mk (hb); clear HOR3; clear UPR3; clear HOR7; clear UPR7; clear HOR10; clear UPR10; clear HOR14; clear UPR14; clear HOR18; clear UPR18; clear BKgb8; clear GUgb8; clear BKgb15; clear GUgb15; clear HB; clear HBM; have HOR3 := n0_; have UPR3 := n1_; have HOR7 := n2_; have UPR7 := n3_; have HOR10 := n4_; have UPR10 := n5_; have HOR14 := n6_; have UPR14 := n7_; have HOR18 := n8_; have UPR18 := n9_; have BKgb8 := n10_; have GUgb8 := n11_; have BKgb15 := n12_; have GUgb15 := n13_; have HB := n14_; have HBM := n15_; clear n0_ n1_ n2_ n3_ n4_ n5_ n6_ n7_ n8_ n9_ n10_ n11_ n12_ n13_ n14_ n15_; clear hy hb hkp; (try clear hczgb8_0); (try clear hfzgb8_0); (try clear hczgb8_1); (try clear hfzgb8_1); (try clear hczgb15_0); (try clear hfzgb15_0); (try clear hczgb15_1); (try clear hfzgb15_1); have hczgb8_0 : w_13.cell? ⟨gb8, 0, none⟩ = some (.int .i64 t4) := (blk_cell BKgb8.out 0).trans rfl; have hfzgb8_0 := blk_frozen BKgb8.out 0; have hczgb8_1 : w_13.cell? ⟨gb8, 1, none⟩ = some (.slice AR7 t5.length cR7) := (blk_cell BKgb8.out 1).trans rfl; have hfzgb8_1 := blk_frozen BKgb8.out 1; have hczgb15_0 : w_13.cell? ⟨gb15, 0, none⟩ = some (.int .i64 t11) := (blk_cell BKgb15.out 0).trans rfl; have hfzgb15_0 := blk_frozen BKgb15.out 0; have hczgb15_1 : w_13.cell? ⟨gb15, 1, none⟩ = some (.slice AR14 t12.length cR14) := (blk_cell BKgb15.out 1).trans rfl; have hfzgb15_1 := blk_frozen BKgb15.out 1) | (go_at_call 19; (with_reducible refine (laws_eqSystem.calls k t11 _ _ t12 t4 _ _ t5 true _ ?side1 ?side2 ?side3 ?side4 E15.out).mono ?_); (case side1 => exact (Kd.R_reads' HOR14.out).2.2); (case side2 => exact (Kd.R_reads' HOR14.out).2.1); (case side3 => exact (Kd.R_reads' HOR7.out).2.2); (case side4 => exact (Kd.R_reads' HOR7.out).2.1); rintro e w_14 ⟨rfl, hb⟩; have n0_ := Aside0.mk (Kd.S_below HOR3.out hb); have n1_ := Aside0.mk (Kd.R_below HOR7.out hb); have n2_ := Aside0.mk (Kd.S_below HOR10.out hb); have n3_ := Aside0.mk (Kd.R_below HOR14.out hb); have n4_ := Aside0.mk (Kd.S_below HOR18.out hb); have n5_ := Aside0.mk (Nat.le_trans UPR3.out hb.size); have n6_ := Aside0.mk (Nat.le_trans UPR7.out hb.size); have n7_ := Aside0.mk (Nat.le_trans UPR10.out hb.size); have n8_ := Aside0.mk (Nat.le_trans UPR14.out hb.size); have n9_ := Aside0.mk (Nat.le_trans UPR18.out hb.size); have n10_ := Aside0.mk (blk_below (g := gb8) BKgb8.out hb); have n11_ := Aside0.mk (blk_below (g := gb15) BKgb15.out hb); have n12_ := Aside0.mk (Nat.lt_of_lt_of_le GUgb8.out hb.size); have n13_ := Aside0.mk (Nat.lt_of_lt_of_le GUgb15.out hb.size); have n14_ := Aside0.mk (below_step HB.out hb); have n15_ := Aside0.mk (below_step HBM.out hb); clear HOR3; clear HOR7; clear HOR10; clear HOR14; clear HOR18; clear UPR3; clear UPR7; clear UPR10; clear UPR14; clear UPR18; clear BKgb8; clear BKgb15; clear GUgb8; clear GUgb15; clear HB; clear HBM; have HOR3 := n0_; have HOR7 := n1_; have HOR10 := n2_; have HOR14 := n3_; have HOR18 := n4_; have UPR3 := n5_; have UPR7 := n6_; have UPR10 := n7_; have UPR14 := n8_; have UPR18 := n9_; have BKgb8 := n10_; have BKgb15 := n11_; have GUgb8 := n12_; have GUgb15 := n13_; have HB := n14_; have HBM := n15_; clear n0_ n1_ n2_ n3_ n4_ n5_ n6_ n7_ n8_ n9_ n10_ n11_ n12_ n13_ n14_ n15_; clear hb; (try clear hczgb8_0); (try clear hfzgb8_0); (try clear hczgb8_1); (try clear hfzgb8_1); (try clear hczgb15_0); (try clear hfzgb15_0); (try clear hczgb15_1); (try clear hfzgb15_1); have hczgb8_0 : w_14.cell? ⟨gb8, 0, none⟩ = some (.int .i64 t4) := (blk_cell BKgb8.out 0).trans rfl; have hfzgb8_0 := blk_frozen BKgb8.out 0; have hczgb8_1 : w_14.cell? ⟨gb8, 1, none⟩ = some (.slice AR7 t5.length cR7) := (blk_cell BKgb8.out 1).trans rfl; have hfzgb8_1 := blk_frozen BKgb8.out 1; have hczgb15_0 : w_14.cell? ⟨gb15, 0, none⟩ = some (.int .i64 t11) := (blk_cell BKgb15.out 0).trans rfl; have hfzgb15_0 := blk_frozen BKgb15.out 0; have hczgb15_1 : w_14.cell? ⟨gb15, 1, none⟩ = some (.slice AR14 t12.length cR14) := (blk_cell BKgb15.out 1).trans rfl; have hfzgb15_1 := blk_frozen BKgb15.out 1) | ((with_reducible refine gate_callee (f := 24) rfl ?_); refine goesL_ (some 68) rfl rfl Try.func24 (by kernel_rfl) rfl #[.agg #[.int .i64 t11, .slice AR14 t12.length cR14], .int .i64 1] rfl (by (try simp only [List.map_toArray, List.map_cons, List.map_nil]); first | done | rfl) ?_; (with_reducible refine (laws_markSystem.calls k t11 (fun k_ => loR14 ≤ k_ ∧ k_ < hiR14) _ t12 1 t34 t24 w_5 _ ?side1 ?side2 E17.out).mono ?_); (case side1 => exact HBM.out); (case side2 => exact HOR14.out); rintro e w_15 ⟨rfl, hy, hb, hkp⟩; refine ⟨_, rfl, ?_⟩; have n0_ := Aside0.mk (Kd.S_kept HOR3.out hkp NRR3_R14.out); have n1_ := Aside0.mk (Nat.le_trans UPR3.out hkp.1); have n2_ := Aside0.mk (Kd.R_kept HOR7.out hkp NRR7_R14.out); have n3_ := Aside0.mk (Nat.le_trans UPR7.out hkp.1); have n4_ := Aside0.mk (Kd.S_kept HOR10.out hkp NRR10_R14.out); have n5_ := Aside0.mk (Nat.le_trans UPR10.out hkp.1); have n6_ := Aside0.mk (Kd.R_reok rfl hy (fun k_ e_ => HOR14.out.1 k_ e_)); have n7_ := Aside0.mk (Nat.le_trans UPR14.out hkp.1); have n8_ := Aside0.mk (Kd.S_kept HOR18.out hkp NRR18_R14.out); have n9_ := Aside0.mk (Nat.le_trans UPR18.out hkp.1); have n10_ := Aside0.mk (blk_kept (g := gb8) BKgb8.out hkp (fun h_ => NER14_gb8.out _ h_ rfl)); have n11_ := Aside0.mk (Nat.lt_of_lt_of_le GUgb8.out hkp.1); have n12_ := Aside0.mk (blk_kept (g := gb15) BKgb15.out hkp (fun h_ => NER14_gb15.out _ h_ rfl)); have n13_ := Aside0.mk (Nat.lt_of_lt_of_le GUgb15.out hkp.1); have n14_ := Aside0.mk (below_step HWM.out hb); have n15_ := Aside0.mk (hb); clear HOR3; clear UPR3; clear HOR7; clear UPR7; clear HOR10; clear UPR10; clear HOR14; clear UPR14; clear HOR18; clear UPR18; clear BKgb8; clear GUgb8; clear BKgb15; clear GUgb15; clear HB; clear HBM; have HOR3 := n0_; have UPR3 := n1_; have HOR7 := n2_; have UPR7 := n3_; have HOR10 := n4_; have UPR10 := n5_; have HOR14 := n6_; have UPR14 := n7_; have HOR18 := n8_; have UPR18 := n9_; have BKgb8 := n10_; have GUgb8 := n11_; have BKgb15 := n12_; have GUgb15 := n13_; have HB := n14_; have HBM := n15_; clear n0_ n1_ n2_ n3_ n4_ n5_ n6_ n7_ n8_ n9_ n10_ n11_ n12_ n13_ n14_ n15_; clear hy hb hkp; (try clear hczgb8_0); (try clear hfzgb8_0); (try clear hczgb8_1); (try clear hfzgb8_1); (try clear hczgb15_0); (try clear hfzgb15_0); (try clear hczgb15_1); (try clear hfzgb15_1); have hczgb8_0 : w_15.cell? ⟨gb8, 0, none⟩ = some (.int .i64 t4) := (blk_cell BKgb8.out 0).trans rfl; have hfzgb8_0 := blk_frozen BKgb8.out 0; have hczgb8_1 : w_15.cell? ⟨gb8, 1, none⟩ = some (.slice AR7 t5.length cR7) := (blk_cell BKgb8.out 1).trans rfl; have hfzgb8_1 := blk_frozen BKgb8.out 1; have hczgb15_0 : w_15.cell? ⟨gb15, 0, none⟩ = some (.int .i64 t11) := (blk_cell BKgb15.out 0).trans rfl; have hfzgb15_0 := blk_frozen BKgb15.out 0; have hczgb15_1 : w_15.cell? ⟨gb15, 1, none⟩ = some (.slice AR14 t12.length cR14) := (blk_cell BKgb15.out 1).trans rfl; have hfzgb15_1 := blk_frozen BKgb15.out 1) | ((with_reducible refine gate_callee (f := 25) rfl ?_); refine goesL_ (some 71) rfl rfl Try.func25 (by kernel_rfl) rfl #[.agg #[.int .i64 t11, .slice AR14 t24.length cR14], .int .i64 1] rfl (by (try simp only [List.map_toArray, List.map_cons, List.map_nil]); first | done | rfl | (simp only [show t24.length = t12.length from (Kd.R_reads' HOR14.out).1.symm]; rfl)) ?_; (with_reducible refine (laws_heldSystem.calls k t11 _ _ t24 1 t34 _ ?side1 ?side2 E18.out).mono ?_); (case side1 => exact (Kd.R_reads' HOR14.out).2.2); (case side2 => exact (fun h_ => h_.1 ▸ h_.2.1) (Kd.R_reads' HOR14.out)); rintro e w_16 ⟨rfl, hb⟩; refine ⟨_, rfl, ?_⟩; have n0_ := Aside0.mk (Kd.S_below HOR3.out hb); have n1_ := Aside0.mk (Kd.R_below HOR7.out hb); have n2_ := Aside0.mk (Kd.S_below HOR10.out hb); have n3_ := Aside0.mk (Kd.R_below HOR14.out hb); have n4_ := Aside0.mk (Kd.S_below HOR18.out hb); have n5_ := Aside0.mk (Nat.le_trans UPR3.out hb.size); have n6_ := Aside0.mk (Nat.le_trans UPR7.out hb.size); have n7_ := Aside0.mk (Nat.le_trans UPR10.out hb.size); have n8_ := Aside0.mk (Nat.le_trans UPR14.out hb.size); have n9_ := Aside0.mk (Nat.le_trans UPR18.out hb.size); have n10_ := Aside0.mk (blk_below (g := gb8) BKgb8.out hb); have n11_ := Aside0.mk (blk_below (g := gb15) BKgb15.out hb); have n12_ := Aside0.mk (Nat.lt_of_lt_of_le GUgb8.out hb.size); have n13_ := Aside0.mk (Nat.lt_of_lt_of_le GUgb15.out hb.size); have n14_ := Aside0.mk (below_step HB.out hb); have n15_ := Aside0.mk (below_step HBM.out hb); clear HOR3; clear HOR7; clear HOR10; clear HOR14; clear HOR18; clear UPR3; clear UPR7; clear UPR10; clear UPR14; clear UPR18; clear BKgb8; clear BKgb15; clear GUgb8; clear GUgb15; clear HB; clear HBM; have HOR3 := n0_; have HOR7 := n1_; have HOR10 := n2_; have HOR14 := n3_; have HOR18 := n4_; have UPR3 := n5_; have UPR7 := n6_; have UPR10 := n7_; have UPR14 := n8_; have UPR18 := n9_; have BKgb8 := n10_; have BKgb15 := n11_; have GUgb8 := n12_; have GUgb15 := n13_; have HB := n14_; have HBM := n15_; clear n0_ n1_ n2_ n3_ n4_ n5_ n6_ n7_ n8_ n9_ n10_ n11_ n12_ n13_ n14_ n15_; clear hb; (try clear hczgb8_0); (try clear hfzgb8_0); (try clear hczgb8_1); (try clear hfzgb8_1); (try clear hczgb15_0); (try clear hfzgb15_0); (try clear hczgb15_1); (try clear hfzgb15_1); have hczgb8_0 : w_16.cell? ⟨gb8, 0, none⟩ = some (.int .i64 t4) := (blk_cell BKgb8.out 0).trans rfl; have hfzgb8_0 := blk_frozen BKgb8.out 0; have hczgb8_1 : w_16.cell? ⟨gb8, 1, none⟩ = some (.slice AR7 t5.length cR7) := (blk_cell BKgb8.out 1).trans rfl; have hfzgb8_1 := blk_frozen BKgb8.out 1; have hczgb15_0 : w_16.cell? ⟨gb15, 0, none⟩ = some (.int .i64 t11) := (blk_cell BKgb15.out 0).trans rfl; have hfzgb15_0 := blk_frozen BKgb15.out 0; have hczgb15_1 : w_16.cell? ⟨gb15, 1, none⟩ = some (.slice AR14 t12.length cR14) := (blk_cell BKgb15.out 1).trans rfl; have hfzgb15_1 := blk_frozen BKgb15.out 1) | ((with_reducible refine gate_callee (f := 28) rfl ?_); refine goesL_ (some 80) rfl rfl Try.func28 (by kernel_rfl) rfl #[.slice A1 l1.length c1] rfl (by (try simp only [List.map_toArray, List.map_cons, List.map_nil]); first | done | rfl) ?_; (with_reducible refine (laws_toInt64SS.calls k _ _ l1 t26 _ ?side1 ?side2 E21.out).mono ?_); (case side1 => exact Kd.C_below HR1.out HB.out); (case side2 => exact HC1.out); rintro e w_17 ⟨vR27, rfl, hoR27, hb⟩; refine ⟨_, rfl, ?_⟩; obtain ⟨loR27, hloR27⟩ : ∃ n_ : Nat, n_ = w_16.heap.size := ⟨_, rfl⟩; obtain ⟨hiR27, hhiR27⟩ : ∃ n_ : Nat, n_ = w_17.heap.size := ⟨_, rfl⟩; have n0_ := Aside0.mk (Kd.S_below HOR3.out hb); have n1_ := Aside0.mk (Kd.R_below HOR7.out hb); have n2_ := Aside0.mk (Kd.S_below HOR10.out hb); have n3_ := Aside0.mk (Kd.R_below HOR14.out hb); have n4_ := Aside0.mk (Kd.S_below HOR18.out hb); have n5_ := Aside0.mk (Nat.le_trans UPR3.out hb.size); have n6_ := Aside0.mk (Nat.le_trans UPR7.out hb.size); have n7_ := Aside0.mk (Nat.le_trans UPR10.out hb.size); have n8_ := Aside0.mk (Nat.le_trans UPR14.out hb.size); have n9_ := Aside0.mk (Nat.le_trans UPR18.out hb.size); have n10_ := Aside0.mk (blk_below (g := gb8) BKgb8.out hb); have n11_ := Aside0.mk (blk_below (g := gb15) BKgb15.out hb); have n12_ := Aside0.mk (Nat.lt_of_lt_of_le GUgb8.out hb.size); have n13_ := Aside0.mk (Nat.lt_of_lt_of_le GUgb15.out hb.size); have n14_ := Aside0.mk (below_step HB.out hb); have n15_ := Aside0.mk (below_step HBM.out hb); have n16_ := Aside0.mk (Kd.S_lower (Kd.S_mono (ok' := fun k_ => loR27 ≤ k_ ∧ k_ < hiR27) (Kd.S_bound hoR27) (fun k_ hk_ => ⟨by rw [hloR27]; exact hk_.2.1, by rw [hhiR27]; exact hk_.2.2.1⟩)) (below_size HBM.out)); have n17_ := Aside0.mk (by rw [hhiR27]; exact Nat.le_refl _ : hiR27 ≤ w_17.heap.size); have n18_ := Aside0.mk (fun k_ h1_ h2_ => by have := UPR3.out; rw [← hloR27] at this; omega : ∀ k_, loR3 ≤ k_ ∧ k_ < hiR3 → ¬ (loR27 ≤ k_ ∧ k_ < hiR27)); have n19_ := Aside0.mk (fun k_ h1_ h2_ => by have := UPR3.out; rw [← hloR27] at this; omega : ∀ k_, loR27 ≤ k_ ∧ k_ < hiR27 → ¬ (loR3 ≤ k_ ∧ k_ < hiR3)); have n20_ := Aside0.mk (fun k_ h1_ h2_ => by have := UPR7.out; rw [← hloR27] at this; omega : ∀ k_, loR7 ≤ k_ ∧ k_ < hiR7 → ¬ (loR27 ≤ k_ ∧ k_ < hiR27)); have n21_ := Aside0.mk (fun k_ h1_ h2_ => by have := UPR7.out; rw [← hloR27] at this; omega : ∀ k_, loR27 ≤ k_ ∧ k_ < hiR27 → ¬ (loR7 ≤ k_ ∧ k_ < hiR7)); have n22_ := Aside0.mk (fun k_ h1_ h2_ => by have := UPR10.out; rw [← hloR27] at this; omega : ∀ k_, loR10 ≤ k_ ∧ k_ < hiR10 → ¬ (loR27 ≤ k_ ∧ k_ < hiR27)); have n23_ := Aside0.mk (fun k_ h1_ h2_ => by have := UPR10.out; rw [← hloR27] at this; omega : ∀ k_, loR27 ≤ k_ ∧ k_ < hiR27 → ¬ (loR10 ≤ k_ ∧ k_ < hiR10)); have n24_ := Aside0.mk (fun k_ h1_ h2_ => by have := UPR14.out; rw [← hloR27] at this; omega : ∀ k_, loR14 ≤ k_ ∧ k_ < hiR14 → ¬ (loR27 ≤ k_ ∧ k_ < hiR27)); have n25_ := Aside0.mk (fun k_ h1_ h2_ => by have := UPR14.out; rw [← hloR27] at this; omega : ∀ k_, loR27 ≤ k_ ∧ k_ < hiR27 → ¬ (loR14 ≤ k_ ∧ k_ < hiR14)); have n26_ := Aside0.mk (fun k_ h1_ h2_ => by have := UPR18.out; rw [← hloR27] at this; omega : ∀ k_, loR18 ≤ k_ ∧ k_ < hiR18 → ¬ (loR27 ≤ k_ ∧ k_ < hiR27)); have n27_ := Aside0.mk (fun k_ h1_ h2_ => by have := UPR18.out; rw [← hloR27] at this; omega : ∀ k_, loR27 ≤ k_ ∧ k_ < hiR27 → ¬ (loR18 ≤ k_ ∧ k_ < hiR18)); have n28_ := Aside0.mk (fun k_ hk_ => by have := GUgb8.out; rw [← hloR27] at this; omega : ∀ k_, loR27 ≤ k_ ∧ k_ < hiR27 → k_ ≠ gb8); have n29_ := Aside0.mk (fun k_ hk_ => by have := GUgb15.out; rw [← hloR27] at this; omega : ∀ k_, loR27 ≤ k_ ∧ k_ < hiR27 → k_ ≠ gb15); clear HOR3; clear HOR7; clear HOR10; clear HOR14; clear HOR18; clear UPR3; clear UPR7; clear UPR10; clear UPR14; clear UPR18; clear BKgb8; clear BKgb15; clear GUgb8; clear GUgb15; clear HB; clear HBM; have HOR3 := n0_; have HOR7 := n1_; have HOR10 := n2_; have HOR14 := n3_; have HOR18 := n4_; have UPR3 := n5_; have UPR7 := n6_; have UPR10 := n7_; have UPR14 := n8_; have UPR18 := n9_; have BKgb8 := n10_; have BKgb15 := n11_; have GUgb8 := n12_; have GUgb15 := n13_; have HB := n14_; have HBM := n15_; have HOR27 := n16_; have UPR27 := n17_; have NRR3_R27 := n18_; have NRR27_R3 := n19_; have NRR7_R27 := n20_; have NRR27_R7 := n21_; have NRR10_R27 := n22_; have NRR27_R10 := n23_; have NRR14_R27 := n24_; have NRR27_R14 := n25_; have NRR18_R27 := n26_; have NRR27_R18 := n27_; have NER27_gb8 := n28_; have NER27_gb15 := n29_; clear n0_ n1_ n2_ n3_ n4_ n5_ n6_ n7_ n8_ n9_ n10_ n11_ n12_ n13_ n14_ n15_ n16_ n17_ n18_ n19_ n20_ n21_ n22_ n23_ n24_ n25_ n26_ n27_ n28_ n29_; clear hb; clear hoR27 hloR27 hhiR27; obtain ⟨AR27, cR27, eqR27⟩ := Kd.S_slice HOR27.out; subst eqR27; (try clear hczgb8_0); (try clear hfzgb8_0); (try clear hczgb8_1); (try clear hfzgb8_1); (try clear hczgb15_0); (try clear hfzgb15_0); (try clear hczgb15_1); (try clear hfzgb15_1); have hczgb8_0 : w_17.cell? ⟨gb8, 0, none⟩ = some (.int .i64 t4) := (blk_cell BKgb8.out 0).trans rfl; have hfzgb8_0 := blk_frozen BKgb8.out 0; have hczgb8_1 : w_17.cell? ⟨gb8, 1, none⟩ = some (.slice AR7 t5.length cR7) := (blk_cell BKgb8.out 1).trans rfl; have hfzgb8_1 := blk_frozen BKgb8.out 1; have hczgb15_0 : w_17.cell? ⟨gb15, 0, none⟩ = some (.int .i64 t11) := (blk_cell BKgb15.out 0).trans rfl; have hfzgb15_0 := blk_frozen BKgb15.out 0; have hczgb15_1 : w_17.cell? ⟨gb15, 1, none⟩ = some (.slice AR14 t12.length cR14) := (blk_cell BKgb15.out 1).trans rfl; have hfzgb15_1 := blk_frozen BKgb15.out 1) | ((with_reducible refine gate_callee (f := 29) rfl ?_); refine goesL_ (some 81) rfl rfl Try.func29 (by kernel_rfl) rfl #[.int .i64 a0, .slice AR27 t26.length cR27] rfl (by (try simp only [List.map_toArray, List.map_cons, List.map_nil]); first | done | rfl) ?_; (with_reducible refine (impl_IntervalSystem.calls k a0 _ _ t26 t28 t29 t30 _ ?side1 ?side2 E22.out).mono ?_); (case side1 => exact (Kd.S_reads' HOR27.out).2.2); (case side2 => exact (Kd.S_reads' HOR27.out).2.1); rintro e w_18 ⟨vR31, rfl, hoR31, hb⟩; refine ⟨_, rfl, ?_⟩; obtain ⟨loR31, hloR31⟩ : ∃ n_ : Nat, n_ = w_17.heap.size := ⟨_, rfl⟩; obtain ⟨hiR31, hhiR31⟩ : ∃ n_ : Nat, n_ = w_18.heap.size := ⟨_, rfl⟩; have n0_ := Aside0.mk (Kd.S_below HOR3.out hb); have n1_ := Aside0.mk (Kd.R_below HOR7.out hb); have n2_ := Aside0.mk (Kd.S_below HOR10.out hb); have n3_ := Aside0.mk (Kd.R_below HOR14.out hb); have n4_ := Aside0.mk (Kd.S_below HOR18.out hb); have n5_ := Aside0.mk (Kd.S_below HOR27.out hb); have n6_ := Aside0.mk (Nat.le_trans UPR3.out hb.size); have n7_ := Aside0.mk (Nat.le_trans UPR7.out hb.size); have n8_ := Aside0.mk (Nat.le_trans UPR10.out hb.size); have n9_ := Aside0.mk (Nat.le_trans UPR14.out hb.size); have n10_ := Aside0.mk (Nat.le_trans UPR18.out hb.size); have n11_ := Aside0.mk (Nat.le_trans UPR27.out hb.size); have n12_ := Aside0.mk (blk_below (g := gb8) BKgb8.out hb); have n13_ := Aside0.mk (blk_below (g := gb15) BKgb15.out hb); have n14_ := Aside0.mk (Nat.lt_of_lt_of_le GUgb8.out hb.size); have n15_ := Aside0.mk (Nat.lt_of_lt_of_le GUgb15.out hb.size); have n16_ := Aside0.mk (below_step HB.out hb); have n17_ := Aside0.mk (below_step HBM.out hb); have n18_ := Aside0.mk (Kd.R_lower (Kd.R_mono (ok' := fun k_ => loR31 ≤ k_ ∧ k_ < hiR31) (Kd.R_bound hoR31) (fun k_ hk_ => ⟨by rw [hloR31]; exact hk_.2.1, by rw [hhiR31]; exact hk_.2.2.1⟩)) (below_size HBM.out)); have n19_ := Aside0.mk (by rw [hhiR31]; exact Nat.le_refl _ : hiR31 ≤ w_18.heap.size); have n20_ := Aside0.mk (fun k_ h1_ h2_ => by have := UPR3.out; rw [← hloR31] at this; omega : ∀ k_, loR3 ≤ k_ ∧ k_ < hiR3 → ¬ (loR31 ≤ k_ ∧ k_ < hiR31)); have n21_ := Aside0.mk (fun k_ h1_ h2_ => by have := UPR3.out; rw [← hloR31] at this; omega : ∀ k_, loR31 ≤ k_ ∧ k_ < hiR31 → ¬ (loR3 ≤ k_ ∧ k_ < hiR3)); have n22_ := Aside0.mk (fun k_ h1_ h2_ => by have := UPR7.out; rw [← hloR31] at this; omega : ∀ k_, loR7 ≤ k_ ∧ k_ < hiR7 → ¬ (loR31 ≤ k_ ∧ k_ < hiR31)); have n23_ := Aside0.mk (fun k_ h1_ h2_ => by have := UPR7.out; rw [← hloR31] at this; omega : ∀ k_, loR31 ≤ k_ ∧ k_ < hiR31 → ¬ (loR7 ≤ k_ ∧ k_ < hiR7)); have n24_ := Aside0.mk (fun k_ h1_ h2_ => by have := UPR10.out; rw [← hloR31] at this; omega : ∀ k_, loR10 ≤ k_ ∧ k_ < hiR10 → ¬ (loR31 ≤ k_ ∧ k_ < hiR31)); have n25_ := Aside0.mk (fun k_ h1_ h2_ => by have := UPR10.out; rw [← hloR31] at this; omega : ∀ k_, loR31 ≤ k_ ∧ k_ < hiR31 → ¬ (loR10 ≤ k_ ∧ k_ < hiR10)); have n26_ := Aside0.mk (fun k_ h1_ h2_ => by have := UPR14.out; rw [← hloR31] at this; omega : ∀ k_, loR14 ≤ k_ ∧ k_ < hiR14 → ¬ (loR31 ≤ k_ ∧ k_ < hiR31)); have n27_ := Aside0.mk (fun k_ h1_ h2_ => by have := UPR14.out; rw [← hloR31] at this; omega : ∀ k_, loR31 ≤ k_ ∧ k_ < hiR31 → ¬ (loR14 ≤ k_ ∧ k_ < hiR14)); have n28_ := Aside0.mk (fun k_ h1_ h2_ => by have := UPR18.out; rw [← hloR31] at this; omega : ∀ k_, loR18 ≤ k_ ∧ k_ < hiR18 → ¬ (loR31 ≤ k_ ∧ k_ < hiR31)); have n29_ := Aside0.mk (fun k_ h1_ h2_ => by have := UPR18.out; rw [← hloR31] at this; omega : ∀ k_, loR31 ≤ k_ ∧ k_ < hiR31 → ¬ (loR18 ≤ k_ ∧ k_ < hiR18)); have n30_ := Aside0.mk (fun k_ h1_ h2_ => by have := UPR27.out; rw [← hloR31] at this; omega : ∀ k_, loR27 ≤ k_ ∧ k_ < hiR27 → ¬ (loR31 ≤ k_ ∧ k_ < hiR31)); have n31_ := Aside0.mk (fun k_ h1_ h2_ => by have := UPR27.out; rw [← hloR31] at this; omega : ∀ k_, loR31 ≤ k_ ∧ k_ < hiR31 → ¬ (loR27 ≤ k_ ∧ k_ < hiR27)); have n32_ := Aside0.mk (fun k_ hk_ => by have := GUgb8.out; rw [← hloR31] at this; omega : ∀ k_, loR31 ≤ k_ ∧ k_ < hiR31 → k_ ≠ gb8); have n33_ := Aside0.mk (fun k_ hk_ => by have := GUgb15.out; rw [← hloR31] at this; omega : ∀ k_, loR31 ≤ k_ ∧ k_ < hiR31 → k_ ≠ gb15); clear HOR3; clear HOR7; clear HOR10; clear HOR14; clear HOR18; clear HOR27; clear UPR3; clear UPR7; clear UPR10; clear UPR14; clear UPR18; clear UPR27; clear BKgb8; clear BKgb15; clear GUgb8; clear GUgb15; clear HB; clear HBM; have HOR3 := n0_; have HOR7 := n1_; have HOR10 := n2_; have HOR14 := n3_; have HOR18 := n4_; have HOR27 := n5_; have UPR3 := n6_; have UPR7 := n7_; have UPR10 := n8_; have UPR14 := n9_; have UPR18 := n10_; have UPR27 := n11_; have BKgb8 := n12_; have BKgb15 := n13_; have GUgb8 := n14_; have GUgb15 := n15_; have HB := n16_; have HBM := n17_; have HOR31 := n18_; have UPR31 := n19_; have NRR3_R31 := n20_; have NRR31_R3 := n21_; have NRR7_R31 := n22_; have NRR31_R7 := n23_; have NRR10_R31 := n24_; have NRR31_R10 := n25_; have NRR14_R31 := n26_; have NRR31_R14 := n27_; have NRR18_R31 := n28_; have NRR31_R18 := n29_; have NRR27_R31 := n30_; have NRR31_R27 := n31_; have NER31_gb8 := n32_; have NER31_gb15 := n33_; clear n0_ n1_ n2_ n3_ n4_ n5_ n6_ n7_ n8_ n9_ n10_ n11_ n12_ n13_ n14_ n15_ n16_ n17_ n18_ n19_ n20_ n21_ n22_ n23_ n24_ n25_ n26_ n27_ n28_ n29_ n30_ n31_ n32_ n33_; clear hb; clear hoR31 hloR31 hhiR31; obtain ⟨AR31, cR31, eqR31⟩ := Kd.R_slice HOR31.out; subst eqR31; (try clear hczgb8_0); (try clear hfzgb8_0); (try clear hczgb8_1); (try clear hfzgb8_1); (try clear hczgb15_0); (try clear hfzgb15_0); (try clear hczgb15_1); (try clear hfzgb15_1); have hczgb8_0 : w_18.cell? ⟨gb8, 0, none⟩ = some (.int .i64 t4) := (blk_cell BKgb8.out 0).trans rfl; have hfzgb8_0 := blk_frozen BKgb8.out 0; have hczgb8_1 : w_18.cell? ⟨gb8, 1, none⟩ = some (.slice AR7 t5.length cR7) := (blk_cell BKgb8.out 1).trans rfl; have hfzgb8_1 := blk_frozen BKgb8.out 1; have hczgb15_0 : w_18.cell? ⟨gb15, 0, none⟩ = some (.int .i64 t11) := (blk_cell BKgb15.out 0).trans rfl; have hfzgb15_0 := blk_frozen BKgb15.out 0; have hczgb15_1 : w_18.cell? ⟨gb15, 1, none⟩ = some (.slice AR14 t12.length cR14) := (blk_cell BKgb15.out 1).trans rfl; have hfzgb15_1 := blk_frozen BKgb15.out 1) | ((with_reducible refine gate_dst (N := 14) rfl ?_); refine box_event ?hg (N := 14) ?hd (cs := #[.int .i64 0, .slice none 0 0]) (t := 27) ?hr ?_; (case hd => rfl); (case hg => rfl); (case hr => first | (go_simp; done) | (go_simp; rfl)); intro gb32 hg w_19 hbox hb; have n0_ := Aside0.mk (Kd.S_below HOR3.out hb); have n1_ := Aside0.mk (Kd.R_below HOR7.out hb); have n2_ := Aside0.mk (Kd.S_below HOR10.out hb); have n3_ := Aside0.mk (Kd.R_below HOR14.out hb); have n4_ := Aside0.mk (Kd.S_below HOR18.out hb); have n5_ := Aside0.mk (Kd.S_below HOR27.out hb); have n6_ := Aside0.mk (Kd.R_below HOR31.out hb); have n7_ := Aside0.mk (Nat.le_trans UPR3.out hb.size); have n8_ := Aside0.mk (Nat.le_trans UPR7.out hb.size); have n9_ := Aside0.mk (Nat.le_trans UPR10.out hb.size); have n10_ := Aside0.mk (Nat.le_trans UPR14.out hb.size); have n11_ := Aside0.mk (Nat.le_trans UPR18.out hb.size); have n12_ := Aside0.mk (Nat.le_trans UPR27.out hb.size); have n13_ := Aside0.mk (Nat.le_trans UPR31.out hb.size); have n14_ := Aside0.mk (blk_below (g := gb8) BKgb8.out hb); have n15_ := Aside0.mk (blk_below (g := gb15) BKgb15.out hb); have n16_ := Aside0.mk (Nat.lt_of_lt_of_le GUgb8.out hb.size); have n17_ := Aside0.mk (Nat.lt_of_lt_of_le GUgb15.out hb.size); have n18_ := Aside0.mk (below_step HB.out hb); have n19_ := Aside0.mk (below_step HBM.out hb); have n20_ := Aside0.mk (hbox); have n21_ := Aside0.mk (blk_lt hbox); have n22_ := Aside0.mk (by rw [hg]; exact below_size HB.out : w.heap.size ≤ gb32); have n23_ := Aside0.mk (by rw [hg]; exact below_size HBM.out : w_5.heap.size ≤ gb32); have n24_ := Aside0.mk (fun k_ hk_ => by have := UPR3.out; rw [← hg] at this; omega : ∀ k_, loR3 ≤ k_ ∧ k_ < hiR3 → k_ ≠ gb32); have n25_ := Aside0.mk (fun k_ hk_ => by have := UPR7.out; rw [← hg] at this; omega : ∀ k_, loR7 ≤ k_ ∧ k_ < hiR7 → k_ ≠ gb32); have n26_ := Aside0.mk (fun k_ hk_ => by have := UPR10.out; rw [← hg] at this; omega : ∀ k_, loR10 ≤ k_ ∧ k_ < hiR10 → k_ ≠ gb32); have n27_ := Aside0.mk (fun k_ hk_ => by have := UPR14.out; rw [← hg] at this; omega : ∀ k_, loR14 ≤ k_ ∧ k_ < hiR14 → k_ ≠ gb32); have n28_ := Aside0.mk (fun k_ hk_ => by have := UPR18.out; rw [← hg] at this; omega : ∀ k_, loR18 ≤ k_ ∧ k_ < hiR18 → k_ ≠ gb32); have n29_ := Aside0.mk (fun k_ hk_ => by have := UPR27.out; rw [← hg] at this; omega : ∀ k_, loR27 ≤ k_ ∧ k_ < hiR27 → k_ ≠ gb32); have n30_ := Aside0.mk (fun k_ hk_ => by have := UPR31.out; rw [← hg] at this; omega : ∀ k_, loR31 ≤ k_ ∧ k_ < hiR31 → k_ ≠ gb32); have n31_ := Aside0.mk (by have := GUgb8.out; rw [← hg] at this; omega : gb8 ≠ gb32); have n32_ := Aside0.mk (by have := GUgb8.out; rw [← hg] at this; omega : gb32 ≠ gb8); have n33_ := Aside0.mk (by have := GUgb15.out; rw [← hg] at this; omega : gb15 ≠ gb32); have n34_ := Aside0.mk (by have := GUgb15.out; rw [← hg] at this; omega : gb32 ≠ gb15); clear HOR3; clear HOR7; clear HOR10; clear HOR14; clear HOR18; clear HOR27; clear HOR31; clear UPR3; clear UPR7; clear UPR10; clear UPR14; clear UPR18; clear UPR27; clear UPR31; clear BKgb8; clear BKgb15; clear GUgb8; clear GUgb15; clear HB; clear HBM; have HOR3 := n0_; have HOR7 := n1_; have HOR10 := n2_; have HOR14 := n3_; have HOR18 := n4_; have HOR27 := n5_; have HOR31 := n6_; have UPR3 := n7_; have UPR7 := n8_; have UPR10 := n9_; have UPR14 := n10_; have UPR18 := n11_; have UPR27 := n12_; have UPR31 := n13_; have BKgb8 := n14_; have BKgb15 := n15_; have GUgb8 := n16_; have GUgb15 := n17_; have HB := n18_; have HBM := n19_; have BKgb32 := n20_; have GUgb32 := n21_; have GEgb32 := n22_; have GMgb32 := n23_; have NER3_gb32 := n24_; have NER7_gb32 := n25_; have NER10_gb32 := n26_; have NER14_gb32 := n27_; have NER18_gb32 := n28_; have NER27_gb32 := n29_; have NER31_gb32 := n30_; have NBgb8_gb32 := n31_; have NBgb32_gb8 := n32_; have NBgb15_gb32 := n33_; have NBgb32_gb15 := n34_; clear n0_ n1_ n2_ n3_ n4_ n5_ n6_ n7_ n8_ n9_ n10_ n11_ n12_ n13_ n14_ n15_ n16_ n17_ n18_ n19_ n20_ n21_ n22_ n23_ n24_ n25_ n26_ n27_ n28_ n29_ n30_ n31_ n32_ n33_ n34_; clear hb hbox hg; (try clear hczgb8_0); (try clear hfzgb8_0); (try clear hczgb8_1); (try clear hfzgb8_1); (try clear hczgb15_0); (try clear hfzgb15_0); (try clear hczgb15_1); (try clear hfzgb15_1); (try clear hczgb32_0); (try clear hfzgb32_0); (try clear hczgb32_1); (try clear hfzgb32_1); have hczgb8_0 : w_19.cell? ⟨gb8, 0, none⟩ = some (.int .i64 t4) := (blk_cell BKgb8.out 0).trans rfl; have hfzgb8_0 := blk_frozen BKgb8.out 0; have hczgb8_1 : w_19.cell? ⟨gb8, 1, none⟩ = some (.slice AR7 t5.length cR7) := (blk_cell BKgb8.out 1).trans rfl; have hfzgb8_1 := blk_frozen BKgb8.out 1; have hczgb15_0 : w_19.cell? ⟨gb15, 0, none⟩ = some (.int .i64 t11) := (blk_cell BKgb15.out 0).trans rfl; have hfzgb15_0 := blk_frozen BKgb15.out 0; have hczgb15_1 : w_19.cell? ⟨gb15, 1, none⟩ = some (.slice AR14 t12.length cR14) := (blk_cell BKgb15.out 1).trans rfl; have hfzgb15_1 := blk_frozen BKgb15.out 1; have hczgb32_0 : w_19.cell? ⟨gb32, 0, none⟩ = some (.int .i64 0) := (blk_cell BKgb32.out 0).trans rfl; have hfzgb32_0 := blk_frozen BKgb32.out 0; have hczgb32_1 : w_19.cell? ⟨gb32, 1, none⟩ = some (.slice none 0 0) := (blk_cell BKgb32.out 1).trans rfl; have hfzgb32_1 := blk_frozen BKgb32.out 1) | ((with_reducible refine gate_store (t := 27) (p := 14) rfl ?_); refine store_event (t := 27) (p := 14) (v := ?vow_20) (w1 := ((w_19.setCell ⟨gb32, 0, none⟩ (.int .i64 t28)).setCell ⟨gb32, 1, none⟩ (.slice AR31 t29.length cR31))) ?hg ?ho ?hn ?hr ?_; (case ho => rfl); (case hg => rfl); (case hn => rfl); (case hr => first | (go_simp; done) | (go_simp; rfl)); intro w_20 hw; have n0_ := Aside0.mk (by rw [hw]; exact (Kd.S_far (p := ⟨gb32, 1, none⟩) (Kd.S_far (p := ⟨gb32, 0, none⟩) HOR3.out NER3_gb32.out (.int .i64 t28)) NER3_gb32.out (.slice AR31 t29.length cR31)) : Kd.S (Kd.slice 2 (Kd.int .i64)) 22 w_20 w.heap.size (fun k_ => loR3 ≤ k_ ∧ k_ < hiR3) (.slice AR3 t2.length cR3) t2); have n1_ := Aside0.mk (by rw [hw]; simp only [World.size_setCell]; exact UPR3.out : hiR3 ≤ w_20.heap.size); have n2_ := Aside0.mk (by rw [hw]; exact (Kd.R_far (p := ⟨gb32, 1, none⟩) (Kd.R_far (p := ⟨gb32, 0, none⟩) HOR7.out NER7_gb32.out (.int .i64 t28)) NER7_gb32.out (.slice AR31 t29.length cR31)) : Kd.R (Kd.int .i64) 2 w_20 w.heap.size (fun k_ => loR7 ≤ k_ ∧ k_ < hiR7) (.slice AR7 t5.length cR7) t5); have n3_ := Aside0.mk (by rw [hw]; simp only [World.size_setCell]; exact UPR7.out : hiR7 ≤ w_20.heap.size); have n4_ := Aside0.mk (by rw [hw]; exact (Kd.S_far (p := ⟨gb32, 1, none⟩) (Kd.S_far (p := ⟨gb32, 0, none⟩) HOR10.out NER10_gb32.out (.int .i64 t28)) NER10_gb32.out (.slice AR31 t29.length cR31)) : Kd.S (Kd.slice 2 (Kd.int .i64)) 22 w_20 w_5.heap.size (fun k_ => loR10 ≤ k_ ∧ k_ < hiR10) (.slice AR10 t9.length cR10) t21); have n5_ := Aside0.mk (by rw [hw]; simp only [World.size_setCell]; exact UPR10.out : hiR10 ≤ w_20.heap.size); have n6_ := Aside0.mk (by rw [hw]; exact (Kd.R_far (p := ⟨gb32, 1, none⟩) (Kd.R_far (p := ⟨gb32, 0, none⟩) HOR14.out NER14_gb32.out (.int .i64 t28)) NER14_gb32.out (.slice AR31 t29.length cR31)) : Kd.R (Kd.int .i64) 2 w_20 w_5.heap.size (fun k_ => loR14 ≤ k_ ∧ k_ < hiR14) (.slice AR14 t12.length cR14) t24); have n7_ := Aside0.mk (by rw [hw]; simp only [World.size_setCell]; exact UPR14.out : hiR14 ≤ w_20.heap.size); have n8_ := Aside0.mk (by rw [hw]; exact (Kd.S_far (p := ⟨gb32, 1, none⟩) (Kd.S_far (p := ⟨gb32, 0, none⟩) HOR18.out NER18_gb32.out (.int .i64 t28)) NER18_gb32.out (.slice AR31 t29.length cR31)) : Kd.S (Kd.slice 2 (Kd.int .i64)) 22 w_20 w_5.heap.size (fun k_ => loR18 ≤ k_ ∧ k_ < hiR18) (.slice AR18 t17.length cR18) t17); have n9_ := Aside0.mk (by rw [hw]; simp only [World.size_setCell]; exact UPR18.out : hiR18 ≤ w_20.heap.size); have n10_ := Aside0.mk (by rw [hw]; exact (Kd.S_far (p := ⟨gb32, 1, none⟩) (Kd.S_far (p := ⟨gb32, 0, none⟩) HOR27.out NER27_gb32.out (.int .i64 t28)) NER27_gb32.out (.slice AR31 t29.length cR31)) : Kd.S (Kd.slice 2 (Kd.int .i64)) 22 w_20 w_5.heap.size (fun k_ => loR27 ≤ k_ ∧ k_ < hiR27) (.slice AR27 t26.length cR27) t26); have n11_ := Aside0.mk (by rw [hw]; simp only [World.size_setCell]; exact UPR27.out : hiR27 ≤ w_20.heap.size); have n12_ := Aside0.mk (by rw [hw]; exact (Kd.R_far (p := ⟨gb32, 1, none⟩) (Kd.R_far (p := ⟨gb32, 0, none⟩) HOR31.out NER31_gb32.out (.int .i64 t28)) NER31_gb32.out (.slice AR31 t29.length cR31)) : Kd.R (Kd.int .i64) 2 w_20 w_5.heap.size (fun k_ => loR31 ≤ k_ ∧ k_ < hiR31) (.slice AR31 t29.length cR31) t29); have n13_ := Aside0.mk (by rw [hw]; simp only [World.size_setCell]; exact UPR31.out : hiR31 ≤ w_20.heap.size); have n14_ := Aside0.mk (by rw [hw]; exact (blk_far (blk_far BKgb8.out NBgb8_gb32.out (.int .i64 t28)) NBgb8_gb32.out (.slice AR31 t29.length cR31)) : w_20.heap[gb8]? = some (.cells #[.int .i64 t4, .slice AR7 t5.length cR7] 27 (0, 0))); have n15_ := Aside0.mk (by rw [hw]; simp only [World.size_setCell]; exact GUgb8.out : gb8 < w_20.heap.size); have n16_ := Aside0.mk (by rw [hw]; exact (blk_far (blk_far BKgb15.out NBgb15_gb32.out (.int .i64 t28)) NBgb15_gb32.out (.slice AR31 t29.length cR31)) : w_20.heap[gb15]? = some (.cells #[.int .i64 t11, .slice AR14 t12.length cR14] 27 (0, 0))); have n17_ := Aside0.mk (by rw [hw]; simp only [World.size_setCell]; exact GUgb15.out : gb15 < w_20.heap.size); have n18_ := Aside0.mk (by rw [hw]; exact (blk_put (cs' := #[.int .i64 t28, .slice AR31 t29.length cR31]) (blk_put (cs' := #[.int .i64 t28, .slice none 0 0]) BKgb32.out 0 (.int .i64 t28) rfl) 1 (.slice AR31 t29.length cR31) rfl) : w_20.heap[gb32]? = some (.cells #[.int .i64 t28, .slice AR31 t29.length cR31] 27 (0, 0))); have n19_ := Aside0.mk (by rw [hw]; simp only [World.size_setCell]; exact GUgb32.out : gb32 < w_20.heap.size); have n20_ := Aside0.mk (by rw [hw]; exact (below_set (below_set HB.out GEgb32.out) GEgb32.out) : Below w.heap.size w w_20); have n21_ := Aside0.mk (by rw [hw]; exact (below_set (below_set HBM.out GMgb32.out) GMgb32.out) : Below w_5.heap.size w_5 w_20); clear HOR3; clear UPR3; clear HOR7; clear UPR7; clear HOR10; clear UPR10; clear HOR14; clear UPR14; clear HOR18; clear UPR18; clear HOR27; clear UPR27; clear HOR31; clear UPR31; clear BKgb8; clear GUgb8; clear BKgb15; clear GUgb15; clear BKgb32; clear GUgb32; clear HB; clear HBM; have HOR3 := n0_; have UPR3 := n1_; have HOR7 := n2_; have UPR7 := n3_; have HOR10 := n4_; have UPR10 := n5_; have HOR14 := n6_; have UPR14 := n7_; have HOR18 := n8_; have UPR18 := n9_; have HOR27 := n10_; have UPR27 := n11_; have HOR31 := n12_; have UPR31 := n13_; have BKgb8 := n14_; have GUgb8 := n15_; have BKgb15 := n16_; have GUgb15 := n17_; have BKgb32 := n18_; have GUgb32 := n19_; have HB := n20_; have HBM := n21_; clear n0_ n1_ n2_ n3_ n4_ n5_ n6_ n7_ n8_ n9_ n10_ n11_ n12_ n13_ n14_ n15_ n16_ n17_ n18_ n19_ n20_ n21_; clear hw; (try clear hczgb8_0); (try clear hfzgb8_0); (try clear hczgb8_1); (try clear hfzgb8_1); (try clear hczgb15_0); (try clear hfzgb15_0); (try clear hczgb15_1); (try clear hfzgb15_1); (try clear hczgb32_0); (try clear hfzgb32_0); (try clear hczgb32_1); (try clear hfzgb32_1); have hczgb8_0 : w_20.cell? ⟨gb8, 0, none⟩ = some (.int .i64 t4) := (blk_cell BKgb8.out 0).trans rfl; have hfzgb8_0 := blk_frozen BKgb8.out 0; have hczgb8_1 : w_20.cell? ⟨gb8, 1, none⟩ = some (.slice AR7 t5.length cR7) := (blk_cell BKgb8.out 1).trans rfl; have hfzgb8_1 := blk_frozen BKgb8.out 1; have hczgb15_0 : w_20.cell? ⟨gb15, 0, none⟩ = some (.int .i64 t11) := (blk_cell BKgb15.out 0).trans rfl; have hfzgb15_0 := blk_frozen BKgb15.out 0; have hczgb15_1 : w_20.cell? ⟨gb15, 1, none⟩ = some (.slice AR14 t12.length cR14) := (blk_cell BKgb15.out 1).trans rfl; have hfzgb15_1 := blk_frozen BKgb15.out 1; have hczgb32_0 : w_20.cell? ⟨gb32, 0, none⟩ = some (.int .i64 t28) := (blk_cell BKgb32.out 0).trans rfl; have hfzgb32_0 := blk_frozen BKgb32.out 0; have hczgb32_1 : w_20.cell? ⟨gb32, 1, none⟩ = some (.slice AR31 t29.length cR31) := (blk_cell BKgb32.out 1).trans rfl; have hfzgb32_1 := blk_frozen BKgb32.out 1) | ((with_reducible refine gate_callee (f := 19) rfl ?_); refine goesL_ (some 86) rfl rfl Try.func19 (by kernel_rfl) rfl #[.agg #[.int .i64 t28, .slice AR31 t29.length cR31], .agg #[.int .i64 t4, .slice AR7 t5.length cR7]] rfl (by (try simp only [List.map_toArray, List.map_cons, List.map_nil]); first | done | rfl) ?_; (with_reducible refine (laws_eqSystem.calls k t28 _ _ t29 t4 _ _ t5 true _ ?side1 ?side2 ?side3 ?side4 E23.out).mono ?_); (case side1 => exact (Kd.R_reads' HOR31.out).2.2); (case side2 => exact (Kd.R_reads' HOR31.out).2.1); (case side3 => exact (Kd.R_reads' HOR7.out).2.2); (case side4 => exact (Kd.R_reads' HOR7.out).2.1); rintro e w_21 ⟨rfl, hb⟩; refine ⟨_, rfl, ?_⟩; have n0_ := Aside0.mk (Kd.S_below HOR3.out hb); have n1_ := Aside0.mk (Kd.R_below HOR7.out hb); have n2_ := Aside0.mk (Kd.S_below HOR10.out hb); have n3_ := Aside0.mk (Kd.R_below HOR14.out hb); have n4_ := Aside0.mk (Kd.S_below HOR18.out hb); have n5_ := Aside0.mk (Kd.S_below HOR27.out hb); have n6_ := Aside0.mk (Kd.R_below HOR31.out hb); have n7_ := Aside0.mk (Nat.le_trans UPR3.out hb.size); have n8_ := Aside0.mk (Nat.le_trans UPR7.out hb.size); have n9_ := Aside0.mk (Nat.le_trans UPR10.out hb.size); have n10_ := Aside0.mk (Nat.le_trans UPR14.out hb.size); have n11_ := Aside0.mk (Nat.le_trans UPR18.out hb.size); have n12_ := Aside0.mk (Nat.le_trans UPR27.out hb.size); have n13_ := Aside0.mk (Nat.le_trans UPR31.out hb.size); have n14_ := Aside0.mk (blk_below (g := gb8) BKgb8.out hb); have n15_ := Aside0.mk (blk_below (g := gb15) BKgb15.out hb); have n16_ := Aside0.mk (blk_below (g := gb32) BKgb32.out hb); have n17_ := Aside0.mk (Nat.lt_of_lt_of_le GUgb8.out hb.size); have n18_ := Aside0.mk (Nat.lt_of_lt_of_le GUgb15.out hb.size); have n19_ := Aside0.mk (Nat.lt_of_lt_of_le GUgb32.out hb.size); have n20_ := Aside0.mk (below_step HB.out hb); have n21_ := Aside0.mk (below_step HBM.out hb); clear HOR3; clear HOR7; clear HOR10; clear HOR14; clear HOR18; clear HOR27; clear HOR31; clear UPR3; clear UPR7; clear UPR10; clear UPR14; clear UPR18; clear UPR27; clear UPR31; clear BKgb8; clear BKgb15; clear BKgb32; clear GUgb8; clear GUgb15; clear GUgb32; clear HB; clear HBM; have HOR3 := n0_; have HOR7 := n1_; have HOR10 := n2_; have HOR14 := n3_; have HOR18 := n4_; have HOR27 := n5_; have HOR31 := n6_; have UPR3 := n7_; have UPR7 := n8_; have UPR10 := n9_; have UPR14 := n10_; have UPR18 := n11_; have UPR27 := n12_; have UPR31 := n13_; have BKgb8 := n14_; have BKgb15 := n15_; have BKgb32 := n16_; have GUgb8 := n17_; have GUgb15 := n18_; have GUgb32 := n19_; have HB := n20_; have HBM := n21_; clear n0_ n1_ n2_ n3_ n4_ n5_ n6_ n7_ n8_ n9_ n10_ n11_ n12_ n13_ n14_ n15_ n16_ n17_ n18_ n19_ n20_ n21_; clear hb; (try clear hczgb8_0); (try clear hfzgb8_0); (try clear hczgb8_1); (try clear hfzgb8_1); (try clear hczgb15_0); (try clear hfzgb15_0); (try clear hczgb15_1); (try clear hfzgb15_1); (try clear hczgb32_0); (try clear hfzgb32_0); (try clear hczgb32_1); (try clear hfzgb32_1); have hczgb8_0 : w_21.cell? ⟨gb8, 0, none⟩ = some (.int .i64 t4) := (blk_cell BKgb8.out 0).trans rfl; have hfzgb8_0 := blk_frozen BKgb8.out 0; have hczgb8_1 : w_21.cell? ⟨gb8, 1, none⟩ = some (.slice AR7 t5.length cR7) := (blk_cell BKgb8.out 1).trans rfl; have hfzgb8_1 := blk_frozen BKgb8.out 1; have hczgb15_0 : w_21.cell? ⟨gb15, 0, none⟩ = some (.int .i64 t11) := (blk_cell BKgb15.out 0).trans rfl; have hfzgb15_0 := blk_frozen BKgb15.out 0; have hczgb15_1 : w_21.cell? ⟨gb15, 1, none⟩ = some (.slice AR14 t12.length cR14) := (blk_cell BKgb15.out 1).trans rfl; have hfzgb15_1 := blk_frozen BKgb15.out 1; have hczgb32_0 : w_21.cell? ⟨gb32, 0, none⟩ = some (.int .i64 t28) := (blk_cell BKgb32.out 0).trans rfl; have hfzgb32_0 := blk_frozen BKgb32.out 0; have hczgb32_1 : w_21.cell? ⟨gb32, 1, none⟩ = some (.slice AR31 t29.length cR31) := (blk_cell BKgb32.out 1).trans rfl; have hfzgb32_1 := blk_frozen BKgb32.out 1) | ((with_reducible refine gate_callee (f := 25) rfl ?_); refine goesL_ (some 95) rfl rfl Try.func25 (by kernel_rfl) rfl #[.agg #[.int .i64 t11, .slice AR14 t24.length cR14], .int .i64 1] rfl (by (try simp only [List.map_toArray, List.map_cons, List.map_nil]); first | done | rfl | (simp only [show t24.length = t12.length from (Kd.R_reads' HOR14.out).1.symm]; rfl)) ?_; (with_reducible refine (laws_heldSystem.calls k t11 _ _ t24 1 t34 _ ?side1 ?side2 E26.out).mono ?_); (case side1 => exact (Kd.R_reads' HOR14.out).2.2); (case side2 => exact (fun h_ => h_.1 ▸ h_.2.1) (Kd.R_reads' HOR14.out)); rintro e w_22 ⟨rfl, hb⟩; refine ⟨_, rfl, ?_⟩; have n0_ := Aside0.mk (Kd.S_below HOR3.out hb); have n1_ := Aside0.mk (Kd.R_below HOR7.out hb); have n2_ := Aside0.mk (Kd.S_below HOR10.out hb); have n3_ := Aside0.mk (Kd.R_below HOR14.out hb); have n4_ := Aside0.mk (Kd.S_below HOR18.out hb); have n5_ := Aside0.mk (Kd.S_below HOR27.out hb); have n6_ := Aside0.mk (Kd.R_below HOR31.out hb); have n7_ := Aside0.mk (Nat.le_trans UPR3.out hb.size); have n8_ := Aside0.mk (Nat.le_trans UPR7.out hb.size); have n9_ := Aside0.mk (Nat.le_trans UPR10.out hb.size); have n10_ := Aside0.mk (Nat.le_trans UPR14.out hb.size); have n11_ := Aside0.mk (Nat.le_trans UPR18.out hb.size); have n12_ := Aside0.mk (Nat.le_trans UPR27.out hb.size); have n13_ := Aside0.mk (Nat.le_trans UPR31.out hb.size); have n14_ := Aside0.mk (blk_below (g := gb8) BKgb8.out hb); have n15_ := Aside0.mk (blk_below (g := gb15) BKgb15.out hb); have n16_ := Aside0.mk (blk_below (g := gb32) BKgb32.out hb); have n17_ := Aside0.mk (Nat.lt_of_lt_of_le GUgb8.out hb.size); have n18_ := Aside0.mk (Nat.lt_of_lt_of_le GUgb15.out hb.size); have n19_ := Aside0.mk (Nat.lt_of_lt_of_le GUgb32.out hb.size); have n20_ := Aside0.mk (below_step HB.out hb); have n21_ := Aside0.mk (below_step HBM.out hb); clear HOR3; clear HOR7; clear HOR10; clear HOR14; clear HOR18; clear HOR27; clear HOR31; clear UPR3; clear UPR7; clear UPR10; clear UPR14; clear UPR18; clear UPR27; clear UPR31; clear BKgb8; clear BKgb15; clear BKgb32; clear GUgb8; clear GUgb15; clear GUgb32; clear HB; clear HBM; have HOR3 := n0_; have HOR7 := n1_; have HOR10 := n2_; have HOR14 := n3_; have HOR18 := n4_; have HOR27 := n5_; have HOR31 := n6_; have UPR3 := n7_; have UPR7 := n8_; have UPR10 := n9_; have UPR14 := n10_; have UPR18 := n11_; have UPR27 := n12_; have UPR31 := n13_; have BKgb8 := n14_; have BKgb15 := n15_; have BKgb32 := n16_; have GUgb8 := n17_; have GUgb15 := n18_; have GUgb32 := n19_; have HB := n20_; have HBM := n21_; clear n0_ n1_ n2_ n3_ n4_ n5_ n6_ n7_ n8_ n9_ n10_ n11_ n12_ n13_ n14_ n15_ n16_ n17_ n18_ n19_ n20_ n21_; clear hb; (try clear hczgb8_0); (try clear hfzgb8_0); (try clear hczgb8_1); (try clear hfzgb8_1); (try clear hczgb15_0); (try clear hfzgb15_0); (try clear hczgb15_1); (try clear hfzgb15_1); (try clear hczgb32_0); (try clear hfzgb32_0); (try clear hczgb32_1); (try clear hfzgb32_1); have hczgb8_0 : w_22.cell? ⟨gb8, 0, none⟩ = some (.int .i64 t4) := (blk_cell BKgb8.out 0).trans rfl; have hfzgb8_0 := blk_frozen BKgb8.out 0; have hczgb8_1 : w_22.cell? ⟨gb8, 1, none⟩ = some (.slice AR7 t5.length cR7) := (blk_cell BKgb8.out 1).trans rfl; have hfzgb8_1 := blk_frozen BKgb8.out 1; have hczgb15_0 : w_22.cell? ⟨gb15, 0, none⟩ = some (.int .i64 t11) := (blk_cell BKgb15.out 0).trans rfl; have hfzgb15_0 := blk_frozen BKgb15.out 0; have hczgb15_1 : w_22.cell? ⟨gb15, 1, none⟩ = some (.slice AR14 t12.length cR14) := (blk_cell BKgb15.out 1).trans rfl; have hfzgb15_1 := blk_frozen BKgb15.out 1; have hczgb32_0 : w_22.cell? ⟨gb32, 0, none⟩ = some (.int .i64 t28) := (blk_cell BKgb32.out 0).trans rfl; have hfzgb32_0 := blk_frozen BKgb32.out 0; have hczgb32_1 : w_22.cell? ⟨gb32, 1, none⟩ = some (.slice AR31 t29.length cR31) := (blk_cell BKgb32.out 1).trans rfl; have hfzgb32_1 := blk_frozen BKgb32.out 1))
 go_ret
 exact ⟨by first | rfl | (simp; done) | (simp [*]; done), HB.out⟩
theorem laws_FnExactIntervalSystem.walk (P : laws_FnExactIntervalSystem.Pure) (a0 : Int) (A1 : Option Addr) (c1 : Nat) (l1 : List (List Int)) (w : World) (hr1 : Kd.C (Kd.slice 2 (Kd.int .i64)) w A1 l1.length l1) (hc1 : l1.length ≤ c1) (w0 : (Lit.int .i64 a0).wf = true) (w1 : (l1.length ≤ maxLen ∧ ∀ y ∈ l1, (y.length ≤ maxLen ∧ ∀ y_ ∈ y, (Lit.int .i64 y_).wf = true))) :
  Calls Try.prog 6 #[.int .i64 a0, .slice A1 l1.length c1] w fun e w' => e = .returned (.bool true) ∧ Below w.heap.size w w' := by
 obtain ⟨k, h⟩ := P a0 l1 w0 w1
 exact laws_FnExactIntervalSystem.calls k a0 A1 c1 l1 w hr1 hc1 h
end Go.Proofs.Ytplgfchiaapmfaa.Q
