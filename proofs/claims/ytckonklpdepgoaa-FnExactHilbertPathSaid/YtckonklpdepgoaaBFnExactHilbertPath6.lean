/- The statement FnExactHilbertPath, with all that its proof stands on: functions of the program as plain functions, the program's walks, and the plain law. Conditions: none beyond the statement's own. -/
import Derived.ArgAppend
import Derived.Below
import Derived.BigQuiet
import Derived.BigRegion
import Derived.Deep.AppendLies
import Derived.Deep.CutBlock
import Derived.Deep.DeepCutAuto
import Derived.Deep.Draws
import Derived.Deep.LoopGhost
import Derived.Deep.OwnRows
import Derived.Deep.QuietTactic
import Derived.Deep.RegionHeld3
import Derived.Ground.SlgmProg
import Derived.Ground.SlgnProg
import Derived.KernelRfl
import Derived.Laws.BitsLemmas
import Derived.Laws.BytesArg
import Derived.Laws.IdiomCopy
import Derived.Laws.MakeOwn
import Derived.Laws.OwnMore
import Derived.Laws.Rows
import Derived.Laws.Slices
import Derived.Lib.AppendStr
import Derived.Lib.ConvBytes
import Derived.Maps.AppendAt
import Derived.OrdersHeld
import Derived.OwnWalk
import Derived.ProofKit
import Derived.RowKit
import Derived.RowKit3
import Derived.Shelf.SlicesE.Clone
import Derived.Shelf.Small.Bits
import Derived.Shelf.Small.Strs
import Derived.Shelf.SortM.Plain
import Derived.Shelf.Strconv.Itoa0
import Derived.Shelf.Strings.Search1
import Derived.Sort.OwnSortedInts
import Derived.Tactics
import Derived.Test.YtckonklpdepgoaaProg
import Derived.WalkKit
import Derived.WideLaws
import Derived.Test.YtckonklpdepgoaaBFnExactHilbertPath0
import Derived.Test.YtckonklpdepgoaaBFnExactHilbertPath1
import Derived.Test.YtckonklpdepgoaaBFnExactHilbertPath2
import Derived.Test.YtckonklpdepgoaaBFnExactHilbertPath3
import Derived.Test.YtckonklpdepgoaaBFnExactHilbertPath5
set_option linter.unusedVariables false
set_option linter.unusedSimpArgs false
namespace Go.Proofs.Ytckonklpdepgoaa.Q
open Go.RowKit Go.Proofs.YtckonklpdepgoaaW.PrintWords Go.Proofs.YtckonklpdepgoaaW.PrintLast Go.Proofs.YtckonklpdepgoaaW.PrintMore
attribute [local go_sem] max2_int min2_int max_two min_two max_three min_three max_four min_four   -- for this text's walks alone
set_option linter.unusedVariables false
set_option linter.unusedSimpArgs false
def laws_markInt64S.l0 : Nat → List Int → Int → Int → Option (Int × List Int)
 | 0, _, _, _ => none
 | k + 1, x0, x1, x5 => if x5 < (x0.length : Int) then (if 0 ≤ x5 then (laws_markInt64S.l0 k (x0.set (x5 : Int).toNat x1) (wrap64 (x1 + 1)) (wrap64 (x5 + 1))) else (none)) else (some (x1, x0))
def laws_markInt64S.f (k : Nat) (l0 : List Int) (a1 : Int) : Option (Int × List Int) := laws_markInt64S.l0 k l0 a1 0
theorem laws_markInt64S.mono_l : ∀ k, (∀ y0 y1 y2, LeO (laws_markInt64S.l0 k y0 y1 y2) (laws_markInt64S.l0 (k + 1) y0 y1 y2))
 | 0 => fun _ _ _ r h => by simp [laws_markInt64S.l0] at h
 | k + 1 => by
  have ih0 := laws_markInt64S.mono_l k
  ·intro y0 y1 y2
   unfold laws_markInt64S.l0
   repeat' first
   | (with_reducible exact ih0 _ _ _)
   | (with_reducible exact LeO.refl _)
   | (with_reducible exact LeO.none _)
   | (with_reducible refine LeO.ite ?_ ?_)
   | (with_reducible refine LeO.bind ?_ (fun _ => ?_))
   | exact ih0 _ _ _
   | exact LeO.none _
   | refine LeO.ite ?_ ?_
   | refine LeO.bind ?_ (fun _ => ?_)
theorem laws_markInt64S.mono : ∀ a0 a1 k, LeO (laws_markInt64S.f k a0 a1) (laws_markInt64S.f (k + 1) a0 a1) := by
 intro a0 a1 k
 have ih0 := laws_markInt64S.mono_l k
 unfold laws_markInt64S.f
 repeat' first
   | (with_reducible exact ih0 _ _ _)
   | (with_reducible exact LeO.refl _)
   | (with_reducible exact LeO.none _)
   | (with_reducible refine LeO.ite ?_ ?_)
   | (with_reducible refine LeO.bind ?_ (fun _ => ?_))
   | exact ih0 _ _ _
   | exact LeO.none _
   | refine LeO.ite ?_ ?_
   | refine LeO.bind ?_ (fun _ => ?_)
set_option maxHeartbeats 8000000 in
set_option maxRecDepth 100000 in
theorem laws_markInt64S.calls (k : Nat) (P0_ : Nat → Prop) (u9000_ : Value) (l0 : List Int) (a1 : Int) (r1 : Int) (r2 : List Int) (w0 w : World) (hB : Below w0.heap.size w0 w) (ho0 : Kd.R (Kd.int .i64) 2 w w0.heap.size P0_ u9000_ l0) (h : laws_markInt64S.f k l0 a1 = some (r1, r2)) :
  Calls Try.prog 63 #[u9000_, .int .i64 a1] w fun e w' => e = .returned (.int .i64 r1) ∧ Kd.R (Kd.int .i64) 2 w' w0.heap.size (fun k_ => (P0_ k_ ∨ w.heap.size ≤ k_)) u9000_ r2 ∧ Below w0.heap.size w0 w' ∧ Kept w w' (fun k_ => P0_ k_) := by
 have HO0 := Aside0.mk (show Kd.R (Kd.int .i64) 2 w w0.heap.size (fun k_ => (P0_ k_ ∨ w.heap.size ≤ k_)) u9000_ l0 from Kd.R_mono ho0 (fun k_ hk => (.inl hk)))
 have HK := Aside0.mk (Kept.refl w (fun k_ => P0_ k_))
 have HW0 := Aside0.mk hB.size
 have HB := Aside0.mk hB
 clear hB
 have H : (laws_markInt64S.l0 k l0 a1 0) = some (r1, r2) := h
 clear h
 have H' := Aside0.mk H
 clear H
 go_enter Try.func63, Try.ntmps63
 go_wp2
 go_loopg [1, 5] k (fun kq v1 v5 w' => ∃ (x0_1 : List Int) (x1_1 : Int) (x5_1 : Int), v1 = .int .i64 x1_1 ∧ v5 = .int .i64 x5_1 ∧ Aside0 (laws_markInt64S.l0 kq x0_1 x1_1 x5_1 = some (r1, r2)) ∧ Aside0 (kq ≤ k) ∧ Aside0 (Kd.R (Kd.int .i64) 2 w' w0.heap.size (fun k_ => (P0_ k_ ∨ w.heap.size ≤ k_)) u9000_ x0_1) ∧ Aside0 (Kept w w' (fun k_ => P0_ k_)) ∧ Aside0 (Below w0.heap.size w0 w'))
 case atStart => exact ⟨(l0), (a1), (0), (by first | rfl | (simp; done) | (simp [*]; done)), (by first | rfl | (simp; done) | (simp [*]; done)), H', ⟨Nat.le_refl _⟩, ⟨by (with_reducible repeat (first | apply Kd.R_alloc | apply Kd.R_drewN | apply Kd.R_drew)); exact HO0.out⟩, ⟨by repeat (first | (with_reducible first | exact HK.out | apply Kept.alloc | apply Kept.drewN | apply Kept.drew) | exact HK.out)⟩, ⟨by repeat (first | (with_reducible first | exact HB.out | apply below_alloc | apply pw_below_drewN | apply below_drew1) | exact HB.out)⟩⟩
 case round =>
  clear H'
  try clear p2
  obtain ⟨x0_1, x1_1, x5_1, rfl, rfl, HA, HK1, HO_0, HK, HB⟩ := hrel
  cases gk with
  | zero => exact absurd HA.out (by simp [laws_markInt64S.l0])
  | succ k1 =>
   have H := HA.out
   clear HA
   simp only [laws_markInt64S.l0] at H
   by_cases c3 : x5_1 < (x0_1.length : Int)
   ·rw [if_pos c3] at H
    have c3b0 : decide (x5_1 < (x0_1.length : Int)) = true := decide_eq_true c3
    clear c3
    by_cases c4 : 0 ≤ x5_1
    ·rw [if_pos c4] at H
     have c4b0 : decide (0 ≤ x5_1) = true := decide_eq_true c4
     clear c4
     obtain ⟨y127, hy127⟩ : ∃ y_ : List Int, y_ = (x0_1.set (x5_1 : Int).toNat x1_1) := ⟨_, rfl⟩
     replace H : (laws_markInt64S.l0 k1 y127 (wrap64 (x1_1 + 1)) (wrap64 (x5_1 + 1))) = some (r1, r2) := by first | (rw [hy127]; with_reducible exact H) | (have H2_ := (Option.bind_some _ _).symm.trans H; rw [hy127]; with_reducible exact H2_) | (have H2_ := (Option.bind_some _ _).symm.trans H; with_reducible exact H2_) | with_reducible exact H | (rw [hy127]; exact H) | exact H
     have Ny127 := Aside0.mk hy127
     clear hy127
     have H' := Aside0.mk H
     clear H
     obtain ⟨Ao6, co6, eo6⟩ := Kd.R_slice HO_0.out
     subst eo6
     have p5 : 0 ≤ (x5_1 : Int) := of_decide_eq_true (by first | (with_reducible assumption) | assumption)
     have q5 : (x5_1 : Int) < ((x0_1.length : Int) : Int) := of_decide_eq_true (by first | (with_reducible assumption) | assumption)
     obtain ⟨go5, co5, eo5, gb5, gl5, cl5, HG5⟩ := Kd.R_form HO_0.out (by omega)
     (first | cases eo5 | (injection eo5 with ea_ en_ ec_; (first | subst ea_ | (injection ea_ with ea_; subst ea_)); subst ec_; clear en_))
     have GB5 := Aside0.mk gb5
     have GG5 := Aside0.mk HG5
     clear gb5 gl5 HG5
     have HMgo5 := Aside0.mk (show (P0_ go5 ∨ w.heap.size ≤ go5) from (HO_0.out.1 _ rfl))
     obtain ⟨hx5_0, hf5_0⟩ := Kd.R_celln 0 HO_0.out (x5_1 : Int) p5 q5
     replace p5 := eq_true p5
     replace q5 := eq_true q5
     have HP7 := Kd.R_putg HO_0.out (x5_1 : Int) x1_1
     go_wp2_with (first | ((with_reducible refine gate_store (t := 2) (p := 15) rfl ?_); refine store_event (t := 2) (p := 15) (v := ?vo_w8) (w1 := (wr.setCell ⟨go5, (x5_1 : Int).toNat, none⟩ (.int .i64 x1_1))) ?hg ?ho ?hn ?hr ?_; (case ho => rfl); (case hg => rfl); (case hn => rfl); (case hr => first | (go_simp; done) | (go_simp; rfl)); intro w8 hw; have hg : wr.grownBy w8 (some go5) := (by rw [hw]; exact HP7.2); have hp_ : Kd.R (Kd.int .i64) 2 w8 w0.heap.size (fun k_ => (P0_ k_ ∨ w.heap.size ≤ k_)) (.slice (some ⟨go5, 0, none⟩) x0_1.length co6) y127 := (by rw [hw, Ny127.out]; exact HP7.1); clear HP7; have n0_ := Aside0.mk (hp_); have n1_ := Aside0.mk ((by rw [hw]; exact below_set (HB.out) GB5.out : Below w0.heap.size w0 w8)); have n2_ := Aside0.mk (Kept.of_grown (S := (fun k_ => P0_ k_)) hg (by repeat (first | (with_reducible first | exact HK.out | apply Kept.alloc | apply Kept.drewN | apply Kept.drew) | exact HK.out)) (fun k_ e_ => (HO_0.out.1 k_ e_))); clear HO_0; clear HB; clear HK; have HO_0 := n0_; have HB := n1_; have HK := n2_; clear n0_ n1_ n2_; clear hg hw hp_))
     go_roundg k1
     case measure => have := HK1.out; omega
     case rel => exact ⟨(y127), (wrap64 (x1_1 + 1)), (wrap64 (x5_1 + 1)), (by first | rfl | (simp; done) | (simp [*]; done)), (by first | rfl | (simp; done) | (simp [*]; done)), H', ⟨by have := HK1.out; omega⟩, ⟨by (with_reducible repeat (first | apply Kd.R_alloc | apply Kd.R_drewN | apply Kd.R_drew)); exact HO_0.out⟩, ⟨by repeat (first | (with_reducible first | exact HK.out | apply Kept.alloc | apply Kept.drewN | apply Kept.drew) | exact HK.out)⟩, ⟨by repeat (first | (with_reducible first | exact HB.out | apply below_alloc | apply pw_below_drewN | apply below_drew1) | exact HB.out)⟩⟩
    ·rw [if_neg c4] at H
     exact absurd H (by simp)
   ·rw [if_neg c3] at H
    have c3b0 : decide (x5_1 < (x0_1.length : Int)) = false := decide_eq_false c3
    clear c3
    simp only [Option.some.injEq, Prod.mk.injEq] at H
    obtain ⟨rfl, rfl⟩ := H
    obtain ⟨Ao9, co9, eo9⟩ := Kd.R_slice HO_0.out
    subst eo9
    go_wp2
    go_ret
    exact ⟨by first | rfl | (simp [errW_none, errW_some] <;> rfl) | (simp [*, errW_none, errW_some] <;> rfl), by (with_reducible repeat (first | apply Kd.R_alloc | apply Kd.R_drewN | apply Kd.R_drew)); exact HO_0.out, by repeat (first | (with_reducible first | exact HB.out | apply below_alloc | apply pw_below_drewN | apply below_drew1) | exact HB.out), by repeat (first | (with_reducible first | exact HK.out | apply Kept.alloc | apply Kept.drewN | apply Kept.drew) | exact HK.out)⟩
end Go.Proofs.Ytckonklpdepgoaa.Q
namespace Go.Proofs.Ytckonklpdepgoaa.Q
open Go.RowKit Go.Proofs.YtckonklpdepgoaaW.PrintWords Go.Proofs.YtckonklpdepgoaaW.PrintLast Go.Proofs.YtckonklpdepgoaaW.PrintMore
set_option linter.unusedVariables false
def laws_markInt64SS.l0 : Nat → List (List Int) → Int → Int → Option (Int × List (List Int))
 | 0, _, _, _ => none
 | k + 1, x0, x1, x5 => if x5 < (x0.length : Int) then (if 0 ≤ x5 then ((laws_markInt64S.f k (rd_L1 x0 x5) x1).bind fun bt => laws_markInt64SS.l0 k (x0.set x5.toNat bt.2) bt.1 (wrap64 (x5 + 1))) else none) else some (x1, x0)
def laws_markInt64SS.f (k : Nat) (l0 : List (List Int)) (a1 : Int) : Option (Int × List (List Int)) := laws_markInt64SS.l0 k l0 a1 0
theorem laws_markInt64SS.mono_l : ∀ k, (∀ y0 y1 y2, LeO (laws_markInt64SS.l0 k y0 y1 y2) (laws_markInt64SS.l0 (k + 1) y0 y1 y2))
 | 0 => fun _ _ _ r h => by simp [laws_markInt64SS.l0] at h
 | k + 1 => by
  have ih0 := laws_markInt64SS.mono_l k
  intro y0 y1 y2
  unfold laws_markInt64SS.l0
  repeat' first
   | (with_reducible exact ih0 _ _ _)
   | (with_reducible exact laws_markInt64S.mono _ _ _)
   | (with_reducible exact LeO.refl _)
   | (with_reducible exact LeO.none _)
   | (with_reducible refine LeO.ite ?_ ?_)
   | (with_reducible refine LeO.bind ?_ (fun _ => ?_))
theorem laws_markInt64SS.mono : ∀ a0 a1 k, LeO (laws_markInt64SS.f k a0 a1) (laws_markInt64SS.f (k + 1) a0 a1) := fun a0 a1 k => laws_markInt64SS.mono_l k a0 a1 0
set_option maxHeartbeats 8000000 in
set_option maxRecDepth 100000 in
theorem laws_markInt64SS.calls (k : Nat) (P0_ : Nat → Prop) (u9000_ : Value) (l0 : List (List Int)) (a1 : Int) (r1 : Int) (r2 : List (List Int)) (w0 w : World) (hB : Below w0.heap.size w0 w) (ho0 : Kd.S (Kd.slice 2 (Kd.int .i64)) 34 w w0.heap.size P0_ u9000_ l0) (h : laws_markInt64SS.f k l0 a1 = some (r1, r2)) :
  Calls Try.prog 18 #[u9000_, .int .i64 a1] w fun e w' => e = .returned (.int .i64 r1) ∧ Kd.S (Kd.slice 2 (Kd.int .i64)) 34 w' w0.heap.size P0_ u9000_ r2 ∧ Below w0.heap.size w0 w' ∧ Kept w w' P0_ := by
 obtain ⟨A0, c0, rfl⟩ := Kd.S_slice ho0
 have HO := Aside0.mk ho0
 have HK := Aside0.mk (Kept.refl w P0_)
 have HB := Aside0.mk hB
 have H' := Aside0.mk (show laws_markInt64SS.l0 k l0 a1 0 = some (r1, r2) from h)
 clear hB ho0 h
 go_enter Try.func18, Try.ntmps18
 go_wp2
 go_loopg [1, 5] k (fun kq v1 v5 w' => ∃ (x0_1 : List (List Int)) (x1_1 : Int) (x5_1 : Int), v1 = .int .i64 x1_1 ∧ v5 = .int .i64 x5_1 ∧ Aside0 (x0_1.length = l0.length) ∧ Aside0 (laws_markInt64SS.l0 kq x0_1 x1_1 x5_1 = some (r1, r2)) ∧ Aside0 (kq ≤ k) ∧ Aside0 (Kd.S (Kd.slice 2 (Kd.int .i64)) 34 w' w0.heap.size P0_ (.slice A0 l0.length c0) x0_1) ∧ Aside0 (Kept w w' P0_) ∧ Aside0 (Below w0.heap.size w0 w'))
 case atStart => exact ⟨l0, a1, 0, (by first | rfl | (simp; done) | (simp [*]; done)), (by first | rfl | (simp; done) | (simp [*]; done)), ⟨rfl⟩, H', ⟨Nat.le_refl _⟩, ⟨by (with_reducible repeat (first | apply Kd.S_alloc | apply Kd.S_drewN | apply Kd.S_drew)); exact HO.out⟩, ⟨by repeat (first | (with_reducible first | exact HK.out | apply Kept.alloc | apply Kept.drewN | apply Kept.drew) | exact HK.out)⟩, ⟨by repeat (first | (with_reducible first | exact HB.out | apply below_alloc | apply pw_below_drewN | apply below_drew1) | exact HB.out)⟩⟩
 case round =>
  clear H' HO HK HB
  obtain ⟨x0_1, x1_1, x5_1, rfl, rfl, HL, HA, HK1, HO, HK, HB⟩ := hrel
  cases gk with
  | zero => exact absurd HA.out (by simp [laws_markInt64SS.l0])
  | succ k1 =>
   have H := HA.out
   clear HA
   simp only [laws_markInt64SS.l0, HL.out] at H
   by_cases c3 : x5_1 < (l0.length : Int)
   ·rw [if_pos c3] at H
    by_cases c4 : 0 ≤ x5_1
    ·rw [if_pos c4] at H
     replace H := Option.bind_eq_some_iff.mp H
     obtain ⟨⟨t1, t2⟩, A50, H⟩ := H
     have A5 := Aside0.mk A50
     clear A50
     have H' := Aside0.mk H
     clear H
     obtain ⟨g, cap, e, hgb, hgl, _⟩ := Kd.S_form HO.out (by rw [HL.out]; omega)
     rw [HL.out] at e
     injection e with e1 e2 e3
     subst e1
     subst e3
     obtain ⟨oki, ce, hcl, hM, hcc, hfr, hoki, hH⟩ := Kd.S_elem HO.out [] x5_1 c4 c3
     obtain ⟨ve, rfl, hR⟩ := hM
     have hcell := hcc 0 _ rfl
     simp only [show (Kd.slice 2 (Kd.int .i64)).sz = 1 from rfl, Nat.mul_one, Nat.add_zero] at hcell
     have HR := Aside0.mk hR
     have HH := Aside0.mk hH
     have HI := Aside0.mk hoki
     have c3b0 : decide (x5_1 < (l0.length : Int)) = true := decide_eq_true c3
     have c4b0 : decide (0 ≤ x5_1) = true := decide_eq_true c4
     have c4e := eq_true c4
     have c3e := eq_true c3
     clear hgb hgl hcl hcc hfr hR hH hoki c3 c4 e2
     obtain ⟨Ae, cce, rfl⟩ := Kd.R_slice HR.out
     go_wp2_with (first | ((with_reducible refine gate_callee (f := 63) rfl ?_); refine goesL_ (some 17) rfl rfl Try.func63 (by kernel_rfl) rfl #[_, .int .i64 x1_1] rfl (by (try simp only [List.map_toArray, List.map_cons, List.map_nil]); first | done | rfl) ?_; (with_reducible refine (laws_markInt64S.calls k1 oki _ (rd_L1 x0_1 x5_1) x1_1 t1 t2 w0 _ ?side1 ?side2 A5.out).mono ?_); (case side1 => repeat (first | (with_reducible first | exact HB.out | apply below_alloc | apply pw_below_drewN | apply below_drew1) | exact HB.out)); (case side2 => (with_reducible repeat (first | apply Kd.R_alloc | apply Kd.R_drewN | apply Kd.R_drew)); exact HR.out); rintro e w3 ⟨rfl, hy, hb, hkp⟩; have n0_ := Aside0.mk (Kd.H_back (Kd.H_kept (by (with_reducible repeat (first | apply Kd.H_alloc | apply Kd.H_drewN | apply Kd.H_drew)); exact HH.out) hkp (fun _ _ hn hs => hn hs)) (show (Kd.slice 2 (Kd.int .i64)).M w3 w0.heap.size oki t2 [_] from ⟨_, rfl, Kd.R_reok rfl hy (fun k_ e_ => HR.out.1 k_ e_)⟩) (fun _ h_ => h_)); have n1_ := Aside0.mk (Kept.then_ (by repeat (first | (with_reducible first | exact HK.out | apply Kept.alloc | apply Kept.drewN | apply Kept.drew) | exact HK.out)) hkp (fun k_ hk_ => .inl (HI.out k_ hk_).1)); have n2_ := Aside0.mk hb; clear HO HK HB hy hkp hb HH; have HO := n0_; have HK := n1_; have HB := n2_; clear n0_ n1_ n2_; refine ⟨_, rfl, ?_⟩))
     go_roundg k1
     case measure => have := HK1.out; omega
     case rel => exact ⟨x0_1.set x5_1.toNat t2, t1, wrap64 (x5_1 + 1), (by first | rfl | (simp; done) | (simp [*]; done)), (by first | rfl | (simp; done) | (simp [*]; done)), ⟨by rw [List.length_set]; exact HL.out⟩, H', ⟨by have := HK1.out; omega⟩, ⟨by (with_reducible repeat (first | apply Kd.S_alloc | apply Kd.S_drewN | apply Kd.S_drew)); exact HO.out⟩, ⟨by repeat (first | (with_reducible first | exact HK.out | apply Kept.alloc | apply Kept.drewN | apply Kept.drew) | exact HK.out)⟩, ⟨by repeat (first | (with_reducible first | exact HB.out | apply below_alloc | apply pw_below_drewN | apply below_drew1) | exact HB.out)⟩⟩
    ·rw [if_neg c4] at H
     exact absurd H (by simp)
   ·rw [if_neg c3] at H
    have c3b0 : decide (x5_1 < (l0.length : Int)) = false := decide_eq_false c3
    clear c3
    have H2 := Option.some.inj H
    injection H2 with h1 h2
    subst h1
    subst h2
    go_wp2
    go_ret
    exact ⟨rfl, by (with_reducible repeat (first | apply Kd.S_alloc | apply Kd.S_drewN | apply Kd.S_drew)); exact HO.out, by repeat (first | (with_reducible first | exact HB.out | apply below_alloc | apply pw_below_drewN | apply below_drew1) | exact HB.out), by repeat (first | (with_reducible first | exact HK.out | apply Kept.alloc | apply Kept.drewN | apply Kept.drew) | exact HK.out)⟩
end Go.Proofs.Ytckonklpdepgoaa.Q
namespace Go.Proofs.Ytckonklpdepgoaa.Q
open Go.RowKit Go.Proofs.YtckonklpdepgoaaW.PrintWords Go.Proofs.YtckonklpdepgoaaW.PrintLast Go.Proofs.YtckonklpdepgoaaW.PrintMore
set_option linter.unusedVariables false
set_option linter.unusedSimpArgs false
def laws_FnExactHilbertPath.f (k : Nat) (a0 : Int) : Option Bool := (spec_HilbertPath.f k a0).bind fun bt1 => ((impl_HilbertPath.f a0).bind fun bt4 => ((laws_eqInt64SS.f k bt4.1 bt1.1).bind fun bt7 => (if bt7 = true then (if bt4.2 = bt1.2 then ((laws_markInt64SS.f k bt4.1 1).bind fun bt8 => ((laws_heldInt64SS.f k bt8.2 1).bind fun bt10 => (if bt10 < 0 then some false else (if bt10 = bt8.1 then ((impl_HilbertPath.f a0).bind fun bt11 => ((laws_eqInt64SS.f k bt11.1 bt1.1).bind fun bt14 => (if bt14 = true then (if bt11.2 = bt4.2 then ((laws_heldInt64SS.f k bt8.2 1).bind fun bt15 => (if bt15 < 0 then some false else (if bt15 = bt10 then (some true) else some false))) else some false) else some false))) else some false)))) else some false) else some false)))
def laws_FnExactHilbertPath.Pure : Prop := ∀ (a0 : Int), (Lit.int .i64 a0).wf = true → ∃ k, laws_FnExactHilbertPath.f k a0 = some true
set_option maxHeartbeats 16000000 in
set_option maxRecDepth 100000 in
theorem laws_FnExactHilbertPath.calls (k : Nat) (a0 : Int) (w : World)  (h : laws_FnExactHilbertPath.f k a0 = some true) :
  Calls Try.prog 4 #[.int .i64 a0] w fun e w' => e = .returned (.bool true) ∧ Below w.heap.size w w' := by
 have HB := Aside0.mk (Below.refl w.heap.size w)
 have H := h
 clear h
 unfold laws_FnExactHilbertPath.f at H
 replace H := Option.bind_eq_some_iff.mp H
 obtain ⟨⟨t1, t2⟩, E10, H⟩ := H
 (try dsimp only at H)
 have E1 := Aside0.mk E10
 clear E10
 replace H := Option.bind_eq_some_iff.mp H
 obtain ⟨⟨t4, t5⟩, E20, H⟩ := H
 (try dsimp only at H)
 have E2 := Aside0.mk E20
 clear E20
 replace H := Option.bind_eq_some_iff.mp H
 obtain ⟨t7, E30, H⟩ := H
 (try dsimp only at H)
 have E3 := Aside0.mk E30
 clear E30
 by_cases c3 : t7 = true
 rotate_left
 ·rw [if_neg c3] at H; exact absurd H (by simp)
 rw [if_pos c3] at H
 subst c3
 by_cases c4 : t5 = t2
 rotate_left
 ·rw [if_neg c4] at H; exact absurd H (by simp)
 rw [if_pos c4] at H
 subst c4
 replace H := Option.bind_eq_some_iff.mp H
 obtain ⟨⟨t8, t9⟩, E60, H⟩ := H
 (try dsimp only at H)
 have E6 := Aside0.mk E60
 clear E60
 replace H := Option.bind_eq_some_iff.mp H
 obtain ⟨t10, E70, H⟩ := H
 (try dsimp only at H)
 have E7 := Aside0.mk E70
 clear E70
 by_cases c7 : t10 < 0
 ·rw [if_pos c7] at H; exact absurd H (by simp)
 rw [if_neg c7] at H
 have c7b : decide (t10 < 0) = false := decide_eq_false c7
 clear c7
 by_cases c8 : t10 = t8
 rotate_left
 ·rw [if_neg c8] at H; exact absurd H (by simp)
 rw [if_pos c8] at H
 subst c8
 replace H := Option.bind_eq_some_iff.mp H
 obtain ⟨⟨t11, t12⟩, E100, H⟩ := H
 (try dsimp only at H)
 have E10 := Aside0.mk E100
 clear E100
 replace H := Option.bind_eq_some_iff.mp H
 obtain ⟨t14, E110, H⟩ := H
 (try dsimp only at H)
 have E11 := Aside0.mk E110
 clear E110
 by_cases c11 : t14 = true
 rotate_left
 ·rw [if_neg c11] at H; exact absurd H (by simp)
 rw [if_pos c11] at H
 subst c11
 by_cases c12 : t12 = t5
 rotate_left
 ·rw [if_neg c12] at H; exact absurd H (by simp)
 rw [if_pos c12] at H
 subst c12
 replace H := Option.bind_eq_some_iff.mp H
 obtain ⟨t15, E140, H⟩ := H
 (try dsimp only at H)
 have E14 := Aside0.mk E140
 clear E140
 by_cases c14 : t15 < 0
 ·rw [if_pos c14] at H; exact absurd H (by simp)
 rw [if_neg c14] at H
 have c14b : decide (t15 < 0) = false := decide_eq_false c14
 clear c14
 by_cases c15 : t15 = t10
 rotate_left
 ·rw [if_neg c15] at H; exact absurd H (by simp)
 rw [if_pos c15] at H
 subst c15
 clear H
 go_enter Try.func4, Try.ntmps4
 go_wp2_with (first | ((with_reducible refine gate_callee (f := 20) rfl ?_); refine goesL_ (some 13) rfl rfl Try.func20 (by kernel_rfl) rfl #[.int .i64 a0] rfl (by (try simp only [List.map_toArray, List.map_cons, List.map_nil]); first | done | rfl) ?_; (with_reducible refine (spec_HilbertPath.calls k a0 t1 t12 _ E1.out).mono ?_); rintro e w_1 ⟨vR3, rfl, hoR3, hb⟩; refine ⟨_, rfl, ?_⟩; obtain ⟨loR3, hloR3⟩ : ∃ n_ : Nat, n_ = w.heap.size := ⟨_, rfl⟩; obtain ⟨hiR3, hhiR3⟩ : ∃ n_ : Nat, n_ = w_1.heap.size := ⟨_, rfl⟩; have n0_ := Aside0.mk (below_step HB.out hb); have n1_ := Aside0.mk (Kd.N_lower (Kd.N_mono (ok' := fun k_ => loR3 ≤ k_ ∧ k_ < hiR3) (Kd.N_bound hoR3) (fun k_ hk_ => ⟨by rw [hloR3]; exact hk_.1, by rw [hhiR3]; exact hk_.2⟩)) (below_size HB.out)); have n2_ := Aside0.mk (by rw [hhiR3]; exact Nat.le_refl _ : hiR3 ≤ w_1.heap.size); clear HB; have HB := n0_; have HOR3 := n1_; have UPR3 := n2_; clear n0_ n1_ n2_; clear hb; clear hoR3 hloR3 hhiR3; obtain ⟨AR3, cR3, eqR3⟩ := Kd.N_slice HOR3.out; subst eqR3) | ((with_reducible refine gate_callee (f := 21) rfl ?_); refine goesL_ (some 18) rfl rfl Try.func21 (by kernel_rfl) rfl #[.int .i64 a0] rfl (by (try simp only [List.map_toArray, List.map_cons, List.map_nil]); first | done | rfl) ?_; have HWM := HB; have HBM := Aside0.mk (Below.refl w_1.heap.size w_1); (with_reducible refine (impl_HilbertPath.calls a0 t4 t12 _ E2.out).mono ?_); rintro e w_2 ⟨vR6, rfl, hoR6, hb⟩; refine ⟨_, rfl, ?_⟩; obtain ⟨loR6, hloR6⟩ : ∃ n_ : Nat, n_ = w_1.heap.size := ⟨_, rfl⟩; obtain ⟨hiR6, hhiR6⟩ : ∃ n_ : Nat, n_ = w_2.heap.size := ⟨_, rfl⟩; have n0_ := Aside0.mk (Kd.N_below HOR3.out hb); have n1_ := Aside0.mk (Nat.le_trans UPR3.out hb.size); have n2_ := Aside0.mk (below_step HB.out hb); have n3_ := Aside0.mk (below_step HBM.out hb); have n4_ := Aside0.mk (Kd.S_lower (Kd.S_mono (ok' := fun k_ => loR6 ≤ k_ ∧ k_ < hiR6) (Kd.S_bound hoR6) (fun k_ hk_ => ⟨by rw [hloR6]; exact hk_.2.1, by rw [hhiR6]; exact hk_.2.2.1⟩)) (below_size HBM.out)); have n5_ := Aside0.mk (by rw [hhiR6]; exact Nat.le_refl _ : hiR6 ≤ w_2.heap.size); have n6_ := Aside0.mk (fun k_ h1_ h2_ => by have := UPR3.out; rw [← hloR6] at this; omega : ∀ k_, loR3 ≤ k_ ∧ k_ < hiR3 → ¬ (loR6 ≤ k_ ∧ k_ < hiR6)); have n7_ := Aside0.mk (fun k_ h1_ h2_ => by have := UPR3.out; rw [← hloR6] at this; omega : ∀ k_, loR6 ≤ k_ ∧ k_ < hiR6 → ¬ (loR3 ≤ k_ ∧ k_ < hiR3)); clear HOR3; clear UPR3; clear HB; clear HBM; have HOR3 := n0_; have UPR3 := n1_; have HB := n2_; have HBM := n3_; have HOR6 := n4_; have UPR6 := n5_; have NRR3_R6 := n6_; have NRR6_R3 := n7_; clear n0_ n1_ n2_ n3_ n4_ n5_ n6_ n7_; clear hb; clear hoR6 hloR6 hhiR6; obtain ⟨AR6, cR6, eqR6⟩ := Kd.S_slice HOR6.out; subst eqR6) | ((with_reducible refine gate_callee (f := 17) rfl ?_); refine goesL_ (some 23) rfl rfl Try.func17 (by kernel_rfl) rfl #[.slice AR6 t4.length cR6, .slice AR3 t1.length cR3] rfl (by (try simp only [List.map_toArray, List.map_cons, List.map_nil]); first | done | rfl) ?_; (with_reducible refine (laws_eqInt64SS.calls k _ _ t4 _ _ t1 true _ ?side1 ?side2 ?side3 ?side4 E3.out).mono ?_); (case side1 => exact (Kd.S_reads' HOR6.out).2.2); (case side2 => exact (Kd.S_reads' HOR6.out).2.1); (case side3 => exact (Kd.N_reads' HOR3.out).2.2); (case side4 => exact (Kd.N_reads' HOR3.out).2.1); rintro e w_3 ⟨rfl, hd⟩; have hb := Drawn0.below hd; refine ⟨_, rfl, ?_⟩; have n0_ := Aside0.mk (Kd.N_below HOR3.out hb); have n1_ := Aside0.mk (Kd.S_below HOR6.out hb); have n2_ := Aside0.mk (Nat.le_trans UPR3.out hb.size); have n3_ := Aside0.mk (Nat.le_trans UPR6.out hb.size); have n4_ := Aside0.mk (below_step HB.out hb); have n5_ := Aside0.mk (below_step HBM.out hb); clear HOR3; clear HOR6; clear UPR3; clear UPR6; clear HB; clear HBM; have HOR3 := n0_; have HOR6 := n1_; have UPR3 := n2_; have UPR6 := n3_; have HB := n4_; have HBM := n5_; clear n0_ n1_ n2_ n3_ n4_ n5_; clear hb; clear hd) | ((with_reducible refine gate_callee (f := 18) rfl ?_); refine goesL_ (some 32) rfl rfl Try.func18 (by kernel_rfl) rfl #[.slice AR6 t4.length cR6, .int .i64 1] rfl (by (try simp only [List.map_toArray, List.map_cons, List.map_nil]); first | done | rfl) ?_; (with_reducible refine (laws_markInt64SS.calls k (fun k_ => loR6 ≤ k_ ∧ k_ < hiR6) _ t4 1 t15 t9 w_1 _ ?side1 ?side2 E6.out).mono ?_); (case side1 => exact HBM.out); (case side2 => exact HOR6.out); rintro e w_4 ⟨rfl, hy, hb, hkp⟩; refine ⟨_, rfl, ?_⟩; have n0_ := Aside0.mk (Kd.N_kept HOR3.out hkp NRR3_R6.out); have n1_ := Aside0.mk (Nat.le_trans UPR3.out hkp.1); have n2_ := Aside0.mk (hy); have n3_ := Aside0.mk (Nat.le_trans UPR6.out hkp.1); have n4_ := Aside0.mk (below_step HWM.out hb); have n5_ := Aside0.mk (hb); clear HOR3; clear UPR3; clear HOR6; clear UPR6; clear HB; clear HBM; have HOR3 := n0_; have UPR3 := n1_; have HOR6 := n2_; have UPR6 := n3_; have HB := n4_; have HBM := n5_; clear n0_ n1_ n2_ n3_ n4_ n5_; clear hy hb hkp) | ((with_reducible refine gate_callee (f := 19) rfl ?_); refine goesL_ (some 35) rfl rfl Try.func19 (by kernel_rfl) rfl #[.slice AR6 t9.length cR6, .int .i64 1] rfl (by (try simp only [List.map_toArray, List.map_cons, List.map_nil]); first | done | rfl | (simp only [show t9.length = t4.length from (Kd.S_reads' HOR6.out).1.symm]; rfl)) ?_; (with_reducible refine (laws_heldInt64SS.calls k _ _ t9 1 t15 _ ?side1 ?side2 E7.out).mono ?_); (case side1 => exact (Kd.S_reads' HOR6.out).2.2); (case side2 => exact (fun h_ => h_.1 ▸ h_.2.1) (Kd.S_reads' HOR6.out)); rintro e w_5 ⟨rfl, hd⟩; have hb := Drawn0.below hd; refine ⟨_, rfl, ?_⟩; have n0_ := Aside0.mk (Kd.N_below HOR3.out hb); have n1_ := Aside0.mk (Kd.S_below HOR6.out hb); have n2_ := Aside0.mk (Nat.le_trans UPR3.out hb.size); have n3_ := Aside0.mk (Nat.le_trans UPR6.out hb.size); have n4_ := Aside0.mk (below_step HB.out hb); have n5_ := Aside0.mk (below_step HBM.out hb); clear HOR3; clear HOR6; clear UPR3; clear UPR6; clear HB; clear HBM; have HOR3 := n0_; have HOR6 := n1_; have UPR3 := n2_; have UPR6 := n3_; have HB := n4_; have HBM := n5_; clear n0_ n1_ n2_ n3_ n4_ n5_; clear hb; clear hd) | ((with_reducible refine gate_callee (f := 21) rfl ?_); refine goesL_ (some 43) rfl rfl Try.func21 (by kernel_rfl) rfl #[.int .i64 a0] rfl (by (try simp only [List.map_toArray, List.map_cons, List.map_nil]); first | done | rfl) ?_; (with_reducible refine (impl_HilbertPath.calls a0 t11 t12 _ E10.out).mono ?_); rintro e w_6 ⟨vR13, rfl, hoR13, hb⟩; refine ⟨_, rfl, ?_⟩; obtain ⟨loR13, hloR13⟩ : ∃ n_ : Nat, n_ = w_5.heap.size := ⟨_, rfl⟩; obtain ⟨hiR13, hhiR13⟩ : ∃ n_ : Nat, n_ = w_6.heap.size := ⟨_, rfl⟩; have n0_ := Aside0.mk (Kd.N_below HOR3.out hb); have n1_ := Aside0.mk (Kd.S_below HOR6.out hb); have n2_ := Aside0.mk (Nat.le_trans UPR3.out hb.size); have n3_ := Aside0.mk (Nat.le_trans UPR6.out hb.size); have n4_ := Aside0.mk (below_step HB.out hb); have n5_ := Aside0.mk (below_step HBM.out hb); have n6_ := Aside0.mk (Kd.S_lower (Kd.S_mono (ok' := fun k_ => loR13 ≤ k_ ∧ k_ < hiR13) (Kd.S_bound hoR13) (fun k_ hk_ => ⟨by rw [hloR13]; exact hk_.2.1, by rw [hhiR13]; exact hk_.2.2.1⟩)) (below_size HBM.out)); have n7_ := Aside0.mk (by rw [hhiR13]; exact Nat.le_refl _ : hiR13 ≤ w_6.heap.size); have n8_ := Aside0.mk (fun k_ h1_ h2_ => by have := UPR3.out; rw [← hloR13] at this; omega : ∀ k_, loR3 ≤ k_ ∧ k_ < hiR3 → ¬ (loR13 ≤ k_ ∧ k_ < hiR13)); have n9_ := Aside0.mk (fun k_ h1_ h2_ => by have := UPR3.out; rw [← hloR13] at this; omega : ∀ k_, loR13 ≤ k_ ∧ k_ < hiR13 → ¬ (loR3 ≤ k_ ∧ k_ < hiR3)); have n10_ := Aside0.mk (fun k_ h1_ h2_ => by have := UPR6.out; rw [← hloR13] at this; omega : ∀ k_, loR6 ≤ k_ ∧ k_ < hiR6 → ¬ (loR13 ≤ k_ ∧ k_ < hiR13)); have n11_ := Aside0.mk (fun k_ h1_ h2_ => by have := UPR6.out; rw [← hloR13] at this; omega : ∀ k_, loR13 ≤ k_ ∧ k_ < hiR13 → ¬ (loR6 ≤ k_ ∧ k_ < hiR6)); clear HOR3; clear HOR6; clear UPR3; clear UPR6; clear HB; clear HBM; have HOR3 := n0_; have HOR6 := n1_; have UPR3 := n2_; have UPR6 := n3_; have HB := n4_; have HBM := n5_; have HOR13 := n6_; have UPR13 := n7_; have NRR3_R13 := n8_; have NRR13_R3 := n9_; have NRR6_R13 := n10_; have NRR13_R6 := n11_; clear n0_ n1_ n2_ n3_ n4_ n5_ n6_ n7_ n8_ n9_ n10_ n11_; clear hb; clear hoR13 hloR13 hhiR13; obtain ⟨AR13, cR13, eqR13⟩ := Kd.S_slice HOR13.out; subst eqR13) | ((with_reducible refine gate_callee (f := 17) rfl ?_); refine goesL_ (some 48) rfl rfl Try.func17 (by kernel_rfl) rfl #[.slice AR13 t11.length cR13, .slice AR3 t1.length cR3] rfl (by (try simp only [List.map_toArray, List.map_cons, List.map_nil]); first | done | rfl) ?_; (with_reducible refine (laws_eqInt64SS.calls k _ _ t11 _ _ t1 true _ ?side1 ?side2 ?side3 ?side4 E11.out).mono ?_); (case side1 => exact (Kd.S_reads' HOR13.out).2.2); (case side2 => exact (Kd.S_reads' HOR13.out).2.1); (case side3 => exact (Kd.N_reads' HOR3.out).2.2); (case side4 => exact (Kd.N_reads' HOR3.out).2.1); rintro e w_7 ⟨rfl, hd⟩; have hb := Drawn0.below hd; refine ⟨_, rfl, ?_⟩; have n0_ := Aside0.mk (Kd.N_below HOR3.out hb); have n1_ := Aside0.mk (Kd.S_below HOR6.out hb); have n2_ := Aside0.mk (Kd.S_below HOR13.out hb); have n3_ := Aside0.mk (Nat.le_trans UPR3.out hb.size); have n4_ := Aside0.mk (Nat.le_trans UPR6.out hb.size); have n5_ := Aside0.mk (Nat.le_trans UPR13.out hb.size); have n6_ := Aside0.mk (below_step HB.out hb); have n7_ := Aside0.mk (below_step HBM.out hb); clear HOR3; clear HOR6; clear HOR13; clear UPR3; clear UPR6; clear UPR13; clear HB; clear HBM; have HOR3 := n0_; have HOR6 := n1_; have HOR13 := n2_; have UPR3 := n3_; have UPR6 := n4_; have UPR13 := n5_; have HB := n6_; have HBM := n7_; clear n0_ n1_ n2_ n3_ n4_ n5_ n6_ n7_; clear hb; clear hd) | ((with_reducible refine gate_callee (f := 19) rfl ?_); refine goesL_ (some 57) rfl rfl Try.func19 (by kernel_rfl) rfl #[.slice AR6 t9.length cR6, .int .i64 1] rfl (by (try simp only [List.map_toArray, List.map_cons, List.map_nil]); first | done | rfl | (simp only [show t9.length = t4.length from (Kd.S_reads' HOR6.out).1.symm]; rfl)) ?_; (with_reducible refine (laws_heldInt64SS.calls k _ _ t9 1 t15 _ ?side1 ?side2 E14.out).mono ?_); (case side1 => exact (Kd.S_reads' HOR6.out).2.2); (case side2 => exact (fun h_ => h_.1 ▸ h_.2.1) (Kd.S_reads' HOR6.out)); rintro e w_8 ⟨rfl, hd⟩; have hb := Drawn0.below hd; refine ⟨_, rfl, ?_⟩; have n0_ := Aside0.mk (Kd.N_below HOR3.out hb); have n1_ := Aside0.mk (Kd.S_below HOR6.out hb); have n2_ := Aside0.mk (Kd.S_below HOR13.out hb); have n3_ := Aside0.mk (Nat.le_trans UPR3.out hb.size); have n4_ := Aside0.mk (Nat.le_trans UPR6.out hb.size); have n5_ := Aside0.mk (Nat.le_trans UPR13.out hb.size); have n6_ := Aside0.mk (below_step HB.out hb); have n7_ := Aside0.mk (below_step HBM.out hb); clear HOR3; clear HOR6; clear HOR13; clear UPR3; clear UPR6; clear UPR13; clear HB; clear HBM; have HOR3 := n0_; have HOR6 := n1_; have HOR13 := n2_; have UPR3 := n3_; have UPR6 := n4_; have UPR13 := n5_; have HB := n6_; have HBM := n7_; clear n0_ n1_ n2_ n3_ n4_ n5_ n6_ n7_; clear hb; clear hd))
 go_ret
 exact ⟨by first | rfl | (simp; done) | (simp [*]; done), HB.out⟩
theorem laws_FnExactHilbertPath.walk (P : laws_FnExactHilbertPath.Pure) (a0 : Int) (w : World)  (w0 : (Lit.int .i64 a0).wf = true) :
  Calls Try.prog 4 #[.int .i64 a0] w fun e w' => e = .returned (.bool true) ∧ Below w.heap.size w w' := by
 obtain ⟨k, h⟩ := P a0 w0
 exact laws_FnExactHilbertPath.calls k a0 w h
end Go.Proofs.Ytckonklpdepgoaa.Q
namespace Go.Proofs.Ytckonklpdepgoaa.Com
open Go.RowKit Go.Proofs.YtckonklpdepgoaaW.PrintWords
theorem w64 {x : Int} (h1 : -9223372036854775808 ≤ x) (h2 : x ≤ 9223372036854775807) : wrap64 x = x := by
 unfold wrap64
 omega
theorem ev_of {α : Type} {g : Nat → Option α} {r : α} (h : Ev g r) : ∃ k, g k = some r := h.rounds
end Go.Proofs.Ytckonklpdepgoaa.Com
namespace Go.Proofs.Ytckonklpdepgoaa.Com
set_option linter.unusedSimpArgs false
set_option linter.unusedVariables false
open Go.RowKit Go.Proofs.YtckonklpdepgoaaW.PrintWords Go.Proofs.YtckonklpdepgoaaW.PrintMore Go.Proofs.Ytckonklpdepgoaa.Q
theorem within03 (a : Int) (h : ¬ (0 ≤ a ∧ a ≤ 3)) : impl_within.f a 0 3 = some false := by
 unfold impl_within.f
 split
 ·rw [decide_eq_false (by omega)]
 ·rfl
theorem in03 (a : Int) (h : ¬ (0 ≤ a ∧ a ≤ 3)) : spec_l00In.f a 0 3 = some false := by
 unfold spec_l00In.f
 split
 ·rw [decide_eq_false (by omega)]
 ·rfl
end Go.Proofs.Ytckonklpdepgoaa.Com
namespace Go.Proofs.Ytckonklpdepgoaa.Com
set_option linter.unusedSimpArgs false
set_option linter.unusedVariables false
open Go.RowKit Go.Proofs.YtckonklpdepgoaaW.PrintWords Go.Proofs.YtckonklpdepgoaaW.PrintMore Go.Proofs.Ytckonklpdepgoaa.Q
theorem hpath_is (n : Nat) (h : n ≤ 3) : impl_HilbertPath.f (n : Int) = some ((hil n).1, true) := by
 have : ∀ m : Fin 4, impl_HilbertPath.f (m.val : Int) = some ((hil m.val).1, true) := by decide +kernel
 exact this ⟨n, by omega⟩
set_option maxRecDepth 100000 in
theorem specHpath_ev (n : Nat) (h : n ≤ 3) : Ev (fun k => spec_HilbertPath.f k (n : Int)) ((hil n).1, true) := by
 refine Ev.of (k := 200) (spec_HilbertPath.mono (n : Int)) ?_
 have : ∀ m : Fin 4, spec_HilbertPath.f 200 (m.val : Int) = some ((hil m.val).1, true) := by decide +kernel
 exact this ⟨n, by omega⟩
theorem hpath_no (a : Int) (h : ¬ (0 ≤ a ∧ a ≤ 3)) : impl_HilbertPath.f a = some ([], false) := by
 simp only [impl_HilbertPath.f, within03 a h, Option.bind_some]
 rfl
theorem specHpath_no (a : Int) (h : ¬ (0 ≤ a ∧ a ≤ 3)) : Ev (fun k => spec_HilbertPath.f k a) ([], false) := by
 refine ⟨0, fun k _ => ?_⟩
 simp only [spec_HilbertPath.f, spec_l09Order.f, in03 a h, Option.bind_some]
 rfl
theorem hpF_len (h : Int) (q : Nat) (p : List Int) : (hpF h q p).length = 2 := by
 unfold hpF
 split
 ·rfl
 ·split
  ·rfl
  ·split <;> rfl
theorem hil_rows : ∀ n, ∀ x ∈ (hil n).1, x.length = 2
 | 0 => by intro x hx; simp [hil] at hx; rw [hx]; rfl
 | n + 1 => by
  intro x hx
  simp only [hil, hpS, List.mem_append, List.mem_map] at hx
  rcases hx with ((⟨y, _, rfl⟩ | ⟨y, _, rfl⟩) | ⟨y, _, rfl⟩) | ⟨y, _, rfl⟩ <;> exact hpF_len _ _ _
theorem hpath_both (a : Int) : ∃ r : List (List Int) × Bool, Ev (fun k => spec_HilbertPath.f k a) r ∧ impl_HilbertPath.f a = some r ∧ r.1.length ≤ 64 ∧ ∀ x ∈ r.1, x.length ≤ 64 := by
 by_cases h : 0 ≤ a ∧ a ≤ 3
 ·obtain ⟨n, rfl⟩ : ∃ n : Nat, a = n := ⟨a.toNat, by omega⟩
  exact ⟨_, specHpath_ev n (by omega), hpath_is n (by omega), hil_len n (by omega), fun x hx => by have := hil_rows n x hx; omega⟩
 ·exact ⟨_, specHpath_no a h, hpath_no a h, by simp, by simp⟩
end Go.Proofs.Ytckonklpdepgoaa.Com
namespace Go.Proofs.Ytckonklpdepgoaa.Com
set_option linter.unusedSimpArgs false
set_option linter.unusedVariables false
open Go.RowKit Go.Proofs.YtckonklpdepgoaaW.PrintWords
theorem ev_fold {α σ ρ : Type} (xs : List α) (g : Nat → σ → Nat → Option ρ) (F : List α → σ → ρ) (Inv : Nat → σ → Prop)
  (h0 : ∀ s, Inv xs.length s → Ev (g xs.length s) (F [] s))
  (hs : ∀ m (h : m < xs.length) s, Inv m s → (∀ s', Inv (m + 1) s' → Ev (g (m + 1) s') (F (xs.drop (m + 1)) s')) → Ev (g m s) (F (xs[m] :: xs.drop (m + 1)) s)) :
  ∀ m s, m ≤ xs.length → Inv m s → Ev (g m s) (F (xs.drop m) s) := by
 have key : ∀ d m s, m + d = xs.length → Inv m s → Ev (g m s) (F (xs.drop m) s) := by
  intro d
  induction d with
  | zero =>
   intro m s e hi
   obtain rfl : m = xs.length := by omega
   rw [List.drop_length]
   exact h0 s hi
  | succ d ih =>
   intro m s e hi
   have h : m < xs.length := by omega
   rw [List.drop_eq_getElem_cons h]
   exact hs m h s hi (fun s' hi' => ih (m + 1) s' (by omega) hi')
 intro m s hm hi
 exact key (xs.length - m) m s (by omega) hi
theorem ev_list {α ρ : Type} (xs : List α) (g : Nat → Nat → Option ρ) (F : List α → ρ) (h0 : Ev (g xs.length) (F []))
  (hs : ∀ m (h : m < xs.length), Ev (g (m + 1)) (F (xs.drop (m + 1))) → Ev (g m) (F (xs[m] :: xs.drop (m + 1)))) (m : Nat) (hm : m ≤ xs.length) : Ev (g m) (F (xs.drop m)) :=
 ev_fold xs (fun m (_ : Unit) => g m) (fun l _ => F l) (fun _ _ => True) (fun _ _ => h0) (fun m h _ _ ih => hs m h (ih () trivial)) m () hm trivial
theorem ev_count {σ ρ : Type} (n : Nat) (g : Nat → σ → Nat → Option ρ) (r : ρ) (Inv : Nat → σ → Prop) (h0 : ∀ s, Inv n s → Ev (g n s) r)
  (hs : ∀ m s, m < n → Inv m s → ∃ s', Inv (m + 1) s' ∧ (Ev (g (m + 1) s') r → Ev (g m s) r)) : ∀ m s, m ≤ n → Inv m s → Ev (g m s) r := by
 have key : ∀ d m s, m + d = n → Inv m s → Ev (g m s) r := by
  intro d
  induction d with
  | zero =>
   intro m s e hi
   obtain rfl : m = n := by omega
   exact h0 s hi
  | succ d ih =>
   intro m s e hi
   obtain ⟨s', hi', k⟩ := hs m s (by omega) hi
   exact k (ih (m + 1) s' (by omega) hi')
 intro m s hm hi
 exact key (n - m) m s (by omega) hi
theorem rd_nat {xs : List Int} {m : Nat} (h : m < xs.length) : rd xs (m : Int) = xs[m] := by
 unfold rd
 rw [Int.toNat_natCast, List.getD_eq_getElem?_getD, List.getElem?_eq_getElem h]
 rfl
theorem w_succ {m : Nat} (h : m < 9223372036854775807) : wrap64 ((m : Int) + 1) = ((m + 1 : Nat) : Int) := by
 rw [w64 (by omega) (by omega)]
 omega
end Go.Proofs.Ytckonklpdepgoaa.Com
namespace Go.Proofs.Ytckonklpdepgoaa.Com
set_option linter.unusedSimpArgs false
set_option linter.unusedVariables false
open Go.RowKit Go.Proofs.YtckonklpdepgoaaW.PrintWords Go.Proofs.Ytckonklpdepgoaa.Q
theorem eqInt64S_ev (xs ys : List Int) (hx : xs.length ≤ 1048576) : Ev (fun k => laws_eqInt64S.f k xs ys) (decide (xs = ys)) := by
 unfold laws_eqInt64S.f
 by_cases hl : (xs.length : Int) = (ys.length : Int)
 ·simp only [if_pos hl]
  have key : ∀ m, m ≤ xs.length → Ev (fun k => laws_eqInt64S.l0 k xs ys (m : Int)) (decide (xs.drop m = ys.drop m)) := by
   have gen := ev_list xs (fun m k => laws_eqInt64S.l0 k xs ys (m : Int)) (fun l => decide (l = ys.drop (xs.length - l.length))) ?_ ?_
   ·intro m hm
    have := gen m hm
    rwa [List.length_drop, show xs.length - (xs.length - m) = m by omega] at this
   ·refine Ev.step (fun k => by rw [laws_eqInt64S.l0]) ?_
    simp only [if_neg (show ¬ (xs.length : Int) < (xs.length : Int) by omega)]
    have : ys.drop (xs.length - ([] : List Int).length) = [] := by simp; omega
    rw [this]
    exact Ev.now _
   ·intro m hm ih
    refine Ev.step (fun k => by rw [laws_eqInt64S.l0]) ?_
    have hy : m < ys.length := by omega
    simp only [if_pos (show (m : Int) < (xs.length : Int) by omega), if_pos (show 0 ≤ (m : Int) by omega), if_pos (show (m : Int) < (ys.length : Int) by omega), rd_nat hm, rd_nat hy, w_succ (m := m) (by omega)]
    rw [List.length_drop, show xs.length - (xs.length - (m + 1)) = m + 1 by omega] at ih
    have e : xs.length - (xs[m] :: xs.drop (m + 1)).length = m := by simp; omega
    rw [e, List.drop_eq_getElem_cons hy]
    by_cases c : xs[m] = ys[m]
    ·simp only [if_pos c]
     rw [show decide (xs[m] :: xs.drop (m + 1) = ys[m] :: ys.drop (m + 1)) = decide (xs.drop (m + 1) = ys.drop (m + 1)) from decide_eq_decide.2 (by rw [c]; exact ⟨fun h => (List.cons.inj h).2, fun h => by rw [h]⟩)]
     exact ih
    ·simp only [if_neg c]
     rw [decide_eq_false (show ¬ xs[m] :: xs.drop (m + 1) = ys[m] :: ys.drop (m + 1) from fun h => c (List.cons.inj h).1)]
     exact Ev.now _
  have := key 0 (by omega)
  simpa using this
 ·simp only [if_neg hl]
  have : xs ≠ ys := fun e => hl (by rw [e])
  rw [decide_eq_false this]
  exact Ev.now _
end Go.Proofs.Ytckonklpdepgoaa.Com
namespace Go.Proofs.Ytckonklpdepgoaa.Com
set_option linter.unusedSimpArgs false
set_option linter.unusedVariables false
set_option linter.unusedSectionVars false
open Go.RowKit Go.Proofs.YtckonklpdepgoaaW.PrintWords Go.Proofs.YtckonklpdepgoaaW.PrintMore Go.Proofs.Ytckonklpdepgoaa.Q
theorem rdr_nat {xs : List (List Int)} {m : Nat} (h : m < xs.length) : rd_L1 xs (m : Int) = xs[m] := by
 unfold rd_L1
 rw [Int.toNat_natCast, List.getD_eq_getElem?_getD, List.getElem?_eq_getElem h]
 rfl
theorem eqInt64SS_ev (xs : List (List Int)) (hx : xs.length ≤ 1048576) (hr : ∀ x ∈ xs, x.length ≤ 1048576) : Ev (fun k => laws_eqInt64SS.f k xs xs) true := by
 unfold laws_eqInt64SS.f
 simp only [if_true]
 have gen := ev_list xs (fun m k => laws_eqInt64SS.l0 k xs xs (m : Int)) (fun _ => true) ?_ ?_ 0 (by omega)
 ·exact gen
 ·refine Ev.step (fun k => by rw [laws_eqInt64SS.l0]) ?_
  simp only [if_neg (show ¬ (xs.length : Int) < (xs.length : Int) by omega)]
  exact Ev.now _
 ·intro m hm ih
  refine Ev.step (fun k => by rw [laws_eqInt64SS.l0]) ?_
  simp only [if_pos (show (m : Int) < (xs.length : Int) by omega), if_pos (show 0 ≤ (m : Int) by omega), rdr_nat hm, w_succ (m := m) (by omega)]
  refine Ev.bind (eqInt64S_ev xs[m] xs[m] (hr _ (List.getElem_mem hm))) ?_
  simp only [decide_true, if_true]
  exact ih
end Go.Proofs.Ytckonklpdepgoaa.Com
namespace Go.Proofs.Ytckonklpdepgoaa.Com
set_option linter.unusedSimpArgs false
set_option linter.unusedVariables false
open Go.RowKit Go.Proofs.YtckonklpdepgoaaW.PrintWords Go.Proofs.Ytckonklpdepgoaa.Q
def markL (n : Nat) (a : Int) : List Int := (List.range n).map fun (i : Nat) => a + (i : Int)
theorem markL_len (n : Nat) (a : Int) : (markL n a).length = n := by simp [markL]
theorem markL_at (n : Nat) (a : Int) (i : Nat) (h : i < (markL n a).length) : (markL n a)[i] = a + i := by simp [markL]
theorem markL_succ (n : Nat) (a : Int) : markL (n + 1) a = markL n a ++ [a + n] := by
 unfold markL
 rw [List.range_succ, List.map_append]
 rfl
theorem mark_set (xs : List Int) (m : Nat) (a : Int) (h : m < xs.length) : (markL m a ++ xs.drop m).set m (a + m) = markL (m + 1) a ++ xs.drop (m + 1) := by
 rw [List.set_append_right _ _ (by rw [markL_len]; omega), markL_len, Nat.sub_self, List.drop_eq_getElem_cons h, List.set_cons_zero, markL_succ, List.append_assoc]
 rfl
theorem markInt64S_ev (xs : List Int) (a : Int) (hx : xs.length ≤ 1048576) (ha : 0 ≤ a ∧ a ≤ 1000000000000) : Ev (fun k => laws_markInt64S.f k xs a) (a + xs.length, markL xs.length a) := by
 unfold laws_markInt64S.f
 have gen := ev_count xs.length (fun m (s : List Int × Int) k => laws_markInt64S.l0 k s.1 s.2 (m : Int)) (a + (xs.length : Int), markL xs.length a) (fun m s => s = (markL m a ++ xs.drop m, a + m)) ?_ ?_ 0 (xs, a) (by omega) (by simp [markL])
 ·exact gen
 ·rintro s rfl
  refine Ev.step (fun k => by rw [laws_markInt64S.l0]) ?_
  have hl : (markL xs.length a ++ xs.drop xs.length).length = xs.length := by rw [List.length_append, markL_len, List.length_drop]; omega
  rw [List.drop_length, List.append_nil] at hl ⊢
  simp only [hl, if_neg (show ¬ (xs.length : Int) < (xs.length : Int) by omega)]
  exact Ev.now _
 ·rintro m s hm rfl
  refine ⟨_, rfl, fun ih => ?_⟩
  refine Ev.step (fun k => by rw [laws_markInt64S.l0]) ?_
  have hl : (markL m a ++ xs.drop m).length = xs.length := by rw [List.length_append, markL_len, List.length_drop]; omega
  simp only [hl, if_pos (show (m : Int) < (xs.length : Int) by omega), if_pos (show 0 ≤ (m : Int) by omega), Int.toNat_natCast, mark_set xs m a hm, w_succ (m := m) (by omega)]
  rw [w64 (by omega) (by omega)]
  simp only at ih
  rwa [show a + ((m + 1 : Nat) : Int) = a + (m : Int) + 1 by omega] at ih
theorem heldInt64S_ev (n : Nat) (a : Int) (hx : n ≤ 1048576) (ha : 0 ≤ a ∧ a ≤ 1000000000000) : Ev (fun k => laws_heldInt64S.f k (markL n a) a) (a + n) := by
 unfold laws_heldInt64S.f
 have gen := ev_count n (fun m (s : Int) k => laws_heldInt64S.l0 k (markL n a) s (m : Int)) (a + (n : Int)) (fun m s => s = a + m) ?_ ?_ 0 a (by omega) (by simp)
 ·exact gen
 ·rintro s rfl
  refine Ev.step (fun k => by rw [laws_heldInt64S.l0]) ?_
  simp only [markL_len, if_neg (show ¬ (n : Int) < (n : Int) by omega)]
  exact Ev.now _
 ·rintro m s hm rfl
  refine ⟨_, rfl, fun ih => ?_⟩
  refine Ev.step (fun k => by rw [laws_heldInt64S.l0]) ?_
  have h : m < (markL n a).length := by rw [markL_len]; exact hm
  simp only [if_pos (show (m : Int) < ((markL n a).length : Int) by rw [markL_len]; omega), if_pos (show 0 ≤ (m : Int) by omega), rd_nat h, markL_at, if_true, w_succ (m := m) (by omega)]
  rw [w64 (by omega) (by omega)]
  rwa [show a + ((m + 1 : Nat) : Int) = a + (m : Int) + 1 by omega] at ih
end Go.Proofs.Ytckonklpdepgoaa.Com
namespace Go.Proofs.Ytckonklpdepgoaa.Com
set_option linter.unusedSimpArgs false
set_option linter.unusedVariables false
set_option linter.unusedSectionVars false
open Go.RowKit Go.Proofs.YtckonklpdepgoaaW.PrintWords Go.Proofs.YtckonklpdepgoaaW.PrintMore Go.Proofs.Ytckonklpdepgoaa.Q
def tot : List (List Int) → Int
 | [] => 0
 | x :: r => (x.length : Int) + tot r
theorem tot_nn (l : List (List Int)) : 0 ≤ tot l := by
 induction l with
 | nil => exact Int.le_refl _
 | cons x r ih => unfold tot; omega
theorem tot_le (l : List (List Int)) (c : Nat) (h : ∀ x ∈ l, x.length ≤ c) : tot l ≤ (l.length * c : Nat) := by
 induction l with
 | nil => simp [tot]
 | cons x r ih =>
  have h1 := h x (List.mem_cons_self ..)
  have h2 := ih (fun y hy => h y (List.mem_cons_of_mem _ hy))
  unfold tot
  rw [List.length_cons, Nat.add_mul, Nat.one_mul]
  omega
theorem tot_take (xs : List (List Int)) (m : Nat) (h : m < xs.length) : tot (xs.take (m + 1)) = tot (xs.take m) + xs[m].length := by
 induction xs generalizing m with
 | nil => simp at h
 | cons y r ih =>
  cases m with
  | zero => simp [tot]
  | succ m =>
   simp only [List.take_succ_cons, tot, List.getElem_cons_succ]
   rw [ih m (by simpa using h)]
   omega
theorem tot_take_le (xs : List (List Int)) (m : Nat) : tot (xs.take m) ≤ tot xs := by
 induction xs generalizing m with
 | nil => simp
 | cons y r ih =>
  cases m with
  | zero => simp [tot]; have := tot_nn r; omega
  | succ m => simp only [List.take_succ_cons, tot]; have := ih m; omega
def markLL : List (List Int) → Int → List (List Int)
 | [], _ => []
 | x :: r, a => markL x.length a :: markLL r (a + x.length)
theorem markLL_len (xs : List (List Int)) : ∀ a, (markLL xs a).length = xs.length := by
 induction xs with
 | nil => intro a; rfl
 | cons x r ih => intro a; simp [markLL, ih]
theorem markLL_snoc (xs : List (List Int)) (x : List Int) : ∀ a, markLL (xs ++ [x]) a = markLL xs a ++ [markL x.length (a + tot xs)] := by
 induction xs with
 | nil => intro a; simp [markLL, tot]
 | cons y r ih => intro a; simp only [List.cons_append, markLL, tot, ih]; rw [Int.add_assoc]
theorem markLL_at (xs : List (List Int)) : ∀ a (m : Nat) (h : m < (markLL xs a).length) (h' : m < xs.length), (markLL xs a)[m] = markL xs[m].length (a + tot (xs.take m)) := by
 induction xs with
 | nil => intro a m h h'; simp at h'
 | cons y r ih =>
  intro a m h h'
  cases m with
  | zero => simp [markLL, tot]
  | succ m =>
   simp only [markLL, List.getElem_cons_succ, List.take_succ_cons, tot]
   rw [ih _ m (by rw [markLL_len]; simpa using h') (by simpa using h'), Int.add_assoc]
theorem setll (A : List (List Int)) (xs : List (List Int)) (m : Nat) (h : m < xs.length) (hA : A.length = m) (y : List Int) : (A ++ xs.drop m).set m y = A ++ [y] ++ xs.drop (m + 1) := by
 rw [List.drop_eq_getElem_cons h, List.set_append_right _ _ (by omega), hA, Nat.sub_self, List.set_cons_zero, List.append_assoc]
 rfl
theorem markSS_ev (xs : List (List Int)) (a : Int) (hx : xs.length ≤ 1048576) (hr : ∀ x ∈ xs, x.length ≤ 1048576) (ha : 0 ≤ a) (hb : a + tot xs ≤ 1000000000000) : Ev (fun k => laws_markInt64SS.f k xs a) (a + tot xs, markLL xs a) := by
 unfold laws_markInt64SS.f
 refine ev_count xs.length (fun m (s : List (List Int) × Int) k => laws_markInt64SS.l0 k s.1 s.2 (m : Int)) _ (fun m s => s = (markLL (xs.take m) a ++ xs.drop m, a + tot (xs.take m))) ?_ ?_ 0 (xs, a) (by omega) (by simp [markLL, tot])
 ·rintro _ rfl
  refine Ev.step (fun k => by rw [laws_markInt64SS.l0]) ?_
  simp only [List.take_length, List.drop_length, List.append_nil, markLL_len, if_neg (show ¬ (xs.length : Int) < (xs.length : Int) by omega)]
  exact Ev.now _
 ·rintro m _ hm rfl
  refine ⟨_, rfl, fun ih => ?_⟩
  have hA : (markLL (xs.take m) a).length = m := by rw [markLL_len, List.length_take]; omega
  have hl : (markLL (xs.take m) a ++ xs.drop m).length = xs.length := by rw [List.length_append, hA, List.length_drop]; omega
  have e : rd_L1 (markLL (xs.take m) a ++ xs.drop m) (m : Int) = xs[m] := by
   rw [rdr_nat (by omega), List.getElem_append_right (by omega)]
   simp [hA]
  have t1 := tot_take xs m hm
  have t2 := tot_take_le xs (m + 1)
  have t3 := tot_nn (xs.take m)
  refine Ev.step (fun k => by rw [laws_markInt64SS.l0]) ?_
  simp only [hl, if_pos (show (m : Int) < (xs.length : Int) by omega), if_pos (show 0 ≤ (m : Int) by omega), e, w_succ (m := m) (by omega), Int.toNat_natCast]
  refine Ev.bind (markInt64S_ev xs[m] (a + tot (xs.take m)) (hr _ (List.getElem_mem hm)) (by omega)) ?_
  simp only
  rw [setll _ xs m hm hA, ← markLL_snoc, ← List.take_succ_eq_append_getElem hm, Int.add_assoc, ← t1]
  exact ih
theorem heldSS_ev (xs : List (List Int)) (a : Int) (hx : xs.length ≤ 1048576) (hr : ∀ x ∈ xs, x.length ≤ 1048576) (ha : 0 ≤ a) (hb : a + tot xs ≤ 1000000000000) : Ev (fun k => laws_heldInt64SS.f k (markLL xs a) a) (a + tot xs) := by
 unfold laws_heldInt64SS.f
 refine ev_count xs.length (fun m (s : Int) k => laws_heldInt64SS.l0 k (markLL xs a) s (m : Int)) _ (fun m s => s = a + tot (xs.take m)) ?_ ?_ 0 a (by omega) (by simp [tot])
 ·rintro _ rfl
  refine Ev.step (fun k => by rw [laws_heldInt64SS.l0]) ?_
  simp only [List.take_length, markLL_len, if_neg (show ¬ (xs.length : Int) < (xs.length : Int) by omega)]
  exact Ev.now _
 ·rintro m _ hm rfl
  refine ⟨_, rfl, fun ih => ?_⟩
  have e : rd_L1 (markLL xs a) (m : Int) = markL xs[m].length (a + tot (xs.take m)) := by
   rw [rdr_nat (by rw [markLL_len]; exact hm), markLL_at xs a m (by rw [markLL_len]; exact hm) hm]
  have t1 := tot_take xs m hm
  have t2 := tot_take_le xs (m + 1)
  have t3 := tot_nn (xs.take m)
  refine Ev.step (fun k => by rw [laws_heldInt64SS.l0]) ?_
  simp only [markLL_len, if_pos (show (m : Int) < (xs.length : Int) by omega), if_pos (show 0 ≤ (m : Int) by omega), e, w_succ (m := m) (by omega)]
  refine Ev.bind (heldInt64S_ev xs[m].length (a + tot (xs.take m)) (hr _ (List.getElem_mem hm)) (by omega)) ?_
  simp only [if_neg (show ¬ a + tot (xs.take m) + (xs[m].length : Int) < 0 by omega)]
  rw [Int.add_assoc, ← t1]
  exact ih
def Grid (R C : Nat) (g : List (List Int)) : Prop := g.length = R ∧ ∀ x ∈ g, x.length = C
theorem Grid.row {R C : Nat} {g : List (List Int)} (h : Grid R C g) {i : Nat} (hi : i < R) : i < g.length ∧ ∀ (h' : i < g.length), g[i].length = C := ⟨by rw [h.1]; exact hi, fun h' => h.2 _ (List.getElem_mem h')⟩
theorem Grid.rd {R C : Nat} {g : List (List Int)} (h : Grid R C g) {i : Nat} (hi : i < R) : (rd_L1 g (i : Int)).length = C := by
 rw [rdr_nat (h.row hi).1]
 exact (h.row hi).2 _
end Go.Proofs.Ytckonklpdepgoaa.Com
namespace Go.Proofs.Ytckonklpdepgoaa.Pure
set_option linter.unusedSimpArgs false
set_option linter.unusedVariables false
open Go.RowKit Go.Proofs.Ytckonklpdepgoaa.Q Go.Proofs.YtckonklpdepgoaaW.PrintWords Go.Proofs.YtckonklpdepgoaaW.PrintLast Go.Proofs.Ytckonklpdepgoaa.Com
theorem FnExactHilbertPath : laws_FnExactHilbertPath.Pure := by
 intro a ha
 apply ev_of
 unfold laws_FnExactHilbertPath.f
 obtain ⟨⟨g, b⟩, E1, E2, g1, g2⟩ := hpath_both a
 simp only at g1 g2
 have c1 : g.length ≤ 1048576 := by omega
 have c2 : ∀ x ∈ g, x.length ≤ 1048576 := fun x hx => by have := g2 x hx; omega
 have c3 := tot_le g 64 g2
 have c4 := tot_nn g
 have c5 : g.length * 64 ≤ 64 * 64 := Nat.mul_le_mul_right _ g1
 simp only [E2, Option.bind_some]
 refine Ev.bind E1 (Ev.bind (eqInt64SS_ev g c1 c2) ?_)
 simp only [if_true]
 refine Ev.bind (markSS_ev g 1 c1 c2 (by omega) (by omega)) (Ev.bind (heldSS_ev g 1 c1 c2 (by omega) (by omega)) ?_)
 simp only [if_neg (show ¬ 1 + tot g < 0 by omega), if_true]
 refine Ev.bind (eqInt64SS_ev g c1 c2) ?_
 simp only [if_true]
 refine Ev.bind (heldSS_ev g 1 c1 c2 (by omega) (by omega)) ?_
 simp only [if_neg (show ¬ 1 + tot g < 0 by omega), if_true]
 exact Ev.now _
end Go.Proofs.Ytckonklpdepgoaa.Pure
