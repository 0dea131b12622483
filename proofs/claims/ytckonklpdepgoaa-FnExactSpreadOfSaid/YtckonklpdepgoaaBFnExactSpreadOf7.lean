/- The statement FnExactSpreadOf, with all that its proof stands on: functions of the program as plain functions, the program's walks, and the plain law. Conditions: none beyond the statement's own. -/
import Derived.ArgAppend
import Derived.Below
import Derived.BigQuiet
import Derived.BigRegion
import Derived.Deep.AppendLies
import Derived.Deep.CutBlock
import Derived.Deep.DeepCutAuto
import Derived.Deep.Draws
import Derived.Deep.LoopGhost
import Derived.Deep.OwnRows
import Derived.Deep.QuietTactic
import Derived.Deep.RegionHeld3
import Derived.Ground.SlgmProg
import Derived.Ground.SlgnProg
import Derived.KernelRfl
import Derived.Laws.BitsLemmas
import Derived.Laws.BytesArg
import Derived.Laws.IdiomCopy
import Derived.Laws.MakeOwn
import Derived.Laws.OwnMore
import Derived.Laws.Rows
import Derived.Laws.Slices
import Derived.Lib.AppendStr
import Derived.Lib.ConvBytes
import Derived.Maps.AppendAt
import Derived.OrdersHeld
import Derived.OwnWalk
import Derived.ProofKit
import Derived.RowKit
import Derived.RowKit3
import Derived.Shelf.SlicesE.Clone
import Derived.Shelf.Small.Bits
import Derived.Shelf.Small.Strs
import Derived.Shelf.SortM.Plain
import Derived.Shelf.Strconv.Itoa0
import Derived.Shelf.Strings.Search1
import Derived.Sort.OwnSortedInts
import Derived.Tactics
import Derived.Test.YtckonklpdepgoaaProg
import Derived.WalkKit
import Derived.WideLaws
import Derived.Test.YtckonklpdepgoaaBFnExactSpreadOf0
import Derived.Test.YtckonklpdepgoaaBFnExactSpreadOf1
import Derived.Test.YtckonklpdepgoaaBFnExactSpreadOf2
import Derived.Test.YtckonklpdepgoaaBFnExactSpreadOf3
import Derived.Test.YtckonklpdepgoaaBFnExactSpreadOf4
import Derived.Test.YtckonklpdepgoaaBFnExactSpreadOf6
set_option linter.unusedVariables false
set_option linter.unusedSimpArgs false
namespace Go.Proofs.Ytckonklpdepgoaa.Q
open Go.RowKit Go.Proofs.YtckonklpdepgoaaW.PrintWords Go.Proofs.YtckonklpdepgoaaW.PrintLast Go.Proofs.YtckonklpdepgoaaW.PrintMore
attribute [local go_sem] max2_int min2_int max_two min_two max_three min_three max_four min_four   -- for this text's walks alone
set_option linter.unusedVariables false
set_option linter.unusedSimpArgs false
def impl_IsMask.p (n : Nat) (x : List Int) : Bool := decide (x.length ≠ n)
def impl_IsMask.f (k : Nat) (l0 : List (List Int)) : Option (Bool) := if 1 ≤ l0.length ∧ l0.length ≤ 8 then (if l0.any (impl_IsMask.p l0.length) = true then some false else impl_isSet.f k (l0.flatten.mergeSort fun x y => decide (x ≤ y)) (wrap64 ((l0.length : Int) * (l0.length : Int)))) else some false
theorem impl_IsMask.mono : ∀ a0 k, LeO (impl_IsMask.f k a0) (impl_IsMask.f (k + 1) a0) := by
 intro a0 k
 unfold impl_IsMask.f
 refine LeO.ite (LeO.ite (LeO.refl _) (impl_isSet.mono _ _ _)) (LeO.refl _)
theorem impl_IsMask.flat (n : Nat) (l : List (List Int)) (h : l.any (impl_IsMask.p n) = false) : l.flatten.length = l.length * n := by
 induction l with
 | nil => simp
 | cons y ys ih =>
  simp only [List.any_cons, Bool.or_eq_false_iff] at h
  have h1 : y.length = n := by have := h.1; unfold impl_IsMask.p at this; simpa using this
  rw [List.flatten_cons, List.length_append, ih h.2, h1, List.length_cons, Nat.succ_mul, Nat.add_comm]
set_option maxHeartbeats 2000000 in
theorem impl_IsMask.one (b n : Nat) (A : Option Addr) (c : Nat) (x : List Int) (w : World) (h1 : w.cell? ⟨b, 0, none⟩ = some (.int .i64 n)) (hlc : x.length ≤ c) (hx : Kd.C (Kd.int .i64) w A x.length x) :
  Calls Try.prog 81 (#[.slice A x.length c] ++ #[.pointer (some ⟨b, 0, none⟩)]) w fun e w' => e = .returned (.bool (impl_IsMask.p n x)) ∧ Below w.heap.size w w' := by
 have HX := Aside0.mk hx
 have HL := Aside0.mk hlc
 clear hx hlc
 by_cases q : x.length = n
 ·have q1 : ((x.length : Int) == (n : Int)) = true := by simp [q]
  have q2 : ((x.length : Int) != (n : Int)) = false := by simp [q]
  have HQ := Aside0.mk q
  clear q
  go_enter Try.func81, Try.ntmps81
  go_wp2
  go_quiet ((go_at_call 69; exact Calls.quiet_of ((impl_size_int64_69.calls A c x _ _ (Kd.C_below HX.out (by repeat (first | exact Below.refl _ _ | apply pw_below_drewN))) HL.out rfl).mono (fun e w' h => ⟨h.1, h.2.out⟩))))
  go_wp2
  go_ret
  refine ⟨?_, ?_⟩
  ·simp [impl_IsMask.p, HQ.out]
  ·repeat (first | exact Below.refl _ _ | apply pw_below_drewN)
 ·have q1 : ((x.length : Int) == (n : Int)) = false := by simp; omega
  have q2 : ((x.length : Int) != (n : Int)) = true := by simp; omega
  have HQ := Aside0.mk q
  clear q
  go_enter Try.func81, Try.ntmps81
  go_wp2
  go_quiet ((go_at_call 69; exact Calls.quiet_of ((impl_size_int64_69.calls A c x _ _ (Kd.C_below HX.out (by repeat (first | exact Below.refl _ _ | apply pw_below_drewN))) HL.out rfl).mono (fun e w' h => ⟨h.1, h.2.out⟩))))
  go_wp2
  go_ret
  refine ⟨?_, ?_⟩
  ·simp [impl_IsMask.p, HQ.out]
  ·repeat (first | exact Below.refl _ _ | apply pw_below_drewN)
set_option maxHeartbeats 4000000 in
set_option maxRecDepth 100000 in
theorem impl_IsMask.calls (k : Nat) (A0 : Option Addr) (c0 : Nat) (l0 : List (List Int)) (r : Bool) (w : World) (hr0 : Kd.C (Kd.slice 2 (Kd.int .i64)) w A0 l0.length l0) (hc0 : l0.length ≤ c0) (h : impl_IsMask.f k l0 = some r) :
  Calls Try.prog 35 #[.slice A0 l0.length c0] w fun e w' => e = .returned (.bool r) ∧ Below w.heap.size w w' := by
 have eg : ∀ args w, (callFunc 81 args).run Try.prog w = .ok (.enter 81 args) w := i64_enters Try.func81 (by kernel_rfl) rfl
 have HR := Aside0.mk hr0
 have HC0 := Aside0.mk hc0
 have H1 := Aside0.mk (impl_within_tells (l0.length : Int) 1 8)
 have up : ∀ o1, Below w.heap.size w (w.alloc o1) := fun o1 => below_alloc (Below.refl _ _) o1
 have UP := Aside0.mk up
 have H := h
 clear up h hr0 hc0
 unfold impl_IsMask.f at H
 by_cases q1 : 1 ≤ l0.length ∧ l0.length ≤ 8
 ·rw [if_pos q1] at H
  have H1' : Aside0 (impl_within.f (l0.length : Int) 1 8 = some true) := ⟨H1.out.trans (by rw [decide_eq_true (show 1 ≤ (l0.length : Int) ∧ (l0.length : Int) ≤ 8 by omega)])⟩
  have Q1 := Aside0.mk q1
  clear q1 H1
  generalize hp : impl_IsMask.p l0.length = p at H
  have HP := Aside0.mk hp
  clear hp
  cases ha : l0.any p with
  | true =>
   rw [ha] at H
   have e : r = false := (Option.some.inj H).symm
   subst e
   have HA := Aside0.mk ha
   clear H ha
   go_enter Try.func35, Try.ntmps35
   go_wp2_with (first
    | (go_at_call 68; refine (impl_size_int64_68.calls A0 c0 l0 _ _ (Kd.C_below HR.out (by repeat (first | exact Below.refl _ _ | apply pw_below_drewN))) HC0.out rfl).mono ?_; rintro e w1 ⟨rfl, hd⟩; have HB1 := Aside0.mk hd.below; clear hd)
    | (go_at_call 60; refine (impl_within.calls _ _ _ true _ (by with_reducible exact H1'.out)).mono ?_; rintro e w2 ⟨rfl, hd⟩; have hc2 : w2.cell? ⟨w1.heap.size, 0, none⟩ = some (.int .i64 l0.length) := (by rw [Below.cell hd.below (by simp)]; simp); have HB2 : Aside0 (Below w.heap.size w w2) := ⟨below_then (below_alloc HB1.out _) (by have := HB1.out.size; simp; omega) hd.below⟩; have HZ2 : Aside0 (w1.heap.size < w2.heap.size) := ⟨by have := hd.below.size; simp at this; omega⟩; clear hd)
    | (go_at_call 80; refine (rws_ctf 81 _ eg p A0 c0 l0 _ (Kd.C_below HR.out HB2.out) (fun x A c w1 hb hc hx => by rw [← HP.out]; exact impl_IsMask.one _ l0.length A c x w1 ((Below.cell hb (by have := HZ2.out; simp <;> omega)).trans hc2) hc hx)).mono ?_; rintro e w3 ⟨rfl, hb⟩; have HB := Aside0.mk (below_step HB2.out hb); have hc3 := pw_cell_below hb hc2; have HZ3 : Aside0 (w1.heap.size < w3.heap.size) := ⟨by have := hb.size; have := HZ2.out; omega⟩; clear hb hc2; (try rw [HA.out])))
   go_ret
   exact ⟨rfl, by repeat (first | exact HB.out | apply pw_below_drewN)⟩
  | false =>
   rw [ha] at H
   have H' : Aside0 (impl_isSet.f k (l0.flatten.mergeSort fun x y => decide (x ≤ y)) (wrap64 ((l0.length : Int) * (l0.length : Int))) = some r) := ⟨H⟩
   have hfl : l0.flatten.length = l0.length * l0.length := impl_IsMask.flat l0.length l0 (by rw [HP.out]; exact ha)
   have hm1 : 1 ≤ l0.length * l0.length := Nat.le_trans (by decide : 1 ≤ 1 * 1) (Nat.mul_le_mul Q1.out.1 Q1.out.1)
   have hm2 : l0.length * l0.length ≤ 64 := Nat.le_trans (Nat.mul_le_mul Q1.out.2 Q1.out.2) (by decide : 8 * 8 ≤ 64)
   have HF1 := Aside0.mk (show 0 < l0.flatten.length by omega)
   have HF2 := Aside0.mk (show l0.flatten.length ≤ 1000000000 by omega)
   have HA := Aside0.mk ha
   clear H ha hfl hm1 hm2
   generalize hL : l0.flatten = L at H' HF1 HF2
   have HL := Aside0.mk hL
   clear hL
   generalize hS : (L.mergeSort fun x y => decide (x ≤ y)) = S at H'
   have HS := Aside0.mk hS
   clear hS
   have HSL : Aside0 (S.length = L.length) := ⟨by rw [← HS.out]; exact List.length_mergeSort _⟩
   go_enter Try.func35, Try.ntmps35
   go_wp2_with (first
    | (go_at_call 68; refine (impl_size_int64_68.calls A0 c0 l0 _ _ (Kd.C_below HR.out (by repeat (first | exact Below.refl _ _ | apply pw_below_drewN))) HC0.out rfl).mono ?_; rintro e w1 ⟨rfl, hd⟩; have HB1 := Aside0.mk hd.below; clear hd)
    | (go_at_call 60; refine (impl_within.calls _ _ _ true _ (by with_reducible exact H1'.out)).mono ?_; rintro e w2 ⟨rfl, hd⟩; have hc2 : w2.cell? ⟨w1.heap.size, 0, none⟩ = some (.int .i64 l0.length) := (by rw [Below.cell hd.below (by simp)]; simp); have HB2 : Aside0 (Below w.heap.size w w2) := ⟨below_then (below_alloc HB1.out _) (by have := HB1.out.size; simp; omega) hd.below⟩; have HZ2 : Aside0 (w1.heap.size < w2.heap.size) := ⟨by have := hd.below.size; simp at this; omega⟩; clear hd)
    | (go_at_call 80; refine (rws_ctf 81 _ eg p A0 c0 l0 _ (Kd.C_below HR.out HB2.out) (fun x A c w1 hb hc hx => by rw [← HP.out]; exact impl_IsMask.one _ l0.length A c x w1 ((Below.cell hb (by have := HZ2.out; simp <;> omega)).trans hc2) hc hx)).mono ?_; rintro e w3 ⟨rfl, hb⟩; have HB := Aside0.mk (below_step HB2.out hb); have hc3 := pw_cell_below hb hc2; have HZ3 : Aside0 (w1.heap.size < w3.heap.size) := ⟨by have := hb.size; have := HZ2.out; omega⟩; clear hb hc2; (try rw [HA.out]))
    | (go_at_call 82; (with_reducible refine (i64_concat A0 c0 l0 _ (Kd.C_below HR.out HB.out) (by rw [HL.out]; exact HF2.out)).mono ?_); rintro e w4 ⟨v4, rfl, hr4, hb4⟩; rw [HL.out] at hr4; have HV := Aside0.mk hr4; have HB4 := Aside0.mk (below_step HB.out hb4); have hc4 := pw_cell_below hb4 hc3; have HG : Aside0 (v4.ownBlock ≠ some w1.heap.size) := ⟨fun e_ => by have h_ := Kd.R_base HV.out _ e_; have := HZ3.out; omega⟩; have HBS : Aside0 (∀ k_, v4.ownBlock = some k_ → w.heap.size ≤ k_) := ⟨fun k_ e_ => by have h_ := Kd.R_base HV.out _ e_; have := HB.out.size; omega⟩; clear hb4 hr4 hc3; obtain ⟨A4, c4, e4⟩ := Kd.R_slice HV.out; subst e4)
    | (go_at_call 83; (with_reducible refine (i64_sort _ _ A4 c4 L _ HV.out HF1.out HF2.out).mono ?_); rintro e w5 ⟨rfl, hr5, hg5⟩; rw [HS.out] at hr5; have HV5 := Aside0.mk hr5; have hc5 : w5.cell? ⟨w1.heap.size, 0, none⟩ = some (.int .i64 l0.length) := cell_grown hg5 hc4 (fun e_ => HG.out e_.symm); have HB5 : Aside0 (Below w.heap.size w w5) := ⟨pw_below_grown HB4.out _ HB4.out.size hg5 HBS.out⟩; clear hg5 hr5 hc4)
    | (go_at_call 84; have hcall := impl_isSet.calls k A4 c4 S _ r w5 (by have h_ := Kd.R_reads' HV5.out; rw [← h_.1]; rw [h_.1]; exact h_.2.2) (by have h_ := (Kd.R_reads' HV5.out).2.1; have h2_ := HSL.out; omega) H'.out; rw [HSL.out] at hcall; (with_reducible refine hcall.mono ?_); clear hcall; rintro e w6 ⟨rfl, hd⟩; have HB6 := Aside0.mk (below_step HB5.out hd.below); clear hd))
   go_ret
   exact ⟨rfl, by repeat (first | exact HB6.out | apply pw_below_drewN)⟩
 ·rw [if_neg q1] at H
  have e : r = false := (Option.some.inj H).symm
  subst e
  have H1' : Aside0 (impl_within.f (l0.length : Int) 1 8 = some false) := ⟨H1.out.trans (by rw [decide_eq_false (show ¬ (1 ≤ (l0.length : Int) ∧ (l0.length : Int) ≤ 8) by omega)])⟩
  clear q1 H1 H
  go_enter Try.func35, Try.ntmps35
  go_wp2_with (first
   | (go_at_call 68; refine (impl_size_int64_68.calls A0 c0 l0 _ _ (Kd.C_below HR.out (by repeat (first | exact Below.refl _ _ | apply pw_below_drewN))) HC0.out rfl).mono ?_; rintro e w1 ⟨rfl, hd⟩; have HB1 := Aside0.mk hd.below; clear hd)
   | (go_at_call 60; refine (impl_within.calls _ _ _ false _ (by with_reducible exact H1'.out)).mono ?_; rintro e w2 ⟨rfl, hd⟩; have hc2 : w2.cell? ⟨w1.heap.size, 0, none⟩ = some (.int .i64 l0.length) := (by rw [Below.cell hd.below (by simp)]; simp); have HB2 : Aside0 (Below w.heap.size w w2) := ⟨below_then (below_alloc HB1.out _) (by have := HB1.out.size; simp; omega) hd.below⟩; have HZ2 : Aside0 (w1.heap.size < w2.heap.size) := ⟨by have := hd.below.size; simp at this; omega⟩; clear hd))
  go_ret
  exact ⟨rfl, by repeat (first | exact HB2.out | apply pw_below_drewN)⟩
end Go.Proofs.Ytckonklpdepgoaa.Q
namespace Go.Proofs.Ytckonklpdepgoaa.Q
open Go.RowKit Go.Proofs.YtckonklpdepgoaaW.PrintWords Go.Proofs.YtckonklpdepgoaaW.PrintLast Go.Proofs.YtckonklpdepgoaaW.PrintMore
attribute [local go_sem] max2_int min2_int max_two min_two max_three min_three max_four min_four   -- for this text's walks alone
set_option linter.unusedVariables false
set_option linter.unusedSimpArgs false
abbrev kp2 : Kd (Int × Int) := Kd.pair (Kd.int .i64) (Kd.int .i64)
theorem kp2_open {w : World} {x : Int × Int} {cs : List Value} (h : kp2.K w x cs) : cs = [.int .i64 x.1, .int .i64 x.2] := by
  obtain ⟨c0, c1, rfl, h0, h1⟩ := h
  rw [show c0 = [Value.int .i64 x.1] from h0, show c1 = [Value.int .i64 x.2] from h1]
  rfl
theorem kp2_mkM (w : World) (base : Nat) (ok : Nat → Prop) (x : Int × Int) : kp2.M w base ok x [.int .i64 x.1, .int .i64 x.2] := ⟨[.int .i64 x.1], [.int .i64 x.2], rfl, rfl, rfl⟩
theorem kp2_at {e base n cap : Nat} {A : Option Addr} {ok : Nat → Prop} {w : World} {xs : List (Int × Int)} (h : kp2.R e w base ok (.slice A n cap) xs) (i : Nat) (hi : i < xs.length) :
    ∃ g, A = some ⟨g, 0, none⟩ ∧ n = xs.length ∧ w.cell? ⟨g, i * 2, none⟩ = some (.int .i64 (xs.getD i (0, 0)).1) ∧ w.cell? ⟨g, i * 2 + 1, none⟩ = some (.int .i64 (xs.getD i (0, 0)).2) := by
  have hn := (Kd.R_reads' h).1
  subst hn
  obtain ⟨g, cap', e1, hg1, hg2, _⟩ := Kd.R_form h (by omega)
  injection e1 with e1 _ e3
  subst e1
  obtain ⟨ad, c, e2, hl, hK, hc⟩ := Kd.C_get (Kd.R_reads' h).2.2 ((0, 0) : Int × Int) (i : Int) (by omega) (by omega)
  cases e2
  rw [Int.toNat_natCast] at hK hc
  have hk := kp2_open hK
  subst hk
  have h0 := hc 0 _ rfl
  have h1 := hc 1 _ rfl
  simp only [show kp2.sz = 2 from rfl, add_at, Nat.zero_add, Nat.add_zero] at h0 h1
  exact ⟨g, rfl, rfl, h0, h1⟩
def impl_SpreadOf.way (n a b : Int) : Int := mn (mx (wrap64 (a - b)) (wrap64 (b - a))) (wrap64 (n - mx (wrap64 (a - b)) (wrap64 (b - a))))
def impl_SpreadOf.dist (n : Int) (p q : Int × Int) : Int := wrap64 (wrap64 (impl_SpreadOf.way n p.1 q.1 * impl_SpreadOf.way n p.1 q.1) + wrap64 (impl_SpreadOf.way n p.2 q.2 * impl_SpreadOf.way n p.2 q.2))
def impl_SpreadOf.row (c : Int) (l : List Int) (i k : Nat) : List (Int × Int) := (List.range k).filterMap fun (j : Nat) => if rd l (j : Int) < c then some ((i : Int), (j : Int)) else none
def impl_SpreadOf.pls (c : Int) (l : List (List Int)) (i : Nat) : List (Int × Int) := (List.range i).flatMap fun (a : Nat) => impl_SpreadOf.row c (rda l (a : Int)) a (rda l (a : Int)).length
def impl_SpreadOf.inner (n : Int) (xs : List (Int × Int)) (j i : Nat) (s : Int) : Int := (List.range i).foldl (fun s q => mn s (impl_SpreadOf.dist n (xs.getD j (0, 0)) (xs.getD q (0, 0)))) s
def impl_SpreadOf.outer (n : Int) (xs : List (Int × Int)) (j : Nat) (s : Int) : Int := (List.range j).foldl (fun s q => impl_SpreadOf.inner n xs q q s) s
def impl_SpreadOf.f (k : Nat) (l0 : List (List Int)) (a1 : Int) : Option (Int × Bool) := (impl_IsMask.f k l0).bind fun b => if b = true then (impl_within.f a1 2 (wrap64 ((l0.length : Int) * (l0.length : Int)))).bind fun c => if c = true then some (impl_SpreadOf.outer (l0.length : Int) (impl_SpreadOf.pls a1 l0 l0.length) (impl_SpreadOf.pls a1 l0 l0.length).length (wrap64 (wrap64 (2 * (l0.length : Int)) * (l0.length : Int))), true) else some (0, false) else some (0, false)
theorem impl_SpreadOf.mono : ∀ a0 a1 k, LeO (impl_SpreadOf.f k a0 a1) (impl_SpreadOf.f (k + 1) a0 a1) := by
  intro a0 a1 k
  unfold impl_SpreadOf.f
  exact LeO.bind (impl_IsMask.mono _ _) (fun _ => LeO.refl _)
theorem impl_SpreadOf.row_succ (c : Int) (l : List Int) (i k : Nat) : impl_SpreadOf.row c l i (k + 1) = if rd l (k : Int) < c then impl_SpreadOf.row c l i k ++ [((i : Int), (k : Int))] else impl_SpreadOf.row c l i k := by
  unfold impl_SpreadOf.row
  rw [List.range_succ, List.filterMap_append]
  by_cases h : rd l (k : Int) < c
  · simp [h]
  · simp [h]
theorem impl_SpreadOf.pls_succ (c : Int) (l : List (List Int)) (i : Nat) : impl_SpreadOf.pls c l (i + 1) = impl_SpreadOf.pls c l i ++ impl_SpreadOf.row c (rda l (i : Int)) i (rda l (i : Int)).length := by
  unfold impl_SpreadOf.pls
  rw [List.range_succ, List.flatMap_append]
  simp
theorem impl_SpreadOf.row_len (c : Int) (l : List Int) (i k : Nat) : (impl_SpreadOf.row c l i k).length ≤ k := by
  unfold impl_SpreadOf.row
  exact Nat.le_trans (List.length_filterMap_le _ _) (by simp)
theorem impl_SpreadOf.inner_succ (n : Int) (xs : List (Int × Int)) (j i : Nat) (s : Int) : impl_SpreadOf.inner n xs j (i + 1) s = mn (impl_SpreadOf.inner n xs j i s) (impl_SpreadOf.dist n (xs.getD j (0, 0)) (xs.getD i (0, 0))) := by
  unfold impl_SpreadOf.inner
  rw [List.range_succ, List.foldl_append]
  rfl
theorem impl_SpreadOf.inner_zero (n : Int) (xs : List (Int × Int)) (j : Nat) (s : Int) : impl_SpreadOf.inner n xs j 0 s = s := rfl
theorem impl_SpreadOf.outer_zero (n : Int) (xs : List (Int × Int)) (s : Int) : impl_SpreadOf.outer n xs 0 s = s := rfl
theorem impl_SpreadOf.outer_succ (n : Int) (xs : List (Int × Int)) (j : Nat) (s : Int) : impl_SpreadOf.outer n xs (j + 1) s = impl_SpreadOf.inner n xs j j (impl_SpreadOf.outer n xs j s) := by
  unfold impl_SpreadOf.outer
  rw [List.range_succ, List.foldl_append]
  rfl
theorem impl_SpreadOf.pls_len (c : Int) (n : Nat) (l : List (List Int)) (h : ∀ a : Nat, a < l.length → (rda l (a : Int)).length = n) : ∀ i, i ≤ l.length → (impl_SpreadOf.pls c l i).length ≤ i * n := by
  intro i
  induction i with
  | zero => intro _; simp [impl_SpreadOf.pls]
  | succ i ih =>
    intro hi
    rw [impl_SpreadOf.pls_succ, List.length_append, Nat.succ_mul]
    have h1 := ih (by omega)
    have h2 := impl_SpreadOf.row_len c (rda l (i : Int)) i (rda l (i : Int)).length
    rw [h i (by omega)] at h2
    rw [h i (by omega)]
    omega
theorem impl_IsMask.yes {k : Nat} {l : List (List Int)} (h : impl_IsMask.f k l = some true) : (1 ≤ l.length ∧ l.length ≤ 8) ∧ ∀ a : Nat, a < l.length → (rda l (a : Int)).length = l.length := by
  unfold impl_IsMask.f at h
  split at h
  · rename_i h1
    split at h
    · simp at h
    · rename_i h2
      refine ⟨h1, fun a ha => ?_⟩
      have h3 : l.any (impl_IsMask.p l.length) = false := by simpa using h2
      have h4 := List.any_eq_false.1 h3 _ (List.getElem_mem ha)
      unfold impl_IsMask.p at h4
      unfold rda
      rw [Int.toNat_natCast, List.getD_eq_getElem?_getD, List.getElem?_eq_getElem ha]
      simpa using h4
  · simp at h
set_option maxHeartbeats 2000000 in
theorem impl_SpreadOf.ways (n b6 : Nat) (a b : Int) (w : World) (hc : w.cell? ⟨b6, 0, none⟩ = some (.int .i64 n)) : Calls Try.prog 88 #[.int .i64 a, .int .i64 b, .pointer (some ⟨b6, 0, none⟩)] w fun e w' => e = .returned (.int .i64 (impl_SpreadOf.way n a b)) ∧ w = w' := by
  go_enter Try.func88, Try.ntmps88
  go_wp2
  all_goals
    go_ret
    refine ⟨congrArg (fun z => Ending.returned (.int .i64 z)) ?_, rfl⟩
    show _ = impl_SpreadOf.way n a b
    unfold impl_SpreadOf.way mx mn
    generalize wrap64 (a - b) = u at *
    generalize wrap64 (b - a) = v at *
    first
      | (have c : u < v := by assumption
         simp only [if_pos c] at *
         first
           | rw [if_pos (by assumption)]
           | rw [if_neg (by omega)])
      | (have c : ¬ u < v := by omega
         simp only [if_neg c] at *
         first
           | rw [if_pos (by assumption)]
           | rw [if_neg (by omega)])
set_option maxHeartbeats 8000000 in
set_option maxRecDepth 100000 in
theorem impl_SpreadOf.calls (k : Nat) (A0 : Option Addr) (c0 : Nat) (l0 : List (List Int)) (a1 : Int) (r1 : Int) (r2 : Bool) (w : World) (hr0 : Kd.C (Kd.slice 2 (Kd.int .i64)) w A0 l0.length l0) (hc0 : l0.length ≤ c0) (h : impl_SpreadOf.f k l0 a1 = some (r1, r2)) :
    Calls Try.prog 37 #[.slice A0 l0.length c0, .int .i64 a1] w fun e w' => e = .returned (.tuple #[.int .i64 r1, .bool r2]) ∧ Below w.heap.size w w' := by
  have HR := Aside0.mk hr0
  have HC0 := Aside0.mk hc0
  have hbig : l0.length ≤ 9223372036854775807 := hr0.2.1
  have HBIG := Aside0.mk hbig
  have H := h
  clear h hr0 hc0 hbig
  unfold impl_SpreadOf.f at H
  replace H := Option.bind_eq_some_iff.mp H
  obtain ⟨b, A1, H⟩ := H
  have A10 := Aside0.mk A1
  by_cases q1 : b = true
  · subst q1
    rw [if_pos rfl] at H
    replace H := Option.bind_eq_some_iff.mp H
    obtain ⟨c, A2, H⟩ := H
    have A20 := Aside0.mk A2
    have YES := Aside0.mk (impl_IsMask.yes A1)
    clear A1 A2
    by_cases q2 : c = true
    · subst q2
      rw [if_pos rfl] at H
      have H2 := Option.some.inj H
      injection H2 with h1 h2
      subst h2
      have R1 := Aside0.mk h1
      clear H h1
      have hci := (show (Try.prog.info? 103).map (fun i => (i.zero, i.size, i.bytes)) = some (some (.agg #[.int .i64 0, .int .i64 0]), 2, 16) from by kernel_rfl)
      have HCI := Aside0.mk hci
      clear hci
      go_enter Try.func37, Try.ntmps37
      go_wp2_with (first
        | (go_at_call 68; refine (impl_size_int64_68.calls A0 c0 l0 _ _ (Kd.C_below HR.out (by repeat (first | exact Below.refl _ _ | apply pw_below_drewN))) HC0.out rfl).mono ?_; rintro e w1 ⟨rfl, hd⟩; have HB1 := Aside0.mk hd.below; clear hd)
        | (go_at_call 35; refine (impl_IsMask.calls k A0 c0 l0 true _ (Kd.C_below HR.out (below_alloc HB1.out _)) HC0.out A10.out).mono ?_; rintro e w2 ⟨rfl, hb⟩; have hc2 : w2.cell? ⟨w1.heap.size, 0, none⟩ = some (.int .i64 l0.length) := (by rw [Below.cell hb (by simp)]; simp); have HB2 : Aside0 (Below w.heap.size w w2) := ⟨below_step (below_alloc HB1.out _) hb⟩; have HZ2 : Aside0 (w1.heap.size < w2.heap.size) := ⟨by have := hb.size; simp at this; omega⟩; clear hb)
        | (go_at_call 60; refine (impl_within.calls _ _ _ true _ (by with_reducible exact A20.out)).mono ?_; rintro e w3 ⟨rfl, hd⟩; have hc3 := pw_cell_below hd.below hc2; have HB3 : Aside0 (Below w.heap.size w w3) := ⟨below_step HB2.out hd.below⟩; have HZ3 : Aside0 (w1.heap.size < w3.heap.size) := ⟨by have := hd.below.size; have := HZ2.out; omega⟩; clear hd hc2)
        | ((with_reducible refine gate_dst (N := 33) rfl ?_); refine Kd.R_lit kp2 w.heap.size 103 ?hg (N := 33) ?hd (xs := ([] : List (Int × Int))) (inner := []) (ok := fun k_ => k_ ≠ w1.heap.size) (okp := fun _ => False) ?hr (Reps.none _ _) (fun _ hk => hk.elim) (by have := HZ3.out; omega) HB3.out HB3.out.size (by simp) ?_; (case hd => rfl); (case hg => rfl); (case hr => first | (go_simp; done) | (go_simp; rfl)); intro v4 w4 hr4 hb4 hg4 hn4; have HP := Aside0.mk hr4; have HB4 := Aside0.mk hb4; have hc4 := cell_grown hg4 hc3 (by simp); have HZ4 : Aside0 (w1.heap.size < w4.heap.size) := ⟨by have := hg4.size; have := HZ3.out; omega⟩; have HGE : Aside0 (w.heap.size ≤ w1.heap.size) := ⟨HB1.out.size⟩; clear hr4 hb4 hg4 hn4 hc3))
      clear A10 A20 HB1 HB2 HZ2 HB3 HZ3
      have HC4 := Aside0.mk hc4
      clear hc4
      obtain ⟨b6, hb6⟩ : ∃ b_ : Nat, w1.heap.size = b_ := ⟨_, rfl⟩
      rw [hb6] at HP HC4 HZ4 HGE ⊢
      clear hb6
      have hl8 : l0.length ≤ 8 := YES.out.1.2
      have HL8 := Aside0.mk hl8
      clear hl8
      go_loopg [7, 36] l0.length (fun gg v7 v36 wr => ∃ i : Nat, i ≤ l0.length ∧ l0.length - i ≤ gg ∧ v36 = .int .i64 i ∧ Aside0 (Kd.R kp2 103 wr w.heap.size (fun k_ => k_ ≠ b6) v7 (impl_SpreadOf.pls a1 l0 i)) ∧ Aside0 (wr.cell? ⟨b6, 0, none⟩ = some (.int .i64 l0.length)) ∧ Aside0 (b6 < wr.heap.size) ∧ Aside0 (Below w.heap.size w wr))
      case atStart => exact ⟨0, Nat.zero_le _, by omega, rfl, HP, HC4, HZ4, HB4⟩
      case round =>
        clear HP HC4 HZ4 HB4
        obtain ⟨i, hi, hg, rfl, HP, HC4, HZ4, HB4⟩ := hrel
        by_cases hlt : i < l0.length
        · have hltz : (i : Int) < (l0.length : Int) := by omega
          obtain ⟨ad, Ar, cr, e1, hx, hl, hcr⟩ := at_rda HR.out (i : Int) (by omega) hltz
          cases e1
          replace hx := (HB4.out.cell (World.block_lt_of_cell? w _ hx)).trans hx
          rw [Int.toNat_natCast] at hx
          have HI := Aside0.mk hcr
          have hrl := YES.out.2 i hlt
          have HRL := Aside0.mk hrl
          clear hl hcr hrl
          go_wp2
          go_loopg [7, 43] l0.length (fun gg v7 v43 wr => ∃ j : Nat, j ≤ l0.length ∧ l0.length - j ≤ gg ∧ v43 = .int .i64 j ∧ Aside0 (Kd.R kp2 103 wr w.heap.size (fun k_ => k_ ≠ b6) v7 (impl_SpreadOf.pls a1 l0 i ++ impl_SpreadOf.row a1 (rda l0 (i : Int)) i j)) ∧ Aside0 (wr.cell? ⟨b6, 0, none⟩ = some (.int .i64 l0.length)) ∧ Aside0 (b6 < wr.heap.size) ∧ Aside0 (Below w.heap.size w wr))
          case atStart => exact ⟨0, Nat.zero_le _, by omega, rfl, by rw [show impl_SpreadOf.row a1 (rda l0 (i : Int)) i 0 = [] from rfl, List.append_nil]; exact HP, HC4, HZ4, HB4⟩
          case round =>
            clear HP HC4 HZ4 HB4 hx
            obtain ⟨j, hj, hg2, rfl, HP, HC4, HZ4, HB4⟩ := hrel
            by_cases hlt2 : j < l0.length
            · have hltz2 : (j : Int) < ((rda l0 (i : Int)).length : Int) := by have := HRL.out; omega
              obtain ⟨adr, er, hr⟩ := Kd.at_int HI.out (j : Int) (by omega) hltz2
              cases er
              replace hr := (HB4.out.cell (World.block_lt_of_cell? w _ hr)).trans hr
              rw [Int.toNat_natCast] at hr
              have hcap : (impl_SpreadOf.pls a1 l0 i ++ impl_SpreadOf.row a1 (rda l0 (i : Int)) i j).length ≤ 64 := by
                rw [List.length_append]
                have g1 := impl_SpreadOf.pls_len a1 l0.length l0 YES.out.2 i (by omega)
                have g2 := impl_SpreadOf.row_len a1 (rda l0 (i : Int)) i j
                have g3 : (i + 1) * l0.length ≤ 8 * 8 := Nat.mul_le_mul (by have := HL8.out; omega) HL8.out
                rw [Nat.succ_mul] at g3
                omega
              have HCAP := Aside0.mk hcap
              have hj9 : (j : Int) ≤ 8 := by have := HL8.out; omega
              have hrs := impl_SpreadOf.row_succ a1 (rda l0 (i : Int)) i j
              by_cases hc : rd (rda l0 (i : Int)) (j : Int) < a1
              · rw [if_pos hc] at hrs
                have HRS := Aside0.mk hrs
                have hcd : decide (rd (rda l0 (i : Int)) (j : Int) < a1) = true := decide_eq_true hc
                clear hcap hrs hc
                go_wp2_with ((with_reducible refine gate_builtin (b := .append) (xs := #[.tmp 51, .tmp 55]) rfl ?_); at_builtin; refine Kd.R_append kp2 w.heap.size rfl (.tmp 51) (.tmp 55) 102 103 (.agg #[.int .i64 0, .int .i64 0]) 16 rfl Try.underlying102 HCI.out rfl (by decide) (by decide) _ (impl_SpreadOf.pls a1 l0 i ++ impl_SpreadOf.row a1 (rda l0 (i : Int)) i j) ((i : Int), (j : Int)) [.int .i64 i, .int .i64 j] (fun k_ => k_ ≠ b6) (fun _ => False) rfl (by first | (go_simp; done) | (go_simp; rfl)) (kp2_mkM _ _ _ ((i : Int), (j : Int))) (fun _ hk => hk.elim) (fun k_ hk => by have := HZ4.out; omega) HP.out HB4.out HB4.out.size (by have := HCAP.out; omega) ?_; intro v5 w5 ho hb hg5 hat; rw [List.append_assoc, ← HRS.out] at ho; have HP5 := Aside0.mk ho; have HB5 := Aside0.mk hb; have HC5 := Aside0.mk (cell_grown hg5 HC4.out (fun e_ => HP.out.1 b6 e_.symm rfl)); have HZ5 : Aside0 (b6 < w5.heap.size) := ⟨by have := hg5.size; have := HZ4.out; omega⟩; clear ho hb hg5 hat)
                go_roundg (l0.length - (j + 1))
                case measure => omega
                case rel => exact ⟨j + 1, by omega, by omega, by go_num, HP5, HC5, HZ5, HB5⟩
              · rw [if_neg hc] at hrs
                have HRS := Aside0.mk hrs
                have hcd : decide (rd (rda l0 (i : Int)) (j : Int) < a1) = false := decide_eq_false hc
                clear hcap hrs hc
                go_wp2
                go_roundg (l0.length - (j + 1))
                case measure => omega
                case rel => exact ⟨j + 1, by omega, by omega, by go_num, by rw [HRS.out]; exact HP, HC4, HZ4, HB4⟩
            · have hjn : j = l0.length := by omega
              have hge : ¬ (j : Int) < ((rda l0 (i : Int)).length : Int) := by have := HRL.out; omega
              have hcd : decide (j < (rda l0 (i : Int)).length) = false := decide_eq_false (by omega)
              have hi9 : (i : Int) ≤ 8 := by have := HL8.out; omega
              have HPS := Aside0.mk (impl_SpreadOf.pls_succ a1 l0 i)
              have HJN := Aside0.mk hjn
              clear hlt2 hge hjn
              go_wp2
              go_roundg (l0.length - (i + 1))
              case measure => omega
              case rel => exact ⟨i + 1, by omega, by omega, by go_num, by rw [HPS.out, HRL.out, ← HJN.out]; exact HP, HC4, HZ4, HB4⟩
        · have hin : i = l0.length := by omega
          subst hin
          obtain ⟨PL, hPL⟩ : ∃ l_, impl_SpreadOf.pls a1 l0 l0.length = l_ := ⟨_, rfl⟩
          have hpl : PL.length ≤ 64 := by
            rw [← hPL]
            have g1 := impl_SpreadOf.pls_len a1 l0.length l0 YES.out.2 l0.length (by omega)
            have g3 : l0.length * l0.length ≤ 8 * 8 := Nat.mul_le_mul HL8.out HL8.out
            omega
          rw [hPL] at HP R1
          have HPL := Aside0.mk hpl
          clear hPL hpl
          obtain ⟨Ap, cp, ep⟩ := Kd.R_slice HP.out
          subst ep
          have hpc := (Kd.R_reads' HP.out).2.1
          have hc6 := HC4.out
          obtain ⟨w0, rfl⟩ : ∃ w_ : World, w_ = wr := ⟨_, rfl⟩
          have HX := Aside0.mk hpc
          clear hpc
          go_wp2
          have HRB := Aside0.mk (Below.refl w0.heap.size w0)
          go_loopg [13, 66] PL.length (fun gg v13 v66 wr => ∃ j : Nat, j ≤ PL.length ∧ PL.length - j ≤ gg ∧ v66 = .int .i64 j ∧ v13 = .int .i64 (impl_SpreadOf.outer (l0.length : Int) PL j (wrap64 (wrap64 (2 * (l0.length : Int)) * (l0.length : Int)))) ∧ Aside0 (Below w0.heap.size w0 wr))
          case atStart => exact ⟨0, Nat.zero_le _, by omega, rfl, by rw [impl_SpreadOf.outer_zero], HRB⟩
          case round =>
            clear HRB hc6
            obtain ⟨j, hj, hg, rfl, rfl, HW⟩ := hrel
            by_cases hlt : j < PL.length
            · have hj9 : (j : Int) ≤ 64 := by have := HPL.out; omega
              obtain ⟨g, eA, _, hp0, hp1⟩ := kp2_at HP.out j hlt
              subst eA
              replace hp0 := (HW.out.cell (World.block_lt_of_cell? w0 _ hp0)).trans hp0
              replace hp1 := (HW.out.cell (World.block_lt_of_cell? w0 _ hp1)).trans hp1
              have hltz : (j : Int) < (PL.length : Int) := by omega
              generalize hP : PL.getD j (0, 0) = P at hp0 hp1
              have HPj := Aside0.mk hP
              have hos := Aside0.mk (impl_SpreadOf.outer_succ (l0.length : Int) PL j (wrap64 (wrap64 (2 * (l0.length : Int)) * (l0.length : Int))))
              generalize hS : impl_SpreadOf.outer (l0.length : Int) PL j (wrap64 (wrap64 (2 * (l0.length : Int)) * (l0.length : Int))) = S at hos ⊢
              obtain ⟨i0, hi0, hz0⟩ := Option.map_eq_some_iff.1 HCI.out
              have hcut := cut_to (P := Try.prog) 102 103 .i64 Try.underlying102 hi0 (some ⟨g, 0, none⟩) PL.length cp (j : Int) (by omega) (by omega) HX.out
              rw [Int.toNat_natCast] at hcut
              clear hP hS hi0 hz0
              go_wp2
              obtain ⟨w5, hw5⟩ : ∃ w_ : World, wr.alloc (.cells #[.int .i64 P.1, .int .i64 P.2] 103 (0, 0)) = w_ := ⟨_, rfl⟩
              have hpz0 : w5.cell? ⟨wr.heap.size, 0, none⟩ = some (.int .i64 P.1) := by rw [← hw5]; simp
              have hpz1 : w5.cell? ⟨wr.heap.size, 1, none⟩ = some (.int .i64 P.2) := by rw [← hw5]; simp
              have HW5 : Aside0 (Below w0.heap.size w0 w5) := ⟨by rw [← hw5]; exact below_alloc HW.out _⟩
              have HPZ0 := Aside0.mk hpz0
              have HPZ1 := Aside0.mk hpz1
              rw [hw5]
              clear hw5 hpz0 hpz1 hcut hp0 hp1
              generalize wr.heap.size = bp at HPZ0 HPZ1 ⊢
              have HRB := Aside0.mk (Below.refl w5.heap.size w5)
              go_loopg [13, 75] PL.length (fun gg v13 v75 wr => ∃ i : Nat, i ≤ j ∧ j - i ≤ gg ∧ v75 = .int .i64 i ∧ v13 = .int .i64 (impl_SpreadOf.inner (l0.length : Int) PL j i S) ∧ Aside0 (Below w5.heap.size w5 wr))
              case atStart => exact ⟨0, Nat.zero_le _, by omega, rfl, by rw [impl_SpreadOf.inner_zero], HRB⟩
              case round =>
                clear HRB HW
                obtain ⟨i, hi, hg2, rfl, rfl, HW⟩ := hrel
                by_cases hlt2 : i < j
                · have hi9 : (i : Int) ≤ 64 := by omega
                  have HW0 := Aside0.mk (below_step HW5.out HW.out)
                  obtain ⟨g', eA, _, hq0, hq1⟩ := kp2_at HP.out i (by omega)
                  cases eA
                  replace hq0 := (HW0.out.cell (World.block_lt_of_cell? w0 _ hq0)).trans hq0
                  replace hq1 := (HW0.out.cell (World.block_lt_of_cell? w0 _ hq1)).trans hq1
                  have hp0 := (HW.out.cell (World.block_lt_of_cell? w5 _ HPZ0.out)).trans HPZ0.out
                  have hp1 := (HW.out.cell (World.block_lt_of_cell? w5 _ HPZ1.out)).trans HPZ1.out
                  have hcw := (HW0.out.cell (World.block_lt_of_cell? w0 _ HC4.out)).trans HC4.out
                  have hltz2 : (i : Int) < (j : Int) := by omega
                  have his := impl_SpreadOf.inner_succ (l0.length : Int) PL j i S
                  rw [HPj.out] at his
                  generalize hQ : PL.getD i (0, 0) = Qq at hq0 hq1 his
                  have HIS := Aside0.mk his
                  generalize hS2 : impl_SpreadOf.inner (l0.length : Int) PL j i S = S2 at HIS ⊢
                  have HBP := Aside0.mk (World.block_lt_of_cell? wr _ hp0)
                  have HCW := Aside0.mk hcw
                  clear hQ hS2 his hcw
                  go_wp2
                  obtain ⟨w6, hw6⟩ : ∃ w_ : World, wr.alloc (.cells #[.int .i64 Qq.1, .int .i64 Qq.2] 103 (0, 0)) = w_ := ⟨_, rfl⟩
                  have HB6 : Aside0 (Below wr.heap.size wr w6) := ⟨by rw [← hw6]; exact below_alloc (Below.refl _ _) _⟩
                  have hqz0 : w6.cell? ⟨wr.heap.size, 0, none⟩ = some (.int .i64 Qq.1) := by rw [← hw6]; simp
                  have hqz1 : w6.cell? ⟨wr.heap.size, 1, none⟩ = some (.int .i64 Qq.2) := by rw [← hw6]; simp
                  have HP0 := (pw_cell_below HB6.out hp0)
                  have HP1 := (pw_cell_below HB6.out hp1)
                  have HCW6 := Aside0.mk (pw_cell_below HB6.out HCW.out)
                  rw [hw6]
                  clear hw6 hp0 hp1 hq0 hq1
                  generalize wr.heap.size = bq at hqz0 hqz1 ⊢
                  go_quiet ((exact Calls.quiet_of_same ((impl_SpreadOf.ways l0.length b6 _ _ _ (by first | exact HCW6.out | exact pw_cell_below (pw_below_drewN (Below.refl _ _) _) HCW6.out)).mono (fun e w' h => ⟨h.1, h.2.symm⟩))))
                  go_wp2
                  all_goals
                    go_roundg (j - (i + 1))
                    case measure => omega
                    case rel =>
                      refine ⟨i + 1, by omega, by omega, by go_num, ?_, ⟨pw_below_drewN (below_step HW.out HB6.out) _⟩⟩
                      rw [HIS.out]
                      unfold mn impl_SpreadOf.dist
                      first
                        | rw [if_pos (by assumption)]
                        | rw [if_neg (by omega)]
                · have hij : i = j := by omega
                  subst hij
                  have hcd : decide (i < i) = false := decide_eq_false (by omega)
                  clear hlt2
                  go_wp2
                  go_roundg (PL.length - (i + 1))
                  case measure => omega
                  case rel => exact ⟨i + 1, by omega, by omega, by go_num, by rw [hos.out], ⟨below_step HW5.out HW.out⟩⟩
            · have hjn : j = PL.length := by omega
              subst hjn
              rw [R1.out]
              have HWW := Aside0.mk (below_step HB4.out HW.out)
              go_wp2
              go_ret2
              exact ⟨rfl, by repeat (first | exact HWW.out | apply pw_below_drewN)⟩
    · have q2' : c = false := by simpa using q2
      subst q2'
      have H2 := Option.some.inj H
      injection H2 with h1 h2
      subst h1
      subst h2
      clear H q2
      go_enter Try.func37, Try.ntmps37
      go_wp2_with (first
        | (go_at_call 68; refine (impl_size_int64_68.calls A0 c0 l0 _ _ (Kd.C_below HR.out (by repeat (first | exact Below.refl _ _ | apply pw_below_drewN))) HC0.out rfl).mono ?_; rintro e w1 ⟨rfl, hd⟩; have HB1 := Aside0.mk hd.below; clear hd)
        | (go_at_call 35; refine (impl_IsMask.calls k A0 c0 l0 true _ (Kd.C_below HR.out (below_alloc HB1.out _)) HC0.out A10.out).mono ?_; rintro e w2 ⟨rfl, hb⟩; have hc2 : w2.cell? ⟨w1.heap.size, 0, none⟩ = some (.int .i64 l0.length) := (by rw [Below.cell hb (by simp)]; simp); have HB2 : Aside0 (Below w.heap.size w w2) := ⟨below_step (below_alloc HB1.out _) hb⟩; clear hb)
        | (go_at_call 60; refine (impl_within.calls _ _ _ false _ (by with_reducible exact A20.out)).mono ?_; rintro e w3 ⟨rfl, hd⟩; have HB3 : Aside0 (Below w.heap.size w w3) := ⟨below_step HB2.out hd.below⟩; clear hd))
      go_ret2
      exact ⟨rfl, by repeat (first | exact HB3.out | apply pw_below_drewN)⟩
  · have q1' : b = false := by simpa using q1
    subst q1'
    have H2 := Option.some.inj H
    injection H2 with h1 h2
    subst h1
    subst h2
    clear H q1 A1
    go_enter Try.func37, Try.ntmps37
    go_wp2_with (first
      | (go_at_call 68; refine (impl_size_int64_68.calls A0 c0 l0 _ _ (Kd.C_below HR.out (by repeat (first | exact Below.refl _ _ | apply pw_below_drewN))) HC0.out rfl).mono ?_; rintro e w1 ⟨rfl, hd⟩; have HB1 := Aside0.mk hd.below; clear hd)
      | (go_at_call 35; refine (impl_IsMask.calls k A0 c0 l0 false _ (Kd.C_below HR.out (below_alloc HB1.out _)) HC0.out A10.out).mono ?_; rintro e w2 ⟨rfl, hb⟩; have HB2 : Aside0 (Below w.heap.size w w2) := ⟨below_step (below_alloc HB1.out _) hb⟩; clear hb))
    go_ret2
    exact ⟨rfl, by repeat (first | exact HB2.out | apply pw_below_drewN)⟩
end Go.Proofs.Ytckonklpdepgoaa.Q
namespace Go.Proofs.Ytckonklpdepgoaa.Q
open Go.RowKit Go.Proofs.YtckonklpdepgoaaW.PrintWords Go.Proofs.YtckonklpdepgoaaW.PrintLast Go.Proofs.YtckonklpdepgoaaW.PrintMore
attribute [local go_sem] max2_int min2_int max_two min_two max_three min_three max_four min_four   -- for this text's walks alone
set_option linter.unusedVariables false
set_option linter.unusedSimpArgs false
def laws_FnExactSpreadOf.j0 : Nat → List (List Int) → List (List Int) → Bool → Option (Bool)
 | 0, _, _, _ => none
 | k + 1, x0, x8, x38 => if x38 = true then (some false) else ((laws_toInt64SS.f k x0).bind fun t472 => ((laws_eqInt64SS.f k x8 t472).bind fun t475 => (if t475 = true then (some true) else (some false))))
def laws_FnExactSpreadOf.f (k : Nat) (l0 : List (List Int)) (a1 : Int) : Option (Bool) := (laws_szInt64SS.f k l0 1048576).bind fun t461 => (if t461 < 0 then (some true) else ((laws_toInt64SS.f k l0).bind fun t462 => ((spec_SpreadOf.f k t462 a1).bind fun bt465 => ((laws_toInt64SS.f k l0).bind fun t467 => ((impl_SpreadOf.f k t467 a1).bind fun bt470 => (if bt470.1 = bt465.1 then (laws_FnExactSpreadOf.j0 k l0 t467 (bt470.2 != bt465.2)) else (laws_FnExactSpreadOf.j0 k l0 t467 true)))))))
theorem laws_FnExactSpreadOf.mono_l : ∀ k, (∀ y0 y1 y2, LeO (laws_FnExactSpreadOf.j0 k y0 y1 y2) (laws_FnExactSpreadOf.j0 (k + 1) y0 y1 y2))
 | 0 => fun _ _ _ r h => by simp [laws_FnExactSpreadOf.j0] at h
 | k + 1 => by
  have ih0 := laws_FnExactSpreadOf.mono_l k
  ·intro y0 y1 y2
   unfold laws_FnExactSpreadOf.j0
   repeat' first
   | (with_reducible exact ih0 _ _ _)
   | (with_reducible exact impl_SpreadOf.mono _ _ _)
   | (with_reducible exact laws_eqInt64SS.mono _ _ _)
   | (with_reducible exact laws_szInt64SS.mono _ _ _)
   | (with_reducible exact laws_toInt64SS.mono _ _)
   | (with_reducible exact spec_SpreadOf.mono _ _ _)
   | (with_reducible exact LeO.refl _)
   | (with_reducible exact LeO.none _)
   | (with_reducible refine LeO.ite ?_ ?_)
   | (with_reducible refine LeO.bind ?_ (fun _ => ?_))
   | exact ih0 _ _ _
   | exact impl_SpreadOf.mono _ _ _
   | exact laws_eqInt64SS.mono _ _ _
   | exact laws_szInt64SS.mono _ _ _
   | exact laws_toInt64SS.mono _ _
   | exact spec_SpreadOf.mono _ _ _
   | exact LeO.none _
   | refine LeO.ite ?_ ?_
   | refine LeO.bind ?_ (fun _ => ?_)
theorem laws_FnExactSpreadOf.mono : ∀ a0 a1 k, LeO (laws_FnExactSpreadOf.f k a0 a1) (laws_FnExactSpreadOf.f (k + 1) a0 a1) := by
 intro a0 a1 k
 have ih0 := laws_FnExactSpreadOf.mono_l k
 unfold laws_FnExactSpreadOf.f
 repeat' first
   | (with_reducible exact ih0 _ _ _)
   | (with_reducible exact impl_SpreadOf.mono _ _ _)
   | (with_reducible exact laws_eqInt64SS.mono _ _ _)
   | (with_reducible exact laws_szInt64SS.mono _ _ _)
   | (with_reducible exact laws_toInt64SS.mono _ _)
   | (with_reducible exact spec_SpreadOf.mono _ _ _)
   | (with_reducible exact LeO.refl _)
   | (with_reducible exact LeO.none _)
   | (with_reducible refine LeO.ite ?_ ?_)
   | (with_reducible refine LeO.bind ?_ (fun _ => ?_))
   | exact ih0 _ _ _
   | exact impl_SpreadOf.mono _ _ _
   | exact laws_eqInt64SS.mono _ _ _
   | exact laws_szInt64SS.mono _ _ _
   | exact laws_toInt64SS.mono _ _
   | exact spec_SpreadOf.mono _ _ _
   | exact LeO.none _
   | refine LeO.ite ?_ ?_
   | refine LeO.bind ?_ (fun _ => ?_)
set_option maxHeartbeats 8000000 in
set_option maxRecDepth 100000 in
theorem laws_FnExactSpreadOf.calls (k : Nat) (A0 : Option Addr) (c0 : Nat) (l0 : List (List Int)) (a1 : Int) (r : Bool) (w : World) (hr0 : Kd.C (Kd.slice 2 (Kd.int .i64)) w A0 l0.length l0) (hc0 : l0.length ≤ c0) (h : laws_FnExactSpreadOf.f k l0 a1 = some r) :
  Calls Try.prog 8 #[.slice A0 l0.length c0, .int .i64 a1] w fun e w' => e = .returned (.bool r) ∧ Below w.heap.size w w' := by
 have HR0 := Aside0.mk hr0
 have HC0 := Aside0.mk hc0
 clear hr0 hc0
 have HB := Aside0.mk (Below.refl w.heap.size w)
 have H : ((laws_szInt64SS.f k l0 1048576).bind fun t461 => (if t461 < 0 then (some true) else ((laws_toInt64SS.f k l0).bind fun t462 => ((spec_SpreadOf.f k t462 a1).bind fun bt465 => ((laws_toInt64SS.f k l0).bind fun t467 => ((impl_SpreadOf.f k t467 a1).bind fun bt470 => (if bt470.1 = bt465.1 then (laws_FnExactSpreadOf.j0 k l0 t467 (bt470.2 != bt465.2)) else (laws_FnExactSpreadOf.j0 k l0 t467 true)))))))) = some r := h
 clear h
 replace H := Option.bind_eq_some_iff.mp H
 obtain ⟨t461, A30, H⟩ := H
 replace H : (if t461 < 0 then (some true) else ((laws_toInt64SS.f k l0).bind fun t462 => ((spec_SpreadOf.f k t462 a1).bind fun bt465 => ((laws_toInt64SS.f k l0).bind fun t467 => ((impl_SpreadOf.f k t467 a1).bind fun bt470 => (if bt470.1 = bt465.1 then (laws_FnExactSpreadOf.j0 k l0 t467 (bt470.2 != bt465.2)) else (laws_FnExactSpreadOf.j0 k l0 t467 true))))))) = some r := H
 have A3 := Aside0.mk A30
 clear A30
 by_cases c4 : t461 < 0
 ·rw [if_pos c4] at H
  have c4b0 : decide (t461 < 0) = true := decide_eq_true c4
  clear c4
  obtain rfl := Option.some.inj H
  go_enter Try.func8, Try.ntmps8
  go_wp2_with (first | ((with_reducible refine gate_callee (f := 32) rfl ?_); refine goesL_ (some 13) rfl rfl Try.func32 (by kernel_rfl) rfl #[.slice A0 l0.length c0, .int .i64 1048576] rfl (by (try simp only [List.map_toArray, List.map_cons, List.map_nil]); first | done | rfl | (simp only [List.length_drop, List.length_take]; rfl) | (simp only [show ∀ (n_ : Nat) (b_ : Int), Int.tdiv (n_ : Int) b_ = (n_ : Int) / b_ from fun n_ b_ => Int.tdiv_eq_ediv_of_nonneg (Int.natCast_nonneg n_)]; rfl)) ?_; (with_reducible refine (laws_szInt64SS.calls k _ _ l0 1048576 t461 _ ?side1 ?side2 A3.out).mono ?_); (case side1 => repeat (first | exact HR0.out | (with_reducible refine Kd.C_alloc ?_ _) | (with_reducible refine Kd.C_drewN ?_ _) | (with_reducible refine Kd.C_drew ?_))); (case side2 => exact HC0.out); rintro e w' ⟨rfl, ⟨nd, rfl⟩⟩; refine ⟨_, rfl, ?_⟩))
  go_ret
  exact ⟨by first | rfl | (simp [errW_none, errW_some] <;> rfl) | (simp [*, errW_none, errW_some] <;> rfl), by repeat (first | (with_reducible first | exact HB.out | apply below_alloc | apply pw_below_drewN | apply below_drew1) | exact HB.out)⟩
 ·rw [if_neg c4] at H
  have c4b0 : decide (t461 < 0) = false := decide_eq_false c4
  clear c4
  replace H := Option.bind_eq_some_iff.mp H
  obtain ⟨t462, A50, H⟩ := H
  replace H : ((spec_SpreadOf.f k t462 a1).bind fun bt465 => ((laws_toInt64SS.f k l0).bind fun t467 => ((impl_SpreadOf.f k t467 a1).bind fun bt470 => (if bt470.1 = bt465.1 then (laws_FnExactSpreadOf.j0 k l0 t467 (bt470.2 != bt465.2)) else (laws_FnExactSpreadOf.j0 k l0 t467 true))))) = some r := H
  have A5 := Aside0.mk A50
  clear A50
  replace H := Option.bind_eq_some_iff.mp H
  obtain ⟨⟨t465, t466⟩, A60, H⟩ := H
  replace H : ((laws_toInt64SS.f k l0).bind fun t467 => ((impl_SpreadOf.f k t467 a1).bind fun bt470 => (if bt470.1 = t465 then (laws_FnExactSpreadOf.j0 k l0 t467 (bt470.2 != t466)) else (laws_FnExactSpreadOf.j0 k l0 t467 true)))) = some r := H
  have A6 := Aside0.mk A60
  clear A60
  replace H := Option.bind_eq_some_iff.mp H
  obtain ⟨t467, A70, H⟩ := H
  replace H : ((impl_SpreadOf.f k t467 a1).bind fun bt470 => (if bt470.1 = t465 then (laws_FnExactSpreadOf.j0 k l0 t467 (bt470.2 != t466)) else (laws_FnExactSpreadOf.j0 k l0 t467 true))) = some r := H
  have A7 := Aside0.mk A70
  clear A70
  replace H := Option.bind_eq_some_iff.mp H
  obtain ⟨⟨t470, t471⟩, A80, H⟩ := H
  replace H : (if t470 = t465 then (laws_FnExactSpreadOf.j0 k l0 t467 (t471 != t466)) else (laws_FnExactSpreadOf.j0 k l0 t467 true)) = some r := H
  have A8 := Aside0.mk A80
  clear A80
  have HC9 := Aside0.mk H
  clear H
  go_enter Try.func8, Try.ntmps8
  go_upto_region 8 with (first | ((with_reducible refine gate_callee (f := 32) rfl ?_); refine goesL_ (some 13) rfl rfl Try.func32 (by kernel_rfl) rfl #[.slice A0 l0.length c0, .int .i64 1048576] rfl (by (try simp only [List.map_toArray, List.map_cons, List.map_nil]); first | done | rfl | (simp only [List.length_drop, List.length_take]; rfl) | (simp only [show ∀ (n_ : Nat) (b_ : Int), Int.tdiv (n_ : Int) b_ = (n_ : Int) / b_ from fun n_ b_ => Int.tdiv_eq_ediv_of_nonneg (Int.natCast_nonneg n_)]; rfl)) ?_; (with_reducible refine (laws_szInt64SS.calls k _ _ l0 1048576 t461 _ ?side1 ?side2 A3.out).mono ?_); (case side1 => repeat (first | exact HR0.out | (with_reducible refine Kd.C_alloc ?_ _) | (with_reducible refine Kd.C_drewN ?_ _) | (with_reducible refine Kd.C_drew ?_))); (case side2 => exact HC0.out); rintro e w' ⟨rfl, ⟨nd, rfl⟩⟩; refine ⟨_, rfl, ?_⟩) | ((with_reducible refine gate_callee (f := 34) rfl ?_); refine goesL_ (some 18) rfl rfl Try.func34 (by kernel_rfl) rfl #[.slice A0 l0.length c0] rfl (by (try simp only [List.map_toArray, List.map_cons, List.map_nil]); first | done | rfl | (simp only [List.length_drop, List.length_take]; rfl) | (simp only [show ∀ (n_ : Nat) (b_ : Int), Int.tdiv (n_ : Int) b_ = (n_ : Int) / b_ from fun n_ b_ => Int.tdiv_eq_ediv_of_nonneg (Int.natCast_nonneg n_)]; rfl)) ?_; (with_reducible refine (laws_toInt64SS.calls k _ _ l0 t462 _ ?side1 ?side2 A5.out).mono ?_); (case side1 => repeat (first | exact HR0.out | (with_reducible refine Kd.C_alloc ?_ _) | (with_reducible refine Kd.C_drewN ?_ _) | (with_reducible refine Kd.C_drew ?_))); (case side2 => exact HC0.out); rintro e w10 ⟨v463, rfl, ho0, hb⟩; refine ⟨_, rfl, ?_⟩; have n0_ := Aside0.mk (Kd.S_lower ho0 (below_size (by repeat (first | (with_reducible first | exact HB.out | apply below_alloc | apply pw_below_drewN | apply below_drew1) | exact HB.out)))); have n1_ := Aside0.mk (below_step (by repeat (first | (with_reducible first | exact HB.out | apply below_alloc | apply pw_below_drewN | apply below_drew1) | exact HB.out)) hb); clear HB; have HO464 := n0_; have HB := n1_; clear n0_ n1_; (try clear hb); (try clear hb2); (try clear hk); (try clear hi); (try clear ho0); obtain ⟨Ao11, co11, eo11⟩ := Kd.S_slice HO464.out; subst eo11) | ((with_reducible refine gate_callee (f := 36) rfl ?_); refine goesL_ (some 20) rfl rfl Try.func36 (by kernel_rfl) rfl #[.slice Ao11 t462.length co11, .int .i64 a1] rfl (by (try simp only [List.map_toArray, List.map_cons, List.map_nil]); first | done | rfl | (simp only [List.length_drop, List.length_take]; rfl) | (simp only [show ∀ (n_ : Nat) (b_ : Int), Int.tdiv (n_ : Int) b_ = (n_ : Int) / b_ from fun n_ b_ => Int.tdiv_eq_ediv_of_nonneg (Int.natCast_nonneg n_)]; rfl)) ?_; (with_reducible refine (spec_SpreadOf.calls k _ _ t462 a1 t465 t466 _ ?side1 ?side2 A6.out).mono ?_); (case side1 => repeat (first | exact (Kd.S_reads' HO464.out).2.2 | (with_reducible refine Kd.C_alloc ?_ _) | (with_reducible refine Kd.C_drewN ?_ _) | (with_reducible refine Kd.C_drew ?_))); (case side2 => exact (Kd.S_reads' HO464.out).2.1); rintro e w12 ⟨rfl, hb⟩; refine ⟨_, rfl, ?_⟩; have n0_ := Aside0.mk (Kd.S_below (by (with_reducible repeat (first | apply Kd.S_alloc | apply Kd.S_drewN | apply Kd.S_drew)); exact HO464.out) hb); have n1_ := Aside0.mk (below_step (by repeat (first | (with_reducible first | exact HB.out | apply below_alloc | apply pw_below_drewN | apply below_drew1) | exact HB.out)) hb); clear HO464; clear HB; have HO464 := n0_; have HB := n1_; clear n0_ n1_; (try clear hb); (try clear hb2); (try clear hk); (try clear hi)) | ((with_reducible refine gate_callee (f := 34) rfl ?_); refine goesL_ (some 24) rfl rfl Try.func34 (by kernel_rfl) rfl #[.slice A0 l0.length c0] rfl (by (try simp only [List.map_toArray, List.map_cons, List.map_nil]); first | done | rfl | (simp only [List.length_drop, List.length_take]; rfl) | (simp only [show ∀ (n_ : Nat) (b_ : Int), Int.tdiv (n_ : Int) b_ = (n_ : Int) / b_ from fun n_ b_ => Int.tdiv_eq_ediv_of_nonneg (Int.natCast_nonneg n_)]; rfl)) ?_; (with_reducible refine (laws_toInt64SS.calls k _ _ l0 t467 _ ?side1 ?side2 A7.out).mono ?_); (case side1 => repeat (first | exact (Kd.C_below HR0.out HB.out) | (with_reducible refine Kd.C_alloc ?_ _) | (with_reducible refine Kd.C_drewN ?_ _) | (with_reducible refine Kd.C_drew ?_))); (case side2 => exact HC0.out); rintro e w13 ⟨v468, rfl, ho0, hb⟩; refine ⟨_, rfl, ?_⟩; have n0_ := Aside0.mk (Kd.S_elder' (by (with_reducible repeat (first | apply Kd.S_alloc | apply Kd.S_drewN | apply Kd.S_drew)); exact HO464.out) (Kd.S_base ho0) hb); have n1_ := Aside0.mk (Kd.S_lower (Kd.S_new' ho0 (Kd.S_lt (by (with_reducible repeat (first | apply Kd.S_alloc | apply Kd.S_drewN | apply Kd.S_drew)); exact HO464.out))) (below_size (by repeat (first | (with_reducible first | exact HB.out | apply below_alloc | apply pw_below_drewN | apply below_drew1) | exact HB.out)))); have n2_ := Aside0.mk (below_step (by repeat (first | (with_reducible first | exact HB.out | apply below_alloc | apply pw_below_drewN | apply below_drew1) | exact HB.out)) hb); clear HO464; clear HB; have HO464 := n0_; have HO469 := n1_; have HB := n2_; clear n0_ n1_ n2_; (try clear hb); (try clear hb2); (try clear hk); (try clear hi); (try clear ho0); obtain ⟨Ao14, co14, eo14⟩ := Kd.S_slice HO469.out; subst eo14) | ((with_reducible refine gate_callee (f := 37) rfl ?_); refine goesL_ (some 28) rfl rfl Try.func37 (by kernel_rfl) rfl #[.slice Ao14 t467.length co14, .int .i64 a1] rfl (by (try simp only [List.map_toArray, List.map_cons, List.map_nil]); first | done | rfl | (simp only [List.length_drop, List.length_take]; rfl) | (simp only [show ∀ (n_ : Nat) (b_ : Int), Int.tdiv (n_ : Int) b_ = (n_ : Int) / b_ from fun n_ b_ => Int.tdiv_eq_ediv_of_nonneg (Int.natCast_nonneg n_)]; rfl)) ?_; (with_reducible refine (impl_SpreadOf.calls k _ _ t467 a1 t470 t471 _ ?side1 ?side2 A8.out).mono ?_); (case side1 => repeat (first | exact (Kd.S_reads' HO469.out).2.2 | (with_reducible refine Kd.C_alloc ?_ _) | (with_reducible refine Kd.C_drewN ?_ _) | (with_reducible refine Kd.C_drew ?_))); (case side2 => exact (Kd.S_reads' HO469.out).2.1); rintro e w15 ⟨rfl, hb⟩; refine ⟨_, rfl, ?_⟩; have n0_ := Aside0.mk (Kd.S_below (by (with_reducible repeat (first | apply Kd.S_alloc | apply Kd.S_drewN | apply Kd.S_drew)); exact HO464.out) hb); have n1_ := Aside0.mk (Kd.S_below (by (with_reducible repeat (first | apply Kd.S_alloc | apply Kd.S_drewN | apply Kd.S_drew)); exact HO469.out) hb); have n2_ := Aside0.mk (below_step (by repeat (first | (with_reducible first | exact HB.out | apply below_alloc | apply pw_below_drewN | apply below_drew1) | exact HB.out)) hb); clear HO464; clear HO469; clear HB; have HO464 := n0_; have HO469 := n1_; have HB := n2_; clear n0_ n1_ n2_; (try clear hb); (try clear hb2); (try clear hk); (try clear hi)))
  (try simp only [Act.put, List.setIfInBounds_toArray, List.set_cons_zero, List.set_cons_succ])
  go_cut [38] (fun v38 wc => ∃ (kq : Nat) (x38_8 : Bool), v38 = .bool x38_8 ∧ Aside0 (laws_FnExactSpreadOf.j0 kq l0 t467 x38_8 = some r) ∧ Aside0 (kq ≤ k) ∧ Aside0 (Kd.S (Kd.slice 2 (Kd.int .i64)) 34 wc w.heap.size (fun _ => True) (.slice Ao14 t467.length co14) t467) ∧ Aside0 (Below w.heap.size w wc))
  case first =>
   have H := HC9.out
   clear HC9
   by_cases c16 : t470 = t465
   ·rw [if_pos c16] at H
    have c16b0 : (t470 == t465) = true := beq_iff_eq.mpr c16
    have c16b1 : (t470 != t465) = false := bne_eq_false_iff_eq.mpr c16
    clear c16
    (first | rw [c16b0] | (simp only [i64_w, i32_w]; rw [c16b0]) | skip)
    have H' := Aside0.mk H
    clear H
    go_wp2
    go_meet
    case rel => exact ⟨_, ((t471 != t466)), (by first | rfl | (simp; done) | (simp [*]; done)), H', ⟨by first | omega | exact Nat.le_refl _⟩, ⟨by (with_reducible repeat (first | apply Kd.S_alloc | apply Kd.S_drewN | apply Kd.S_drew)); exact Kd.S_mono HO469.out (fun _ hk => trivial)⟩, ⟨by repeat (first | (with_reducible first | exact HB.out | apply below_alloc | apply pw_below_drewN | apply below_drew1) | exact HB.out)⟩⟩
   ·rw [if_neg c16] at H
    have c16b0 : (t470 == t465) = false := beq_eq_false_iff_ne.mpr c16
    have c16b1 : (t470 != t465) = true := bne_iff_ne.mpr c16
    (first | rw [c16b0] | (simp only [i64_w, i32_w]; rw [c16b0]) | skip)
    have H' := Aside0.mk H
    clear H
    go_wp2
    go_meet
    case rel => exact ⟨_, (true), (by first | rfl | (simp; done) | (simp [*]; done)), H', ⟨by first | omega | exact Nat.le_refl _⟩, ⟨by (with_reducible repeat (first | apply Kd.S_alloc | apply Kd.S_drewN | apply Kd.S_drew)); exact Kd.S_mono HO469.out (fun _ hk => trivial)⟩, ⟨by repeat (first | (with_reducible first | exact HB.out | apply below_alloc | apply pw_below_drewN | apply below_drew1) | exact HB.out)⟩⟩
  case rest =>
   clear HC9
   try clear c1
   try clear p2
   try clear c3
   try clear c4
   try clear c4b0
   try clear c8
   try clear c16
   try clear c16b0
   try clear c16b1
   obtain ⟨kq, x38_8, rfl, HA, HJ8, HO_8, HB⟩ := hcut
   cases kq with
   | zero => exact absurd HA.out (by simp [laws_FnExactSpreadOf.j0])
   | succ kj8 =>
    have H := HA.out
    clear HA
    simp only [laws_FnExactSpreadOf.j0] at H
    by_cases c17 : x38_8 = true
    ·subst c17
     have H1 : (some false) = some r := by rw [if_pos rfl] at H; exact H
     clear H
     have H := H1
     clear H1
     obtain rfl := Option.some.inj H
     go_wp2
     go_ret
     exact ⟨by first | rfl | (simp [errW_none, errW_some] <;> rfl) | (simp [*, errW_none, errW_some] <;> rfl), by repeat (first | (with_reducible first | exact HB.out | apply below_alloc | apply pw_below_drewN | apply below_drew1) | exact HB.out)⟩
    ·replace c17 := Bool.eq_false_iff.mpr c17
     subst c17
     have H1 : ((laws_toInt64SS.f kj8 l0).bind fun t472 => ((laws_eqInt64SS.f kj8 t467 t472).bind fun t475 => (if t475 = true then (some true) else (some false)))) = some r := by rw [if_neg (show ¬ (false = true) by decide)] at H; exact H
     clear H
     have H := H1
     clear H1
     replace H := Option.bind_eq_some_iff.mp H
     obtain ⟨t472, A180, H⟩ := H
     replace H : ((laws_eqInt64SS.f kj8 t467 t472).bind fun t475 => (if t475 = true then (some true) else (some false))) = some r := H
     have A18 := Aside0.mk A180
     clear A180
     replace H := Option.bind_eq_some_iff.mp H
     obtain ⟨t475, A190, H⟩ := H
     replace H : (if t475 = true then (some true) else (some false)) = some r := H
     have A19 := Aside0.mk A190
     clear A190
     by_cases c20 : t475 = true
     ·subst c20
      have H1 : (some true) = some r := by rw [if_pos rfl] at H; exact H
      clear H
      have H := H1
      clear H1
      obtain rfl := Option.some.inj H
      go_wp2_with (first | ((with_reducible refine gate_callee (f := 34) rfl ?_); refine goesL_ (some 41) rfl rfl Try.func34 (by kernel_rfl) rfl #[.slice A0 l0.length c0] rfl (by (try simp only [List.map_toArray, List.map_cons, List.map_nil]); first | done | rfl | (simp only [List.length_drop, List.length_take]; rfl) | (simp only [show ∀ (n_ : Nat) (b_ : Int), Int.tdiv (n_ : Int) b_ = (n_ : Int) / b_ from fun n_ b_ => Int.tdiv_eq_ediv_of_nonneg (Int.natCast_nonneg n_)]; rfl)) ?_; (with_reducible refine (laws_toInt64SS.calls kj8 _ _ l0 t472 _ ?side1 ?side2 A18.out).mono ?_); (case side1 => repeat (first | exact (Kd.C_below HR0.out HB.out) | (with_reducible refine Kd.C_alloc ?_ _) | (with_reducible refine Kd.C_drewN ?_ _) | (with_reducible refine Kd.C_drew ?_))); (case side2 => exact HC0.out); rintro e w21 ⟨v473, rfl, ho0, hb⟩; refine ⟨_, rfl, ?_⟩; have n0_ := Aside0.mk (Kd.S_elder' (by (with_reducible repeat (first | apply Kd.S_alloc | apply Kd.S_drewN | apply Kd.S_drew)); exact HO_8.out) (Kd.S_base ho0) hb); have n1_ := Aside0.mk (Kd.S_lower (Kd.S_new' ho0 (Kd.S_lt (by (with_reducible repeat (first | apply Kd.S_alloc | apply Kd.S_drewN | apply Kd.S_drew)); exact HO_8.out))) (below_size (by repeat (first | (with_reducible first | exact HB.out | apply below_alloc | apply pw_below_drewN | apply below_drew1) | exact HB.out)))); have n2_ := Aside0.mk (below_step (by repeat (first | (with_reducible first | exact HB.out | apply below_alloc | apply pw_below_drewN | apply below_drew1) | exact HB.out)) hb); clear HO_8; clear HB; have HO_8 := n0_; have HO474 := n1_; have HB := n2_; clear n0_ n1_ n2_; (try clear hb); (try clear hb2); (try clear hk); (try clear hi); (try clear ho0); obtain ⟨Ao22, co22, eo22⟩ := Kd.S_slice HO474.out; subst eo22) | ((with_reducible refine gate_callee (f := 17) rfl ?_); refine goesL_ (some 42) rfl rfl Try.func17 (by kernel_rfl) rfl #[.slice Ao14 t467.length co14, .slice Ao22 t472.length co22] rfl (by (try simp only [List.map_toArray, List.map_cons, List.map_nil]); first | done | rfl | (simp only [List.length_drop, List.length_take]; rfl) | (simp only [show ∀ (n_ : Nat) (b_ : Int), Int.tdiv (n_ : Int) b_ = (n_ : Int) / b_ from fun n_ b_ => Int.tdiv_eq_ediv_of_nonneg (Int.natCast_nonneg n_)]; rfl)) ?_; (with_reducible refine (laws_eqInt64SS.calls kj8 _ _ t467 _ _ t472 true _ ?side1 ?side2 ?side3 ?side4 A19.out).mono ?_); (case side1 => repeat (first | exact (Kd.S_reads' HO_8.out).2.2 | (with_reducible refine Kd.C_alloc ?_ _) | (with_reducible refine Kd.C_drewN ?_ _) | (with_reducible refine Kd.C_drew ?_))); (case side2 => exact (Kd.S_reads' HO_8.out).2.1); (case side3 => repeat (first | exact (Kd.S_reads' HO474.out).2.2 | (with_reducible refine Kd.C_alloc ?_ _) | (with_reducible refine Kd.C_drewN ?_ _) | (with_reducible refine Kd.C_drew ?_))); (case side4 => exact (Kd.S_reads' HO474.out).2.1); rintro e w' ⟨rfl, ⟨nd, rfl⟩⟩; refine ⟨_, rfl, ?_⟩))
      go_ret
      exact ⟨by first | rfl | (simp [errW_none, errW_some] <;> rfl) | (simp [*, errW_none, errW_some] <;> rfl), by repeat (first | (with_reducible first | exact HB.out | apply below_alloc | apply pw_below_drewN | apply below_drew1) | exact HB.out)⟩
     ·replace c20 := Bool.eq_false_iff.mpr c20
      subst c20
      have H1 : (some false) = some r := by rw [if_neg (show ¬ (false = true) by decide)] at H; exact H
      clear H
      have H := H1
      clear H1
      obtain rfl := Option.some.inj H
      go_wp2_with (first | ((with_reducible refine gate_callee (f := 34) rfl ?_); refine goesL_ (some 41) rfl rfl Try.func34 (by kernel_rfl) rfl #[.slice A0 l0.length c0] rfl (by (try simp only [List.map_toArray, List.map_cons, List.map_nil]); first | done | rfl | (simp only [List.length_drop, List.length_take]; rfl) | (simp only [show ∀ (n_ : Nat) (b_ : Int), Int.tdiv (n_ : Int) b_ = (n_ : Int) / b_ from fun n_ b_ => Int.tdiv_eq_ediv_of_nonneg (Int.natCast_nonneg n_)]; rfl)) ?_; (with_reducible refine (laws_toInt64SS.calls kj8 _ _ l0 t472 _ ?side1 ?side2 A18.out).mono ?_); (case side1 => repeat (first | exact (Kd.C_below HR0.out HB.out) | (with_reducible refine Kd.C_alloc ?_ _) | (with_reducible refine Kd.C_drewN ?_ _) | (with_reducible refine Kd.C_drew ?_))); (case side2 => exact HC0.out); rintro e w23 ⟨v473, rfl, ho0, hb⟩; refine ⟨_, rfl, ?_⟩; have n0_ := Aside0.mk (Kd.S_elder' (by (with_reducible repeat (first | apply Kd.S_alloc | apply Kd.S_drewN | apply Kd.S_drew)); exact HO_8.out) (Kd.S_base ho0) hb); have n1_ := Aside0.mk (Kd.S_lower (Kd.S_new' ho0 (Kd.S_lt (by (with_reducible repeat (first | apply Kd.S_alloc | apply Kd.S_drewN | apply Kd.S_drew)); exact HO_8.out))) (below_size (by repeat (first | (with_reducible first | exact HB.out | apply below_alloc | apply pw_below_drewN | apply below_drew1) | exact HB.out)))); have n2_ := Aside0.mk (below_step (by repeat (first | (with_reducible first | exact HB.out | apply below_alloc | apply pw_below_drewN | apply below_drew1) | exact HB.out)) hb); clear HO_8; clear HB; have HO_8 := n0_; have HO474 := n1_; have HB := n2_; clear n0_ n1_ n2_; (try clear hb); (try clear hb2); (try clear hk); (try clear hi); (try clear ho0); obtain ⟨Ao24, co24, eo24⟩ := Kd.S_slice HO474.out; subst eo24) | ((with_reducible refine gate_callee (f := 17) rfl ?_); refine goesL_ (some 42) rfl rfl Try.func17 (by kernel_rfl) rfl #[.slice Ao14 t467.length co14, .slice Ao24 t472.length co24] rfl (by (try simp only [List.map_toArray, List.map_cons, List.map_nil]); first | done | rfl | (simp only [List.length_drop, List.length_take]; rfl) | (simp only [show ∀ (n_ : Nat) (b_ : Int), Int.tdiv (n_ : Int) b_ = (n_ : Int) / b_ from fun n_ b_ => Int.tdiv_eq_ediv_of_nonneg (Int.natCast_nonneg n_)]; rfl)) ?_; (with_reducible refine (laws_eqInt64SS.calls kj8 _ _ t467 _ _ t472 false _ ?side1 ?side2 ?side3 ?side4 A19.out).mono ?_); (case side1 => repeat (first | exact (Kd.S_reads' HO_8.out).2.2 | (with_reducible refine Kd.C_alloc ?_ _) | (with_reducible refine Kd.C_drewN ?_ _) | (with_reducible refine Kd.C_drew ?_))); (case side2 => exact (Kd.S_reads' HO_8.out).2.1); (case side3 => repeat (first | exact (Kd.S_reads' HO474.out).2.2 | (with_reducible refine Kd.C_alloc ?_ _) | (with_reducible refine Kd.C_drewN ?_ _) | (with_reducible refine Kd.C_drew ?_))); (case side4 => exact (Kd.S_reads' HO474.out).2.1); rintro e w' ⟨rfl, ⟨nd, rfl⟩⟩; refine ⟨_, rfl, ?_⟩))
      go_ret
      exact ⟨by first | rfl | (simp [errW_none, errW_some] <;> rfl) | (simp [*, errW_none, errW_some] <;> rfl), by repeat (first | (with_reducible first | exact HB.out | apply below_alloc | apply pw_below_drewN | apply below_drew1) | exact HB.out)⟩
def laws_FnExactSpreadOf.Pure : Prop := ∀ (l0 : List (List Int)) (a1 : Int), (l0.length ≤ maxLen ∧ ∀ y ∈ l0, (y.length ≤ maxLen ∧ ∀ y_ ∈ y, (Lit.int .i64 y_).wf = true)) → (Lit.int .i64 a1).wf = true → ∃ k, laws_FnExactSpreadOf.f k l0 a1 = some true
theorem laws_FnExactSpreadOf.walk (P : laws_FnExactSpreadOf.Pure) (A0 : Option Addr) (c0 : Nat) (l0 : List (List Int)) (a1 : Int) (w : World) (hr0 : Kd.C (Kd.slice 2 (Kd.int .i64)) w A0 l0.length l0) (hc0 : l0.length ≤ c0) (w0 : (l0.length ≤ maxLen ∧ ∀ y ∈ l0, (y.length ≤ maxLen ∧ ∀ y_ ∈ y, (Lit.int .i64 y_).wf = true))) (w1 : (Lit.int .i64 a1).wf = true) :
  Calls Try.prog 8 #[.slice A0 l0.length c0, .int .i64 a1] w fun e w' => e = .returned (.bool true) ∧ Below w.heap.size w w' := by
 obtain ⟨k, h⟩ := P l0 a1 w0 w1
 refine (laws_FnExactSpreadOf.calls k A0 c0 l0 a1 true w hr0 hc0 h).mono ?_
 rintro e w' ⟨rfl, hd⟩
 exact ⟨rfl, hd⟩
end Go.Proofs.Ytckonklpdepgoaa.Q
namespace Go.Proofs.Ytckonklpdepgoaa.Com
open Go.RowKit Go.Proofs.YtckonklpdepgoaaW.PrintWords
theorem w64 {x : Int} (h1 : -9223372036854775808 ≤ x) (h2 : x ≤ 9223372036854775807) : wrap64 x = x := by
 unfold wrap64
 omega
theorem ev_of {α : Type} {g : Nat → Option α} {r : α} (h : Ev g r) : ∃ k, g k = some r := h.rounds
end Go.Proofs.Ytckonklpdepgoaa.Com
namespace Go.Proofs.Ytckonklpdepgoaa.Com
set_option linter.unusedSimpArgs false
set_option linter.unusedVariables false
open Go.RowKit Go.Proofs.YtckonklpdepgoaaW.PrintWords
theorem ev_fold {α σ ρ : Type} (xs : List α) (g : Nat → σ → Nat → Option ρ) (F : List α → σ → ρ) (Inv : Nat → σ → Prop)
  (h0 : ∀ s, Inv xs.length s → Ev (g xs.length s) (F [] s))
  (hs : ∀ m (h : m < xs.length) s, Inv m s → (∀ s', Inv (m + 1) s' → Ev (g (m + 1) s') (F (xs.drop (m + 1)) s')) → Ev (g m s) (F (xs[m] :: xs.drop (m + 1)) s)) :
  ∀ m s, m ≤ xs.length → Inv m s → Ev (g m s) (F (xs.drop m) s) := by
 have key : ∀ d m s, m + d = xs.length → Inv m s → Ev (g m s) (F (xs.drop m) s) := by
  intro d
  induction d with
  | zero =>
   intro m s e hi
   obtain rfl : m = xs.length := by omega
   rw [List.drop_length]
   exact h0 s hi
  | succ d ih =>
   intro m s e hi
   have h : m < xs.length := by omega
   rw [List.drop_eq_getElem_cons h]
   exact hs m h s hi (fun s' hi' => ih (m + 1) s' (by omega) hi')
 intro m s hm hi
 exact key (xs.length - m) m s (by omega) hi
theorem ev_list {α ρ : Type} (xs : List α) (g : Nat → Nat → Option ρ) (F : List α → ρ) (h0 : Ev (g xs.length) (F []))
  (hs : ∀ m (h : m < xs.length), Ev (g (m + 1)) (F (xs.drop (m + 1))) → Ev (g m) (F (xs[m] :: xs.drop (m + 1)))) (m : Nat) (hm : m ≤ xs.length) : Ev (g m) (F (xs.drop m)) :=
 ev_fold xs (fun m (_ : Unit) => g m) (fun l _ => F l) (fun _ _ => True) (fun _ _ => h0) (fun m h _ _ ih => hs m h (ih () trivial)) m () hm trivial
theorem ev_count {σ ρ : Type} (n : Nat) (g : Nat → σ → Nat → Option ρ) (r : ρ) (Inv : Nat → σ → Prop) (h0 : ∀ s, Inv n s → Ev (g n s) r)
  (hs : ∀ m s, m < n → Inv m s → ∃ s', Inv (m + 1) s' ∧ (Ev (g (m + 1) s') r → Ev (g m s) r)) : ∀ m s, m ≤ n → Inv m s → Ev (g m s) r := by
 have key : ∀ d m s, m + d = n → Inv m s → Ev (g m s) r := by
  intro d
  induction d with
  | zero =>
   intro m s e hi
   obtain rfl : m = n := by omega
   exact h0 s hi
  | succ d ih =>
   intro m s e hi
   obtain ⟨s', hi', k⟩ := hs m s (by omega) hi
   exact k (ih (m + 1) s' (by omega) hi')
 intro m s hm hi
 exact key (n - m) m s (by omega) hi
theorem rd_nat {xs : List Int} {m : Nat} (h : m < xs.length) : rd xs (m : Int) = xs[m] := by
 unfold rd
 rw [Int.toNat_natCast, List.getD_eq_getElem?_getD, List.getElem?_eq_getElem h]
 rfl
theorem w_succ {m : Nat} (h : m < 9223372036854775807) : wrap64 ((m : Int) + 1) = ((m + 1 : Nat) : Int) := by
 rw [w64 (by omega) (by omega)]
 omega
theorem w_pred {m : Nat} (h : 0 < m) (h' : m < 9223372036854775807) : wrap64 ((m : Int) - 1) = ((m - 1 : Nat) : Int) := by
 rw [w64 (by omega) (by omega)]
 omega
end Go.Proofs.Ytckonklpdepgoaa.Com
namespace Go.Proofs.Ytckonklpdepgoaa.Com
set_option linter.unusedSimpArgs false
set_option linter.unusedVariables false
open Go.RowKit Go.Proofs.YtckonklpdepgoaaW.PrintWords Go.Proofs.Ytckonklpdepgoaa.Q
theorem set_take (xs : List Int) (m : Nat) (h : m < xs.length) : (xs.take m ++ List.replicate (xs.length - m) 0).set m xs[m] = xs.take (m + 1) ++ List.replicate (xs.length - (m + 1)) 0 := by
 have hl : (xs.take m).length = m := by rw [List.length_take]; omega
 rw [List.set_append_right _ _ (by omega), hl, Nat.sub_self]
 obtain ⟨q, hq⟩ : ∃ q, xs.length - m = q + 1 := ⟨xs.length - m - 1, by omega⟩
 rw [hq, List.replicate_succ, List.set_cons_zero, show xs.length - (m + 1) = q by omega, List.take_succ_eq_append_getElem h, List.append_assoc]
 rfl
theorem toInt64S_ev (xs : List Int) (hx : xs.length ≤ 1048576) : Ev (fun k => laws_toInt64S.f k xs) xs := by
 unfold laws_toInt64S.f
 simp only [if_pos (show 0 ≤ (xs.length : Int) by omega), if_pos (show ((xs.length : Int)).toNat ≤ 35184372088832 by omega)]
 have := ev_count xs.length (fun m s k => laws_toInt64S.l0 k xs s (m : Int)) xs (fun m s => s = xs.take m ++ List.replicate (xs.length - m) 0) (fun s hs => ?_) (fun m s hm hs => ⟨xs.take (m + 1) ++ List.replicate (xs.length - (m + 1)) 0, rfl, fun ih => ?_⟩) 0 (List.replicate xs.length 0) (by omega) (by simp)
 ·simpa using this
 ·refine Ev.step (fun k => by rw [laws_toInt64S.l0]) ?_
  simp only [if_neg (show ¬ (xs.length : Int) < (xs.length : Int) by omega)]
  subst hs
  simp
  exact Ev.now _
 ·refine Ev.step (fun k => by rw [laws_toInt64S.l0]) ?_
  subst hs
  have hl : (xs.take m ++ List.replicate (xs.length - m) 0).length = xs.length := by simp; omega
  simp only [if_pos (show (m : Int) < (xs.length : Int) by omega), if_pos (show 0 ≤ (m : Int) by omega), hl, rd_nat hm, Int.toNat_natCast, set_take xs m hm, w_succ (m := m) (by omega)]
  exact ih
theorem eqInt64S_ev (xs ys : List Int) (hx : xs.length ≤ 1048576) : Ev (fun k => laws_eqInt64S.f k xs ys) (decide (xs = ys)) := by
 unfold laws_eqInt64S.f
 by_cases hl : (xs.length : Int) = (ys.length : Int)
 ·simp only [if_pos hl]
  have key : ∀ m, m ≤ xs.length → Ev (fun k => laws_eqInt64S.l0 k xs ys (m : Int)) (decide (xs.drop m = ys.drop m)) := by
   have gen := ev_list xs (fun m k => laws_eqInt64S.l0 k xs ys (m : Int)) (fun l => decide (l = ys.drop (xs.length - l.length))) ?_ ?_
   ·intro m hm
    have := gen m hm
    rwa [List.length_drop, show xs.length - (xs.length - m) = m by omega] at this
   ·refine Ev.step (fun k => by rw [laws_eqInt64S.l0]) ?_
    simp only [if_neg (show ¬ (xs.length : Int) < (xs.length : Int) by omega)]
    have : ys.drop (xs.length - ([] : List Int).length) = [] := by simp; omega
    rw [this]
    exact Ev.now _
   ·intro m hm ih
    refine Ev.step (fun k => by rw [laws_eqInt64S.l0]) ?_
    have hy : m < ys.length := by omega
    simp only [if_pos (show (m : Int) < (xs.length : Int) by omega), if_pos (show 0 ≤ (m : Int) by omega), if_pos (show (m : Int) < (ys.length : Int) by omega), rd_nat hm, rd_nat hy, w_succ (m := m) (by omega)]
    rw [List.length_drop, show xs.length - (xs.length - (m + 1)) = m + 1 by omega] at ih
    have e : xs.length - (xs[m] :: xs.drop (m + 1)).length = m := by simp; omega
    rw [e, List.drop_eq_getElem_cons hy]
    by_cases c : xs[m] = ys[m]
    ·simp only [if_pos c]
     rw [show decide (xs[m] :: xs.drop (m + 1) = ys[m] :: ys.drop (m + 1)) = decide (xs.drop (m + 1) = ys.drop (m + 1)) from decide_eq_decide.2 (by rw [c]; exact ⟨fun h => (List.cons.inj h).2, fun h => by rw [h]⟩)]
     exact ih
    ·simp only [if_neg c]
     rw [decide_eq_false (show ¬ xs[m] :: xs.drop (m + 1) = ys[m] :: ys.drop (m + 1) from fun h => c (List.cons.inj h).1)]
     exact Ev.now _
  have := key 0 (by omega)
  simpa using this
 ·simp only [if_neg hl]
  have : xs ≠ ys := fun e => hl (by rw [e])
  rw [decide_eq_false this]
  exact Ev.now _
theorem sz_tells (xs : List Int) (a : Int) (hx : xs.length ≤ maxLen) (ha : -1 ≤ a ∧ a ≤ 1048576) : laws_szInt64S.f xs a = some (if a - xs.length < 0 then -1 else a - xs.length) := by
 unfold laws_szInt64S.f
 unfold maxLen at hx
 rw [w64 (by omega) (by omega)]
 split <;> rfl
end Go.Proofs.Ytckonklpdepgoaa.Com
namespace Go.Proofs.Ytckonklpdepgoaa.Com
set_option linter.unusedSimpArgs false
set_option linter.unusedVariables false
open Go.RowKit Go.Proofs.YtckonklpdepgoaaW.PrintWords Go.Proofs.Ytckonklpdepgoaa.Q
theorem within_tells (x a b : Int) : impl_within.f x a b = some (decide (a ≤ x ∧ x ≤ b)) := by
 unfold impl_within.f
 split <;> simp [*]
theorem in_tells (x a b : Int) : spec_l00In.f x a b = some (decide (a ≤ x ∧ x ≤ b)) := by
 unfold spec_l00In.f
 by_cases h : x ≥ a
 ·have h' : a ≤ x := h
  simp [h, h']
 ·have h' : ¬ a ≤ x := h
  simp [h, h']
end Go.Proofs.Ytckonklpdepgoaa.Com
namespace Go.Proofs.Ytckonklpdepgoaa.Com
set_option linter.unusedSimpArgs false
set_option linter.unusedVariables false
set_option linter.unusedSectionVars false
open Go.RowKit Go.Proofs.YtckonklpdepgoaaW.PrintWords Go.Proofs.YtckonklpdepgoaaW.PrintMore Go.Proofs.Ytckonklpdepgoaa.Q
theorem rdr_nat {xs : List (List Int)} {m : Nat} (h : m < xs.length) : rd_L1 xs (m : Int) = xs[m] := by
 unfold rd_L1
 rw [Int.toNat_natCast, List.getD_eq_getElem?_getD, List.getElem?_eq_getElem h]
 rfl
theorem setr_take (xs : List (List Int)) (m : Nat) (h : m < xs.length) : (xs.take m ++ List.replicate (xs.length - m) []).set m xs[m] = xs.take (m + 1) ++ List.replicate (xs.length - (m + 1)) [] := by
 have hl : (xs.take m).length = m := by rw [List.length_take]; omega
 rw [List.set_append_right _ _ (by omega), hl, Nat.sub_self]
 obtain ⟨q, hq⟩ : ∃ q, xs.length - m = q + 1 := ⟨xs.length - m - 1, by omega⟩
 rw [hq, List.replicate_succ, List.set_cons_zero, show xs.length - (m + 1) = q by omega, List.take_succ_eq_append_getElem h, List.append_assoc]
 rfl
theorem toInt64SS_ev (xs : List (List Int)) (hx : xs.length ≤ 1048576) (hr : ∀ x ∈ xs, x.length ≤ 1048576) : Ev (fun k => laws_toInt64SS.f k xs) xs := by
 unfold laws_toInt64SS.f
 simp only [if_pos (show 0 ≤ (xs.length : Int) by omega), if_pos (show ((xs.length : Int)).toNat ≤ 11728124029610 by omega)]
 have := ev_count xs.length (fun m s k => laws_toInt64SS.l0 k xs s (m : Int)) xs (fun m s => s = xs.take m ++ List.replicate (xs.length - m) []) (fun s hs => ?_) (fun m s hm hs => ⟨xs.take (m + 1) ++ List.replicate (xs.length - (m + 1)) [], rfl, fun ih => ?_⟩) 0 (List.replicate xs.length []) (by omega) (by simp)
 ·simpa using this
 ·refine Ev.step (fun k => by rw [laws_toInt64SS.l0]) ?_
  simp only [if_neg (show ¬ (xs.length : Int) < (xs.length : Int) by omega)]
  subst hs
  simp
  exact Ev.now _
 ·refine Ev.step (fun k => by rw [laws_toInt64SS.l0]) ?_
  subst hs
  have hl : (xs.take m ++ List.replicate (xs.length - m) []).length = xs.length := by simp; omega
  simp only [if_pos (show (m : Int) < (xs.length : Int) by omega), if_pos (show 0 ≤ (m : Int) by omega), hl, rdr_nat hm, w_succ (m := m) (by omega)]
  refine Ev.bind (toInt64S_ev xs[m] (hr _ (List.getElem_mem hm))) ?_
  simp only [Int.toNat_natCast, setr_take xs m hm]
  exact ih
theorem eqInt64SS_ev (xs : List (List Int)) (hx : xs.length ≤ 1048576) (hr : ∀ x ∈ xs, x.length ≤ 1048576) : Ev (fun k => laws_eqInt64SS.f k xs xs) true := by
 unfold laws_eqInt64SS.f
 simp only [if_true]
 have gen := ev_list xs (fun m k => laws_eqInt64SS.l0 k xs xs (m : Int)) (fun _ => true) ?_ ?_ 0 (by omega)
 ·exact gen
 ·refine Ev.step (fun k => by rw [laws_eqInt64SS.l0]) ?_
  simp only [if_neg (show ¬ (xs.length : Int) < (xs.length : Int) by omega)]
  exact Ev.now _
 ·intro m hm ih
  refine Ev.step (fun k => by rw [laws_eqInt64SS.l0]) ?_
  simp only [if_pos (show (m : Int) < (xs.length : Int) by omega), if_pos (show 0 ≤ (m : Int) by omega), rdr_nat hm, w_succ (m := m) (by omega)]
  refine Ev.bind (eqInt64S_ev xs[m] xs[m] (hr _ (List.getElem_mem hm))) ?_
  simp only [decide_true, if_true]
  exact ih
def szr (a : Int) : List (List Int) → Int
 | [] => a
 | x :: r => if a - x.length < 0 then -1 else szr (a - x.length) r
theorem szr_tells (l : List (List Int)) : ∀ a, a ≤ 1048576 → 0 ≤ szr a l → ∀ x ∈ l, x.length ≤ 1048576 := by
 induction l with
 | nil => intro a _ _ x hx; simp at hx
 | cons y r ih =>
  intro a ha h x hx
  unfold szr at h
  split at h
  ·omega
  ·rcases List.mem_cons.1 hx with rfl | hx
   ·omega
   ·exact ih _ (by omega) h x hx
theorem szr_ge (l : List (List Int)) : ∀ a, 0 ≤ a → -1 ≤ szr a l := by
 induction l with
 | nil => intro a h; unfold szr; omega
 | cons y r ih =>
  intro a h
  unfold szr
  split
  ·omega
  ·exact ih _ (by omega)
end Go.Proofs.Ytckonklpdepgoaa.Com
namespace Go.Proofs.Ytckonklpdepgoaa.Com
set_option linter.unusedSimpArgs false
set_option linter.unusedVariables false
open Go.RowKit Go.Proofs.YtckonklpdepgoaaW.PrintWords Go.Proofs.Ytckonklpdepgoaa.Q
def risesFrom (lo hi : Int) : Option Int → List Int → Bool
 | _, [] => true
 | p, x :: r => decide (lo ≤ x ∧ x ≤ hi) && (match p with | none => true | some y => decide (y < x)) && risesFrom lo hi (some x) r
def rises (lo hi : Int) (l : List Int) : Bool := risesFrom lo hi none l
theorem isSet_ev (xs : List Int) (b : Int) (hx : xs.length ≤ 1048576) (hb : -9223372036854775807 ≤ b ∧ b ≤ 9223372036854775807) : Ev (fun k => impl_isSet.f k xs b) (rises 0 (b - 1) xs) := by
 unfold impl_isSet.f
 have gen := ev_fold xs (fun m (p : Option Int) k => impl_isSet.l0 k xs b xs (xs.length : Int) (m : Int)) (fun l p => risesFrom 0 (b - 1) p l) (fun m p => p = if h : 0 < m ∧ m - 1 < xs.length then some (xs[m - 1]'h.2) else none) ?_ ?_ 0 none (by omega) (by simp)
 ·simpa [rises] using gen
 ·intro s hs
  refine Ev.step (fun k => by rw [impl_isSet.l0]) ?_
  simp only [if_neg (show ¬ (xs.length : Int) < (xs.length : Int) by omega)]
  exact Ev.now _
 ·intro m hm s hs ih
  have ih' := ih (some xs[m]) (by simp [hm])
  refine Ev.step (fun k => by rw [impl_isSet.l0]) ?_
  simp only [if_pos (show (m : Int) < (xs.length : Int) by omega), if_pos (show 0 ≤ (m : Int) by omega), rd_nat hm, within_tells, Option.bind_some, w_succ (m := m) (by omega), decide_eq_true_eq, w64 (x := b - 1) (by omega) (by omega)]
  by_cases c : 0 ≤ xs[m] ∧ xs[m] ≤ b - 1
  ·simp only [if_pos c]
   unfold risesFrom
   rw [decide_eq_true c, Bool.true_and]
   by_cases hp : (m : Int) > 0
   ·have hp' : 0 < m ∧ m - 1 < xs.length := by omega
    rw [dif_pos hp'] at hs
    subst hs
    simp only [if_pos hp, w_pred (m := m) (by omega) (by omega), if_pos (show (0 : Int) ≤ ((m - 1 : Nat) : Int) by omega), if_pos (show ((m - 1 : Nat) : Int) < (xs.length : Int) by omega), rd_nat hp'.2]
    by_cases q : xs[m] ≤ xs[m - 1]
    ·simp only [if_pos q]
     rw [decide_eq_false (by omega), Bool.false_and]
     exact Ev.now _
    ·simp only [if_neg q]
     rw [decide_eq_true (by omega), Bool.true_and]
     exact ih'
   ·rw [dif_neg (by omega)] at hs
    subst hs
    simp only [if_neg hp, Bool.true_and]
    exact ih'
  ·simp only [if_neg c]
   unfold risesFrom
   rw [decide_eq_false c]
   simp
   exact Ev.now _
end Go.Proofs.Ytckonklpdepgoaa.Com
namespace Go.Proofs.Ytckonklpdepgoaa.Com
set_option linter.unusedSimpArgs false
set_option linter.unusedVariables false
open Go.RowKit Go.Proofs.YtckonklpdepgoaaW.PrintWords Go.Proofs.YtckonklpdepgoaaW.PrintMore Go.Proofs.Ytckonklpdepgoaa.Q
def okAll (N : Nat) : List Int → List Int → Bool
 | _, [] => true
 | pre, z :: r => decide (0 ≤ z ∧ z ≤ (N : Int) - 1) && (!decide (z ∈ pre) && okAll N (pre ++ [z]) r)
def okRows (n N : Nat) : List Int → List (List Int) → Bool
 | _, [] => true
 | pre, x :: r => decide (x.length = n) && (okAll N pre x && okRows n N (pre ++ x) r)
theorem okAll_app (N : Nat) (a b : List Int) : ∀ pre, okAll N pre (a ++ b) = (okAll N pre a && okAll N (pre ++ a) b) := by
 induction a with
 | nil => intro pre; simp [okAll]
 | cons z r ih => intro pre; simp only [List.cons_append, okAll, ih, Bool.and_assoc, List.append_assoc, List.singleton_append, List.nil_append]
theorem okRows_flat (n N : Nat) (l : List (List Int)) : ∀ pre, (∀ x ∈ l, x.length = n) → okRows n N pre l = okAll N pre l.flatten := by
 induction l with
 | nil => intro pre _; rfl
 | cons x r ih =>
  intro pre h
  rw [List.flatten_cons, okAll_app, okRows, ih _ (fun y hy => h y (List.mem_cons_of_mem _ hy)), decide_eq_true (h x (List.mem_cons_self ..)), Bool.true_and]
theorem okRows_len (n N : Nat) (l : List (List Int)) : ∀ pre, okRows n N pre l = true → ∀ x ∈ l, x.length = n := by
 induction l with
 | nil => intro pre _ x hx; simp at hx
 | cons y r ih =>
  intro pre h x hx
  simp only [okRows, Bool.and_eq_true, decide_eq_true_eq] at h
  rcases List.mem_cons.1 hx with rfl | hx
  ·exact h.1
  ·exact ih _ h.2.2 x hx
theorem okAll_iff (N : Nat) (l : List Int) : ∀ pre, okAll N pre l = true ↔ ((∀ z ∈ l, 0 ≤ z ∧ z ≤ (N : Int) - 1) ∧ l.Nodup ∧ ∀ z ∈ l, z ∉ pre) := by
 induction l with
 | nil => intro pre; simp [okAll]
 | cons x r ih =>
  intro pre
  simp only [okAll, Bool.and_eq_true, decide_eq_true_eq, Bool.not_eq_true', decide_eq_false_iff_not, ih, List.nodup_cons, List.mem_cons, List.mem_append, List.mem_singleton, List.not_mem_nil, or_false]
  constructor
  ·rintro ⟨h1, h2, h3, h4, h5⟩
   exact ⟨fun z hz => hz.elim (fun e => by rw [e]; exact h1) (h3 z), ⟨fun hx => h5 x hx (.inr rfl), h4⟩, fun z hz => hz.elim (fun e => by rw [e]; exact h2) (fun hz hp => h5 z hz (.inl hp))⟩
  ·rintro ⟨h1, ⟨h2, h3⟩, h4⟩
   exact ⟨h1 x (.inl rfl), h4 x (.inl rfl), fun z hz => h1 z (.inr hz), h3, fun z hz hp => hp.elim (h4 z (.inr hz)) (fun e => h2 (by rw [← e]; exact hz))⟩
theorem risesFrom_iff (lo hi : Int) (l : List Int) : ∀ p : Option Int, risesFrom lo hi p l = true ↔ ((∀ z ∈ l, lo ≤ z ∧ z ≤ hi) ∧ l.Pairwise (· < ·) ∧ ∀ y, p = some y → ∀ z ∈ l, y < z) := by
 induction l with
 | nil => intro p; simp [risesFrom]
 | cons x r ih =>
  intro p
  simp only [risesFrom, Bool.and_eq_true, decide_eq_true_eq, ih, List.pairwise_cons, List.mem_cons]
  constructor
  ·rintro ⟨⟨h1, h2⟩, h3, h4, h5⟩
   refine ⟨fun z hz => hz.elim (fun e => by rw [e]; exact h1) (h3 z), ⟨fun z hz => h5 x rfl z hz, h4⟩, fun y hy z hz => ?_⟩
   subst hy
   have h2' : y < x := by simpa using h2
   rcases hz with rfl | hz
   ·exact h2'
   ·have := h5 x rfl z hz; omega
  ·rintro ⟨h1, ⟨h2, h3⟩, h4⟩
   refine ⟨⟨h1 x (.inl rfl), ?_⟩, fun z hz => h1 z (.inr hz), h3, fun y hy z hz => by cases hy; exact h2 z hz⟩
   cases p with
   | none => rfl
   | some y => simpa using h4 y rfl x (.inl rfl)
theorem rises_sort (N : Nat) (l : List Int) : rises 0 ((N : Int) - 1) (l.mergeSort fun x y => decide (x ≤ y)) = okAll N [] l := by
 rw [Bool.eq_iff_iff, rises, risesFrom_iff, okAll_iff]
 have hp := List.mergeSort_perm l (fun x y => decide (x ≤ y))
 have hs : (l.mergeSort fun x y => decide (x ≤ y)).Pairwise fun a b => decide (a ≤ b) = true := List.pairwise_mergeSort (fun a b c h1 h2 => by simp only [decide_eq_true_eq] at *; omega) (fun a b => by simp only [Bool.or_eq_true, decide_eq_true_eq]; omega) l
 constructor
 ·rintro ⟨h1, h2, _⟩
  refine ⟨fun z hz => h1 z (hp.mem_iff.2 hz), hp.nodup_iff.1 (h2.imp (fun h e => by omega)), by simp⟩
 ·rintro ⟨h1, h2, _⟩
  refine ⟨fun z hz => h1 z (hp.mem_iff.1 hz), ?_, by simp⟩
  have h3 := hp.nodup_iff.2 h2
  have h4 : (l.mergeSort fun x y => decide (x ≤ y)).Pairwise fun a b => decide (a ≤ b) = true ∧ a ≠ b := List.Pairwise.and hs h3
  exact h4.imp (fun {a b} h => by have := h.1; simp only [decide_eq_true_eq] at this; have := h.2; omega)
def isMaskB (l : List (List Int)) : Bool := decide (1 ≤ l.length ∧ l.length ≤ 8) && okRows l.length (l.length * l.length) [] l
theorem isMaskB_len {l : List (List Int)} (h : isMaskB l = true) : (1 ≤ l.length ∧ l.length ≤ 8) ∧ ∀ x ∈ l, x.length = l.length := by
 simp only [isMaskB, Bool.and_eq_true, decide_eq_true_eq] at h
 exact ⟨h.1, okRows_len _ _ _ _ h.2⟩
theorem sq_le (n : Nat) (h : n ≤ 8) : n * n ≤ 64 := Nat.le_trans (Nat.mul_le_mul h h) (by decide)
theorem implMask_ev (l : List (List Int)) : Ev (fun k => impl_IsMask.f k l) (isMaskB l) := by
 unfold impl_IsMask.f isMaskB
 by_cases h : 1 ≤ l.length ∧ l.length ≤ 8
 ·simp only [if_pos h, decide_eq_true h, Bool.true_and]
  by_cases h2 : l.any (impl_IsMask.p l.length) = true
  ·simp only [if_pos h2]
   have : okRows l.length (l.length * l.length) [] l = false := by
    cases hq : okRows l.length (l.length * l.length) [] l with
    | false => rfl
    | true =>
     have hl := okRows_len _ _ _ _ hq
     rw [List.any_eq_true] at h2
     obtain ⟨x, hx, h3⟩ := h2
     unfold impl_IsMask.p at h3
     exact absurd (hl x hx) (by simpa using h3)
   rw [this]
   exact Ev.now _
  ·simp only [if_neg h2]
   have h2' : l.any (impl_IsMask.p l.length) = false := by simpa using h2
   have hl : ∀ x ∈ l, x.length = l.length := fun x hx => by
    have := List.any_eq_false.1 h2' x hx
    unfold impl_IsMask.p at this
    simpa using this
   have hf := impl_IsMask.flat l.length l h2'
   have hs := sq_le l.length h.2
   rw [okRows_flat _ _ _ _ hl, ← rises_sort]
   have hw : wrap64 ((l.length : Int) * (l.length : Int)) = ((l.length * l.length : Nat) : Int) := by
    rw [← Int.natCast_mul]
    exact w64 (by omega) (by omega)
   rw [hw]
   exact isSet_ev _ _ (by rw [List.length_mergeSort]; omega) (by omega)
 ·simp only [if_neg h, decide_eq_false h, Bool.false_and]
  exact Ev.now _
def seenOf (N : Nat) (pre : List Int) : List Bool := (List.range N).map fun (i : Nat) => decide ((i : Int) ∈ pre)
theorem seenOf_len (N : Nat) (pre : List Int) : (seenOf N pre).length = N := by simp [seenOf]
theorem seenOf_nil (N : Nat) : seenOf N [] = List.replicate N false := by
 apply List.ext_getElem
 ·simp [seenOf]
 ·intro i h1 h2; simp [seenOf]
theorem seenOf_at (N : Nat) (pre : List Int) (z : Int) (h0 : 0 ≤ z) (h1 : z < (N : Int)) : rdOf false (seenOf N pre) z = decide (z ∈ pre) := by
 obtain ⟨m, rfl⟩ : ∃ m : Nat, z = m := ⟨z.toNat, by omega⟩
 unfold rdOf
 rw [Int.toNat_natCast, List.getD_eq_getElem?_getD, List.getElem?_eq_getElem (by rw [seenOf_len]; omega)]
 simp [seenOf]
theorem seenOf_set (N : Nat) (pre : List Int) (z : Int) (h0 : 0 ≤ z) (h1 : z < (N : Int)) : (seenOf N pre).set z.toNat true = seenOf N (pre ++ [z]) := by
 apply List.ext_getElem
 ·simp [seenOf]
 ·intro i h2 h3
  rw [List.getElem_set]
  simp only [seenOf, List.getElem_map, List.getElem_range, List.mem_append, List.mem_singleton]
  split
  ·rename_i e
   subst e
   simp [Int.toNat_of_nonneg h0]
  ·rename_i e
   have : ¬ (i : Int) = z := by omega
   simp [this]
theorem specMask_ev (l : List (List Int)) (hx : l.length ≤ 1048576) (hr : ∀ x ∈ l, x.length ≤ 1048576) : Ev (fun k => spec_l09Mask.f k l) (isMaskB l) := by
 have jf : Ev (fun k => spec_l09Mask.j0 k l (l.length : Int) true) false := Ev.step (fun k => by rw [spec_l09Mask.j0]) (by simp only [if_true]; exact Ev.now _)
 unfold spec_l09Mask.f isMaskB
 by_cases h1 : (l.length : Int) < 1
 ·simp only [if_pos h1]
  rw [decide_eq_false (show ¬ (1 ≤ l.length ∧ l.length ≤ 8) by omega), Bool.false_and]
  exact jf
 ·simp only [if_neg h1]
  by_cases h2 : (l.length : Int) > 8
  ·rw [decide_eq_true h2, decide_eq_false (show ¬ (1 ≤ l.length ∧ l.length ≤ 8) by omega), Bool.false_and]
   exact jf
  ·rw [decide_eq_false h2, decide_eq_true (show 1 ≤ l.length ∧ l.length ≤ 8 by omega), Bool.true_and]
   have hs := sq_le l.length (by omega)
   have hw : wrap64 ((l.length : Int) * (l.length : Int)) = ((l.length * l.length : Nat) : Int) := by
    rw [← Int.natCast_mul]
    exact w64 (by omega) (by omega)
   have hw1 : wrap64 (((l.length * l.length : Nat) : Int) - 1) = ((l.length * l.length : Nat) : Int) - 1 := w64 (by omega) (by omega)
   generalize hN : l.length * l.length = N at hs hw hw1 ⊢
   refine Ev.step (fun k => by rw [spec_l09Mask.j0]) ?_
   simp only [Bool.false_eq_true, if_false, hw, if_pos (show 0 ≤ (N : Int) by omega), Int.toNat_natCast, if_pos (show N ≤ 281474976710656 by omega)]
   rw [← seenOf_nil]
   have gen := ev_fold l (fun m (pre : List Int) k => spec_l09Mask.l0 k l (l.length : Int) (seenOf N pre) (m : Int)) (fun d pre => okRows l.length N pre d) (fun _ _ => True) ?_ ?_ 0 [] (by omega) trivial
   ·exact gen
   ·intro pre _
    refine Ev.step (fun k => by rw [spec_l09Mask.l0]) ?_
    simp only [if_neg (show ¬ (l.length : Int) < (l.length : Int) by omega)]
    exact Ev.now _
   ·intro m hm pre _ ih
    have hrm := hr _ (List.getElem_mem hm)
    refine Ev.step (fun k => by rw [spec_l09Mask.l0]) ?_
    simp only [if_pos (show (m : Int) < (l.length : Int) by omega), if_pos (show 0 ≤ (m : Int) by omega), rdr_nat hm]
    rw [okRows]
    by_cases hl : (l[m].length : Int) = (l.length : Int)
    ·simp only [if_pos hl]
     rw [decide_eq_true (show l[m].length = l.length by omega), Bool.true_and]
     have ih' := ih (pre ++ l[m]) trivial
     generalize hy : l[m] = y at hrm hl ih' ⊢
     generalize okRows l.length N (pre ++ y) (l.drop (m + 1)) = R at ih' ⊢
     have inner := ev_fold y (fun j (q : List Int) k => spec_l09Mask.l1 k l (l.length : Int) (seenOf N q) (m : Int) (j : Int)) (fun d q => okAll N q d && R) (fun j q => q = pre ++ y.take j) ?_ ?_ 0 pre (by omega) (by simp)
     ·exact inner
     ·intro q hq
      refine Ev.step (fun k => by rw [spec_l09Mask.l1]) ?_
      simp only [if_pos (show (m : Int) < (l.length : Int) by omega), if_pos (show 0 ≤ (m : Int) by omega), rdr_nat hm, hy, if_neg (show ¬ (y.length : Int) < (y.length : Int) by omega), w_succ (m := m) (by omega)]
      rw [hq, List.take_length]
      simpa [okAll] using ih'
     ·intro j hj q hq ihj
      refine Ev.step (fun k => by rw [spec_l09Mask.l1]) ?_
      simp only [if_pos (show (m : Int) < (l.length : Int) by omega), if_pos (show 0 ≤ (m : Int) by omega), if_pos (show 0 ≤ (j : Int) by omega), rdr_nat hm, hy, if_pos (show (j : Int) < (y.length : Int) by omega), rd_nat hj, in_tells, Option.bind_some, hw, hw1]
      rw [okAll]
      by_cases hz : 0 ≤ y[j] ∧ y[j] ≤ (N : Int) - 1
      ·simp only [decide_eq_true hz, if_true, Bool.true_and, if_pos hz.1, seenOf_len, if_pos (show y[j] < (N : Int) by omega), seenOf_at N q y[j] hz.1 (by omega)]
       by_cases hq2 : y[j] ∈ q
       ·simp only [decide_eq_true hq2, if_true, Bool.not_true, Bool.false_and]
        exact Ev.now _
       ·simp only [decide_eq_false hq2, Bool.false_eq_true, if_false, Bool.not_false, Bool.true_and, seenOf_set N q y[j] hz.1 (by omega), w_succ (m := j) (by omega)]
        exact ihj (q ++ [y[j]]) (by rw [hq, List.append_assoc, ← List.take_succ_eq_append_getElem hj])
      ·simp only [decide_eq_false hz, Bool.false_eq_true, if_false, Bool.false_and]
       exact Ev.now _
    ·simp only [if_neg hl]
     rw [decide_eq_false (show ¬ l[m].length = l.length by omega), Bool.false_and]
     exact Ev.now _
end Go.Proofs.Ytckonklpdepgoaa.Com
namespace Go.Proofs.Ytckonklpdepgoaa.Com
set_option linter.unusedSimpArgs false
set_option linter.unusedVariables false
set_option linter.unusedSectionVars false
open Go.RowKit Go.Proofs.YtckonklpdepgoaaW.PrintWords Go.Proofs.YtckonklpdepgoaaW.PrintMore Go.Proofs.Ytckonklpdepgoaa.Q
def tot : List (List Int) → Int
 | [] => 0
 | x :: r => (x.length : Int) + tot r
theorem tot_nn (l : List (List Int)) : 0 ≤ tot l := by
 induction l with
 | nil => exact Int.le_refl _
 | cons x r ih => unfold tot; omega
theorem szr_tot (l : List (List Int)) : ∀ a, 0 ≤ szr a l → szr a l = a - tot l := by
 induction l with
 | nil => intro a _; simp [szr, tot]
 | cons y r ih =>
  intro a h
  unfold szr at h ⊢
  unfold tot
  split at h
  ·omega
  ·rename_i c
   rw [if_neg c, ih _ h]
   omega
theorem szSS_ev (l : List (List Int)) (a : Int) (ha : 0 ≤ a ∧ a ≤ 1048576) (hl : l.length ≤ maxLen) (hr : ∀ x ∈ l, x.length ≤ maxLen) :
  ∃ t, Ev (fun k => laws_szInt64SS.f k l a) t ∧ (t = -1 ∨ (0 ≤ t ∧ t ≤ a ∧ l.length ≤ 1048576 ∧ (∀ x ∈ l, x.length ≤ 1048576) ∧ tot l ≤ 1048576)) := by
 unfold laws_szInt64SS.f
 have hm : maxLen ≤ 9223372036854775807 := by decide
 rw [w64 (x := a - (l.length : Int)) (by omega) (by omega)]
 by_cases h : a - (l.length : Int) < 0
 ·refine ⟨-1, ?_, .inl rfl⟩
  simp only [if_pos h]
  exact Ev.now _
 ·refine ⟨szr (a - l.length) l, ?_, ?_⟩
  ·simp only [if_neg h]
   have gen := ev_fold l (fun m (s : Int) k => laws_szInt64SS.l0 k l s (m : Int)) (fun d s => szr s d) (fun m s => 0 ≤ s ∧ s ≤ 1048576) ?_ ?_ 0 (a - (l.length : Int)) (by omega) ⟨by omega, by omega⟩
   ·exact gen
   ·intro s _
    refine Ev.step (fun k => by rw [laws_szInt64SS.l0]) ?_
    simp only [if_neg (show ¬ (l.length : Int) < (l.length : Int) by omega)]
    exact Ev.now _
   ·rintro m hm s ⟨s0, s1⟩ k
    refine Ev.step (fun k => by rw [laws_szInt64SS.l0]) ?_
    simp only [if_pos (show (m : Int) < (l.length : Int) by omega), if_pos (show 0 ≤ (m : Int) by omega), rdr_nat hm, w_succ (m := m) (by omega), sz_tells l[m] s (hr _ (List.getElem_mem hm)) (by omega), Option.bind_some]
    unfold szr
    by_cases c : s - (l[m].length : Int) < 0
    ·simp only [if_pos c, if_pos (show (-1 : Int) < 0 by omega)]
     exact Ev.now _
    ·simp only [if_neg c]
     exact k _ ⟨by omega, by omega⟩
  ·by_cases c : szr (a - l.length) l < 0
   ·have := szr_ge l (a - l.length) (by omega)
    exact .inl (by omega)
   ·have e := szr_tot l (a - l.length) (by omega)
    have := tot_nn l
    exact .inr ⟨by omega, by omega, by omega, szr_tells l (a - (l.length : Int)) (by omega) (by omega), by omega⟩
def Grid (R C : Nat) (g : List (List Int)) : Prop := g.length = R ∧ ∀ x ∈ g, x.length = C
theorem Grid.row {R C : Nat} {g : List (List Int)} (h : Grid R C g) {i : Nat} (hi : i < R) : i < g.length ∧ ∀ (h' : i < g.length), g[i].length = C := ⟨by rw [h.1]; exact hi, fun h' => h.2 _ (List.getElem_mem h')⟩
theorem Grid.rd {R C : Nat} {g : List (List Int)} (h : Grid R C g) {i : Nat} (hi : i < R) : (rd_L1 g (i : Int)).length = C := by
 rw [rdr_nat (h.row hi).1]
 exact (h.row hi).2 _
end Go.Proofs.Ytckonklpdepgoaa.Com
namespace Go.Proofs.Ytckonklpdepgoaa.Com
set_option linter.unusedSimpArgs false
set_option linter.unusedVariables false
set_option linter.unusedSectionVars false
open Go.RowKit Go.Proofs.YtckonklpdepgoaaW.PrintWords Go.Proofs.YtckonklpdepgoaaW.PrintMore Go.Proofs.Ytckonklpdepgoaa.Q
theorem mnf_le (ds : List Int) : ∀ s, ds.foldl mn s ≤ s ∧ ∀ d ∈ ds, ds.foldl mn s ≤ d := by
 induction ds with
 | nil => intro s; simp
 | cons x r ih =>
  intro s
  obtain ⟨h1, h2⟩ := ih (mn s x)
  have h3 : mn s x ≤ s ∧ mn s x ≤ x := by unfold mn; split <;> omega
  rw [List.foldl_cons]
  exact ⟨by omega, fun d hd => (List.mem_cons.1 hd).elim (fun e => by rw [e]; omega) (h2 d)⟩
theorem mnf_mem (ds : List Int) : ∀ s, ds.foldl mn s = s ∨ ds.foldl mn s ∈ ds := by
 induction ds with
 | nil => intro s; exact .inl rfl
 | cons x r ih =>
  intro s
  rw [List.foldl_cons]
  rcases ih (mn s x) with h | h
  ·have h3 : mn s x = s ∨ mn s x = x := by unfold mn; split <;> simp
   rcases h3 with h3 | h3
   ·exact .inl (h.trans h3)
   ·exact .inr (by rw [h, h3]; exact List.mem_cons_self ..)
  ·exact .inr (List.mem_cons_of_mem _ h)
theorem mnf_mono (a b : List Int) (s : Int) (h : ∀ x ∈ a, x ∈ b) : b.foldl mn s ≤ a.foldl mn s := by
 have h1 := mnf_le b s
 rcases mnf_mem a s with e | e
 ·rw [e]; exact h1.1
 ·exact h1.2 _ (h _ e)
theorem mnf_ext (a b : List Int) (s : Int) (h : ∀ x, x ∈ a ↔ x ∈ b) : a.foldl mn s = b.foldl mn s := by
 have h1 := mnf_mono a b s (fun x hx => (h x).1 hx)
 have h2 := mnf_mono b a s (fun x hx => (h x).2 hx)
 omega
theorem way_symm (n a b : Int) : impl_SpreadOf.way n a b = impl_SpreadOf.way n b a := by
 unfold impl_SpreadOf.way
 have : mx (wrap64 (a - b)) (wrap64 (b - a)) = mx (wrap64 (b - a)) (wrap64 (a - b)) := by unfold mx; split <;> split <;> omega
 rw [this]
theorem dist_symm (n : Int) (p q : Int × Int) : impl_SpreadOf.dist n p q = impl_SpreadOf.dist n q p := by
 unfold impl_SpreadOf.dist
 rw [way_symm n p.1 q.1, way_symm n p.2 q.2]
def prs (n : Int) (X : List (Int × Int)) (c : Nat) : List Int := (List.range c).flatMap fun (j : Nat) => (List.range j).map fun (i : Nat) => impl_SpreadOf.dist n (X.getD j (0, 0)) (X.getD i (0, 0))
theorem outer_prs (n : Int) (X : List (Int × Int)) (c : Nat) (s : Int) : impl_SpreadOf.outer n X c s = (prs n X c).foldl mn s := by
 unfold impl_SpreadOf.outer prs impl_SpreadOf.inner
 rw [List.foldl_flatMap]
 congr 1
 funext s j
 rw [List.foldl_map]
theorem getD_lt {X : List (Int × Int)} {i : Nat} (h : i < X.length) : X.getD i (0, 0) = X[i] := by
 rw [List.getD_eq_getElem?_getD, List.getElem?_eq_getElem h]; rfl
theorem mem_prs (n : Int) (X : List (Int × Int)) (hX : X.Nodup) (d : Int) : d ∈ prs n X X.length ↔ ∃ p ∈ X, ∃ q ∈ X, p ≠ q ∧ d = impl_SpreadOf.dist n p q := by
 unfold prs
 rw [List.mem_flatMap]
 constructor
 ·rintro ⟨j, hj, h⟩
  obtain ⟨i, hi, rfl⟩ := List.mem_map.1 h
  have hj' := List.mem_range.1 hj
  have hi' := List.mem_range.1 hi
  have hi2 : i < X.length := by omega
  refine ⟨X[j], List.getElem_mem hj', X[i], List.getElem_mem hi2, fun e => ?_, by rw [getD_lt hj', getD_lt hi2]⟩
  have := (List.getElem_inj (h₀ := hj') (h₁ := hi2) hX).1 e
  omega
 ·rintro ⟨p, hp, q, hq, hne, rfl⟩
  obtain ⟨a, ha, rfl⟩ := List.getElem_of_mem hp
  obtain ⟨b, hb, rfl⟩ := List.getElem_of_mem hq
  rcases Nat.lt_trichotomy a b with h | h | h
  ·refine ⟨b, List.mem_range.2 hb, List.mem_map.2 ⟨a, List.mem_range.2 h, ?_⟩⟩
   rw [getD_lt ha, getD_lt hb, dist_symm]
  ·subst h; exact absurd rfl hne
  ·refine ⟨a, List.mem_range.2 ha, List.mem_map.2 ⟨b, List.mem_range.2 h, ?_⟩⟩
   rw [getD_lt ha, getD_lt hb]
theorem outer_ext (n : Int) (X Y : List (Int × Int)) (hX : X.Nodup) (hY : Y.Nodup) (h : ∀ p, p ∈ X ↔ p ∈ Y) (s : Int) : impl_SpreadOf.outer n X X.length s = impl_SpreadOf.outer n Y Y.length s := by
 rw [outer_prs, outer_prs]
 refine mnf_ext _ _ _ (fun d => ?_)
 rw [mem_prs n X hX, mem_prs n Y hY]
 simp only [h]
theorem mem_pls (c : Int) (l : List (List Int)) (n : Nat) (hl : ∀ a : Nat, a < n → (rda l (a : Int)).length = n) (p : Int × Int) : p ∈ impl_SpreadOf.pls c l n ↔ ∃ i k : Nat, i < n ∧ k < n ∧ rd (rda l (i : Int)) (k : Int) < c ∧ p = ((i : Int), (k : Int)) := by
 unfold impl_SpreadOf.pls impl_SpreadOf.row
 rw [List.mem_flatMap]
 constructor
 ·rintro ⟨i, hi, h⟩
  obtain ⟨k, hk, e⟩ := List.mem_filterMap.1 h
  have hi' := List.mem_range.1 hi
  have hk' := List.mem_range.1 hk
  rw [hl i hi'] at hk'
  split at e
  ·rename_i hc
   exact ⟨i, k, hi', hk', hc, (Option.some.inj e).symm⟩
  ·cases e
 ·rintro ⟨i, k, hi, hk, hc, rfl⟩
  refine ⟨i, List.mem_range.2 hi, List.mem_filterMap.2 ⟨k, List.mem_range.2 (by rw [hl i hi]; exact hk), ?_⟩⟩
  rw [if_pos hc]
theorem pls_nodup (c : Int) (l : List (List Int)) (n : Nat) : (impl_SpreadOf.pls c l n).Nodup := by
 unfold impl_SpreadOf.pls impl_SpreadOf.row
 rw [List.nodup_iff_pairwise_ne, List.pairwise_flatMap]
 refine ⟨fun i _ => ?_, ?_⟩
 ·rw [List.pairwise_filterMap]
  refine (List.nodup_iff_pairwise_ne.1 List.nodup_range).imp (fun {a b} hab x hx y hy e => ?_)
  split at hx
  ·split at hy
   ·have h1 := Option.some.inj hx
    have h2 := Option.some.inj hy
    rw [← h2, ← h1] at e
    injection e with _ e
    exact hab (by omega)
   ·cases hy
  ·cases hx
 ·refine (List.nodup_iff_pairwise_ne.1 List.nodup_range).imp (fun {a b} hab x hx y hy e => ?_)
  obtain ⟨k, _, ek⟩ := List.mem_filterMap.1 hx
  obtain ⟨k', _, ek'⟩ := List.mem_filterMap.1 hy
  split at ek
  ·split at ek'
   ·have h1 := Option.some.inj ek
    have h2 := Option.some.inj ek'
    rw [← h2, ← h1] at e
    injection e with e _
    exact hab (by omega)
   ·cases ek'
  ·cases ek
def spreadOf (l : List (List Int)) (a : Int) : Int × Bool := if isMaskB l = true then (if 2 ≤ a ∧ a ≤ ((l.length * l.length : Nat) : Int) then (impl_SpreadOf.outer (l.length : Int) (impl_SpreadOf.pls a l l.length) (impl_SpreadOf.pls a l l.length).length (2 * ((l.length * l.length : Nat) : Int)), true) else (0, false)) else (0, false)
theorem sq_wraps (n : Nat) (h : n ≤ 8) : wrap64 ((n : Int) * (n : Int)) = ((n * n : Nat) : Int) ∧ wrap64 (wrap64 (2 * (n : Int)) * (n : Int)) = 2 * ((n * n : Nat) : Int) := by
 have hs := sq_le n h
 refine ⟨by rw [← Int.natCast_mul]; exact w64 (by omega) (by omega), ?_⟩
 rw [w64 (x := 2 * (n : Int)) (by omega) (by omega), Int.mul_assoc, ← Int.natCast_mul]
 exact w64 (by omega) (by omega)
theorem implSpread_ev (l : List (List Int)) (a : Int) : Ev (fun k => impl_SpreadOf.f k l a) (spreadOf l a) := by
 unfold impl_SpreadOf.f spreadOf
 refine Ev.bind (implMask_ev l) ?_
 by_cases h : isMaskB l = true
 ·obtain ⟨h1, _⟩ := isMaskB_len h
  have hw := sq_wraps l.length h1.2
  simp only [h, if_true, hw.1, hw.2, within_tells, Option.bind_some]
  by_cases c : 2 ≤ a ∧ a ≤ ((l.length * l.length : Nat) : Int)
  ·simp only [decide_eq_true c, if_true, if_pos c]
   exact Ev.now _
  ·simp only [decide_eq_false c, Bool.false_eq_true, if_false, if_neg c]
   exact Ev.now _
 ·simp only [if_neg h]
  exact Ev.now _
theorem nodup_le (N : Nat) : ∀ l : List Int, l.Nodup → (∀ z ∈ l, 0 ≤ z ∧ z ≤ (N : Int) - 1) → l.length ≤ N := by
 induction N with
 | zero =>
  intro l _ h
  cases l with
  | nil => simp
  | cons x r => have := h x (List.mem_cons_self ..); omega
 | succ N ih =>
  intro l hn h
  by_cases hm : (N : Int) ∈ l
  ·have h1 := ih (l.erase (N : Int)) (hn.erase _) (fun z hz => by
    have h2 := (hn.mem_erase_iff).1 hz
    have h3 := h z h2.2
    have := h2.1
    omega)
   rw [List.length_erase_of_mem hm] at h1
   omega
  ·have h1 := ih l hn (fun z hz => by
    have h3 := h z hz
    have : z ≠ (N : Int) := fun e => hm (by rw [← e]; exact hz)
    omega)
   omega
theorem all_met (N : Nat) (l : List Int) (hn : l.Nodup) (h : ∀ z ∈ l, 0 ≤ z ∧ z ≤ (N : Int) - 1) (hl : l.length = N) (m : Nat) (hm : m < N) : (m : Int) ∈ l := by
 refine Classical.byContradiction fun hc => ?_
 have h2 : (l.map fun z => if z > (m : Int) then z - 1 else z).Nodup := by
  rw [List.nodup_iff_pairwise_ne, List.pairwise_map]
  refine List.Pairwise.imp_of_mem (fun {a b} ha hb hab e => ?_) (List.nodup_iff_pairwise_ne.1 hn)
  have a1 : a ≠ (m : Int) := fun e => hc (by rw [← e]; exact ha)
  have b1 : b ≠ (m : Int) := fun e => hc (by rw [← e]; exact hb)
  split at e <;> split at e <;> omega
 have h3 := nodup_le (N - 1) _ h2 (fun z hz => by
  obtain ⟨y, hy, rfl⟩ := List.mem_map.1 hz
  have h4 := h y hy
  have y1 : y ≠ (m : Int) := fun e => hc (by rw [← e]; exact hy)
  split <;> omega)
 rw [List.length_map] at h3
 omega
section
variable {l : List (List Int)} {n : Nat} (hn : 1 ≤ n ∧ n ≤ 8) (gl : Grid n n l) (hk : isMaskB l = true)
include hn gl hk
theorem mask_flat : l.flatten.Nodup ∧ (∀ z ∈ l.flatten, 0 ≤ z ∧ z ≤ ((n * n : Nat) : Int) - 1) ∧ l.flatten.length = n * n := by
 have hl := isMaskB_len hk
 have h := hk
 simp only [isMaskB, Bool.and_eq_true] at h
 have h3 := h.2
 rw [okRows_flat _ _ _ _ hl.2, okAll_iff, gl.1] at h3
 refine ⟨h3.2.1, h3.1, ?_⟩
 have := impl_IsMask.flat n l (List.any_eq_false.2 (fun x hx => by unfold impl_IsMask.p; simp [gl.2 x hx]))
 rw [this, gl.1]
theorem mask_at (i k : Nat) (hi : i < n) (hk' : k < n) : ∃ (h1 : i * n + k < l.flatten.length), l.flatten[i * n + k] = rd (rd_L1 l (i : Int)) (k : Int) := by
 have key : ∀ (l : List (List Int)) (i : Nat), i < l.length → (∀ x ∈ l, x.length = n) → ∃ (h1 : i * n + k < l.flatten.length), l.flatten[i * n + k] = (l[i]?.getD []).getD k 0 := by
  intro l
  induction l with
  | nil => intro i hi _; simp at hi
  | cons x r ih =>
   intro i hi hx
   have hx0 := hx x (List.mem_cons_self ..)
   cases i with
   | zero =>
    refine ⟨by simp [List.flatten_cons, hx0]; omega, ?_⟩
    simp only [List.flatten_cons, Nat.zero_mul, Nat.zero_add]
    rw [List.getElem_append_left (by omega)]
    simp [List.getD_eq_getElem?_getD, List.getElem?_eq_getElem (show k < x.length by omega)]
   | succ i =>
    obtain ⟨h1, h2⟩ := ih i (by simpa using hi) (fun y hy => hx y (List.mem_cons_of_mem _ hy))
    refine ⟨by rw [List.flatten_cons, List.length_append, hx0, Nat.succ_mul]; omega, ?_⟩
    simp only [List.flatten_cons]
    rw [List.getElem_append_right (by rw [hx0, Nat.succ_mul]; omega)]
    simp only [hx0, List.getElem?_cons_succ]
    rw [← h2]
    congr 1
    rw [Nat.succ_mul]; omega
 obtain ⟨h1, h2⟩ := key l i (by rw [gl.1]; exact hi) gl.2
 refine ⟨h1, h2.trans ?_⟩
 rw [rdr_nat (by rw [gl.1]; exact hi), List.getElem?_eq_getElem (by rw [gl.1]; exact hi)]
 unfold rd
 rw [Int.toNat_natCast]
 rfl
theorem mask_inj (i k i' k' : Nat) (hi : i < n) (h1 : k < n) (hi' : i' < n) (h1' : k' < n) (e : rd (rd_L1 l (i : Int)) (k : Int) = rd (rd_L1 l (i' : Int)) (k' : Int)) : i = i' ∧ k = k' := by
 obtain ⟨a, ea⟩ := mask_at hn gl hk i k hi h1
 obtain ⟨b, eb⟩ := mask_at hn gl hk i' k' hi' h1'
 rw [← ea, ← eb] at e
 have h := (List.getElem_inj (h₀ := a) (h₁ := b) (mask_flat hn gl hk).1).1 e
 have d1 : (i * n + k) / n = i := by rw [Nat.mul_comm, Nat.mul_add_div (by omega), Nat.div_eq_of_lt h1, Nat.add_zero]
 have d2 : (i' * n + k') / n = i' := by rw [Nat.mul_comm, Nat.mul_add_div (by omega), Nat.div_eq_of_lt h1', Nat.add_zero]
 have hii : i = i' := by rw [← d1, h, d2]
 subst hii
 exact ⟨rfl, by omega⟩
theorem mask_met (m : Nat) (hm : m < n * n) : ∃ i k : Nat, i < n ∧ k < n ∧ rd (rd_L1 l (i : Int)) (k : Int) = (m : Int) := by
 obtain ⟨f1, f2, f3⟩ := mask_flat hn gl hk
 have h := all_met (n * n) l.flatten f1 f2 f3 m hm
 obtain ⟨x, hx, hz⟩ := List.mem_flatten.1 h
 obtain ⟨i, hi, rfl⟩ := List.getElem_of_mem hx
 obtain ⟨k, hk', e⟩ := List.getElem_of_mem hz
 have hi' : i < n := by rw [← gl.1]; exact hi
 have hkn : k < n := by rw [← gl.2 _ (List.getElem_mem hi)]; exact hk'
 exact ⟨i, k, hi', hkn, by rw [rdr_nat hi, rd_nat hk', e]⟩
theorem mask_bd (i k : Nat) (hi : i < n) (hk' : k < n) : 0 ≤ rd (rd_L1 l (i : Int)) (k : Int) ∧ rd (rd_L1 l (i : Int)) (k : Int) ≤ ((n * n : Nat) : Int) - 1 := by
 obtain ⟨a, ea⟩ := mask_at hn gl hk i k hi hk'
 rw [← ea]
 exact (mask_flat hn gl hk).2.1 _ (List.getElem_mem a)
def plInv (l : List (List Int)) (n : Nat) (i k : Nat) (T : List (List Int)) : Prop := T.length = n * n ∧ ∀ a b : Nat, a < n → b < n → (a < i ∨ (a = i ∧ b < k)) → rd_L1 T (rd (rd_L1 l (a : Int)) (b : Int)) = [(a : Int), (b : Int)]
theorem plInv_set (i k : Nat) (hi : i < n) (hk' : k < n) (T : List (List Int)) (h : plInv l n i k T) : plInv l n i (k + 1) (T.set (rd (rd_L1 l (i : Int)) (k : Int)).toNat [(i : Int), (k : Int)]) := by
 obtain ⟨h1, h2⟩ := h
 have b0 := mask_bd hn gl hk i k hi hk'
 refine ⟨by rw [List.length_set]; exact h1, fun a b ha hb hab => ?_⟩
 have b1 := mask_bd hn gl hk a b ha hb
 have hlt : (rd (rd_L1 l (a : Int)) (b : Int)).toNat < T.length := by omega
 have rdL : ∀ (T' : List (List Int)) (z : Int), rd_L1 T' z = T'.getD z.toNat [] := fun _ _ => rfl
 rw [rdL, List.getD_eq_getElem?_getD, List.getElem?_eq_getElem (by rw [List.length_set]; exact hlt), List.getElem_set]
 by_cases e : rd (rd_L1 l (i : Int)) (k : Int) = rd (rd_L1 l (a : Int)) (b : Int)
 ·obtain ⟨e1, e2⟩ := mask_inj hn gl hk i k a b hi hk' ha hb e
  subst e1
  subst e2
  simp
 ·rw [if_neg (by omega)]
  have hne : ¬ (a = i ∧ b = k) := fun h => e (by rw [h.1, h.2])
  have := h2 a b ha hb (by omega)
  rw [rdL, List.getD_eq_getElem?_getD, List.getElem?_eq_getElem hlt] at this
  exact this
def ptsOf (T : List (List Int)) : List (Int × Int) := T.map fun x => (rd x 0, rd x 1)
theorem round_tells (a b m : Int) : spec_l09Round.f a b m = some (impl_SpreadOf.way m a b) := by
 unfold spec_l09Round.f spec_l00Max.f impl_SpreadOf.way
 have e1 : (if wrap64 (a - b) > wrap64 (b - a) then some (wrap64 (a - b)) else some (wrap64 (b - a))) = some (mx (wrap64 (a - b)) (wrap64 (b - a))) := by
  unfold mx
  split <;> split <;> first | rfl | (congr 1; omega)
 rw [e1]
 simp only [Option.bind_some]
 unfold spec_l00Min.f mn
 split <;> split <;> simp only [Option.bind_some] <;> first | rfl | (congr 1; omega)
theorem min_tells (a b : Int) : spec_l00Min.f a b = some (mn a b) := by
 unfold spec_l00Min.f mn
 split <;> split <;> first | rfl | (congr 1; omega)
theorem specPairs_ev (c : Nat) (hc : c ≤ n * n) (T : List (List Int)) (hT : T.length = n * n) (h2 : ∀ x ∈ T, x.length = 2) (s : Int) : Ev (fun k => spec_SpreadOf.l2 k (c : Int) (n : Int) T s 0) (impl_SpreadOf.outer (n : Int) (ptsOf T) c s, true) := by
 have hs := sq_le n hn.2
 have at_ : ∀ m : Nat, m < n * n → (rd_L1 T (m : Int)).length = 2 ∧ (ptsOf T).getD m (0, 0) = (rd (rd_L1 T (m : Int)) 0, rd (rd_L1 T (m : Int)) 1) := fun m hm => by
  have h : m < T.length := by omega
  rw [rdr_nat h]
  refine ⟨h2 _ (List.getElem_mem h), ?_⟩
  unfold ptsOf
  rw [List.getD_eq_getElem?_getD, List.getElem?_map, List.getElem?_eq_getElem h]
  rfl
 have key := ev_count c (fun j (u : Int) k => spec_SpreadOf.l2 k (c : Int) (n : Int) T u (j : Int)) (impl_SpreadOf.outer (n : Int) (ptsOf T) c s, true) (fun j u => u = impl_SpreadOf.outer (n : Int) (ptsOf T) j s) ?_ ?_ 0 s (by omega) (impl_SpreadOf.outer_zero _ _ _).symm
 ·exact key
 ·intro u hu
  refine Ev.step (fun k => by rw [spec_SpreadOf.l2]) ?_
  simp only [if_neg (show ¬ (c : Int) < (c : Int) by omega)]
  rw [hu]
  exact Ev.now _
 ·intro j u hj hu
  refine ⟨impl_SpreadOf.inner (n : Int) (ptsOf T) j j u, by rw [impl_SpreadOf.outer_succ, hu], fun h => ?_⟩
  refine Ev.step (fun k => by rw [spec_SpreadOf.l2]) ?_
  simp only [if_pos (show (j : Int) < (c : Int) by omega)]
  have inner := ev_count j (fun i (v : Int) k => spec_SpreadOf.l3 k (c : Int) (n : Int) T v (j : Int) (i : Int)) (impl_SpreadOf.outer (n : Int) (ptsOf T) c s, true) (fun i v => v = impl_SpreadOf.inner (n : Int) (ptsOf T) j i u) ?_ ?_ 0 u (by omega) (impl_SpreadOf.inner_zero _ _ _ _).symm
  ·exact inner
  ·intro v hv
   refine Ev.step (fun k => by rw [spec_SpreadOf.l3]) ?_
   simp only [if_neg (show ¬ (j : Int) < (j : Int) by omega), w_succ (m := j) (by omega)]
   rw [hv]
   exact h
  ·intro i v hi hv
   obtain ⟨a1, a2⟩ := at_ j (by omega)
   obtain ⟨b1, b2⟩ := at_ i (by omega)
   refine ⟨mn v (impl_SpreadOf.dist (n : Int) ((ptsOf T).getD j (0, 0)) ((ptsOf T).getD i (0, 0))), by rw [impl_SpreadOf.inner_succ, hv], fun h3 => ?_⟩
   refine Ev.step (fun k => by rw [spec_SpreadOf.l3]) ?_
   simp only [if_pos (show (i : Int) < (j : Int) by omega), if_pos (show 0 ≤ (j : Int) by omega), if_pos (show 0 ≤ (i : Int) by omega), hT, if_pos (show (j : Int) < ((n * n : Nat) : Int) by omega), if_pos (show (i : Int) < ((n * n : Nat) : Int) by omega), a1, b1, if_pos (show (0 : Int) < ((2 : Nat) : Int) by omega), if_pos (show (1 : Int) < ((2 : Nat) : Int) by omega), round_tells hn gl hk, min_tells hn gl hk, Option.bind_some, w_succ (m := i) (by omega)]
   rw [a2, b2] at h3
   exact h3
theorem specPlaces_ev (c : Nat) (hc : c ≤ n * n) : ∃ T : List (List Int), plInv l n n 0 T ∧ ∀ r, Ev (fun k => spec_SpreadOf.l2 k (c : Int) (n : Int) T (wrap64 (wrap64 (2 * (n : Int)) * (n : Int))) 0) r → Ev (fun k => spec_SpreadOf.l0 k l (c : Int) (n : Int) (List.replicate (n * n) []) 0) r := by
 have row : ∀ i, i < n → ∀ d k, k + d = n → ∀ T, plInv l n i k T → ∃ T', plInv l n i n T' ∧ ∀ r, Ev (fun q => spec_SpreadOf.l1 q l (c : Int) (n : Int) T' (i : Int) (n : Int)) r → Ev (fun q => spec_SpreadOf.l1 q l (c : Int) (n : Int) T (i : Int) (k : Int)) r := by
  intro i hi d
  induction d with
  | zero =>
   intro k e T h
   obtain rfl : k = n := by omega
   exact ⟨T, h, fun r h => h⟩
  | succ d ih =>
   intro k e T h
   have hkn : k < n := by omega
   have b0 := mask_bd hn gl hk i k hi hkn
   obtain ⟨T', g1, g2⟩ := ih (k + 1) (by omega) _ (plInv_set hn gl hk i k hi hkn T h)
   refine ⟨T', g1, fun r hr => Ev.step (fun q => by rw [spec_SpreadOf.l1]) ?_⟩
   have hs := sq_le n hn.2
   simp only [if_pos (show (k : Int) < (n : Int) by omega), if_pos (show 0 ≤ (i : Int) by omega), if_pos (show 0 ≤ (k : Int) by omega), gl.1, if_pos (show (i : Int) < (n : Int) by omega), gl.rd hi, if_pos b0.1, h.1, if_pos (show rd (rd_L1 l (i : Int)) (k : Int) < ((n * n : Nat) : Int) by omega), w_succ (m := k) (by omega)]
   exact g2 r hr
 have all : ∀ d i, i + d = n → ∀ T, plInv l n i 0 T → ∃ T', plInv l n n 0 T' ∧ ∀ r, Ev (fun q => spec_SpreadOf.l0 q l (c : Int) (n : Int) T' (n : Int)) r → Ev (fun q => spec_SpreadOf.l0 q l (c : Int) (n : Int) T (i : Int)) r := by
  intro d
  induction d with
  | zero =>
   intro i e T h
   obtain rfl : i = n := by omega
   exact ⟨T, h, fun r h => h⟩
  | succ d ih =>
   intro i e T h
   have hi : i < n := by omega
   obtain ⟨T1, k1, k2⟩ := row i hi n 0 (by omega) T h
   obtain ⟨T', g1, g2⟩ := ih (i + 1) (by omega) T1 ⟨k1.1, fun a b ha hb hab => k1.2 a b ha hb (by omega)⟩
   refine ⟨T', g1, fun r hr => Ev.step (fun q => by rw [spec_SpreadOf.l0]) ?_⟩
   simp only [if_pos (show (i : Int) < (n : Int) by omega)]
   refine k2 r (Ev.step (fun q => by rw [spec_SpreadOf.l1]) ?_)
   simp only [if_neg (show ¬ (n : Int) < (n : Int) by omega), w_succ (m := i) (by omega)]
   exact g2 r hr
 obtain ⟨T, h1, h2⟩ := all n 0 (by omega) (List.replicate (n * n) []) ⟨by simp, fun a b ha hb hab => by omega⟩
 refine ⟨T, h1, fun r hr => h2 r (Ev.step (fun q => by rw [spec_SpreadOf.l0]) ?_)⟩
 simp only [if_neg (show ¬ (n : Int) < (n : Int) by omega)]
 exact hr
theorem places_same (c : Nat) (hc : c ≤ n * n) (T : List (List Int)) (hT : plInv l n n 0 T) (s : Int) : impl_SpreadOf.outer (n : Int) (ptsOf T) c s = impl_SpreadOf.outer (n : Int) (impl_SpreadOf.pls (c : Int) l n) (impl_SpreadOf.pls (c : Int) l n).length s := by
 have rows : ∀ a : Nat, a < n → (rda l (a : Int)).length = n := fun a ha => gl.rd ha
 have pt : ∀ m : Nat, m < n * n → ∃ i k : Nat, i < n ∧ k < n ∧ rd (rd_L1 l (i : Int)) (k : Int) = (m : Int) ∧ (ptsOf T).getD m (0, 0) = ((i : Int), (k : Int)) := fun m hm => by
  obtain ⟨i, k, hi, hk', e⟩ := mask_met hn gl hk m hm
  refine ⟨i, k, hi, hk', e, ?_⟩
  have h := hT.2 i k hi hk' (.inl hi)
  rw [e] at h
  have hlt : m < T.length := by rw [hT.1]; exact hm
  rw [rdr_nat hlt] at h
  unfold ptsOf
  rw [List.getD_eq_getElem?_getD, List.getElem?_map, List.getElem?_eq_getElem hlt, h]
  rfl
 have hlen : (ptsOf T).length = n * n := by unfold ptsOf; rw [List.length_map, hT.1]
 have htake : ((ptsOf T).take c).length = c := by rw [List.length_take, hlen]; omega
 have e1 : impl_SpreadOf.outer (n : Int) (ptsOf T) c s = impl_SpreadOf.outer (n : Int) ((ptsOf T).take c) ((ptsOf T).take c).length s := by
  rw [htake, outer_prs, outer_prs]
  congr 1
  unfold prs
  rw [List.flatMap_def, List.flatMap_def]
  congr 1
  apply List.map_congr_left
  intro j hj
  have hj' := List.mem_range.1 hj
  apply List.map_congr_left
  intro i hi
  have hi' := List.mem_range.1 hi
  rw [List.getD_eq_getElem?_getD, List.getD_eq_getElem?_getD, List.getD_eq_getElem?_getD, List.getD_eq_getElem?_getD, List.getElem?_take_of_lt hj', List.getElem?_take_of_lt (show i < c by omega)]
 rw [e1]
 refine outer_ext _ _ _ ?_ (pls_nodup _ _ _) (fun p => ?_) s
 ·rw [List.nodup_iff_pairwise_ne, List.pairwise_iff_getElem]
  intro i j hi hj hij e
  rw [htake] at hi hj
  obtain ⟨a, b, a1, b1, e1, q1⟩ := pt i (by omega)
  obtain ⟨a', b', a2, b2, e2, q2⟩ := pt j (by omega)
  rw [List.getElem_take, List.getElem_take] at e
  rw [getD_lt (by rw [hlen]; omega)] at q1 q2
  rw [q1, q2] at e
  injection e with ea eb
  have ha : a = a' := by omega
  have hb : b = b' := by omega
  subst ha
  subst hb
  omega
 ·rw [mem_pls _ _ _ rows]
  constructor
  ·intro hp
   obtain ⟨m, hm, rfl⟩ := List.getElem_of_mem hp
   rw [htake] at hm
   obtain ⟨i, k, hi, hk', e, q⟩ := pt m (by omega)
   rw [List.getElem_take]
   rw [getD_lt (by rw [hlen]; omega)] at q
   exact ⟨i, k, hi, hk', by show rd (rd_L1 l (i : Int)) (k : Int) < (c : Int); omega, q⟩
  ·rintro ⟨i, k, hi, hk', hlt, rfl⟩
   have hlt' : rd (rd_L1 l (i : Int)) (k : Int) < (c : Int) := hlt
   have b0 := mask_bd hn gl hk i k hi hk'
   obtain ⟨m, hm⟩ : ∃ m : Nat, rd (rd_L1 l (i : Int)) (k : Int) = (m : Int) := ⟨_, (Int.toNat_of_nonneg b0.1).symm⟩
   obtain ⟨a, b, a1, b1, e, q⟩ := pt m (by omega)
   obtain ⟨ea, eb⟩ := mask_inj hn gl hk i k a b hi hk' a1 b1 (by rw [hm, e])
   subst ea
   subst eb
   rw [getD_lt (by rw [hlen]; omega)] at q
   rw [← q]
   have h5 : m < ((ptsOf T).take c).length := by rw [htake]; omega
   have h6 : ((ptsOf T).take c)[m] = (ptsOf T)[m]'(by rw [hlen]; omega) := List.getElem_take
   rw [← h6]
   exact List.getElem_mem h5
end
theorem specSpread_ev (l : List (List Int)) (a : Int) (hx : l.length ≤ 1048576) (hr : ∀ x ∈ l, x.length ≤ 1048576) : Ev (fun k => spec_SpreadOf.f k l a) (spreadOf l a) := by
 unfold spec_SpreadOf.f spreadOf
 have no : ∀ m : Int, Ev (fun k => spec_SpreadOf.j0 k l a m true) (0, false) := fun m => Ev.step (fun k => by rw [spec_SpreadOf.j0]) (by simp only [if_true]; exact Ev.now _)
 refine Ev.bind (specMask_ev l hx hr) ?_
 by_cases h : isMaskB l = true
 ·obtain ⟨h1, h2⟩ := isMaskB_len h
  have gl : Grid l.length l.length l := ⟨rfl, h2⟩
  have hw := sq_wraps l.length h1.2
  have hs := sq_le l.length h1.2
  simp only [h, if_true, hw.1, in_tells, Option.bind_some]
  by_cases c : 2 ≤ a ∧ a ≤ ((l.length * l.length : Nat) : Int)
  ·simp only [decide_eq_true c, if_pos c, Bool.not_true]
   obtain ⟨m, rfl⟩ : ∃ m : Nat, a = m := ⟨a.toNat, by omega⟩
   obtain ⟨T, t1, t2⟩ := specPlaces_ev h1 gl h m (by omega)
   refine Ev.step (fun k => by rw [spec_SpreadOf.j0]) ?_
   simp only [Bool.false_eq_true, if_false, hw.1, if_pos (show 0 ≤ ((l.length * l.length : Nat) : Int) by omega), Int.toNat_natCast, if_pos (show l.length * l.length ≤ 11728124029610 by omega)]
   refine t2 _ ?_
   rw [hw.2, ← places_same h1 gl h m (by omega) T t1]
   refine specPairs_ev h1 gl h m (by omega) T t1.1 (fun x hx => ?_) _
   obtain ⟨q, hq, rfl⟩ := List.getElem_of_mem hx
   obtain ⟨i, k, hi, hk', e⟩ := mask_met h1 gl h q (by rw [← t1.1]; exact hq)
   have h5 := t1.2 i k hi hk' (.inl hi)
   rw [e, rdr_nat hq] at h5
   rw [h5]
   rfl
  ·simp only [decide_eq_false c, if_neg c, Bool.not_false]
   exact no _
 ·simp only [if_neg h]
  exact no _
end Go.Proofs.Ytckonklpdepgoaa.Com
namespace Go.Proofs.Ytckonklpdepgoaa.Pure
set_option linter.unusedSimpArgs false
set_option linter.unusedVariables false
open Go.RowKit Go.Proofs.Ytckonklpdepgoaa.Q Go.Proofs.YtckonklpdepgoaaW.PrintWords Go.Proofs.YtckonklpdepgoaaW.PrintLast Go.Proofs.Ytckonklpdepgoaa.Com
theorem FnExactSpreadOf : laws_FnExactSpreadOf.Pure := by
 intro p a hp ha
 apply ev_of
 unfold laws_FnExactSpreadOf.f
 obtain ⟨t1, e1, h1⟩ := szSS_ev p 1048576 (by omega) hp.1 (fun x hx => (hp.2 x hx).1)
 refine Ev.bind e1 ?_
 rcases h1 with rfl | ⟨a0, a1, p1, p2, p3⟩
 ·simp only [if_pos (show (-1 : Int) < 0 by omega)]
  exact Ev.now _
 simp only [if_neg (show ¬ t1 < 0 by omega)]
 refine Ev.bind (toInt64SS_ev p p1 p2) (Ev.bind (specSpread_ev p a p1 p2) (Ev.bind (toInt64SS_ev p p1 p2) (Ev.bind (implSpread_ev p a) ?_)))
 simp only [if_true, bne_self_eq_false]
 refine Ev.step (fun k => by rw [laws_FnExactSpreadOf.j0]) ?_
 simp only [Bool.false_eq_true, if_false]
 refine Ev.bind (toInt64SS_ev p p1 p2) (Ev.bind (eqInt64SS_ev p p1 p2) ?_)
 simp only [if_true]
 exact Ev.now _
end Go.Proofs.Ytckonklpdepgoaa.Pure
