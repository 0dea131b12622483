/- The statement FnSpread, with all that its proof stands on: functions of the program as plain functions, the program's walks, and the plain law. Conditions: none beyond the statement's own. -/
import Derived.ArgAppend
import Derived.Below
import Derived.BigQuiet
import Derived.BigRegion
import Derived.Deep.AppendLies
import Derived.Deep.CutBlock
import Derived.Deep.DeepCutAuto
import Derived.Deep.Draws
import Derived.Deep.LoopGhost
import Derived.Deep.OwnRows
import Derived.Deep.QuietTactic
import Derived.Deep.RegionHeld3
import Derived.Ground.SlgmProg
import Derived.Ground.SlgnProg
import Derived.KernelRfl
import Derived.Laws.BitsLemmas
import Derived.Laws.BytesArg
import Derived.Laws.IdiomCopy
import Derived.Laws.MakeOwn
import Derived.Laws.OwnMore
import Derived.Laws.Rows
import Derived.Laws.Slices
import Derived.Lib.AppendStr
import Derived.Lib.ConvBytes
import Derived.Maps.AppendAt
import Derived.OrdersHeld
import Derived.OwnWalk
import Derived.ProofKit
import Derived.RowKit
import Derived.RowKit3
import Derived.Shelf.SlicesE.Clone
import Derived.Shelf.Small.Bits
import Derived.Shelf.Small.Strs
import Derived.Shelf.SortM.Plain
import Derived.Shelf.Strconv.Itoa0
import Derived.Shelf.Strings.Search1
import Derived.Sort.OwnSortedInts
import Derived.Tactics
import Derived.Test.YtckonklpdepgoaaProg
import Derived.WalkKit
import Derived.WideLaws
import Derived.Test.YtckonklpdepgoaaBFnSpread1
import Derived.Test.YtckonklpdepgoaaBFnSpread2
import Derived.Test.YtckonklpdepgoaaBFnSpread3
import Derived.Test.YtckonklpdepgoaaBFnSpread4
import Derived.Test.YtckonklpdepgoaaBFnSpread5
import Derived.Test.YtckonklpdepgoaaBFnSpread6
set_option linter.unusedVariables false
set_option linter.unusedSimpArgs false
namespace Go.Proofs.Ytckonklpdepgoaa.Q
open Go.RowKit Go.Proofs.YtckonklpdepgoaaW.PrintWords Go.Proofs.YtckonklpdepgoaaW.PrintLast Go.Proofs.YtckonklpdepgoaaW.PrintMore
attribute [local go_sem] max2_int min2_int max_two min_two max_three min_three max_four min_four   -- for this text's walks alone
set_option linter.unusedVariables false
set_option linter.unusedSimpArgs false
def impl_IsMask.p (n : Nat) (x : List Int) : Bool := decide (x.length ≠ n)
def impl_IsMask.f (k : Nat) (l0 : List (List Int)) : Option (Bool) := if 1 ≤ l0.length ∧ l0.length ≤ 8 then (if l0.any (impl_IsMask.p l0.length) = true then some false else impl_isSet.f k (l0.flatten.mergeSort fun x y => decide (x ≤ y)) (wrap64 ((l0.length : Int) * (l0.length : Int)))) else some false
theorem impl_IsMask.mono : ∀ a0 k, LeO (impl_IsMask.f k a0) (impl_IsMask.f (k + 1) a0) := by
 intro a0 k
 unfold impl_IsMask.f
 refine LeO.ite (LeO.ite (LeO.refl _) (impl_isSet.mono _ _ _)) (LeO.refl _)
theorem impl_IsMask.flat (n : Nat) (l : List (List Int)) (h : l.any (impl_IsMask.p n) = false) : l.flatten.length = l.length * n := by
 induction l with
 | nil => simp
 | cons y ys ih =>
  simp only [List.any_cons, Bool.or_eq_false_iff] at h
  have h1 : y.length = n := by have := h.1; unfold impl_IsMask.p at this; simpa using this
  rw [List.flatten_cons, List.length_append, ih h.2, h1, List.length_cons, Nat.succ_mul, Nat.add_comm]
set_option maxHeartbeats 2000000 in
theorem impl_IsMask.one (b n : Nat) (A : Option Addr) (c : Nat) (x : List Int) (w : World) (h1 : w.cell? ⟨b, 0, none⟩ = some (.int .i64 n)) (hlc : x.length ≤ c) (hx : Kd.C (Kd.int .i64) w A x.length x) :
  Calls Try.prog 81 (#[.slice A x.length c] ++ #[.pointer (some ⟨b, 0, none⟩)]) w fun e w' => e = .returned (.bool (impl_IsMask.p n x)) ∧ Below w.heap.size w w' := by
 have HX := Aside0.mk hx
 have HL := Aside0.mk hlc
 clear hx hlc
 by_cases q : x.length = n
 ·have q1 : ((x.length : Int) == (n : Int)) = true := by simp [q]
  have q2 : ((x.length : Int) != (n : Int)) = false := by simp [q]
  have HQ := Aside0.mk q
  clear q
  go_enter Try.func81, Try.ntmps81
  go_wp2
  go_quiet ((go_at_call 69; exact Calls.quiet_of ((impl_size_int64_69.calls A c x _ _ (Kd.C_below HX.out (by repeat (first | exact Below.refl _ _ | apply pw_below_drewN))) HL.out rfl).mono (fun e w' h => ⟨h.1, h.2.out⟩))))
  go_wp2
  go_ret
  refine ⟨?_, ?_⟩
  ·simp [impl_IsMask.p, HQ.out]
  ·repeat (first | exact Below.refl _ _ | apply pw_below_drewN)
 ·have q1 : ((x.length : Int) == (n : Int)) = false := by simp; omega
  have q2 : ((x.length : Int) != (n : Int)) = true := by simp; omega
  have HQ := Aside0.mk q
  clear q
  go_enter Try.func81, Try.ntmps81
  go_wp2
  go_quiet ((go_at_call 69; exact Calls.quiet_of ((impl_size_int64_69.calls A c x _ _ (Kd.C_below HX.out (by repeat (first | exact Below.refl _ _ | apply pw_below_drewN))) HL.out rfl).mono (fun e w' h => ⟨h.1, h.2.out⟩))))
  go_wp2
  go_ret
  refine ⟨?_, ?_⟩
  ·simp [impl_IsMask.p, HQ.out]
  ·repeat (first | exact Below.refl _ _ | apply pw_below_drewN)
set_option maxHeartbeats 4000000 in
set_option maxRecDepth 100000 in
theorem impl_IsMask.calls (k : Nat) (A0 : Option Addr) (c0 : Nat) (l0 : List (List Int)) (r : Bool) (w : World) (hr0 : Kd.C (Kd.slice 2 (Kd.int .i64)) w A0 l0.length l0) (hc0 : l0.length ≤ c0) (h : impl_IsMask.f k l0 = some r) :
  Calls Try.prog 35 #[.slice A0 l0.length c0] w fun e w' => e = .returned (.bool r) ∧ Below w.heap.size w w' := by
 have eg : ∀ args w, (callFunc 81 args).run Try.prog w = .ok (.enter 81 args) w := i64_enters Try.func81 (by kernel_rfl) rfl
 have HR := Aside0.mk hr0
 have HC0 := Aside0.mk hc0
 have H1 := Aside0.mk (impl_within_tells (l0.length : Int) 1 8)
 have up : ∀ o1, Below w.heap.size w (w.alloc o1) := fun o1 => below_alloc (Below.refl _ _) o1
 have UP := Aside0.mk up
 have H := h
 clear up h hr0 hc0
 unfold impl_IsMask.f at H
 by_cases q1 : 1 ≤ l0.length ∧ l0.length ≤ 8
 ·rw [if_pos q1] at H
  have H1' : Aside0 (impl_within.f (l0.length : Int) 1 8 = some true) := ⟨H1.out.trans (by rw [decide_eq_true (show 1 ≤ (l0.length : Int) ∧ (l0.length : Int) ≤ 8 by omega)])⟩
  have Q1 := Aside0.mk q1
  clear q1 H1
  generalize hp : impl_IsMask.p l0.length = p at H
  have HP := Aside0.mk hp
  clear hp
  cases ha : l0.any p with
  | true =>
   rw [ha] at H
   have e : r = false := (Option.some.inj H).symm
   subst e
   have HA := Aside0.mk ha
   clear H ha
   go_enter Try.func35, Try.ntmps35
   go_wp2_with (first
    | (go_at_call 68; refine (impl_size_int64_68.calls A0 c0 l0 _ _ (Kd.C_below HR.out (by repeat (first | exact Below.refl _ _ | apply pw_below_drewN))) HC0.out rfl).mono ?_; rintro e w1 ⟨rfl, hd⟩; have HB1 := Aside0.mk hd.below; clear hd)
    | (go_at_call 60; refine (impl_within.calls _ _ _ true _ (by with_reducible exact H1'.out)).mono ?_; rintro e w2 ⟨rfl, hd⟩; have hc2 : w2.cell? ⟨w1.heap.size, 0, none⟩ = some (.int .i64 l0.length) := (by rw [Below.cell hd.below (by simp)]; simp); have HB2 : Aside0 (Below w.heap.size w w2) := ⟨below_then (below_alloc HB1.out _) (by have := HB1.out.size; simp; omega) hd.below⟩; have HZ2 : Aside0 (w1.heap.size < w2.heap.size) := ⟨by have := hd.below.size; simp at this; omega⟩; clear hd)
    | (go_at_call 80; refine (rws_ctf 81 _ eg p A0 c0 l0 _ (Kd.C_below HR.out HB2.out) (fun x A c w1 hb hc hx => by rw [← HP.out]; exact impl_IsMask.one _ l0.length A c x w1 ((Below.cell hb (by have := HZ2.out; simp <;> omega)).trans hc2) hc hx)).mono ?_; rintro e w3 ⟨rfl, hb⟩; have HB := Aside0.mk (below_step HB2.out hb); have hc3 := pw_cell_below hb hc2; have HZ3 : Aside0 (w1.heap.size < w3.heap.size) := ⟨by have := hb.size; have := HZ2.out; omega⟩; clear hb hc2; (try rw [HA.out])))
   go_ret
   exact ⟨rfl, by repeat (first | exact HB.out | apply pw_below_drewN)⟩
  | false =>
   rw [ha] at H
   have H' : Aside0 (impl_isSet.f k (l0.flatten.mergeSort fun x y => decide (x ≤ y)) (wrap64 ((l0.length : Int) * (l0.length : Int))) = some r) := ⟨H⟩
   have hfl : l0.flatten.length = l0.length * l0.length := impl_IsMask.flat l0.length l0 (by rw [HP.out]; exact ha)
   have hm1 : 1 ≤ l0.length * l0.length := Nat.le_trans (by decide : 1 ≤ 1 * 1) (Nat.mul_le_mul Q1.out.1 Q1.out.1)
   have hm2 : l0.length * l0.length ≤ 64 := Nat.le_trans (Nat.mul_le_mul Q1.out.2 Q1.out.2) (by decide : 8 * 8 ≤ 64)
   have HF1 := Aside0.mk (show 0 < l0.flatten.length by omega)
   have HF2 := Aside0.mk (show l0.flatten.length ≤ 1000000000 by omega)
   have HA := Aside0.mk ha
   clear H ha hfl hm1 hm2
   generalize hL : l0.flatten = L at H' HF1 HF2
   have HL := Aside0.mk hL
   clear hL
   generalize hS : (L.mergeSort fun x y => decide (x ≤ y)) = S at H'
   have HS := Aside0.mk hS
   clear hS
   have HSL : Aside0 (S.length = L.length) := ⟨by rw [← HS.out]; exact List.length_mergeSort _⟩
   go_enter Try.func35, Try.ntmps35
   go_wp2_with (first
    | (go_at_call 68; refine (impl_size_int64_68.calls A0 c0 l0 _ _ (Kd.C_below HR.out (by repeat (first | exact Below.refl _ _ | apply pw_below_drewN))) HC0.out rfl).mono ?_; rintro e w1 ⟨rfl, hd⟩; have HB1 := Aside0.mk hd.below; clear hd)
    | (go_at_call 60; refine (impl_within.calls _ _ _ true _ (by with_reducible exact H1'.out)).mono ?_; rintro e w2 ⟨rfl, hd⟩; have hc2 : w2.cell? ⟨w1.heap.size, 0, none⟩ = some (.int .i64 l0.length) := (by rw [Below.cell hd.below (by simp)]; simp); have HB2 : Aside0 (Below w.heap.size w w2) := ⟨below_then (below_alloc HB1.out _) (by have := HB1.out.size; simp; omega) hd.below⟩; have HZ2 : Aside0 (w1.heap.size < w2.heap.size) := ⟨by have := hd.below.size; simp at this; omega⟩; clear hd)
    | (go_at_call 80; refine (rws_ctf 81 _ eg p A0 c0 l0 _ (Kd.C_below HR.out HB2.out) (fun x A c w1 hb hc hx => by rw [← HP.out]; exact impl_IsMask.one _ l0.length A c x w1 ((Below.cell hb (by have := HZ2.out; simp <;> omega)).trans hc2) hc hx)).mono ?_; rintro e w3 ⟨rfl, hb⟩; have HB := Aside0.mk (below_step HB2.out hb); have hc3 := pw_cell_below hb hc2; have HZ3 : Aside0 (w1.heap.size < w3.heap.size) := ⟨by have := hb.size; have := HZ2.out; omega⟩; clear hb hc2; (try rw [HA.out]))
    | (go_at_call 82; (with_reducible refine (i64_concat A0 c0 l0 _ (Kd.C_below HR.out HB.out) (by rw [HL.out]; exact HF2.out)).mono ?_); rintro e w4 ⟨v4, rfl, hr4, hb4⟩; rw [HL.out] at hr4; have HV := Aside0.mk hr4; have HB4 := Aside0.mk (below_step HB.out hb4); have hc4 := pw_cell_below hb4 hc3; have HG : Aside0 (v4.ownBlock ≠ some w1.heap.size) := ⟨fun e_ => by have h_ := Kd.R_base HV.out _ e_; have := HZ3.out; omega⟩; have HBS : Aside0 (∀ k_, v4.ownBlock = some k_ → w.heap.size ≤ k_) := ⟨fun k_ e_ => by have h_ := Kd.R_base HV.out _ e_; have := HB.out.size; omega⟩; clear hb4 hr4 hc3; obtain ⟨A4, c4, e4⟩ := Kd.R_slice HV.out; subst e4)
    | (go_at_call 83; (with_reducible refine (i64_sort _ _ A4 c4 L _ HV.out HF1.out HF2.out).mono ?_); rintro e w5 ⟨rfl, hr5, hg5⟩; rw [HS.out] at hr5; have HV5 := Aside0.mk hr5; have hc5 : w5.cell? ⟨w1.heap.size, 0, none⟩ = some (.int .i64 l0.length) := cell_grown hg5 hc4 (fun e_ => HG.out e_.symm); have HB5 : Aside0 (Below w.heap.size w w5) := ⟨pw_below_grown HB4.out _ HB4.out.size hg5 HBS.out⟩; clear hg5 hr5 hc4)
    | (go_at_call 84; have hcall := impl_isSet.calls k A4 c4 S _ r w5 (by have h_ := Kd.R_reads' HV5.out; rw [← h_.1]; rw [h_.1]; exact h_.2.2) (by have h_ := (Kd.R_reads' HV5.out).2.1; have h2_ := HSL.out; omega) H'.out; rw [HSL.out] at hcall; (with_reducible refine hcall.mono ?_); clear hcall; rintro e w6 ⟨rfl, hd⟩; have HB6 := Aside0.mk (below_step HB5.out hd.below); clear hd))
   go_ret
   exact ⟨rfl, by repeat (first | exact HB6.out | apply pw_below_drewN)⟩
 ·rw [if_neg q1] at H
  have e : r = false := (Option.some.inj H).symm
  subst e
  have H1' : Aside0 (impl_within.f (l0.length : Int) 1 8 = some false) := ⟨H1.out.trans (by rw [decide_eq_false (show ¬ (1 ≤ (l0.length : Int) ∧ (l0.length : Int) ≤ 8) by omega)])⟩
  clear q1 H1 H
  go_enter Try.func35, Try.ntmps35
  go_wp2_with (first
   | (go_at_call 68; refine (impl_size_int64_68.calls A0 c0 l0 _ _ (Kd.C_below HR.out (by repeat (first | exact Below.refl _ _ | apply pw_below_drewN))) HC0.out rfl).mono ?_; rintro e w1 ⟨rfl, hd⟩; have HB1 := Aside0.mk hd.below; clear hd)
   | (go_at_call 60; refine (impl_within.calls _ _ _ false _ (by with_reducible exact H1'.out)).mono ?_; rintro e w2 ⟨rfl, hd⟩; have hc2 : w2.cell? ⟨w1.heap.size, 0, none⟩ = some (.int .i64 l0.length) := (by rw [Below.cell hd.below (by simp)]; simp); have HB2 : Aside0 (Below w.heap.size w w2) := ⟨below_then (below_alloc HB1.out _) (by have := HB1.out.size; simp; omega) hd.below⟩; have HZ2 : Aside0 (w1.heap.size < w2.heap.size) := ⟨by have := hd.below.size; simp at this; omega⟩; clear hd))
  go_ret
  exact ⟨rfl, by repeat (first | exact HB2.out | apply pw_below_drewN)⟩
end Go.Proofs.Ytckonklpdepgoaa.Q
namespace Go.Proofs.Ytckonklpdepgoaa.Q
open Go.RowKit Go.Proofs.YtckonklpdepgoaaW.PrintWords Go.Proofs.YtckonklpdepgoaaW.PrintLast Go.Proofs.YtckonklpdepgoaaW.PrintMore
attribute [local go_sem] max2_int min2_int max_two min_two max_three min_three max_four min_four   -- for this text's walks alone
set_option linter.unusedVariables false
set_option linter.unusedSimpArgs false
abbrev kp2 : Kd (Int × Int) := Kd.pair (Kd.int .i64) (Kd.int .i64)
theorem kp2_open {w : World} {x : Int × Int} {cs : List Value} (h : kp2.K w x cs) : cs = [.int .i64 x.1, .int .i64 x.2] := by
  obtain ⟨c0, c1, rfl, h0, h1⟩ := h
  rw [show c0 = [Value.int .i64 x.1] from h0, show c1 = [Value.int .i64 x.2] from h1]
  rfl
theorem kp2_mkM (w : World) (base : Nat) (ok : Nat → Prop) (x : Int × Int) : kp2.M w base ok x [.int .i64 x.1, .int .i64 x.2] := ⟨[.int .i64 x.1], [.int .i64 x.2], rfl, rfl, rfl⟩
theorem kp2_at {e base n cap : Nat} {A : Option Addr} {ok : Nat → Prop} {w : World} {xs : List (Int × Int)} (h : kp2.R e w base ok (.slice A n cap) xs) (i : Nat) (hi : i < xs.length) :
    ∃ g, A = some ⟨g, 0, none⟩ ∧ n = xs.length ∧ w.cell? ⟨g, i * 2, none⟩ = some (.int .i64 (xs.getD i (0, 0)).1) ∧ w.cell? ⟨g, i * 2 + 1, none⟩ = some (.int .i64 (xs.getD i (0, 0)).2) := by
  have hn := (Kd.R_reads' h).1
  subst hn
  obtain ⟨g, cap', e1, hg1, hg2, _⟩ := Kd.R_form h (by omega)
  injection e1 with e1 _ e3
  subst e1
  obtain ⟨ad, c, e2, hl, hK, hc⟩ := Kd.C_get (Kd.R_reads' h).2.2 ((0, 0) : Int × Int) (i : Int) (by omega) (by omega)
  cases e2
  rw [Int.toNat_natCast] at hK hc
  have hk := kp2_open hK
  subst hk
  have h0 := hc 0 _ rfl
  have h1 := hc 1 _ rfl
  simp only [show kp2.sz = 2 from rfl, add_at, Nat.zero_add, Nat.add_zero] at h0 h1
  exact ⟨g, rfl, rfl, h0, h1⟩
def impl_SpreadOf.way (n a b : Int) : Int := mn (mx (wrap64 (a - b)) (wrap64 (b - a))) (wrap64 (n - mx (wrap64 (a - b)) (wrap64 (b - a))))
def impl_SpreadOf.dist (n : Int) (p q : Int × Int) : Int := wrap64 (wrap64 (impl_SpreadOf.way n p.1 q.1 * impl_SpreadOf.way n p.1 q.1) + wrap64 (impl_SpreadOf.way n p.2 q.2 * impl_SpreadOf.way n p.2 q.2))
def impl_SpreadOf.row (c : Int) (l : List Int) (i k : Nat) : List (Int × Int) := (List.range k).filterMap fun (j : Nat) => if rd l (j : Int) < c then some ((i : Int), (j : Int)) else none
def impl_SpreadOf.pls (c : Int) (l : List (List Int)) (i : Nat) : List (Int × Int) := (List.range i).flatMap fun (a : Nat) => impl_SpreadOf.row c (rda l (a : Int)) a (rda l (a : Int)).length
def impl_SpreadOf.inner (n : Int) (xs : List (Int × Int)) (j i : Nat) (s : Int) : Int := (List.range i).foldl (fun s q => mn s (impl_SpreadOf.dist n (xs.getD j (0, 0)) (xs.getD q (0, 0)))) s
def impl_SpreadOf.outer (n : Int) (xs : List (Int × Int)) (j : Nat) (s : Int) : Int := (List.range j).foldl (fun s q => impl_SpreadOf.inner n xs q q s) s
def impl_SpreadOf.f (k : Nat) (l0 : List (List Int)) (a1 : Int) : Option (Int × Bool) := (impl_IsMask.f k l0).bind fun b => if b = true then (impl_within.f a1 2 (wrap64 ((l0.length : Int) * (l0.length : Int)))).bind fun c => if c = true then some (impl_SpreadOf.outer (l0.length : Int) (impl_SpreadOf.pls a1 l0 l0.length) (impl_SpreadOf.pls a1 l0 l0.length).length (wrap64 (wrap64 (2 * (l0.length : Int)) * (l0.length : Int))), true) else some (0, false) else some (0, false)
theorem impl_SpreadOf.mono : ∀ a0 a1 k, LeO (impl_SpreadOf.f k a0 a1) (impl_SpreadOf.f (k + 1) a0 a1) := by
  intro a0 a1 k
  unfold impl_SpreadOf.f
  exact LeO.bind (impl_IsMask.mono _ _) (fun _ => LeO.refl _)
theorem impl_SpreadOf.row_succ (c : Int) (l : List Int) (i k : Nat) : impl_SpreadOf.row c l i (k + 1) = if rd l (k : Int) < c then impl_SpreadOf.row c l i k ++ [((i : Int), (k : Int))] else impl_SpreadOf.row c l i k := by
  unfold impl_SpreadOf.row
  rw [List.range_succ, List.filterMap_append]
  by_cases h : rd l (k : Int) < c
  · simp [h]
  · simp [h]
theorem impl_SpreadOf.pls_succ (c : Int) (l : List (List Int)) (i : Nat) : impl_SpreadOf.pls c l (i + 1) = impl_SpreadOf.pls c l i ++ impl_SpreadOf.row c (rda l (i : Int)) i (rda l (i : Int)).length := by
  unfold impl_SpreadOf.pls
  rw [List.range_succ, List.flatMap_append]
  simp
theorem impl_SpreadOf.row_len (c : Int) (l : List Int) (i k : Nat) : (impl_SpreadOf.row c l i k).length ≤ k := by
  unfold impl_SpreadOf.row
  exact Nat.le_trans (List.length_filterMap_le _ _) (by simp)
theorem impl_SpreadOf.inner_succ (n : Int) (xs : List (Int × Int)) (j i : Nat) (s : Int) : impl_SpreadOf.inner n xs j (i + 1) s = mn (impl_SpreadOf.inner n xs j i s) (impl_SpreadOf.dist n (xs.getD j (0, 0)) (xs.getD i (0, 0))) := by
  unfold impl_SpreadOf.inner
  rw [List.range_succ, List.foldl_append]
  rfl
theorem impl_SpreadOf.inner_zero (n : Int) (xs : List (Int × Int)) (j : Nat) (s : Int) : impl_SpreadOf.inner n xs j 0 s = s := rfl
theorem impl_SpreadOf.outer_zero (n : Int) (xs : List (Int × Int)) (s : Int) : impl_SpreadOf.outer n xs 0 s = s := rfl
theorem impl_SpreadOf.outer_succ (n : Int) (xs : List (Int × Int)) (j : Nat) (s : Int) : impl_SpreadOf.outer n xs (j + 1) s = impl_SpreadOf.inner n xs j j (impl_SpreadOf.outer n xs j s) := by
  unfold impl_SpreadOf.outer
  rw [List.range_succ, List.foldl_append]
  rfl
theorem impl_SpreadOf.pls_len (c : Int) (n : Nat) (l : List (List Int)) (h : ∀ a : Nat, a < l.length → (rda l (a : Int)).length = n) : ∀ i, i ≤ l.length → (impl_SpreadOf.pls c l i).length ≤ i * n := by
  intro i
  induction i with
  | zero => intro _; simp [impl_SpreadOf.pls]
  | succ i ih =>
    intro hi
    rw [impl_SpreadOf.pls_succ, List.length_append, Nat.succ_mul]
    have h1 := ih (by omega)
    have h2 := impl_SpreadOf.row_len c (rda l (i : Int)) i (rda l (i : Int)).length
    rw [h i (by omega)] at h2
    rw [h i (by omega)]
    omega
theorem impl_IsMask.yes {k : Nat} {l : List (List Int)} (h : impl_IsMask.f k l = some true) : (1 ≤ l.length ∧ l.length ≤ 8) ∧ ∀ a : Nat, a < l.length → (rda l (a : Int)).length = l.length := by
  unfold impl_IsMask.f at h
  split at h
  · rename_i h1
    split at h
    · simp at h
    · rename_i h2
      refine ⟨h1, fun a ha => ?_⟩
      have h3 : l.any (impl_IsMask.p l.length) = false := by simpa using h2
      have h4 := List.any_eq_false.1 h3 _ (List.getElem_mem ha)
      unfold impl_IsMask.p at h4
      unfold rda
      rw [Int.toNat_natCast, List.getD_eq_getElem?_getD, List.getElem?_eq_getElem ha]
      simpa using h4
  · simp at h
set_option maxHeartbeats 2000000 in
theorem impl_SpreadOf.ways (n b6 : Nat) (a b : Int) (w : World) (hc : w.cell? ⟨b6, 0, none⟩ = some (.int .i64 n)) : Calls Try.prog 88 #[.int .i64 a, .int .i64 b, .pointer (some ⟨b6, 0, none⟩)] w fun e w' => e = .returned (.int .i64 (impl_SpreadOf.way n a b)) ∧ w = w' := by
  go_enter Try.func88, Try.ntmps88
  go_wp2
  all_goals
    go_ret
    refine ⟨congrArg (fun z => Ending.returned (.int .i64 z)) ?_, rfl⟩
    show _ = impl_SpreadOf.way n a b
    unfold impl_SpreadOf.way mx mn
    generalize wrap64 (a - b) = u at *
    generalize wrap64 (b - a) = v at *
    first
      | (have c : u < v := by assumption
         simp only [if_pos c] at *
         first
           | rw [if_pos (by assumption)]
           | rw [if_neg (by omega)])
      | (have c : ¬ u < v := by omega
         simp only [if_neg c] at *
         first
           | rw [if_pos (by assumption)]
           | rw [if_neg (by omega)])
set_option maxHeartbeats 8000000 in
set_option maxRecDepth 100000 in
theorem impl_SpreadOf.calls (k : Nat) (A0 : Option Addr) (c0 : Nat) (l0 : List (List Int)) (a1 : Int) (r1 : Int) (r2 : Bool) (w : World) (hr0 : Kd.C (Kd.slice 2 (Kd.int .i64)) w A0 l0.length l0) (hc0 : l0.length ≤ c0) (h : impl_SpreadOf.f k l0 a1 = some (r1, r2)) :
    Calls Try.prog 37 #[.slice A0 l0.length c0, .int .i64 a1] w fun e w' => e = .returned (.tuple #[.int .i64 r1, .bool r2]) ∧ Below w.heap.size w w' := by
  have HR := Aside0.mk hr0
  have HC0 := Aside0.mk hc0
  have hbig : l0.length ≤ 9223372036854775807 := hr0.2.1
  have HBIG := Aside0.mk hbig
  have H := h
  clear h hr0 hc0 hbig
  unfold impl_SpreadOf.f at H
  replace H := Option.bind_eq_some_iff.mp H
  obtain ⟨b, A1, H⟩ := H
  have A10 := Aside0.mk A1
  by_cases q1 : b = true
  · subst q1
    rw [if_pos rfl] at H
    replace H := Option.bind_eq_some_iff.mp H
    obtain ⟨c, A2, H⟩ := H
    have A20 := Aside0.mk A2
    have YES := Aside0.mk (impl_IsMask.yes A1)
    clear A1 A2
    by_cases q2 : c = true
    · subst q2
      rw [if_pos rfl] at H
      have H2 := Option.some.inj H
      injection H2 with h1 h2
      subst h2
      have R1 := Aside0.mk h1
      clear H h1
      have hci := (show (Try.prog.info? 103).map (fun i => (i.zero, i.size, i.bytes)) = some (some (.agg #[.int .i64 0, .int .i64 0]), 2, 16) from by kernel_rfl)
      have HCI := Aside0.mk hci
      clear hci
      go_enter Try.func37, Try.ntmps37
      go_wp2_with (first
        | (go_at_call 68; refine (impl_size_int64_68.calls A0 c0 l0 _ _ (Kd.C_below HR.out (by repeat (first | exact Below.refl _ _ | apply pw_below_drewN))) HC0.out rfl).mono ?_; rintro e w1 ⟨rfl, hd⟩; have HB1 := Aside0.mk hd.below; clear hd)
        | (go_at_call 35; refine (impl_IsMask.calls k A0 c0 l0 true _ (Kd.C_below HR.out (below_alloc HB1.out _)) HC0.out A10.out).mono ?_; rintro e w2 ⟨rfl, hb⟩; have hc2 : w2.cell? ⟨w1.heap.size, 0, none⟩ = some (.int .i64 l0.length) := (by rw [Below.cell hb (by simp)]; simp); have HB2 : Aside0 (Below w.heap.size w w2) := ⟨below_step (below_alloc HB1.out _) hb⟩; have HZ2 : Aside0 (w1.heap.size < w2.heap.size) := ⟨by have := hb.size; simp at this; omega⟩; clear hb)
        | (go_at_call 60; refine (impl_within.calls _ _ _ true _ (by with_reducible exact A20.out)).mono ?_; rintro e w3 ⟨rfl, hd⟩; have hc3 := pw_cell_below hd.below hc2; have HB3 : Aside0 (Below w.heap.size w w3) := ⟨below_step HB2.out hd.below⟩; have HZ3 : Aside0 (w1.heap.size < w3.heap.size) := ⟨by have := hd.below.size; have := HZ2.out; omega⟩; clear hd hc2)
        | ((with_reducible refine gate_dst (N := 33) rfl ?_); refine Kd.R_lit kp2 w.heap.size 103 ?hg (N := 33) ?hd (xs := ([] : List (Int × Int))) (inner := []) (ok := fun k_ => k_ ≠ w1.heap.size) (okp := fun _ => False) ?hr (Reps.none _ _) (fun _ hk => hk.elim) (by have := HZ3.out; omega) HB3.out HB3.out.size (by simp) ?_; (case hd => rfl); (case hg => rfl); (case hr => first | (go_simp; done) | (go_simp; rfl)); intro v4 w4 hr4 hb4 hg4 hn4; have HP := Aside0.mk hr4; have HB4 := Aside0.mk hb4; have hc4 := cell_grown hg4 hc3 (by simp); have HZ4 : Aside0 (w1.heap.size < w4.heap.size) := ⟨by have := hg4.size; have := HZ3.out; omega⟩; have HGE : Aside0 (w.heap.size ≤ w1.heap.size) := ⟨HB1.out.size⟩; clear hr4 hb4 hg4 hn4 hc3))
      clear A10 A20 HB1 HB2 HZ2 HB3 HZ3
      have HC4 := Aside0.mk hc4
      clear hc4
      obtain ⟨b6, hb6⟩ : ∃ b_ : Nat, w1.heap.size = b_ := ⟨_, rfl⟩
      rw [hb6] at HP HC4 HZ4 HGE ⊢
      clear hb6
      have hl8 : l0.length ≤ 8 := YES.out.1.2
      have HL8 := Aside0.mk hl8
      clear hl8
      go_loopg [7, 36] l0.length (fun gg v7 v36 wr => ∃ i : Nat, i ≤ l0.length ∧ l0.length - i ≤ gg ∧ v36 = .int .i64 i ∧ Aside0 (Kd.R kp2 103 wr w.heap.size (fun k_ => k_ ≠ b6) v7 (impl_SpreadOf.pls a1 l0 i)) ∧ Aside0 (wr.cell? ⟨b6, 0, none⟩ = some (.int .i64 l0.length)) ∧ Aside0 (b6 < wr.heap.size) ∧ Aside0 (Below w.heap.size w wr))
      case atStart => exact ⟨0, Nat.zero_le _, by omega, rfl, HP, HC4, HZ4, HB4⟩
      case round =>
        clear HP HC4 HZ4 HB4
        obtain ⟨i, hi, hg, rfl, HP, HC4, HZ4, HB4⟩ := hrel
        by_cases hlt : i < l0.length
        · have hltz : (i : Int) < (l0.length : Int) := by omega
          obtain ⟨ad, Ar, cr, e1, hx, hl, hcr⟩ := at_rda HR.out (i : Int) (by omega) hltz
          cases e1
          replace hx := (HB4.out.cell (World.block_lt_of_cell? w _ hx)).trans hx
          rw [Int.toNat_natCast] at hx
          have HI := Aside0.mk hcr
          have hrl := YES.out.2 i hlt
          have HRL := Aside0.mk hrl
          clear hl hcr hrl
          go_wp2
          go_loopg [7, 43] l0.length (fun gg v7 v43 wr => ∃ j : Nat, j ≤ l0.length ∧ l0.length - j ≤ gg ∧ v43 = .int .i64 j ∧ Aside0 (Kd.R kp2 103 wr w.heap.size (fun k_ => k_ ≠ b6) v7 (impl_SpreadOf.pls a1 l0 i ++ impl_SpreadOf.row a1 (rda l0 (i : Int)) i j)) ∧ Aside0 (wr.cell? ⟨b6, 0, none⟩ = some (.int .i64 l0.length)) ∧ Aside0 (b6 < wr.heap.size) ∧ Aside0 (Below w.heap.size w wr))
          case atStart => exact ⟨0, Nat.zero_le _, by omega, rfl, by rw [show impl_SpreadOf.row a1 (rda l0 (i : Int)) i 0 = [] from rfl, List.append_nil]; exact HP, HC4, HZ4, HB4⟩
          case round =>
            clear HP HC4 HZ4 HB4 hx
            obtain ⟨j, hj, hg2, rfl, HP, HC4, HZ4, HB4⟩ := hrel
            by_cases hlt2 : j < l0.length
            · have hltz2 : (j : Int) < ((rda l0 (i : Int)).length : Int) := by have := HRL.out; omega
              obtain ⟨adr, er, hr⟩ := Kd.at_int HI.out (j : Int) (by omega) hltz2
              cases er
              replace hr := (HB4.out.cell (World.block_lt_of_cell? w _ hr)).trans hr
              rw [Int.toNat_natCast] at hr
              have hcap : (impl_SpreadOf.pls a1 l0 i ++ impl_SpreadOf.row a1 (rda l0 (i : Int)) i j).length ≤ 64 := by
                rw [List.length_append]
                have g1 := impl_SpreadOf.pls_len a1 l0.length l0 YES.out.2 i (by omega)
                have g2 := impl_SpreadOf.row_len a1 (rda l0 (i : Int)) i j
                have g3 : (i + 1) * l0.length ≤ 8 * 8 := Nat.mul_le_mul (by have := HL8.out; omega) HL8.out
                rw [Nat.succ_mul] at g3
                omega
              have HCAP := Aside0.mk hcap
              have hj9 : (j : Int) ≤ 8 := by have := HL8.out; omega
              have hrs := impl_SpreadOf.row_succ a1 (rda l0 (i : Int)) i j
              by_cases hc : rd (rda l0 (i : Int)) (j : Int) < a1
              · rw [if_pos hc] at hrs
                have HRS := Aside0.mk hrs
                have hcd : decide (rd (rda l0 (i : Int)) (j : Int) < a1) = true := decide_eq_true hc
                clear hcap hrs hc
                go_wp2_with ((with_reducible refine gate_builtin (b := .append) (xs := #[.tmp 51, .tmp 55]) rfl ?_); at_builtin; refine Kd.R_append kp2 w.heap.size rfl (.tmp 51) (.tmp 55) 102 103 (.agg #[.int .i64 0, .int .i64 0]) 16 rfl Try.underlying102 HCI.out rfl (by decide) (by decide) _ (impl_SpreadOf.pls a1 l0 i ++ impl_SpreadOf.row a1 (rda l0 (i : Int)) i j) ((i : Int), (j : Int)) [.int .i64 i, .int .i64 j] (fun k_ => k_ ≠ b6) (fun _ => False) rfl (by first | (go_simp; done) | (go_simp; rfl)) (kp2_mkM _ _ _ ((i : Int), (j : Int))) (fun _ hk => hk.elim) (fun k_ hk => by have := HZ4.out; omega) HP.out HB4.out HB4.out.size (by have := HCAP.out; omega) ?_; intro v5 w5 ho hb hg5 hat; rw [List.append_assoc, ← HRS.out] at ho; have HP5 := Aside0.mk ho; have HB5 := Aside0.mk hb; have HC5 := Aside0.mk (cell_grown hg5 HC4.out (fun e_ => HP.out.1 b6 e_.symm rfl)); have HZ5 : Aside0 (b6 < w5.heap.size) := ⟨by have := hg5.size; have := HZ4.out; omega⟩; clear ho hb hg5 hat)
                go_roundg (l0.length - (j + 1))
                case measure => omega
                case rel => exact ⟨j + 1, by omega, by omega, by go_num, HP5, HC5, HZ5, HB5⟩
              · rw [if_neg hc] at hrs
                have HRS := Aside0.mk hrs
                have hcd : decide (rd (rda l0 (i : Int)) (j : Int) < a1) = false := decide_eq_false hc
                clear hcap hrs hc
                go_wp2
                go_roundg (l0.length - (j + 1))
                case measure => omega
                case rel => exact ⟨j + 1, by omega, by omega, by go_num, by rw [HRS.out]; exact HP, HC4, HZ4, HB4⟩
            · have hjn : j = l0.length := by omega
              have hge : ¬ (j : Int) < ((rda l0 (i : Int)).length : Int) := by have := HRL.out; omega
              have hcd : decide (j < (rda l0 (i : Int)).length) = false := decide_eq_false (by omega)
              have hi9 : (i : Int) ≤ 8 := by have := HL8.out; omega
              have HPS := Aside0.mk (impl_SpreadOf.pls_succ a1 l0 i)
              have HJN := Aside0.mk hjn
              clear hlt2 hge hjn
              go_wp2
              go_roundg (l0.length - (i + 1))
              case measure => omega
              case rel => exact ⟨i + 1, by omega, by omega, by go_num, by rw [HPS.out, HRL.out, ← HJN.out]; exact HP, HC4, HZ4, HB4⟩
        · have hin : i = l0.length := by omega
          subst hin
          obtain ⟨PL, hPL⟩ : ∃ l_, impl_SpreadOf.pls a1 l0 l0.length = l_ := ⟨_, rfl⟩
          have hpl : PL.length ≤ 64 := by
            rw [← hPL]
            have g1 := impl_SpreadOf.pls_len a1 l0.length l0 YES.out.2 l0.length (by omega)
            have g3 : l0.length * l0.length ≤ 8 * 8 := Nat.mul_le_mul HL8.out HL8.out
            omega
          rw [hPL] at HP R1
          have HPL := Aside0.mk hpl
          clear hPL hpl
          obtain ⟨Ap, cp, ep⟩ := Kd.R_slice HP.out
          subst ep
          have hpc := (Kd.R_reads' HP.out).2.1
          have hc6 := HC4.out
          obtain ⟨w0, rfl⟩ : ∃ w_ : World, w_ = wr := ⟨_, rfl⟩
          have HX := Aside0.mk hpc
          clear hpc
          go_wp2
          have HRB := Aside0.mk (Below.refl w0.heap.size w0)
          go_loopg [13, 66] PL.length (fun gg v13 v66 wr => ∃ j : Nat, j ≤ PL.length ∧ PL.length - j ≤ gg ∧ v66 = .int .i64 j ∧ v13 = .int .i64 (impl_SpreadOf.outer (l0.length : Int) PL j (wrap64 (wrap64 (2 * (l0.length : Int)) * (l0.length : Int)))) ∧ Aside0 (Below w0.heap.size w0 wr))
          case atStart => exact ⟨0, Nat.zero_le _, by omega, rfl, by rw [impl_SpreadOf.outer_zero], HRB⟩
          case round =>
            clear HRB hc6
            obtain ⟨j, hj, hg, rfl, rfl, HW⟩ := hrel
            by_cases hlt : j < PL.length
            · have hj9 : (j : Int) ≤ 64 := by have := HPL.out; omega
              obtain ⟨g, eA, _, hp0, hp1⟩ := kp2_at HP.out j hlt
              subst eA
              replace hp0 := (HW.out.cell (World.block_lt_of_cell? w0 _ hp0)).trans hp0
              replace hp1 := (HW.out.cell (World.block_lt_of_cell? w0 _ hp1)).trans hp1
              have hltz : (j : Int) < (PL.length : Int) := by omega
              generalize hP : PL.getD j (0, 0) = P at hp0 hp1
              have HPj := Aside0.mk hP
              have hos := Aside0.mk (impl_SpreadOf.outer_succ (l0.length : Int) PL j (wrap64 (wrap64 (2 * (l0.length : Int)) * (l0.length : Int))))
              generalize hS : impl_SpreadOf.outer (l0.length : Int) PL j (wrap64 (wrap64 (2 * (l0.length : Int)) * (l0.length : Int))) = S at hos ⊢
              obtain ⟨i0, hi0, hz0⟩ := Option.map_eq_some_iff.1 HCI.out
              have hcut := cut_to (P := Try.prog) 102 103 .i64 Try.underlying102 hi0 (some ⟨g, 0, none⟩) PL.length cp (j : Int) (by omega) (by omega) HX.out
              rw [Int.toNat_natCast] at hcut
              clear hP hS hi0 hz0
              go_wp2
              obtain ⟨w5, hw5⟩ : ∃ w_ : World, wr.alloc (.cells #[.int .i64 P.1, .int .i64 P.2] 103 (0, 0)) = w_ := ⟨_, rfl⟩
              have hpz0 : w5.cell? ⟨wr.heap.size, 0, none⟩ = some (.int .i64 P.1) := by rw [← hw5]; simp
              have hpz1 : w5.cell? ⟨wr.heap.size, 1, none⟩ = some (.int .i64 P.2) := by rw [← hw5]; simp
              have HW5 : Aside0 (Below w0.heap.size w0 w5) := ⟨by rw [← hw5]; exact below_alloc HW.out _⟩
              have HPZ0 := Aside0.mk hpz0
              have HPZ1 := Aside0.mk hpz1
              rw [hw5]
              clear hw5 hpz0 hpz1 hcut hp0 hp1
              generalize wr.heap.size = bp at HPZ0 HPZ1 ⊢
              have HRB := Aside0.mk (Below.refl w5.heap.size w5)
              go_loopg [13, 75] PL.length (fun gg v13 v75 wr => ∃ i : Nat, i ≤ j ∧ j - i ≤ gg ∧ v75 = .int .i64 i ∧ v13 = .int .i64 (impl_SpreadOf.inner (l0.length : Int) PL j i S) ∧ Aside0 (Below w5.heap.size w5 wr))
              case atStart => exact ⟨0, Nat.zero_le _, by omega, rfl, by rw [impl_SpreadOf.inner_zero], HRB⟩
              case round =>
                clear HRB HW
                obtain ⟨i, hi, hg2, rfl, rfl, HW⟩ := hrel
                by_cases hlt2 : i < j
                · have hi9 : (i : Int) ≤ 64 := by omega
                  have HW0 := Aside0.mk (below_step HW5.out HW.out)
                  obtain ⟨g', eA, _, hq0, hq1⟩ := kp2_at HP.out i (by omega)
                  cases eA
                  replace hq0 := (HW0.out.cell (World.block_lt_of_cell? w0 _ hq0)).trans hq0
                  replace hq1 := (HW0.out.cell (World.block_lt_of_cell? w0 _ hq1)).trans hq1
                  have hp0 := (HW.out.cell (World.block_lt_of_cell? w5 _ HPZ0.out)).trans HPZ0.out
                  have hp1 := (HW.out.cell (World.block_lt_of_cell? w5 _ HPZ1.out)).trans HPZ1.out
                  have hcw := (HW0.out.cell (World.block_lt_of_cell? w0 _ HC4.out)).trans HC4.out
                  have hltz2 : (i : Int) < (j : Int) := by omega
                  have his := impl_SpreadOf.inner_succ (l0.length : Int) PL j i S
                  rw [HPj.out] at his
                  generalize hQ : PL.getD i (0, 0) = Qq at hq0 hq1 his
                  have HIS := Aside0.mk his
                  generalize hS2 : impl_SpreadOf.inner (l0.length : Int) PL j i S = S2 at HIS ⊢
                  have HBP := Aside0.mk (World.block_lt_of_cell? wr _ hp0)
                  have HCW := Aside0.mk hcw
                  clear hQ hS2 his hcw
                  go_wp2
                  obtain ⟨w6, hw6⟩ : ∃ w_ : World, wr.alloc (.cells #[.int .i64 Qq.1, .int .i64 Qq.2] 103 (0, 0)) = w_ := ⟨_, rfl⟩
                  have HB6 : Aside0 (Below wr.heap.size wr w6) := ⟨by rw [← hw6]; exact below_alloc (Below.refl _ _) _⟩
                  have hqz0 : w6.cell? ⟨wr.heap.size, 0, none⟩ = some (.int .i64 Qq.1) := by rw [← hw6]; simp
                  have hqz1 : w6.cell? ⟨wr.heap.size, 1, none⟩ = some (.int .i64 Qq.2) := by rw [← hw6]; simp
                  have HP0 := (pw_cell_below HB6.out hp0)
                  have HP1 := (pw_cell_below HB6.out hp1)
                  have HCW6 := Aside0.mk (pw_cell_below HB6.out HCW.out)
                  rw [hw6]
                  clear hw6 hp0 hp1 hq0 hq1
                  generalize wr.heap.size = bq at hqz0 hqz1 ⊢
                  go_quiet ((exact Calls.quiet_of_same ((impl_SpreadOf.ways l0.length b6 _ _ _ (by first | exact HCW6.out | exact pw_cell_below (pw_below_drewN (Below.refl _ _) _) HCW6.out)).mono (fun e w' h => ⟨h.1, h.2.symm⟩))))
                  go_wp2
                  all_goals
                    go_roundg (j - (i + 1))
                    case measure => omega
                    case rel =>
                      refine ⟨i + 1, by omega, by omega, by go_num, ?_, ⟨pw_below_drewN (below_step HW.out HB6.out) _⟩⟩
                      rw [HIS.out]
                      unfold mn impl_SpreadOf.dist
                      first
                        | rw [if_pos (by assumption)]
                        | rw [if_neg (by omega)]
                · have hij : i = j := by omega
                  subst hij
                  have hcd : decide (i < i) = false := decide_eq_false (by omega)
                  clear hlt2
                  go_wp2
                  go_roundg (PL.length - (i + 1))
                  case measure => omega
                  case rel => exact ⟨i + 1, by omega, by omega, by go_num, by rw [hos.out], ⟨below_step HW5.out HW.out⟩⟩
            · have hjn : j = PL.length := by omega
              subst hjn
              rw [R1.out]
              have HWW := Aside0.mk (below_step HB4.out HW.out)
              go_wp2
              go_ret2
              exact ⟨rfl, by repeat (first | exact HWW.out | apply pw_below_drewN)⟩
    · have q2' : c = false := by simpa using q2
      subst q2'
      have H2 := Option.some.inj H
      injection H2 with h1 h2
      subst h1
      subst h2
      clear H q2
      go_enter Try.func37, Try.ntmps37
      go_wp2_with (first
        | (go_at_call 68; refine (impl_size_int64_68.calls A0 c0 l0 _ _ (Kd.C_below HR.out (by repeat (first | exact Below.refl _ _ | apply pw_below_drewN))) HC0.out rfl).mono ?_; rintro e w1 ⟨rfl, hd⟩; have HB1 := Aside0.mk hd.below; clear hd)
        | (go_at_call 35; refine (impl_IsMask.calls k A0 c0 l0 true _ (Kd.C_below HR.out (below_alloc HB1.out _)) HC0.out A10.out).mono ?_; rintro e w2 ⟨rfl, hb⟩; have hc2 : w2.cell? ⟨w1.heap.size, 0, none⟩ = some (.int .i64 l0.length) := (by rw [Below.cell hb (by simp)]; simp); have HB2 : Aside0 (Below w.heap.size w w2) := ⟨below_step (below_alloc HB1.out _) hb⟩; clear hb)
        | (go_at_call 60; refine (impl_within.calls _ _ _ false _ (by with_reducible exact A20.out)).mono ?_; rintro e w3 ⟨rfl, hd⟩; have HB3 : Aside0 (Below w.heap.size w w3) := ⟨below_step HB2.out hd.below⟩; clear hd))
      go_ret2
      exact ⟨rfl, by repeat (first | exact HB3.out | apply pw_below_drewN)⟩
  · have q1' : b = false := by simpa using q1
    subst q1'
    have H2 := Option.some.inj H
    injection H2 with h1 h2
    subst h1
    subst h2
    clear H q1 A1
    go_enter Try.func37, Try.ntmps37
    go_wp2_with (first
      | (go_at_call 68; refine (impl_size_int64_68.calls A0 c0 l0 _ _ (Kd.C_below HR.out (by repeat (first | exact Below.refl _ _ | apply pw_below_drewN))) HC0.out rfl).mono ?_; rintro e w1 ⟨rfl, hd⟩; have HB1 := Aside0.mk hd.below; clear hd)
      | (go_at_call 35; refine (impl_IsMask.calls k A0 c0 l0 false _ (Kd.C_below HR.out (below_alloc HB1.out _)) HC0.out A10.out).mono ?_; rintro e w2 ⟨rfl, hb⟩; have HB2 : Aside0 (Below w.heap.size w w2) := ⟨below_step (below_alloc HB1.out _) hb⟩; clear hb))
    go_ret2
    exact ⟨rfl, by repeat (first | exact HB2.out | apply pw_below_drewN)⟩
end Go.Proofs.Ytckonklpdepgoaa.Q
namespace Go.Proofs.Ytckonklpdepgoaa.Q
open Go.RowKit Go.Proofs.YtckonklpdepgoaaW.PrintWords Go.Proofs.YtckonklpdepgoaaW.PrintLast Go.Proofs.YtckonklpdepgoaaW.PrintMore
attribute [local go_sem] max2_int min2_int max_two min_two max_three min_three max_four min_four   -- for this text's walks alone
set_option linter.unusedVariables false
set_option linter.unusedSimpArgs false
def laws_FnSpread.f (k : Nat) (l0 : List Int) (l1 : List Int) : Option (Bool) := (laws_b10Long.f l0 l1).bind fun t601 => (if t601 = true then (some true) else ((laws_b10At.f l0 0 3).bind fun t602 => ((impl_DoublingMask.f k (wrap64 (1 + t602))).bind fun bt603 => (if 0 ≤ (IntKind.u64.wrap (wrap64 (1 + t602))) then ((impl_SpreadOf.f k bt603.1 2).bind fun bt607 => ((laws_b10At.f l1 0 (wrap64 ((wrap64 ((shl .i64 1 (IntKind.u64.wrap (wrap64 (1 + t602)))) * (shl .i64 1 (IntKind.u64.wrap (wrap64 (1 + t602)))))) - 1))).bind fun t609 => ((impl_SpreadOf.f k bt603.1 (wrap64 (2 + t609))).bind fun bt610 => ((impl_SpreadOf.f k bt603.1 (wrap64 ((shl .i64 1 (IntKind.u64.wrap (wrap64 (1 + t602)))) * (shl .i64 1 (IntKind.u64.wrap (wrap64 (1 + t602))))))).bind fun bt612 => (if bt603.2 = true then (if bt607.2 = true then (if bt610.2 = true then (if bt612.2 = true then (if bt607.1 = (wrap64 (Int.tdiv (wrap64 ((shl .i64 1 (IntKind.u64.wrap (wrap64 (1 + t602)))) * (shl .i64 1 (IntKind.u64.wrap (wrap64 (1 + t602)))))) 2)) then (if bt610.1 ≤ bt607.1 then (if bt612.1 ≤ bt610.1 then (some (bt612.1 == 1)) else (some false)) else (some false)) else (some false)) else (some false)) else (some false)) else (some false)) else (some false)))))) else (none)))))
theorem laws_FnSpread.mono : ∀ a0 a1 k, LeO (laws_FnSpread.f k a0 a1) (laws_FnSpread.f (k + 1) a0 a1) := by
 intro a0 a1 k
 unfold laws_FnSpread.f
 repeat' first
   | (with_reducible exact impl_DoublingMask.mono _ _)
   | (with_reducible exact impl_SpreadOf.mono _ _ _)
   | (with_reducible exact LeO.refl _)
   | (with_reducible exact LeO.none _)
   | (with_reducible refine LeO.ite ?_ ?_)
   | (with_reducible refine LeO.bind ?_ (fun _ => ?_))
   | exact impl_DoublingMask.mono _ _
   | exact impl_SpreadOf.mono _ _ _
   | exact LeO.none _
   | refine LeO.ite ?_ ?_
   | refine LeO.bind ?_ (fun _ => ?_)
set_option maxHeartbeats 8000000 in
set_option maxRecDepth 100000 in
theorem laws_FnSpread.calls (k : Nat) (A0 : Option Addr) (c0 : Nat) (l0 : List Int) (A1 : Option Addr) (c1 : Nat) (l1 : List Int) (r : Bool) (w : World) (hr0 : Kd.C (Kd.int .u8) w A0 l0.length l0) (hc0 : l0.length ≤ c0) (hr1 : Kd.C (Kd.int .u8) w A1 l1.length l1) (hc1 : l1.length ≤ c1) (h : laws_FnSpread.f k l0 l1 = some r) :
  Calls Try.prog 11 #[.slice A0 l0.length c0, .slice A1 l1.length c1] w fun e w' => e = .returned (.bool r) ∧ Below w.heap.size w w' := by
 have HR0 := Aside0.mk hr0
 have HC0 := Aside0.mk hc0
 clear hr0 hc0
 have HR1 := Aside0.mk hr1
 have HC1 := Aside0.mk hc1
 clear hr1 hc1
 have HB := Aside0.mk (Below.refl w.heap.size w)
 have H : ((laws_b10Long.f l0 l1).bind fun t601 => (if t601 = true then (some true) else ((laws_b10At.f l0 0 3).bind fun t602 => ((impl_DoublingMask.f k (wrap64 (1 + t602))).bind fun bt603 => (if 0 ≤ (IntKind.u64.wrap (wrap64 (1 + t602))) then ((impl_SpreadOf.f k bt603.1 2).bind fun bt607 => ((laws_b10At.f l1 0 (wrap64 ((wrap64 ((shl .i64 1 (IntKind.u64.wrap (wrap64 (1 + t602)))) * (shl .i64 1 (IntKind.u64.wrap (wrap64 (1 + t602)))))) - 1))).bind fun t609 => ((impl_SpreadOf.f k bt603.1 (wrap64 (2 + t609))).bind fun bt610 => ((impl_SpreadOf.f k bt603.1 (wrap64 ((shl .i64 1 (IntKind.u64.wrap (wrap64 (1 + t602)))) * (shl .i64 1 (IntKind.u64.wrap (wrap64 (1 + t602))))))).bind fun bt612 => (if bt603.2 = true then (if bt607.2 = true then (if bt610.2 = true then (if bt612.2 = true then (if bt607.1 = (wrap64 (Int.tdiv (wrap64 ((shl .i64 1 (IntKind.u64.wrap (wrap64 (1 + t602)))) * (shl .i64 1 (IntKind.u64.wrap (wrap64 (1 + t602)))))) 2)) then (if bt610.1 ≤ bt607.1 then (if bt612.1 ≤ bt610.1 then (some (bt612.1 == 1)) else (some false)) else (some false)) else (some false)) else (some false)) else (some false)) else (some false)) else (some false)))))) else (none)))))) = some r := h
 clear h
 replace H := Option.bind_eq_some_iff.mp H
 obtain ⟨t601, A30, H⟩ := H
 replace H : (if t601 = true then (some true) else ((laws_b10At.f l0 0 3).bind fun t602 => ((impl_DoublingMask.f k (wrap64 (1 + t602))).bind fun bt603 => (if 0 ≤ (IntKind.u64.wrap (wrap64 (1 + t602))) then ((impl_SpreadOf.f k bt603.1 2).bind fun bt607 => ((laws_b10At.f l1 0 (wrap64 ((wrap64 ((shl .i64 1 (IntKind.u64.wrap (wrap64 (1 + t602)))) * (shl .i64 1 (IntKind.u64.wrap (wrap64 (1 + t602)))))) - 1))).bind fun t609 => ((impl_SpreadOf.f k bt603.1 (wrap64 (2 + t609))).bind fun bt610 => ((impl_SpreadOf.f k bt603.1 (wrap64 ((shl .i64 1 (IntKind.u64.wrap (wrap64 (1 + t602)))) * (shl .i64 1 (IntKind.u64.wrap (wrap64 (1 + t602))))))).bind fun bt612 => (if bt603.2 = true then (if bt607.2 = true then (if bt610.2 = true then (if bt612.2 = true then (if bt607.1 = (wrap64 (Int.tdiv (wrap64 ((shl .i64 1 (IntKind.u64.wrap (wrap64 (1 + t602)))) * (shl .i64 1 (IntKind.u64.wrap (wrap64 (1 + t602)))))) 2)) then (if bt610.1 ≤ bt607.1 then (if bt612.1 ≤ bt610.1 then (some (bt612.1 == 1)) else (some false)) else (some false)) else (some false)) else (some false)) else (some false)) else (some false)) else (some false)))))) else (none))))) = some r := H
 have A3 := Aside0.mk A30
 clear A30
 by_cases c4 : t601 = true
 ·subst c4
  have H1 : (some true) = some r := by rw [if_pos rfl] at H; exact H
  clear H
  have H := H1
  clear H1
  obtain rfl := Option.some.inj H
  go_enter Try.func11, Try.ntmps11
  go_wp2_with (first | ((with_reducible refine gate_callee (f := 22) rfl ?_); refine goesL_ (some 18) rfl rfl Try.func22 (by kernel_rfl) rfl #[.slice A0 l0.length c0, .slice A1 l1.length c1] rfl (by (try simp only [List.map_toArray, List.map_cons, List.map_nil]); first | done | rfl | (simp only [List.length_drop, List.length_take]; rfl) | (simp only [show ∀ (n_ : Nat) (b_ : Int), Int.tdiv (n_ : Int) b_ = (n_ : Int) / b_ from fun n_ b_ => Int.tdiv_eq_ediv_of_nonneg (Int.natCast_nonneg n_)]; rfl)) ?_; (with_reducible refine (laws_b10Long.calls _ _ l0 _ _ l1 true _ ?side1 ?side2 ?side3 ?side4 A3.out).mono ?_); (case side1 => repeat (first | exact HR0.out | (with_reducible refine Kd.C_alloc ?_ _) | (with_reducible refine Kd.C_drewN ?_ _) | (with_reducible refine Kd.C_drew ?_))); (case side2 => exact HC0.out); (case side3 => repeat (first | exact HR1.out | (with_reducible refine Kd.C_alloc ?_ _) | (with_reducible refine Kd.C_drewN ?_ _) | (with_reducible refine Kd.C_drew ?_))); (case side4 => exact HC1.out); rintro e w' ⟨rfl, ⟨nd, rfl⟩⟩; refine ⟨_, rfl, ?_⟩))
  go_ret
  exact ⟨by first | rfl | (simp [errW_none, errW_some] <;> rfl) | (simp [*, errW_none, errW_some] <;> rfl), by repeat (first | (with_reducible first | exact HB.out | apply below_alloc | apply pw_below_drewN | apply below_drew1) | exact HB.out)⟩
 ·replace c4 := Bool.eq_false_iff.mpr c4
  subst c4
  have H1 : ((laws_b10At.f l0 0 3).bind fun t602 => ((impl_DoublingMask.f k (wrap64 (1 + t602))).bind fun bt603 => (if 0 ≤ (IntKind.u64.wrap (wrap64 (1 + t602))) then ((impl_SpreadOf.f k bt603.1 2).bind fun bt607 => ((laws_b10At.f l1 0 (wrap64 ((wrap64 ((shl .i64 1 (IntKind.u64.wrap (wrap64 (1 + t602)))) * (shl .i64 1 (IntKind.u64.wrap (wrap64 (1 + t602)))))) - 1))).bind fun t609 => ((impl_SpreadOf.f k bt603.1 (wrap64 (2 + t609))).bind fun bt610 => ((impl_SpreadOf.f k bt603.1 (wrap64 ((shl .i64 1 (IntKind.u64.wrap (wrap64 (1 + t602)))) * (shl .i64 1 (IntKind.u64.wrap (wrap64 (1 + t602))))))).bind fun bt612 => (if bt603.2 = true then (if bt607.2 = true then (if bt610.2 = true then (if bt612.2 = true then (if bt607.1 = (wrap64 (Int.tdiv (wrap64 ((shl .i64 1 (IntKind.u64.wrap (wrap64 (1 + t602)))) * (shl .i64 1 (IntKind.u64.wrap (wrap64 (1 + t602)))))) 2)) then (if bt610.1 ≤ bt607.1 then (if bt612.1 ≤ bt610.1 then (some (bt612.1 == 1)) else (some false)) else (some false)) else (some false)) else (some false)) else (some false)) else (some false)) else (some false)))))) else (none)))) = some r := by rw [if_neg (show ¬ (false = true) by decide)] at H; exact H
  clear H
  have H := H1
  clear H1
  replace H := Option.bind_eq_some_iff.mp H
  obtain ⟨t602, A50, H⟩ := H
  replace H : ((impl_DoublingMask.f k (wrap64 (1 + t602))).bind fun bt603 => (if 0 ≤ (IntKind.u64.wrap (wrap64 (1 + t602))) then ((impl_SpreadOf.f k bt603.1 2).bind fun bt607 => ((laws_b10At.f l1 0 (wrap64 ((wrap64 ((shl .i64 1 (IntKind.u64.wrap (wrap64 (1 + t602)))) * (shl .i64 1 (IntKind.u64.wrap (wrap64 (1 + t602)))))) - 1))).bind fun t609 => ((impl_SpreadOf.f k bt603.1 (wrap64 (2 + t609))).bind fun bt610 => ((impl_SpreadOf.f k bt603.1 (wrap64 ((shl .i64 1 (IntKind.u64.wrap (wrap64 (1 + t602)))) * (shl .i64 1 (IntKind.u64.wrap (wrap64 (1 + t602))))))).bind fun bt612 => (if bt603.2 = true then (if bt607.2 = true then (if bt610.2 = true then (if bt612.2 = true then (if bt607.1 = (wrap64 (Int.tdiv (wrap64 ((shl .i64 1 (IntKind.u64.wrap (wrap64 (1 + t602)))) * (shl .i64 1 (IntKind.u64.wrap (wrap64 (1 + t602)))))) 2)) then (if bt610.1 ≤ bt607.1 then (if bt612.1 ≤ bt610.1 then (some (bt612.1 == 1)) else (some false)) else (some false)) else (some false)) else (some false)) else (some false)) else (some false)) else (some false)))))) else (none))) = some r := H
  have A5 := Aside0.mk A50
  clear A50
  replace H := Option.bind_eq_some_iff.mp H
  obtain ⟨⟨t603, t604⟩, A60, H⟩ := H
  replace H : (if 0 ≤ (IntKind.u64.wrap (wrap64 (1 + t602))) then ((impl_SpreadOf.f k t603 2).bind fun bt607 => ((laws_b10At.f l1 0 (wrap64 ((wrap64 ((shl .i64 1 (IntKind.u64.wrap (wrap64 (1 + t602)))) * (shl .i64 1 (IntKind.u64.wrap (wrap64 (1 + t602)))))) - 1))).bind fun t609 => ((impl_SpreadOf.f k t603 (wrap64 (2 + t609))).bind fun bt610 => ((impl_SpreadOf.f k t603 (wrap64 ((shl .i64 1 (IntKind.u64.wrap (wrap64 (1 + t602)))) * (shl .i64 1 (IntKind.u64.wrap (wrap64 (1 + t602))))))).bind fun bt612 => (if t604 = true then (if bt607.2 = true then (if bt610.2 = true then (if bt612.2 = true then (if bt607.1 = (wrap64 (Int.tdiv (wrap64 ((shl .i64 1 (IntKind.u64.wrap (wrap64 (1 + t602)))) * (shl .i64 1 (IntKind.u64.wrap (wrap64 (1 + t602)))))) 2)) then (if bt610.1 ≤ bt607.1 then (if bt612.1 ≤ bt610.1 then (some (bt612.1 == 1)) else (some false)) else (some false)) else (some false)) else (some false)) else (some false)) else (some false)) else (some false)))))) else (none)) = some r := H
  have A6 := Aside0.mk A60
  clear A60
  obtain ⟨ji7, hji7⟩ : ∃ j_ : Int, (IntKind.u64.wrap (wrap64 (1 + t602))) = j_ := ⟨_, rfl⟩
  replace H : (if 0 ≤ (ji7) then ((impl_SpreadOf.f k t603 2).bind fun bt607 => ((laws_b10At.f l1 0 (wrap64 ((wrap64 ((shl .i64 1 (ji7)) * (shl .i64 1 (ji7)))) - 1))).bind fun t609 => ((impl_SpreadOf.f k t603 (wrap64 (2 + t609))).bind fun bt610 => ((impl_SpreadOf.f k t603 (wrap64 ((shl .i64 1 (ji7)) * (shl .i64 1 (ji7))))).bind fun bt612 => (if t604 = true then (if bt607.2 = true then (if bt610.2 = true then (if bt612.2 = true then (if bt607.1 = (wrap64 (Int.tdiv (wrap64 ((shl .i64 1 (ji7)) * (shl .i64 1 (ji7)))) 2)) then (if bt610.1 ≤ bt607.1 then (if bt612.1 ≤ bt610.1 then (some (bt612.1 == 1)) else (some false)) else (some false)) else (some false)) else (some false)) else (some false)) else (some false)) else (some false)))))) else (none)) = some r := by first | (rw [hji7] at H; exact H) | (simp only [hji7] at H ⊢; exact H)
  (try rw [hji7] at A3)
  (try rw [hji7] at A5)
  (try rw [hji7] at A6)
  by_cases c8 : 0 ≤ (ji7)
  ·rw [if_pos c8] at H
   have c8b0 := eq_true c8
   have c8b1 : decide (0 ≤ (ji7)) = true := decide_eq_true c8
   clear c8
   obtain ⟨ji9, hji9⟩ : ∃ j_ : Int, (shl .i64 1 (ji7)) = j_ := ⟨_, rfl⟩
   replace H : ((impl_SpreadOf.f k t603 2).bind fun bt607 => ((laws_b10At.f l1 0 (wrap64 ((wrap64 ((ji9) * (ji9))) - 1))).bind fun t609 => ((impl_SpreadOf.f k t603 (wrap64 (2 + t609))).bind fun bt610 => ((impl_SpreadOf.f k t603 (wrap64 ((ji9) * (ji9)))).bind fun bt612 => (if t604 = true then (if bt607.2 = true then (if bt610.2 = true then (if bt612.2 = true then (if bt607.1 = (wrap64 (Int.tdiv (wrap64 ((ji9) * (ji9))) 2)) then (if bt610.1 ≤ bt607.1 then (if bt612.1 ≤ bt610.1 then (some (bt612.1 == 1)) else (some false)) else (some false)) else (some false)) else (some false)) else (some false)) else (some false)) else (some false)))))) = some r := by first | (rw [hji9] at H; exact H) | (simp only [hji9] at H ⊢; exact H)
   (try rw [hji9] at A3)
   (try rw [hji9] at A5)
   (try rw [hji9] at A6)
   have hji9_ : (IntKind.i64.wrap (1 * 2 ^ min (ji7).toNat 64)) = ji9 := hji9
   have hji9z : (ji7) ≤ 64 → (IntKind.i64.wrap (1 * 2 ^ (ji7).toNat)) = ji9 := shl_small hji9
   have hji9u : (IntKind.i64.wrap (2 ^ min (ji7).toNat 64)) = ji9 := by have h_ := hji9_; rw [Int.one_mul] at h_; exact h_
   have hji9v : (ji7) ≤ 64 → (IntKind.i64.wrap (2 ^ (ji7).toNat)) = ji9 := fun hle_ => by have h_ := hji9z hle_; rw [Int.one_mul] at h_; exact h_
   have hji9y : (wrap64 (1 * 2 ^ min (ji7).toNat 64)) = ji9 := (i64_w _).symm.trans hji9_
   have hji9x : (ji7) ≤ 64 → (wrap64 (1 * 2 ^ (ji7).toNat)) = ji9 := fun h_ => (i64_w _).symm.trans (hji9z h_)
   replace H := Option.bind_eq_some_iff.mp H
   obtain ⟨⟨t607, t608⟩, A100, H⟩ := H
   replace H : ((laws_b10At.f l1 0 (wrap64 ((wrap64 ((ji9) * (ji9))) - 1))).bind fun t609 => ((impl_SpreadOf.f k t603 (wrap64 (2 + t609))).bind fun bt610 => ((impl_SpreadOf.f k t603 (wrap64 ((ji9) * (ji9)))).bind fun bt612 => (if t604 = true then (if t608 = true then (if bt610.2 = true then (if bt612.2 = true then (if t607 = (wrap64 (Int.tdiv (wrap64 ((ji9) * (ji9))) 2)) then (if bt610.1 ≤ t607 then (if bt612.1 ≤ bt610.1 then (some (bt612.1 == 1)) else (some false)) else (some false)) else (some false)) else (some false)) else (some false)) else (some false)) else (some false))))) = some r := H
   have A10 := Aside0.mk A100
   clear A100
   replace H := Option.bind_eq_some_iff.mp H
   obtain ⟨t609, A110, H⟩ := H
   replace H : ((impl_SpreadOf.f k t603 (wrap64 (2 + t609))).bind fun bt610 => ((impl_SpreadOf.f k t603 (wrap64 ((ji9) * (ji9)))).bind fun bt612 => (if t604 = true then (if t608 = true then (if bt610.2 = true then (if bt612.2 = true then (if t607 = (wrap64 (Int.tdiv (wrap64 ((ji9) * (ji9))) 2)) then (if bt610.1 ≤ t607 then (if bt612.1 ≤ bt610.1 then (some (bt612.1 == 1)) else (some false)) else (some false)) else (some false)) else (some false)) else (some false)) else (some false)) else (some false)))) = some r := H
   have A11 := Aside0.mk A110
   clear A110
   replace H := Option.bind_eq_some_iff.mp H
   obtain ⟨⟨t610, t611⟩, A120, H⟩ := H
   replace H : ((impl_SpreadOf.f k t603 (wrap64 ((ji9) * (ji9)))).bind fun bt612 => (if t604 = true then (if t608 = true then (if t611 = true then (if bt612.2 = true then (if t607 = (wrap64 (Int.tdiv (wrap64 ((ji9) * (ji9))) 2)) then (if t610 ≤ t607 then (if bt612.1 ≤ t610 then (some (bt612.1 == 1)) else (some false)) else (some false)) else (some false)) else (some false)) else (some false)) else (some false)) else (some false))) = some r := H
   have A12 := Aside0.mk A120
   clear A120
   replace H := Option.bind_eq_some_iff.mp H
   obtain ⟨⟨t612, t613⟩, A130, H⟩ := H
   replace H : (if t604 = true then (if t608 = true then (if t611 = true then (if t613 = true then (if t607 = (wrap64 (Int.tdiv (wrap64 ((ji9) * (ji9))) 2)) then (if t610 ≤ t607 then (if t612 ≤ t610 then (some (t612 == 1)) else (some false)) else (some false)) else (some false)) else (some false)) else (some false)) else (some false)) else (some false)) = some r := H
   have A13 := Aside0.mk A130
   clear A130
   by_cases c14 : t604 = true
   ·subst c14
    have H1 : (if t608 = true then (if t611 = true then (if t613 = true then (if t607 = (wrap64 (Int.tdiv (wrap64 ((ji9) * (ji9))) 2)) then (if t610 ≤ t607 then (if t612 ≤ t610 then (some (t612 == 1)) else (some false)) else (some false)) else (some false)) else (some false)) else (some false)) else (some false)) = some r := by rw [if_pos rfl] at H; exact H
    clear H
    have H := H1
    clear H1
    by_cases c15 : t608 = true
    ·subst c15
     have H1 : (if t611 = true then (if t613 = true then (if t607 = (wrap64 (Int.tdiv (wrap64 ((ji9) * (ji9))) 2)) then (if t610 ≤ t607 then (if t612 ≤ t610 then (some (t612 == 1)) else (some false)) else (some false)) else (some false)) else (some false)) else (some false)) = some r := by rw [if_pos rfl] at H; exact H
     clear H
     have H := H1
     clear H1
     by_cases c16 : t611 = true
     ·subst c16
      have H1 : (if t613 = true then (if t607 = (wrap64 (Int.tdiv (wrap64 ((ji9) * (ji9))) 2)) then (if t610 ≤ t607 then (if t612 ≤ t610 then (some (t612 == 1)) else (some false)) else (some false)) else (some false)) else (some false)) = some r := by rw [if_pos rfl] at H; exact H
      clear H
      have H := H1
      clear H1
      by_cases c17 : t613 = true
      ·subst c17
       have H1 : (if t607 = (wrap64 (Int.tdiv (wrap64 ((ji9) * (ji9))) 2)) then (if t610 ≤ t607 then (if t612 ≤ t610 then (some (t612 == 1)) else (some false)) else (some false)) else (some false)) = some r := by rw [if_pos rfl] at H; exact H
       clear H
       have H := H1
       clear H1
       by_cases c18 : t607 = (wrap64 (Int.tdiv (wrap64 ((ji9) * (ji9))) 2))
       ·rw [if_pos c18] at H
        have c18b0 : (t607 == (wrap64 (Int.tdiv (wrap64 ((ji9) * (ji9))) 2))) = true := beq_iff_eq.mpr c18
        have c18b1 : (t607 != (wrap64 (Int.tdiv (wrap64 ((ji9) * (ji9))) 2))) = false := bne_eq_false_iff_eq.mpr c18
        clear c18
        by_cases c19 : t610 ≤ t607
        ·rw [if_pos c19] at H
         have c19b0 : decide (t610 ≤ t607) = true := decide_eq_true c19
         clear c19
         by_cases c20 : t612 ≤ t610
         ·rw [if_pos c20] at H
          have c20b0 : decide (t612 ≤ t610) = true := decide_eq_true c20
          clear c20
          obtain rfl := Option.some.inj H
          go_enter Try.func11, Try.ntmps11
          go_wp2_with (first | ((with_reducible refine gate_callee (f := 22) rfl ?_); refine goesL_ (some 18) rfl rfl Try.func22 (by kernel_rfl) rfl #[.slice A0 l0.length c0, .slice A1 l1.length c1] rfl (by (try simp only [List.map_toArray, List.map_cons, List.map_nil]); first | done | rfl | (simp only [List.length_drop, List.length_take]; rfl) | (simp only [show ∀ (n_ : Nat) (b_ : Int), Int.tdiv (n_ : Int) b_ = (n_ : Int) / b_ from fun n_ b_ => Int.tdiv_eq_ediv_of_nonneg (Int.natCast_nonneg n_)]; rfl)) ?_; (with_reducible refine (laws_b10Long.calls _ _ l0 _ _ l1 false _ ?side1 ?side2 ?side3 ?side4 A3.out).mono ?_); (case side1 => repeat (first | exact HR0.out | (with_reducible refine Kd.C_alloc ?_ _) | (with_reducible refine Kd.C_drewN ?_ _) | (with_reducible refine Kd.C_drew ?_))); (case side2 => exact HC0.out); (case side3 => repeat (first | exact HR1.out | (with_reducible refine Kd.C_alloc ?_ _) | (with_reducible refine Kd.C_drewN ?_ _) | (with_reducible refine Kd.C_drew ?_))); (case side4 => exact HC1.out); rintro e w' ⟨rfl, ⟨nd, rfl⟩⟩; refine ⟨_, rfl, ?_⟩) | ((with_reducible refine gate_callee (f := 23) rfl ?_); refine goesL_ (some 20) rfl rfl Try.func23 (by kernel_rfl) rfl #[.slice A0 l0.length c0, .int .i64 0, .int .i64 3] rfl (by (try simp only [List.map_toArray, List.map_cons, List.map_nil]); first | done | rfl | (simp only [List.length_drop, List.length_take]; rfl) | (simp only [show ∀ (n_ : Nat) (b_ : Int), Int.tdiv (n_ : Int) b_ = (n_ : Int) / b_ from fun n_ b_ => Int.tdiv_eq_ediv_of_nonneg (Int.natCast_nonneg n_)]; rfl)) ?_; (with_reducible refine (laws_b10At.calls _ _ l0 0 3 t602 _ ?side1 ?side2 A5.out).mono ?_); (case side1 => repeat (first | exact HR0.out | (with_reducible refine Kd.C_alloc ?_ _) | (with_reducible refine Kd.C_drewN ?_ _) | (with_reducible refine Kd.C_drew ?_))); (case side2 => exact HC0.out); rintro e w' ⟨rfl, ⟨nd, rfl⟩⟩; refine ⟨_, rfl, ?_⟩) | ((with_reducible refine gate_callee (f := 16) rfl ?_); refine goesL_ (some 24) rfl rfl Try.func16 (by kernel_rfl) rfl #[.int .i64 (wrap64 (1 + t602))] rfl (by (try simp only [List.map_toArray, List.map_cons, List.map_nil]); first | done | rfl | (simp only [List.length_drop, List.length_take]; rfl) | (simp only [show ∀ (n_ : Nat) (b_ : Int), Int.tdiv (n_ : Int) b_ = (n_ : Int) / b_ from fun n_ b_ => Int.tdiv_eq_ediv_of_nonneg (Int.natCast_nonneg n_)]; rfl)) ?_; (with_reducible refine (impl_DoublingMask.calls k (wrap64 (1 + t602)) t603 true _ A6.out).mono ?_); rintro e w21 ⟨v605, rfl, ho0, hb⟩; refine ⟨_, rfl, ?_⟩; have n0_ := Aside0.mk (Kd.S_lower ho0 (below_size (by repeat (first | (with_reducible first | exact HB.out | apply below_alloc | apply pw_below_drewN | apply below_drew1) | exact HB.out)))); have n1_ := Aside0.mk (below_step (by repeat (first | (with_reducible first | exact HB.out | apply below_alloc | apply pw_below_drewN | apply below_drew1) | exact HB.out)) hb); clear HB; have HO606 := n0_; have HB := n1_; clear n0_ n1_; (try clear hb); (try clear hb2); (try clear hk); (try clear hi); (try clear ho0); obtain ⟨Ao22, co22, eo22⟩ := Kd.S_slice HO606.out; subst eo22) | ((with_reducible refine gate_callee (f := 37) rfl ?_); refine goesL_ (some 32) rfl rfl Try.func37 (by kernel_rfl) rfl #[.slice Ao22 t603.length co22, .int .i64 2] rfl (by (try simp only [List.map_toArray, List.map_cons, List.map_nil]); first | done | rfl | (simp only [List.length_drop, List.length_take]; rfl) | (simp only [show ∀ (n_ : Nat) (b_ : Int), Int.tdiv (n_ : Int) b_ = (n_ : Int) / b_ from fun n_ b_ => Int.tdiv_eq_ediv_of_nonneg (Int.natCast_nonneg n_)]; rfl)) ?_; (with_reducible refine (impl_SpreadOf.calls k _ _ t603 2 t607 true _ ?side1 ?side2 A10.out).mono ?_); (case side1 => repeat (first | exact (Kd.S_reads' HO606.out).2.2 | (with_reducible refine Kd.C_alloc ?_ _) | (with_reducible refine Kd.C_drewN ?_ _) | (with_reducible refine Kd.C_drew ?_))); (case side2 => exact (Kd.S_reads' HO606.out).2.1); rintro e w23 ⟨rfl, hb⟩; refine ⟨_, rfl, ?_⟩; have n0_ := Aside0.mk (Kd.S_below (by (with_reducible repeat (first | apply Kd.S_alloc | apply Kd.S_drewN | apply Kd.S_drew)); exact HO606.out) hb); have n1_ := Aside0.mk (below_step (by repeat (first | (with_reducible first | exact HB.out | apply below_alloc | apply pw_below_drewN | apply below_drew1) | exact HB.out)) hb); clear HO606; clear HB; have HO606 := n0_; have HB := n1_; clear n0_ n1_; (try clear hb); (try clear hb2); (try clear hk); (try clear hi)) | ((with_reducible refine gate_callee (f := 23) rfl ?_); refine goesL_ (some 40) rfl rfl Try.func23 (by kernel_rfl) rfl #[.slice A1 l1.length c1, .int .i64 0, .int .i64 (wrap64 ((wrap64 ((ji9) * (ji9))) - 1))] rfl (by (try simp only [List.map_toArray, List.map_cons, List.map_nil]); first | done | (simp only [hji9]; rfl) | rfl | (simp only [List.length_drop, List.length_take]; rfl)) ?_; (with_reducible refine (laws_b10At.calls _ _ l1 0 (wrap64 ((wrap64 ((ji9) * (ji9))) - 1)) t609 _ ?side1 ?side2 A11.out).mono ?_); (case side1 => repeat (first | exact (Kd.C_below HR1.out HB.out) | (with_reducible refine Kd.C_alloc ?_ _) | (with_reducible refine Kd.C_drewN ?_ _) | (with_reducible refine Kd.C_drew ?_))); (case side2 => exact HC1.out); rintro e w' ⟨rfl, ⟨nd, rfl⟩⟩; refine ⟨_, rfl, ?_⟩) | ((with_reducible refine gate_callee (f := 37) rfl ?_); refine goesL_ (some 45) rfl rfl Try.func37 (by kernel_rfl) rfl #[.slice Ao22 t603.length co22, .int .i64 (wrap64 (2 + t609))] rfl (by (try simp only [List.map_toArray, List.map_cons, List.map_nil]); first | done | rfl | (simp only [List.length_drop, List.length_take]; rfl) | (simp only [show ∀ (n_ : Nat) (b_ : Int), Int.tdiv (n_ : Int) b_ = (n_ : Int) / b_ from fun n_ b_ => Int.tdiv_eq_ediv_of_nonneg (Int.natCast_nonneg n_)]; rfl)) ?_; (with_reducible refine (impl_SpreadOf.calls k _ _ t603 (wrap64 (2 + t609)) t610 true _ ?side1 ?side2 A12.out).mono ?_); (case side1 => repeat (first | exact (Kd.S_reads' HO606.out).2.2 | (with_reducible refine Kd.C_alloc ?_ _) | (with_reducible refine Kd.C_drewN ?_ _) | (with_reducible refine Kd.C_drew ?_))); (case side2 => exact (Kd.S_reads' HO606.out).2.1); rintro e w24 ⟨rfl, hb⟩; refine ⟨_, rfl, ?_⟩; have n0_ := Aside0.mk (Kd.S_below (by (with_reducible repeat (first | apply Kd.S_alloc | apply Kd.S_drewN | apply Kd.S_drew)); exact HO606.out) hb); have n1_ := Aside0.mk (below_step (by repeat (first | (with_reducible first | exact HB.out | apply below_alloc | apply pw_below_drewN | apply below_drew1) | exact HB.out)) hb); clear HO606; clear HB; have HO606 := n0_; have HB := n1_; clear n0_ n1_; (try clear hb); (try clear hb2); (try clear hk); (try clear hi)) | ((with_reducible refine gate_callee (f := 37) rfl ?_); refine goesL_ (some 53) rfl rfl Try.func37 (by kernel_rfl) rfl #[.slice Ao22 t603.length co22, .int .i64 (wrap64 ((ji9) * (ji9)))] rfl (by (try simp only [List.map_toArray, List.map_cons, List.map_nil]); first | done | (simp only [hji9]; rfl) | rfl | (simp only [List.length_drop, List.length_take]; rfl)) ?_; (with_reducible refine (impl_SpreadOf.calls k _ _ t603 (wrap64 ((ji9) * (ji9))) t612 true _ ?side1 ?side2 A13.out).mono ?_); (case side1 => repeat (first | exact (Kd.S_reads' HO606.out).2.2 | (with_reducible refine Kd.C_alloc ?_ _) | (with_reducible refine Kd.C_drewN ?_ _) | (with_reducible refine Kd.C_drew ?_))); (case side2 => exact (Kd.S_reads' HO606.out).2.1); rintro e w25 ⟨rfl, hb⟩; refine ⟨_, rfl, ?_⟩; have n0_ := Aside0.mk (Kd.S_below (by (with_reducible repeat (first | apply Kd.S_alloc | apply Kd.S_drewN | apply Kd.S_drew)); exact HO606.out) hb); have n1_ := Aside0.mk (below_step (by repeat (first | (with_reducible first | exact HB.out | apply below_alloc | apply pw_below_drewN | apply below_drew1) | exact HB.out)) hb); clear HO606; clear HB; have HO606 := n0_; have HB := n1_; clear n0_ n1_; (try clear hb); (try clear hb2); (try clear hk); (try clear hi)))
          go_ret
          exact ⟨by first | rfl | (simp [errW_none, errW_some] <;> rfl) | (simp only [← hji7, ← hji9]; first | rfl | (simp [errW_none, errW_some] <;> rfl)) | (simp [*, errW_none, errW_some] <;> rfl), by repeat (first | (with_reducible first | exact HB.out | apply below_alloc | apply pw_below_drewN | apply below_drew1) | exact HB.out)⟩
         ·rw [if_neg c20] at H
          have c20b0 : decide (t612 ≤ t610) = false := decide_eq_false c20
          clear c20
          obtain rfl := Option.some.inj H
          go_enter Try.func11, Try.ntmps11
          go_wp2_with (first | ((with_reducible refine gate_callee (f := 22) rfl ?_); refine goesL_ (some 18) rfl rfl Try.func22 (by kernel_rfl) rfl #[.slice A0 l0.length c0, .slice A1 l1.length c1] rfl (by (try simp only [List.map_toArray, List.map_cons, List.map_nil]); first | done | rfl | (simp only [List.length_drop, List.length_take]; rfl) | (simp only [show ∀ (n_ : Nat) (b_ : Int), Int.tdiv (n_ : Int) b_ = (n_ : Int) / b_ from fun n_ b_ => Int.tdiv_eq_ediv_of_nonneg (Int.natCast_nonneg n_)]; rfl)) ?_; (with_reducible refine (laws_b10Long.calls _ _ l0 _ _ l1 false _ ?side1 ?side2 ?side3 ?side4 A3.out).mono ?_); (case side1 => repeat (first | exact HR0.out | (with_reducible refine Kd.C_alloc ?_ _) | (with_reducible refine Kd.C_drewN ?_ _) | (with_reducible refine Kd.C_drew ?_))); (case side2 => exact HC0.out); (case side3 => repeat (first | exact HR1.out | (with_reducible refine Kd.C_alloc ?_ _) | (with_reducible refine Kd.C_drewN ?_ _) | (with_reducible refine Kd.C_drew ?_))); (case side4 => exact HC1.out); rintro e w' ⟨rfl, ⟨nd, rfl⟩⟩; refine ⟨_, rfl, ?_⟩) | ((with_reducible refine gate_callee (f := 23) rfl ?_); refine goesL_ (some 20) rfl rfl Try.func23 (by kernel_rfl) rfl #[.slice A0 l0.length c0, .int .i64 0, .int .i64 3] rfl (by (try simp only [List.map_toArray, List.map_cons, List.map_nil]); first | done | rfl | (simp only [List.length_drop, List.length_take]; rfl) | (simp only [show ∀ (n_ : Nat) (b_ : Int), Int.tdiv (n_ : Int) b_ = (n_ : Int) / b_ from fun n_ b_ => Int.tdiv_eq_ediv_of_nonneg (Int.natCast_nonneg n_)]; rfl)) ?_; (with_reducible refine (laws_b10At.calls _ _ l0 0 3 t602 _ ?side1 ?side2 A5.out).mono ?_); (case side1 => repeat (first | exact HR0.out | (with_reducible refine Kd.C_alloc ?_ _) | (with_reducible refine Kd.C_drewN ?_ _) | (with_reducible refine Kd.C_drew ?_))); (case side2 => exact HC0.out); rintro e w' ⟨rfl, ⟨nd, rfl⟩⟩; refine ⟨_, rfl, ?_⟩) | ((with_reducible refine gate_callee (f := 16) rfl ?_); refine goesL_ (some 24) rfl rfl Try.func16 (by kernel_rfl) rfl #[.int .i64 (wrap64 (1 + t602))] rfl (by (try simp only [List.map_toArray, List.map_cons, List.map_nil]); first | done | rfl | (simp only [List.length_drop, List.length_take]; rfl) | (simp only [show ∀ (n_ : Nat) (b_ : Int), Int.tdiv (n_ : Int) b_ = (n_ : Int) / b_ from fun n_ b_ => Int.tdiv_eq_ediv_of_nonneg (Int.natCast_nonneg n_)]; rfl)) ?_; (with_reducible refine (impl_DoublingMask.calls k (wrap64 (1 + t602)) t603 true _ A6.out).mono ?_); rintro e w26 ⟨v605, rfl, ho0, hb⟩; refine ⟨_, rfl, ?_⟩; have n0_ := Aside0.mk (Kd.S_lower ho0 (below_size (by repeat (first | (with_reducible first | exact HB.out | apply below_alloc | apply pw_below_drewN | apply below_drew1) | exact HB.out)))); have n1_ := Aside0.mk (below_step (by repeat (first | (with_reducible first | exact HB.out | apply below_alloc | apply pw_below_drewN | apply below_drew1) | exact HB.out)) hb); clear HB; have HO606 := n0_; have HB := n1_; clear n0_ n1_; (try clear hb); (try clear hb2); (try clear hk); (try clear hi); (try clear ho0); obtain ⟨Ao27, co27, eo27⟩ := Kd.S_slice HO606.out; subst eo27) | ((with_reducible refine gate_callee (f := 37) rfl ?_); refine goesL_ (some 32) rfl rfl Try.func37 (by kernel_rfl) rfl #[.slice Ao27 t603.length co27, .int .i64 2] rfl (by (try simp only [List.map_toArray, List.map_cons, List.map_nil]); first | done | rfl | (simp only [List.length_drop, List.length_take]; rfl) | (simp only [show ∀ (n_ : Nat) (b_ : Int), Int.tdiv (n_ : Int) b_ = (n_ : Int) / b_ from fun n_ b_ => Int.tdiv_eq_ediv_of_nonneg (Int.natCast_nonneg n_)]; rfl)) ?_; (with_reducible refine (impl_SpreadOf.calls k _ _ t603 2 t607 true _ ?side1 ?side2 A10.out).mono ?_); (case side1 => repeat (first | exact (Kd.S_reads' HO606.out).2.2 | (with_reducible refine Kd.C_alloc ?_ _) | (with_reducible refine Kd.C_drewN ?_ _) | (with_reducible refine Kd.C_drew ?_))); (case side2 => exact (Kd.S_reads' HO606.out).2.1); rintro e w28 ⟨rfl, hb⟩; refine ⟨_, rfl, ?_⟩; have n0_ := Aside0.mk (Kd.S_below (by (with_reducible repeat (first | apply Kd.S_alloc | apply Kd.S_drewN | apply Kd.S_drew)); exact HO606.out) hb); have n1_ := Aside0.mk (below_step (by repeat (first | (with_reducible first | exact HB.out | apply below_alloc | apply pw_below_drewN | apply below_drew1) | exact HB.out)) hb); clear HO606; clear HB; have HO606 := n0_; have HB := n1_; clear n0_ n1_; (try clear hb); (try clear hb2); (try clear hk); (try clear hi)) | ((with_reducible refine gate_callee (f := 23) rfl ?_); refine goesL_ (some 40) rfl rfl Try.func23 (by kernel_rfl) rfl #[.slice A1 l1.length c1, .int .i64 0, .int .i64 (wrap64 ((wrap64 ((ji9) * (ji9))) - 1))] rfl (by (try simp only [List.map_toArray, List.map_cons, List.map_nil]); first | done | (simp only [hji9]; rfl) | rfl | (simp only [List.length_drop, List.length_take]; rfl)) ?_; (with_reducible refine (laws_b10At.calls _ _ l1 0 (wrap64 ((wrap64 ((ji9) * (ji9))) - 1)) t609 _ ?side1 ?side2 A11.out).mono ?_); (case side1 => repeat (first | exact (Kd.C_below HR1.out HB.out) | (with_reducible refine Kd.C_alloc ?_ _) | (with_reducible refine Kd.C_drewN ?_ _) | (with_reducible refine Kd.C_drew ?_))); (case side2 => exact HC1.out); rintro e w' ⟨rfl, ⟨nd, rfl⟩⟩; refine ⟨_, rfl, ?_⟩) | ((with_reducible refine gate_callee (f := 37) rfl ?_); refine goesL_ (some 45) rfl rfl Try.func37 (by kernel_rfl) rfl #[.slice Ao27 t603.length co27, .int .i64 (wrap64 (2 + t609))] rfl (by (try simp only [List.map_toArray, List.map_cons, List.map_nil]); first | done | rfl | (simp only [List.length_drop, List.length_take]; rfl) | (simp only [show ∀ (n_ : Nat) (b_ : Int), Int.tdiv (n_ : Int) b_ = (n_ : Int) / b_ from fun n_ b_ => Int.tdiv_eq_ediv_of_nonneg (Int.natCast_nonneg n_)]; rfl)) ?_; (with_reducible refine (impl_SpreadOf.calls k _ _ t603 (wrap64 (2 + t609)) t610 true _ ?side1 ?side2 A12.out).mono ?_); (case side1 => repeat (first | exact (Kd.S_reads' HO606.out).2.2 | (with_reducible refine Kd.C_alloc ?_ _) | (with_reducible refine Kd.C_drewN ?_ _) | (with_reducible refine Kd.C_drew ?_))); (case side2 => exact (Kd.S_reads' HO606.out).2.1); rintro e w29 ⟨rfl, hb⟩; refine ⟨_, rfl, ?_⟩; have n0_ := Aside0.mk (Kd.S_below (by (with_reducible repeat (first | apply Kd.S_alloc | apply Kd.S_drewN | apply Kd.S_drew)); exact HO606.out) hb); have n1_ := Aside0.mk (below_step (by repeat (first | (with_reducible first | exact HB.out | apply below_alloc | apply pw_below_drewN | apply below_drew1) | exact HB.out)) hb); clear HO606; clear HB; have HO606 := n0_; have HB := n1_; clear n0_ n1_; (try clear hb); (try clear hb2); (try clear hk); (try clear hi)) | ((with_reducible refine gate_callee (f := 37) rfl ?_); refine goesL_ (some 53) rfl rfl Try.func37 (by kernel_rfl) rfl #[.slice Ao27 t603.length co27, .int .i64 (wrap64 ((ji9) * (ji9)))] rfl (by (try simp only [List.map_toArray, List.map_cons, List.map_nil]); first | done | (simp only [hji9]; rfl) | rfl | (simp only [List.length_drop, List.length_take]; rfl)) ?_; (with_reducible refine (impl_SpreadOf.calls k _ _ t603 (wrap64 ((ji9) * (ji9))) t612 true _ ?side1 ?side2 A13.out).mono ?_); (case side1 => repeat (first | exact (Kd.S_reads' HO606.out).2.2 | (with_reducible refine Kd.C_alloc ?_ _) | (with_reducible refine Kd.C_drewN ?_ _) | (with_reducible refine Kd.C_drew ?_))); (case side2 => exact (Kd.S_reads' HO606.out).2.1); rintro e w30 ⟨rfl, hb⟩; refine ⟨_, rfl, ?_⟩; have n0_ := Aside0.mk (Kd.S_below (by (with_reducible repeat (first | apply Kd.S_alloc | apply Kd.S_drewN | apply Kd.S_drew)); exact HO606.out) hb); have n1_ := Aside0.mk (below_step (by repeat (first | (with_reducible first | exact HB.out | apply below_alloc | apply pw_below_drewN | apply below_drew1) | exact HB.out)) hb); clear HO606; clear HB; have HO606 := n0_; have HB := n1_; clear n0_ n1_; (try clear hb); (try clear hb2); (try clear hk); (try clear hi)))
          go_ret
          exact ⟨by first | rfl | (simp [errW_none, errW_some] <;> rfl) | (simp only [← hji7, ← hji9]; first | rfl | (simp [errW_none, errW_some] <;> rfl)) | (simp [*, errW_none, errW_some] <;> rfl), by repeat (first | (with_reducible first | exact HB.out | apply below_alloc | apply pw_below_drewN | apply below_drew1) | exact HB.out)⟩
        ·rw [if_neg c19] at H
         have c19b0 : decide (t610 ≤ t607) = false := decide_eq_false c19
         clear c19
         obtain rfl := Option.some.inj H
         go_enter Try.func11, Try.ntmps11
         go_wp2_with (first | ((with_reducible refine gate_callee (f := 22) rfl ?_); refine goesL_ (some 18) rfl rfl Try.func22 (by kernel_rfl) rfl #[.slice A0 l0.length c0, .slice A1 l1.length c1] rfl (by (try simp only [List.map_toArray, List.map_cons, List.map_nil]); first | done | rfl | (simp only [List.length_drop, List.length_take]; rfl) | (simp only [show ∀ (n_ : Nat) (b_ : Int), Int.tdiv (n_ : Int) b_ = (n_ : Int) / b_ from fun n_ b_ => Int.tdiv_eq_ediv_of_nonneg (Int.natCast_nonneg n_)]; rfl)) ?_; (with_reducible refine (laws_b10Long.calls _ _ l0 _ _ l1 false _ ?side1 ?side2 ?side3 ?side4 A3.out).mono ?_); (case side1 => repeat (first | exact HR0.out | (with_reducible refine Kd.C_alloc ?_ _) | (with_reducible refine Kd.C_drewN ?_ _) | (with_reducible refine Kd.C_drew ?_))); (case side2 => exact HC0.out); (case side3 => repeat (first | exact HR1.out | (with_reducible refine Kd.C_alloc ?_ _) | (with_reducible refine Kd.C_drewN ?_ _) | (with_reducible refine Kd.C_drew ?_))); (case side4 => exact HC1.out); rintro e w' ⟨rfl, ⟨nd, rfl⟩⟩; refine ⟨_, rfl, ?_⟩) | ((with_reducible refine gate_callee (f := 23) rfl ?_); refine goesL_ (some 20) rfl rfl Try.func23 (by kernel_rfl) rfl #[.slice A0 l0.length c0, .int .i64 0, .int .i64 3] rfl (by (try simp only [List.map_toArray, List.map_cons, List.map_nil]); first | done | rfl | (simp only [List.length_drop, List.length_take]; rfl) | (simp only [show ∀ (n_ : Nat) (b_ : Int), Int.tdiv (n_ : Int) b_ = (n_ : Int) / b_ from fun n_ b_ => Int.tdiv_eq_ediv_of_nonneg (Int.natCast_nonneg n_)]; rfl)) ?_; (with_reducible refine (laws_b10At.calls _ _ l0 0 3 t602 _ ?side1 ?side2 A5.out).mono ?_); (case side1 => repeat (first | exact HR0.out | (with_reducible refine Kd.C_alloc ?_ _) | (with_reducible refine Kd.C_drewN ?_ _) | (with_reducible refine Kd.C_drew ?_))); (case side2 => exact HC0.out); rintro e w' ⟨rfl, ⟨nd, rfl⟩⟩; refine ⟨_, rfl, ?_⟩) | ((with_reducible refine gate_callee (f := 16) rfl ?_); refine goesL_ (some 24) rfl rfl Try.func16 (by kernel_rfl) rfl #[.int .i64 (wrap64 (1 + t602))] rfl (by (try simp only [List.map_toArray, List.map_cons, List.map_nil]); first | done | rfl | (simp only [List.length_drop, List.length_take]; rfl) | (simp only [show ∀ (n_ : Nat) (b_ : Int), Int.tdiv (n_ : Int) b_ = (n_ : Int) / b_ from fun n_ b_ => Int.tdiv_eq_ediv_of_nonneg (Int.natCast_nonneg n_)]; rfl)) ?_; (with_reducible refine (impl_DoublingMask.calls k (wrap64 (1 + t602)) t603 true _ A6.out).mono ?_); rintro e w31 ⟨v605, rfl, ho0, hb⟩; refine ⟨_, rfl, ?_⟩; have n0_ := Aside0.mk (Kd.S_lower ho0 (below_size (by repeat (first | (with_reducible first | exact HB.out | apply below_alloc | apply pw_below_drewN | apply below_drew1) | exact HB.out)))); have n1_ := Aside0.mk (below_step (by repeat (first | (with_reducible first | exact HB.out | apply below_alloc | apply pw_below_drewN | apply below_drew1) | exact HB.out)) hb); clear HB; have HO606 := n0_; have HB := n1_; clear n0_ n1_; (try clear hb); (try clear hb2); (try clear hk); (try clear hi); (try clear ho0); obtain ⟨Ao32, co32, eo32⟩ := Kd.S_slice HO606.out; subst eo32) | ((with_reducible refine gate_callee (f := 37) rfl ?_); refine goesL_ (some 32) rfl rfl Try.func37 (by kernel_rfl) rfl #[.slice Ao32 t603.length co32, .int .i64 2] rfl (by (try simp only [List.map_toArray, List.map_cons, List.map_nil]); first | done | rfl | (simp only [List.length_drop, List.length_take]; rfl) | (simp only [show ∀ (n_ : Nat) (b_ : Int), Int.tdiv (n_ : Int) b_ = (n_ : Int) / b_ from fun n_ b_ => Int.tdiv_eq_ediv_of_nonneg (Int.natCast_nonneg n_)]; rfl)) ?_; (with_reducible refine (impl_SpreadOf.calls k _ _ t603 2 t607 true _ ?side1 ?side2 A10.out).mono ?_); (case side1 => repeat (first | exact (Kd.S_reads' HO606.out).2.2 | (with_reducible refine Kd.C_alloc ?_ _) | (with_reducible refine Kd.C_drewN ?_ _) | (with_reducible refine Kd.C_drew ?_))); (case side2 => exact (Kd.S_reads' HO606.out).2.1); rintro e w33 ⟨rfl, hb⟩; refine ⟨_, rfl, ?_⟩; have n0_ := Aside0.mk (Kd.S_below (by (with_reducible repeat (first | apply Kd.S_alloc | apply Kd.S_drewN | apply Kd.S_drew)); exact HO606.out) hb); have n1_ := Aside0.mk (below_step (by repeat (first | (with_reducible first | exact HB.out | apply below_alloc | apply pw_below_drewN | apply below_drew1) | exact HB.out)) hb); clear HO606; clear HB; have HO606 := n0_; have HB := n1_; clear n0_ n1_; (try clear hb); (try clear hb2); (try clear hk); (try clear hi)) | ((with_reducible refine gate_callee (f := 23) rfl ?_); refine goesL_ (some 40) rfl rfl Try.func23 (by kernel_rfl) rfl #[.slice A1 l1.length c1, .int .i64 0, .int .i64 (wrap64 ((wrap64 ((ji9) * (ji9))) - 1))] rfl (by (try simp only [List.map_toArray, List.map_cons, List.map_nil]); first | done | (simp only [hji9]; rfl) | rfl | (simp only [List.length_drop, List.length_take]; rfl)) ?_; (with_reducible refine (laws_b10At.calls _ _ l1 0 (wrap64 ((wrap64 ((ji9) * (ji9))) - 1)) t609 _ ?side1 ?side2 A11.out).mono ?_); (case side1 => repeat (first | exact (Kd.C_below HR1.out HB.out) | (with_reducible refine Kd.C_alloc ?_ _) | (with_reducible refine Kd.C_drewN ?_ _) | (with_reducible refine Kd.C_drew ?_))); (case side2 => exact HC1.out); rintro e w' ⟨rfl, ⟨nd, rfl⟩⟩; refine ⟨_, rfl, ?_⟩) | ((with_reducible refine gate_callee (f := 37) rfl ?_); refine goesL_ (some 45) rfl rfl Try.func37 (by kernel_rfl) rfl #[.slice Ao32 t603.length co32, .int .i64 (wrap64 (2 + t609))] rfl (by (try simp only [List.map_toArray, List.map_cons, List.map_nil]); first | done | rfl | (simp only [List.length_drop, List.length_take]; rfl) | (simp only [show ∀ (n_ : Nat) (b_ : Int), Int.tdiv (n_ : Int) b_ = (n_ : Int) / b_ from fun n_ b_ => Int.tdiv_eq_ediv_of_nonneg (Int.natCast_nonneg n_)]; rfl)) ?_; (with_reducible refine (impl_SpreadOf.calls k _ _ t603 (wrap64 (2 + t609)) t610 true _ ?side1 ?side2 A12.out).mono ?_); (case side1 => repeat (first | exact (Kd.S_reads' HO606.out).2.2 | (with_reducible refine Kd.C_alloc ?_ _) | (with_reducible refine Kd.C_drewN ?_ _) | (with_reducible refine Kd.C_drew ?_))); (case side2 => exact (Kd.S_reads' HO606.out).2.1); rintro e w34 ⟨rfl, hb⟩; refine ⟨_, rfl, ?_⟩; have n0_ := Aside0.mk (Kd.S_below (by (with_reducible repeat (first | apply Kd.S_alloc | apply Kd.S_drewN | apply Kd.S_drew)); exact HO606.out) hb); have n1_ := Aside0.mk (below_step (by repeat (first | (with_reducible first | exact HB.out | apply below_alloc | apply pw_below_drewN | apply below_drew1) | exact HB.out)) hb); clear HO606; clear HB; have HO606 := n0_; have HB := n1_; clear n0_ n1_; (try clear hb); (try clear hb2); (try clear hk); (try clear hi)) | ((with_reducible refine gate_callee (f := 37) rfl ?_); refine goesL_ (some 53) rfl rfl Try.func37 (by kernel_rfl) rfl #[.slice Ao32 t603.length co32, .int .i64 (wrap64 ((ji9) * (ji9)))] rfl (by (try simp only [List.map_toArray, List.map_cons, List.map_nil]); first | done | (simp only [hji9]; rfl) | rfl | (simp only [List.length_drop, List.length_take]; rfl)) ?_; (with_reducible refine (impl_SpreadOf.calls k _ _ t603 (wrap64 ((ji9) * (ji9))) t612 true _ ?side1 ?side2 A13.out).mono ?_); (case side1 => repeat (first | exact (Kd.S_reads' HO606.out).2.2 | (with_reducible refine Kd.C_alloc ?_ _) | (with_reducible refine Kd.C_drewN ?_ _) | (with_reducible refine Kd.C_drew ?_))); (case side2 => exact (Kd.S_reads' HO606.out).2.1); rintro e w35 ⟨rfl, hb⟩; refine ⟨_, rfl, ?_⟩; have n0_ := Aside0.mk (Kd.S_below (by (with_reducible repeat (first | apply Kd.S_alloc | apply Kd.S_drewN | apply Kd.S_drew)); exact HO606.out) hb); have n1_ := Aside0.mk (below_step (by repeat (first | (with_reducible first | exact HB.out | apply below_alloc | apply pw_below_drewN | apply below_drew1) | exact HB.out)) hb); clear HO606; clear HB; have HO606 := n0_; have HB := n1_; clear n0_ n1_; (try clear hb); (try clear hb2); (try clear hk); (try clear hi)))
         go_ret
         exact ⟨by first | rfl | (simp [errW_none, errW_some] <;> rfl) | (simp only [← hji7, ← hji9]; first | rfl | (simp [errW_none, errW_some] <;> rfl)) | (simp [*, errW_none, errW_some] <;> rfl), by repeat (first | (with_reducible first | exact HB.out | apply below_alloc | apply pw_below_drewN | apply below_drew1) | exact HB.out)⟩
       ·rw [if_neg c18] at H
        have c18b0 : (t607 == (wrap64 (Int.tdiv (wrap64 ((ji9) * (ji9))) 2))) = false := beq_eq_false_iff_ne.mpr c18
        have c18b1 : (t607 != (wrap64 (Int.tdiv (wrap64 ((ji9) * (ji9))) 2))) = true := bne_iff_ne.mpr c18
        obtain rfl := Option.some.inj H
        go_enter Try.func11, Try.ntmps11
        go_wp2_with (first | ((with_reducible refine gate_callee (f := 22) rfl ?_); refine goesL_ (some 18) rfl rfl Try.func22 (by kernel_rfl) rfl #[.slice A0 l0.length c0, .slice A1 l1.length c1] rfl (by (try simp only [List.map_toArray, List.map_cons, List.map_nil]); first | done | rfl | (simp only [List.length_drop, List.length_take]; rfl) | (simp only [show ∀ (n_ : Nat) (b_ : Int), Int.tdiv (n_ : Int) b_ = (n_ : Int) / b_ from fun n_ b_ => Int.tdiv_eq_ediv_of_nonneg (Int.natCast_nonneg n_)]; rfl)) ?_; (with_reducible refine (laws_b10Long.calls _ _ l0 _ _ l1 false _ ?side1 ?side2 ?side3 ?side4 A3.out).mono ?_); (case side1 => repeat (first | exact HR0.out | (with_reducible refine Kd.C_alloc ?_ _) | (with_reducible refine Kd.C_drewN ?_ _) | (with_reducible refine Kd.C_drew ?_))); (case side2 => exact HC0.out); (case side3 => repeat (first | exact HR1.out | (with_reducible refine Kd.C_alloc ?_ _) | (with_reducible refine Kd.C_drewN ?_ _) | (with_reducible refine Kd.C_drew ?_))); (case side4 => exact HC1.out); rintro e w' ⟨rfl, ⟨nd, rfl⟩⟩; refine ⟨_, rfl, ?_⟩) | ((with_reducible refine gate_callee (f := 23) rfl ?_); refine goesL_ (some 20) rfl rfl Try.func23 (by kernel_rfl) rfl #[.slice A0 l0.length c0, .int .i64 0, .int .i64 3] rfl (by (try simp only [List.map_toArray, List.map_cons, List.map_nil]); first | done | rfl | (simp only [List.length_drop, List.length_take]; rfl) | (simp only [show ∀ (n_ : Nat) (b_ : Int), Int.tdiv (n_ : Int) b_ = (n_ : Int) / b_ from fun n_ b_ => Int.tdiv_eq_ediv_of_nonneg (Int.natCast_nonneg n_)]; rfl)) ?_; (with_reducible refine (laws_b10At.calls _ _ l0 0 3 t602 _ ?side1 ?side2 A5.out).mono ?_); (case side1 => repeat (first | exact HR0.out | (with_reducible refine Kd.C_alloc ?_ _) | (with_reducible refine Kd.C_drewN ?_ _) | (with_reducible refine Kd.C_drew ?_))); (case side2 => exact HC0.out); rintro e w' ⟨rfl, ⟨nd, rfl⟩⟩; refine ⟨_, rfl, ?_⟩) | ((with_reducible refine gate_callee (f := 16) rfl ?_); refine goesL_ (some 24) rfl rfl Try.func16 (by kernel_rfl) rfl #[.int .i64 (wrap64 (1 + t602))] rfl (by (try simp only [List.map_toArray, List.map_cons, List.map_nil]); first | done | rfl | (simp only [List.length_drop, List.length_take]; rfl) | (simp only [show ∀ (n_ : Nat) (b_ : Int), Int.tdiv (n_ : Int) b_ = (n_ : Int) / b_ from fun n_ b_ => Int.tdiv_eq_ediv_of_nonneg (Int.natCast_nonneg n_)]; rfl)) ?_; (with_reducible refine (impl_DoublingMask.calls k (wrap64 (1 + t602)) t603 true _ A6.out).mono ?_); rintro e w36 ⟨v605, rfl, ho0, hb⟩; refine ⟨_, rfl, ?_⟩; have n0_ := Aside0.mk (Kd.S_lower ho0 (below_size (by repeat (first | (with_reducible first | exact HB.out | apply below_alloc | apply pw_below_drewN | apply below_drew1) | exact HB.out)))); have n1_ := Aside0.mk (below_step (by repeat (first | (with_reducible first | exact HB.out | apply below_alloc | apply pw_below_drewN | apply below_drew1) | exact HB.out)) hb); clear HB; have HO606 := n0_; have HB := n1_; clear n0_ n1_; (try clear hb); (try clear hb2); (try clear hk); (try clear hi); (try clear ho0); obtain ⟨Ao37, co37, eo37⟩ := Kd.S_slice HO606.out; subst eo37) | ((with_reducible refine gate_callee (f := 37) rfl ?_); refine goesL_ (some 32) rfl rfl Try.func37 (by kernel_rfl) rfl #[.slice Ao37 t603.length co37, .int .i64 2] rfl (by (try simp only [List.map_toArray, List.map_cons, List.map_nil]); first | done | rfl | (simp only [List.length_drop, List.length_take]; rfl) | (simp only [show ∀ (n_ : Nat) (b_ : Int), Int.tdiv (n_ : Int) b_ = (n_ : Int) / b_ from fun n_ b_ => Int.tdiv_eq_ediv_of_nonneg (Int.natCast_nonneg n_)]; rfl)) ?_; (with_reducible refine (impl_SpreadOf.calls k _ _ t603 2 t607 true _ ?side1 ?side2 A10.out).mono ?_); (case side1 => repeat (first | exact (Kd.S_reads' HO606.out).2.2 | (with_reducible refine Kd.C_alloc ?_ _) | (with_reducible refine Kd.C_drewN ?_ _) | (with_reducible refine Kd.C_drew ?_))); (case side2 => exact (Kd.S_reads' HO606.out).2.1); rintro e w38 ⟨rfl, hb⟩; refine ⟨_, rfl, ?_⟩; have n0_ := Aside0.mk (Kd.S_below (by (with_reducible repeat (first | apply Kd.S_alloc | apply Kd.S_drewN | apply Kd.S_drew)); exact HO606.out) hb); have n1_ := Aside0.mk (below_step (by repeat (first | (with_reducible first | exact HB.out | apply below_alloc | apply pw_below_drewN | apply below_drew1) | exact HB.out)) hb); clear HO606; clear HB; have HO606 := n0_; have HB := n1_; clear n0_ n1_; (try clear hb); (try clear hb2); (try clear hk); (try clear hi)) | ((with_reducible refine gate_callee (f := 23) rfl ?_); refine goesL_ (some 40) rfl rfl Try.func23 (by kernel_rfl) rfl #[.slice A1 l1.length c1, .int .i64 0, .int .i64 (wrap64 ((wrap64 ((ji9) * (ji9))) - 1))] rfl (by (try simp only [List.map_toArray, List.map_cons, List.map_nil]); first | done | (simp only [hji9]; rfl) | rfl | (simp only [List.length_drop, List.length_take]; rfl)) ?_; (with_reducible refine (laws_b10At.calls _ _ l1 0 (wrap64 ((wrap64 ((ji9) * (ji9))) - 1)) t609 _ ?side1 ?side2 A11.out).mono ?_); (case side1 => repeat (first | exact (Kd.C_below HR1.out HB.out) | (with_reducible refine Kd.C_alloc ?_ _) | (with_reducible refine Kd.C_drewN ?_ _) | (with_reducible refine Kd.C_drew ?_))); (case side2 => exact HC1.out); rintro e w' ⟨rfl, ⟨nd, rfl⟩⟩; refine ⟨_, rfl, ?_⟩) | ((with_reducible refine gate_callee (f := 37) rfl ?_); refine goesL_ (some 45) rfl rfl Try.func37 (by kernel_rfl) rfl #[.slice Ao37 t603.length co37, .int .i64 (wrap64 (2 + t609))] rfl (by (try simp only [List.map_toArray, List.map_cons, List.map_nil]); first | done | rfl | (simp only [List.length_drop, List.length_take]; rfl) | (simp only [show ∀ (n_ : Nat) (b_ : Int), Int.tdiv (n_ : Int) b_ = (n_ : Int) / b_ from fun n_ b_ => Int.tdiv_eq_ediv_of_nonneg (Int.natCast_nonneg n_)]; rfl)) ?_; (with_reducible refine (impl_SpreadOf.calls k _ _ t603 (wrap64 (2 + t609)) t610 true _ ?side1 ?side2 A12.out).mono ?_); (case side1 => repeat (first | exact (Kd.S_reads' HO606.out).2.2 | (with_reducible refine Kd.C_alloc ?_ _) | (with_reducible refine Kd.C_drewN ?_ _) | (with_reducible refine Kd.C_drew ?_))); (case side2 => exact (Kd.S_reads' HO606.out).2.1); rintro e w39 ⟨rfl, hb⟩; refine ⟨_, rfl, ?_⟩; have n0_ := Aside0.mk (Kd.S_below (by (with_reducible repeat (first | apply Kd.S_alloc | apply Kd.S_drewN | apply Kd.S_drew)); exact HO606.out) hb); have n1_ := Aside0.mk (below_step (by repeat (first | (with_reducible first | exact HB.out | apply below_alloc | apply pw_below_drewN | apply below_drew1) | exact HB.out)) hb); clear HO606; clear HB; have HO606 := n0_; have HB := n1_; clear n0_ n1_; (try clear hb); (try clear hb2); (try clear hk); (try clear hi)) | ((with_reducible refine gate_callee (f := 37) rfl ?_); refine goesL_ (some 53) rfl rfl Try.func37 (by kernel_rfl) rfl #[.slice Ao37 t603.length co37, .int .i64 (wrap64 ((ji9) * (ji9)))] rfl (by (try simp only [List.map_toArray, List.map_cons, List.map_nil]); first | done | (simp only [hji9]; rfl) | rfl | (simp only [List.length_drop, List.length_take]; rfl)) ?_; (with_reducible refine (impl_SpreadOf.calls k _ _ t603 (wrap64 ((ji9) * (ji9))) t612 true _ ?side1 ?side2 A13.out).mono ?_); (case side1 => repeat (first | exact (Kd.S_reads' HO606.out).2.2 | (with_reducible refine Kd.C_alloc ?_ _) | (with_reducible refine Kd.C_drewN ?_ _) | (with_reducible refine Kd.C_drew ?_))); (case side2 => exact (Kd.S_reads' HO606.out).2.1); rintro e w40 ⟨rfl, hb⟩; refine ⟨_, rfl, ?_⟩; have n0_ := Aside0.mk (Kd.S_below (by (with_reducible repeat (first | apply Kd.S_alloc | apply Kd.S_drewN | apply Kd.S_drew)); exact HO606.out) hb); have n1_ := Aside0.mk (below_step (by repeat (first | (with_reducible first | exact HB.out | apply below_alloc | apply pw_below_drewN | apply below_drew1) | exact HB.out)) hb); clear HO606; clear HB; have HO606 := n0_; have HB := n1_; clear n0_ n1_; (try clear hb); (try clear hb2); (try clear hk); (try clear hi)))
        go_ret
        exact ⟨by first | rfl | (simp [errW_none, errW_some] <;> rfl) | (simp only [← hji7, ← hji9]; first | rfl | (simp [errW_none, errW_some] <;> rfl)) | (simp [*, errW_none, errW_some] <;> rfl), by repeat (first | (with_reducible first | exact HB.out | apply below_alloc | apply pw_below_drewN | apply below_drew1) | exact HB.out)⟩
      ·replace c17 := Bool.eq_false_iff.mpr c17
       subst c17
       have H1 : (some false) = some r := by rw [if_neg (show ¬ (false = true) by decide)] at H; exact H
       clear H
       have H := H1
       clear H1
       obtain rfl := Option.some.inj H
       go_enter Try.func11, Try.ntmps11
       go_wp2_with (first | ((with_reducible refine gate_callee (f := 22) rfl ?_); refine goesL_ (some 18) rfl rfl Try.func22 (by kernel_rfl) rfl #[.slice A0 l0.length c0, .slice A1 l1.length c1] rfl (by (try simp only [List.map_toArray, List.map_cons, List.map_nil]); first | done | rfl | (simp only [List.length_drop, List.length_take]; rfl) | (simp only [show ∀ (n_ : Nat) (b_ : Int), Int.tdiv (n_ : Int) b_ = (n_ : Int) / b_ from fun n_ b_ => Int.tdiv_eq_ediv_of_nonneg (Int.natCast_nonneg n_)]; rfl)) ?_; (with_reducible refine (laws_b10Long.calls _ _ l0 _ _ l1 false _ ?side1 ?side2 ?side3 ?side4 A3.out).mono ?_); (case side1 => repeat (first | exact HR0.out | (with_reducible refine Kd.C_alloc ?_ _) | (with_reducible refine Kd.C_drewN ?_ _) | (with_reducible refine Kd.C_drew ?_))); (case side2 => exact HC0.out); (case side3 => repeat (first | exact HR1.out | (with_reducible refine Kd.C_alloc ?_ _) | (with_reducible refine Kd.C_drewN ?_ _) | (with_reducible refine Kd.C_drew ?_))); (case side4 => exact HC1.out); rintro e w' ⟨rfl, ⟨nd, rfl⟩⟩; refine ⟨_, rfl, ?_⟩) | ((with_reducible refine gate_callee (f := 23) rfl ?_); refine goesL_ (some 20) rfl rfl Try.func23 (by kernel_rfl) rfl #[.slice A0 l0.length c0, .int .i64 0, .int .i64 3] rfl (by (try simp only [List.map_toArray, List.map_cons, List.map_nil]); first | done | rfl | (simp only [List.length_drop, List.length_take]; rfl) | (simp only [show ∀ (n_ : Nat) (b_ : Int), Int.tdiv (n_ : Int) b_ = (n_ : Int) / b_ from fun n_ b_ => Int.tdiv_eq_ediv_of_nonneg (Int.natCast_nonneg n_)]; rfl)) ?_; (with_reducible refine (laws_b10At.calls _ _ l0 0 3 t602 _ ?side1 ?side2 A5.out).mono ?_); (case side1 => repeat (first | exact HR0.out | (with_reducible refine Kd.C_alloc ?_ _) | (with_reducible refine Kd.C_drewN ?_ _) | (with_reducible refine Kd.C_drew ?_))); (case side2 => exact HC0.out); rintro e w' ⟨rfl, ⟨nd, rfl⟩⟩; refine ⟨_, rfl, ?_⟩) | ((with_reducible refine gate_callee (f := 16) rfl ?_); refine goesL_ (some 24) rfl rfl Try.func16 (by kernel_rfl) rfl #[.int .i64 (wrap64 (1 + t602))] rfl (by (try simp only [List.map_toArray, List.map_cons, List.map_nil]); first | done | rfl | (simp only [List.length_drop, List.length_take]; rfl) | (simp only [show ∀ (n_ : Nat) (b_ : Int), Int.tdiv (n_ : Int) b_ = (n_ : Int) / b_ from fun n_ b_ => Int.tdiv_eq_ediv_of_nonneg (Int.natCast_nonneg n_)]; rfl)) ?_; (with_reducible refine (impl_DoublingMask.calls k (wrap64 (1 + t602)) t603 true _ A6.out).mono ?_); rintro e w41 ⟨v605, rfl, ho0, hb⟩; refine ⟨_, rfl, ?_⟩; have n0_ := Aside0.mk (Kd.S_lower ho0 (below_size (by repeat (first | (with_reducible first | exact HB.out | apply below_alloc | apply pw_below_drewN | apply below_drew1) | exact HB.out)))); have n1_ := Aside0.mk (below_step (by repeat (first | (with_reducible first | exact HB.out | apply below_alloc | apply pw_below_drewN | apply below_drew1) | exact HB.out)) hb); clear HB; have HO606 := n0_; have HB := n1_; clear n0_ n1_; (try clear hb); (try clear hb2); (try clear hk); (try clear hi); (try clear ho0); obtain ⟨Ao42, co42, eo42⟩ := Kd.S_slice HO606.out; subst eo42) | ((with_reducible refine gate_callee (f := 37) rfl ?_); refine goesL_ (some 32) rfl rfl Try.func37 (by kernel_rfl) rfl #[.slice Ao42 t603.length co42, .int .i64 2] rfl (by (try simp only [List.map_toArray, List.map_cons, List.map_nil]); first | done | rfl | (simp only [List.length_drop, List.length_take]; rfl) | (simp only [show ∀ (n_ : Nat) (b_ : Int), Int.tdiv (n_ : Int) b_ = (n_ : Int) / b_ from fun n_ b_ => Int.tdiv_eq_ediv_of_nonneg (Int.natCast_nonneg n_)]; rfl)) ?_; (with_reducible refine (impl_SpreadOf.calls k _ _ t603 2 t607 true _ ?side1 ?side2 A10.out).mono ?_); (case side1 => repeat (first | exact (Kd.S_reads' HO606.out).2.2 | (with_reducible refine Kd.C_alloc ?_ _) | (with_reducible refine Kd.C_drewN ?_ _) | (with_reducible refine Kd.C_drew ?_))); (case side2 => exact (Kd.S_reads' HO606.out).2.1); rintro e w43 ⟨rfl, hb⟩; refine ⟨_, rfl, ?_⟩; have n0_ := Aside0.mk (Kd.S_below (by (with_reducible repeat (first | apply Kd.S_alloc | apply Kd.S_drewN | apply Kd.S_drew)); exact HO606.out) hb); have n1_ := Aside0.mk (below_step (by repeat (first | (with_reducible first | exact HB.out | apply below_alloc | apply pw_below_drewN | apply below_drew1) | exact HB.out)) hb); clear HO606; clear HB; have HO606 := n0_; have HB := n1_; clear n0_ n1_; (try clear hb); (try clear hb2); (try clear hk); (try clear hi)) | ((with_reducible refine gate_callee (f := 23) rfl ?_); refine goesL_ (some 40) rfl rfl Try.func23 (by kernel_rfl) rfl #[.slice A1 l1.length c1, .int .i64 0, .int .i64 (wrap64 ((wrap64 ((ji9) * (ji9))) - 1))] rfl (by (try simp only [List.map_toArray, List.map_cons, List.map_nil]); first | done | (simp only [hji9]; rfl) | rfl | (simp only [List.length_drop, List.length_take]; rfl)) ?_; (with_reducible refine (laws_b10At.calls _ _ l1 0 (wrap64 ((wrap64 ((ji9) * (ji9))) - 1)) t609 _ ?side1 ?side2 A11.out).mono ?_); (case side1 => repeat (first | exact (Kd.C_below HR1.out HB.out) | (with_reducible refine Kd.C_alloc ?_ _) | (with_reducible refine Kd.C_drewN ?_ _) | (with_reducible refine Kd.C_drew ?_))); (case side2 => exact HC1.out); rintro e w' ⟨rfl, ⟨nd, rfl⟩⟩; refine ⟨_, rfl, ?_⟩) | ((with_reducible refine gate_callee (f := 37) rfl ?_); refine goesL_ (some 45) rfl rfl Try.func37 (by kernel_rfl) rfl #[.slice Ao42 t603.length co42, .int .i64 (wrap64 (2 + t609))] rfl (by (try simp only [List.map_toArray, List.map_cons, List.map_nil]); first | done | rfl | (simp only [List.length_drop, List.length_take]; rfl) | (simp only [show ∀ (n_ : Nat) (b_ : Int), Int.tdiv (n_ : Int) b_ = (n_ : Int) / b_ from fun n_ b_ => Int.tdiv_eq_ediv_of_nonneg (Int.natCast_nonneg n_)]; rfl)) ?_; (with_reducible refine (impl_SpreadOf.calls k _ _ t603 (wrap64 (2 + t609)) t610 true _ ?side1 ?side2 A12.out).mono ?_); (case side1 => repeat (first | exact (Kd.S_reads' HO606.out).2.2 | (with_reducible refine Kd.C_alloc ?_ _) | (with_reducible refine Kd.C_drewN ?_ _) | (with_reducible refine Kd.C_drew ?_))); (case side2 => exact (Kd.S_reads' HO606.out).2.1); rintro e w44 ⟨rfl, hb⟩; refine ⟨_, rfl, ?_⟩; have n0_ := Aside0.mk (Kd.S_below (by (with_reducible repeat (first | apply Kd.S_alloc | apply Kd.S_drewN | apply Kd.S_drew)); exact HO606.out) hb); have n1_ := Aside0.mk (below_step (by repeat (first | (with_reducible first | exact HB.out | apply below_alloc | apply pw_below_drewN | apply below_drew1) | exact HB.out)) hb); clear HO606; clear HB; have HO606 := n0_; have HB := n1_; clear n0_ n1_; (try clear hb); (try clear hb2); (try clear hk); (try clear hi)) | ((with_reducible refine gate_callee (f := 37) rfl ?_); refine goesL_ (some 53) rfl rfl Try.func37 (by kernel_rfl) rfl #[.slice Ao42 t603.length co42, .int .i64 (wrap64 ((ji9) * (ji9)))] rfl (by (try simp only [List.map_toArray, List.map_cons, List.map_nil]); first | done | (simp only [hji9]; rfl) | rfl | (simp only [List.length_drop, List.length_take]; rfl)) ?_; (with_reducible refine (impl_SpreadOf.calls k _ _ t603 (wrap64 ((ji9) * (ji9))) t612 false _ ?side1 ?side2 A13.out).mono ?_); (case side1 => repeat (first | exact (Kd.S_reads' HO606.out).2.2 | (with_reducible refine Kd.C_alloc ?_ _) | (with_reducible refine Kd.C_drewN ?_ _) | (with_reducible refine Kd.C_drew ?_))); (case side2 => exact (Kd.S_reads' HO606.out).2.1); rintro e w45 ⟨rfl, hb⟩; refine ⟨_, rfl, ?_⟩; have n0_ := Aside0.mk (Kd.S_below (by (with_reducible repeat (first | apply Kd.S_alloc | apply Kd.S_drewN | apply Kd.S_drew)); exact HO606.out) hb); have n1_ := Aside0.mk (below_step (by repeat (first | (with_reducible first | exact HB.out | apply below_alloc | apply pw_below_drewN | apply below_drew1) | exact HB.out)) hb); clear HO606; clear HB; have HO606 := n0_; have HB := n1_; clear n0_ n1_; (try clear hb); (try clear hb2); (try clear hk); (try clear hi)))
       go_ret
       exact ⟨by first | rfl | (simp [errW_none, errW_some] <;> rfl) | (simp only [← hji7, ← hji9]; first | rfl | (simp [errW_none, errW_some] <;> rfl)) | (simp [*, errW_none, errW_some] <;> rfl), by repeat (first | (with_reducible first | exact HB.out | apply below_alloc | apply pw_below_drewN | apply below_drew1) | exact HB.out)⟩
     ·replace c16 := Bool.eq_false_iff.mpr c16
      subst c16
      have H1 : (some false) = some r := by rw [if_neg (show ¬ (false = true) by decide)] at H; exact H
      clear H
      have H := H1
      clear H1
      obtain rfl := Option.some.inj H
      go_enter Try.func11, Try.ntmps11
      go_wp2_with (first | ((with_reducible refine gate_callee (f := 22) rfl ?_); refine goesL_ (some 18) rfl rfl Try.func22 (by kernel_rfl) rfl #[.slice A0 l0.length c0, .slice A1 l1.length c1] rfl (by (try simp only [List.map_toArray, List.map_cons, List.map_nil]); first | done | rfl | (simp only [List.length_drop, List.length_take]; rfl) | (simp only [show ∀ (n_ : Nat) (b_ : Int), Int.tdiv (n_ : Int) b_ = (n_ : Int) / b_ from fun n_ b_ => Int.tdiv_eq_ediv_of_nonneg (Int.natCast_nonneg n_)]; rfl)) ?_; (with_reducible refine (laws_b10Long.calls _ _ l0 _ _ l1 false _ ?side1 ?side2 ?side3 ?side4 A3.out).mono ?_); (case side1 => repeat (first | exact HR0.out | (with_reducible refine Kd.C_alloc ?_ _) | (with_reducible refine Kd.C_drewN ?_ _) | (with_reducible refine Kd.C_drew ?_))); (case side2 => exact HC0.out); (case side3 => repeat (first | exact HR1.out | (with_reducible refine Kd.C_alloc ?_ _) | (with_reducible refine Kd.C_drewN ?_ _) | (with_reducible refine Kd.C_drew ?_))); (case side4 => exact HC1.out); rintro e w' ⟨rfl, ⟨nd, rfl⟩⟩; refine ⟨_, rfl, ?_⟩) | ((with_reducible refine gate_callee (f := 23) rfl ?_); refine goesL_ (some 20) rfl rfl Try.func23 (by kernel_rfl) rfl #[.slice A0 l0.length c0, .int .i64 0, .int .i64 3] rfl (by (try simp only [List.map_toArray, List.map_cons, List.map_nil]); first | done | rfl | (simp only [List.length_drop, List.length_take]; rfl) | (simp only [show ∀ (n_ : Nat) (b_ : Int), Int.tdiv (n_ : Int) b_ = (n_ : Int) / b_ from fun n_ b_ => Int.tdiv_eq_ediv_of_nonneg (Int.natCast_nonneg n_)]; rfl)) ?_; (with_reducible refine (laws_b10At.calls _ _ l0 0 3 t602 _ ?side1 ?side2 A5.out).mono ?_); (case side1 => repeat (first | exact HR0.out | (with_reducible refine Kd.C_alloc ?_ _) | (with_reducible refine Kd.C_drewN ?_ _) | (with_reducible refine Kd.C_drew ?_))); (case side2 => exact HC0.out); rintro e w' ⟨rfl, ⟨nd, rfl⟩⟩; refine ⟨_, rfl, ?_⟩) | ((with_reducible refine gate_callee (f := 16) rfl ?_); refine goesL_ (some 24) rfl rfl Try.func16 (by kernel_rfl) rfl #[.int .i64 (wrap64 (1 + t602))] rfl (by (try simp only [List.map_toArray, List.map_cons, List.map_nil]); first | done | rfl | (simp only [List.length_drop, List.length_take]; rfl) | (simp only [show ∀ (n_ : Nat) (b_ : Int), Int.tdiv (n_ : Int) b_ = (n_ : Int) / b_ from fun n_ b_ => Int.tdiv_eq_ediv_of_nonneg (Int.natCast_nonneg n_)]; rfl)) ?_; (with_reducible refine (impl_DoublingMask.calls k (wrap64 (1 + t602)) t603 true _ A6.out).mono ?_); rintro e w46 ⟨v605, rfl, ho0, hb⟩; refine ⟨_, rfl, ?_⟩; have n0_ := Aside0.mk (Kd.S_lower ho0 (below_size (by repeat (first | (with_reducible first | exact HB.out | apply below_alloc | apply pw_below_drewN | apply below_drew1) | exact HB.out)))); have n1_ := Aside0.mk (below_step (by repeat (first | (with_reducible first | exact HB.out | apply below_alloc | apply pw_below_drewN | apply below_drew1) | exact HB.out)) hb); clear HB; have HO606 := n0_; have HB := n1_; clear n0_ n1_; (try clear hb); (try clear hb2); (try clear hk); (try clear hi); (try clear ho0); obtain ⟨Ao47, co47, eo47⟩ := Kd.S_slice HO606.out; subst eo47) | ((with_reducible refine gate_callee (f := 37) rfl ?_); refine goesL_ (some 32) rfl rfl Try.func37 (by kernel_rfl) rfl #[.slice Ao47 t603.length co47, .int .i64 2] rfl (by (try simp only [List.map_toArray, List.map_cons, List.map_nil]); first | done | rfl | (simp only [List.length_drop, List.length_take]; rfl) | (simp only [show ∀ (n_ : Nat) (b_ : Int), Int.tdiv (n_ : Int) b_ = (n_ : Int) / b_ from fun n_ b_ => Int.tdiv_eq_ediv_of_nonneg (Int.natCast_nonneg n_)]; rfl)) ?_; (with_reducible refine (impl_SpreadOf.calls k _ _ t603 2 t607 true _ ?side1 ?side2 A10.out).mono ?_); (case side1 => repeat (first | exact (Kd.S_reads' HO606.out).2.2 | (with_reducible refine Kd.C_alloc ?_ _) | (with_reducible refine Kd.C_drewN ?_ _) | (with_reducible refine Kd.C_drew ?_))); (case side2 => exact (Kd.S_reads' HO606.out).2.1); rintro e w48 ⟨rfl, hb⟩; refine ⟨_, rfl, ?_⟩; have n0_ := Aside0.mk (Kd.S_below (by (with_reducible repeat (first | apply Kd.S_alloc | apply Kd.S_drewN | apply Kd.S_drew)); exact HO606.out) hb); have n1_ := Aside0.mk (below_step (by repeat (first | (with_reducible first | exact HB.out | apply below_alloc | apply pw_below_drewN | apply below_drew1) | exact HB.out)) hb); clear HO606; clear HB; have HO606 := n0_; have HB := n1_; clear n0_ n1_; (try clear hb); (try clear hb2); (try clear hk); (try clear hi)) | ((with_reducible refine gate_callee (f := 23) rfl ?_); refine goesL_ (some 40) rfl rfl Try.func23 (by kernel_rfl) rfl #[.slice A1 l1.length c1, .int .i64 0, .int .i64 (wrap64 ((wrap64 ((ji9) * (ji9))) - 1))] rfl (by (try simp only [List.map_toArray, List.map_cons, List.map_nil]); first | done | (simp only [hji9]; rfl) | rfl | (simp only [List.length_drop, List.length_take]; rfl)) ?_; (with_reducible refine (laws_b10At.calls _ _ l1 0 (wrap64 ((wrap64 ((ji9) * (ji9))) - 1)) t609 _ ?side1 ?side2 A11.out).mono ?_); (case side1 => repeat (first | exact (Kd.C_below HR1.out HB.out) | (with_reducible refine Kd.C_alloc ?_ _) | (with_reducible refine Kd.C_drewN ?_ _) | (with_reducible refine Kd.C_drew ?_))); (case side2 => exact HC1.out); rintro e w' ⟨rfl, ⟨nd, rfl⟩⟩; refine ⟨_, rfl, ?_⟩) | ((with_reducible refine gate_callee (f := 37) rfl ?_); refine goesL_ (some 45) rfl rfl Try.func37 (by kernel_rfl) rfl #[.slice Ao47 t603.length co47, .int .i64 (wrap64 (2 + t609))] rfl (by (try simp only [List.map_toArray, List.map_cons, List.map_nil]); first | done | rfl | (simp only [List.length_drop, List.length_take]; rfl) | (simp only [show ∀ (n_ : Nat) (b_ : Int), Int.tdiv (n_ : Int) b_ = (n_ : Int) / b_ from fun n_ b_ => Int.tdiv_eq_ediv_of_nonneg (Int.natCast_nonneg n_)]; rfl)) ?_; (with_reducible refine (impl_SpreadOf.calls k _ _ t603 (wrap64 (2 + t609)) t610 false _ ?side1 ?side2 A12.out).mono ?_); (case side1 => repeat (first | exact (Kd.S_reads' HO606.out).2.2 | (with_reducible refine Kd.C_alloc ?_ _) | (with_reducible refine Kd.C_drewN ?_ _) | (with_reducible refine Kd.C_drew ?_))); (case side2 => exact (Kd.S_reads' HO606.out).2.1); rintro e w49 ⟨rfl, hb⟩; refine ⟨_, rfl, ?_⟩; have n0_ := Aside0.mk (Kd.S_below (by (with_reducible repeat (first | apply Kd.S_alloc | apply Kd.S_drewN | apply Kd.S_drew)); exact HO606.out) hb); have n1_ := Aside0.mk (below_step (by repeat (first | (with_reducible first | exact HB.out | apply below_alloc | apply pw_below_drewN | apply below_drew1) | exact HB.out)) hb); clear HO606; clear HB; have HO606 := n0_; have HB := n1_; clear n0_ n1_; (try clear hb); (try clear hb2); (try clear hk); (try clear hi)) | ((with_reducible refine gate_callee (f := 37) rfl ?_); refine goesL_ (some 53) rfl rfl Try.func37 (by kernel_rfl) rfl #[.slice Ao47 t603.length co47, .int .i64 (wrap64 ((ji9) * (ji9)))] rfl (by (try simp only [List.map_toArray, List.map_cons, List.map_nil]); first | done | (simp only [hji9]; rfl) | rfl | (simp only [List.length_drop, List.length_take]; rfl)) ?_; (with_reducible refine (impl_SpreadOf.calls k _ _ t603 (wrap64 ((ji9) * (ji9))) t612 t613 _ ?side1 ?side2 A13.out).mono ?_); (case side1 => repeat (first | exact (Kd.S_reads' HO606.out).2.2 | (with_reducible refine Kd.C_alloc ?_ _) | (with_reducible refine Kd.C_drewN ?_ _) | (with_reducible refine Kd.C_drew ?_))); (case side2 => exact (Kd.S_reads' HO606.out).2.1); rintro e w50 ⟨rfl, hb⟩; refine ⟨_, rfl, ?_⟩; have n0_ := Aside0.mk (Kd.S_below (by (with_reducible repeat (first | apply Kd.S_alloc | apply Kd.S_drewN | apply Kd.S_drew)); exact HO606.out) hb); have n1_ := Aside0.mk (below_step (by repeat (first | (with_reducible first | exact HB.out | apply below_alloc | apply pw_below_drewN | apply below_drew1) | exact HB.out)) hb); clear HO606; clear HB; have HO606 := n0_; have HB := n1_; clear n0_ n1_; (try clear hb); (try clear hb2); (try clear hk); (try clear hi)))
      go_ret
      exact ⟨by first | rfl | (simp [errW_none, errW_some] <;> rfl) | (simp only [← hji7, ← hji9]; first | rfl | (simp [errW_none, errW_some] <;> rfl)) | (simp [*, errW_none, errW_some] <;> rfl), by repeat (first | (with_reducible first | exact HB.out | apply below_alloc | apply pw_below_drewN | apply below_drew1) | exact HB.out)⟩
    ·replace c15 := Bool.eq_false_iff.mpr c15
     subst c15
     have H1 : (some false) = some r := by rw [if_neg (show ¬ (false = true) by decide)] at H; exact H
     clear H
     have H := H1
     clear H1
     obtain rfl := Option.some.inj H
     go_enter Try.func11, Try.ntmps11
     go_wp2_with (first | ((with_reducible refine gate_callee (f := 22) rfl ?_); refine goesL_ (some 18) rfl rfl Try.func22 (by kernel_rfl) rfl #[.slice A0 l0.length c0, .slice A1 l1.length c1] rfl (by (try simp only [List.map_toArray, List.map_cons, List.map_nil]); first | done | rfl | (simp only [List.length_drop, List.length_take]; rfl) | (simp only [show ∀ (n_ : Nat) (b_ : Int), Int.tdiv (n_ : Int) b_ = (n_ : Int) / b_ from fun n_ b_ => Int.tdiv_eq_ediv_of_nonneg (Int.natCast_nonneg n_)]; rfl)) ?_; (with_reducible refine (laws_b10Long.calls _ _ l0 _ _ l1 false _ ?side1 ?side2 ?side3 ?side4 A3.out).mono ?_); (case side1 => repeat (first | exact HR0.out | (with_reducible refine Kd.C_alloc ?_ _) | (with_reducible refine Kd.C_drewN ?_ _) | (with_reducible refine Kd.C_drew ?_))); (case side2 => exact HC0.out); (case side3 => repeat (first | exact HR1.out | (with_reducible refine Kd.C_alloc ?_ _) | (with_reducible refine Kd.C_drewN ?_ _) | (with_reducible refine Kd.C_drew ?_))); (case side4 => exact HC1.out); rintro e w' ⟨rfl, ⟨nd, rfl⟩⟩; refine ⟨_, rfl, ?_⟩) | ((with_reducible refine gate_callee (f := 23) rfl ?_); refine goesL_ (some 20) rfl rfl Try.func23 (by kernel_rfl) rfl #[.slice A0 l0.length c0, .int .i64 0, .int .i64 3] rfl (by (try simp only [List.map_toArray, List.map_cons, List.map_nil]); first | done | rfl | (simp only [List.length_drop, List.length_take]; rfl) | (simp only [show ∀ (n_ : Nat) (b_ : Int), Int.tdiv (n_ : Int) b_ = (n_ : Int) / b_ from fun n_ b_ => Int.tdiv_eq_ediv_of_nonneg (Int.natCast_nonneg n_)]; rfl)) ?_; (with_reducible refine (laws_b10At.calls _ _ l0 0 3 t602 _ ?side1 ?side2 A5.out).mono ?_); (case side1 => repeat (first | exact HR0.out | (with_reducible refine Kd.C_alloc ?_ _) | (with_reducible refine Kd.C_drewN ?_ _) | (with_reducible refine Kd.C_drew ?_))); (case side2 => exact HC0.out); rintro e w' ⟨rfl, ⟨nd, rfl⟩⟩; refine ⟨_, rfl, ?_⟩) | ((with_reducible refine gate_callee (f := 16) rfl ?_); refine goesL_ (some 24) rfl rfl Try.func16 (by kernel_rfl) rfl #[.int .i64 (wrap64 (1 + t602))] rfl (by (try simp only [List.map_toArray, List.map_cons, List.map_nil]); first | done | rfl | (simp only [List.length_drop, List.length_take]; rfl) | (simp only [show ∀ (n_ : Nat) (b_ : Int), Int.tdiv (n_ : Int) b_ = (n_ : Int) / b_ from fun n_ b_ => Int.tdiv_eq_ediv_of_nonneg (Int.natCast_nonneg n_)]; rfl)) ?_; (with_reducible refine (impl_DoublingMask.calls k (wrap64 (1 + t602)) t603 true _ A6.out).mono ?_); rintro e w51 ⟨v605, rfl, ho0, hb⟩; refine ⟨_, rfl, ?_⟩; have n0_ := Aside0.mk (Kd.S_lower ho0 (below_size (by repeat (first | (with_reducible first | exact HB.out | apply below_alloc | apply pw_below_drewN | apply below_drew1) | exact HB.out)))); have n1_ := Aside0.mk (below_step (by repeat (first | (with_reducible first | exact HB.out | apply below_alloc | apply pw_below_drewN | apply below_drew1) | exact HB.out)) hb); clear HB; have HO606 := n0_; have HB := n1_; clear n0_ n1_; (try clear hb); (try clear hb2); (try clear hk); (try clear hi); (try clear ho0); obtain ⟨Ao52, co52, eo52⟩ := Kd.S_slice HO606.out; subst eo52) | ((with_reducible refine gate_callee (f := 37) rfl ?_); refine goesL_ (some 32) rfl rfl Try.func37 (by kernel_rfl) rfl #[.slice Ao52 t603.length co52, .int .i64 2] rfl (by (try simp only [List.map_toArray, List.map_cons, List.map_nil]); first | done | rfl | (simp only [List.length_drop, List.length_take]; rfl) | (simp only [show ∀ (n_ : Nat) (b_ : Int), Int.tdiv (n_ : Int) b_ = (n_ : Int) / b_ from fun n_ b_ => Int.tdiv_eq_ediv_of_nonneg (Int.natCast_nonneg n_)]; rfl)) ?_; (with_reducible refine (impl_SpreadOf.calls k _ _ t603 2 t607 false _ ?side1 ?side2 A10.out).mono ?_); (case side1 => repeat (first | exact (Kd.S_reads' HO606.out).2.2 | (with_reducible refine Kd.C_alloc ?_ _) | (with_reducible refine Kd.C_drewN ?_ _) | (with_reducible refine Kd.C_drew ?_))); (case side2 => exact (Kd.S_reads' HO606.out).2.1); rintro e w53 ⟨rfl, hb⟩; refine ⟨_, rfl, ?_⟩; have n0_ := Aside0.mk (Kd.S_below (by (with_reducible repeat (first | apply Kd.S_alloc | apply Kd.S_drewN | apply Kd.S_drew)); exact HO606.out) hb); have n1_ := Aside0.mk (below_step (by repeat (first | (with_reducible first | exact HB.out | apply below_alloc | apply pw_below_drewN | apply below_drew1) | exact HB.out)) hb); clear HO606; clear HB; have HO606 := n0_; have HB := n1_; clear n0_ n1_; (try clear hb); (try clear hb2); (try clear hk); (try clear hi)) | ((with_reducible refine gate_callee (f := 23) rfl ?_); refine goesL_ (some 40) rfl rfl Try.func23 (by kernel_rfl) rfl #[.slice A1 l1.length c1, .int .i64 0, .int .i64 (wrap64 ((wrap64 ((ji9) * (ji9))) - 1))] rfl (by (try simp only [List.map_toArray, List.map_cons, List.map_nil]); first | done | (simp only [hji9]; rfl) | rfl | (simp only [List.length_drop, List.length_take]; rfl)) ?_; (with_reducible refine (laws_b10At.calls _ _ l1 0 (wrap64 ((wrap64 ((ji9) * (ji9))) - 1)) t609 _ ?side1 ?side2 A11.out).mono ?_); (case side1 => repeat (first | exact (Kd.C_below HR1.out HB.out) | (with_reducible refine Kd.C_alloc ?_ _) | (with_reducible refine Kd.C_drewN ?_ _) | (with_reducible refine Kd.C_drew ?_))); (case side2 => exact HC1.out); rintro e w' ⟨rfl, ⟨nd, rfl⟩⟩; refine ⟨_, rfl, ?_⟩) | ((with_reducible refine gate_callee (f := 37) rfl ?_); refine goesL_ (some 45) rfl rfl Try.func37 (by kernel_rfl) rfl #[.slice Ao52 t603.length co52, .int .i64 (wrap64 (2 + t609))] rfl (by (try simp only [List.map_toArray, List.map_cons, List.map_nil]); first | done | rfl | (simp only [List.length_drop, List.length_take]; rfl) | (simp only [show ∀ (n_ : Nat) (b_ : Int), Int.tdiv (n_ : Int) b_ = (n_ : Int) / b_ from fun n_ b_ => Int.tdiv_eq_ediv_of_nonneg (Int.natCast_nonneg n_)]; rfl)) ?_; (with_reducible refine (impl_SpreadOf.calls k _ _ t603 (wrap64 (2 + t609)) t610 t611 _ ?side1 ?side2 A12.out).mono ?_); (case side1 => repeat (first | exact (Kd.S_reads' HO606.out).2.2 | (with_reducible refine Kd.C_alloc ?_ _) | (with_reducible refine Kd.C_drewN ?_ _) | (with_reducible refine Kd.C_drew ?_))); (case side2 => exact (Kd.S_reads' HO606.out).2.1); rintro e w54 ⟨rfl, hb⟩; refine ⟨_, rfl, ?_⟩; have n0_ := Aside0.mk (Kd.S_below (by (with_reducible repeat (first | apply Kd.S_alloc | apply Kd.S_drewN | apply Kd.S_drew)); exact HO606.out) hb); have n1_ := Aside0.mk (below_step (by repeat (first | (with_reducible first | exact HB.out | apply below_alloc | apply pw_below_drewN | apply below_drew1) | exact HB.out)) hb); clear HO606; clear HB; have HO606 := n0_; have HB := n1_; clear n0_ n1_; (try clear hb); (try clear hb2); (try clear hk); (try clear hi)) | ((with_reducible refine gate_callee (f := 37) rfl ?_); refine goesL_ (some 53) rfl rfl Try.func37 (by kernel_rfl) rfl #[.slice Ao52 t603.length co52, .int .i64 (wrap64 ((ji9) * (ji9)))] rfl (by (try simp only [List.map_toArray, List.map_cons, List.map_nil]); first | done | (simp only [hji9]; rfl) | rfl | (simp only [List.length_drop, List.length_take]; rfl)) ?_; (with_reducible refine (impl_SpreadOf.calls k _ _ t603 (wrap64 ((ji9) * (ji9))) t612 t613 _ ?side1 ?side2 A13.out).mono ?_); (case side1 => repeat (first | exact (Kd.S_reads' HO606.out).2.2 | (with_reducible refine Kd.C_alloc ?_ _) | (with_reducible refine Kd.C_drewN ?_ _) | (with_reducible refine Kd.C_drew ?_))); (case side2 => exact (Kd.S_reads' HO606.out).2.1); rintro e w55 ⟨rfl, hb⟩; refine ⟨_, rfl, ?_⟩; have n0_ := Aside0.mk (Kd.S_below (by (with_reducible repeat (first | apply Kd.S_alloc | apply Kd.S_drewN | apply Kd.S_drew)); exact HO606.out) hb); have n1_ := Aside0.mk (below_step (by repeat (first | (with_reducible first | exact HB.out | apply below_alloc | apply pw_below_drewN | apply below_drew1) | exact HB.out)) hb); clear HO606; clear HB; have HO606 := n0_; have HB := n1_; clear n0_ n1_; (try clear hb); (try clear hb2); (try clear hk); (try clear hi)))
     go_ret
     exact ⟨by first | rfl | (simp [errW_none, errW_some] <;> rfl) | (simp only [← hji7, ← hji9]; first | rfl | (simp [errW_none, errW_some] <;> rfl)) | (simp [*, errW_none, errW_some] <;> rfl), by repeat (first | (with_reducible first | exact HB.out | apply below_alloc | apply pw_below_drewN | apply below_drew1) | exact HB.out)⟩
   ·replace c14 := Bool.eq_false_iff.mpr c14
    subst c14
    have H1 : (some false) = some r := by rw [if_neg (show ¬ (false = true) by decide)] at H; exact H
    clear H
    have H := H1
    clear H1
    obtain rfl := Option.some.inj H
    go_enter Try.func11, Try.ntmps11
    go_wp2_with (first | ((with_reducible refine gate_callee (f := 22) rfl ?_); refine goesL_ (some 18) rfl rfl Try.func22 (by kernel_rfl) rfl #[.slice A0 l0.length c0, .slice A1 l1.length c1] rfl (by (try simp only [List.map_toArray, List.map_cons, List.map_nil]); first | done | rfl | (simp only [List.length_drop, List.length_take]; rfl) | (simp only [show ∀ (n_ : Nat) (b_ : Int), Int.tdiv (n_ : Int) b_ = (n_ : Int) / b_ from fun n_ b_ => Int.tdiv_eq_ediv_of_nonneg (Int.natCast_nonneg n_)]; rfl)) ?_; (with_reducible refine (laws_b10Long.calls _ _ l0 _ _ l1 false _ ?side1 ?side2 ?side3 ?side4 A3.out).mono ?_); (case side1 => repeat (first | exact HR0.out | (with_reducible refine Kd.C_alloc ?_ _) | (with_reducible refine Kd.C_drewN ?_ _) | (with_reducible refine Kd.C_drew ?_))); (case side2 => exact HC0.out); (case side3 => repeat (first | exact HR1.out | (with_reducible refine Kd.C_alloc ?_ _) | (with_reducible refine Kd.C_drewN ?_ _) | (with_reducible refine Kd.C_drew ?_))); (case side4 => exact HC1.out); rintro e w' ⟨rfl, ⟨nd, rfl⟩⟩; refine ⟨_, rfl, ?_⟩) | ((with_reducible refine gate_callee (f := 23) rfl ?_); refine goesL_ (some 20) rfl rfl Try.func23 (by kernel_rfl) rfl #[.slice A0 l0.length c0, .int .i64 0, .int .i64 3] rfl (by (try simp only [List.map_toArray, List.map_cons, List.map_nil]); first | done | rfl | (simp only [List.length_drop, List.length_take]; rfl) | (simp only [show ∀ (n_ : Nat) (b_ : Int), Int.tdiv (n_ : Int) b_ = (n_ : Int) / b_ from fun n_ b_ => Int.tdiv_eq_ediv_of_nonneg (Int.natCast_nonneg n_)]; rfl)) ?_; (with_reducible refine (laws_b10At.calls _ _ l0 0 3 t602 _ ?side1 ?side2 A5.out).mono ?_); (case side1 => repeat (first | exact HR0.out | (with_reducible refine Kd.C_alloc ?_ _) | (with_reducible refine Kd.C_drewN ?_ _) | (with_reducible refine Kd.C_drew ?_))); (case side2 => exact HC0.out); rintro e w' ⟨rfl, ⟨nd, rfl⟩⟩; refine ⟨_, rfl, ?_⟩) | ((with_reducible refine gate_callee (f := 16) rfl ?_); refine goesL_ (some 24) rfl rfl Try.func16 (by kernel_rfl) rfl #[.int .i64 (wrap64 (1 + t602))] rfl (by (try simp only [List.map_toArray, List.map_cons, List.map_nil]); first | done | rfl | (simp only [List.length_drop, List.length_take]; rfl) | (simp only [show ∀ (n_ : Nat) (b_ : Int), Int.tdiv (n_ : Int) b_ = (n_ : Int) / b_ from fun n_ b_ => Int.tdiv_eq_ediv_of_nonneg (Int.natCast_nonneg n_)]; rfl)) ?_; (with_reducible refine (impl_DoublingMask.calls k (wrap64 (1 + t602)) t603 false _ A6.out).mono ?_); rintro e w56 ⟨v605, rfl, ho0, hb⟩; refine ⟨_, rfl, ?_⟩; have n0_ := Aside0.mk (Kd.S_lower ho0 (below_size (by repeat (first | (with_reducible first | exact HB.out | apply below_alloc | apply pw_below_drewN | apply below_drew1) | exact HB.out)))); have n1_ := Aside0.mk (below_step (by repeat (first | (with_reducible first | exact HB.out | apply below_alloc | apply pw_below_drewN | apply below_drew1) | exact HB.out)) hb); clear HB; have HO606 := n0_; have HB := n1_; clear n0_ n1_; (try clear hb); (try clear hb2); (try clear hk); (try clear hi); (try clear ho0); obtain ⟨Ao57, co57, eo57⟩ := Kd.S_slice HO606.out; subst eo57) | ((with_reducible refine gate_callee (f := 37) rfl ?_); refine goesL_ (some 32) rfl rfl Try.func37 (by kernel_rfl) rfl #[.slice Ao57 t603.length co57, .int .i64 2] rfl (by (try simp only [List.map_toArray, List.map_cons, List.map_nil]); first | done | rfl | (simp only [List.length_drop, List.length_take]; rfl) | (simp only [show ∀ (n_ : Nat) (b_ : Int), Int.tdiv (n_ : Int) b_ = (n_ : Int) / b_ from fun n_ b_ => Int.tdiv_eq_ediv_of_nonneg (Int.natCast_nonneg n_)]; rfl)) ?_; (with_reducible refine (impl_SpreadOf.calls k _ _ t603 2 t607 t608 _ ?side1 ?side2 A10.out).mono ?_); (case side1 => repeat (first | exact (Kd.S_reads' HO606.out).2.2 | (with_reducible refine Kd.C_alloc ?_ _) | (with_reducible refine Kd.C_drewN ?_ _) | (with_reducible refine Kd.C_drew ?_))); (case side2 => exact (Kd.S_reads' HO606.out).2.1); rintro e w58 ⟨rfl, hb⟩; refine ⟨_, rfl, ?_⟩; have n0_ := Aside0.mk (Kd.S_below (by (with_reducible repeat (first | apply Kd.S_alloc | apply Kd.S_drewN | apply Kd.S_drew)); exact HO606.out) hb); have n1_ := Aside0.mk (below_step (by repeat (first | (with_reducible first | exact HB.out | apply below_alloc | apply pw_below_drewN | apply below_drew1) | exact HB.out)) hb); clear HO606; clear HB; have HO606 := n0_; have HB := n1_; clear n0_ n1_; (try clear hb); (try clear hb2); (try clear hk); (try clear hi)) | ((with_reducible refine gate_callee (f := 23) rfl ?_); refine goesL_ (some 40) rfl rfl Try.func23 (by kernel_rfl) rfl #[.slice A1 l1.length c1, .int .i64 0, .int .i64 (wrap64 ((wrap64 ((ji9) * (ji9))) - 1))] rfl (by (try simp only [List.map_toArray, List.map_cons, List.map_nil]); first | done | (simp only [hji9]; rfl) | rfl | (simp only [List.length_drop, List.length_take]; rfl)) ?_; (with_reducible refine (laws_b10At.calls _ _ l1 0 (wrap64 ((wrap64 ((ji9) * (ji9))) - 1)) t609 _ ?side1 ?side2 A11.out).mono ?_); (case side1 => repeat (first | exact (Kd.C_below HR1.out HB.out) | (with_reducible refine Kd.C_alloc ?_ _) | (with_reducible refine Kd.C_drewN ?_ _) | (with_reducible refine Kd.C_drew ?_))); (case side2 => exact HC1.out); rintro e w' ⟨rfl, ⟨nd, rfl⟩⟩; refine ⟨_, rfl, ?_⟩) | ((with_reducible refine gate_callee (f := 37) rfl ?_); refine goesL_ (some 45) rfl rfl Try.func37 (by kernel_rfl) rfl #[.slice Ao57 t603.length co57, .int .i64 (wrap64 (2 + t609))] rfl (by (try simp only [List.map_toArray, List.map_cons, List.map_nil]); first | done | rfl | (simp only [List.length_drop, List.length_take]; rfl) | (simp only [show ∀ (n_ : Nat) (b_ : Int), Int.tdiv (n_ : Int) b_ = (n_ : Int) / b_ from fun n_ b_ => Int.tdiv_eq_ediv_of_nonneg (Int.natCast_nonneg n_)]; rfl)) ?_; (with_reducible refine (impl_SpreadOf.calls k _ _ t603 (wrap64 (2 + t609)) t610 t611 _ ?side1 ?side2 A12.out).mono ?_); (case side1 => repeat (first | exact (Kd.S_reads' HO606.out).2.2 | (with_reducible refine Kd.C_alloc ?_ _) | (with_reducible refine Kd.C_drewN ?_ _) | (with_reducible refine Kd.C_drew ?_))); (case side2 => exact (Kd.S_reads' HO606.out).2.1); rintro e w59 ⟨rfl, hb⟩; refine ⟨_, rfl, ?_⟩; have n0_ := Aside0.mk (Kd.S_below (by (with_reducible repeat (first | apply Kd.S_alloc | apply Kd.S_drewN | apply Kd.S_drew)); exact HO606.out) hb); have n1_ := Aside0.mk (below_step (by repeat (first | (with_reducible first | exact HB.out | apply below_alloc | apply pw_below_drewN | apply below_drew1) | exact HB.out)) hb); clear HO606; clear HB; have HO606 := n0_; have HB := n1_; clear n0_ n1_; (try clear hb); (try clear hb2); (try clear hk); (try clear hi)) | ((with_reducible refine gate_callee (f := 37) rfl ?_); refine goesL_ (some 53) rfl rfl Try.func37 (by kernel_rfl) rfl #[.slice Ao57 t603.length co57, .int .i64 (wrap64 ((ji9) * (ji9)))] rfl (by (try simp only [List.map_toArray, List.map_cons, List.map_nil]); first | done | (simp only [hji9]; rfl) | rfl | (simp only [List.length_drop, List.length_take]; rfl)) ?_; (with_reducible refine (impl_SpreadOf.calls k _ _ t603 (wrap64 ((ji9) * (ji9))) t612 t613 _ ?side1 ?side2 A13.out).mono ?_); (case side1 => repeat (first | exact (Kd.S_reads' HO606.out).2.2 | (with_reducible refine Kd.C_alloc ?_ _) | (with_reducible refine Kd.C_drewN ?_ _) | (with_reducible refine Kd.C_drew ?_))); (case side2 => exact (Kd.S_reads' HO606.out).2.1); rintro e w60 ⟨rfl, hb⟩; refine ⟨_, rfl, ?_⟩; have n0_ := Aside0.mk (Kd.S_below (by (with_reducible repeat (first | apply Kd.S_alloc | apply Kd.S_drewN | apply Kd.S_drew)); exact HO606.out) hb); have n1_ := Aside0.mk (below_step (by repeat (first | (with_reducible first | exact HB.out | apply below_alloc | apply pw_below_drewN | apply below_drew1) | exact HB.out)) hb); clear HO606; clear HB; have HO606 := n0_; have HB := n1_; clear n0_ n1_; (try clear hb); (try clear hb2); (try clear hk); (try clear hi)))
    go_ret
    exact ⟨by first | rfl | (simp [errW_none, errW_some] <;> rfl) | (simp only [← hji7, ← hji9]; first | rfl | (simp [errW_none, errW_some] <;> rfl)) | (simp [*, errW_none, errW_some] <;> rfl), by repeat (first | (with_reducible first | exact HB.out | apply below_alloc | apply pw_below_drewN | apply below_drew1) | exact HB.out)⟩
  ·rw [if_neg c8] at H
   exact absurd H (by simp)
def laws_FnSpread.Pure : Prop := ∀ (l0 : List Int) (l1 : List Int), l0.length ≤ maxLen → l0.length * 1 ≤ 140737488351232 → (∀ x ∈ l0, (Lit.int .u8 x).wf = true) → l1.length ≤ maxLen → l1.length * 1 ≤ 140737488351232 → (∀ x ∈ l1, (Lit.int .u8 x).wf = true) → ∃ k, laws_FnSpread.f k l0 l1 = some true
theorem laws_FnSpread.walk (P : laws_FnSpread.Pure) (a0 : Option Addr) (len0 cap0 : Nat) (z0 : List Int) (a1 : Option Addr) (len1 cap1 : Nat) (z1 : List Int) (w : World) (w0 : (a0 = none ∧ len0 = 0 ∧ cap0 = 0 ∧ z0 = []) ∨ ∃ x, a0 = some x ∧ len0 ≤ cap0 ∧ cap0 ≤ maxLen ∧ z0.length = cap0 ∧ (∀ i, i < z0.length → w.cell? (x.add i) = some (.int .u8 (z0.getD i 0))) ∧ ∀ n ∈ z0, (Lit.int .u8 n).wf = true) (y0 : len0 * 1 ≤ 140737488351232) (w1 : (a1 = none ∧ len1 = 0 ∧ cap1 = 0 ∧ z1 = []) ∨ ∃ x, a1 = some x ∧ len1 ≤ cap1 ∧ cap1 ≤ maxLen ∧ z1.length = cap1 ∧ (∀ i, i < z1.length → w.cell? (x.add i) = some (.int .u8 (z1.getD i 0))) ∧ ∀ n ∈ z1, (Lit.int .u8 n).wf = true) (y1 : len1 * 1 ≤ 140737488351232) :
  Calls Try.prog 11 #[.slice a0 len0 cap0, .slice a1 len1 cap1] w fun e w' => e = .returned (.bool true) ∧ Below w.heap.size w w' := by
 obtain ⟨l0, rfl, hr0, hm0, hw0, hc0⟩ := ReadsInt.ofRowC w0
 obtain ⟨l1, rfl, hr1, hm1, hw1, hc1⟩ := ReadsInt.ofRowC w1
 obtain ⟨k, h⟩ := P l0 l1 hm0 y0 hw0 hm1 y1 hw1
 refine (laws_FnSpread.calls k _ _ l0 _ _ l1 true w (Kd.C_of_reads (d := (0 : Int)) (h1 := fun _ => rfl) hr0) hc0 (Kd.C_of_reads (d := (0 : Int)) (h1 := fun _ => rfl) hr1) hc1 h).mono ?_
 rintro e w' ⟨rfl, hd⟩
 exact ⟨rfl, hd⟩
end Go.Proofs.Ytckonklpdepgoaa.Q
namespace Go.Proofs.Ytckonklpdepgoaa.Com
open Go.RowKit Go.Proofs.YtckonklpdepgoaaW.PrintWords
theorem w64 {x : Int} (h1 : -9223372036854775808 ≤ x) (h2 : x ≤ 9223372036854775807) : wrap64 x = x := by
 unfold wrap64
 omega
theorem ev_of {α : Type} {g : Nat → Option α} {r : α} (h : Ev g r) : ∃ k, g k = some r := h.rounds
theorem tdiv_nn {a b : Int} (h : 0 ≤ a) : Int.tdiv a b = a / b := Int.tdiv_eq_ediv_of_nonneg h
theorem tmod_nn {a b : Int} (h : 0 ≤ a) : Int.tmod a b = a % b := Int.tmod_eq_emod_of_nonneg h
end Go.Proofs.Ytckonklpdepgoaa.Com
namespace Go.Proofs.Ytckonklpdepgoaa.Com
set_option linter.unusedSimpArgs false
set_option linter.unusedVariables false
open Go.RowKit Go.Proofs.YtckonklpdepgoaaW.PrintWords
theorem ev_fold {α σ ρ : Type} (xs : List α) (g : Nat → σ → Nat → Option ρ) (F : List α → σ → ρ) (Inv : Nat → σ → Prop)
  (h0 : ∀ s, Inv xs.length s → Ev (g xs.length s) (F [] s))
  (hs : ∀ m (h : m < xs.length) s, Inv m s → (∀ s', Inv (m + 1) s' → Ev (g (m + 1) s') (F (xs.drop (m + 1)) s')) → Ev (g m s) (F (xs[m] :: xs.drop (m + 1)) s)) :
  ∀ m s, m ≤ xs.length → Inv m s → Ev (g m s) (F (xs.drop m) s) := by
 have key : ∀ d m s, m + d = xs.length → Inv m s → Ev (g m s) (F (xs.drop m) s) := by
  intro d
  induction d with
  | zero =>
   intro m s e hi
   obtain rfl : m = xs.length := by omega
   rw [List.drop_length]
   exact h0 s hi
  | succ d ih =>
   intro m s e hi
   have h : m < xs.length := by omega
   rw [List.drop_eq_getElem_cons h]
   exact hs m h s hi (fun s' hi' => ih (m + 1) s' (by omega) hi')
 intro m s hm hi
 exact key (xs.length - m) m s (by omega) hi
theorem rd_nat {xs : List Int} {m : Nat} (h : m < xs.length) : rd xs (m : Int) = xs[m] := by
 unfold rd
 rw [Int.toNat_natCast, List.getD_eq_getElem?_getD, List.getElem?_eq_getElem h]
 rfl
theorem w_succ {m : Nat} (h : m < 9223372036854775807) : wrap64 ((m : Int) + 1) = ((m + 1 : Nat) : Int) := by
 rw [w64 (by omega) (by omega)]
 omega
theorem w_pred {m : Nat} (h : 0 < m) (h' : m < 9223372036854775807) : wrap64 ((m : Int) - 1) = ((m - 1 : Nat) : Int) := by
 rw [w64 (by omega) (by omega)]
 omega
end Go.Proofs.Ytckonklpdepgoaa.Com
namespace Go.Proofs.Ytckonklpdepgoaa.Com
set_option linter.unusedSimpArgs false
set_option linter.unusedVariables false
open Go.RowKit Go.Proofs.YtckonklpdepgoaaW.PrintWords Go.Proofs.Ytckonklpdepgoaa.Q
theorem within_tells (x a b : Int) : impl_within.f x a b = some (decide (a ≤ x ∧ x ≤ b)) := by
 unfold impl_within.f
 split <;> simp [*]
end Go.Proofs.Ytckonklpdepgoaa.Com
namespace Go.Proofs.Ytckonklpdepgoaa.Com
set_option linter.unusedSimpArgs false
set_option linter.unusedVariables false
set_option linter.unusedSectionVars false
open Go.RowKit Go.Proofs.YtckonklpdepgoaaW.PrintWords Go.Proofs.YtckonklpdepgoaaW.PrintMore Go.Proofs.Ytckonklpdepgoaa.Q
theorem rdr_nat {xs : List (List Int)} {m : Nat} (h : m < xs.length) : rd_L1 xs (m : Int) = xs[m] := by
 unfold rd_L1
 rw [Int.toNat_natCast, List.getD_eq_getElem?_getD, List.getElem?_eq_getElem h]
 rfl
end Go.Proofs.Ytckonklpdepgoaa.Com
namespace Go.Proofs.Ytckonklpdepgoaa.Com
set_option linter.unusedSimpArgs false
set_option linter.unusedVariables false
open Go.RowKit Go.Proofs.YtckonklpdepgoaaW.PrintWords Go.Proofs.Ytckonklpdepgoaa.Q
def risesFrom (lo hi : Int) : Option Int → List Int → Bool
 | _, [] => true
 | p, x :: r => decide (lo ≤ x ∧ x ≤ hi) && (match p with | none => true | some y => decide (y < x)) && risesFrom lo hi (some x) r
def rises (lo hi : Int) (l : List Int) : Bool := risesFrom lo hi none l
theorem isSet_ev (xs : List Int) (b : Int) (hx : xs.length ≤ 1048576) (hb : -9223372036854775807 ≤ b ∧ b ≤ 9223372036854775807) : Ev (fun k => impl_isSet.f k xs b) (rises 0 (b - 1) xs) := by
 unfold impl_isSet.f
 have gen := ev_fold xs (fun m (p : Option Int) k => impl_isSet.l0 k xs b xs (xs.length : Int) (m : Int)) (fun l p => risesFrom 0 (b - 1) p l) (fun m p => p = if h : 0 < m ∧ m - 1 < xs.length then some (xs[m - 1]'h.2) else none) ?_ ?_ 0 none (by omega) (by simp)
 ·simpa [rises] using gen
 ·intro s hs
  refine Ev.step (fun k => by rw [impl_isSet.l0]) ?_
  simp only [if_neg (show ¬ (xs.length : Int) < (xs.length : Int) by omega)]
  exact Ev.now _
 ·intro m hm s hs ih
  have ih' := ih (some xs[m]) (by simp [hm])
  refine Ev.step (fun k => by rw [impl_isSet.l0]) ?_
  simp only [if_pos (show (m : Int) < (xs.length : Int) by omega), if_pos (show 0 ≤ (m : Int) by omega), rd_nat hm, within_tells, Option.bind_some, w_succ (m := m) (by omega), decide_eq_true_eq, w64 (x := b - 1) (by omega) (by omega)]
  by_cases c : 0 ≤ xs[m] ∧ xs[m] ≤ b - 1
  ·simp only [if_pos c]
   unfold risesFrom
   rw [decide_eq_true c, Bool.true_and]
   by_cases hp : (m : Int) > 0
   ·have hp' : 0 < m ∧ m - 1 < xs.length := by omega
    rw [dif_pos hp'] at hs
    subst hs
    simp only [if_pos hp, w_pred (m := m) (by omega) (by omega), if_pos (show (0 : Int) ≤ ((m - 1 : Nat) : Int) by omega), if_pos (show ((m - 1 : Nat) : Int) < (xs.length : Int) by omega), rd_nat hp'.2]
    by_cases q : xs[m] ≤ xs[m - 1]
    ·simp only [if_pos q]
     rw [decide_eq_false (by omega), Bool.false_and]
     exact Ev.now _
    ·simp only [if_neg q]
     rw [decide_eq_true (by omega), Bool.true_and]
     exact ih'
   ·rw [dif_neg (by omega)] at hs
    subst hs
    simp only [if_neg hp, Bool.true_and]
    exact ih'
  ·simp only [if_neg c]
   unfold risesFrom
   rw [decide_eq_false c]
   simp
   exact Ev.now _
end Go.Proofs.Ytckonklpdepgoaa.Com
namespace Go.Proofs.Ytckonklpdepgoaa.Com
set_option linter.unusedSimpArgs false
set_option linter.unusedVariables false
open Go.RowKit Go.Proofs.YtckonklpdepgoaaW.PrintWords Go.Proofs.YtckonklpdepgoaaW.PrintMore Go.Proofs.Ytckonklpdepgoaa.Q
def okAll (N : Nat) : List Int → List Int → Bool
 | _, [] => true
 | pre, z :: r => decide (0 ≤ z ∧ z ≤ (N : Int) - 1) && (!decide (z ∈ pre) && okAll N (pre ++ [z]) r)
def okRows (n N : Nat) : List Int → List (List Int) → Bool
 | _, [] => true
 | pre, x :: r => decide (x.length = n) && (okAll N pre x && okRows n N (pre ++ x) r)
theorem okAll_app (N : Nat) (a b : List Int) : ∀ pre, okAll N pre (a ++ b) = (okAll N pre a && okAll N (pre ++ a) b) := by
 induction a with
 | nil => intro pre; simp [okAll]
 | cons z r ih => intro pre; simp only [List.cons_append, okAll, ih, Bool.and_assoc, List.append_assoc, List.singleton_append, List.nil_append]
theorem okRows_flat (n N : Nat) (l : List (List Int)) : ∀ pre, (∀ x ∈ l, x.length = n) → okRows n N pre l = okAll N pre l.flatten := by
 induction l with
 | nil => intro pre _; rfl
 | cons x r ih =>
  intro pre h
  rw [List.flatten_cons, okAll_app, okRows, ih _ (fun y hy => h y (List.mem_cons_of_mem _ hy)), decide_eq_true (h x (List.mem_cons_self ..)), Bool.true_and]
theorem okRows_len (n N : Nat) (l : List (List Int)) : ∀ pre, okRows n N pre l = true → ∀ x ∈ l, x.length = n := by
 induction l with
 | nil => intro pre _ x hx; simp at hx
 | cons y r ih =>
  intro pre h x hx
  simp only [okRows, Bool.and_eq_true, decide_eq_true_eq] at h
  rcases List.mem_cons.1 hx with rfl | hx
  ·exact h.1
  ·exact ih _ h.2.2 x hx
theorem okAll_iff (N : Nat) (l : List Int) : ∀ pre, okAll N pre l = true ↔ ((∀ z ∈ l, 0 ≤ z ∧ z ≤ (N : Int) - 1) ∧ l.Nodup ∧ ∀ z ∈ l, z ∉ pre) := by
 induction l with
 | nil => intro pre; simp [okAll]
 | cons x r ih =>
  intro pre
  simp only [okAll, Bool.and_eq_true, decide_eq_true_eq, Bool.not_eq_true', decide_eq_false_iff_not, ih, List.nodup_cons, List.mem_cons, List.mem_append, List.mem_singleton, List.not_mem_nil, or_false]
  constructor
  ·rintro ⟨h1, h2, h3, h4, h5⟩
   exact ⟨fun z hz => hz.elim (fun e => by rw [e]; exact h1) (h3 z), ⟨fun hx => h5 x hx (.inr rfl), h4⟩, fun z hz => hz.elim (fun e => by rw [e]; exact h2) (fun hz hp => h5 z hz (.inl hp))⟩
  ·rintro ⟨h1, ⟨h2, h3⟩, h4⟩
   exact ⟨h1 x (.inl rfl), h4 x (.inl rfl), fun z hz => h1 z (.inr hz), h3, fun z hz hp => hp.elim (h4 z (.inr hz)) (fun e => h2 (by rw [← e]; exact hz))⟩
theorem risesFrom_iff (lo hi : Int) (l : List Int) : ∀ p : Option Int, risesFrom lo hi p l = true ↔ ((∀ z ∈ l, lo ≤ z ∧ z ≤ hi) ∧ l.Pairwise (· < ·) ∧ ∀ y, p = some y → ∀ z ∈ l, y < z) := by
 induction l with
 | nil => intro p; simp [risesFrom]
 | cons x r ih =>
  intro p
  simp only [risesFrom, Bool.and_eq_true, decide_eq_true_eq, ih, List.pairwise_cons, List.mem_cons]
  constructor
  ·rintro ⟨⟨h1, h2⟩, h3, h4, h5⟩
   refine ⟨fun z hz => hz.elim (fun e => by rw [e]; exact h1) (h3 z), ⟨fun z hz => h5 x rfl z hz, h4⟩, fun y hy z hz => ?_⟩
   subst hy
   have h2' : y < x := by simpa using h2
   rcases hz with rfl | hz
   ·exact h2'
   ·have := h5 x rfl z hz; omega
  ·rintro ⟨h1, ⟨h2, h3⟩, h4⟩
   refine ⟨⟨h1 x (.inl rfl), ?_⟩, fun z hz => h1 z (.inr hz), h3, fun y hy z hz => by cases hy; exact h2 z hz⟩
   cases p with
   | none => rfl
   | some y => simpa using h4 y rfl x (.inl rfl)
theorem rises_sort (N : Nat) (l : List Int) : rises 0 ((N : Int) - 1) (l.mergeSort fun x y => decide (x ≤ y)) = okAll N [] l := by
 rw [Bool.eq_iff_iff, rises, risesFrom_iff, okAll_iff]
 have hp := List.mergeSort_perm l (fun x y => decide (x ≤ y))
 have hs : (l.mergeSort fun x y => decide (x ≤ y)).Pairwise fun a b => decide (a ≤ b) = true := List.pairwise_mergeSort (fun a b c h1 h2 => by simp only [decide_eq_true_eq] at *; omega) (fun a b => by simp only [Bool.or_eq_true, decide_eq_true_eq]; omega) l
 constructor
 ·rintro ⟨h1, h2, _⟩
  refine ⟨fun z hz => h1 z (hp.mem_iff.2 hz), hp.nodup_iff.1 (h2.imp (fun h e => by omega)), by simp⟩
 ·rintro ⟨h1, h2, _⟩
  refine ⟨fun z hz => h1 z (hp.mem_iff.1 hz), ?_, by simp⟩
  have h3 := hp.nodup_iff.2 h2
  have h4 : (l.mergeSort fun x y => decide (x ≤ y)).Pairwise fun a b => decide (a ≤ b) = true ∧ a ≠ b := List.Pairwise.and hs h3
  exact h4.imp (fun {a b} h => by have := h.1; simp only [decide_eq_true_eq] at this; have := h.2; omega)
def isMaskB (l : List (List Int)) : Bool := decide (1 ≤ l.length ∧ l.length ≤ 8) && okRows l.length (l.length * l.length) [] l
theorem isMaskB_len {l : List (List Int)} (h : isMaskB l = true) : (1 ≤ l.length ∧ l.length ≤ 8) ∧ ∀ x ∈ l, x.length = l.length := by
 simp only [isMaskB, Bool.and_eq_true, decide_eq_true_eq] at h
 exact ⟨h.1, okRows_len _ _ _ _ h.2⟩
theorem sq_le (n : Nat) (h : n ≤ 8) : n * n ≤ 64 := Nat.le_trans (Nat.mul_le_mul h h) (by decide)
theorem implMask_ev (l : List (List Int)) : Ev (fun k => impl_IsMask.f k l) (isMaskB l) := by
 unfold impl_IsMask.f isMaskB
 by_cases h : 1 ≤ l.length ∧ l.length ≤ 8
 ·simp only [if_pos h, decide_eq_true h, Bool.true_and]
  by_cases h2 : l.any (impl_IsMask.p l.length) = true
  ·simp only [if_pos h2]
   have : okRows l.length (l.length * l.length) [] l = false := by
    cases hq : okRows l.length (l.length * l.length) [] l with
    | false => rfl
    | true =>
     have hl := okRows_len _ _ _ _ hq
     rw [List.any_eq_true] at h2
     obtain ⟨x, hx, h3⟩ := h2
     unfold impl_IsMask.p at h3
     exact absurd (hl x hx) (by simpa using h3)
   rw [this]
   exact Ev.now _
  ·simp only [if_neg h2]
   have h2' : l.any (impl_IsMask.p l.length) = false := by simpa using h2
   have hl : ∀ x ∈ l, x.length = l.length := fun x hx => by
    have := List.any_eq_false.1 h2' x hx
    unfold impl_IsMask.p at this
    simpa using this
   have hf := impl_IsMask.flat l.length l h2'
   have hs := sq_le l.length h.2
   rw [okRows_flat _ _ _ _ hl, ← rises_sort]
   have hw : wrap64 ((l.length : Int) * (l.length : Int)) = ((l.length * l.length : Nat) : Int) := by
    rw [← Int.natCast_mul]
    exact w64 (by omega) (by omega)
   rw [hw]
   exact isSet_ev _ _ (by rw [List.length_mergeSort]; omega) (by omega)
 ·simp only [if_neg h, decide_eq_false h, Bool.false_and]
  exact Ev.now _
end Go.Proofs.Ytckonklpdepgoaa.Com
namespace Go.Proofs.Ytckonklpdepgoaa.Com
set_option linter.unusedSimpArgs false
set_option linter.unusedVariables false
set_option linter.unusedSectionVars false
open Go.RowKit Go.Proofs.YtckonklpdepgoaaW.PrintWords Go.Proofs.YtckonklpdepgoaaW.PrintMore Go.Proofs.Ytckonklpdepgoaa.Q
def Grid (R C : Nat) (g : List (List Int)) : Prop := g.length = R ∧ ∀ x ∈ g, x.length = C
theorem Grid.row {R C : Nat} {g : List (List Int)} (h : Grid R C g) {i : Nat} (hi : i < R) : i < g.length ∧ ∀ (h' : i < g.length), g[i].length = C := ⟨by rw [h.1]; exact hi, fun h' => h.2 _ (List.getElem_mem h')⟩
theorem Grid.rd {R C : Nat} {g : List (List Int)} (h : Grid R C g) {i : Nat} (hi : i < R) : (rd_L1 g (i : Int)).length = C := by
 rw [rdr_nat (h.row hi).1]
 exact (h.row hi).2 _
end Go.Proofs.Ytckonklpdepgoaa.Com
namespace Go.Proofs.Ytckonklpdepgoaa.Com
set_option linter.unusedSimpArgs false
set_option linter.unusedVariables false
set_option linter.unusedSectionVars false
open Go.RowKit Go.Proofs.YtckonklpdepgoaaW.PrintWords Go.Proofs.YtckonklpdepgoaaW.PrintMore Go.Proofs.Ytckonklpdepgoaa.Q
theorem mnf_le (ds : List Int) : ∀ s, ds.foldl mn s ≤ s ∧ ∀ d ∈ ds, ds.foldl mn s ≤ d := by
 induction ds with
 | nil => intro s; simp
 | cons x r ih =>
  intro s
  obtain ⟨h1, h2⟩ := ih (mn s x)
  have h3 : mn s x ≤ s ∧ mn s x ≤ x := by unfold mn; split <;> omega
  rw [List.foldl_cons]
  exact ⟨by omega, fun d hd => (List.mem_cons.1 hd).elim (fun e => by rw [e]; omega) (h2 d)⟩
theorem mnf_mem (ds : List Int) : ∀ s, ds.foldl mn s = s ∨ ds.foldl mn s ∈ ds := by
 induction ds with
 | nil => intro s; exact .inl rfl
 | cons x r ih =>
  intro s
  rw [List.foldl_cons]
  rcases ih (mn s x) with h | h
  ·have h3 : mn s x = s ∨ mn s x = x := by unfold mn; split <;> simp
   rcases h3 with h3 | h3
   ·exact .inl (h.trans h3)
   ·exact .inr (by rw [h, h3]; exact List.mem_cons_self ..)
  ·exact .inr (List.mem_cons_of_mem _ h)
theorem mnf_mono (a b : List Int) (s : Int) (h : ∀ x ∈ a, x ∈ b) : b.foldl mn s ≤ a.foldl mn s := by
 have h1 := mnf_le b s
 rcases mnf_mem a s with e | e
 ·rw [e]; exact h1.1
 ·exact h1.2 _ (h _ e)
theorem way_symm (n a b : Int) : impl_SpreadOf.way n a b = impl_SpreadOf.way n b a := by
 unfold impl_SpreadOf.way
 have : mx (wrap64 (a - b)) (wrap64 (b - a)) = mx (wrap64 (b - a)) (wrap64 (a - b)) := by unfold mx; split <;> split <;> omega
 rw [this]
theorem dist_symm (n : Int) (p q : Int × Int) : impl_SpreadOf.dist n p q = impl_SpreadOf.dist n q p := by
 unfold impl_SpreadOf.dist
 rw [way_symm n p.1 q.1, way_symm n p.2 q.2]
def prs (n : Int) (X : List (Int × Int)) (c : Nat) : List Int := (List.range c).flatMap fun (j : Nat) => (List.range j).map fun (i : Nat) => impl_SpreadOf.dist n (X.getD j (0, 0)) (X.getD i (0, 0))
theorem outer_prs (n : Int) (X : List (Int × Int)) (c : Nat) (s : Int) : impl_SpreadOf.outer n X c s = (prs n X c).foldl mn s := by
 unfold impl_SpreadOf.outer prs impl_SpreadOf.inner
 rw [List.foldl_flatMap]
 congr 1
 funext s j
 rw [List.foldl_map]
theorem getD_lt {X : List (Int × Int)} {i : Nat} (h : i < X.length) : X.getD i (0, 0) = X[i] := by
 rw [List.getD_eq_getElem?_getD, List.getElem?_eq_getElem h]; rfl
theorem mem_prs (n : Int) (X : List (Int × Int)) (hX : X.Nodup) (d : Int) : d ∈ prs n X X.length ↔ ∃ p ∈ X, ∃ q ∈ X, p ≠ q ∧ d = impl_SpreadOf.dist n p q := by
 unfold prs
 rw [List.mem_flatMap]
 constructor
 ·rintro ⟨j, hj, h⟩
  obtain ⟨i, hi, rfl⟩ := List.mem_map.1 h
  have hj' := List.mem_range.1 hj
  have hi' := List.mem_range.1 hi
  have hi2 : i < X.length := by omega
  refine ⟨X[j], List.getElem_mem hj', X[i], List.getElem_mem hi2, fun e => ?_, by rw [getD_lt hj', getD_lt hi2]⟩
  have := (List.getElem_inj (h₀ := hj') (h₁ := hi2) hX).1 e
  omega
 ·rintro ⟨p, hp, q, hq, hne, rfl⟩
  obtain ⟨a, ha, rfl⟩ := List.getElem_of_mem hp
  obtain ⟨b, hb, rfl⟩ := List.getElem_of_mem hq
  rcases Nat.lt_trichotomy a b with h | h | h
  ·refine ⟨b, List.mem_range.2 hb, List.mem_map.2 ⟨a, List.mem_range.2 h, ?_⟩⟩
   rw [getD_lt ha, getD_lt hb, dist_symm]
  ·subst h; exact absurd rfl hne
  ·refine ⟨a, List.mem_range.2 ha, List.mem_map.2 ⟨b, List.mem_range.2 h, ?_⟩⟩
   rw [getD_lt ha, getD_lt hb]
theorem outer_mono (n : Int) (X Y : List (Int × Int)) (hX : X.Nodup) (hY : Y.Nodup) (h : ∀ p, p ∈ X → p ∈ Y) (s : Int) : impl_SpreadOf.outer n Y Y.length s ≤ impl_SpreadOf.outer n X X.length s := by
 rw [outer_prs, outer_prs]
 refine mnf_mono _ _ _ (fun d hd => ?_)
 rw [mem_prs n X hX] at hd
 rw [mem_prs n Y hY]
 obtain ⟨p, hp, q, hq, r⟩ := hd
 exact ⟨p, h p hp, q, h q hq, r⟩
theorem mem_pls (c : Int) (l : List (List Int)) (n : Nat) (hl : ∀ a : Nat, a < n → (rda l (a : Int)).length = n) (p : Int × Int) : p ∈ impl_SpreadOf.pls c l n ↔ ∃ i k : Nat, i < n ∧ k < n ∧ rd (rda l (i : Int)) (k : Int) < c ∧ p = ((i : Int), (k : Int)) := by
 unfold impl_SpreadOf.pls impl_SpreadOf.row
 rw [List.mem_flatMap]
 constructor
 ·rintro ⟨i, hi, h⟩
  obtain ⟨k, hk, e⟩ := List.mem_filterMap.1 h
  have hi' := List.mem_range.1 hi
  have hk' := List.mem_range.1 hk
  rw [hl i hi'] at hk'
  split at e
  ·rename_i hc
   exact ⟨i, k, hi', hk', hc, (Option.some.inj e).symm⟩
  ·cases e
 ·rintro ⟨i, k, hi, hk, hc, rfl⟩
  refine ⟨i, List.mem_range.2 hi, List.mem_filterMap.2 ⟨k, List.mem_range.2 (by rw [hl i hi]; exact hk), ?_⟩⟩
  rw [if_pos hc]
theorem pls_nodup (c : Int) (l : List (List Int)) (n : Nat) : (impl_SpreadOf.pls c l n).Nodup := by
 unfold impl_SpreadOf.pls impl_SpreadOf.row
 rw [List.nodup_iff_pairwise_ne, List.pairwise_flatMap]
 refine ⟨fun i _ => ?_, ?_⟩
 ·rw [List.pairwise_filterMap]
  refine (List.nodup_iff_pairwise_ne.1 List.nodup_range).imp (fun {a b} hab x hx y hy e => ?_)
  split at hx
  ·split at hy
   ·have h1 := Option.some.inj hx
    have h2 := Option.some.inj hy
    rw [← h2, ← h1] at e
    injection e with _ e
    exact hab (by omega)
   ·cases hy
  ·cases hx
 ·refine (List.nodup_iff_pairwise_ne.1 List.nodup_range).imp (fun {a b} hab x hx y hy e => ?_)
  obtain ⟨k, _, ek⟩ := List.mem_filterMap.1 hx
  obtain ⟨k', _, ek'⟩ := List.mem_filterMap.1 hy
  split at ek
  ·split at ek'
   ·have h1 := Option.some.inj ek
    have h2 := Option.some.inj ek'
    rw [← h2, ← h1] at e
    injection e with e _
    exact hab (by omega)
   ·cases ek'
  ·cases ek
def spreadOf (l : List (List Int)) (a : Int) : Int × Bool := if isMaskB l = true then (if 2 ≤ a ∧ a ≤ ((l.length * l.length : Nat) : Int) then (impl_SpreadOf.outer (l.length : Int) (impl_SpreadOf.pls a l l.length) (impl_SpreadOf.pls a l l.length).length (2 * ((l.length * l.length : Nat) : Int)), true) else (0, false)) else (0, false)
theorem sq_wraps (n : Nat) (h : n ≤ 8) : wrap64 ((n : Int) * (n : Int)) = ((n * n : Nat) : Int) ∧ wrap64 (wrap64 (2 * (n : Int)) * (n : Int)) = 2 * ((n * n : Nat) : Int) := by
 have hs := sq_le n h
 refine ⟨by rw [← Int.natCast_mul]; exact w64 (by omega) (by omega), ?_⟩
 rw [w64 (x := 2 * (n : Int)) (by omega) (by omega), Int.mul_assoc, ← Int.natCast_mul]
 exact w64 (by omega) (by omega)
theorem implSpread_ev (l : List (List Int)) (a : Int) : Ev (fun k => impl_SpreadOf.f k l a) (spreadOf l a) := by
 unfold impl_SpreadOf.f spreadOf
 refine Ev.bind (implMask_ev l) ?_
 by_cases h : isMaskB l = true
 ·obtain ⟨h1, _⟩ := isMaskB_len h
  have hw := sq_wraps l.length h1.2
  simp only [h, if_true, hw.1, hw.2, within_tells, Option.bind_some]
  by_cases c : 2 ≤ a ∧ a ≤ ((l.length * l.length : Nat) : Int)
  ·simp only [decide_eq_true c, if_true, if_pos c]
   exact Ev.now _
  ·simp only [decide_eq_false c, Bool.false_eq_true, if_false, if_neg c]
   exact Ev.now _
 ·simp only [if_neg h]
  exact Ev.now _
end Go.Proofs.Ytckonklpdepgoaa.Com
namespace Go.Proofs.Ytckonklpdepgoaa.Com
set_option linter.unusedSimpArgs false
set_option linter.unusedVariables false
open Go.RowKit Go.Proofs.YtckonklpdepgoaaW.PrintWords Go.Proofs.YtckonklpdepgoaaW.PrintMore Go.Proofs.Ytckonklpdepgoaa.Q
def dmask : Nat → List (List Int)
 | 0 => [[0]]
 | 1 => [[0, 2], [3, 1]]
 | 2 => [[0, 8, 2, 10], [12, 4, 14, 6], [3, 11, 1, 9], [15, 7, 13, 5]]
 | _ => [[0, 32, 8, 40, 2, 34, 10, 42], [48, 16, 56, 24, 50, 18, 58, 26], [12, 44, 4, 36, 14, 46, 6, 38], [60, 28, 52, 20, 62, 30, 54, 22], [3, 35, 11, 43, 1, 33, 9, 41], [51, 19, 59, 27, 49, 17, 57, 25], [15, 47, 7, 39, 13, 45, 5, 37], [63, 31, 55, 23, 61, 29, 53, 21]]
set_option maxRecDepth 100000 in
theorem implDoubling_ev (n : Nat) (h : n ≤ 3) : Ev (fun k => impl_DoublingMask.f k (n : Int)) (dmask n, true) := by
 refine Ev.of (k := 100) (impl_DoublingMask.mono (n : Int)) ?_
 have : ∀ m : Fin 4, impl_DoublingMask.f 100 (m.val : Int) = some (dmask m.val, true) := by decide +kernel
 exact this ⟨n, by omega⟩
end Go.Proofs.Ytckonklpdepgoaa.Com
namespace Go.Proofs.Ytckonklpdepgoaa.Com
set_option linter.unusedSimpArgs false
set_option linter.unusedVariables false
open Go.RowKit Go.Proofs.Ytckonklpdepgoaa.Q Go.Proofs.YtckonklpdepgoaaW.PrintWords Go.Proofs.YtckonklpdepgoaaW.PrintLast
theorem b10At_tells (l : List Int) (i n : Int) (hl : ∀ x ∈ l, (Lit.int .u8 x).wf = true) (hi : 0 ≤ i ∧ i ≤ 10) (hn : 1 ≤ n) : ∃ r, laws_b10At.f l i n = some r ∧ 0 ≤ r ∧ r < n := by
 unfold laws_b10At.f
 by_cases h1 : n ≤ 1
 ·exact ⟨0, by rw [if_pos h1], by omega, by omega⟩
 ·rw [if_neg h1]
  by_cases h2 : i < (l.length : Int)
  ·rw [if_pos h2, if_pos hi.1, if_neg (show ¬ n = 0 by omega)]
   have hx : 0 ≤ rd l i ∧ rd l i ≤ 255 := by
    have hlt : i.toNat < l.length := by omega
    have : rd l i ∈ l := by
     unfold rd
     rw [List.getD_eq_getElem?_getD, List.getElem?_eq_getElem hlt]
     exact List.getElem_mem hlt
    have := hl _ this
    simp [Lit.wf, IntKind.min, IntKind.max, IntKind.signed, IntKind.bits] at this
    omega
   rw [w64 (by omega) (by omega), tmod_nn hx.1]
   exact ⟨_, rfl, Int.emod_nonneg _ (by omega), Int.emod_lt_of_pos _ (by omega)⟩
  ·rw [if_neg h2, if_neg (show ¬ n = 0 by omega), w64 (x := i * 37) (by omega) (by omega), w64 (by omega) (by omega), tmod_nn (by omega)]
   exact ⟨_, rfl, Int.emod_nonneg _ (by omega), Int.emod_lt_of_pos _ (by omega)⟩
end Go.Proofs.Ytckonklpdepgoaa.Com
namespace Go.Proofs.Ytckonklpdepgoaa.Pure
set_option linter.unusedSimpArgs false
set_option linter.unusedVariables false
open Go.RowKit Go.Proofs.Ytckonklpdepgoaa.Q Go.Proofs.YtckonklpdepgoaaW.PrintWords Go.Proofs.YtckonklpdepgoaaW.PrintLast Go.Proofs.Ytckonklpdepgoaa.Com
theorem dm_mask (n : Nat) (h : n ≤ 3) : isMaskB (dmask n) = true := by
 have : ∀ m : Fin 4, isMaskB (dmask m.val) = true := by decide +kernel
 exact this ⟨n, by omega⟩
theorem dm_len (n : Nat) (h : n ≤ 3) : (dmask n).length = 2 ^ n := by
 have : ∀ m : Fin 4, (dmask m.val).length = 2 ^ m.val := by decide +kernel
 exact this ⟨n, by omega⟩
set_option maxRecDepth 100000 in
theorem dm_first (n : Nat) (h : 1 ≤ n ∧ n ≤ 3) : (spreadOf (dmask n) 2).1 = ((2 ^ n * 2 ^ n : Nat) : Int) / 2 := by
 have : ∀ m : Fin 4, 1 ≤ m.val → (spreadOf (dmask m.val) 2).1 = ((2 ^ m.val * 2 ^ m.val : Nat) : Int) / 2 := by decide +kernel
 exact this ⟨n, by omega⟩ h.1
set_option maxRecDepth 100000 in
theorem dm_last (n : Nat) (h : 1 ≤ n ∧ n ≤ 3) : (spreadOf (dmask n) ((2 ^ n * 2 ^ n : Nat) : Int)).1 = 1 := by
 have : ∀ m : Fin 4, 1 ≤ m.val → (spreadOf (dmask m.val) ((2 ^ m.val * 2 ^ m.val : Nat) : Int)).1 = 1 := by decide +kernel
 exact this ⟨n, by omega⟩ h.1
theorem spread_yes (l : List (List Int)) (a : Int) (hk : isMaskB l = true) (h : 2 ≤ a ∧ a ≤ ((l.length * l.length : Nat) : Int)) : (spreadOf l a).2 = true := by
 unfold spreadOf
 rw [if_pos hk, if_pos h]
theorem spread_mono (l : List (List Int)) (a b : Int) (hk : isMaskB l = true) (ha : 2 ≤ a) (hab : a ≤ b) (hb : b ≤ ((l.length * l.length : Nat) : Int)) : (spreadOf l b).1 ≤ (spreadOf l a).1 := by
 unfold spreadOf
 rw [if_pos hk, if_pos ⟨by omega, hb⟩, if_pos hk, if_pos ⟨ha, by omega⟩]
 obtain ⟨h1, h2⟩ := isMaskB_len hk
 have rows : ∀ a : Nat, a < l.length → (rda l (a : Int)).length = l.length := fun a ha => by
  unfold rda
  rw [Int.toNat_natCast, List.getD_eq_getElem?_getD, List.getElem?_eq_getElem ha]
  exact h2 _ (List.getElem_mem ha)
 refine outer_mono _ _ _ (pls_nodup _ _ _) (pls_nodup _ _ _) (fun p hp => ?_) _
 rw [mem_pls _ _ _ rows] at hp ⊢
 obtain ⟨i, k, hi, hk', hlt, e⟩ := hp
 exact ⟨i, k, hi, hk', by omega, e⟩
theorem shl_pow2 (n : Nat) (h : n ≤ 3) : shl .i64 1 (IntKind.u64.wrap (n : Int)) = ((2 ^ n : Nat) : Int) ∧ 0 ≤ IntKind.u64.wrap (n : Int) := by
 have : ∀ m : Fin 4, shl .i64 1 (IntKind.u64.wrap (m.val : Int)) = ((2 ^ m.val : Nat) : Int) ∧ 0 ≤ IntKind.u64.wrap (m.val : Int) := by decide +kernel
 exact this ⟨n, by omega⟩
theorem FnSpread : laws_FnSpread.Pure := by
 intro l0 l1 _ _ hu0 _ _ hu1
 apply ev_of
 unfold laws_FnSpread.f
 cases hl : laws_b10Long.f l0 l1 with
 | none => unfold laws_b10Long.f at hl; split at hl <;> simp at hl
 | some t =>
  simp only [Option.bind_some]
  cases t with
  | true => simp only [if_true]; exact Ev.now _
  | false =>
   simp only [Bool.false_eq_true, if_false]
   obtain ⟨o, e0, o1, o2⟩ := b10At_tells l0 0 3 hu0 (by omega) (by omega)
   obtain ⟨n, hn⟩ : ∃ n : Nat, 1 + o = n := ⟨(1 + o).toNat, by omega⟩
   have hw : wrap64 (1 + o) = (n : Int) := by rw [hn]; exact w64 (by omega) (by omega)
   have h13 : 1 ≤ n ∧ n ≤ 3 := by omega
   have hsh := shl_pow2 n h13.2
   have hk := dm_mask n h13.2
   have hlen := dm_len n h13.2
   have hsq : 4 ≤ 2 ^ n * 2 ^ n ∧ 2 ^ n * 2 ^ n ≤ 64 := by
    have : ∀ m : Fin 4, 1 ≤ m.val → 4 ≤ 2 ^ m.val * 2 ^ m.val ∧ 2 ^ m.val * 2 ^ m.val ≤ 64 := by decide
    exact this ⟨n, by omega⟩ h13.1
   obtain ⟨F, hF⟩ : ∃ F, (spreadOf (dmask n) 2).1 = F := ⟨_, rfl⟩
   obtain ⟨L, hL⟩ : ∃ L, (spreadOf (dmask n) ((2 ^ n * 2 ^ n : Nat) : Int)).1 = L := ⟨_, rfl⟩
   have first := dm_first n h13
   have last := dm_last n h13
   rw [hF] at first
   rw [hL] at last
   have FIRST := Aside0.mk first
   have LAST := Aside0.mk last
   have HF := Aside0.mk hF
   have HL := Aside0.mk hL
   clear hF hL
   have hN : (dmask n).length * (dmask n).length = 2 ^ n * 2 ^ n := by rw [hlen]
   have hww : wrap64 (((2 ^ n : Nat) : Int) * ((2 ^ n : Nat) : Int)) = ((2 ^ n * 2 ^ n : Nat) : Int) := by
    rw [← Int.natCast_mul]
    exact w64 (by omega) (by omega)
   simp only [e0, Option.bind_some, hw, hsh.1, hww, if_pos hsh.2]
   generalize 2 ^ n * 2 ^ n = S at hsq first last hN hww HL FIRST LAST
   have HN := Aside0.mk hN
   have hs4 : 4 ≤ (S : Int) := Int.ofNat_le.2 hsq.1
   have hs64 : (S : Int) ≤ 64 := Int.ofNat_le.2 hsq.2
   clear hN hww hsh hlen hsq hw first last
   have hS1 : wrap64 ((S : Int) - 1) = (S : Int) - 1 := w64 (by omega) (by omega)
   rw [hS1]
   obtain ⟨c, e1, c1, c2⟩ := b10At_tells l1 0 ((S : Int) - 1) hu1 (by omega) (by omega)
   have hc : wrap64 (2 + c) = 2 + c := w64 (by omega) (by omega)
   have b1 : 2 ≤ 2 + c := by omega
   have b2 : 2 + c ≤ (S : Int) := by omega
   have b5 : 2 ≤ (S : Int) := by omega
   have b3 : 2 + c ≤ (((dmask n).length * (dmask n).length : Nat) : Int) := by rw [HN.out]; exact b2
   have b4 : (S : Int) ≤ (((dmask n).length * (dmask n).length : Nat) : Int) := by rw [HN.out]; exact Int.le_refl _
   have b6 : (2 : Int) ≤ (((dmask n).length * (dmask n).length : Nat) : Int) := by rw [HN.out]; exact b5
   have hd : wrap64 (Int.tdiv (S : Int) 2) = (S : Int) / 2 := by
    rw [tdiv_nn (by omega)]
    exact w64 (by omega) (by omega)
   have m1 := spread_mono (dmask n) 2 (2 + c) hk (Int.le_refl _) b1 b3
   have m2 := spread_mono (dmask n) (2 + c) (S : Int) hk b1 b2 b4
   have y1 := spread_yes (dmask n) 2 hk ⟨Int.le_refl _, b6⟩
   have y2 := spread_yes (dmask n) (2 + c) hk ⟨b1, b3⟩
   have y3 := spread_yes (dmask n) (S : Int) hk ⟨b5, b4⟩
   refine Ev.bind (implDoubling_ev n h13.2) (Ev.bind (implSpread_ev (dmask n) 2) ?_)
   simp only [e1, Option.bind_some, hc]
   refine Ev.bind (implSpread_ev (dmask n) (2 + c)) (Ev.bind (implSpread_ev (dmask n) (S : Int)) ?_)
   rw [HF.out, FIRST.out] at m1
   rw [HL.out, LAST.out] at m2
   simp only [if_true, y1, y2, y3, HF.out, HL.out, FIRST.out, LAST.out, hd]
   simp only [if_pos m1, if_pos m2, beq_self_eq_true]
   exact Ev.now _
end Go.Proofs.Ytckonklpdepgoaa.Pure
