/- The statement FnDiffused, with all that its proof stands on: functions of the program as plain functions, the program's walks, and the plain law. Conditions: none beyond the statement's own. -/
import Derived.ArgAppend
import Derived.Below
import Derived.BigQuiet
import Derived.BigRegion
import Derived.Deep.AppendLies
import Derived.Deep.CutBlock
import Derived.Deep.DeepCutAuto
import Derived.Deep.Draws
import Derived.Deep.LoopGhost
import Derived.Deep.OwnRows
import Derived.Deep.QuietTactic
import Derived.Deep.RegionHeld3
import Derived.Ground.SlgnProg
import Derived.KernelRfl
import Derived.Laws.BitsLemmas
import Derived.Laws.BytesArg
import Derived.Laws.IdiomCopy
import Derived.Laws.MakeOwn
import Derived.Laws.OwnMore
import Derived.Laws.Rows
import Derived.Laws.Slices
import Derived.Lib.AppendStr
import Derived.Lib.ConvBytes
import Derived.Maps.AppendAt
import Derived.OrdersHeld
import Derived.OwnWalk
import Derived.ProofKit
import Derived.RowKit
import Derived.RowKit3
import Derived.Shelf.SlicesE.Clone
import Derived.Shelf.Small.Strs
import Derived.Shelf.Strings.Search1
import Derived.Sort.OwnSortedInts
import Derived.Tactics
import Derived.Test.YtpdkknfooblplaaProg
import Derived.WalkKit
import Derived.WideLaws
import Derived.Test.YtpdkknfooblplaaBFnDiffused2
import Derived.Test.YtpdkknfooblplaaBFnDiffused3
import Derived.Test.YtpdkknfooblplaaBFnDiffused6
import Derived.Test.YtpdkknfooblplaaBFnDiffused7
import Derived.Test.YtpdkknfooblplaaBFnDiffused8
set_option linter.unusedVariables false
set_option linter.unusedSimpArgs false
namespace Go.Proofs.Ytpdkknfooblplaa.Q
open Go.RowKit Go.Proofs.YtpdkknfooblplaaW.PrintWords Go.Proofs.YtpdkknfooblplaaW.PrintLast Go.Proofs.YtpdkknfooblplaaW.PrintMore
attribute [local go_sem] max2_int min2_int max_two min_two max_three min_three max_four min_four   -- for this text's walks alone
set_option linter.unusedVariables false
set_option linter.unusedSimpArgs false
def errW : Option Int → Value
 | none => .nilIface
 | some c => .iface 0 (.int .i64 c)
theorem errW_none : errW none = .nilIface := rfl
theorem errW_some (c : Int) : errW (some c) = .iface 0 (.int .i64 c) := rfl
theorem info2 : (Try.prog.info? 2).map (fun i => (i.zero, i.size, i.bytes)) = some (some (.int .i64 0), 1, 8) := by kernel_rfl
theorem info5 : (Try.prog.info? 5).map (fun i => (i.zero, i.size, i.bytes)) = some (some (.int .u8 0), 1, 1) := by kernel_rfl
theorem info58 : (Try.prog.info? 58).map (fun i => (i.zero, i.size, i.bytes)) = some (some (.slice none 0 0), 1, 24) := by kernel_rfl
theorem info79 : (Try.prog.info? 79).map (fun i => (i.zero, i.size, i.bytes)) = some (some (.agg #[(.int .i64 0), (.int .i64 0), (.int .i64 0)]), 3, 24) := by kernel_rfl
def rd_L1 (xs : List (List Int)) (i : Int) : (List Int) := xs.getD i.toNat ([] : List Int)
theorem at_L1 {w : World} {A : Option Addr} {n : Nat} {xs : List (List Int)} (h : Kd.C (Kd.slice 2 (Kd.int .i64)) w A n xs) (i : Int) (h0 : 0 ≤ i) (h1 : i < n) : ∃ ad A0 c0, A = some ad ∧ w.cell? (ad.add i.toNat) = some (.slice A0 (rd_L1 xs i).length c0) ∧ (rd_L1 xs i).length ≤ c0 ∧ (Kd.int .i64).C w A0 (rd_L1 xs i).length (rd_L1 xs i) := by
 obtain ⟨ad, c, e, _, hK, hc0⟩ := Kd.C_get h ([] : List Int) i h0 h1
 have hc : ∀ j u, c[j]? = some u → w.cell? (ad.add (i.toNat * 1 + j)) = some u := hc0
 obtain ⟨A0, c0, rfl, l0, g0⟩ := hK
 exact ⟨ad, A0, c0, e, by have hq := hc 0 _ rfl; rwa [Nat.mul_one, Nat.add_zero] at hq, l0, g0⟩
structure S96 where
 f0 : Int
 f1 : Int
 f2 : Int
def k96 : Kd S96 := Kd.iso (Kd.pair (Kd.int .i64) (Kd.pair (Kd.int .i64) (Kd.int .i64))) (fun x : S96 => (x.f0, x.f1, x.f2))
structure S79 where
 f0 : Int
 f1 : Int
 f2 : Int
def z79 : S79 := ⟨(0 : Int), (0 : Int), (0 : Int)⟩
def k79 : Kd S79 := Kd.iso (Kd.pair (Kd.int .i64) (Kd.pair (Kd.int .i64) (Kd.int .i64))) (fun x : S79 => (x.f0, x.f1, x.f2))
theorem k79_open {w : World} {x : S79} {cs : List Value} (h : k79.K w x cs) : cs = [.int .i64 x.f0, .int .i64 x.f1, .int .i64 x.f2] := by
 obtain ⟨_, _, rfl, rfl, ⟨_, _, rfl, rfl, rfl⟩⟩ := h
 exact rfl
theorem k79_openM {w : World} {base : Nat} {ok : Nat → Prop} {x : S79} {cs : List Value} (h : k79.M w base ok x cs) : cs = [.int .i64 x.f0, .int .i64 x.f1, .int .i64 x.f2] := by
 obtain ⟨_, _, rfl, rfl, ⟨_, _, rfl, rfl, rfl⟩⟩ := h
 exact rfl
theorem k79_mkM (w : World) (base : Nat) (ok : Nat → Prop) (x : S79)  : k79.M w base ok x [.int .i64 x.f0, .int .i64 x.f1, .int .i64 x.f2] := ⟨[.int .i64 x.f0], [.int .i64 x.f1, .int .i64 x.f2], rfl, rfl, ⟨[.int .i64 x.f1], [.int .i64 x.f2], rfl, rfl, rfl⟩⟩
def rd_T79 (xs : List S79) (i : Int) : S79 := xs.getD i.toNat z79
theorem at_T79 {w : World} {A : Option Addr} {n : Nat} {xs : List S79} (h : Kd.C k79 w A n xs) (i : Int) (h0 : 0 ≤ i) (h1 : i < n) : ∃ ad , A = some ad ∧ w.cell? (ad.add (i.toNat * 3)) = some (.int .i64 (rd_T79 xs i).f0) ∧ w.cell? ⟨(ad.add (i.toNat * 3)).block, (ad.add (i.toNat * 3)).off + 1, none⟩ = some (.int .i64 (rd_T79 xs i).f1) ∧ w.cell? ⟨(ad.add (i.toNat * 3)).block, (ad.add (i.toNat * 3)).off + 2, none⟩ = some (.int .i64 (rd_T79 xs i).f2) := by
 obtain ⟨ad, c, e, _, hK, hc0⟩ := Kd.C_get h z79 i h0 h1
 have hc : ∀ j u, c[j]? = some u → w.cell? (ad.add (i.toNat * 3 + j)) = some u := hc0
 obtain rfl := k79_open hK
 exact ⟨ad, e, hc 0 _ rfl, by rw [← add_field _ _ 1 (by omega)]; exact hc 1 _ rfl, by rw [← add_field _ _ 2 (by omega)]; exact hc 2 _ rfl⟩
theorem bk_ {P Q : Prop} (h : Aside0 Q) (f : Q → P := by intro h_; (with_reducible repeat (first | refine blk_drewN ?_ _ | refine blk_drew ?_ | refine blk_alloc ?_ _)); exact h_) : P := f h.out
theorem bl_ {P Q : Prop} (h : Aside0 Q) (f : Q → P := by intro h_; repeat (first | (with_reducible first | exact h_ | apply below_alloc | apply pw_below_drewN | apply below_drew1 | refine below_set ?_ (Aside0.out (by assumption))) | exact h_)) : P := f h.out
theorem kp_ {P Q : Prop} (h : Aside0 Q) (f : Q → P := by intro h_; repeat (first | (with_reducible first | exact h_ | apply KeepBut.set_ | apply keep_drewN | apply keep_drew | apply keep_alloc | refine keep_far ?_ (Aside0.out (by assumption)) _) | exact h_)) : P := f h.out
theorem rr_ {P Q : Prop} (h : Aside0 Q) (f : Q → P := by intro h_; (with_reducible repeat (first | apply Kd.R_alloc | apply Kd.R_drewN | apply Kd.R_drew)); exact h_) : P := f h.out
theorem ss_ {P Q : Prop} (h : Aside0 Q) (f : Q → P := by intro h_; (with_reducible repeat (first | apply Kd.S_alloc | apply Kd.S_drewN | apply Kd.S_drew)); exact h_) : P := f h.out
def bz_ (n b : Nat) : Array Bool := ((List.range n).map fun i => b.testBit i).toArray
end Go.Proofs.Ytpdkknfooblplaa.Q
namespace Go.Proofs.Ytpdkknfooblplaa.Q
open Go.RowKit Go.Proofs.YtpdkknfooblplaaW.PrintWords Go.Proofs.YtpdkknfooblplaaW.PrintLast Go.Proofs.YtpdkknfooblplaaW.PrintMore
attribute [local go_sem] max2_int min2_int max_two min_two max_three min_three max_four min_four   -- for this text's walks alone
set_option linter.unusedVariables false
set_option linter.unusedSimpArgs false
def impl_size_int64_50.f (l0 : List (List Int)) : Option (Int) := some (l0.length : Int)
set_option maxHeartbeats 8000000 in
set_option maxRecDepth 100000 in
theorem impl_size_int64_50.calls (A0 : Option Addr) (c0 : Nat) (l0 : List (List Int)) (r : Int) (w : World) (hr0 : Kd.C (Kd.slice 2 (Kd.int .i64)) w A0 l0.length l0) (hc0 : l0.length ≤ c0) (h : impl_size_int64_50.f l0 = some r) :
  Calls Try.prog 50 #[.slice A0 l0.length c0] w fun e w' => e = .returned (.int .i64 r) ∧ Drawn0 w w' := by
 have HR0 := Aside0.mk hr0
 have HC0 := Aside0.mk hc0
 clear hr0 hc0
 have H : (some (l0.length : Int)) = some r := h
 clear h
 obtain rfl := Option.some.inj H
 go_enter Try.func50, Try.ntmps50
 go_wp2
 go_ret
 exact ⟨by first | rfl | (simp; done) | (simp [*]; done), by repeat (first | exact Drawn0.refl _ | apply Drawn0.step)⟩
def impl_size_int64_51.f (l0 : List Int) : Option (Int) := some (l0.length : Int)
set_option maxHeartbeats 8000000 in
set_option maxRecDepth 100000 in
theorem impl_size_int64_51.calls (A0 : Option Addr) (c0 : Nat) (l0 : List Int) (r : Int) (w : World) (hr0 : Kd.C (Kd.int .i64) w A0 l0.length l0) (hc0 : l0.length ≤ c0) (h : impl_size_int64_51.f l0 = some r) :
  Calls Try.prog 51 #[.slice A0 l0.length c0] w fun e w' => e = .returned (.int .i64 r) ∧ Drawn0 w w' := by
 have HR0 := Aside0.mk hr0
 have HC0 := Aside0.mk hc0
 clear hr0 hc0
 have H : (some (l0.length : Int)) = some r := h
 clear h
 obtain rfl := Option.some.inj H
 go_enter Try.func51, Try.ntmps51
 go_wp2
 go_ret
 exact ⟨by first | rfl | (simp; done) | (simp [*]; done), by repeat (first | exact Drawn0.refl _ | apply Drawn0.step)⟩
def impl_within.f (a0 : Int) (a1 : Int) (a2 : Int) : Option (Bool) := if a1 ≤ a0 then (some (decide (a0 ≤ a2))) else (some false)
set_option maxHeartbeats 8000000 in
set_option maxRecDepth 100000 in
theorem impl_within.calls (a0 : Int) (a1 : Int) (a2 : Int) (r : Bool) (w : World) (h : impl_within.f a0 a1 a2 = some r) :
  Calls Try.prog 55 #[.int .i64 a0, .int .i64 a1, .int .i64 a2] w fun e w' => e = .returned (.bool r) ∧ Drawn0 w w' := by
 have H : (if a1 ≤ a0 then (some (decide (a0 ≤ a2))) else (some false)) = some r := h
 clear h
 by_cases c4 : a1 ≤ a0
 ·rw [if_pos c4] at H
  have c4b0 : decide (a1 ≤ a0) = true := decide_eq_true c4
  clear c4
  obtain rfl := Option.some.inj H
  go_enter Try.func55, Try.ntmps55
  go_wp2
  go_ret
  exact ⟨by first | rfl | (simp; done) | (simp [*]; done), by repeat (first | exact Drawn0.refl _ | apply Drawn0.step)⟩
 ·rw [if_neg c4] at H
  have c4b0 : decide (a1 ≤ a0) = false := decide_eq_false c4
  clear c4
  obtain rfl := Option.some.inj H
  go_enter Try.func55, Try.ntmps55
  go_wp2
  go_ret
  exact ⟨by first | rfl | (simp; done) | (simp [*]; done), by repeat (first | exact Drawn0.refl _ | apply Drawn0.step)⟩
def rws_idxf {α : Type} (p : α → Bool) (l : List α) : Int := match l.findIdx? p with | some i => (i : Int) | none => -1
theorem rws_idxf_hit {α : Type} {p : α → Bool} {l : List α} {k : Nat} (hk : k < l.length) (h : p l[k] = true) (hb : ∀ j (hj : j < l.length), j < k → p l[j] = false) : rws_idxf p l = k := by
 unfold rws_idxf
 have : l.findIdx? p = some k := List.findIdx?_eq_some_iff_getElem.2 ⟨hk, h, fun j hj => by simp [hb j (by omega) hj]⟩
 rw [this]
theorem rws_idxf_miss {α : Type} {p : α → Bool} {l : List α} (hb : ∀ j (hj : j < l.length), p l[j] = false) : rws_idxf p l = -1 := by
 unfold rws_idxf
 have : l.findIdx? p = none := List.findIdx?_eq_none_iff.2 (fun x hx => by obtain ⟨j, hj, rfl⟩ := List.getElem_of_mem hx; exact hb j hj)
 rw [this]
theorem rws_idxf_any {α : Type} (p : α → Bool) (l : List α) : decide (rws_idxf p l ≥ 0) = l.any p := by
 unfold rws_idxf
 cases h : l.findIdx? p with
 | none =>
  have := List.findIdx?_eq_none_iff.1 h
  simp only [show ¬ ((-1 : Int) ≥ 0) by omega, decide_false]
  symm
  rw [List.any_eq_false]
  intro x hx
  simp [this x hx]
 | some i =>
  have := List.findIdx?_eq_some_iff_getElem.1 h
  obtain ⟨hi, h1, _⟩ := this
  have h2 : l.any p = true := List.any_eq_true.2 ⟨l[i], List.getElem_mem hi, h1⟩
  rw [h2]
  simp
set_option maxHeartbeats 2000000 in
theorem rws_ixf (g : Nat) (lb : Array Value) (eg : ∀ args w, (callFunc g args).run Try.prog w = .ok (.enter g args) w) (p : List Int → Bool) (A0 : Option Addr) (c0 : Nat) (l0 : List (List Int)) (w : World) (hr : Kd.C (Kd.slice 2 (Kd.int .i64)) w A0 l0.length l0)
  (hp : ∀ (x : List Int) (A : Option Addr) (c : Nat) (w1 : World), Below w.heap.size w w1 → x.length ≤ c → Kd.C (Kd.int .i64) w1 A x.length x → Calls Try.prog g (#[.slice A x.length c] ++ lb) w1 fun e w' => e = .returned (.bool (p x)) ∧ Below w1.heap.size w1 w') :
  Calls Try.prog 85 #[.slice A0 l0.length c0, .func (.func g) #[] lb] w fun e w' => e = .returned (.int .i64 (rws_idxf p l0)) ∧ Below w.heap.size w w' := by
 have hbig : l0.length ≤ 9223372036854775807 := hr.2.1
 have HR := Aside0.mk hr
 clear hr
 go_enter Try.func85, Try.ntmps85
 go_wp2
 go_loopg [5, 8] l0.length (fun gg _ s8 wr => ∃ kk : Nat, kk ≤ l0.length ∧ l0.length - kk ≤ gg ∧ s8 = .int .i64 kk ∧ Aside0 (Below w.heap.size w wr) ∧ Aside0 (∀ j (hj : j < l0.length), j < kk → p l0[j] = false))
 case atStart => exact ⟨0, Nat.zero_le _, by omega, rfl, ⟨Below.refl _ _⟩, ⟨fun j hj h => absurd h (Nat.not_lt_zero _)⟩⟩
 case round =>
  obtain ⟨kk, hkk, hg, rfl, HB, A⟩ := hrel
  by_cases hlt : kk < l0.length
  ·have hltz : (kk : Int) < (l0.length : Int) := by omega
   have HC := Kd.C_below HR.out HB.out
   obtain ⟨ad, rfl, hcs⟩ := HC.2.2 (by omega)
   obtain ⟨cs, hl1, hk1, hc1⟩ := hcs kk _ (List.getElem?_eq_getElem hlt)
   obtain ⟨A1, c1, rfl, hlc, hcr⟩ := hk1
   have hcell := hc1 0 _ rfl
   simp only [show (Kd.slice 2 (Kd.int .i64)).sz = 1 from rfl, Nat.mul_one, Nat.add_zero] at hcell
   have HCR := Aside0.mk hcr
   have HLC := Aside0.mk hlc
   clear hcs hc1 hl1 hcr hlc HC
   generalize hy : l0[kk] = y at hcell HCR HLC
   have B := Aside0.mk hy
   clear hy
   cases hq : p y with
   | true =>
    go_wp2_with fail
    refine (hp y A1 c1 _ HB.out HLC.out HCR.out).mono ?_
    rintro e w' ⟨rfl, hb⟩
    rw [hq]
    have HB2 := Aside0.mk (below_then HB.out HB.out.size hb)
    go_wp2
    go_ret
    exact ⟨by rw [rws_idxf_hit hlt (by rw [B.out]; exact hq) A.out]; rfl, by first | exact HB2.out | exact pw_below_drewN HB2.out _⟩
   | false =>
    go_wp2_with fail
    refine (hp y A1 c1 _ HB.out HLC.out HCR.out).mono ?_
    rintro e w' ⟨rfl, hb⟩
    rw [hq]
    have HB2 := Aside0.mk (below_then HB.out HB.out.size hb)
    go_wp2
    go_roundg (l0.length - (kk + 1))
    case measure => omega
    case rel =>
     refine ⟨kk + 1, by omega, by omega, by go_num, ⟨by first | exact HB2.out | exact pw_below_drewN HB2.out _⟩, ⟨fun j hj h => ?_⟩⟩
     by_cases e : j = kk
     ·subst e
      rw [B.out]; exact hq
     ·exact A.out j hj (by omega)
  ·have hltz : ¬ (kk : Int) < (l0.length : Int) := by omega
   have : kk = l0.length := by omega
   subst this
   go_wp2
   go_ret
   exact ⟨by rw [rws_idxf_miss (fun j hj => A.out j hj hj)]; rfl, by first | exact HB.out | exact pw_below_drewN HB.out _⟩
end Go.Proofs.Ytpdkknfooblplaa.Q
namespace Go.Proofs.Ytpdkknfooblplaa.Q
open Go.RowKit Go.Proofs.YtpdkknfooblplaaW.PrintWords Go.Proofs.YtpdkknfooblplaaW.PrintLast Go.Proofs.YtpdkknfooblplaaW.PrintMore
attribute [local go_sem] max2_int min2_int max_two min_two max_three min_three max_four min_four   -- for this text's walks alone
set_option linter.unusedVariables false
set_option linter.unusedSimpArgs false
set_option maxHeartbeats 2000000 in
theorem rws_ctf (g : Nat) (lb : Array Value) (eg : ∀ args w, (callFunc g args).run Try.prog w = .ok (.enter g args) w) (p : List Int → Bool) (A0 : Option Addr) (c0 : Nat) (l0 : List (List Int)) (w : World) (hr : Kd.C (Kd.slice 2 (Kd.int .i64)) w A0 l0.length l0)
  (hp : ∀ (x : List Int) (A : Option Addr) (c : Nat) (w1 : World), Below w.heap.size w w1 → x.length ≤ c → Kd.C (Kd.int .i64) w1 A x.length x → Calls Try.prog g (#[.slice A x.length c] ++ lb) w1 fun e w' => e = .returned (.bool (p x)) ∧ Below w1.heap.size w1 w') :
  Calls Try.prog 79 #[.slice A0 l0.length c0, .func (.func g) #[] lb] w fun e w' => e = .returned (.bool (l0.any p)) ∧ Below w.heap.size w w' := by
 have HR := Aside0.mk hr
 clear hr
 rw [← rws_idxf_any]
 go_enter Try.func79, Try.ntmps79
 go_wp2_with (go_at_call 85; refine (rws_ixf g lb eg p A0 c0 l0 _ HR.out hp).mono ?_; rintro e w' ⟨rfl, hb⟩)
 go_ret
 exact ⟨rfl, by first | exact hb | exact pw_below_drewN hb _⟩
theorem i64_enters {f : FuncId} {fn : Func} {c : Code} (hf : Try.prog.funcs[f]? = some fn) (hname : (fn.name == "runtime.NumGoroutine") = false) (hb : fn.body = some c) (args : Array Value) (w : World) : (callFunc f args).run Try.prog w = .ok (.enter f args) w := by
 have h1 : fn.name ≠ "runtime.NumGoroutine" := by simpa using hname
 simp [callFunc, hf, h1, hb, mark]
def i64_idxf {α : Type} (p : α → Bool) (l : List α) : Int := match l.findIdx? p with | some i => (i : Int) | none => -1
theorem i64_idxf_hit {α : Type} {p : α → Bool} {l : List α} {k : Nat} (hk : k < l.length) (h : p l[k] = true) (hb : ∀ j (hj : j < l.length), j < k → p l[j] = false) : i64_idxf p l = k := by
 unfold i64_idxf
 have : l.findIdx? p = some k := List.findIdx?_eq_some_iff_getElem.2 ⟨hk, h, fun j hj => by simp [hb j (by omega) hj]⟩
 rw [this]
theorem i64_idxf_miss {α : Type} {p : α → Bool} {l : List α} (hb : ∀ j (hj : j < l.length), p l[j] = false) : i64_idxf p l = -1 := by
 unfold i64_idxf
 have : l.findIdx? p = none := List.findIdx?_eq_none_iff.2 (fun x hx => by obtain ⟨j, hj, rfl⟩ := List.getElem_of_mem hx; exact hb j hj)
 rw [this]
theorem i64_idxf_any {α : Type} (p : α → Bool) (l : List α) : decide (i64_idxf p l ≥ 0) = l.any p := by
 unfold i64_idxf
 cases h : l.findIdx? p with
 | none =>
  have := List.findIdx?_eq_none_iff.1 h
  simp only [show ¬ ((-1 : Int) ≥ 0) by omega, decide_false]
  symm
  rw [List.any_eq_false]
  intro x hx
  simp [this x hx]
 | some i =>
  have := List.findIdx?_eq_some_iff_getElem.1 h
  obtain ⟨hi, h1, _⟩ := this
  have h2 : l.any p = true := List.any_eq_true.2 ⟨l[i], List.getElem_mem hi, h1⟩
  rw [h2]
  simp
set_option maxHeartbeats 2000000 in
theorem i64_ixf (g : Nat) (lb : Array Value) (eg : ∀ args w, (callFunc g args).run Try.prog w = .ok (.enter g args) w) (p : Int → Bool) (A0 : Option Addr) (c0 : Nat) (l0 : List Int) (w : World) (hr : Kd.C (Kd.int .i64) w A0 l0.length l0)
  (hp : ∀ (x : Int) (q : Nat), Calls Try.prog g (#[.int .i64 x] ++ lb) (w.drewN q) fun e w' => e = .returned (.bool (p x)) ∧ ∃ q', w' = (w.drewN q).drewN q') :
  Calls Try.prog 89 #[.slice A0 l0.length c0, .func (.func g) #[] lb] w fun e w' => e = .returned (.int .i64 (i64_idxf p l0)) ∧ ∃ q, w' = w.drewN q := by
 have hbig : l0.length ≤ 9223372036854775807 := hr.2.1
 have HR := Aside0.mk hr
 clear hr
 go_enter Try.func89, Try.ntmps89
 go_wp2
 go_loopg [5, 8] l0.length (fun gg _ s8 wr => ∃ kk q : Nat, kk ≤ l0.length ∧ l0.length - kk ≤ gg ∧ s8 = .int .i64 kk ∧ wr = w.drewN q ∧ Aside0 (∀ j (hj : j < l0.length), j < kk → p l0[j] = false))
 case atStart => exact ⟨0, 0, Nat.zero_le _, by omega, rfl, rfl, ⟨fun j hj h => absurd h (Nat.not_lt_zero _)⟩⟩
 case round =>
  obtain ⟨kk, q, hkk, hg, rfl, rfl, A⟩ := hrel
  by_cases hlt : kk < l0.length
  ·have hltz : (kk : Int) < (l0.length : Int) := by omega
   obtain ⟨ad, rfl, hcs⟩ := HR.out.2.2 (by omega)
   obtain ⟨cs, hl1, hk1, hc1⟩ := hcs kk _ (List.getElem?_eq_getElem hlt)
   have hk2 : cs = [.int .i64 l0[kk]] := hk1
   subst hk2
   have hcell : w.cell? (ad.add kk) = some (.int .i64 l0[kk]) := by simpa [show (Kd.int .i64).sz = 1 from rfl] using hc1 0 _ rfl
   clear hcs hc1 hl1 hk1
   generalize hy : l0[kk] = y at hcell
   have B := Aside0.mk hy
   clear hy
   have hcall := hp y
   cases hq : p y with
   | true =>
    rw [hq] at hcall
    go_wp2_with fail
    refine (hcall _).mono ?_
    rintro e w' ⟨rfl, q', rfl⟩
    go_wp2
    go_ret
    exact ⟨by rw [i64_idxf_hit hlt (by rw [B.out]; exact hq) A.out]; rfl, _, rfl⟩
   | false =>
    rw [hq] at hcall
    go_wp2_with fail
    refine (hcall _).mono ?_
    rintro e w' ⟨rfl, q', rfl⟩
    go_wp2
    go_roundg (l0.length - (kk + 1))
    case measure => omega
    case rel =>
     refine ⟨kk + 1, _, by omega, by omega, by go_num, rfl, ⟨fun j hj h => ?_⟩⟩
     by_cases e : j = kk
     ·subst e
      rw [B.out]; exact hq
     ·exact A.out j hj (by omega)
  ·have hltz : ¬ (kk : Int) < (l0.length : Int) := by omega
   have : kk = l0.length := by omega
   subst this
   go_wp2
   go_ret
   exact ⟨by rw [i64_idxf_miss (fun j hj => A.out j hj hj)]; rfl, q, rfl⟩
set_option maxHeartbeats 2000000 in
theorem i64_ctf (g : Nat) (lb : Array Value) (eg : ∀ args w, (callFunc g args).run Try.prog w = .ok (.enter g args) w) (p : Int → Bool) (A0 : Option Addr) (c0 : Nat) (l0 : List Int) (w : World) (hr : Kd.C (Kd.int .i64) w A0 l0.length l0)
  (hp : ∀ (x : Int) (q : Nat), Calls Try.prog g (#[.int .i64 x] ++ lb) (w.drewN q) fun e w' => e = .returned (.bool (p x)) ∧ ∃ q', w' = (w.drewN q).drewN q') :
  Calls Try.prog 86 #[.slice A0 l0.length c0, .func (.func g) #[] lb] w fun e w' => e = .returned (.bool (l0.any p)) ∧ ∃ q, w' = w.drewN q := by
 have HR := Aside0.mk hr
 clear hr
 rw [← i64_idxf_any]
 go_enter Try.func86, Try.ntmps86
 go_wp2_with (go_at_call 89; refine (i64_ixf g lb eg p A0 c0 l0 _ HR.out hp).mono ?_; rintro e w' ⟨rfl, q, rfl⟩)
 go_ret
 exact ⟨rfl, q, rfl⟩
end Go.Proofs.Ytpdkknfooblplaa.Q
namespace Go.Proofs.Ytpdkknfooblplaa.Q
open Go.RowKit Go.Proofs.YtpdkknfooblplaaW.PrintWords Go.Proofs.YtpdkknfooblplaaW.PrintLast Go.Proofs.YtpdkknfooblplaaW.PrintMore
attribute [local go_sem] max2_int min2_int max_two min_two max_three min_three max_four min_four   -- for this text's walks alone
set_option linter.unusedVariables false
set_option linter.unusedSimpArgs false
def impl_areWithin.f (l0 : List Int) (a1 : Int) (a2 : Int) : Option (Bool) := some (l0.all fun x => decide (a1 ≤ x ∧ x ≤ a2))
theorem impl_within_tells (x a1 a2 : Int) : impl_within.f x a1 a2 = some (decide (a1 ≤ x ∧ x ≤ a2)) := by
  unfold impl_within.f
  split
  · simp [*]
  · simp [*]
set_option maxHeartbeats 2000000 in
theorem impl_areWithin.one (b1 b2 : Nat) (a1 a2 : Int) (x : Int) (w : World) (h1 : w.cell? ⟨b1, 0, none⟩ = some (.int .i64 a1)) (h2 : w.cell? ⟨b2, 0, none⟩ = some (.int .i64 a2)) :
   Calls Try.prog 87 (#[.int .i64 x] ++ #[.pointer (some ⟨b1, 0, none⟩), .pointer (some ⟨b2, 0, none⟩)]) w fun e w' => e = .returned (.bool (!decide (a1 ≤ x ∧ x ≤ a2))) ∧ ∃ q', w' = w.drewN q' := by
  have H := Aside0.mk (impl_within_tells x a1 a2)
  generalize decide (a1 ≤ x ∧ x ≤ a2) = b at H ⊢
  go_enter Try.func87, Try.ntmps87
  go_wp2_with (go_at_call 55; refine (impl_within.calls x a1 a2 b _ H.out).mono ?_; rintro e w' ⟨rfl, ⟨nd, rfl⟩⟩)
  go_ret
  exact ⟨rfl, _, rfl⟩
set_option maxHeartbeats 2000000 in
theorem impl_areWithin.calls (A0 : Option Addr) (c0 : Nat) (l0 : List Int) (a1 a2 : Int) (r : Bool) (w : World) (hr0 : Kd.C (Kd.int .i64) w A0 l0.length l0) (hc0 : l0.length ≤ c0) (h : impl_areWithin.f l0 a1 a2 = some r) :
    Calls Try.prog 81 #[.slice A0 l0.length c0, .int .i64 a1, .int .i64 a2] w fun e w' => e = .returned (.bool r) ∧ Below w.heap.size w w' := by
  obtain rfl := Option.some.inj h
  clear h hc0
  have eg : ∀ args w, (callFunc 87 args).run Try.prog w = .ok (.enter 87 args) w := i64_enters Try.func87 (by kernel_rfl) rfl
  have e : (l0.all fun x => decide (a1 ≤ x ∧ x ≤ a2)) = !(l0.any fun x => !decide (a1 ≤ x ∧ x ≤ a2)) := by simp [List.all_eq_not_any_not]
  rw [e]
  have HR := Aside0.mk hr0
  clear hr0 e
  have hp : ∃ p : Int → Bool, p = fun x => !decide (a1 ≤ x ∧ x ≤ a2) := ⟨_, rfl⟩
  obtain ⟨p, hp⟩ := hp
  rw [← hp]
  have HP := Aside0.mk hp
  clear hp
  go_enter Try.func81, Try.ntmps81
  go_wp2_with (go_at_call 86; refine (i64_ctf 87 _ eg p A0 c0 l0 _ (by have hb := ((Below.refl w.heap.size w).alloc (Nat.le_refl _) (.cells #[.int .i64 a1] 2 (0, 0))).alloc (by simp) (.cells #[.int .i64 a2] 2 (0, 0)); exact Kd.C_below HR.out hb) (fun x q => by rw [HP.out]; exact impl_areWithin.one _ _ a1 a2 x _ (by simp) (by simp))).mono ?_; rintro e w' ⟨rfl, q, rfl⟩)
  go_ret
  exact ⟨rfl, pw_below_drewN (((Below.refl w.heap.size w).alloc (Nat.le_refl _) _).alloc (by simp) _) _⟩
end Go.Proofs.Ytpdkknfooblplaa.Q
namespace Go.Proofs.Ytpdkknfooblplaa.Q
open Go.RowKit Go.Proofs.YtpdkknfooblplaaW.PrintWords Go.Proofs.YtpdkknfooblplaaW.PrintLast Go.Proofs.YtpdkknfooblplaaW.PrintMore
attribute [local go_sem] max2_int min2_int max_two min_two max_three min_three max_four min_four   -- for this text's walks alone
set_option linter.unusedVariables false
set_option linter.unusedSimpArgs false
theorem impl_areRows.lt_ {w : World} {a : Addr} {v : Value} (h : w.cell? a = some v) : a.block < w.heap.size := by
 cases hb : w.heap[a.block]? with
 | none =>
  unfold World.cell? at h
  rw [hb] at h
  simp at h
 | some x => exact (Array.getElem?_eq_some_iff.1 hb).1
def impl_areRows.p (m : Nat) (a1 : Int) (x : List Int) : Bool := decide (x.length ≠ m) || !(x.all fun z => decide (0 ≤ z ∧ z ≤ a1))
def impl_areRows.f (l0 : List (List Int)) (a1 : Int) : Option (Bool) := match l0 with
 | [] => some false
 | y :: _ => some (decide (l0.length ≤ 12) && decide (1 ≤ y.length ∧ y.length ≤ 12) && !(l0.any (impl_areRows.p y.length a1)))
set_option maxHeartbeats 2000000 in
theorem impl_areRows.one (b1 b2 : Nat) (ad : Addr) (c0 n : Nat) (hn : 0 < n) (A1 : Option Addr) (c1 m : Nat) (a1 : Int) (A : Option Addr) (c : Nat) (x : List Int) (w : World) (h1 : w.cell? ⟨b1, 0, none⟩ = some (.slice (some ad) n c0)) (h2 : w.cell? ⟨b2, 0, none⟩ = some (.int .i64 a1))
  (h3 : w.cell? ad = some (.slice A1 m c1)) (hlc : x.length ≤ c) (hx : Kd.C (Kd.int .i64) w A x.length x) :
  Calls Try.prog 80 (#[.slice A x.length c] ++ #[.pointer (some ⟨b1, 0, none⟩), .pointer (some ⟨b2, 0, none⟩)]) w fun e w' => e = .returned (.bool (impl_areRows.p m a1 x)) ∧ Below w.heap.size w w' := by
 have HX := Aside0.mk hx
 have HL := Aside0.mk hlc
 have hnz : (0 : Int) < (n : Int) := by omega
 clear hx hlc
 by_cases q : x.length = m
 ·have q1 : ((x.length : Int) == (m : Int)) = true := by simp [q]
  have q2 : ((x.length : Int) != (m : Int)) = false := by simp [q]
  have HQ := Aside0.mk q
  clear q
  go_enter Try.func80, Try.ntmps80
  go_wp2_with (go_at_call 81; refine (impl_areWithin.calls A c x 0 a1 _ _ (Kd.C_below HX.out (by first | exact Below.refl _ _ | exact pw_below_drewN (Below.refl _ _) _)) HL.out rfl).mono ?_; rintro e w' ⟨rfl, hb⟩)
  go_ret
  refine ⟨?_, ?_⟩
  ·simp [impl_areRows.p, HQ.out]
  ·first | exact hb | exact pw_below_drewN hb _ | exact below_then (pw_below_drewN (Below.refl _ _) _) (Nat.le_refl _) hb
 ·have q1 : ((x.length : Int) == (m : Int)) = false := by simp; omega
  have q2 : ((x.length : Int) != (m : Int)) = true := by simp; omega
  have HQ := Aside0.mk q
  clear q
  go_enter Try.func80, Try.ntmps80
  go_wp2
  go_ret
  refine ⟨?_, ?_⟩
  ·simp [impl_areRows.p, HQ.out]
  ·first | exact Below.refl _ _ | exact pw_below_drewN (Below.refl _ _) _
set_option maxHeartbeats 4000000 in
theorem impl_areRows.calls (A0 : Option Addr) (c0 : Nat) (l0 : List (List Int)) (a1 : Int) (r : Bool) (w : World) (hr0 : Kd.C (Kd.slice 2 (Kd.int .i64)) w A0 l0.length l0) (hc0 : l0.length ≤ c0) (h : impl_areRows.f l0 a1 = some r) :
  Calls Try.prog 63 #[.slice A0 l0.length c0, .int .i64 a1] w fun e w' => e = .returned (.bool r) ∧ Below w.heap.size w w' := by
 have eg : ∀ args w, (callFunc 80 args).run Try.prog w = .ok (.enter 80 args) w := i64_enters Try.func80 (by kernel_rfl) rfl
 have HR := Aside0.mk hr0
 have HC0 := Aside0.mk hc0
 have H1 := Aside0.mk (impl_within_tells (l0.length : Int) 1 12)
 have up : ∀ o1 o2, Below w.heap.size w ((w.alloc o1).alloc o2) := fun o1 o2 => below_alloc (below_alloc (Below.refl _ _) o1) o2
 cases l0 with
 | nil =>
  have e : r = false := by
   have h' : some false = some r := h
   injection h' with h'; exact h'.symm
  subst e
  clear hr0 hc0 h
  have H1' := Aside0.mk (show impl_within.f (([] : List (List Int)).length : Int) 1 12 = some false from H1.out)
  clear H1
  have UP := Aside0.mk up
  clear up
  go_enter Try.func63, Try.ntmps63
  go_wp2_with (first | (go_at_call 50; refine (impl_size_int64_50.calls A0 c0 [] _ _ (Kd.C_below HR.out (by repeat (first | exact UP.out _ _ | apply pw_below_drewN))) HC0.out rfl).mono ?_; rintro e w' ⟨rfl, ⟨nd, rfl⟩⟩) | (go_at_call 55; refine (impl_within.calls _ _ _ _ _ H1'.out).mono ?_; rintro e w' ⟨rfl, ⟨nd, rfl⟩⟩))
  go_ret
  exact ⟨rfl, by repeat (first | exact UP.out _ _ | apply pw_below_drewN)⟩
 | cons y ys =>
  have hl : (y :: ys).length = ys.length + 1 := rfl
  have er : r = (decide ((y :: ys).length ≤ 12) && decide (1 ≤ y.length ∧ y.length ≤ 12) && !((y :: ys).any (impl_areRows.p y.length a1))) := by
   have h' : some (decide ((y :: ys).length ≤ 12) && decide (1 ≤ y.length ∧ y.length ≤ 12) && !((y :: ys).any (impl_areRows.p y.length a1))) = some r := h
   injection h' with h'; exact h'.symm
  have hr1 := Kd.C_below hr0 (up (.cells #[.slice A0 (y :: ys).length c0] 22 (0, 0)) (.cells #[.int .i64 a1] 2 (0, 0)))
  obtain ⟨ad, rfl, hcs⟩ := hr1.2.2 (by rw [hl]; omega)
  obtain ⟨cs, _, ⟨A1, c1, rfl, hlc, hcr⟩, hc1⟩ := hcs 0 y rfl
  have hcell := hc1 0 _ rfl
  simp only [show (Kd.slice 2 (Kd.int .i64)).sz = 1 from rfl, Nat.mul_one, Nat.add_zero, show ad.add 0 = ad by cases ad; simp [Addr.add]] at hcell
  have HCR := Aside0.mk hcr
  have HLC := Aside0.mk hlc
  have H2 := Aside0.mk (impl_within_tells (y.length : Int) 1 12)
  have HR1 := Aside0.mk hr1
  clear hcs hc1 hcr hlc hr0 hc0 h hr1 HR
  have UP := Aside0.mk up
  clear up
  have hnz : (0 : Int) < ((y :: ys).length : Int) := by rw [hl]; omega
  have hnz' : 0 < (y :: ys).length := by rw [hl]; omega
  have ER := Aside0.mk er
  clear er hl
  have AL : (y :: ys) = (y :: ys) := rfl
  generalize hL : y :: ys = L at hcell hnz hnz' HR1 HCR HC0 H1 ER ⊢
  have HLL := Aside0.mk hL
  clear hL AL
  by_cases q1 : L.length ≤ 12
  ·have H1' : Aside0 (impl_within.f (L.length : Int) 1 12 = some true) := ⟨H1.out.trans (by rw [decide_eq_true (show 1 ≤ (L.length : Int) ∧ (L.length : Int) ≤ 12 by omega)])⟩
   by_cases q2 : 1 ≤ y.length ∧ y.length ≤ 12
   ·have H2' : Aside0 (impl_within.f (y.length : Int) 1 12 = some true) := ⟨H2.out.trans (by rw [decide_eq_true (show 1 ≤ (y.length : Int) ∧ (y.length : Int) ≤ 12 by omega)])⟩
    have ER' : r = !(L.any (impl_areRows.p y.length a1)) := by rw [ER.out, decide_eq_true q1, decide_eq_true q2]; rfl
    subst ER'
    clear q1 q2 H1 H2 ER
    have HLT := Aside0.mk (impl_areRows.lt_ hcell)
    generalize hp : impl_areRows.p y.length a1 = p
    have HP := Aside0.mk hp
    clear hp
    go_enter Try.func63, Try.ntmps63
    go_wp2_with (first
     | (go_at_call 50; refine (impl_size_int64_50.calls (some ad) c0 L _ _ (Kd.C_below HR1.out (by repeat (first | exact Below.refl _ _ | apply pw_below_drewN))) HC0.out rfl).mono ?_; rintro e w' ⟨rfl, ⟨nd, rfl⟩⟩)
     | (go_at_call 51; refine (impl_size_int64_51.calls A1 c1 y _ _ (Kd.C_below HCR.out (by repeat (first | exact Below.refl _ _ | apply pw_below_drewN))) HLC.out rfl).mono ?_; rintro e w' ⟨rfl, ⟨nd2, rfl⟩⟩)
     | (go_at_call 55; refine (impl_within.calls _ _ _ true _ (by with_reducible first | exact H1'.out | exact H2'.out)).mono ?_; rintro e w' ⟨rfl, ⟨nd3, rfl⟩⟩)
     | (go_at_call 79; refine (rws_ctf 80 _ eg p (some ad) c0 L _ (Kd.C_below HR1.out (by repeat (first | exact Below.refl _ _ | apply pw_below_drewN))) (fun x A c w1 hb hc hx => by rw [← HP.out]; exact impl_areRows.one _ _ ad c0 L.length hnz' A1 c1 y.length a1 A c x w1 (by rw [Below.cell hb (by simp <;> omega)]; simp) (by rw [Below.cell hb (by simp <;> omega)]; simp) (by rw [Below.cell hb (by have := HLT.out; simp at this ⊢; omega)]; simp [hcell]) hc hx)).mono ?_; rintro e w' ⟨rfl, hb⟩))
    go_ret
    exact ⟨rfl, by first | exact below_then (by repeat (first | exact UP.out _ _ | apply pw_below_drewN)) (by simp <;> omega) hb | exact pw_below_drewN (below_then (by repeat (first | exact UP.out _ _ | apply pw_below_drewN)) (by simp <;> omega) hb) _⟩
   ·have H2' : Aside0 (impl_within.f (y.length : Int) 1 12 = some false) := ⟨H2.out.trans (by rw [decide_eq_false (show ¬ (1 ≤ (y.length : Int) ∧ (y.length : Int) ≤ 12) by omega)])⟩
    have ER' : r = false := by rw [ER.out, decide_eq_false q2]; simp
    subst ER'
    clear ER q1 q2 H1 H2
    go_enter Try.func63, Try.ntmps63
    go_wp2_with (first
     | (go_at_call 50; refine (impl_size_int64_50.calls (some ad) c0 L _ _ (Kd.C_below HR1.out (by repeat (first | exact Below.refl _ _ | apply pw_below_drewN))) HC0.out rfl).mono ?_; rintro e w' ⟨rfl, ⟨nd, rfl⟩⟩)
     | (go_at_call 51; refine (impl_size_int64_51.calls A1 c1 y _ _ (Kd.C_below HCR.out (by repeat (first | exact Below.refl _ _ | apply pw_below_drewN))) HLC.out rfl).mono ?_; rintro e w' ⟨rfl, ⟨nd2, rfl⟩⟩)
     | (go_at_call 55; refine (impl_within.calls _ _ _ true _ (by with_reducible exact H1'.out)).mono ?_; rintro e w' ⟨rfl, ⟨nd3, rfl⟩⟩)
     | (go_at_call 55; refine (impl_within.calls _ _ _ false _ (by with_reducible exact H2'.out)).mono ?_; rintro e w' ⟨rfl, ⟨nd4, rfl⟩⟩))
    go_ret
    exact ⟨rfl, by repeat (first | exact UP.out _ _ | apply pw_below_drewN)⟩
  ·have H1' : Aside0 (impl_within.f (L.length : Int) 1 12 = some false) := ⟨H1.out.trans (by rw [decide_eq_false (show ¬ (1 ≤ (L.length : Int) ∧ (L.length : Int) ≤ 12) by omega)])⟩
   have H2' := H1'
   have ER' : r = false := by rw [ER.out, decide_eq_false q1]; simp
   subst ER'
   clear ER q1 H1 H2
   go_enter Try.func63, Try.ntmps63
   go_wp2_with (first
    | (go_at_call 50; refine (impl_size_int64_50.calls (some ad) c0 L _ _ (Kd.C_below HR1.out (by repeat (first | exact Below.refl _ _ | apply pw_below_drewN))) HC0.out rfl).mono ?_; rintro e w' ⟨rfl, ⟨nd, rfl⟩⟩)
    | (go_at_call 51; refine (impl_size_int64_51.calls A1 c1 y _ _ (Kd.C_below HCR.out (by repeat (first | exact Below.refl _ _ | apply pw_below_drewN))) HLC.out rfl).mono ?_; rintro e w' ⟨rfl, ⟨nd2, rfl⟩⟩)
    | (go_at_call 55; refine (impl_within.calls _ _ _ false _ (by with_reducible exact H1'.out)).mono ?_; rintro e w' ⟨rfl, ⟨nd3, rfl⟩⟩)
    | (go_at_call 55; refine (impl_within.calls _ _ _ false _ (by with_reducible exact H2'.out)).mono ?_; rintro e w' ⟨rfl, ⟨nd4, rfl⟩⟩))
   go_ret
   exact ⟨rfl, by repeat (first | exact UP.out _ _ | apply pw_below_drewN)⟩
end Go.Proofs.Ytpdkknfooblplaa.Q
namespace Go.Proofs.Ytpdkknfooblplaa.Q
open Go.RowKit Go.Proofs.YtpdkknfooblplaaW.PrintWords Go.Proofs.YtpdkknfooblplaaW.PrintLast Go.Proofs.YtpdkknfooblplaaW.PrintMore
attribute [local go_sem] max2_int min2_int max_two min_two max_three min_three max_four min_four   -- for this text's walks alone
set_option linter.unusedVariables false
set_option linter.unusedSimpArgs false
mutual
def impl_DotsText.l0 : Nat → List Int → List (List Int) → Int → Int → Option (ByteArray × Bool)
 | 0, _, _, _, _ => none
 | k + 1, x4, x13, x14, x15 => if x15 < x14 then (if 0 ≤ x15 then (if x15 < (x13.length : Int) then (impl_DotsText.l1 k x4 x13 x14 x15 (rd_L1 x13 x15) ((rd_L1 x13 x15).length : Int) 0) else (none)) else (none)) else (some (strOfNums x4, true))
def impl_DotsText.l1 : Nat → List Int → List (List Int) → Int → Int → List Int → Int → Int → Option (ByteArray × Bool)
 | 0, _, _, _, _, _, _, _ => none
 | k + 1, x4, x13, x14, x15, x19, x20, x21 => if x21 < x20 then (if 0 ≤ x21 then (if x21 < (x19.length : Int) then (if 0 ≤ (rd x19 x21) then (if (rd x19 x21) < 2 then (if x4.length < 140737488355328 then (impl_DotsText.l1 k (x4 ++ [bt (⟨#[46, 35]⟩ : ByteArray) (rd x19 x21)]) x13 x14 x15 x19 x20 (wrap64 (x21 + 1))) else (none)) else (none)) else (none)) else (none)) else (none)) else (if x4.length < 140737488355328 then (impl_DotsText.l0 k (x4 ++ [10]) x13 x14 (wrap64 (x15 + 1))) else (none))
end
def impl_DotsText.f (k : Nat) (l0 : List (List Int)) : Option (ByteArray × Bool) := (impl_areRows.f l0 1).bind fun t128 => (if t128 = true then (impl_DotsText.l0 k (([] : List Int)) l0 (l0.length : Int) 0) else (some ((⟨#[]⟩ : ByteArray), false)))
theorem impl_DotsText.mono_l : ∀ k, (∀ y0 y1 y2 y3, LeO (impl_DotsText.l0 k y0 y1 y2 y3) (impl_DotsText.l0 (k + 1) y0 y1 y2 y3)) ∧ (∀ y0 y1 y2 y3 y4 y5 y6, LeO (impl_DotsText.l1 k y0 y1 y2 y3 y4 y5 y6) (impl_DotsText.l1 (k + 1) y0 y1 y2 y3 y4 y5 y6))
 | 0 => ⟨fun _ _ _ _ r h => by simp [impl_DotsText.l0] at h, fun _ _ _ _ _ _ _ r h => by simp [impl_DotsText.l1] at h⟩
 | k + 1 => by
  obtain ⟨ih0, ih1⟩ := impl_DotsText.mono_l k
  refine ⟨?_, ?_⟩
  ·intro y0 y1 y2 y3
   unfold impl_DotsText.l0
   repeat' first
   | (with_reducible exact ih0 _ _ _ _)
   | (with_reducible exact ih1 _ _ _ _ _ _ _)
   | (with_reducible exact LeO.refl _)
   | (with_reducible exact LeO.none _)
   | (with_reducible refine LeO.ite ?_ ?_)
   | (with_reducible refine LeO.bind ?_ (fun _ => ?_))
   | exact ih0 _ _ _ _
   | exact ih1 _ _ _ _ _ _ _
   | exact LeO.none _
   | refine LeO.ite ?_ ?_
   | refine LeO.bind ?_ (fun _ => ?_)
  ·intro y0 y1 y2 y3 y4 y5 y6
   unfold impl_DotsText.l1
   repeat' first
   | (with_reducible exact ih0 _ _ _ _)
   | (with_reducible exact ih1 _ _ _ _ _ _ _)
   | (with_reducible exact LeO.refl _)
   | (with_reducible exact LeO.none _)
   | (with_reducible refine LeO.ite ?_ ?_)
   | (with_reducible refine LeO.bind ?_ (fun _ => ?_))
   | exact ih0 _ _ _ _
   | exact ih1 _ _ _ _ _ _ _
   | exact LeO.none _
   | refine LeO.ite ?_ ?_
   | refine LeO.bind ?_ (fun _ => ?_)
theorem impl_DotsText.mono : ∀ a0 k, LeO (impl_DotsText.f k a0) (impl_DotsText.f (k + 1) a0) := by
 intro a0 k
 obtain ⟨ih0, ih1⟩ := impl_DotsText.mono_l k
 unfold impl_DotsText.f
 repeat' first
   | (with_reducible exact ih0 _ _ _ _)
   | (with_reducible exact ih1 _ _ _ _ _ _ _)
   | (with_reducible exact LeO.refl _)
   | (with_reducible exact LeO.none _)
   | (with_reducible refine LeO.ite ?_ ?_)
   | (with_reducible refine LeO.bind ?_ (fun _ => ?_))
   | exact ih0 _ _ _ _
   | exact ih1 _ _ _ _ _ _ _
   | exact LeO.none _
   | refine LeO.ite ?_ ?_
   | refine LeO.bind ?_ (fun _ => ?_)
set_option maxHeartbeats 8000000 in
set_option maxRecDepth 100000 in
theorem impl_DotsText.calls (k : Nat) (A0 : Option Addr) (c0 : Nat) (l0 : List (List Int)) (r1 : ByteArray) (r2 : Bool) (w : World) (hr0 : Kd.C (Kd.slice 2 (Kd.int .i64)) w A0 l0.length l0) (hc0 : l0.length ≤ c0) (h : impl_DotsText.f k l0 = some (r1, r2)) :
  Calls Try.prog 25 #[.slice A0 l0.length c0] w fun e w' => e = .returned (.tuple #[.string r1, .bool r2]) ∧ Below w.heap.size w w' := by
 have HR0 := Aside0.mk hr0
 have HC0 := Aside0.mk hc0
 clear hr0 hc0
 have HB := Aside0.mk (Below.refl w.heap.size w)
 have H : ((impl_areRows.f l0 1).bind fun t128 => (if t128 = true then (impl_DotsText.l0 k (([] : List Int)) l0 (l0.length : Int) 0) else (some ((⟨#[]⟩ : ByteArray), false)))) = some (r1, r2) := h
 clear h
 replace H := Option.bind_eq_some_iff.mp H
 obtain ⟨t128, A20, H⟩ := H
 replace H : (if t128 = true then (impl_DotsText.l0 k (([] : List Int)) l0 (l0.length : Int) 0) else (some ((⟨#[]⟩ : ByteArray), false))) = some (r1, r2) := H
 have A2 := Aside0.mk A20
 clear A20
 by_cases c3 : t128 = true
 ·subst c3
  have H1 : (impl_DotsText.l0 k (([] : List Int)) l0 (l0.length : Int) 0) = some (r1, r2) := by rw [if_pos rfl] at H; exact H
  clear H
  have H := H1
  clear H1
  obtain ⟨y129, hy129⟩ : ∃ y_ : List Int, y_ = (([] : List Int)) := ⟨_, rfl⟩
  replace H : (impl_DotsText.l0 k y129 l0 (l0.length : Int) 0) = some (r1, r2) := by first | (rw [hy129]; with_reducible exact H) | (have H2_ := (Option.bind_some _ _).symm.trans H; rw [hy129]; with_reducible exact H2_) | (have H2_ := (Option.bind_some _ _).symm.trans H; with_reducible exact H2_) | with_reducible exact H | (rw [hy129]; exact H) | exact H
  have Ny129 := Aside0.mk hy129
  clear hy129
  have H' := Aside0.mk H
  clear H
  go_enter Try.func25, Try.ntmps25
  go_wp2_with (first | ((with_reducible refine gate_callee (f := 63) rfl ?_); refine goesL_ (some 10) rfl rfl Try.func63 (by kernel_rfl) rfl #[.slice A0 l0.length c0, .int .i64 1] rfl (by (try simp only [List.map_toArray, List.map_cons, List.map_nil]); first | done | rfl | (simp only [List.length_drop, List.length_take]; rfl) | (simp only [show ∀ (n_ : Nat) (b_ : Int), Int.tdiv (n_ : Int) b_ = (n_ : Int) / b_ from fun n_ b_ => Int.tdiv_eq_ediv_of_nonneg (Int.natCast_nonneg n_)]; rfl)) ?_; (with_reducible refine (impl_areRows.calls _ _ l0 1 true _ ?side1 ?side2 A2.out).mono ?_); (case side1 => repeat (first | exact HR0.out | (with_reducible refine Kd.C_alloc ?_ _) | (with_reducible refine Kd.C_drewN ?_ _) | (with_reducible refine Kd.C_drew ?_))); (case side2 => exact HC0.out); rintro e w4 ⟨rfl, hb⟩; refine ⟨_, rfl, ?_⟩; have n0_ := Aside0.mk (below_step (bl_ HB) hb); clear HB; have HB := n0_; clear n0_; (try clear hb); (try clear hb2); (try clear hk); (try clear hi)) | ((with_reducible refine gate_dst (N := 12) rfl ?_); refine Kd.R_lit (Kd.int .u8) _ 5 ?hg (N := 12) ?hd (xs := ([] : List Int)) (inner := []) (ok := fun _ => True) (okp := fun _ => True) ?hr ?hp (fun _ hk => hk) trivial (Below.refl _ _) (Nat.le_refl _) (by simp) ?_; (case hd => rfl); (case hg => rfl); (case hr => first | (go_simp; done) | (go_simp; rfl)); (case hp => exact (Reps.none _ _)); intro v130 w5 ho6 hb hg_ hnew_; clear hg_ hnew_; (first | rw [← Ny129.out] at ho6 | (simp only [Int.reduceToNat] at ho6; rw [← Ny129.out] at ho6)); have n0_ := Aside0.mk (Kd.R_lower ho6 (below_size (bl_ HB))); have n1_ := Aside0.mk (below_step (bl_ HB) hb); clear HB; have HO131 := n0_; have HB := n1_; clear n0_ n1_; clear hb ho6))
  go_loopg [4, 15] k (fun kq v4 v15 w' => ∃ (x4_1 : List Int) (x15_1 : Int), v15 = .int .i64 x15_1 ∧ Aside0 (impl_DotsText.l0 kq x4_1 l0 (l0.length : Int) x15_1 = some (r1, r2)) ∧ Aside0 (kq ≤ k) ∧ Aside0 (Kd.R (Kd.int .u8) 5 w' w.heap.size (fun _ => True) v4 x4_1) ∧ Aside0 (Below w.heap.size w w'))
  case atStart => exact ⟨(y129), (0), (by first | rfl | (simp; done) | (simp [*]; done)), H', ⟨Nat.le_refl _⟩, ⟨rr_ HO131⟩, ⟨bl_ HB⟩⟩
  case round =>
   clear H'
   try clear c2
   try clear p2
   try clear c3
   try clear c6
   obtain ⟨x4_1, x15_1, rfl, HA, HK1, HO_4, HB⟩ := hrel
   cases gk with
   | zero => exact absurd HA.out (by simp [impl_DotsText.l0])
   | succ k1 =>
    have H := HA.out
    clear HA
    simp only [impl_DotsText.l0] at H
    by_cases c7 : x15_1 < (l0.length : Int)
    ·rw [if_pos c7] at H
     have c7b0 : decide (x15_1 < (l0.length : Int)) = true := decide_eq_true c7
     clear c7
     by_cases c8 : 0 ≤ x15_1
     ·rw [if_pos c8] at H
      have c8b0 : decide (0 ≤ x15_1) = true := decide_eq_true c8
      clear c8
      by_cases c9 : x15_1 < (l0.length : Int)
      ·rw [if_pos c9] at H
       have c9b0 : decide (x15_1 < (l0.length : Int)) = true := decide_eq_true c9
       clear c9
       have H' := Aside0.mk H
       clear H
       have p132 : 0 ≤ (x15_1 : Int) := of_decide_eq_true (by first | (with_reducible assumption) | assumption)
       have q132 : x15_1 < (l0.length : Int) := of_decide_eq_true (by first | (with_reducible assumption) | assumption)
       obtain ⟨ad132, A132_0, c132_0, e132, hx132_0, hl132_0, hi132_0⟩ := at_L1 HR0.out x15_1 p132 q132
       cases e132
       replace hx132_0 := (HB.out.cell (World.block_lt_of_cell? w _ hx132_0)).trans hx132_0
       have HR132_0 := Aside0.mk hi132_0
       have HC132_0 := Aside0.mk hl132_0
       clear hi132_0 hl132_0
       replace p132 := eq_true p132
       replace q132 := eq_true q132
       go_wp2
       go_loopg [4, 21] k1 (fun kq v4 v21 w' => ∃ (x4_2 : List Int) (x21_2 : Int), v21 = .int .i64 x21_2 ∧ Aside0 (impl_DotsText.l1 kq x4_2 l0 (l0.length : Int) x15_1 (rd_L1 l0 x15_1) ((rd_L1 l0 x15_1).length : Int) x21_2 = some (r1, r2)) ∧ Aside0 (kq ≤ k1) ∧ Aside0 (Kd.R (Kd.int .u8) 5 w' w.heap.size (fun _ => True) v4 x4_2) ∧ Aside0 (Below w.heap.size w w'))
       case atStart => exact ⟨(x4_1), (0), (by first | rfl | (simp; done) | (simp [*]; done)), H', ⟨Nat.le_refl _⟩, ⟨rr_ HO_4⟩, ⟨bl_ HB⟩⟩
       case round =>
        clear H'
        try clear c1
        try clear p1
        try clear q1
        try clear hx1
        try clear c2
        try clear p2
        try clear c3
        try clear c6
        try clear c7
        try clear c7b0
        try clear c8
        try clear c8b0
        try clear c9
        try clear c9b0
        try clear hx132_0
        try clear p132
        try clear p2
        try clear q132
        obtain ⟨x4_2, x21_2, rfl, HA, HK2, HO_4, HB⟩ := hrel
        cases gk with
        | zero => exact absurd HA.out (by simp [impl_DotsText.l1])
        | succ k2 =>
         have H := HA.out
         clear HA
         simp only [impl_DotsText.l1] at H
         by_cases c10 : x21_2 < ((rd_L1 l0 x15_1).length : Int)
         ·rw [if_pos c10] at H
          have c10b0 : decide (x21_2 < ((rd_L1 l0 x15_1).length : Int)) = true := decide_eq_true c10
          clear c10
          by_cases c11 : 0 ≤ x21_2
          ·rw [if_pos c11] at H
           have c11b0 : decide (0 ≤ x21_2) = true := decide_eq_true c11
           clear c11
           by_cases c12 : x21_2 < ((rd_L1 l0 x15_1).length : Int)
           ·rw [if_pos c12] at H
            have c12b0 : decide (x21_2 < ((rd_L1 l0 x15_1).length : Int)) = true := decide_eq_true c12
            clear c12
            by_cases c13 : 0 ≤ (rd (rd_L1 l0 x15_1) x21_2)
            ·rw [if_pos c13] at H
             have c13b0 : decide (0 ≤ (rd (rd_L1 l0 x15_1) x21_2)) = true := decide_eq_true c13
             clear c13
             by_cases c14 : (rd (rd_L1 l0 x15_1) x21_2) < 2
             ·rw [if_pos c14] at H
              have c14b0 : decide ((rd (rd_L1 l0 x15_1) x21_2) < 2) = true := decide_eq_true c14
              clear c14
              by_cases c16 : x4_2.length < 140737488355328
              ·rw [if_pos c16] at H
               have LMc16 := Aside0.mk c16
               clear c16
               obtain ⟨y134, hy134⟩ : ∃ y_ : List Int, y_ = (x4_2 ++ [bt (⟨#[46, 35]⟩ : ByteArray) (rd (rd_L1 l0 x15_1) x21_2)]) := ⟨_, rfl⟩
               replace H : (impl_DotsText.l1 k2 y134 l0 (l0.length : Int) x15_1 (rd_L1 l0 x15_1) ((rd_L1 l0 x15_1).length : Int) (wrap64 (x21_2 + 1))) = some (r1, r2) := by first | (rw [hy134]; with_reducible exact H) | (have H2_ := (Option.bind_some _ _).symm.trans H; rw [hy134]; with_reducible exact H2_) | (have H2_ := (Option.bind_some _ _).symm.trans H; with_reducible exact H2_) | with_reducible exact H | (rw [hy134]; exact H) | exact H
               have Ny134 := Aside0.mk hy134
               clear hy134
               have H' := Aside0.mk H
               clear H
               have p133 : 0 ≤ (x21_2 : Int) := of_decide_eq_true (by first | (with_reducible assumption) | assumption)
               have q133 : x21_2 < ((rd_L1 l0 x15_1).length : Int) := of_decide_eq_true (by first | (with_reducible assumption) | assumption)
               obtain ⟨ad133, e133, hx133_0⟩ := Kd.at_int HR132_0.out x21_2 p133 q133
               cases e133
               replace hx133_0 := (HB.out.cell (World.block_lt_of_cell? w _ hx133_0)).trans hx133_0
               replace p133 := eq_true p133
               replace q133 := eq_true q133
               have p15 : 0 ≤ ((rd (rd_L1 l0 x15_1) x21_2) : Int) := of_decide_eq_true (by first | (with_reducible assumption) | assumption)
               have q15 : (rd (rd_L1 l0 x15_1) x21_2) < (2 : Int) := of_decide_eq_true (by first | (with_reducible assumption) | assumption)
               have hx15 := bt_at (⟨#[46, 35]⟩ : ByteArray) (rd (rd_L1 l0 x15_1) x21_2)
               replace p15 := eq_true p15
               replace q15 := eq_true q15
               go_wp2_with (first | ((with_reducible refine gate_builtin (b := .append) (xs := #[.tmp 25, .tmp 28]) rfl ?_); at_builtin; refine Kd.R_append (Kd.int .u8) (w0 := w) w.heap.size rfl (.tmp 25) (.tmp 28) 48 5 (.int .u8 0) 1 rfl Try.underlying48 info5 rfl (by decide) (by omega) u4 x4_2 (bt (⟨#[46, 35]⟩ : ByteArray) (rd (rd_L1 l0 x15_1) x21_2)) [.int .u8 (bt (⟨#[46, 35]⟩ : ByteArray) (rd (rd_L1 l0 x15_1) x21_2))] (fun _ => True) (fun _ => False) rfl rfl ?aP (fun _ hk => hk.elim) ?aF ?aO ?aB ?aS ?aL ?_; (case aP => exact rfl); (case aB => exact (bl_ HB)); (case aF => exact (fun _ _ => trivial)); (case aO => exact (rr_ HO_4)); (case aS => exact (below_size (bl_ HB))); (case aL => have := LMc16.out; omega); intro v135 w17 ho hb hg hat; rw [← Ny134.out] at ho; have n0_ := Aside0.mk (hb); have n1_ := Aside0.mk (ho); clear HB; clear HO_4; have HB := n0_; have HO136 := n1_; clear n0_ n1_; clear ho hb hg hat))
               go_roundg k2
               case measure => have := HK1.out; have := HK2.out; omega
               case rel => exact ⟨(y134), (wrap64 (x21_2 + 1)), (by first | rfl | (simp; done) | (simp [*]; done)), H', ⟨by have := HK1.out; have := HK2.out; omega⟩, ⟨rr_ HO136⟩, ⟨bl_ HB⟩⟩
              ·rw [if_neg c16] at H
               exact absurd H (by simp)
             ·rw [if_neg c14] at H
              exact absurd H (by simp)
            ·rw [if_neg c13] at H
             exact absurd H (by simp)
           ·rw [if_neg c12] at H
            exact absurd H (by simp)
          ·rw [if_neg c11] at H
           exact absurd H (by simp)
         ·rw [if_neg c10] at H
          have c10b0 : decide (x21_2 < ((rd_L1 l0 x15_1).length : Int)) = false := decide_eq_false c10
          clear c10
          by_cases c18 : x4_2.length < 140737488355328
          ·rw [if_pos c18] at H
           have LMc18 := Aside0.mk c18
           clear c18
           obtain ⟨y137, hy137⟩ : ∃ y_ : List Int, y_ = (x4_2 ++ [10]) := ⟨_, rfl⟩
           replace H : (impl_DotsText.l0 k2 y137 l0 (l0.length : Int) (wrap64 (x15_1 + 1))) = some (r1, r2) := by first | (rw [hy137]; with_reducible exact H) | (have H2_ := (Option.bind_some _ _).symm.trans H; rw [hy137]; with_reducible exact H2_) | (have H2_ := (Option.bind_some _ _).symm.trans H; with_reducible exact H2_) | with_reducible exact H | (rw [hy137]; exact H) | exact H
           have Ny137 := Aside0.mk hy137
           clear hy137
           have H' := Aside0.mk H
           clear H
           go_wp2_with (first | ((with_reducible refine gate_builtin (b := .append) (xs := #[.tmp 31, .tmp 32]) rfl ?_); at_builtin; refine Kd.R_append (Kd.int .u8) (w0 := w) w.heap.size rfl (.tmp 31) (.tmp 32) 48 5 (.int .u8 0) 1 rfl Try.underlying48 info5 rfl (by decide) (by omega) u4 x4_2 10 [.int .u8 10] (fun _ => True) (fun _ => False) rfl rfl ?aP (fun _ hk => hk.elim) ?aF ?aO ?aB ?aS ?aL ?_; (case aP => exact rfl); (case aB => exact (bl_ HB)); (case aF => exact (fun _ _ => trivial)); (case aO => exact (rr_ HO_4)); (case aS => exact (below_size (bl_ HB))); (case aL => have := LMc18.out; omega); intro v138 w19 ho hb hg hat; rw [← Ny137.out] at ho; have n0_ := Aside0.mk (hb); have n1_ := Aside0.mk (ho); clear HB; clear HO_4; have HB := n0_; have HO139 := n1_; clear n0_ n1_; clear ho hb hg hat))
           go_roundg k2
           case measure => have := HK1.out; have := HK2.out; omega
           case rel => exact ⟨(y137), (wrap64 (x15_1 + 1)), (by first | rfl | (simp; done) | (simp [*]; done)), H', ⟨by have := HK1.out; have := HK2.out; omega⟩, ⟨rr_ HO139⟩, ⟨bl_ HB⟩⟩
          ·rw [if_neg c18] at H
           exact absurd H (by simp)
      ·rw [if_neg c9] at H
       exact absurd H (by simp)
     ·rw [if_neg c8] at H
      exact absurd H (by simp)
    ·rw [if_neg c7] at H
     have c7b0 : decide (x15_1 < (l0.length : Int)) = false := decide_eq_false c7
     clear c7
     simp only [Option.some.injEq, Prod.mk.injEq] at H
     obtain ⟨rfl, rfl⟩ := H
     have hcv20 := own_string (P := Try.prog) Try.underlying48 Try.underlying5 Try.underlying9 (Kd.own_of_R HO_4.out)
     go_wp2
     go_ret2
     exact ⟨by first | rfl | (simp [errW_none, errW_some] <;> rfl) | (simp [*, errW_none, errW_some] <;> rfl), bl_ HB⟩
 ·replace c3 := Bool.eq_false_iff.mpr c3
  subst c3
  have H1 : (some ((⟨#[]⟩ : ByteArray), false)) = some (r1, r2) := by rw [if_neg (show ¬ (false = true) by decide)] at H; exact H
  clear H
  have H := H1
  clear H1
  simp only [Option.some.injEq, Prod.mk.injEq] at H
  obtain ⟨rfl, rfl⟩ := H
  go_enter Try.func25, Try.ntmps25
  go_wp2_with (first | ((with_reducible refine gate_callee (f := 63) rfl ?_); refine goesL_ (some 10) rfl rfl Try.func63 (by kernel_rfl) rfl #[.slice A0 l0.length c0, .int .i64 1] rfl (by (try simp only [List.map_toArray, List.map_cons, List.map_nil]); first | done | rfl | (simp only [List.length_drop, List.length_take]; rfl) | (simp only [show ∀ (n_ : Nat) (b_ : Int), Int.tdiv (n_ : Int) b_ = (n_ : Int) / b_ from fun n_ b_ => Int.tdiv_eq_ediv_of_nonneg (Int.natCast_nonneg n_)]; rfl)) ?_; (with_reducible refine (impl_areRows.calls _ _ l0 1 false _ ?side1 ?side2 A2.out).mono ?_); (case side1 => repeat (first | exact HR0.out | (with_reducible refine Kd.C_alloc ?_ _) | (with_reducible refine Kd.C_drewN ?_ _) | (with_reducible refine Kd.C_drew ?_))); (case side2 => exact HC0.out); rintro e w21 ⟨rfl, hb⟩; refine ⟨_, rfl, ?_⟩; have n0_ := Aside0.mk (below_step (bl_ HB) hb); clear HB; have HB := n0_; clear n0_; (try clear hb); (try clear hb2); (try clear hk); (try clear hi)))
  go_ret2
  exact ⟨by first | rfl | (simp [errW_none, errW_some] <;> rfl) | (simp [*, errW_none, errW_some] <;> rfl), bl_ HB⟩
end Go.Proofs.Ytpdkknfooblplaa.Q
namespace Go.Proofs.Ytpdkknfooblplaa.Q
open Go.RowKit Go.Proofs.YtpdkknfooblplaaW.PrintWords Go.Proofs.YtpdkknfooblplaaW.PrintLast Go.Proofs.YtpdkknfooblplaaW.PrintMore
attribute [local go_sem] max2_int min2_int max_two min_two max_three min_three max_four min_four   -- for this text's walks alone
set_option linter.unusedVariables false
set_option linter.unusedSimpArgs false
def impl_bit.f (a0 : Bool) : Option (Int) := if a0 = true then (some 1) else (some 0)
set_option maxHeartbeats 8000000 in
set_option maxRecDepth 100000 in
theorem impl_bit.calls (a0 : Bool) (r : Int) (w : World) (h : impl_bit.f a0 = some r) :
  Calls Try.prog 34 #[.bool a0] w fun e w' => e = .returned (.int .i64 r) ∧ Drawn0 w w' := by
 have H : (if a0 = true then (some 1) else (some 0)) = some r := h
 clear h
 by_cases c2 : a0 = true
 ·subst c2
  have H1 : (some 1) = some r := by rw [if_pos rfl] at H; exact H
  clear H
  have H := H1
  clear H1
  obtain rfl := Option.some.inj H
  go_enter Try.func34, Try.ntmps34
  go_wp2
  go_ret
  exact ⟨by first | rfl | (simp; done) | (simp [*]; done), by repeat (first | exact Drawn0.refl _ | apply Drawn0.step)⟩
 ·replace c2 := Bool.eq_false_iff.mpr c2
  subst c2
  have H1 : (some 0) = some r := by rw [if_neg (show ¬ (false = true) by decide)] at H; exact H
  clear H
  have H := H1
  clear H1
  obtain rfl := Option.some.inj H
  go_enter Try.func34, Try.ntmps34
  go_wp2
  go_ret
  exact ⟨by first | rfl | (simp; done) | (simp [*]; done), by repeat (first | exact Drawn0.refl _ | apply Drawn0.step)⟩
end Go.Proofs.Ytpdkknfooblplaa.Q
namespace Go.Proofs.Ytpdkknfooblplaa.Q
open Go.RowKit Go.Proofs.YtpdkknfooblplaaW.PrintWords Go.Proofs.YtpdkknfooblplaaW.PrintLast Go.Proofs.YtpdkknfooblplaaW.PrintMore
attribute [local go_sem] max2_int min2_int max_two min_two max_three min_three max_four min_four   -- for this text's walks alone
set_option linter.unusedVariables false
set_option linter.unusedSimpArgs false
theorem tap_enters {f : FuncId} {fn : Func} {c : Code} (hf : Try.prog.funcs[f]? = some fn) (hname : (fn.name == "runtime.NumGoroutine") = false) (hb : fn.body = some c) (args : Array Value) (w : World) : (callFunc f args).run Try.prog w = .ok (.enter f args) w := by
  have h1 : fn.name ≠ "runtime.NumGoroutine" := by simpa using hname
  simp [callFunc, hf, h1, hb, mark]
def tap_idxf {α : Type} (p : α → Bool) (l : List α) : Int := match l.findIdx? p with | some i => (i : Int) | none => -1
theorem tap_idxf_hit {α : Type} {p : α → Bool} {l : List α} {k : Nat} (hk : k < l.length) (h : p l[k] = true) (hb : ∀ j (hj : j < l.length), j < k → p l[j] = false) : tap_idxf p l = k := by
  unfold tap_idxf
  have : l.findIdx? p = some k := List.findIdx?_eq_some_iff_getElem.2 ⟨hk, h, fun j hj => by simp [hb j (by omega) hj]⟩
  rw [this]
theorem tap_idxf_miss {α : Type} {p : α → Bool} {l : List α} (hb : ∀ j (hj : j < l.length), p l[j] = false) : tap_idxf p l = -1 := by
  unfold tap_idxf
  have : l.findIdx? p = none := List.findIdx?_eq_none_iff.2 (fun x hx => by obtain ⟨j, hj, rfl⟩ := List.getElem_of_mem hx; exact hb j hj)
  rw [this]
theorem tap_idxf_any {α : Type} (p : α → Bool) (l : List α) : decide (tap_idxf p l ≥ 0) = l.any p := by
  unfold tap_idxf
  cases h : l.findIdx? p with
  | none =>
    have := List.findIdx?_eq_none_iff.1 h
    simp only [show ¬ ((-1 : Int) ≥ 0) by omega, decide_false]
    symm
    rw [List.any_eq_false]
    intro x hx
    simp [this x hx]
  | some i =>
    have := List.findIdx?_eq_some_iff_getElem.1 h
    obtain ⟨hi, h1, _⟩ := this
    have h2 : l.any p = true := List.any_eq_true.2 ⟨l[i], List.getElem_mem hi, h1⟩
    rw [h2]
    simp
set_option maxHeartbeats 2000000 in
theorem tap_ixf (g : Nat) (lb : Array Value) (eg : ∀ args w, (callFunc g args).run Try.prog w = .ok (.enter g args) w) (p : S79 → Bool) (A0 : Option Addr) (c0 : Nat) (l0 : List S79) (w : World) (hr : Kd.C k79 w A0 l0.length l0)
    (hp : ∀ (x : S79) (w1 : World), Below w.heap.size w w1 → Calls Try.prog g (#[.agg #[.int .i64 x.f0, .int .i64 x.f1, .int .i64 x.f2]] ++ lb) w1 fun e w' => e = .returned (.bool (p x)) ∧ Below w1.heap.size w1 w') :
    Calls Try.prog 82 #[.slice A0 l0.length c0, .func (.func g) #[] lb] w fun e w' => e = .returned (.int .i64 (tap_idxf p l0)) ∧ Below w.heap.size w w' := by
  have hbig : l0.length ≤ 9223372036854775807 := hr.2.1
  have hu77 := Try.underlying79
  have HR := Aside0.mk hr
  clear hr
  go_enter Try.func82, Try.ntmps82
  go_wp2
  go_loopg [5, 8] l0.length (fun gg _ s8 wr => ∃ kk : Nat, kk ≤ l0.length ∧ l0.length - kk ≤ gg ∧ s8 = .int .i64 kk ∧ Aside0 (Below w.heap.size w wr) ∧ Aside0 (∀ j (hj : j < l0.length), j < kk → p l0[j] = false))
  case atStart => exact ⟨0, Nat.zero_le _, by omega, rfl, ⟨Below.refl _ _⟩, ⟨fun j hj h => absurd h (Nat.not_lt_zero _)⟩⟩
  case round =>
    obtain ⟨kk, hkk, hg, rfl, HB, A⟩ := hrel
    by_cases hlt : kk < l0.length
    · have hltz : (kk : Int) < (l0.length : Int) := by omega
      obtain ⟨ad, hA, h0, h1, h2⟩ := at_T79 (Kd.C_below HR.out HB.out) (kk : Int) (by omega) hltz
      have B := Aside0.mk (show rd_T79 l0 (kk : Int) = l0[kk] by unfold rd_T79; rw [Int.toNat_natCast, List.getD_eq_getElem?_getD, List.getElem?_eq_getElem hlt]; rfl)
      cases hA
      rw [Int.toNat_natCast] at h0 h1 h2
      generalize rd_T79 l0 (kk : Int) = y at h0 h1 h2 B
      cases hq : p y with
      | true =>
        go_wp2_with fail
        refine (hp y _ HB.out).mono ?_
        rintro e w' ⟨rfl, hb⟩
        rw [hq]
        have HB2 := Aside0.mk (below_then HB.out HB.out.size hb)
        go_wp2
        go_ret
        exact ⟨by rw [tap_idxf_hit hlt (by rw [← B.out]; exact hq) A.out]; rfl, by first | exact HB2.out | exact pw_below_drewN HB2.out _⟩
      | false =>
        go_wp2_with fail
        refine (hp y _ HB.out).mono ?_
        rintro e w' ⟨rfl, hb⟩
        rw [hq]
        have HB2 := Aside0.mk (below_then HB.out HB.out.size hb)
        go_wp2
        go_roundg (l0.length - (kk + 1))
        case measure => omega
        case rel =>
          refine ⟨kk + 1, by omega, by omega, by go_num, ⟨by first | exact HB2.out | exact pw_below_drewN HB2.out _⟩, ⟨fun j hj h => ?_⟩⟩
          by_cases e : j = kk
          · subst e
            rw [← B.out]; exact hq
          · exact A.out j hj (by omega)
    · have hltz : ¬ (kk : Int) < (l0.length : Int) := by omega
      have : kk = l0.length := by omega
      subst this
      go_wp2
      go_ret
      exact ⟨by rw [tap_idxf_miss (fun j hj => A.out j hj hj)]; rfl, by first | exact HB.out | exact pw_below_drewN HB.out _⟩
set_option maxHeartbeats 2000000 in
theorem tap_ctf (g : Nat) (lb : Array Value) (eg : ∀ args w, (callFunc g args).run Try.prog w = .ok (.enter g args) w) (p : S79 → Bool) (A0 : Option Addr) (c0 : Nat) (l0 : List S79) (w : World) (hr : Kd.C k79 w A0 l0.length l0)
    (hp : ∀ (x : S79) (w1 : World), Below w.heap.size w w1 → Calls Try.prog g (#[.agg #[.int .i64 x.f0, .int .i64 x.f1, .int .i64 x.f2]] ++ lb) w1 fun e w' => e = .returned (.bool (p x)) ∧ Below w1.heap.size w1 w') :
    Calls Try.prog 65 #[.slice A0 l0.length c0, .func (.func g) #[] lb] w fun e w' => e = .returned (.bool (l0.any p)) ∧ Below w.heap.size w w' := by
  have HR := Aside0.mk hr
  clear hr
  rw [← tap_idxf_any]
  go_enter Try.func65, Try.ntmps65
  go_wp2_with (go_at_call 82; refine (tap_ixf g lb eg p A0 c0 l0 _ HR.out hp).mono ?_; rintro e w' ⟨rfl, hb⟩)
  go_ret
  exact ⟨rfl, by first | exact hb | exact pw_below_drewN hb _⟩
set_option maxHeartbeats 2000000 in
theorem tap_one (b : Nat) (t0 t1 : Int) (x : S79) (w : World) (h0 : w.cell? ⟨b, 0, none⟩ = some (.int .i64 t0)) (h1 : w.cell? ⟨b, 1, none⟩ = some (.int .i64 t1)) :
    Calls Try.prog 66 (#[.agg #[.int .i64 x.f0, .int .i64 x.f1, .int .i64 x.f2]] ++ #[.pointer (some ⟨b, 0, none⟩)]) w fun e w' => e = .returned (.bool (x.f0 == t0 && x.f1 == t1)) ∧ Below w.heap.size w w' := by
  have hu77 := Try.underlying79
  have hb : b < w.heap.size := World.block_lt_of_cell? w _ h0
  obtain ⟨x0, x1, x2⟩ := x
  simp only
  have k0 : ∀ o, (w.alloc o).cell? ⟨b, 0, none⟩ = some (.int .i64 t0) := fun o => (below_alloc (Below.refl w.heap.size w) o).cell hb |>.trans h0
  have k1 : ∀ o, (w.alloc o).cell? ⟨b, 1, none⟩ = some (.int .i64 t1) := fun o => (below_alloc (Below.refl w.heap.size w) o).cell hb |>.trans h1
  have HB := Aside0.mk (fun o => below_alloc (Below.refl w.heap.size w) o)
  clear hb h0 h1
  by_cases c : x0 = t0
  · have c0 : (x0 == t0) = true := beq_iff_eq.mpr c
    rw [c0]
    clear c
    go_enter Try.func66, Try.ntmps66
    go_wp2
    go_ret
    exact ⟨by first | rfl | (simp; done) | (simp [*]; done), HB.out _⟩
  · have c0 : (x0 == t0) = false := beq_eq_false_iff_ne.mpr c
    rw [c0]
    clear c
    go_enter Try.func66, Try.ntmps66
    go_wp2
    go_ret
    exact ⟨by first | rfl | (simp; done) | (simp [*]; done), HB.out _⟩
def impl_Tap_66.f (l0 : List S79) (a1_0 : Int) (a1_1 : Int) (a1_2 : Int) : Option Bool := some (l0.any fun x => x.f0 == a1_0 && x.f1 == a1_1)
theorem impl_Tap_66.calls (b : Nat) (A0 : Option Addr) (c0 : Nat) (l0 : List S79) (a1_0 a1_1 a1_2 : Int) (r : Bool) (w : World) (hr0 : Kd.C k79 w A0 l0.length l0) (hc0 : l0.length ≤ c0) (h : impl_Tap_66.f l0 a1_0 a1_1 a1_2 = some r) (k0 : w.cell? ⟨b, 0, none⟩ = some (.int .i64 a1_0)) (k1 : w.cell? ⟨b, 1, none⟩ = some (.int .i64 a1_1)) :
    Calls Try.prog 65 #[.slice A0 l0.length c0, .func (.func 66) #[] #[.pointer (some ⟨b, 0, none⟩)]] w fun e w' => e = .returned (.bool r) ∧ Below w.heap.size w w' := by
  obtain rfl := Option.some.inj h
  have hb : b < w.heap.size := World.block_lt_of_cell? w _ k0
  exact tap_ctf 66 _ (tap_enters Try.func66 (by kernel_rfl) rfl) _ A0 c0 l0 w hr0 (fun x w1 hw => tap_one b a1_0 a1_1 x w1 ((hw.cell hb).trans k0) ((hw.cell hb).trans k1))
mutual
def impl_ValidKernel.j0 : Nat → Bool → Int → List (S79) → Option (Bool)
 | 0, _, _, _ => none
 | k + 1, x16, x201000, x201001 => if x16 = true then (some false) else (impl_ValidKernel.l0 k 0 x201001 (x201001.length : Int) 0 x201000 x201001)
def impl_ValidKernel.l0 : Nat → Int → List (S79) → Int → Int → Int → List (S79) → Option (Bool)
 | 0, _, _, _, _, _, _ => none
 | k + 1, x3, x18, x19, x20, x201000, x201001 => if x20 < x19 then (if 0 ≤ x20 then (if x20 < (x18.length : Int) then (if x20 ≤ (x201001.length : Int) then ((impl_Tap_66.f (x201001.take (x20 : Int).toNat) ((rd_T79 x18 x20).f0) ((rd_T79 x18 x20).f1) ((rd_T79 x18 x20).f2)).bind fun t208 => (if t208 = true then (some false) else ((impl_within.f ((rd_T79 x18 x20).f0) 0 2).bind fun t209 => (if t209 = true then ((impl_within.f ((rd_T79 x18 x20).f1) (-2) 2).bind fun t210 => (if t210 = true then (if ((rd_T79 x18 x20).f0) < 1 then (if ((rd_T79 x18 x20).f1) < 1 then (some false) else ((impl_within.f ((rd_T79 x18 x20).f2) 1 64).bind fun t211 => (if t211 = true then (impl_ValidKernel.l0 k (wrap64 (x3 + ((rd_T79 x18 x20).f2))) x18 x19 (wrap64 (x20 + 1)) x201000 x201001) else (some false)))) else ((impl_within.f ((rd_T79 x18 x20).f2) 1 64).bind fun t212 => (if t212 = true then (impl_ValidKernel.l0 k (wrap64 (x3 + ((rd_T79 x18 x20).f2))) x18 x19 (wrap64 (x20 + 1)) x201000 x201001) else (some false)))) else (some false))) else (some false))))) else (none)) else (none)) else (none)) else (some (decide (x3 ≤ x201000)))
end
def impl_ValidKernel.f (k : Nat) (a0_0 : Int) (l0_1 : List (S79)) : Option (Bool) := (impl_within.f a0_0 1 64).bind fun t201 => (if t201 = true then (impl_ValidKernel.j0 k (decide ((l0_1.length : Int) > 12)) a0_0 l0_1) else (impl_ValidKernel.j0 k true a0_0 l0_1))
theorem impl_ValidKernel.mono_l : ∀ k, (∀ y0 y1 y2, LeO (impl_ValidKernel.j0 k y0 y1 y2) (impl_ValidKernel.j0 (k + 1) y0 y1 y2)) ∧ (∀ y0 y1 y2 y3 y4 y5, LeO (impl_ValidKernel.l0 k y0 y1 y2 y3 y4 y5) (impl_ValidKernel.l0 (k + 1) y0 y1 y2 y3 y4 y5))
 | 0 => ⟨fun _ _ _ r h => by simp [impl_ValidKernel.j0] at h, fun _ _ _ _ _ _ r h => by simp [impl_ValidKernel.l0] at h⟩
 | k + 1 => by
  obtain ⟨ih0, ih1⟩ := impl_ValidKernel.mono_l k
  refine ⟨?_, ?_⟩
  ·intro y0 y1 y2
   unfold impl_ValidKernel.j0
   repeat' first
   | (with_reducible exact ih0 _ _ _)
   | (with_reducible exact ih1 _ _ _ _ _ _)
   | (with_reducible exact LeO.refl _)
   | (with_reducible exact LeO.none _)
   | (with_reducible refine LeO.ite ?_ ?_)
   | (with_reducible refine LeO.bind ?_ (fun _ => ?_))
   | exact ih0 _ _ _
   | exact ih1 _ _ _ _ _ _
   | exact LeO.none _
   | refine LeO.ite ?_ ?_
   | refine LeO.bind ?_ (fun _ => ?_)
  ·intro y0 y1 y2 y3 y4 y5
   unfold impl_ValidKernel.l0
   repeat' first
   | (with_reducible exact ih0 _ _ _)
   | (with_reducible exact ih1 _ _ _ _ _ _)
   | (with_reducible exact LeO.refl _)
   | (with_reducible exact LeO.none _)
   | (with_reducible refine LeO.ite ?_ ?_)
   | (with_reducible refine LeO.bind ?_ (fun _ => ?_))
   | exact ih0 _ _ _
   | exact ih1 _ _ _ _ _ _
   | exact LeO.none _
   | refine LeO.ite ?_ ?_
   | refine LeO.bind ?_ (fun _ => ?_)
theorem impl_ValidKernel.mono : ∀ a0 a1 k, LeO (impl_ValidKernel.f k a0 a1) (impl_ValidKernel.f (k + 1) a0 a1) := by
 intro a0 a1 k
 obtain ⟨ih0, ih1⟩ := impl_ValidKernel.mono_l k
 unfold impl_ValidKernel.f
 repeat' first
   | (with_reducible exact ih0 _ _ _)
   | (with_reducible exact ih1 _ _ _ _ _ _)
   | (with_reducible exact LeO.refl _)
   | (with_reducible exact LeO.none _)
   | (with_reducible refine LeO.ite ?_ ?_)
   | (with_reducible refine LeO.bind ?_ (fun _ => ?_))
   | exact ih0 _ _ _
   | exact ih1 _ _ _ _ _ _
   | exact LeO.none _
   | refine LeO.ite ?_ ?_
   | refine LeO.bind ?_ (fun _ => ?_)
set_option maxHeartbeats 8000000 in
set_option maxRecDepth 100000 in
theorem impl_ValidKernel.calls (k : Nat) (a0_0 : Int) (A0_1 : Option Addr) (c0_1 : Nat) (l0_1 : List (S79)) (r : Bool) (w : World) (hr0_1 : Kd.C k79 w A0_1 l0_1.length l0_1) (hc0_1 : l0_1.length ≤ c0_1) (h : impl_ValidKernel.f k a0_0 l0_1 = some r) :
  Calls Try.prog 31 #[.agg #[.int .i64 a0_0, .slice A0_1 l0_1.length c0_1]] w fun e w' => e = .returned (.bool r) ∧ Below w.heap.size w w' := by
 have hu24 := Try.underlying41
 have hu77 := Try.underlying79
 have HR0_1 := Aside0.mk hr0_1
 have HC0_1 := Aside0.mk hc0_1
 clear hr0_1 hc0_1
 have HB := Aside0.mk (Below.refl w.heap.size w)
 have H : ((impl_within.f a0_0 1 64).bind fun t201 => (if t201 = true then (impl_ValidKernel.j0 k (decide ((l0_1.length : Int) > 12)) a0_0 l0_1) else (impl_ValidKernel.j0 k true a0_0 l0_1))) = some r := h
 clear h
 have HC2 := Aside0.mk H
 clear H
 go_enter Try.func31, Try.ntmps31
 go_upto_region 1 with (first | ((with_reducible refine gate_dst (N := 1) rfl ?_); (try (refine gate_guard (by rfl) ?_; dsimp only)); refine box_event ?hg (N := 1) ?hd (cs := #[.int .i64 a0_0, .slice A0_1 l0_1.length c0_1]) (t := 41) ?hr ?_; (case hd => rfl); (case hg => rfl); (case hr => first | (go_simp; done) | (go_simp; rfl)); intro gb200 hg w3 hbox hb; have n0_ := Aside0.mk (below_step (bl_ HB) hb); have n1_ := Aside0.mk (hbox); have n2_ := Aside0.mk ((by rw [hg]; exact (below_size (bl_ HB)) : w.heap.size ≤ gb200)); have n3_ := Aside0.mk ((by rw [hg]; exact (below_size (bl_ HB)) : w.heap.size ≤ gb200)); clear HB; have HB := n0_; have BK200 := n1_; have GW200 := n2_; have GE200 := n3_; clear n0_ n1_ n2_ n3_; clear hb hbox hg))
 (try simp only [Act.put, List.setIfInBounds_toArray, List.set_cons_zero, List.set_cons_succ])
 go_cut [16] (fun v16 wc => ∃ (kq : Nat) (x16_1 : Bool), v16 = .bool x16_1 ∧ Aside0 (impl_ValidKernel.j0 kq x16_1 a0_0 l0_1 = some r) ∧ Aside0 (kq ≤ k) ∧ Aside0 (wc.heap[gb200]? = some (.cells #[.int .i64 a0_0, (.slice A0_1 l0_1.length c0_1)] 41 (0, 0))) ∧ Aside0 (Below w.heap.size w wc))
 case first =>
  have H := HC2.out
  clear HC2
  replace H := Option.bind_eq_some_iff.mp H
  obtain ⟨t201, A40, H⟩ := H
  replace H : (if t201 = true then (impl_ValidKernel.j0 k (decide ((l0_1.length : Int) > 12)) a0_0 l0_1) else (impl_ValidKernel.j0 k true a0_0 l0_1)) = some r := H
  have A4 := Aside0.mk A40
  clear A40
  by_cases c5 : t201 = true
  ·subst c5
   have H1 : (impl_ValidKernel.j0 k (decide ((l0_1.length : Int) > 12)) a0_0 l0_1) = some r := by rw [if_pos rfl] at H; exact H
   clear H
   have H := H1
   clear H1
   have H' := Aside0.mk H
   clear H
   have hcz6_0 : w3.cell? ⟨gb200, 0, none⟩ = some (.int .i64 a0_0) := (blk_cell BK200.out 0).trans rfl
   have hcz6_1 : w3.cell? ⟨gb200, 1, none⟩ = some (.slice A0_1 l0_1.length c0_1) := (blk_cell BK200.out 1).trans rfl
   have hfz6_0 := blk_frozen BK200.out 0
   have hfz6_1 := blk_frozen BK200.out 1
   go_wp2_with (first | ((with_reducible refine gate_callee (f := 55) rfl ?_); refine goesL_ (some 9) rfl rfl Try.func55 (by kernel_rfl) rfl #[.int .i64 a0_0, .int .i64 1, .int .i64 64] rfl (by (try simp only [List.map_toArray, List.map_cons, List.map_nil]); first | done | rfl | (simp only [List.length_drop, List.length_take]; rfl) | (simp only [show ∀ (n_ : Nat) (b_ : Int), Int.tdiv (n_ : Int) b_ = (n_ : Int) / b_ from fun n_ b_ => Int.tdiv_eq_ediv_of_nonneg (Int.natCast_nonneg n_)]; rfl)) ?_; (with_reducible refine (impl_within.calls a0_0 1 64 true _ A4.out).mono ?_); rintro e w' ⟨rfl, ⟨nd, rfl⟩⟩; refine ⟨_, rfl, ?_⟩))
   go_meet
   case rel => exact ⟨_, (decide ((l0_1.length : Int) > 12)), (by first | rfl | (simp; done) | (simp [*]; done)), H', ⟨by first | omega | exact Nat.le_refl _⟩, ⟨bk_ BK200⟩, ⟨bl_ HB⟩⟩
  ·replace c5 := Bool.eq_false_iff.mpr c5
   subst c5
   have H1 : (impl_ValidKernel.j0 k true a0_0 l0_1) = some r := by rw [if_neg (show ¬ (false = true) by decide)] at H; exact H
   clear H
   have H := H1
   clear H1
   have H' := Aside0.mk H
   clear H
   have hcz7_0 : w3.cell? ⟨gb200, 0, none⟩ = some (.int .i64 a0_0) := (blk_cell BK200.out 0).trans rfl
   have hcz7_1 : w3.cell? ⟨gb200, 1, none⟩ = some (.slice A0_1 l0_1.length c0_1) := (blk_cell BK200.out 1).trans rfl
   have hfz7_0 := blk_frozen BK200.out 0
   have hfz7_1 := blk_frozen BK200.out 1
   go_wp2_with (first | ((with_reducible refine gate_callee (f := 55) rfl ?_); refine goesL_ (some 9) rfl rfl Try.func55 (by kernel_rfl) rfl #[.int .i64 a0_0, .int .i64 1, .int .i64 64] rfl (by (try simp only [List.map_toArray, List.map_cons, List.map_nil]); first | done | rfl | (simp only [List.length_drop, List.length_take]; rfl) | (simp only [show ∀ (n_ : Nat) (b_ : Int), Int.tdiv (n_ : Int) b_ = (n_ : Int) / b_ from fun n_ b_ => Int.tdiv_eq_ediv_of_nonneg (Int.natCast_nonneg n_)]; rfl)) ?_; (with_reducible refine (impl_within.calls a0_0 1 64 false _ A4.out).mono ?_); rintro e w' ⟨rfl, ⟨nd, rfl⟩⟩; refine ⟨_, rfl, ?_⟩))
   go_meet
   case rel => exact ⟨_, (true), (by first | rfl | (simp; done) | (simp [*]; done)), H', ⟨by first | omega | exact Nat.le_refl _⟩, ⟨bk_ BK200⟩, ⟨bl_ HB⟩⟩
 case rest =>
  clear HC2
  try clear c2
  try clear p2
  try clear c5
  try clear c6
  try clear hcz6_0
  try clear hcz6_1
  try clear hcz7_0
  try clear hcz7_1
  try clear hfz6_0
  try clear hfz6_1
  try clear hfz7_0
  try clear hfz7_1
  obtain ⟨kq, x16_1, rfl, HA, HJ1, BK200, HB⟩ := hcut
  cases kq with
  | zero => exact absurd HA.out (by simp [impl_ValidKernel.j0])
  | succ kj1 =>
   have H := HA.out
   clear HA
   simp only [impl_ValidKernel.j0] at H
   by_cases c8 : x16_1 = true
   ·subst c8
    have H1 : (some false) = some r := by rw [if_pos rfl] at H; exact H
    clear H
    have H := H1
    clear H1
    obtain rfl := Option.some.inj H
    go_wp2
    go_ret
    exact ⟨by first | rfl | (simp [errW_none, errW_some] <;> rfl) | (simp [*, errW_none, errW_some] <;> rfl), bl_ HB⟩
   ·replace c8 := Bool.eq_false_iff.mpr c8
    subst c8
    have H1 : (impl_ValidKernel.l0 kj1 0 l0_1 (l0_1.length : Int) 0 a0_0 l0_1) = some r := by rw [if_neg (show ¬ (false = true) by decide)] at H; exact H
    clear H
    have H := H1
    clear H1
    have H' := Aside0.mk H
    clear H
    have hcz9_0 : wc.cell? ⟨gb200, 0, none⟩ = some (.int .i64 a0_0) := (blk_cell BK200.out 0).trans rfl
    have hcz9_1 : wc.cell? ⟨gb200, 1, none⟩ = some (.slice A0_1 l0_1.length c0_1) := (blk_cell BK200.out 1).trans rfl
    have hfz9_0 := blk_frozen BK200.out 0
    have hfz9_1 := blk_frozen BK200.out 1
    go_wp2
    go_loopg [3, 20] kj1 (fun kq v3 v20 w' => ∃ (x3_2 : Int) (x20_2 : Int), v3 = .int .i64 x3_2 ∧ v20 = .int .i64 x20_2 ∧ Aside0 (impl_ValidKernel.l0 kq x3_2 l0_1 (l0_1.length : Int) x20_2 a0_0 l0_1 = some r) ∧ Aside0 (kq ≤ kj1) ∧ Aside0 (w'.heap[gb200]? = some (.cells #[.int .i64 a0_0, (.slice A0_1 l0_1.length c0_1)] 41 (0, 0))) ∧ Aside0 (Below w.heap.size w w'))
    case atStart => exact ⟨(0), (0), (by first | rfl | (simp; done) | (simp [*]; done)), (by first | rfl | (simp; done) | (simp [*]; done)), H', ⟨Nat.le_refl _⟩, ⟨bk_ BK200⟩, ⟨bl_ HB⟩⟩
    case round =>
     clear H'
     try clear c2
     try clear p2
     try clear c5
     try clear c6
     try clear c8
     try clear hcz6_0
     try clear hcz6_1
     try clear hcz7_0
     try clear hcz7_1
     try clear hcz9_0
     try clear hcz9_1
     try clear hfz6_0
     try clear hfz6_1
     try clear hfz7_0
     try clear hfz7_1
     try clear hfz9_0
     try clear hfz9_1
     try clear p2
     obtain ⟨x3_2, x20_2, rfl, rfl, HA, HK2, BK200, HB⟩ := hrel
     cases gk with
     | zero => exact absurd HA.out (by simp [impl_ValidKernel.l0])
     | succ k2 =>
      have H := HA.out
      clear HA
      simp only [impl_ValidKernel.l0] at H
      by_cases c10 : x20_2 < (l0_1.length : Int)
      ·rw [if_pos c10] at H
       have c10b0 : decide (x20_2 < (l0_1.length : Int)) = true := decide_eq_true c10
       clear c10
       by_cases c11 : 0 ≤ x20_2
       ·rw [if_pos c11] at H
        have c11b0 : decide (0 ≤ x20_2) = true := decide_eq_true c11
        clear c11
        by_cases c12 : x20_2 < (l0_1.length : Int)
        ·rw [if_pos c12] at H
         have c12b0 : decide (x20_2 < (l0_1.length : Int)) = true := decide_eq_true c12
         clear c12
         have c13b0 := eq_true (of_decide_eq_true (by first | (with_reducible assumption) | assumption) : 0 ≤ x20_2)
         by_cases c14 : x20_2 ≤ (l0_1.length : Int)
         ·rw [if_pos c14] at H
          have c14b0 := eq_true c14
          have c14b1 : decide (x20_2 ≤ (l0_1.length : Int)) = true := decide_eq_true c14
          clear c14
          obtain ⟨y204, hy204⟩ : ∃ y_ : List (S79), y_ = (l0_1.take (x20_2 : Int).toNat) := ⟨_, rfl⟩
          replace H : ((impl_Tap_66.f y204 ((rd_T79 l0_1 x20_2).f0) ((rd_T79 l0_1 x20_2).f1) ((rd_T79 l0_1 x20_2).f2)).bind fun t208 => (if t208 = true then (some false) else ((impl_within.f ((rd_T79 l0_1 x20_2).f0) 0 2).bind fun t209 => (if t209 = true then ((impl_within.f ((rd_T79 l0_1 x20_2).f1) (-2) 2).bind fun t210 => (if t210 = true then (if ((rd_T79 l0_1 x20_2).f0) < 1 then (if ((rd_T79 l0_1 x20_2).f1) < 1 then (some false) else ((impl_within.f ((rd_T79 l0_1 x20_2).f2) 1 64).bind fun t211 => (if t211 = true then (impl_ValidKernel.l0 k2 (wrap64 (x3_2 + ((rd_T79 l0_1 x20_2).f2))) l0_1 (l0_1.length : Int) (wrap64 (x20_2 + 1)) a0_0 l0_1) else (some false)))) else ((impl_within.f ((rd_T79 l0_1 x20_2).f2) 1 64).bind fun t212 => (if t212 = true then (impl_ValidKernel.l0 k2 (wrap64 (x3_2 + ((rd_T79 l0_1 x20_2).f2))) l0_1 (l0_1.length : Int) (wrap64 (x20_2 + 1)) a0_0 l0_1) else (some false)))) else (some false))) else (some false))))) = some r := by first | (rw [hy204]; with_reducible exact H) | (have H2_ := (Option.bind_some _ _).symm.trans H; rw [hy204]; with_reducible exact H2_) | (have H2_ := (Option.bind_some _ _).symm.trans H; with_reducible exact H2_) | with_reducible exact H | (rw [hy204]; exact H) | exact H
          have Ny204 := Aside0.mk hy204
          clear hy204
          replace H := Option.bind_eq_some_iff.mp H
          obtain ⟨t208, A150, H⟩ := H
          replace H : (if t208 = true then (some false) else ((impl_within.f ((rd_T79 l0_1 x20_2).f0) 0 2).bind fun t209 => (if t209 = true then ((impl_within.f ((rd_T79 l0_1 x20_2).f1) (-2) 2).bind fun t210 => (if t210 = true then (if ((rd_T79 l0_1 x20_2).f0) < 1 then (if ((rd_T79 l0_1 x20_2).f1) < 1 then (some false) else ((impl_within.f ((rd_T79 l0_1 x20_2).f2) 1 64).bind fun t211 => (if t211 = true then (impl_ValidKernel.l0 k2 (wrap64 (x3_2 + ((rd_T79 l0_1 x20_2).f2))) l0_1 (l0_1.length : Int) (wrap64 (x20_2 + 1)) a0_0 l0_1) else (some false)))) else ((impl_within.f ((rd_T79 l0_1 x20_2).f2) 1 64).bind fun t212 => (if t212 = true then (impl_ValidKernel.l0 k2 (wrap64 (x3_2 + ((rd_T79 l0_1 x20_2).f2))) l0_1 (l0_1.length : Int) (wrap64 (x20_2 + 1)) a0_0 l0_1) else (some false)))) else (some false))) else (some false)))) = some r := H
          have A15 := Aside0.mk A150
          clear A150
          by_cases c16 : t208 = true
          ·subst c16
           have H1 : (some false) = some r := by rw [if_pos rfl] at H; exact H
           clear H
           have H := H1
           clear H1
           obtain rfl := Option.some.inj H
           have p202 : 0 ≤ (x20_2 : Int) := of_decide_eq_true (by first | (with_reducible assumption) | assumption)
           have q202 : x20_2 < (l0_1.length : Int) := of_decide_eq_true (by first | (with_reducible assumption) | assumption)
           obtain ⟨ad202, e202, hx202_0, hx202_1, hx202_2⟩ := at_T79 HR0_1.out x20_2 p202 q202
           cases e202
           replace hx202_0 := (HB.out.cell (World.block_lt_of_cell? w _ hx202_0)).trans hx202_0
           replace hx202_1 := (HB.out.cell (World.block_lt_of_cell? w _ hx202_1)).trans hx202_1
           replace hx202_2 := (HB.out.cell (World.block_lt_of_cell? w _ hx202_2)).trans hx202_2
           replace p202 := eq_true p202
           replace q202 := eq_true q202
           go_wp2_with (first | ((with_reducible refine gate_dst (N := 5) rfl ?_); (try (refine gate_guard (by rfl) ?_; dsimp only)); refine box_event ?hg (N := 5) ?hd (cs := #[.int .i64 0, .int .i64 0, .int .i64 0]) (t := 79) ?hr ?_; (case hd => rfl); (case hg => rfl); (case hr => first | (go_simp; done) | (go_simp; rfl)); intro gb203 hg w17 hbox hb; have n0_ := Aside0.mk (blk_below (g := gb200) (o := .cells #[.int .i64 a0_0, .slice (some ad202) l0_1.length c0_1] 41 (0, 0)) (bk_ BK200) hb); have n1_ := Aside0.mk (below_step (bl_ HB) hb); have n2_ := Aside0.mk (hbox); have n3_ := Aside0.mk ((by rw [hg]; exact (below_size (bl_ HB)) : w.heap.size ≤ gb203)); have n4_ := Aside0.mk ((by rw [hg]; exact (below_size (bl_ HB)) : w.heap.size ≤ gb203)); have n5_ := Aside0.mk ((by rw [hg]; exact Nat.ne_of_lt (blk_lt (g := gb200) (o := .cells #[.int .i64 a0_0, .slice (some ad202) l0_1.length c0_1] 41 (0, 0)) (bk_ BK200)) : gb200 ≠ gb203)); have n6_ := Aside0.mk ((by rw [hg]; exact Nat.ne_of_gt (blk_lt (g := gb200) (o := .cells #[.int .i64 a0_0, .slice (some ad202) l0_1.length c0_1] 41 (0, 0)) (bk_ BK200)) : gb203 ≠ gb200)); clear BK200; clear HB; have BK200 := n0_; have HB := n1_; have BK203 := n2_; have GW203 := n3_; have GE203 := n4_; have NB200_203 := n5_; have NB203_200 := n6_; clear n0_ n1_ n2_ n3_ n4_ n5_ n6_; clear hb hbox hg; have hnb18 := NB203_200.out; have hnc18 := NB200_203.out; have hcz19_0 : w17.cell? ⟨gb203, 0, none⟩ = some (.int .i64 0) := (blk_cell BK203.out 0).trans rfl; have hcz19_1 : w17.cell? ⟨gb203, 1, none⟩ = some (.int .i64 0) := (blk_cell BK203.out 1).trans rfl; have hcz19_2 : w17.cell? ⟨gb203, 2, none⟩ = some (.int .i64 0) := (blk_cell BK203.out 2).trans rfl; have hfz19_0 := blk_frozen BK203.out 0; have hfz19_1 := blk_frozen BK203.out 1; have hfz19_2 := blk_frozen BK203.out 2) | ((with_reducible refine gate_store (t := 79) (p := 5) rfl ?_); refine store_event (t := 79) (p := 5) (v := ?vo_w20) (w1 := (((w17.setCell ⟨gb203, 0, none⟩ (.int .i64 ((rd_T79 l0_1 x20_2).f0))).setCell ⟨gb203, 1, none⟩ (.int .i64 ((rd_T79 l0_1 x20_2).f1))).setCell ⟨gb203, 2, none⟩ (.int .i64 ((rd_T79 l0_1 x20_2).f2)))) ?hg ?ho ?hn ?hr ?_; (case ho => rfl); (case hg => rfl); (case hn => rfl); (case hr => first | (go_simp; done) | (go_simp; rfl)); intro w20 hw; have n0_ : Aside0 (w20.heap[gb200]? = some (.cells #[.int .i64 a0_0, .slice (some ad202) l0_1.length c0_1] 41 (0, 0))) := ⟨(by rw [hw]; exact (by (with_reducible repeat (first | refine blk_drewN ?_ _ | refine blk_drew ?_ | refine blk_alloc ?_ _)); refine blk_far ?_ NB200_203.out _; (with_reducible repeat (first | refine blk_drewN ?_ _ | refine blk_drew ?_ | refine blk_alloc ?_ _)); refine blk_far ?_ NB200_203.out _; (with_reducible repeat (first | refine blk_drewN ?_ _ | refine blk_drew ?_ | refine blk_alloc ?_ _)); refine blk_far ?_ NB200_203.out _; (with_reducible repeat (first | refine blk_drewN ?_ _ | refine blk_drew ?_ | refine blk_alloc ?_ _)); exact BK200.out))⟩; have n1_ : Aside0 (w20.heap[gb203]? = some (.cells #[.int .i64 ((rd_T79 l0_1 x20_2).f0), .int .i64 ((rd_T79 l0_1 x20_2).f1), .int .i64 ((rd_T79 l0_1 x20_2).f2)] 79 (0, 0))) := ⟨(by rw [hw]; exact (by (with_reducible repeat (first | refine blk_drewN ?_ _ | refine blk_drew ?_ | refine blk_alloc ?_ _)); refine blk_put (cs := #[.int .i64 ((rd_T79 l0_1 x20_2).f0), .int .i64 ((rd_T79 l0_1 x20_2).f1), .int .i64 0]) ?_ 2 _ rfl; (with_reducible repeat (first | refine blk_drewN ?_ _ | refine blk_drew ?_ | refine blk_alloc ?_ _)); refine blk_put (cs := #[.int .i64 ((rd_T79 l0_1 x20_2).f0), .int .i64 0, .int .i64 0]) ?_ 1 _ rfl; (with_reducible repeat (first | refine blk_drewN ?_ _ | refine blk_drew ?_ | refine blk_alloc ?_ _)); refine blk_put (cs := #[.int .i64 0, .int .i64 0, .int .i64 0]) ?_ 0 _ rfl; (with_reducible repeat (first | refine blk_drewN ?_ _ | refine blk_drew ?_ | refine blk_alloc ?_ _)); exact BK203.out))⟩; have n2_ : Aside0 (Below w.heap.size w w20) := ⟨(by rw [hw]; exact (bl_ HB))⟩; clear hw; clear BK200; clear BK203; clear HB; have BK200 := n0_; have BK203 := n1_; have HB := n2_; clear n0_ n1_ n2_; have hcz21_0 : w20.cell? ⟨gb200, 0, none⟩ = some (.int .i64 a0_0) := (blk_cell BK200.out 0).trans rfl; have hcz21_1 : w20.cell? ⟨gb200, 1, none⟩ = some (.slice (some ad202) l0_1.length c0_1) := (blk_cell BK200.out 1).trans rfl; have hfz21_0 := blk_frozen BK200.out 0; have hfz21_1 := blk_frozen BK200.out 1; have q22 : (x20_2 : Int) ≤ ((l0_1.length : Int) : Int) := of_decide_eq_true (by first | (with_reducible assumption) | assumption); obtain ⟨i022, hi022, _, hsz22, _⟩ := info_parts info79; have hroom22 : l0_1.length ≤ c0_1 := HC0_1.out; have hC22 : Kd.C k79 _ (some ad202) l0_1.length l0_1 := HR0_1.out; have hcut22 := cut_to (P := Try.prog) 39 79 .i64 Try.underlying39 hi022 (some ad202) l0_1.length c0_1 x20_2 (of_decide_eq_true (by first | (with_reducible assumption) | assumption)) q22 hroom22; have hr22 := Kd.C_take (m := (x20_2 : Int).toNat) hC22 (by omega); have hy22 : y204.length = (x20_2 : Int).toNat := (by rw [Ny204.out, List.length_take]; omega); rw [← Ny204.out] at hr22; rw [← hy22] at hcut22; have HR207 := Aside0.mk hr22; have HC207 := Aside0.mk (show y204.length ≤ c0_1 from by omega); clear hr22 hC22 hroom22 hi022 hsz22; have KY22 := Aside0.mk hy22; clear hy22; replace q22 := eq_true q22; have hcz23_0 : w20.cell? ⟨gb203, 0, none⟩ = some (.int .i64 ((rd_T79 l0_1 x20_2).f0)) := (blk_cell BK203.out 0).trans rfl; have hcz23_1 : w20.cell? ⟨gb203, 1, none⟩ = some (.int .i64 ((rd_T79 l0_1 x20_2).f1)) := (blk_cell BK203.out 1).trans rfl; have hcz23_2 : w20.cell? ⟨gb203, 2, none⟩ = some (.int .i64 ((rd_T79 l0_1 x20_2).f2)) := (blk_cell BK203.out 2).trans rfl; have hfz23_0 := blk_frozen BK203.out 0; have hfz23_1 := blk_frozen BK203.out 1; have hfz23_2 := blk_frozen BK203.out 2) | ((with_reducible refine gate_callee (f := 65) rfl ?_); refine goesL_ (some 30) rfl rfl Try.func65 (by kernel_rfl) rfl #[.slice (some ad202) y204.length c0_1, .func (.func 66) #[] #[.pointer (some ⟨gb203, 0, none⟩)]] rfl (by (try simp only [List.map_toArray, List.map_cons, List.map_nil]); first | done | rfl | (simp only [List.length_drop, List.length_take]; rfl) | (simp only [show ∀ (n_ : Nat) (b_ : Int), Int.tdiv (n_ : Int) b_ = (n_ : Int) / b_ from fun n_ b_ => Int.tdiv_eq_ediv_of_nonneg (Int.natCast_nonneg n_)]; rfl)) ?_; (with_reducible refine (impl_Tap_66.calls gb203 _ _ y204 ((rd_T79 l0_1 x20_2).f0) ((rd_T79 l0_1 x20_2).f1) ((rd_T79 l0_1 x20_2).f2) true _ ?side1 ?side2 A15.out ?side3 ?side4).mono ?_); (case side1 => repeat (first | exact (Kd.C_below HR207.out HB.out) | (with_reducible refine Kd.C_alloc ?_ _) | (with_reducible refine Kd.C_drewN ?_ _) | (with_reducible refine Kd.C_drew ?_))); (case side2 => exact HC207.out); (case side3 => exact (blk_cell BK203.out 0).trans rfl); (case side4 => exact (blk_cell BK203.out 1).trans rfl); rintro e w66_ ⟨rfl, hb66_⟩; refine ⟨_, rfl, ?_⟩; have n0_ := Aside0.mk (blk_below BK200.out hb66_); have n1_ := Aside0.mk (blk_below BK203.out hb66_); have n2_ := Aside0.mk (below_step HB.out hb66_); clear BK200 BK203 HB; have BK200 := n0_; have BK203 := n1_; have HB := n2_; clear n0_ n1_ n2_ hb66_; have hczT_0 : w66_.cell? ⟨gb203, 0, none⟩ = some (.int .i64 ((rd_T79 l0_1 x20_2).f0)) := (blk_cell BK203.out 0).trans rfl; have hczT_1 : w66_.cell? ⟨gb203, 1, none⟩ = some (.int .i64 ((rd_T79 l0_1 x20_2).f1)) := (blk_cell BK203.out 1).trans rfl; have hczT_2 : w66_.cell? ⟨gb203, 2, none⟩ = some (.int .i64 ((rd_T79 l0_1 x20_2).f2)) := (blk_cell BK203.out 2).trans rfl; have hfzT_0 := blk_frozen BK203.out 0; have hfzT_1 := blk_frozen BK203.out 1; have hfzT_2 := blk_frozen BK203.out 2))
           go_ret
           exact ⟨by first | rfl | (simp [errW_none, errW_some] <;> rfl) | (simp [*, errW_none, errW_some] <;> rfl), bl_ HB⟩
          ·replace c16 := Bool.eq_false_iff.mpr c16
           subst c16
           have H1 : ((impl_within.f ((rd_T79 l0_1 x20_2).f0) 0 2).bind fun t209 => (if t209 = true then ((impl_within.f ((rd_T79 l0_1 x20_2).f1) (-2) 2).bind fun t210 => (if t210 = true then (if ((rd_T79 l0_1 x20_2).f0) < 1 then (if ((rd_T79 l0_1 x20_2).f1) < 1 then (some false) else ((impl_within.f ((rd_T79 l0_1 x20_2).f2) 1 64).bind fun t211 => (if t211 = true then (impl_ValidKernel.l0 k2 (wrap64 (x3_2 + ((rd_T79 l0_1 x20_2).f2))) l0_1 (l0_1.length : Int) (wrap64 (x20_2 + 1)) a0_0 l0_1) else (some false)))) else ((impl_within.f ((rd_T79 l0_1 x20_2).f2) 1 64).bind fun t212 => (if t212 = true then (impl_ValidKernel.l0 k2 (wrap64 (x3_2 + ((rd_T79 l0_1 x20_2).f2))) l0_1 (l0_1.length : Int) (wrap64 (x20_2 + 1)) a0_0 l0_1) else (some false)))) else (some false))) else (some false))) = some r := by rw [if_neg (show ¬ (false = true) by decide)] at H; exact H
           clear H
           have H := H1
           clear H1
           replace H := Option.bind_eq_some_iff.mp H
           obtain ⟨t209, A240, H⟩ := H
           replace H : (if t209 = true then ((impl_within.f ((rd_T79 l0_1 x20_2).f1) (-2) 2).bind fun t210 => (if t210 = true then (if ((rd_T79 l0_1 x20_2).f0) < 1 then (if ((rd_T79 l0_1 x20_2).f1) < 1 then (some false) else ((impl_within.f ((rd_T79 l0_1 x20_2).f2) 1 64).bind fun t211 => (if t211 = true then (impl_ValidKernel.l0 k2 (wrap64 (x3_2 + ((rd_T79 l0_1 x20_2).f2))) l0_1 (l0_1.length : Int) (wrap64 (x20_2 + 1)) a0_0 l0_1) else (some false)))) else ((impl_within.f ((rd_T79 l0_1 x20_2).f2) 1 64).bind fun t212 => (if t212 = true then (impl_ValidKernel.l0 k2 (wrap64 (x3_2 + ((rd_T79 l0_1 x20_2).f2))) l0_1 (l0_1.length : Int) (wrap64 (x20_2 + 1)) a0_0 l0_1) else (some false)))) else (some false))) else (some false)) = some r := H
           have A24 := Aside0.mk A240
           clear A240
           by_cases c25 : t209 = true
           ·subst c25
            have H1 : ((impl_within.f ((rd_T79 l0_1 x20_2).f1) (-2) 2).bind fun t210 => (if t210 = true then (if ((rd_T79 l0_1 x20_2).f0) < 1 then (if ((rd_T79 l0_1 x20_2).f1) < 1 then (some false) else ((impl_within.f ((rd_T79 l0_1 x20_2).f2) 1 64).bind fun t211 => (if t211 = true then (impl_ValidKernel.l0 k2 (wrap64 (x3_2 + ((rd_T79 l0_1 x20_2).f2))) l0_1 (l0_1.length : Int) (wrap64 (x20_2 + 1)) a0_0 l0_1) else (some false)))) else ((impl_within.f ((rd_T79 l0_1 x20_2).f2) 1 64).bind fun t212 => (if t212 = true then (impl_ValidKernel.l0 k2 (wrap64 (x3_2 + ((rd_T79 l0_1 x20_2).f2))) l0_1 (l0_1.length : Int) (wrap64 (x20_2 + 1)) a0_0 l0_1) else (some false)))) else (some false))) = some r := by rw [if_pos rfl] at H; exact H
            clear H
            have H := H1
            clear H1
            replace H := Option.bind_eq_some_iff.mp H
            obtain ⟨t210, A260, H⟩ := H
            replace H : (if t210 = true then (if ((rd_T79 l0_1 x20_2).f0) < 1 then (if ((rd_T79 l0_1 x20_2).f1) < 1 then (some false) else ((impl_within.f ((rd_T79 l0_1 x20_2).f2) 1 64).bind fun t211 => (if t211 = true then (impl_ValidKernel.l0 k2 (wrap64 (x3_2 + ((rd_T79 l0_1 x20_2).f2))) l0_1 (l0_1.length : Int) (wrap64 (x20_2 + 1)) a0_0 l0_1) else (some false)))) else ((impl_within.f ((rd_T79 l0_1 x20_2).f2) 1 64).bind fun t212 => (if t212 = true then (impl_ValidKernel.l0 k2 (wrap64 (x3_2 + ((rd_T79 l0_1 x20_2).f2))) l0_1 (l0_1.length : Int) (wrap64 (x20_2 + 1)) a0_0 l0_1) else (some false)))) else (some false)) = some r := H
            have A26 := Aside0.mk A260
            clear A260
            by_cases c27 : t210 = true
            ·subst c27
             have H1 : (if ((rd_T79 l0_1 x20_2).f0) < 1 then (if ((rd_T79 l0_1 x20_2).f1) < 1 then (some false) else ((impl_within.f ((rd_T79 l0_1 x20_2).f2) 1 64).bind fun t211 => (if t211 = true then (impl_ValidKernel.l0 k2 (wrap64 (x3_2 + ((rd_T79 l0_1 x20_2).f2))) l0_1 (l0_1.length : Int) (wrap64 (x20_2 + 1)) a0_0 l0_1) else (some false)))) else ((impl_within.f ((rd_T79 l0_1 x20_2).f2) 1 64).bind fun t212 => (if t212 = true then (impl_ValidKernel.l0 k2 (wrap64 (x3_2 + ((rd_T79 l0_1 x20_2).f2))) l0_1 (l0_1.length : Int) (wrap64 (x20_2 + 1)) a0_0 l0_1) else (some false)))) = some r := by rw [if_pos rfl] at H; exact H
             clear H
             have H := H1
             clear H1
             by_cases c28 : ((rd_T79 l0_1 x20_2).f0) < 1
             ·rw [if_pos c28] at H
              have c28b0 : decide (((rd_T79 l0_1 x20_2).f0) < 1) = true := decide_eq_true c28
              clear c28
              by_cases c29 : ((rd_T79 l0_1 x20_2).f1) < 1
              ·rw [if_pos c29] at H
               have c29b0 : decide (((rd_T79 l0_1 x20_2).f1) < 1) = true := decide_eq_true c29
               clear c29
               obtain rfl := Option.some.inj H
               have p202 : 0 ≤ (x20_2 : Int) := of_decide_eq_true (by first | (with_reducible assumption) | assumption)
               have q202 : x20_2 < (l0_1.length : Int) := of_decide_eq_true (by first | (with_reducible assumption) | assumption)
               obtain ⟨ad202, e202, hx202_0, hx202_1, hx202_2⟩ := at_T79 HR0_1.out x20_2 p202 q202
               cases e202
               replace hx202_0 := (HB.out.cell (World.block_lt_of_cell? w _ hx202_0)).trans hx202_0
               replace hx202_1 := (HB.out.cell (World.block_lt_of_cell? w _ hx202_1)).trans hx202_1
               replace hx202_2 := (HB.out.cell (World.block_lt_of_cell? w _ hx202_2)).trans hx202_2
               replace p202 := eq_true p202
               replace q202 := eq_true q202
               go_wp2_with (first | ((with_reducible refine gate_dst (N := 5) rfl ?_); (try (refine gate_guard (by rfl) ?_; dsimp only)); refine box_event ?hg (N := 5) ?hd (cs := #[.int .i64 0, .int .i64 0, .int .i64 0]) (t := 79) ?hr ?_; (case hd => rfl); (case hg => rfl); (case hr => first | (go_simp; done) | (go_simp; rfl)); intro gb203 hg w30 hbox hb; have n0_ := Aside0.mk (blk_below (g := gb200) (o := .cells #[.int .i64 a0_0, .slice (some ad202) l0_1.length c0_1] 41 (0, 0)) (bk_ BK200) hb); have n1_ := Aside0.mk (below_step (bl_ HB) hb); have n2_ := Aside0.mk (hbox); have n3_ := Aside0.mk ((by rw [hg]; exact (below_size (bl_ HB)) : w.heap.size ≤ gb203)); have n4_ := Aside0.mk ((by rw [hg]; exact (below_size (bl_ HB)) : w.heap.size ≤ gb203)); have n5_ := Aside0.mk ((by rw [hg]; exact Nat.ne_of_lt (blk_lt (g := gb200) (o := .cells #[.int .i64 a0_0, .slice (some ad202) l0_1.length c0_1] 41 (0, 0)) (bk_ BK200)) : gb200 ≠ gb203)); have n6_ := Aside0.mk ((by rw [hg]; exact Nat.ne_of_gt (blk_lt (g := gb200) (o := .cells #[.int .i64 a0_0, .slice (some ad202) l0_1.length c0_1] 41 (0, 0)) (bk_ BK200)) : gb203 ≠ gb200)); clear BK200; clear HB; have BK200 := n0_; have HB := n1_; have BK203 := n2_; have GW203 := n3_; have GE203 := n4_; have NB200_203 := n5_; have NB203_200 := n6_; clear n0_ n1_ n2_ n3_ n4_ n5_ n6_; clear hb hbox hg; have hnb31 := NB203_200.out; have hnc31 := NB200_203.out; have hcz32_0 : w30.cell? ⟨gb203, 0, none⟩ = some (.int .i64 0) := (blk_cell BK203.out 0).trans rfl; have hcz32_1 : w30.cell? ⟨gb203, 1, none⟩ = some (.int .i64 0) := (blk_cell BK203.out 1).trans rfl; have hcz32_2 : w30.cell? ⟨gb203, 2, none⟩ = some (.int .i64 0) := (blk_cell BK203.out 2).trans rfl; have hfz32_0 := blk_frozen BK203.out 0; have hfz32_1 := blk_frozen BK203.out 1; have hfz32_2 := blk_frozen BK203.out 2) | ((with_reducible refine gate_store (t := 79) (p := 5) rfl ?_); refine store_event (t := 79) (p := 5) (v := ?vo_w33) (w1 := (((w30.setCell ⟨gb203, 0, none⟩ (.int .i64 ((rd_T79 l0_1 x20_2).f0))).setCell ⟨gb203, 1, none⟩ (.int .i64 ((rd_T79 l0_1 x20_2).f1))).setCell ⟨gb203, 2, none⟩ (.int .i64 ((rd_T79 l0_1 x20_2).f2)))) ?hg ?ho ?hn ?hr ?_; (case ho => rfl); (case hg => rfl); (case hn => rfl); (case hr => first | (go_simp; done) | (go_simp; rfl)); intro w33 hw; have n0_ : Aside0 (w33.heap[gb200]? = some (.cells #[.int .i64 a0_0, .slice (some ad202) l0_1.length c0_1] 41 (0, 0))) := ⟨(by rw [hw]; exact (by (with_reducible repeat (first | refine blk_drewN ?_ _ | refine blk_drew ?_ | refine blk_alloc ?_ _)); refine blk_far ?_ NB200_203.out _; (with_reducible repeat (first | refine blk_drewN ?_ _ | refine blk_drew ?_ | refine blk_alloc ?_ _)); refine blk_far ?_ NB200_203.out _; (with_reducible repeat (first | refine blk_drewN ?_ _ | refine blk_drew ?_ | refine blk_alloc ?_ _)); refine blk_far ?_ NB200_203.out _; (with_reducible repeat (first | refine blk_drewN ?_ _ | refine blk_drew ?_ | refine blk_alloc ?_ _)); exact BK200.out))⟩; have n1_ : Aside0 (w33.heap[gb203]? = some (.cells #[.int .i64 ((rd_T79 l0_1 x20_2).f0), .int .i64 ((rd_T79 l0_1 x20_2).f1), .int .i64 ((rd_T79 l0_1 x20_2).f2)] 79 (0, 0))) := ⟨(by rw [hw]; exact (by (with_reducible repeat (first | refine blk_drewN ?_ _ | refine blk_drew ?_ | refine blk_alloc ?_ _)); refine blk_put (cs := #[.int .i64 ((rd_T79 l0_1 x20_2).f0), .int .i64 ((rd_T79 l0_1 x20_2).f1), .int .i64 0]) ?_ 2 _ rfl; (with_reducible repeat (first | refine blk_drewN ?_ _ | refine blk_drew ?_ | refine blk_alloc ?_ _)); refine blk_put (cs := #[.int .i64 ((rd_T79 l0_1 x20_2).f0), .int .i64 0, .int .i64 0]) ?_ 1 _ rfl; (with_reducible repeat (first | refine blk_drewN ?_ _ | refine blk_drew ?_ | refine blk_alloc ?_ _)); refine blk_put (cs := #[.int .i64 0, .int .i64 0, .int .i64 0]) ?_ 0 _ rfl; (with_reducible repeat (first | refine blk_drewN ?_ _ | refine blk_drew ?_ | refine blk_alloc ?_ _)); exact BK203.out))⟩; have n2_ : Aside0 (Below w.heap.size w w33) := ⟨(by rw [hw]; exact (bl_ HB))⟩; clear hw; clear BK200; clear BK203; clear HB; have BK200 := n0_; have BK203 := n1_; have HB := n2_; clear n0_ n1_ n2_; have hcz34_0 : w33.cell? ⟨gb200, 0, none⟩ = some (.int .i64 a0_0) := (blk_cell BK200.out 0).trans rfl; have hcz34_1 : w33.cell? ⟨gb200, 1, none⟩ = some (.slice (some ad202) l0_1.length c0_1) := (blk_cell BK200.out 1).trans rfl; have hfz34_0 := blk_frozen BK200.out 0; have hfz34_1 := blk_frozen BK200.out 1; have q35 : (x20_2 : Int) ≤ ((l0_1.length : Int) : Int) := of_decide_eq_true (by first | (with_reducible assumption) | assumption); obtain ⟨i035, hi035, _, hsz35, _⟩ := info_parts info79; have hroom35 : l0_1.length ≤ c0_1 := HC0_1.out; have hC35 : Kd.C k79 _ (some ad202) l0_1.length l0_1 := HR0_1.out; have hcut35 := cut_to (P := Try.prog) 39 79 .i64 Try.underlying39 hi035 (some ad202) l0_1.length c0_1 x20_2 (of_decide_eq_true (by first | (with_reducible assumption) | assumption)) q35 hroom35; have hr35 := Kd.C_take (m := (x20_2 : Int).toNat) hC35 (by omega); have hy35 : y204.length = (x20_2 : Int).toNat := (by rw [Ny204.out, List.length_take]; omega); rw [← Ny204.out] at hr35; rw [← hy35] at hcut35; have HR207 := Aside0.mk hr35; have HC207 := Aside0.mk (show y204.length ≤ c0_1 from by omega); clear hr35 hC35 hroom35 hi035 hsz35; have KY35 := Aside0.mk hy35; clear hy35; replace q35 := eq_true q35; have hcz36_0 : w33.cell? ⟨gb203, 0, none⟩ = some (.int .i64 ((rd_T79 l0_1 x20_2).f0)) := (blk_cell BK203.out 0).trans rfl; have hcz36_1 : w33.cell? ⟨gb203, 1, none⟩ = some (.int .i64 ((rd_T79 l0_1 x20_2).f1)) := (blk_cell BK203.out 1).trans rfl; have hcz36_2 : w33.cell? ⟨gb203, 2, none⟩ = some (.int .i64 ((rd_T79 l0_1 x20_2).f2)) := (blk_cell BK203.out 2).trans rfl; have hfz36_0 := blk_frozen BK203.out 0; have hfz36_1 := blk_frozen BK203.out 1; have hfz36_2 := blk_frozen BK203.out 2) | ((with_reducible refine gate_callee (f := 65) rfl ?_); refine goesL_ (some 30) rfl rfl Try.func65 (by kernel_rfl) rfl #[.slice (some ad202) y204.length c0_1, .func (.func 66) #[] #[.pointer (some ⟨gb203, 0, none⟩)]] rfl (by (try simp only [List.map_toArray, List.map_cons, List.map_nil]); first | done | rfl | (simp only [List.length_drop, List.length_take]; rfl) | (simp only [show ∀ (n_ : Nat) (b_ : Int), Int.tdiv (n_ : Int) b_ = (n_ : Int) / b_ from fun n_ b_ => Int.tdiv_eq_ediv_of_nonneg (Int.natCast_nonneg n_)]; rfl)) ?_; (with_reducible refine (impl_Tap_66.calls gb203 _ _ y204 ((rd_T79 l0_1 x20_2).f0) ((rd_T79 l0_1 x20_2).f1) ((rd_T79 l0_1 x20_2).f2) false _ ?side1 ?side2 A15.out ?side3 ?side4).mono ?_); (case side1 => repeat (first | exact (Kd.C_below HR207.out HB.out) | (with_reducible refine Kd.C_alloc ?_ _) | (with_reducible refine Kd.C_drewN ?_ _) | (with_reducible refine Kd.C_drew ?_))); (case side2 => exact HC207.out); (case side3 => exact (blk_cell BK203.out 0).trans rfl); (case side4 => exact (blk_cell BK203.out 1).trans rfl); rintro e w66_ ⟨rfl, hb66_⟩; refine ⟨_, rfl, ?_⟩; have n0_ := Aside0.mk (blk_below BK200.out hb66_); have n1_ := Aside0.mk (blk_below BK203.out hb66_); have n2_ := Aside0.mk (below_step HB.out hb66_); clear BK200 BK203 HB; have BK200 := n0_; have BK203 := n1_; have HB := n2_; clear n0_ n1_ n2_ hb66_; have hczT_0 : w66_.cell? ⟨gb203, 0, none⟩ = some (.int .i64 ((rd_T79 l0_1 x20_2).f0)) := (blk_cell BK203.out 0).trans rfl; have hczT_1 : w66_.cell? ⟨gb203, 1, none⟩ = some (.int .i64 ((rd_T79 l0_1 x20_2).f1)) := (blk_cell BK203.out 1).trans rfl; have hczT_2 : w66_.cell? ⟨gb203, 2, none⟩ = some (.int .i64 ((rd_T79 l0_1 x20_2).f2)) := (blk_cell BK203.out 2).trans rfl; have hfzT_0 := blk_frozen BK203.out 0; have hfzT_1 := blk_frozen BK203.out 1; have hfzT_2 := blk_frozen BK203.out 2) | (go_at_call 55; (with_reducible refine (impl_within.calls ((rd_T79 l0_1 x20_2).f0) 0 2 true _ A24.out).mono ?_); rintro e w' ⟨rfl, ⟨nd, rfl⟩⟩) | (go_at_call 55; (with_reducible refine (impl_within.calls ((rd_T79 l0_1 x20_2).f1) (-2) 2 true _ A26.out).mono ?_); rintro e w' ⟨rfl, ⟨nd, rfl⟩⟩))
               go_ret
               exact ⟨by first | rfl | (simp [errW_none, errW_some] <;> rfl) | (simp [*, errW_none, errW_some] <;> rfl), bl_ HB⟩
              ·rw [if_neg c29] at H
               have c29b0 : decide (((rd_T79 l0_1 x20_2).f1) < 1) = false := decide_eq_false c29
               clear c29
               replace H := Option.bind_eq_some_iff.mp H
               obtain ⟨t211, A370, H⟩ := H
               replace H : (if t211 = true then (impl_ValidKernel.l0 k2 (wrap64 (x3_2 + ((rd_T79 l0_1 x20_2).f2))) l0_1 (l0_1.length : Int) (wrap64 (x20_2 + 1)) a0_0 l0_1) else (some false)) = some r := H
               have A37 := Aside0.mk A370
               clear A370
               by_cases c38 : t211 = true
               ·subst c38
                have H1 : (impl_ValidKernel.l0 k2 (wrap64 (x3_2 + ((rd_T79 l0_1 x20_2).f2))) l0_1 (l0_1.length : Int) (wrap64 (x20_2 + 1)) a0_0 l0_1) = some r := by rw [if_pos rfl] at H; exact H
                clear H
                have H := H1
                clear H1
                have H' := Aside0.mk H
                clear H
                have p202 : 0 ≤ (x20_2 : Int) := of_decide_eq_true (by first | (with_reducible assumption) | assumption)
                have q202 : x20_2 < (l0_1.length : Int) := of_decide_eq_true (by first | (with_reducible assumption) | assumption)
                obtain ⟨ad202, e202, hx202_0, hx202_1, hx202_2⟩ := at_T79 HR0_1.out x20_2 p202 q202
                cases e202
                replace hx202_0 := (HB.out.cell (World.block_lt_of_cell? w _ hx202_0)).trans hx202_0
                replace hx202_1 := (HB.out.cell (World.block_lt_of_cell? w _ hx202_1)).trans hx202_1
                replace hx202_2 := (HB.out.cell (World.block_lt_of_cell? w _ hx202_2)).trans hx202_2
                replace p202 := eq_true p202
                replace q202 := eq_true q202
                go_wp2_with (first | ((with_reducible refine gate_dst (N := 5) rfl ?_); (try (refine gate_guard (by rfl) ?_; dsimp only)); refine box_event ?hg (N := 5) ?hd (cs := #[.int .i64 0, .int .i64 0, .int .i64 0]) (t := 79) ?hr ?_; (case hd => rfl); (case hg => rfl); (case hr => first | (go_simp; done) | (go_simp; rfl)); intro gb203 hg w39 hbox hb; have n0_ := Aside0.mk (blk_below (g := gb200) (o := .cells #[.int .i64 a0_0, .slice (some ad202) l0_1.length c0_1] 41 (0, 0)) (bk_ BK200) hb); have n1_ := Aside0.mk (below_step (bl_ HB) hb); have n2_ := Aside0.mk (hbox); have n3_ := Aside0.mk ((by rw [hg]; exact (below_size (bl_ HB)) : w.heap.size ≤ gb203)); have n4_ := Aside0.mk ((by rw [hg]; exact (below_size (bl_ HB)) : w.heap.size ≤ gb203)); have n5_ := Aside0.mk ((by rw [hg]; exact Nat.ne_of_lt (blk_lt (g := gb200) (o := .cells #[.int .i64 a0_0, .slice (some ad202) l0_1.length c0_1] 41 (0, 0)) (bk_ BK200)) : gb200 ≠ gb203)); have n6_ := Aside0.mk ((by rw [hg]; exact Nat.ne_of_gt (blk_lt (g := gb200) (o := .cells #[.int .i64 a0_0, .slice (some ad202) l0_1.length c0_1] 41 (0, 0)) (bk_ BK200)) : gb203 ≠ gb200)); clear BK200; clear HB; have BK200 := n0_; have HB := n1_; have BK203 := n2_; have GW203 := n3_; have GE203 := n4_; have NB200_203 := n5_; have NB203_200 := n6_; clear n0_ n1_ n2_ n3_ n4_ n5_ n6_; clear hb hbox hg; have hnb40 := NB203_200.out; have hnc40 := NB200_203.out; have hcz41_0 : w39.cell? ⟨gb203, 0, none⟩ = some (.int .i64 0) := (blk_cell BK203.out 0).trans rfl; have hcz41_1 : w39.cell? ⟨gb203, 1, none⟩ = some (.int .i64 0) := (blk_cell BK203.out 1).trans rfl; have hcz41_2 : w39.cell? ⟨gb203, 2, none⟩ = some (.int .i64 0) := (blk_cell BK203.out 2).trans rfl; have hfz41_0 := blk_frozen BK203.out 0; have hfz41_1 := blk_frozen BK203.out 1; have hfz41_2 := blk_frozen BK203.out 2) | ((with_reducible refine gate_store (t := 79) (p := 5) rfl ?_); refine store_event (t := 79) (p := 5) (v := ?vo_w42) (w1 := (((w39.setCell ⟨gb203, 0, none⟩ (.int .i64 ((rd_T79 l0_1 x20_2).f0))).setCell ⟨gb203, 1, none⟩ (.int .i64 ((rd_T79 l0_1 x20_2).f1))).setCell ⟨gb203, 2, none⟩ (.int .i64 ((rd_T79 l0_1 x20_2).f2)))) ?hg ?ho ?hn ?hr ?_; (case ho => rfl); (case hg => rfl); (case hn => rfl); (case hr => first | (go_simp; done) | (go_simp; rfl)); intro w42 hw; have n0_ : Aside0 (w42.heap[gb200]? = some (.cells #[.int .i64 a0_0, .slice (some ad202) l0_1.length c0_1] 41 (0, 0))) := ⟨(by rw [hw]; exact (by (with_reducible repeat (first | refine blk_drewN ?_ _ | refine blk_drew ?_ | refine blk_alloc ?_ _)); refine blk_far ?_ NB200_203.out _; (with_reducible repeat (first | refine blk_drewN ?_ _ | refine blk_drew ?_ | refine blk_alloc ?_ _)); refine blk_far ?_ NB200_203.out _; (with_reducible repeat (first | refine blk_drewN ?_ _ | refine blk_drew ?_ | refine blk_alloc ?_ _)); refine blk_far ?_ NB200_203.out _; (with_reducible repeat (first | refine blk_drewN ?_ _ | refine blk_drew ?_ | refine blk_alloc ?_ _)); exact BK200.out))⟩; have n1_ : Aside0 (w42.heap[gb203]? = some (.cells #[.int .i64 ((rd_T79 l0_1 x20_2).f0), .int .i64 ((rd_T79 l0_1 x20_2).f1), .int .i64 ((rd_T79 l0_1 x20_2).f2)] 79 (0, 0))) := ⟨(by rw [hw]; exact (by (with_reducible repeat (first | refine blk_drewN ?_ _ | refine blk_drew ?_ | refine blk_alloc ?_ _)); refine blk_put (cs := #[.int .i64 ((rd_T79 l0_1 x20_2).f0), .int .i64 ((rd_T79 l0_1 x20_2).f1), .int .i64 0]) ?_ 2 _ rfl; (with_reducible repeat (first | refine blk_drewN ?_ _ | refine blk_drew ?_ | refine blk_alloc ?_ _)); refine blk_put (cs := #[.int .i64 ((rd_T79 l0_1 x20_2).f0), .int .i64 0, .int .i64 0]) ?_ 1 _ rfl; (with_reducible repeat (first | refine blk_drewN ?_ _ | refine blk_drew ?_ | refine blk_alloc ?_ _)); refine blk_put (cs := #[.int .i64 0, .int .i64 0, .int .i64 0]) ?_ 0 _ rfl; (with_reducible repeat (first | refine blk_drewN ?_ _ | refine blk_drew ?_ | refine blk_alloc ?_ _)); exact BK203.out))⟩; have n2_ : Aside0 (Below w.heap.size w w42) := ⟨(by rw [hw]; exact (bl_ HB))⟩; clear hw; clear BK200; clear BK203; clear HB; have BK200 := n0_; have BK203 := n1_; have HB := n2_; clear n0_ n1_ n2_; have hcz43_0 : w42.cell? ⟨gb200, 0, none⟩ = some (.int .i64 a0_0) := (blk_cell BK200.out 0).trans rfl; have hcz43_1 : w42.cell? ⟨gb200, 1, none⟩ = some (.slice (some ad202) l0_1.length c0_1) := (blk_cell BK200.out 1).trans rfl; have hfz43_0 := blk_frozen BK200.out 0; have hfz43_1 := blk_frozen BK200.out 1; have q44 : (x20_2 : Int) ≤ ((l0_1.length : Int) : Int) := of_decide_eq_true (by first | (with_reducible assumption) | assumption); obtain ⟨i044, hi044, _, hsz44, _⟩ := info_parts info79; have hroom44 : l0_1.length ≤ c0_1 := HC0_1.out; have hC44 : Kd.C k79 _ (some ad202) l0_1.length l0_1 := HR0_1.out; have hcut44 := cut_to (P := Try.prog) 39 79 .i64 Try.underlying39 hi044 (some ad202) l0_1.length c0_1 x20_2 (of_decide_eq_true (by first | (with_reducible assumption) | assumption)) q44 hroom44; have hr44 := Kd.C_take (m := (x20_2 : Int).toNat) hC44 (by omega); have hy44 : y204.length = (x20_2 : Int).toNat := (by rw [Ny204.out, List.length_take]; omega); rw [← Ny204.out] at hr44; rw [← hy44] at hcut44; have HR207 := Aside0.mk hr44; have HC207 := Aside0.mk (show y204.length ≤ c0_1 from by omega); clear hr44 hC44 hroom44 hi044 hsz44; have KY44 := Aside0.mk hy44; clear hy44; replace q44 := eq_true q44; have hcz45_0 : w42.cell? ⟨gb203, 0, none⟩ = some (.int .i64 ((rd_T79 l0_1 x20_2).f0)) := (blk_cell BK203.out 0).trans rfl; have hcz45_1 : w42.cell? ⟨gb203, 1, none⟩ = some (.int .i64 ((rd_T79 l0_1 x20_2).f1)) := (blk_cell BK203.out 1).trans rfl; have hcz45_2 : w42.cell? ⟨gb203, 2, none⟩ = some (.int .i64 ((rd_T79 l0_1 x20_2).f2)) := (blk_cell BK203.out 2).trans rfl; have hfz45_0 := blk_frozen BK203.out 0; have hfz45_1 := blk_frozen BK203.out 1; have hfz45_2 := blk_frozen BK203.out 2) | ((with_reducible refine gate_callee (f := 65) rfl ?_); refine goesL_ (some 30) rfl rfl Try.func65 (by kernel_rfl) rfl #[.slice (some ad202) y204.length c0_1, .func (.func 66) #[] #[.pointer (some ⟨gb203, 0, none⟩)]] rfl (by (try simp only [List.map_toArray, List.map_cons, List.map_nil]); first | done | rfl | (simp only [List.length_drop, List.length_take]; rfl) | (simp only [show ∀ (n_ : Nat) (b_ : Int), Int.tdiv (n_ : Int) b_ = (n_ : Int) / b_ from fun n_ b_ => Int.tdiv_eq_ediv_of_nonneg (Int.natCast_nonneg n_)]; rfl)) ?_; (with_reducible refine (impl_Tap_66.calls gb203 _ _ y204 ((rd_T79 l0_1 x20_2).f0) ((rd_T79 l0_1 x20_2).f1) ((rd_T79 l0_1 x20_2).f2) false _ ?side1 ?side2 A15.out ?side3 ?side4).mono ?_); (case side1 => repeat (first | exact (Kd.C_below HR207.out HB.out) | (with_reducible refine Kd.C_alloc ?_ _) | (with_reducible refine Kd.C_drewN ?_ _) | (with_reducible refine Kd.C_drew ?_))); (case side2 => exact HC207.out); (case side3 => exact (blk_cell BK203.out 0).trans rfl); (case side4 => exact (blk_cell BK203.out 1).trans rfl); rintro e w66_ ⟨rfl, hb66_⟩; refine ⟨_, rfl, ?_⟩; have n0_ := Aside0.mk (blk_below BK200.out hb66_); have n1_ := Aside0.mk (blk_below BK203.out hb66_); have n2_ := Aside0.mk (below_step HB.out hb66_); clear BK200 BK203 HB; have BK200 := n0_; have BK203 := n1_; have HB := n2_; clear n0_ n1_ n2_ hb66_; have hczT_0 : w66_.cell? ⟨gb203, 0, none⟩ = some (.int .i64 ((rd_T79 l0_1 x20_2).f0)) := (blk_cell BK203.out 0).trans rfl; have hczT_1 : w66_.cell? ⟨gb203, 1, none⟩ = some (.int .i64 ((rd_T79 l0_1 x20_2).f1)) := (blk_cell BK203.out 1).trans rfl; have hczT_2 : w66_.cell? ⟨gb203, 2, none⟩ = some (.int .i64 ((rd_T79 l0_1 x20_2).f2)) := (blk_cell BK203.out 2).trans rfl; have hfzT_0 := blk_frozen BK203.out 0; have hfzT_1 := blk_frozen BK203.out 1; have hfzT_2 := blk_frozen BK203.out 2) | (go_at_call 55; (with_reducible refine (impl_within.calls ((rd_T79 l0_1 x20_2).f0) 0 2 true _ A24.out).mono ?_); rintro e w' ⟨rfl, ⟨nd, rfl⟩⟩) | (go_at_call 55; (with_reducible refine (impl_within.calls ((rd_T79 l0_1 x20_2).f1) (-2) 2 true _ A26.out).mono ?_); rintro e w' ⟨rfl, ⟨nd, rfl⟩⟩) | (go_at_call 55; (with_reducible refine (impl_within.calls ((rd_T79 l0_1 x20_2).f2) 1 64 true _ A37.out).mono ?_); rintro e w' ⟨rfl, ⟨nd, rfl⟩⟩))
                go_roundg k2
                case measure => have := HJ1.out; have := HK2.out; omega
                case rel => exact ⟨(wrap64 (x3_2 + ((rd_T79 l0_1 x20_2).f2))), (wrap64 (x20_2 + 1)), (by first | rfl | (simp; done) | (simp [*]; done)), (by first | rfl | (simp; done) | (simp [*]; done)), H', ⟨by have := HJ1.out; have := HK2.out; omega⟩, ⟨bk_ BK200⟩, ⟨bl_ HB⟩⟩
               ·replace c38 := Bool.eq_false_iff.mpr c38
                subst c38
                have H1 : (some false) = some r := by rw [if_neg (show ¬ (false = true) by decide)] at H; exact H
                clear H
                have H := H1
                clear H1
                obtain rfl := Option.some.inj H
                have p202 : 0 ≤ (x20_2 : Int) := of_decide_eq_true (by first | (with_reducible assumption) | assumption)
                have q202 : x20_2 < (l0_1.length : Int) := of_decide_eq_true (by first | (with_reducible assumption) | assumption)
                obtain ⟨ad202, e202, hx202_0, hx202_1, hx202_2⟩ := at_T79 HR0_1.out x20_2 p202 q202
                cases e202
                replace hx202_0 := (HB.out.cell (World.block_lt_of_cell? w _ hx202_0)).trans hx202_0
                replace hx202_1 := (HB.out.cell (World.block_lt_of_cell? w _ hx202_1)).trans hx202_1
                replace hx202_2 := (HB.out.cell (World.block_lt_of_cell? w _ hx202_2)).trans hx202_2
                replace p202 := eq_true p202
                replace q202 := eq_true q202
                go_wp2_with (first | ((with_reducible refine gate_dst (N := 5) rfl ?_); (try (refine gate_guard (by rfl) ?_; dsimp only)); refine box_event ?hg (N := 5) ?hd (cs := #[.int .i64 0, .int .i64 0, .int .i64 0]) (t := 79) ?hr ?_; (case hd => rfl); (case hg => rfl); (case hr => first | (go_simp; done) | (go_simp; rfl)); intro gb203 hg w46 hbox hb; have n0_ := Aside0.mk (blk_below (g := gb200) (o := .cells #[.int .i64 a0_0, .slice (some ad202) l0_1.length c0_1] 41 (0, 0)) (bk_ BK200) hb); have n1_ := Aside0.mk (below_step (bl_ HB) hb); have n2_ := Aside0.mk (hbox); have n3_ := Aside0.mk ((by rw [hg]; exact (below_size (bl_ HB)) : w.heap.size ≤ gb203)); have n4_ := Aside0.mk ((by rw [hg]; exact (below_size (bl_ HB)) : w.heap.size ≤ gb203)); have n5_ := Aside0.mk ((by rw [hg]; exact Nat.ne_of_lt (blk_lt (g := gb200) (o := .cells #[.int .i64 a0_0, .slice (some ad202) l0_1.length c0_1] 41 (0, 0)) (bk_ BK200)) : gb200 ≠ gb203)); have n6_ := Aside0.mk ((by rw [hg]; exact Nat.ne_of_gt (blk_lt (g := gb200) (o := .cells #[.int .i64 a0_0, .slice (some ad202) l0_1.length c0_1] 41 (0, 0)) (bk_ BK200)) : gb203 ≠ gb200)); clear BK200; clear HB; have BK200 := n0_; have HB := n1_; have BK203 := n2_; have GW203 := n3_; have GE203 := n4_; have NB200_203 := n5_; have NB203_200 := n6_; clear n0_ n1_ n2_ n3_ n4_ n5_ n6_; clear hb hbox hg; have hnb47 := NB203_200.out; have hnc47 := NB200_203.out; have hcz48_0 : w46.cell? ⟨gb203, 0, none⟩ = some (.int .i64 0) := (blk_cell BK203.out 0).trans rfl; have hcz48_1 : w46.cell? ⟨gb203, 1, none⟩ = some (.int .i64 0) := (blk_cell BK203.out 1).trans rfl; have hcz48_2 : w46.cell? ⟨gb203, 2, none⟩ = some (.int .i64 0) := (blk_cell BK203.out 2).trans rfl; have hfz48_0 := blk_frozen BK203.out 0; have hfz48_1 := blk_frozen BK203.out 1; have hfz48_2 := blk_frozen BK203.out 2) | ((with_reducible refine gate_store (t := 79) (p := 5) rfl ?_); refine store_event (t := 79) (p := 5) (v := ?vo_w49) (w1 := (((w46.setCell ⟨gb203, 0, none⟩ (.int .i64 ((rd_T79 l0_1 x20_2).f0))).setCell ⟨gb203, 1, none⟩ (.int .i64 ((rd_T79 l0_1 x20_2).f1))).setCell ⟨gb203, 2, none⟩ (.int .i64 ((rd_T79 l0_1 x20_2).f2)))) ?hg ?ho ?hn ?hr ?_; (case ho => rfl); (case hg => rfl); (case hn => rfl); (case hr => first | (go_simp; done) | (go_simp; rfl)); intro w49 hw; have n0_ : Aside0 (w49.heap[gb200]? = some (.cells #[.int .i64 a0_0, .slice (some ad202) l0_1.length c0_1] 41 (0, 0))) := ⟨(by rw [hw]; exact (by (with_reducible repeat (first | refine blk_drewN ?_ _ | refine blk_drew ?_ | refine blk_alloc ?_ _)); refine blk_far ?_ NB200_203.out _; (with_reducible repeat (first | refine blk_drewN ?_ _ | refine blk_drew ?_ | refine blk_alloc ?_ _)); refine blk_far ?_ NB200_203.out _; (with_reducible repeat (first | refine blk_drewN ?_ _ | refine blk_drew ?_ | refine blk_alloc ?_ _)); refine blk_far ?_ NB200_203.out _; (with_reducible repeat (first | refine blk_drewN ?_ _ | refine blk_drew ?_ | refine blk_alloc ?_ _)); exact BK200.out))⟩; have n1_ : Aside0 (w49.heap[gb203]? = some (.cells #[.int .i64 ((rd_T79 l0_1 x20_2).f0), .int .i64 ((rd_T79 l0_1 x20_2).f1), .int .i64 ((rd_T79 l0_1 x20_2).f2)] 79 (0, 0))) := ⟨(by rw [hw]; exact (by (with_reducible repeat (first | refine blk_drewN ?_ _ | refine blk_drew ?_ | refine blk_alloc ?_ _)); refine blk_put (cs := #[.int .i64 ((rd_T79 l0_1 x20_2).f0), .int .i64 ((rd_T79 l0_1 x20_2).f1), .int .i64 0]) ?_ 2 _ rfl; (with_reducible repeat (first | refine blk_drewN ?_ _ | refine blk_drew ?_ | refine blk_alloc ?_ _)); refine blk_put (cs := #[.int .i64 ((rd_T79 l0_1 x20_2).f0), .int .i64 0, .int .i64 0]) ?_ 1 _ rfl; (with_reducible repeat (first | refine blk_drewN ?_ _ | refine blk_drew ?_ | refine blk_alloc ?_ _)); refine blk_put (cs := #[.int .i64 0, .int .i64 0, .int .i64 0]) ?_ 0 _ rfl; (with_reducible repeat (first | refine blk_drewN ?_ _ | refine blk_drew ?_ | refine blk_alloc ?_ _)); exact BK203.out))⟩; have n2_ : Aside0 (Below w.heap.size w w49) := ⟨(by rw [hw]; exact (bl_ HB))⟩; clear hw; clear BK200; clear BK203; clear HB; have BK200 := n0_; have BK203 := n1_; have HB := n2_; clear n0_ n1_ n2_; have hcz50_0 : w49.cell? ⟨gb200, 0, none⟩ = some (.int .i64 a0_0) := (blk_cell BK200.out 0).trans rfl; have hcz50_1 : w49.cell? ⟨gb200, 1, none⟩ = some (.slice (some ad202) l0_1.length c0_1) := (blk_cell BK200.out 1).trans rfl; have hfz50_0 := blk_frozen BK200.out 0; have hfz50_1 := blk_frozen BK200.out 1; have q51 : (x20_2 : Int) ≤ ((l0_1.length : Int) : Int) := of_decide_eq_true (by first | (with_reducible assumption) | assumption); obtain ⟨i051, hi051, _, hsz51, _⟩ := info_parts info79; have hroom51 : l0_1.length ≤ c0_1 := HC0_1.out; have hC51 : Kd.C k79 _ (some ad202) l0_1.length l0_1 := HR0_1.out; have hcut51 := cut_to (P := Try.prog) 39 79 .i64 Try.underlying39 hi051 (some ad202) l0_1.length c0_1 x20_2 (of_decide_eq_true (by first | (with_reducible assumption) | assumption)) q51 hroom51; have hr51 := Kd.C_take (m := (x20_2 : Int).toNat) hC51 (by omega); have hy51 : y204.length = (x20_2 : Int).toNat := (by rw [Ny204.out, List.length_take]; omega); rw [← Ny204.out] at hr51; rw [← hy51] at hcut51; have HR207 := Aside0.mk hr51; have HC207 := Aside0.mk (show y204.length ≤ c0_1 from by omega); clear hr51 hC51 hroom51 hi051 hsz51; have KY51 := Aside0.mk hy51; clear hy51; replace q51 := eq_true q51; have hcz52_0 : w49.cell? ⟨gb203, 0, none⟩ = some (.int .i64 ((rd_T79 l0_1 x20_2).f0)) := (blk_cell BK203.out 0).trans rfl; have hcz52_1 : w49.cell? ⟨gb203, 1, none⟩ = some (.int .i64 ((rd_T79 l0_1 x20_2).f1)) := (blk_cell BK203.out 1).trans rfl; have hcz52_2 : w49.cell? ⟨gb203, 2, none⟩ = some (.int .i64 ((rd_T79 l0_1 x20_2).f2)) := (blk_cell BK203.out 2).trans rfl; have hfz52_0 := blk_frozen BK203.out 0; have hfz52_1 := blk_frozen BK203.out 1; have hfz52_2 := blk_frozen BK203.out 2) | ((with_reducible refine gate_callee (f := 65) rfl ?_); refine goesL_ (some 30) rfl rfl Try.func65 (by kernel_rfl) rfl #[.slice (some ad202) y204.length c0_1, .func (.func 66) #[] #[.pointer (some ⟨gb203, 0, none⟩)]] rfl (by (try simp only [List.map_toArray, List.map_cons, List.map_nil]); first | done | rfl | (simp only [List.length_drop, List.length_take]; rfl) | (simp only [show ∀ (n_ : Nat) (b_ : Int), Int.tdiv (n_ : Int) b_ = (n_ : Int) / b_ from fun n_ b_ => Int.tdiv_eq_ediv_of_nonneg (Int.natCast_nonneg n_)]; rfl)) ?_; (with_reducible refine (impl_Tap_66.calls gb203 _ _ y204 ((rd_T79 l0_1 x20_2).f0) ((rd_T79 l0_1 x20_2).f1) ((rd_T79 l0_1 x20_2).f2) false _ ?side1 ?side2 A15.out ?side3 ?side4).mono ?_); (case side1 => repeat (first | exact (Kd.C_below HR207.out HB.out) | (with_reducible refine Kd.C_alloc ?_ _) | (with_reducible refine Kd.C_drewN ?_ _) | (with_reducible refine Kd.C_drew ?_))); (case side2 => exact HC207.out); (case side3 => exact (blk_cell BK203.out 0).trans rfl); (case side4 => exact (blk_cell BK203.out 1).trans rfl); rintro e w66_ ⟨rfl, hb66_⟩; refine ⟨_, rfl, ?_⟩; have n0_ := Aside0.mk (blk_below BK200.out hb66_); have n1_ := Aside0.mk (blk_below BK203.out hb66_); have n2_ := Aside0.mk (below_step HB.out hb66_); clear BK200 BK203 HB; have BK200 := n0_; have BK203 := n1_; have HB := n2_; clear n0_ n1_ n2_ hb66_; have hczT_0 : w66_.cell? ⟨gb203, 0, none⟩ = some (.int .i64 ((rd_T79 l0_1 x20_2).f0)) := (blk_cell BK203.out 0).trans rfl; have hczT_1 : w66_.cell? ⟨gb203, 1, none⟩ = some (.int .i64 ((rd_T79 l0_1 x20_2).f1)) := (blk_cell BK203.out 1).trans rfl; have hczT_2 : w66_.cell? ⟨gb203, 2, none⟩ = some (.int .i64 ((rd_T79 l0_1 x20_2).f2)) := (blk_cell BK203.out 2).trans rfl; have hfzT_0 := blk_frozen BK203.out 0; have hfzT_1 := blk_frozen BK203.out 1; have hfzT_2 := blk_frozen BK203.out 2) | (go_at_call 55; (with_reducible refine (impl_within.calls ((rd_T79 l0_1 x20_2).f0) 0 2 true _ A24.out).mono ?_); rintro e w' ⟨rfl, ⟨nd, rfl⟩⟩) | (go_at_call 55; (with_reducible refine (impl_within.calls ((rd_T79 l0_1 x20_2).f1) (-2) 2 true _ A26.out).mono ?_); rintro e w' ⟨rfl, ⟨nd, rfl⟩⟩) | (go_at_call 55; (with_reducible refine (impl_within.calls ((rd_T79 l0_1 x20_2).f2) 1 64 false _ A37.out).mono ?_); rintro e w' ⟨rfl, ⟨nd, rfl⟩⟩))
                go_ret
                exact ⟨by first | rfl | (simp [errW_none, errW_some] <;> rfl) | (simp [*, errW_none, errW_some] <;> rfl), bl_ HB⟩
             ·rw [if_neg c28] at H
              have c28b0 : decide (((rd_T79 l0_1 x20_2).f0) < 1) = false := decide_eq_false c28
              clear c28
              replace H := Option.bind_eq_some_iff.mp H
              obtain ⟨t212, A530, H⟩ := H
              replace H : (if t212 = true then (impl_ValidKernel.l0 k2 (wrap64 (x3_2 + ((rd_T79 l0_1 x20_2).f2))) l0_1 (l0_1.length : Int) (wrap64 (x20_2 + 1)) a0_0 l0_1) else (some false)) = some r := H
              have A53 := Aside0.mk A530
              clear A530
              by_cases c54 : t212 = true
              ·subst c54
               have H1 : (impl_ValidKernel.l0 k2 (wrap64 (x3_2 + ((rd_T79 l0_1 x20_2).f2))) l0_1 (l0_1.length : Int) (wrap64 (x20_2 + 1)) a0_0 l0_1) = some r := by rw [if_pos rfl] at H; exact H
               clear H
               have H := H1
               clear H1
               have H' := Aside0.mk H
               clear H
               have p202 : 0 ≤ (x20_2 : Int) := of_decide_eq_true (by first | (with_reducible assumption) | assumption)
               have q202 : x20_2 < (l0_1.length : Int) := of_decide_eq_true (by first | (with_reducible assumption) | assumption)
               obtain ⟨ad202, e202, hx202_0, hx202_1, hx202_2⟩ := at_T79 HR0_1.out x20_2 p202 q202
               cases e202
               replace hx202_0 := (HB.out.cell (World.block_lt_of_cell? w _ hx202_0)).trans hx202_0
               replace hx202_1 := (HB.out.cell (World.block_lt_of_cell? w _ hx202_1)).trans hx202_1
               replace hx202_2 := (HB.out.cell (World.block_lt_of_cell? w _ hx202_2)).trans hx202_2
               replace p202 := eq_true p202
               replace q202 := eq_true q202
               go_wp2_with (first | ((with_reducible refine gate_dst (N := 5) rfl ?_); (try (refine gate_guard (by rfl) ?_; dsimp only)); refine box_event ?hg (N := 5) ?hd (cs := #[.int .i64 0, .int .i64 0, .int .i64 0]) (t := 79) ?hr ?_; (case hd => rfl); (case hg => rfl); (case hr => first | (go_simp; done) | (go_simp; rfl)); intro gb203 hg w55 hbox hb; have n0_ := Aside0.mk (blk_below (g := gb200) (o := .cells #[.int .i64 a0_0, .slice (some ad202) l0_1.length c0_1] 41 (0, 0)) (bk_ BK200) hb); have n1_ := Aside0.mk (below_step (bl_ HB) hb); have n2_ := Aside0.mk (hbox); have n3_ := Aside0.mk ((by rw [hg]; exact (below_size (bl_ HB)) : w.heap.size ≤ gb203)); have n4_ := Aside0.mk ((by rw [hg]; exact (below_size (bl_ HB)) : w.heap.size ≤ gb203)); have n5_ := Aside0.mk ((by rw [hg]; exact Nat.ne_of_lt (blk_lt (g := gb200) (o := .cells #[.int .i64 a0_0, .slice (some ad202) l0_1.length c0_1] 41 (0, 0)) (bk_ BK200)) : gb200 ≠ gb203)); have n6_ := Aside0.mk ((by rw [hg]; exact Nat.ne_of_gt (blk_lt (g := gb200) (o := .cells #[.int .i64 a0_0, .slice (some ad202) l0_1.length c0_1] 41 (0, 0)) (bk_ BK200)) : gb203 ≠ gb200)); clear BK200; clear HB; have BK200 := n0_; have HB := n1_; have BK203 := n2_; have GW203 := n3_; have GE203 := n4_; have NB200_203 := n5_; have NB203_200 := n6_; clear n0_ n1_ n2_ n3_ n4_ n5_ n6_; clear hb hbox hg; have hnb56 := NB203_200.out; have hnc56 := NB200_203.out; have hcz57_0 : w55.cell? ⟨gb203, 0, none⟩ = some (.int .i64 0) := (blk_cell BK203.out 0).trans rfl; have hcz57_1 : w55.cell? ⟨gb203, 1, none⟩ = some (.int .i64 0) := (blk_cell BK203.out 1).trans rfl; have hcz57_2 : w55.cell? ⟨gb203, 2, none⟩ = some (.int .i64 0) := (blk_cell BK203.out 2).trans rfl; have hfz57_0 := blk_frozen BK203.out 0; have hfz57_1 := blk_frozen BK203.out 1; have hfz57_2 := blk_frozen BK203.out 2) | ((with_reducible refine gate_store (t := 79) (p := 5) rfl ?_); refine store_event (t := 79) (p := 5) (v := ?vo_w58) (w1 := (((w55.setCell ⟨gb203, 0, none⟩ (.int .i64 ((rd_T79 l0_1 x20_2).f0))).setCell ⟨gb203, 1, none⟩ (.int .i64 ((rd_T79 l0_1 x20_2).f1))).setCell ⟨gb203, 2, none⟩ (.int .i64 ((rd_T79 l0_1 x20_2).f2)))) ?hg ?ho ?hn ?hr ?_; (case ho => rfl); (case hg => rfl); (case hn => rfl); (case hr => first | (go_simp; done) | (go_simp; rfl)); intro w58 hw; have n0_ : Aside0 (w58.heap[gb200]? = some (.cells #[.int .i64 a0_0, .slice (some ad202) l0_1.length c0_1] 41 (0, 0))) := ⟨(by rw [hw]; exact (by (with_reducible repeat (first | refine blk_drewN ?_ _ | refine blk_drew ?_ | refine blk_alloc ?_ _)); refine blk_far ?_ NB200_203.out _; (with_reducible repeat (first | refine blk_drewN ?_ _ | refine blk_drew ?_ | refine blk_alloc ?_ _)); refine blk_far ?_ NB200_203.out _; (with_reducible repeat (first | refine blk_drewN ?_ _ | refine blk_drew ?_ | refine blk_alloc ?_ _)); refine blk_far ?_ NB200_203.out _; (with_reducible repeat (first | refine blk_drewN ?_ _ | refine blk_drew ?_ | refine blk_alloc ?_ _)); exact BK200.out))⟩; have n1_ : Aside0 (w58.heap[gb203]? = some (.cells #[.int .i64 ((rd_T79 l0_1 x20_2).f0), .int .i64 ((rd_T79 l0_1 x20_2).f1), .int .i64 ((rd_T79 l0_1 x20_2).f2)] 79 (0, 0))) := ⟨(by rw [hw]; exact (by (with_reducible repeat (first | refine blk_drewN ?_ _ | refine blk_drew ?_ | refine blk_alloc ?_ _)); refine blk_put (cs := #[.int .i64 ((rd_T79 l0_1 x20_2).f0), .int .i64 ((rd_T79 l0_1 x20_2).f1), .int .i64 0]) ?_ 2 _ rfl; (with_reducible repeat (first | refine blk_drewN ?_ _ | refine blk_drew ?_ | refine blk_alloc ?_ _)); refine blk_put (cs := #[.int .i64 ((rd_T79 l0_1 x20_2).f0), .int .i64 0, .int .i64 0]) ?_ 1 _ rfl; (with_reducible repeat (first | refine blk_drewN ?_ _ | refine blk_drew ?_ | refine blk_alloc ?_ _)); refine blk_put (cs := #[.int .i64 0, .int .i64 0, .int .i64 0]) ?_ 0 _ rfl; (with_reducible repeat (first | refine blk_drewN ?_ _ | refine blk_drew ?_ | refine blk_alloc ?_ _)); exact BK203.out))⟩; have n2_ : Aside0 (Below w.heap.size w w58) := ⟨(by rw [hw]; exact (bl_ HB))⟩; clear hw; clear BK200; clear BK203; clear HB; have BK200 := n0_; have BK203 := n1_; have HB := n2_; clear n0_ n1_ n2_; have hcz59_0 : w58.cell? ⟨gb200, 0, none⟩ = some (.int .i64 a0_0) := (blk_cell BK200.out 0).trans rfl; have hcz59_1 : w58.cell? ⟨gb200, 1, none⟩ = some (.slice (some ad202) l0_1.length c0_1) := (blk_cell BK200.out 1).trans rfl; have hfz59_0 := blk_frozen BK200.out 0; have hfz59_1 := blk_frozen BK200.out 1; have q60 : (x20_2 : Int) ≤ ((l0_1.length : Int) : Int) := of_decide_eq_true (by first | (with_reducible assumption) | assumption); obtain ⟨i060, hi060, _, hsz60, _⟩ := info_parts info79; have hroom60 : l0_1.length ≤ c0_1 := HC0_1.out; have hC60 : Kd.C k79 _ (some ad202) l0_1.length l0_1 := HR0_1.out; have hcut60 := cut_to (P := Try.prog) 39 79 .i64 Try.underlying39 hi060 (some ad202) l0_1.length c0_1 x20_2 (of_decide_eq_true (by first | (with_reducible assumption) | assumption)) q60 hroom60; have hr60 := Kd.C_take (m := (x20_2 : Int).toNat) hC60 (by omega); have hy60 : y204.length = (x20_2 : Int).toNat := (by rw [Ny204.out, List.length_take]; omega); rw [← Ny204.out] at hr60; rw [← hy60] at hcut60; have HR207 := Aside0.mk hr60; have HC207 := Aside0.mk (show y204.length ≤ c0_1 from by omega); clear hr60 hC60 hroom60 hi060 hsz60; have KY60 := Aside0.mk hy60; clear hy60; replace q60 := eq_true q60; have hcz61_0 : w58.cell? ⟨gb203, 0, none⟩ = some (.int .i64 ((rd_T79 l0_1 x20_2).f0)) := (blk_cell BK203.out 0).trans rfl; have hcz61_1 : w58.cell? ⟨gb203, 1, none⟩ = some (.int .i64 ((rd_T79 l0_1 x20_2).f1)) := (blk_cell BK203.out 1).trans rfl; have hcz61_2 : w58.cell? ⟨gb203, 2, none⟩ = some (.int .i64 ((rd_T79 l0_1 x20_2).f2)) := (blk_cell BK203.out 2).trans rfl; have hfz61_0 := blk_frozen BK203.out 0; have hfz61_1 := blk_frozen BK203.out 1; have hfz61_2 := blk_frozen BK203.out 2) | ((with_reducible refine gate_callee (f := 65) rfl ?_); refine goesL_ (some 30) rfl rfl Try.func65 (by kernel_rfl) rfl #[.slice (some ad202) y204.length c0_1, .func (.func 66) #[] #[.pointer (some ⟨gb203, 0, none⟩)]] rfl (by (try simp only [List.map_toArray, List.map_cons, List.map_nil]); first | done | rfl | (simp only [List.length_drop, List.length_take]; rfl) | (simp only [show ∀ (n_ : Nat) (b_ : Int), Int.tdiv (n_ : Int) b_ = (n_ : Int) / b_ from fun n_ b_ => Int.tdiv_eq_ediv_of_nonneg (Int.natCast_nonneg n_)]; rfl)) ?_; (with_reducible refine (impl_Tap_66.calls gb203 _ _ y204 ((rd_T79 l0_1 x20_2).f0) ((rd_T79 l0_1 x20_2).f1) ((rd_T79 l0_1 x20_2).f2) false _ ?side1 ?side2 A15.out ?side3 ?side4).mono ?_); (case side1 => repeat (first | exact (Kd.C_below HR207.out HB.out) | (with_reducible refine Kd.C_alloc ?_ _) | (with_reducible refine Kd.C_drewN ?_ _) | (with_reducible refine Kd.C_drew ?_))); (case side2 => exact HC207.out); (case side3 => exact (blk_cell BK203.out 0).trans rfl); (case side4 => exact (blk_cell BK203.out 1).trans rfl); rintro e w66_ ⟨rfl, hb66_⟩; refine ⟨_, rfl, ?_⟩; have n0_ := Aside0.mk (blk_below BK200.out hb66_); have n1_ := Aside0.mk (blk_below BK203.out hb66_); have n2_ := Aside0.mk (below_step HB.out hb66_); clear BK200 BK203 HB; have BK200 := n0_; have BK203 := n1_; have HB := n2_; clear n0_ n1_ n2_ hb66_; have hczT_0 : w66_.cell? ⟨gb203, 0, none⟩ = some (.int .i64 ((rd_T79 l0_1 x20_2).f0)) := (blk_cell BK203.out 0).trans rfl; have hczT_1 : w66_.cell? ⟨gb203, 1, none⟩ = some (.int .i64 ((rd_T79 l0_1 x20_2).f1)) := (blk_cell BK203.out 1).trans rfl; have hczT_2 : w66_.cell? ⟨gb203, 2, none⟩ = some (.int .i64 ((rd_T79 l0_1 x20_2).f2)) := (blk_cell BK203.out 2).trans rfl; have hfzT_0 := blk_frozen BK203.out 0; have hfzT_1 := blk_frozen BK203.out 1; have hfzT_2 := blk_frozen BK203.out 2) | (go_at_call 55; (with_reducible refine (impl_within.calls ((rd_T79 l0_1 x20_2).f0) 0 2 true _ A24.out).mono ?_); rintro e w' ⟨rfl, ⟨nd, rfl⟩⟩) | (go_at_call 55; (with_reducible refine (impl_within.calls ((rd_T79 l0_1 x20_2).f1) (-2) 2 true _ A26.out).mono ?_); rintro e w' ⟨rfl, ⟨nd, rfl⟩⟩) | (go_at_call 55; (with_reducible refine (impl_within.calls ((rd_T79 l0_1 x20_2).f2) 1 64 true _ A53.out).mono ?_); rintro e w' ⟨rfl, ⟨nd, rfl⟩⟩))
               go_roundg k2
               case measure => have := HJ1.out; have := HK2.out; omega
               case rel => exact ⟨(wrap64 (x3_2 + ((rd_T79 l0_1 x20_2).f2))), (wrap64 (x20_2 + 1)), (by first | rfl | (simp; done) | (simp [*]; done)), (by first | rfl | (simp; done) | (simp [*]; done)), H', ⟨by have := HJ1.out; have := HK2.out; omega⟩, ⟨bk_ BK200⟩, ⟨bl_ HB⟩⟩
              ·replace c54 := Bool.eq_false_iff.mpr c54
               subst c54
               have H1 : (some false) = some r := by rw [if_neg (show ¬ (false = true) by decide)] at H; exact H
               clear H
               have H := H1
               clear H1
               obtain rfl := Option.some.inj H
               have p202 : 0 ≤ (x20_2 : Int) := of_decide_eq_true (by first | (with_reducible assumption) | assumption)
               have q202 : x20_2 < (l0_1.length : Int) := of_decide_eq_true (by first | (with_reducible assumption) | assumption)
               obtain ⟨ad202, e202, hx202_0, hx202_1, hx202_2⟩ := at_T79 HR0_1.out x20_2 p202 q202
               cases e202
               replace hx202_0 := (HB.out.cell (World.block_lt_of_cell? w _ hx202_0)).trans hx202_0
               replace hx202_1 := (HB.out.cell (World.block_lt_of_cell? w _ hx202_1)).trans hx202_1
               replace hx202_2 := (HB.out.cell (World.block_lt_of_cell? w _ hx202_2)).trans hx202_2
               replace p202 := eq_true p202
               replace q202 := eq_true q202
               go_wp2_with (first | ((with_reducible refine gate_dst (N := 5) rfl ?_); (try (refine gate_guard (by rfl) ?_; dsimp only)); refine box_event ?hg (N := 5) ?hd (cs := #[.int .i64 0, .int .i64 0, .int .i64 0]) (t := 79) ?hr ?_; (case hd => rfl); (case hg => rfl); (case hr => first | (go_simp; done) | (go_simp; rfl)); intro gb203 hg w62 hbox hb; have n0_ := Aside0.mk (blk_below (g := gb200) (o := .cells #[.int .i64 a0_0, .slice (some ad202) l0_1.length c0_1] 41 (0, 0)) (bk_ BK200) hb); have n1_ := Aside0.mk (below_step (bl_ HB) hb); have n2_ := Aside0.mk (hbox); have n3_ := Aside0.mk ((by rw [hg]; exact (below_size (bl_ HB)) : w.heap.size ≤ gb203)); have n4_ := Aside0.mk ((by rw [hg]; exact (below_size (bl_ HB)) : w.heap.size ≤ gb203)); have n5_ := Aside0.mk ((by rw [hg]; exact Nat.ne_of_lt (blk_lt (g := gb200) (o := .cells #[.int .i64 a0_0, .slice (some ad202) l0_1.length c0_1] 41 (0, 0)) (bk_ BK200)) : gb200 ≠ gb203)); have n6_ := Aside0.mk ((by rw [hg]; exact Nat.ne_of_gt (blk_lt (g := gb200) (o := .cells #[.int .i64 a0_0, .slice (some ad202) l0_1.length c0_1] 41 (0, 0)) (bk_ BK200)) : gb203 ≠ gb200)); clear BK200; clear HB; have BK200 := n0_; have HB := n1_; have BK203 := n2_; have GW203 := n3_; have GE203 := n4_; have NB200_203 := n5_; have NB203_200 := n6_; clear n0_ n1_ n2_ n3_ n4_ n5_ n6_; clear hb hbox hg; have hnb63 := NB203_200.out; have hnc63 := NB200_203.out; have hcz64_0 : w62.cell? ⟨gb203, 0, none⟩ = some (.int .i64 0) := (blk_cell BK203.out 0).trans rfl; have hcz64_1 : w62.cell? ⟨gb203, 1, none⟩ = some (.int .i64 0) := (blk_cell BK203.out 1).trans rfl; have hcz64_2 : w62.cell? ⟨gb203, 2, none⟩ = some (.int .i64 0) := (blk_cell BK203.out 2).trans rfl; have hfz64_0 := blk_frozen BK203.out 0; have hfz64_1 := blk_frozen BK203.out 1; have hfz64_2 := blk_frozen BK203.out 2) | ((with_reducible refine gate_store (t := 79) (p := 5) rfl ?_); refine store_event (t := 79) (p := 5) (v := ?vo_w65) (w1 := (((w62.setCell ⟨gb203, 0, none⟩ (.int .i64 ((rd_T79 l0_1 x20_2).f0))).setCell ⟨gb203, 1, none⟩ (.int .i64 ((rd_T79 l0_1 x20_2).f1))).setCell ⟨gb203, 2, none⟩ (.int .i64 ((rd_T79 l0_1 x20_2).f2)))) ?hg ?ho ?hn ?hr ?_; (case ho => rfl); (case hg => rfl); (case hn => rfl); (case hr => first | (go_simp; done) | (go_simp; rfl)); intro w65 hw; have n0_ : Aside0 (w65.heap[gb200]? = some (.cells #[.int .i64 a0_0, .slice (some ad202) l0_1.length c0_1] 41 (0, 0))) := ⟨(by rw [hw]; exact (by (with_reducible repeat (first | refine blk_drewN ?_ _ | refine blk_drew ?_ | refine blk_alloc ?_ _)); refine blk_far ?_ NB200_203.out _; (with_reducible repeat (first | refine blk_drewN ?_ _ | refine blk_drew ?_ | refine blk_alloc ?_ _)); refine blk_far ?_ NB200_203.out _; (with_reducible repeat (first | refine blk_drewN ?_ _ | refine blk_drew ?_ | refine blk_alloc ?_ _)); refine blk_far ?_ NB200_203.out _; (with_reducible repeat (first | refine blk_drewN ?_ _ | refine blk_drew ?_ | refine blk_alloc ?_ _)); exact BK200.out))⟩; have n1_ : Aside0 (w65.heap[gb203]? = some (.cells #[.int .i64 ((rd_T79 l0_1 x20_2).f0), .int .i64 ((rd_T79 l0_1 x20_2).f1), .int .i64 ((rd_T79 l0_1 x20_2).f2)] 79 (0, 0))) := ⟨(by rw [hw]; exact (by (with_reducible repeat (first | refine blk_drewN ?_ _ | refine blk_drew ?_ | refine blk_alloc ?_ _)); refine blk_put (cs := #[.int .i64 ((rd_T79 l0_1 x20_2).f0), .int .i64 ((rd_T79 l0_1 x20_2).f1), .int .i64 0]) ?_ 2 _ rfl; (with_reducible repeat (first | refine blk_drewN ?_ _ | refine blk_drew ?_ | refine blk_alloc ?_ _)); refine blk_put (cs := #[.int .i64 ((rd_T79 l0_1 x20_2).f0), .int .i64 0, .int .i64 0]) ?_ 1 _ rfl; (with_reducible repeat (first | refine blk_drewN ?_ _ | refine blk_drew ?_ | refine blk_alloc ?_ _)); refine blk_put (cs := #[.int .i64 0, .int .i64 0, .int .i64 0]) ?_ 0 _ rfl; (with_reducible repeat (first | refine blk_drewN ?_ _ | refine blk_drew ?_ | refine blk_alloc ?_ _)); exact BK203.out))⟩; have n2_ : Aside0 (Below w.heap.size w w65) := ⟨(by rw [hw]; exact (bl_ HB))⟩; clear hw; clear BK200; clear BK203; clear HB; have BK200 := n0_; have BK203 := n1_; have HB := n2_; clear n0_ n1_ n2_; have hcz66_0 : w65.cell? ⟨gb200, 0, none⟩ = some (.int .i64 a0_0) := (blk_cell BK200.out 0).trans rfl; have hcz66_1 : w65.cell? ⟨gb200, 1, none⟩ = some (.slice (some ad202) l0_1.length c0_1) := (blk_cell BK200.out 1).trans rfl; have hfz66_0 := blk_frozen BK200.out 0; have hfz66_1 := blk_frozen BK200.out 1; have q67 : (x20_2 : Int) ≤ ((l0_1.length : Int) : Int) := of_decide_eq_true (by first | (with_reducible assumption) | assumption); obtain ⟨i067, hi067, _, hsz67, _⟩ := info_parts info79; have hroom67 : l0_1.length ≤ c0_1 := HC0_1.out; have hC67 : Kd.C k79 _ (some ad202) l0_1.length l0_1 := HR0_1.out; have hcut67 := cut_to (P := Try.prog) 39 79 .i64 Try.underlying39 hi067 (some ad202) l0_1.length c0_1 x20_2 (of_decide_eq_true (by first | (with_reducible assumption) | assumption)) q67 hroom67; have hr67 := Kd.C_take (m := (x20_2 : Int).toNat) hC67 (by omega); have hy67 : y204.length = (x20_2 : Int).toNat := (by rw [Ny204.out, List.length_take]; omega); rw [← Ny204.out] at hr67; rw [← hy67] at hcut67; have HR207 := Aside0.mk hr67; have HC207 := Aside0.mk (show y204.length ≤ c0_1 from by omega); clear hr67 hC67 hroom67 hi067 hsz67; have KY67 := Aside0.mk hy67; clear hy67; replace q67 := eq_true q67; have hcz68_0 : w65.cell? ⟨gb203, 0, none⟩ = some (.int .i64 ((rd_T79 l0_1 x20_2).f0)) := (blk_cell BK203.out 0).trans rfl; have hcz68_1 : w65.cell? ⟨gb203, 1, none⟩ = some (.int .i64 ((rd_T79 l0_1 x20_2).f1)) := (blk_cell BK203.out 1).trans rfl; have hcz68_2 : w65.cell? ⟨gb203, 2, none⟩ = some (.int .i64 ((rd_T79 l0_1 x20_2).f2)) := (blk_cell BK203.out 2).trans rfl; have hfz68_0 := blk_frozen BK203.out 0; have hfz68_1 := blk_frozen BK203.out 1; have hfz68_2 := blk_frozen BK203.out 2) | ((with_reducible refine gate_callee (f := 65) rfl ?_); refine goesL_ (some 30) rfl rfl Try.func65 (by kernel_rfl) rfl #[.slice (some ad202) y204.length c0_1, .func (.func 66) #[] #[.pointer (some ⟨gb203, 0, none⟩)]] rfl (by (try simp only [List.map_toArray, List.map_cons, List.map_nil]); first | done | rfl | (simp only [List.length_drop, List.length_take]; rfl) | (simp only [show ∀ (n_ : Nat) (b_ : Int), Int.tdiv (n_ : Int) b_ = (n_ : Int) / b_ from fun n_ b_ => Int.tdiv_eq_ediv_of_nonneg (Int.natCast_nonneg n_)]; rfl)) ?_; (with_reducible refine (impl_Tap_66.calls gb203 _ _ y204 ((rd_T79 l0_1 x20_2).f0) ((rd_T79 l0_1 x20_2).f1) ((rd_T79 l0_1 x20_2).f2) false _ ?side1 ?side2 A15.out ?side3 ?side4).mono ?_); (case side1 => repeat (first | exact (Kd.C_below HR207.out HB.out) | (with_reducible refine Kd.C_alloc ?_ _) | (with_reducible refine Kd.C_drewN ?_ _) | (with_reducible refine Kd.C_drew ?_))); (case side2 => exact HC207.out); (case side3 => exact (blk_cell BK203.out 0).trans rfl); (case side4 => exact (blk_cell BK203.out 1).trans rfl); rintro e w66_ ⟨rfl, hb66_⟩; refine ⟨_, rfl, ?_⟩; have n0_ := Aside0.mk (blk_below BK200.out hb66_); have n1_ := Aside0.mk (blk_below BK203.out hb66_); have n2_ := Aside0.mk (below_step HB.out hb66_); clear BK200 BK203 HB; have BK200 := n0_; have BK203 := n1_; have HB := n2_; clear n0_ n1_ n2_ hb66_; have hczT_0 : w66_.cell? ⟨gb203, 0, none⟩ = some (.int .i64 ((rd_T79 l0_1 x20_2).f0)) := (blk_cell BK203.out 0).trans rfl; have hczT_1 : w66_.cell? ⟨gb203, 1, none⟩ = some (.int .i64 ((rd_T79 l0_1 x20_2).f1)) := (blk_cell BK203.out 1).trans rfl; have hczT_2 : w66_.cell? ⟨gb203, 2, none⟩ = some (.int .i64 ((rd_T79 l0_1 x20_2).f2)) := (blk_cell BK203.out 2).trans rfl; have hfzT_0 := blk_frozen BK203.out 0; have hfzT_1 := blk_frozen BK203.out 1; have hfzT_2 := blk_frozen BK203.out 2) | (go_at_call 55; (with_reducible refine (impl_within.calls ((rd_T79 l0_1 x20_2).f0) 0 2 true _ A24.out).mono ?_); rintro e w' ⟨rfl, ⟨nd, rfl⟩⟩) | (go_at_call 55; (with_reducible refine (impl_within.calls ((rd_T79 l0_1 x20_2).f1) (-2) 2 true _ A26.out).mono ?_); rintro e w' ⟨rfl, ⟨nd, rfl⟩⟩) | (go_at_call 55; (with_reducible refine (impl_within.calls ((rd_T79 l0_1 x20_2).f2) 1 64 false _ A53.out).mono ?_); rintro e w' ⟨rfl, ⟨nd, rfl⟩⟩))
               go_ret
               exact ⟨by first | rfl | (simp [errW_none, errW_some] <;> rfl) | (simp [*, errW_none, errW_some] <;> rfl), bl_ HB⟩
            ·replace c27 := Bool.eq_false_iff.mpr c27
             subst c27
             have H1 : (some false) = some r := by rw [if_neg (show ¬ (false = true) by decide)] at H; exact H
             clear H
             have H := H1
             clear H1
             obtain rfl := Option.some.inj H
             have p202 : 0 ≤ (x20_2 : Int) := of_decide_eq_true (by first | (with_reducible assumption) | assumption)
             have q202 : x20_2 < (l0_1.length : Int) := of_decide_eq_true (by first | (with_reducible assumption) | assumption)
             obtain ⟨ad202, e202, hx202_0, hx202_1, hx202_2⟩ := at_T79 HR0_1.out x20_2 p202 q202
             cases e202
             replace hx202_0 := (HB.out.cell (World.block_lt_of_cell? w _ hx202_0)).trans hx202_0
             replace hx202_1 := (HB.out.cell (World.block_lt_of_cell? w _ hx202_1)).trans hx202_1
             replace hx202_2 := (HB.out.cell (World.block_lt_of_cell? w _ hx202_2)).trans hx202_2
             replace p202 := eq_true p202
             replace q202 := eq_true q202
             go_wp2_with (first | ((with_reducible refine gate_dst (N := 5) rfl ?_); (try (refine gate_guard (by rfl) ?_; dsimp only)); refine box_event ?hg (N := 5) ?hd (cs := #[.int .i64 0, .int .i64 0, .int .i64 0]) (t := 79) ?hr ?_; (case hd => rfl); (case hg => rfl); (case hr => first | (go_simp; done) | (go_simp; rfl)); intro gb203 hg w69 hbox hb; have n0_ := Aside0.mk (blk_below (g := gb200) (o := .cells #[.int .i64 a0_0, .slice (some ad202) l0_1.length c0_1] 41 (0, 0)) (bk_ BK200) hb); have n1_ := Aside0.mk (below_step (bl_ HB) hb); have n2_ := Aside0.mk (hbox); have n3_ := Aside0.mk ((by rw [hg]; exact (below_size (bl_ HB)) : w.heap.size ≤ gb203)); have n4_ := Aside0.mk ((by rw [hg]; exact (below_size (bl_ HB)) : w.heap.size ≤ gb203)); have n5_ := Aside0.mk ((by rw [hg]; exact Nat.ne_of_lt (blk_lt (g := gb200) (o := .cells #[.int .i64 a0_0, .slice (some ad202) l0_1.length c0_1] 41 (0, 0)) (bk_ BK200)) : gb200 ≠ gb203)); have n6_ := Aside0.mk ((by rw [hg]; exact Nat.ne_of_gt (blk_lt (g := gb200) (o := .cells #[.int .i64 a0_0, .slice (some ad202) l0_1.length c0_1] 41 (0, 0)) (bk_ BK200)) : gb203 ≠ gb200)); clear BK200; clear HB; have BK200 := n0_; have HB := n1_; have BK203 := n2_; have GW203 := n3_; have GE203 := n4_; have NB200_203 := n5_; have NB203_200 := n6_; clear n0_ n1_ n2_ n3_ n4_ n5_ n6_; clear hb hbox hg; have hnb70 := NB203_200.out; have hnc70 := NB200_203.out; have hcz71_0 : w69.cell? ⟨gb203, 0, none⟩ = some (.int .i64 0) := (blk_cell BK203.out 0).trans rfl; have hcz71_1 : w69.cell? ⟨gb203, 1, none⟩ = some (.int .i64 0) := (blk_cell BK203.out 1).trans rfl; have hcz71_2 : w69.cell? ⟨gb203, 2, none⟩ = some (.int .i64 0) := (blk_cell BK203.out 2).trans rfl; have hfz71_0 := blk_frozen BK203.out 0; have hfz71_1 := blk_frozen BK203.out 1; have hfz71_2 := blk_frozen BK203.out 2) | ((with_reducible refine gate_store (t := 79) (p := 5) rfl ?_); refine store_event (t := 79) (p := 5) (v := ?vo_w72) (w1 := (((w69.setCell ⟨gb203, 0, none⟩ (.int .i64 ((rd_T79 l0_1 x20_2).f0))).setCell ⟨gb203, 1, none⟩ (.int .i64 ((rd_T79 l0_1 x20_2).f1))).setCell ⟨gb203, 2, none⟩ (.int .i64 ((rd_T79 l0_1 x20_2).f2)))) ?hg ?ho ?hn ?hr ?_; (case ho => rfl); (case hg => rfl); (case hn => rfl); (case hr => first | (go_simp; done) | (go_simp; rfl)); intro w72 hw; have n0_ : Aside0 (w72.heap[gb200]? = some (.cells #[.int .i64 a0_0, .slice (some ad202) l0_1.length c0_1] 41 (0, 0))) := ⟨(by rw [hw]; exact (by (with_reducible repeat (first | refine blk_drewN ?_ _ | refine blk_drew ?_ | refine blk_alloc ?_ _)); refine blk_far ?_ NB200_203.out _; (with_reducible repeat (first | refine blk_drewN ?_ _ | refine blk_drew ?_ | refine blk_alloc ?_ _)); refine blk_far ?_ NB200_203.out _; (with_reducible repeat (first | refine blk_drewN ?_ _ | refine blk_drew ?_ | refine blk_alloc ?_ _)); refine blk_far ?_ NB200_203.out _; (with_reducible repeat (first | refine blk_drewN ?_ _ | refine blk_drew ?_ | refine blk_alloc ?_ _)); exact BK200.out))⟩; have n1_ : Aside0 (w72.heap[gb203]? = some (.cells #[.int .i64 ((rd_T79 l0_1 x20_2).f0), .int .i64 ((rd_T79 l0_1 x20_2).f1), .int .i64 ((rd_T79 l0_1 x20_2).f2)] 79 (0, 0))) := ⟨(by rw [hw]; exact (by (with_reducible repeat (first | refine blk_drewN ?_ _ | refine blk_drew ?_ | refine blk_alloc ?_ _)); refine blk_put (cs := #[.int .i64 ((rd_T79 l0_1 x20_2).f0), .int .i64 ((rd_T79 l0_1 x20_2).f1), .int .i64 0]) ?_ 2 _ rfl; (with_reducible repeat (first | refine blk_drewN ?_ _ | refine blk_drew ?_ | refine blk_alloc ?_ _)); refine blk_put (cs := #[.int .i64 ((rd_T79 l0_1 x20_2).f0), .int .i64 0, .int .i64 0]) ?_ 1 _ rfl; (with_reducible repeat (first | refine blk_drewN ?_ _ | refine blk_drew ?_ | refine blk_alloc ?_ _)); refine blk_put (cs := #[.int .i64 0, .int .i64 0, .int .i64 0]) ?_ 0 _ rfl; (with_reducible repeat (first | refine blk_drewN ?_ _ | refine blk_drew ?_ | refine blk_alloc ?_ _)); exact BK203.out))⟩; have n2_ : Aside0 (Below w.heap.size w w72) := ⟨(by rw [hw]; exact (bl_ HB))⟩; clear hw; clear BK200; clear BK203; clear HB; have BK200 := n0_; have BK203 := n1_; have HB := n2_; clear n0_ n1_ n2_; have hcz73_0 : w72.cell? ⟨gb200, 0, none⟩ = some (.int .i64 a0_0) := (blk_cell BK200.out 0).trans rfl; have hcz73_1 : w72.cell? ⟨gb200, 1, none⟩ = some (.slice (some ad202) l0_1.length c0_1) := (blk_cell BK200.out 1).trans rfl; have hfz73_0 := blk_frozen BK200.out 0; have hfz73_1 := blk_frozen BK200.out 1; have q74 : (x20_2 : Int) ≤ ((l0_1.length : Int) : Int) := of_decide_eq_true (by first | (with_reducible assumption) | assumption); obtain ⟨i074, hi074, _, hsz74, _⟩ := info_parts info79; have hroom74 : l0_1.length ≤ c0_1 := HC0_1.out; have hC74 : Kd.C k79 _ (some ad202) l0_1.length l0_1 := HR0_1.out; have hcut74 := cut_to (P := Try.prog) 39 79 .i64 Try.underlying39 hi074 (some ad202) l0_1.length c0_1 x20_2 (of_decide_eq_true (by first | (with_reducible assumption) | assumption)) q74 hroom74; have hr74 := Kd.C_take (m := (x20_2 : Int).toNat) hC74 (by omega); have hy74 : y204.length = (x20_2 : Int).toNat := (by rw [Ny204.out, List.length_take]; omega); rw [← Ny204.out] at hr74; rw [← hy74] at hcut74; have HR207 := Aside0.mk hr74; have HC207 := Aside0.mk (show y204.length ≤ c0_1 from by omega); clear hr74 hC74 hroom74 hi074 hsz74; have KY74 := Aside0.mk hy74; clear hy74; replace q74 := eq_true q74; have hcz75_0 : w72.cell? ⟨gb203, 0, none⟩ = some (.int .i64 ((rd_T79 l0_1 x20_2).f0)) := (blk_cell BK203.out 0).trans rfl; have hcz75_1 : w72.cell? ⟨gb203, 1, none⟩ = some (.int .i64 ((rd_T79 l0_1 x20_2).f1)) := (blk_cell BK203.out 1).trans rfl; have hcz75_2 : w72.cell? ⟨gb203, 2, none⟩ = some (.int .i64 ((rd_T79 l0_1 x20_2).f2)) := (blk_cell BK203.out 2).trans rfl; have hfz75_0 := blk_frozen BK203.out 0; have hfz75_1 := blk_frozen BK203.out 1; have hfz75_2 := blk_frozen BK203.out 2) | ((with_reducible refine gate_callee (f := 65) rfl ?_); refine goesL_ (some 30) rfl rfl Try.func65 (by kernel_rfl) rfl #[.slice (some ad202) y204.length c0_1, .func (.func 66) #[] #[.pointer (some ⟨gb203, 0, none⟩)]] rfl (by (try simp only [List.map_toArray, List.map_cons, List.map_nil]); first | done | rfl | (simp only [List.length_drop, List.length_take]; rfl) | (simp only [show ∀ (n_ : Nat) (b_ : Int), Int.tdiv (n_ : Int) b_ = (n_ : Int) / b_ from fun n_ b_ => Int.tdiv_eq_ediv_of_nonneg (Int.natCast_nonneg n_)]; rfl)) ?_; (with_reducible refine (impl_Tap_66.calls gb203 _ _ y204 ((rd_T79 l0_1 x20_2).f0) ((rd_T79 l0_1 x20_2).f1) ((rd_T79 l0_1 x20_2).f2) false _ ?side1 ?side2 A15.out ?side3 ?side4).mono ?_); (case side1 => repeat (first | exact (Kd.C_below HR207.out HB.out) | (with_reducible refine Kd.C_alloc ?_ _) | (with_reducible refine Kd.C_drewN ?_ _) | (with_reducible refine Kd.C_drew ?_))); (case side2 => exact HC207.out); (case side3 => exact (blk_cell BK203.out 0).trans rfl); (case side4 => exact (blk_cell BK203.out 1).trans rfl); rintro e w66_ ⟨rfl, hb66_⟩; refine ⟨_, rfl, ?_⟩; have n0_ := Aside0.mk (blk_below BK200.out hb66_); have n1_ := Aside0.mk (blk_below BK203.out hb66_); have n2_ := Aside0.mk (below_step HB.out hb66_); clear BK200 BK203 HB; have BK200 := n0_; have BK203 := n1_; have HB := n2_; clear n0_ n1_ n2_ hb66_; have hczT_0 : w66_.cell? ⟨gb203, 0, none⟩ = some (.int .i64 ((rd_T79 l0_1 x20_2).f0)) := (blk_cell BK203.out 0).trans rfl; have hczT_1 : w66_.cell? ⟨gb203, 1, none⟩ = some (.int .i64 ((rd_T79 l0_1 x20_2).f1)) := (blk_cell BK203.out 1).trans rfl; have hczT_2 : w66_.cell? ⟨gb203, 2, none⟩ = some (.int .i64 ((rd_T79 l0_1 x20_2).f2)) := (blk_cell BK203.out 2).trans rfl; have hfzT_0 := blk_frozen BK203.out 0; have hfzT_1 := blk_frozen BK203.out 1; have hfzT_2 := blk_frozen BK203.out 2) | (go_at_call 55; (with_reducible refine (impl_within.calls ((rd_T79 l0_1 x20_2).f0) 0 2 true _ A24.out).mono ?_); rintro e w' ⟨rfl, ⟨nd, rfl⟩⟩) | (go_at_call 55; (with_reducible refine (impl_within.calls ((rd_T79 l0_1 x20_2).f1) (-2) 2 false _ A26.out).mono ?_); rintro e w' ⟨rfl, ⟨nd, rfl⟩⟩))
             go_ret
             exact ⟨by first | rfl | (simp [errW_none, errW_some] <;> rfl) | (simp [*, errW_none, errW_some] <;> rfl), bl_ HB⟩
           ·replace c25 := Bool.eq_false_iff.mpr c25
            subst c25
            have H1 : (some false) = some r := by rw [if_neg (show ¬ (false = true) by decide)] at H; exact H
            clear H
            have H := H1
            clear H1
            obtain rfl := Option.some.inj H
            have p202 : 0 ≤ (x20_2 : Int) := of_decide_eq_true (by first | (with_reducible assumption) | assumption)
            have q202 : x20_2 < (l0_1.length : Int) := of_decide_eq_true (by first | (with_reducible assumption) | assumption)
            obtain ⟨ad202, e202, hx202_0, hx202_1, hx202_2⟩ := at_T79 HR0_1.out x20_2 p202 q202
            cases e202
            replace hx202_0 := (HB.out.cell (World.block_lt_of_cell? w _ hx202_0)).trans hx202_0
            replace hx202_1 := (HB.out.cell (World.block_lt_of_cell? w _ hx202_1)).trans hx202_1
            replace hx202_2 := (HB.out.cell (World.block_lt_of_cell? w _ hx202_2)).trans hx202_2
            replace p202 := eq_true p202
            replace q202 := eq_true q202
            go_wp2_with (first | ((with_reducible refine gate_dst (N := 5) rfl ?_); (try (refine gate_guard (by rfl) ?_; dsimp only)); refine box_event ?hg (N := 5) ?hd (cs := #[.int .i64 0, .int .i64 0, .int .i64 0]) (t := 79) ?hr ?_; (case hd => rfl); (case hg => rfl); (case hr => first | (go_simp; done) | (go_simp; rfl)); intro gb203 hg w76 hbox hb; have n0_ := Aside0.mk (blk_below (g := gb200) (o := .cells #[.int .i64 a0_0, .slice (some ad202) l0_1.length c0_1] 41 (0, 0)) (bk_ BK200) hb); have n1_ := Aside0.mk (below_step (bl_ HB) hb); have n2_ := Aside0.mk (hbox); have n3_ := Aside0.mk ((by rw [hg]; exact (below_size (bl_ HB)) : w.heap.size ≤ gb203)); have n4_ := Aside0.mk ((by rw [hg]; exact (below_size (bl_ HB)) : w.heap.size ≤ gb203)); have n5_ := Aside0.mk ((by rw [hg]; exact Nat.ne_of_lt (blk_lt (g := gb200) (o := .cells #[.int .i64 a0_0, .slice (some ad202) l0_1.length c0_1] 41 (0, 0)) (bk_ BK200)) : gb200 ≠ gb203)); have n6_ := Aside0.mk ((by rw [hg]; exact Nat.ne_of_gt (blk_lt (g := gb200) (o := .cells #[.int .i64 a0_0, .slice (some ad202) l0_1.length c0_1] 41 (0, 0)) (bk_ BK200)) : gb203 ≠ gb200)); clear BK200; clear HB; have BK200 := n0_; have HB := n1_; have BK203 := n2_; have GW203 := n3_; have GE203 := n4_; have NB200_203 := n5_; have NB203_200 := n6_; clear n0_ n1_ n2_ n3_ n4_ n5_ n6_; clear hb hbox hg; have hnb77 := NB203_200.out; have hnc77 := NB200_203.out; have hcz78_0 : w76.cell? ⟨gb203, 0, none⟩ = some (.int .i64 0) := (blk_cell BK203.out 0).trans rfl; have hcz78_1 : w76.cell? ⟨gb203, 1, none⟩ = some (.int .i64 0) := (blk_cell BK203.out 1).trans rfl; have hcz78_2 : w76.cell? ⟨gb203, 2, none⟩ = some (.int .i64 0) := (blk_cell BK203.out 2).trans rfl; have hfz78_0 := blk_frozen BK203.out 0; have hfz78_1 := blk_frozen BK203.out 1; have hfz78_2 := blk_frozen BK203.out 2) | ((with_reducible refine gate_store (t := 79) (p := 5) rfl ?_); refine store_event (t := 79) (p := 5) (v := ?vo_w79) (w1 := (((w76.setCell ⟨gb203, 0, none⟩ (.int .i64 ((rd_T79 l0_1 x20_2).f0))).setCell ⟨gb203, 1, none⟩ (.int .i64 ((rd_T79 l0_1 x20_2).f1))).setCell ⟨gb203, 2, none⟩ (.int .i64 ((rd_T79 l0_1 x20_2).f2)))) ?hg ?ho ?hn ?hr ?_; (case ho => rfl); (case hg => rfl); (case hn => rfl); (case hr => first | (go_simp; done) | (go_simp; rfl)); intro w79 hw; have n0_ : Aside0 (w79.heap[gb200]? = some (.cells #[.int .i64 a0_0, .slice (some ad202) l0_1.length c0_1] 41 (0, 0))) := ⟨(by rw [hw]; exact (by (with_reducible repeat (first | refine blk_drewN ?_ _ | refine blk_drew ?_ | refine blk_alloc ?_ _)); refine blk_far ?_ NB200_203.out _; (with_reducible repeat (first | refine blk_drewN ?_ _ | refine blk_drew ?_ | refine blk_alloc ?_ _)); refine blk_far ?_ NB200_203.out _; (with_reducible repeat (first | refine blk_drewN ?_ _ | refine blk_drew ?_ | refine blk_alloc ?_ _)); refine blk_far ?_ NB200_203.out _; (with_reducible repeat (first | refine blk_drewN ?_ _ | refine blk_drew ?_ | refine blk_alloc ?_ _)); exact BK200.out))⟩; have n1_ : Aside0 (w79.heap[gb203]? = some (.cells #[.int .i64 ((rd_T79 l0_1 x20_2).f0), .int .i64 ((rd_T79 l0_1 x20_2).f1), .int .i64 ((rd_T79 l0_1 x20_2).f2)] 79 (0, 0))) := ⟨(by rw [hw]; exact (by (with_reducible repeat (first | refine blk_drewN ?_ _ | refine blk_drew ?_ | refine blk_alloc ?_ _)); refine blk_put (cs := #[.int .i64 ((rd_T79 l0_1 x20_2).f0), .int .i64 ((rd_T79 l0_1 x20_2).f1), .int .i64 0]) ?_ 2 _ rfl; (with_reducible repeat (first | refine blk_drewN ?_ _ | refine blk_drew ?_ | refine blk_alloc ?_ _)); refine blk_put (cs := #[.int .i64 ((rd_T79 l0_1 x20_2).f0), .int .i64 0, .int .i64 0]) ?_ 1 _ rfl; (with_reducible repeat (first | refine blk_drewN ?_ _ | refine blk_drew ?_ | refine blk_alloc ?_ _)); refine blk_put (cs := #[.int .i64 0, .int .i64 0, .int .i64 0]) ?_ 0 _ rfl; (with_reducible repeat (first | refine blk_drewN ?_ _ | refine blk_drew ?_ | refine blk_alloc ?_ _)); exact BK203.out))⟩; have n2_ : Aside0 (Below w.heap.size w w79) := ⟨(by rw [hw]; exact (bl_ HB))⟩; clear hw; clear BK200; clear BK203; clear HB; have BK200 := n0_; have BK203 := n1_; have HB := n2_; clear n0_ n1_ n2_; have hcz80_0 : w79.cell? ⟨gb200, 0, none⟩ = some (.int .i64 a0_0) := (blk_cell BK200.out 0).trans rfl; have hcz80_1 : w79.cell? ⟨gb200, 1, none⟩ = some (.slice (some ad202) l0_1.length c0_1) := (blk_cell BK200.out 1).trans rfl; have hfz80_0 := blk_frozen BK200.out 0; have hfz80_1 := blk_frozen BK200.out 1; have q81 : (x20_2 : Int) ≤ ((l0_1.length : Int) : Int) := of_decide_eq_true (by first | (with_reducible assumption) | assumption); obtain ⟨i081, hi081, _, hsz81, _⟩ := info_parts info79; have hroom81 : l0_1.length ≤ c0_1 := HC0_1.out; have hC81 : Kd.C k79 _ (some ad202) l0_1.length l0_1 := HR0_1.out; have hcut81 := cut_to (P := Try.prog) 39 79 .i64 Try.underlying39 hi081 (some ad202) l0_1.length c0_1 x20_2 (of_decide_eq_true (by first | (with_reducible assumption) | assumption)) q81 hroom81; have hr81 := Kd.C_take (m := (x20_2 : Int).toNat) hC81 (by omega); have hy81 : y204.length = (x20_2 : Int).toNat := (by rw [Ny204.out, List.length_take]; omega); rw [← Ny204.out] at hr81; rw [← hy81] at hcut81; have HR207 := Aside0.mk hr81; have HC207 := Aside0.mk (show y204.length ≤ c0_1 from by omega); clear hr81 hC81 hroom81 hi081 hsz81; have KY81 := Aside0.mk hy81; clear hy81; replace q81 := eq_true q81; have hcz82_0 : w79.cell? ⟨gb203, 0, none⟩ = some (.int .i64 ((rd_T79 l0_1 x20_2).f0)) := (blk_cell BK203.out 0).trans rfl; have hcz82_1 : w79.cell? ⟨gb203, 1, none⟩ = some (.int .i64 ((rd_T79 l0_1 x20_2).f1)) := (blk_cell BK203.out 1).trans rfl; have hcz82_2 : w79.cell? ⟨gb203, 2, none⟩ = some (.int .i64 ((rd_T79 l0_1 x20_2).f2)) := (blk_cell BK203.out 2).trans rfl; have hfz82_0 := blk_frozen BK203.out 0; have hfz82_1 := blk_frozen BK203.out 1; have hfz82_2 := blk_frozen BK203.out 2) | ((with_reducible refine gate_callee (f := 65) rfl ?_); refine goesL_ (some 30) rfl rfl Try.func65 (by kernel_rfl) rfl #[.slice (some ad202) y204.length c0_1, .func (.func 66) #[] #[.pointer (some ⟨gb203, 0, none⟩)]] rfl (by (try simp only [List.map_toArray, List.map_cons, List.map_nil]); first | done | rfl | (simp only [List.length_drop, List.length_take]; rfl) | (simp only [show ∀ (n_ : Nat) (b_ : Int), Int.tdiv (n_ : Int) b_ = (n_ : Int) / b_ from fun n_ b_ => Int.tdiv_eq_ediv_of_nonneg (Int.natCast_nonneg n_)]; rfl)) ?_; (with_reducible refine (impl_Tap_66.calls gb203 _ _ y204 ((rd_T79 l0_1 x20_2).f0) ((rd_T79 l0_1 x20_2).f1) ((rd_T79 l0_1 x20_2).f2) false _ ?side1 ?side2 A15.out ?side3 ?side4).mono ?_); (case side1 => repeat (first | exact (Kd.C_below HR207.out HB.out) | (with_reducible refine Kd.C_alloc ?_ _) | (with_reducible refine Kd.C_drewN ?_ _) | (with_reducible refine Kd.C_drew ?_))); (case side2 => exact HC207.out); (case side3 => exact (blk_cell BK203.out 0).trans rfl); (case side4 => exact (blk_cell BK203.out 1).trans rfl); rintro e w66_ ⟨rfl, hb66_⟩; refine ⟨_, rfl, ?_⟩; have n0_ := Aside0.mk (blk_below BK200.out hb66_); have n1_ := Aside0.mk (blk_below BK203.out hb66_); have n2_ := Aside0.mk (below_step HB.out hb66_); clear BK200 BK203 HB; have BK200 := n0_; have BK203 := n1_; have HB := n2_; clear n0_ n1_ n2_ hb66_; have hczT_0 : w66_.cell? ⟨gb203, 0, none⟩ = some (.int .i64 ((rd_T79 l0_1 x20_2).f0)) := (blk_cell BK203.out 0).trans rfl; have hczT_1 : w66_.cell? ⟨gb203, 1, none⟩ = some (.int .i64 ((rd_T79 l0_1 x20_2).f1)) := (blk_cell BK203.out 1).trans rfl; have hczT_2 : w66_.cell? ⟨gb203, 2, none⟩ = some (.int .i64 ((rd_T79 l0_1 x20_2).f2)) := (blk_cell BK203.out 2).trans rfl; have hfzT_0 := blk_frozen BK203.out 0; have hfzT_1 := blk_frozen BK203.out 1; have hfzT_2 := blk_frozen BK203.out 2) | (go_at_call 55; (with_reducible refine (impl_within.calls ((rd_T79 l0_1 x20_2).f0) 0 2 false _ A24.out).mono ?_); rintro e w' ⟨rfl, ⟨nd, rfl⟩⟩))
            go_ret
            exact ⟨by first | rfl | (simp [errW_none, errW_some] <;> rfl) | (simp [*, errW_none, errW_some] <;> rfl), bl_ HB⟩
         ·rw [if_neg c14] at H
          exact absurd H (by simp)
        ·rw [if_neg c12] at H
         exact absurd H (by simp)
       ·rw [if_neg c11] at H
        exact absurd H (by simp)
      ·rw [if_neg c10] at H
       have c10b0 : decide (x20_2 < (l0_1.length : Int)) = false := decide_eq_false c10
       clear c10
       obtain rfl := Option.some.inj H
       have hcz83_0 : wr.cell? ⟨gb200, 0, none⟩ = some (.int .i64 a0_0) := (blk_cell BK200.out 0).trans rfl
       have hcz83_1 : wr.cell? ⟨gb200, 1, none⟩ = some (.slice A0_1 l0_1.length c0_1) := (blk_cell BK200.out 1).trans rfl
       have hfz83_0 := blk_frozen BK200.out 0
       have hfz83_1 := blk_frozen BK200.out 1
       go_wp2
       go_ret
       exact ⟨by first | rfl | (simp [errW_none, errW_some] <;> rfl) | (simp [*, errW_none, errW_some] <;> rfl), bl_ HB⟩
end Go.Proofs.Ytpdkknfooblplaa.Q
namespace Go.Proofs.Ytpdkknfooblplaa.Q
open Go.RowKit Go.Proofs.YtpdkknfooblplaaW.PrintWords Go.Proofs.YtpdkknfooblplaaW.PrintLast Go.Proofs.YtpdkknfooblplaaW.PrintMore
attribute [local go_sem] max2_int min2_int max_two min_two max_three min_three max_four min_four   -- for this text's walks alone
set_option linter.unusedVariables false
set_option linter.unusedSimpArgs false
def spec_l00In.f (a0 : Int) (a1 : Int) (a2 : Int) : Option (Bool) := if a0 ≥ a1 then (some (decide (a0 ≤ a2))) else (some false)
set_option maxHeartbeats 8000000 in
set_option maxRecDepth 100000 in
theorem spec_l00In.calls (a0 : Int) (a1 : Int) (a2 : Int) (r : Bool) (w : World) (h : spec_l00In.f a0 a1 a2 = some r) :
  Calls Try.prog 45 #[.int .i64 a0, .int .i64 a1, .int .i64 a2] w fun e w' => e = .returned (.bool r) ∧ Drawn0 w w' := by
 have H : (if a0 ≥ a1 then (some (decide (a0 ≤ a2))) else (some false)) = some r := h
 clear h
 by_cases c4 : a0 ≥ a1
 ·rw [if_pos c4] at H
  have c4b0 : decide (a1 ≤ a0) = true := decide_eq_true c4
  clear c4
  obtain rfl := Option.some.inj H
  go_enter Try.func45, Try.ntmps45
  go_wp2
  go_ret
  exact ⟨by first | rfl | (simp; done) | (simp [*]; done), by repeat (first | exact Drawn0.refl _ | apply Drawn0.step)⟩
 ·rw [if_neg c4] at H
  have c4b0 : decide (a1 ≤ a0) = false := decide_eq_false c4
  clear c4
  obtain rfl := Option.some.inj H
  go_enter Try.func45, Try.ntmps45
  go_wp2
  go_ret
  exact ⟨by first | rfl | (simp; done) | (simp [*]; done), by repeat (first | exact Drawn0.refl _ | apply Drawn0.step)⟩
end Go.Proofs.Ytpdkknfooblplaa.Q
namespace Go.Proofs.Ytpdkknfooblplaa.Q
open Go.RowKit Go.Proofs.YtpdkknfooblplaaW.PrintWords Go.Proofs.YtpdkknfooblplaaW.PrintLast Go.Proofs.YtpdkknfooblplaaW.PrintMore
attribute [local go_sem] max2_int min2_int max_two min_two max_three min_three max_four min_four   -- for this text's walks alone
set_option linter.unusedVariables false
set_option linter.unusedSimpArgs false
mutual
def spec_l09Form.j0 : Nat → List (List Int) → Int → Bool → Option (Bool)
 | 0, _, _, _ => none
 | k + 1, x0, x1, x28 => if x28 = true then (some false) else (spec_l09Form.l0 k x0 x1 0)
def spec_l09Form.l0 : Nat → List (List Int) → Int → Int → Option (Bool)
 | 0, _, _, _ => none
 | k + 1, x0, x1, x5 => if x5 < (x0.length : Int) then (if 0 ≤ x5 then (if 0 < (x0.length : Int) then (if ((rd_L1 x0 x5).length : Int) = ((rd_L1 x0 0).length : Int) then (spec_l09Form.l1 k x0 x1 x5 0) else (some false)) else (none)) else (none)) else (some true)
def spec_l09Form.l1 : Nat → List (List Int) → Int → Int → Int → Option (Bool)
 | 0, _, _, _, _ => none
 | k + 1, x0, x1, x5, x6 => if 0 ≤ x5 then (if x5 < (x0.length : Int) then (if x6 < ((rd_L1 x0 x5).length : Int) then (if 0 ≤ x6 then ((spec_l00In.f (rd (rd_L1 x0 x5) x6) 0 x1).bind fun t108 => (if t108 = true then (spec_l09Form.l1 k x0 x1 x5 (wrap64 (x6 + 1))) else (some false))) else (none)) else (spec_l09Form.l0 k x0 x1 (wrap64 (x5 + 1)))) else (none)) else (none)
end
def spec_l09Form.f (k : Nat) (l0 : List (List Int)) (a1 : Int) : Option (Bool) := if (l0.length : Int) < 1 then (spec_l09Form.j0 k l0 a1 true) else (if (l0.length : Int) > 12 then (spec_l09Form.j0 k l0 a1 true) else (if 0 < (l0.length : Int) then (if ((rd_L1 l0 0).length : Int) < 1 then (spec_l09Form.j0 k l0 a1 true) else (spec_l09Form.j0 k l0 a1 (decide (((rd_L1 l0 0).length : Int) > 12)))) else (none)))
theorem spec_l09Form.mono_l : ∀ k, (∀ y0 y1 y2, LeO (spec_l09Form.j0 k y0 y1 y2) (spec_l09Form.j0 (k + 1) y0 y1 y2)) ∧ (∀ y0 y1 y2, LeO (spec_l09Form.l0 k y0 y1 y2) (spec_l09Form.l0 (k + 1) y0 y1 y2)) ∧ (∀ y0 y1 y2 y3, LeO (spec_l09Form.l1 k y0 y1 y2 y3) (spec_l09Form.l1 (k + 1) y0 y1 y2 y3))
 | 0 => ⟨fun _ _ _ r h => by simp [spec_l09Form.j0] at h, fun _ _ _ r h => by simp [spec_l09Form.l0] at h, fun _ _ _ _ r h => by simp [spec_l09Form.l1] at h⟩
 | k + 1 => by
  obtain ⟨ih0, ih1, ih2⟩ := spec_l09Form.mono_l k
  refine ⟨?_, ?_, ?_⟩
  ·intro y0 y1 y2
   unfold spec_l09Form.j0
   repeat' first
   | (with_reducible exact ih0 _ _ _)
   | (with_reducible exact ih1 _ _ _)
   | (with_reducible exact ih2 _ _ _ _)
   | (with_reducible exact LeO.refl _)
   | (with_reducible exact LeO.none _)
   | (with_reducible refine LeO.ite ?_ ?_)
   | (with_reducible refine LeO.bind ?_ (fun _ => ?_))
   | exact ih0 _ _ _
   | exact ih1 _ _ _
   | exact ih2 _ _ _ _
   | exact LeO.none _
   | refine LeO.ite ?_ ?_
   | refine LeO.bind ?_ (fun _ => ?_)
  ·intro y0 y1 y2
   unfold spec_l09Form.l0
   repeat' first
   | (with_reducible exact ih0 _ _ _)
   | (with_reducible exact ih1 _ _ _)
   | (with_reducible exact ih2 _ _ _ _)
   | (with_reducible exact LeO.refl _)
   | (with_reducible exact LeO.none _)
   | (with_reducible refine LeO.ite ?_ ?_)
   | (with_reducible refine LeO.bind ?_ (fun _ => ?_))
   | exact ih0 _ _ _
   | exact ih1 _ _ _
   | exact ih2 _ _ _ _
   | exact LeO.none _
   | refine LeO.ite ?_ ?_
   | refine LeO.bind ?_ (fun _ => ?_)
  ·intro y0 y1 y2 y3
   unfold spec_l09Form.l1
   repeat' first
   | (with_reducible exact ih0 _ _ _)
   | (with_reducible exact ih1 _ _ _)
   | (with_reducible exact ih2 _ _ _ _)
   | (with_reducible exact LeO.refl _)
   | (with_reducible exact LeO.none _)
   | (with_reducible refine LeO.ite ?_ ?_)
   | (with_reducible refine LeO.bind ?_ (fun _ => ?_))
   | exact ih0 _ _ _
   | exact ih1 _ _ _
   | exact ih2 _ _ _ _
   | exact LeO.none _
   | refine LeO.ite ?_ ?_
   | refine LeO.bind ?_ (fun _ => ?_)
theorem spec_l09Form.mono : ∀ a0 a1 k, LeO (spec_l09Form.f k a0 a1) (spec_l09Form.f (k + 1) a0 a1) := by
 intro a0 a1 k
 obtain ⟨ih0, ih1, ih2⟩ := spec_l09Form.mono_l k
 unfold spec_l09Form.f
 repeat' first
   | (with_reducible exact ih0 _ _ _)
   | (with_reducible exact ih1 _ _ _)
   | (with_reducible exact ih2 _ _ _ _)
   | (with_reducible exact LeO.refl _)
   | (with_reducible exact LeO.none _)
   | (with_reducible refine LeO.ite ?_ ?_)
   | (with_reducible refine LeO.bind ?_ (fun _ => ?_))
   | exact ih0 _ _ _
   | exact ih1 _ _ _
   | exact ih2 _ _ _ _
   | exact LeO.none _
   | refine LeO.ite ?_ ?_
   | refine LeO.bind ?_ (fun _ => ?_)
set_option maxHeartbeats 8000000 in
set_option maxRecDepth 100000 in
theorem spec_l09Form.calls (k : Nat) (A0 : Option Addr) (c0 : Nat) (l0 : List (List Int)) (a1 : Int) (r : Bool) (w : World) (hr0 : Kd.C (Kd.slice 2 (Kd.int .i64)) w A0 l0.length l0) (hc0 : l0.length ≤ c0) (h : spec_l09Form.f k l0 a1 = some r) :
  Calls Try.prog 32 #[.slice A0 l0.length c0, .int .i64 a1] w fun e w' => e = .returned (.bool r) ∧ Drawn0 w w' := by
 have HR0 := Aside0.mk hr0
 have HC0 := Aside0.mk hc0
 clear hr0 hc0
 have H : (if (l0.length : Int) < 1 then (spec_l09Form.j0 k l0 a1 true) else (if (l0.length : Int) > 12 then (spec_l09Form.j0 k l0 a1 true) else (if 0 < (l0.length : Int) then (if ((rd_L1 l0 0).length : Int) < 1 then (spec_l09Form.j0 k l0 a1 true) else (spec_l09Form.j0 k l0 a1 (decide (((rd_L1 l0 0).length : Int) > 12)))) else (none)))) = some r := h
 clear h
 have HC3 := Aside0.mk H
 clear H
 go_enter Try.func32, Try.ntmps32
 go_upto_region 1 with (fail)
 repeat (go_quiet (fail); go_upto_region 1 with (fail))
 go_cut [28] (fun v28 wc => ∃ (kq : Nat) (x28_2 : Bool), v28 = .bool x28_2 ∧ Aside0 (spec_l09Form.j0 kq l0 a1 x28_2 = some r) ∧ Aside0 (kq ≤ k) ∧ Drawn0 w wc)
 case first =>
  have H := HC3.out
  clear HC3
  by_cases c4 : (l0.length : Int) < 1
  ·rw [if_pos c4] at H
   have c4b0 : decide ((l0.length : Int) < 1) = true := decide_eq_true c4
   have c4b1 : decide (l0.length < 1) = true := decide_eq_true (by omega)
   clear c4
   (first | rw [c4b0] | (simp only [i64_w, i32_w]; rw [c4b0]) | skip)
   have H' := Aside0.mk H
   clear H
   go_wp2
   repeat (go_quiet (fail); try go_wp2)
   go_meet
   case rel => exact ⟨_, (true), (by first | rfl | (simp; done) | (simp [*]; done)), H', ⟨by first | omega | exact Nat.le_refl _⟩, by repeat (first | exact Drawn0.refl _ | apply Drawn0.step)⟩
  ·rw [if_neg c4] at H
   have c4b0 : decide ((l0.length : Int) < 1) = false := decide_eq_false c4
   have c4b1 : decide (l0.length < 1) = false := decide_eq_false (by omega)
   clear c4
   (first | rw [c4b0] | (simp only [i64_w, i32_w]; rw [c4b0]) | skip)
   by_cases c5 : (l0.length : Int) > 12
   ·rw [if_pos c5] at H
    have c5b0 : decide (12 < (l0.length : Int)) = true := decide_eq_true c5
    have c5b1 : decide (12 < l0.length) = true := decide_eq_true (by omega)
    clear c5
    have H' := Aside0.mk H
    clear H
    go_wp2
    repeat (go_quiet (fail); try go_wp2)
    go_meet
    case rel => exact ⟨_, (true), (by first | rfl | (simp; done) | (simp [*]; done)), H', ⟨by first | omega | exact Nat.le_refl _⟩, by repeat (first | exact Drawn0.refl _ | apply Drawn0.step)⟩
   ·rw [if_neg c5] at H
    have c5b0 : decide (12 < (l0.length : Int)) = false := decide_eq_false c5
    have c5b1 : decide (12 < l0.length) = false := decide_eq_false (by omega)
    clear c5
    by_cases c6 : 0 < (l0.length : Int)
    ·rw [if_pos c6] at H
     have c6b0 : decide (0 < (l0.length : Int)) = true := decide_eq_true c6
     have c6b1 : decide (0 < l0.length) = true := decide_eq_true (by omega)
     clear c6
     by_cases c7 : ((rd_L1 l0 0).length : Int) < 1
     ·rw [if_pos c7] at H
      have c7b0 : decide (((rd_L1 l0 0).length : Int) < 1) = true := decide_eq_true c7
      have c7b1 : decide ((rd_L1 l0 0).length < 1) = true := decide_eq_true (by omega)
      clear c7
      have H' := Aside0.mk H
      clear H
      have p101 : 0 ≤ (0 : Int) := (by omega)
      have q101 : 0 < (l0.length : Int) := of_decide_eq_true (by first | (with_reducible assumption) | assumption)
      obtain ⟨ad101, A101_0, c101_0, e101, hx101_0, hl101_0, hi101_0⟩ := at_L1 HR0.out 0 p101 q101
      cases e101
      have qi101 : (0 < l0.length) = True := eq_true (by omega)
      (try rw [show ((0 : Int)).toNat = 0 from rfl] at hx101_0)
      (try rw [Addr.add_zero'] at hx101_0)
      have HR101_0 := Aside0.mk hi101_0
      have HC101_0 := Aside0.mk hl101_0
      clear hi101_0 hl101_0
      replace p101 := eq_true p101
      replace q101 := eq_true q101
      go_wp2
      repeat (go_quiet (fail); try go_wp2)
      go_meet
      case rel => exact ⟨_, (true), (by first | rfl | (simp; done) | (simp [*]; done)), H', ⟨by first | omega | exact Nat.le_refl _⟩, by repeat (first | exact Drawn0.refl _ | apply Drawn0.step)⟩
     ·rw [if_neg c7] at H
      have c7b0 : decide (((rd_L1 l0 0).length : Int) < 1) = false := decide_eq_false c7
      have c7b1 : decide ((rd_L1 l0 0).length < 1) = false := decide_eq_false (by omega)
      clear c7
      have H' := Aside0.mk H
      clear H
      have p101 : 0 ≤ (0 : Int) := (by omega)
      have q101 : 0 < (l0.length : Int) := of_decide_eq_true (by first | (with_reducible assumption) | assumption)
      obtain ⟨ad101, A101_0, c101_0, e101, hx101_0, hl101_0, hi101_0⟩ := at_L1 HR0.out 0 p101 q101
      cases e101
      have qi101 : (0 < l0.length) = True := eq_true (by omega)
      (try rw [show ((0 : Int)).toNat = 0 from rfl] at hx101_0)
      (try rw [Addr.add_zero'] at hx101_0)
      have HR101_0 := Aside0.mk hi101_0
      have HC101_0 := Aside0.mk hl101_0
      clear hi101_0 hl101_0
      replace p101 := eq_true p101
      replace q101 := eq_true q101
      have p102 : 0 ≤ (0 : Int) := (by omega)
      have q102 : 0 < (l0.length : Int) := of_decide_eq_true (by first | (with_reducible assumption) | assumption)
      obtain ⟨ad102, A102_0, c102_0, e102, hx102_0, hl102_0, hi102_0⟩ := at_L1 HR0.out 0 p102 q102
      obtain rfl : ad101 = ad102 := (by injection e102)
      have qi102 : (0 < l0.length) = True := eq_true (by omega)
      (try rw [show ((0 : Int)).toNat = 0 from rfl] at hx102_0)
      (try rw [Addr.add_zero'] at hx102_0)
      have HR102_0 := Aside0.mk hi102_0
      have HC102_0 := Aside0.mk hl102_0
      clear hi102_0 hl102_0
      replace p102 := eq_true p102
      replace q102 := eq_true q102
      have ea_ := Option.some.inj (hx101_0.symm.trans hx102_0)
      injection ea_ with ea_ en_ ec_
      subst ea_
      subst ec_
      clear en_
      go_wp2
      repeat (go_quiet (fail); try go_wp2)
      go_meet
      case rel => exact ⟨_, (decide (((rd_L1 l0 0).length : Int) > 12)), (by first | rfl | (simp; done) | (simp [*]; done)), H', ⟨by first | omega | exact Nat.le_refl _⟩, by repeat (first | exact Drawn0.refl _ | apply Drawn0.step)⟩
    ·rw [if_neg c6] at H
     exact absurd H (by simp)
 case rest =>
  clear HC3
  try clear c1
  try clear p1
  try clear q1
  try clear hx1
  try clear qi1
  try clear p2
  try clear c3
  try clear c4
  try clear c4b0
  try clear c4b1
  try clear c5
  try clear c5b0
  try clear c5b1
  try clear c6
  try clear c6b0
  try clear c6b1
  try clear c7
  try clear c7b0
  try clear c7b1
  try clear hx101_0
  try clear hx102_0
  try clear p101
  try clear p102
  try clear q101
  try clear q102
  obtain ⟨kq, x28_2, rfl, HA, HJ2, ⟨mc2, rfl⟩⟩ := hcut
  cases kq with
  | zero => exact absurd HA.out (by simp [spec_l09Form.j0])
  | succ kj2 =>
   have H := HA.out
   clear HA
   simp only [spec_l09Form.j0] at H
   by_cases c8 : x28_2 = true
   ·subst c8
    have H1 : (some false) = some r := by rw [if_pos rfl] at H; exact H
    clear H
    have H := H1
    clear H1
    obtain rfl := Option.some.inj H
    go_wp2
    repeat (go_quiet (fail); try go_wp2)
    go_ret
    exact ⟨by first | rfl | (simp; done) | (simp [*]; done), by repeat (first | exact Drawn0.refl _ | apply Drawn0.step)⟩
   ·replace c8 := Bool.eq_false_iff.mpr c8
    subst c8
    have H1 : (spec_l09Form.l0 kj2 l0 a1 0) = some r := by rw [if_neg (show ¬ (false = true) by decide)] at H; exact H
    clear H
    have H := H1
    clear H1
    have H' := Aside0.mk H
    clear H
    go_wp2
    repeat (go_quiet (fail); try go_wp2)
    go_loopg [5] kj2 (fun kq v5 w' => ∃ (x5_2 : Int), v5 = .int .i64 x5_2 ∧ Aside0 (spec_l09Form.l0 kq l0 a1 x5_2 = some r) ∧ Aside0 (kq ≤ kj2) ∧ Drawn0 w w')
    case atStart => exact ⟨(0), (by first | rfl | (simp; done) | (simp [*]; done)), H', ⟨Nat.le_refl _⟩, by repeat (first | exact Drawn0.refl _ | apply Drawn0.step)⟩
    case round =>
     clear H'
     try clear c1
     try clear p1
     try clear q1
     try clear hx1
     try clear qi1
     try clear c2
     try clear p2
     try clear c3
     try clear c4
     try clear c4b0
     try clear c4b1
     try clear c5
     try clear c5b0
     try clear c5b1
     try clear c6
     try clear c6b0
     try clear c6b1
     try clear c7
     try clear c7b0
     try clear c7b1
     try clear c8
     try clear hx101_0
     try clear hx102_0
     try clear p1
     try clear p101
     try clear p102
     try clear p2
     try clear q1
     try clear q101
     try clear q102
     obtain ⟨x5_2, rfl, HA, HK2, ⟨m2, rfl⟩⟩ := hrel
     cases gk with
     | zero => exact absurd HA.out (by simp [spec_l09Form.l0])
     | succ k2 =>
      have H := HA.out
      clear HA
      simp only [spec_l09Form.l0] at H
      by_cases c9 : x5_2 < (l0.length : Int)
      ·rw [if_pos c9] at H
       have c9b0 : decide (x5_2 < (l0.length : Int)) = true := decide_eq_true c9
       clear c9
       by_cases c10 : 0 ≤ x5_2
       ·rw [if_pos c10] at H
        have c10b0 : decide (0 ≤ x5_2) = true := decide_eq_true c10
        clear c10
        by_cases c11 : 0 < (l0.length : Int)
        ·rw [if_pos c11] at H
         have c11b0 : decide (0 < (l0.length : Int)) = true := decide_eq_true c11
         have c11b1 : decide (0 < l0.length) = true := decide_eq_true (by omega)
         clear c11
         by_cases c12 : ((rd_L1 l0 x5_2).length : Int) = ((rd_L1 l0 0).length : Int)
         ·rw [if_pos c12] at H
          have c12b0 : (((rd_L1 l0 x5_2).length : Int) == ((rd_L1 l0 0).length : Int)) = true := beq_iff_eq.mpr c12
          have c12b1 : (((rd_L1 l0 x5_2).length : Int) != ((rd_L1 l0 0).length : Int)) = false := bne_eq_false_iff_eq.mpr c12
          have c12b2 : ((rd_L1 l0 x5_2).length == (rd_L1 l0 0).length) = true := by first | simpa using c12 | (simp at c12 ⊢; omega)
          clear c12
          have H' := Aside0.mk H
          clear H
          have p103 : 0 ≤ (x5_2 : Int) := of_decide_eq_true (by first | (with_reducible assumption) | assumption)
          have q103 : x5_2 < (l0.length : Int) := of_decide_eq_true (by first | (with_reducible assumption) | assumption)
          obtain ⟨ad103, A103_0, c103_0, e103, hx103_0, hl103_0, hi103_0⟩ := at_L1 HR0.out x5_2 p103 q103
          cases e103
          have HR103_0 := Aside0.mk hi103_0
          have HC103_0 := Aside0.mk hl103_0
          clear hi103_0 hl103_0
          replace p103 := eq_true p103
          replace q103 := eq_true q103
          have p104 : 0 ≤ (0 : Int) := (by omega)
          have q104 : 0 < (l0.length : Int) := of_decide_eq_true (by first | (with_reducible assumption) | assumption)
          obtain ⟨ad104, A104_0, c104_0, e104, hx104_0, hl104_0, hi104_0⟩ := at_L1 HR0.out 0 p104 q104
          obtain rfl : ad103 = ad104 := (by injection e104)
          have qi104 : (0 < l0.length) = True := eq_true (by omega)
          (try rw [show ((0 : Int)).toNat = 0 from rfl] at hx104_0)
          (try rw [Addr.add_zero'] at hx104_0)
          have HR104_0 := Aside0.mk hi104_0
          have HC104_0 := Aside0.mk hl104_0
          clear hi104_0 hl104_0
          replace p104 := eq_true p104
          replace q104 := eq_true q104
          go_wp2
          repeat (go_quiet (fail); try go_wp2)
          go_loopg [6] k2 (fun kq v6 w' => ∃ (x6_3 : Int), v6 = .int .i64 x6_3 ∧ Aside0 (spec_l09Form.l1 kq l0 a1 x5_2 x6_3 = some r) ∧ Aside0 (kq ≤ k2) ∧ Drawn0 w w')
          case atStart => exact ⟨(0), (by first | rfl | (simp; done) | (simp [*]; done)), H', ⟨Nat.le_refl _⟩, by repeat (first | exact Drawn0.refl _ | apply Drawn0.step)⟩
          case round =>
           clear H'
           try clear c1
           try clear p1
           try clear q1
           try clear hx1
           try clear qi1
           try clear c2
           try clear p2
           try clear c3
           try clear c4
           try clear c4b0
           try clear c4b1
           try clear c5
           try clear c5b0
           try clear c5b1
           try clear c6
           try clear c6b0
           try clear c6b1
           try clear c7
           try clear c7b0
           try clear c7b1
           try clear c8
           try clear c9
           try clear c9b0
           try clear c10
           try clear c10b0
           try clear p10
           try clear q10
           try clear hx10
           try clear qi10
           try clear c11
           try clear c11b0
           try clear c11b1
           try clear c12
           try clear c12b0
           try clear c12b1
           try clear c12b2
           try clear hx101_0
           try clear hx102_0
           try clear hx103_0
           try clear hx104_0
           try clear p1
           try clear p101
           try clear p102
           try clear p103
           try clear p104
           try clear p2
           try clear q1
           try clear q101
           try clear q102
           try clear q103
           try clear q104
           obtain ⟨x6_3, rfl, HA, HK3, ⟨m3, rfl⟩⟩ := hrel
           cases gk with
           | zero => exact absurd HA.out (by simp [spec_l09Form.l1])
           | succ k3 =>
            have H := HA.out
            clear HA
            simp only [spec_l09Form.l1] at H
            by_cases c13 : 0 ≤ x5_2
            ·rw [if_pos c13] at H
             have c13b0 : decide (0 ≤ x5_2) = true := decide_eq_true c13
             clear c13
             by_cases c14 : x5_2 < (l0.length : Int)
             ·rw [if_pos c14] at H
              have c14b0 : decide (x5_2 < (l0.length : Int)) = true := decide_eq_true c14
              clear c14
              by_cases c15 : x6_3 < ((rd_L1 l0 x5_2).length : Int)
              ·rw [if_pos c15] at H
               have c15b0 : decide (x6_3 < ((rd_L1 l0 x5_2).length : Int)) = true := decide_eq_true c15
               clear c15
               by_cases c16 : 0 ≤ x6_3
               ·rw [if_pos c16] at H
                have c16b0 : decide (0 ≤ x6_3) = true := decide_eq_true c16
                clear c16
                replace H := Option.bind_eq_some_iff.mp H
                obtain ⟨t108, A170, H⟩ := H
                replace H : (if t108 = true then (spec_l09Form.l1 k3 l0 a1 x5_2 (wrap64 (x6_3 + 1))) else (some false)) = some r := H
                have A17 := Aside0.mk A170
                clear A170
                by_cases c18 : t108 = true
                ·subst c18
                 have H1 : (spec_l09Form.l1 k3 l0 a1 x5_2 (wrap64 (x6_3 + 1))) = some r := by rw [if_pos rfl] at H; exact H
                 clear H
                 have H := H1
                 clear H1
                 have H' := Aside0.mk H
                 clear H
                 have p105 : 0 ≤ (x5_2 : Int) := of_decide_eq_true (by first | (with_reducible assumption) | assumption)
                 have q105 : x5_2 < (l0.length : Int) := of_decide_eq_true (by first | (with_reducible assumption) | assumption)
                 obtain ⟨ad105, A105_0, c105_0, e105, hx105_0, hl105_0, hi105_0⟩ := at_L1 HR0.out x5_2 p105 q105
                 obtain rfl : ad103 = ad105 := (by injection e105)
                 have HR105_0 := Aside0.mk hi105_0
                 have HC105_0 := Aside0.mk hl105_0
                 clear hi105_0 hl105_0
                 replace p105 := eq_true p105
                 replace q105 := eq_true q105
                 have p106 : 0 ≤ (x5_2 : Int) := of_decide_eq_true (by first | (with_reducible assumption) | assumption)
                 have q106 : x5_2 < (l0.length : Int) := of_decide_eq_true (by first | (with_reducible assumption) | assumption)
                 obtain ⟨ad106, A106_0, c106_0, e106, hx106_0, hl106_0, hi106_0⟩ := at_L1 HR0.out x5_2 p106 q106
                 obtain rfl : ad103 = ad106 := (by injection e106)
                 have HR106_0 := Aside0.mk hi106_0
                 have HC106_0 := Aside0.mk hl106_0
                 clear hi106_0 hl106_0
                 replace p106 := eq_true p106
                 replace q106 := eq_true q106
                 have ea_ := Option.some.inj (hx105_0.symm.trans hx106_0)
                 injection ea_ with ea_ en_ ec_
                 subst ea_
                 subst ec_
                 clear en_
                 have p107 : 0 ≤ (x6_3 : Int) := of_decide_eq_true (by first | (with_reducible assumption) | assumption)
                 have q107 : x6_3 < ((rd_L1 l0 x5_2).length : Int) := of_decide_eq_true (by first | (with_reducible assumption) | assumption)
                 obtain ⟨ad107, e107, hx107_0⟩ := Kd.at_int HR106_0.out x6_3 p107 q107
                 cases e107
                 replace p107 := eq_true p107
                 replace q107 := eq_true q107
                 go_wp2_with (first | (go_at_call 45; (with_reducible refine (spec_l00In.calls (rd (rd_L1 l0 x5_2) x6_3) 0 a1 true _ A17.out).mono ?_); rintro e w' ⟨rfl, ⟨nd, rfl⟩⟩; (try first | exact ⟨rfl, _, World.drewN_drewN _ _ _⟩ | exact ⟨rfl, _, Eq.trans (World.drewN_drewN _ _ _) (congrArg (World.drewN _) (Nat.add_assoc _ _ _))⟩)))
                 repeat (go_quiet (first | (go_at_call 45; (with_reducible refine (spec_l00In.calls (rd (rd_L1 l0 x5_2) x6_3) 0 a1 true _ A17.out).mono ?_); rintro e w' ⟨rfl, ⟨nd, rfl⟩⟩; (try first | exact ⟨rfl, _, World.drewN_drewN _ _ _⟩ | exact ⟨rfl, _, Eq.trans (World.drewN_drewN _ _ _) (congrArg (World.drewN _) (Nat.add_assoc _ _ _))⟩))); try go_wp2_with (first | (go_at_call 45; (with_reducible refine (spec_l00In.calls (rd (rd_L1 l0 x5_2) x6_3) 0 a1 true _ A17.out).mono ?_); rintro e w' ⟨rfl, ⟨nd, rfl⟩⟩; (try first | exact ⟨rfl, _, World.drewN_drewN _ _ _⟩ | exact ⟨rfl, _, Eq.trans (World.drewN_drewN _ _ _) (congrArg (World.drewN _) (Nat.add_assoc _ _ _))⟩))))
                 go_roundg k3
                 case measure => have := HJ2.out; have := HK2.out; have := HK3.out; omega
                 case rel => exact ⟨(wrap64 (x6_3 + 1)), (by first | rfl | (simp; done) | (simp [*]; done)), H', ⟨by have := HJ2.out; have := HK2.out; have := HK3.out; omega⟩, by repeat (first | exact Drawn0.refl _ | apply Drawn0.step)⟩
                ·replace c18 := Bool.eq_false_iff.mpr c18
                 subst c18
                 have H1 : (some false) = some r := by rw [if_neg (show ¬ (false = true) by decide)] at H; exact H
                 clear H
                 have H := H1
                 clear H1
                 obtain rfl := Option.some.inj H
                 have p105 : 0 ≤ (x5_2 : Int) := of_decide_eq_true (by first | (with_reducible assumption) | assumption)
                 have q105 : x5_2 < (l0.length : Int) := of_decide_eq_true (by first | (with_reducible assumption) | assumption)
                 obtain ⟨ad105, A105_0, c105_0, e105, hx105_0, hl105_0, hi105_0⟩ := at_L1 HR0.out x5_2 p105 q105
                 obtain rfl : ad103 = ad105 := (by injection e105)
                 have HR105_0 := Aside0.mk hi105_0
                 have HC105_0 := Aside0.mk hl105_0
                 clear hi105_0 hl105_0
                 replace p105 := eq_true p105
                 replace q105 := eq_true q105
                 have p106 : 0 ≤ (x5_2 : Int) := of_decide_eq_true (by first | (with_reducible assumption) | assumption)
                 have q106 : x5_2 < (l0.length : Int) := of_decide_eq_true (by first | (with_reducible assumption) | assumption)
                 obtain ⟨ad106, A106_0, c106_0, e106, hx106_0, hl106_0, hi106_0⟩ := at_L1 HR0.out x5_2 p106 q106
                 obtain rfl : ad103 = ad106 := (by injection e106)
                 have HR106_0 := Aside0.mk hi106_0
                 have HC106_0 := Aside0.mk hl106_0
                 clear hi106_0 hl106_0
                 replace p106 := eq_true p106
                 replace q106 := eq_true q106
                 have ea_ := Option.some.inj (hx105_0.symm.trans hx106_0)
                 injection ea_ with ea_ en_ ec_
                 subst ea_
                 subst ec_
                 clear en_
                 have p107 : 0 ≤ (x6_3 : Int) := of_decide_eq_true (by first | (with_reducible assumption) | assumption)
                 have q107 : x6_3 < ((rd_L1 l0 x5_2).length : Int) := of_decide_eq_true (by first | (with_reducible assumption) | assumption)
                 obtain ⟨ad107, e107, hx107_0⟩ := Kd.at_int HR106_0.out x6_3 p107 q107
                 cases e107
                 replace p107 := eq_true p107
                 replace q107 := eq_true q107
                 go_wp2_with (first | (go_at_call 45; (with_reducible refine (spec_l00In.calls (rd (rd_L1 l0 x5_2) x6_3) 0 a1 false _ A17.out).mono ?_); rintro e w' ⟨rfl, ⟨nd, rfl⟩⟩; (try first | exact ⟨rfl, _, World.drewN_drewN _ _ _⟩ | exact ⟨rfl, _, Eq.trans (World.drewN_drewN _ _ _) (congrArg (World.drewN _) (Nat.add_assoc _ _ _))⟩)))
                 repeat (go_quiet (first | (go_at_call 45; (with_reducible refine (spec_l00In.calls (rd (rd_L1 l0 x5_2) x6_3) 0 a1 false _ A17.out).mono ?_); rintro e w' ⟨rfl, ⟨nd, rfl⟩⟩; (try first | exact ⟨rfl, _, World.drewN_drewN _ _ _⟩ | exact ⟨rfl, _, Eq.trans (World.drewN_drewN _ _ _) (congrArg (World.drewN _) (Nat.add_assoc _ _ _))⟩))); try go_wp2_with (first | (go_at_call 45; (with_reducible refine (spec_l00In.calls (rd (rd_L1 l0 x5_2) x6_3) 0 a1 false _ A17.out).mono ?_); rintro e w' ⟨rfl, ⟨nd, rfl⟩⟩; (try first | exact ⟨rfl, _, World.drewN_drewN _ _ _⟩ | exact ⟨rfl, _, Eq.trans (World.drewN_drewN _ _ _) (congrArg (World.drewN _) (Nat.add_assoc _ _ _))⟩))))
                 go_ret
                 exact ⟨by first | rfl | (simp; done) | (simp [*]; done), by repeat (first | exact Drawn0.refl _ | apply Drawn0.step)⟩
               ·rw [if_neg c16] at H
                exact absurd H (by simp)
              ·rw [if_neg c15] at H
               have c15b0 : decide (x6_3 < ((rd_L1 l0 x5_2).length : Int)) = false := decide_eq_false c15
               clear c15
               have H' := Aside0.mk H
               clear H
               have p105 : 0 ≤ (x5_2 : Int) := of_decide_eq_true (by first | (with_reducible assumption) | assumption)
               have q105 : x5_2 < (l0.length : Int) := of_decide_eq_true (by first | (with_reducible assumption) | assumption)
               obtain ⟨ad105, A105_0, c105_0, e105, hx105_0, hl105_0, hi105_0⟩ := at_L1 HR0.out x5_2 p105 q105
               obtain rfl : ad103 = ad105 := (by injection e105)
               have HR105_0 := Aside0.mk hi105_0
               have HC105_0 := Aside0.mk hl105_0
               clear hi105_0 hl105_0
               replace p105 := eq_true p105
               replace q105 := eq_true q105
               go_wp2
               repeat (go_quiet (fail); try go_wp2)
               go_roundg k3
               case measure => have := HJ2.out; have := HK2.out; have := HK3.out; omega
               case rel => exact ⟨(wrap64 (x5_2 + 1)), (by first | rfl | (simp; done) | (simp [*]; done)), H', ⟨by have := HJ2.out; have := HK2.out; have := HK3.out; omega⟩, by repeat (first | exact Drawn0.refl _ | apply Drawn0.step)⟩
             ·rw [if_neg c14] at H
              exact absurd H (by simp)
            ·rw [if_neg c13] at H
             exact absurd H (by simp)
         ·rw [if_neg c12] at H
          have c12b0 : (((rd_L1 l0 x5_2).length : Int) == ((rd_L1 l0 0).length : Int)) = false := beq_eq_false_iff_ne.mpr c12
          have c12b1 : (((rd_L1 l0 x5_2).length : Int) != ((rd_L1 l0 0).length : Int)) = true := bne_iff_ne.mpr c12
          have c12b2 : ((rd_L1 l0 x5_2).length == (rd_L1 l0 0).length) = false := by first | simpa using c12 | (simp at c12 ⊢; omega)
          obtain rfl := Option.some.inj H
          have p103 : 0 ≤ (x5_2 : Int) := of_decide_eq_true (by first | (with_reducible assumption) | assumption)
          have q103 : x5_2 < (l0.length : Int) := of_decide_eq_true (by first | (with_reducible assumption) | assumption)
          obtain ⟨ad103, A103_0, c103_0, e103, hx103_0, hl103_0, hi103_0⟩ := at_L1 HR0.out x5_2 p103 q103
          cases e103
          have HR103_0 := Aside0.mk hi103_0
          have HC103_0 := Aside0.mk hl103_0
          clear hi103_0 hl103_0
          replace p103 := eq_true p103
          replace q103 := eq_true q103
          have p104 : 0 ≤ (0 : Int) := (by omega)
          have q104 : 0 < (l0.length : Int) := of_decide_eq_true (by first | (with_reducible assumption) | assumption)
          obtain ⟨ad104, A104_0, c104_0, e104, hx104_0, hl104_0, hi104_0⟩ := at_L1 HR0.out 0 p104 q104
          obtain rfl : ad103 = ad104 := (by injection e104)
          have qi104 : (0 < l0.length) = True := eq_true (by omega)
          (try rw [show ((0 : Int)).toNat = 0 from rfl] at hx104_0)
          (try rw [Addr.add_zero'] at hx104_0)
          have HR104_0 := Aside0.mk hi104_0
          have HC104_0 := Aside0.mk hl104_0
          clear hi104_0 hl104_0
          replace p104 := eq_true p104
          replace q104 := eq_true q104
          go_wp2
          repeat (go_quiet (fail); try go_wp2)
          go_ret
          exact ⟨by first | rfl | (simp; done) | (simp [*]; done), by repeat (first | exact Drawn0.refl _ | apply Drawn0.step)⟩
        ·rw [if_neg c11] at H
         exact absurd H (by simp)
       ·rw [if_neg c10] at H
        exact absurd H (by simp)
      ·rw [if_neg c9] at H
       have c9b0 : decide (x5_2 < (l0.length : Int)) = false := decide_eq_false c9
       clear c9
       obtain rfl := Option.some.inj H
       go_wp2
       repeat (go_quiet (fail); try go_wp2)
       go_ret
       exact ⟨by first | rfl | (simp; done) | (simp [*]; done), by repeat (first | exact Drawn0.refl _ | apply Drawn0.step)⟩
end Go.Proofs.Ytpdkknfooblplaa.Q
namespace Go.Proofs.Ytpdkknfooblplaa.Q
open Go.RowKit Go.Proofs.YtpdkknfooblplaaW.PrintWords Go.Proofs.YtpdkknfooblplaaW.PrintLast Go.Proofs.YtpdkknfooblplaaW.PrintMore
attribute [local go_sem] max2_int min2_int max_two min_two max_three min_three max_four min_four   -- for this text's walks alone
set_option linter.unusedVariables false
set_option linter.unusedSimpArgs false
def laws_szInt64S.f (l0 : List Int) (a1 : Int) : Option (Int) := if (wrap64 (a1 - (l0.length : Int))) < 0 then (some (-1)) else (some (wrap64 (a1 - (l0.length : Int))))
set_option maxHeartbeats 8000000 in
set_option maxRecDepth 100000 in
theorem laws_szInt64S.calls (A0 : Option Addr) (c0 : Nat) (l0 : List Int) (a1 : Int) (r : Int) (w : World) (hr0 : Kd.C (Kd.int .i64) w A0 l0.length l0) (hc0 : l0.length ≤ c0) (h : laws_szInt64S.f l0 a1 = some r) :
  Calls Try.prog 69 #[.slice A0 l0.length c0, .int .i64 a1] w fun e w' => e = .returned (.int .i64 r) ∧ Drawn0 w w' := by
 have HR0 := Aside0.mk hr0
 have HC0 := Aside0.mk hc0
 clear hr0 hc0
 have H : (if (wrap64 (a1 - (l0.length : Int))) < 0 then (some (-1)) else (some (wrap64 (a1 - (l0.length : Int))))) = some r := h
 clear h
 by_cases c3 : (wrap64 (a1 - (l0.length : Int))) < 0
 ·rw [if_pos c3] at H
  have c3b0 : decide ((wrap64 (a1 - (l0.length : Int))) < 0) = true := decide_eq_true c3
  clear c3
  obtain rfl := Option.some.inj H
  go_enter Try.func69, Try.ntmps69
  go_wp2
  go_ret
  exact ⟨by first | rfl | (simp; done) | (simp [*]; done), by repeat (first | exact Drawn0.refl _ | apply Drawn0.step)⟩
 ·rw [if_neg c3] at H
  have c3b0 : decide ((wrap64 (a1 - (l0.length : Int))) < 0) = false := decide_eq_false c3
  clear c3
  obtain rfl := Option.some.inj H
  go_enter Try.func69, Try.ntmps69
  go_wp2
  go_ret
  exact ⟨by first | rfl | (simp; done) | (simp [*]; done), by repeat (first | exact Drawn0.refl _ | apply Drawn0.step)⟩
end Go.Proofs.Ytpdkknfooblplaa.Q
namespace Go.Proofs.Ytpdkknfooblplaa.Q
open Go.RowKit Go.Proofs.YtpdkknfooblplaaW.PrintWords Go.Proofs.YtpdkknfooblplaaW.PrintLast Go.Proofs.YtpdkknfooblplaaW.PrintMore
attribute [local go_sem] max2_int min2_int max_two min_two max_three min_three max_four min_four   -- for this text's walks alone
set_option linter.unusedVariables false
set_option linter.unusedSimpArgs false
def laws_szInt64SS.l0 : Nat → List (List Int) → Int → Int → Option (Int)
 | 0, _, _, _ => none
 | k + 1, x0, x1, x5 => if x5 < (x0.length : Int) then (if 0 ≤ x5 then ((laws_szInt64S.f (rd_L1 x0 x5) x1).bind fun t160 => (if t160 < 0 then (some (-1)) else (laws_szInt64SS.l0 k x0 t160 (wrap64 (x5 + 1))))) else (none)) else (some x1)
def laws_szInt64SS.f (k : Nat) (l0 : List (List Int)) (a1 : Int) : Option (Int) := if (wrap64 (a1 - (l0.length : Int))) < 0 then (some (-1)) else (laws_szInt64SS.l0 k l0 (wrap64 (a1 - (l0.length : Int))) 0)
theorem laws_szInt64SS.mono_l : ∀ k, (∀ y0 y1 y2, LeO (laws_szInt64SS.l0 k y0 y1 y2) (laws_szInt64SS.l0 (k + 1) y0 y1 y2))
 | 0 => fun _ _ _ r h => by simp [laws_szInt64SS.l0] at h
 | k + 1 => by
  have ih0 := laws_szInt64SS.mono_l k
  ·intro y0 y1 y2
   unfold laws_szInt64SS.l0
   repeat' first
   | (with_reducible exact ih0 _ _ _)
   | (with_reducible exact LeO.refl _)
   | (with_reducible exact LeO.none _)
   | (with_reducible refine LeO.ite ?_ ?_)
   | (with_reducible refine LeO.bind ?_ (fun _ => ?_))
   | exact ih0 _ _ _
   | exact LeO.none _
   | refine LeO.ite ?_ ?_
   | refine LeO.bind ?_ (fun _ => ?_)
theorem laws_szInt64SS.mono : ∀ a0 a1 k, LeO (laws_szInt64SS.f k a0 a1) (laws_szInt64SS.f (k + 1) a0 a1) := by
 intro a0 a1 k
 have ih0 := laws_szInt64SS.mono_l k
 unfold laws_szInt64SS.f
 repeat' first
   | (with_reducible exact ih0 _ _ _)
   | (with_reducible exact LeO.refl _)
   | (with_reducible exact LeO.none _)
   | (with_reducible refine LeO.ite ?_ ?_)
   | (with_reducible refine LeO.bind ?_ (fun _ => ?_))
   | exact ih0 _ _ _
   | exact LeO.none _
   | refine LeO.ite ?_ ?_
   | refine LeO.bind ?_ (fun _ => ?_)
set_option maxHeartbeats 8000000 in
set_option maxRecDepth 100000 in
theorem laws_szInt64SS.calls (k : Nat) (A0 : Option Addr) (c0 : Nat) (l0 : List (List Int)) (a1 : Int) (r : Int) (w : World) (hr0 : Kd.C (Kd.slice 2 (Kd.int .i64)) w A0 l0.length l0) (hc0 : l0.length ≤ c0) (h : laws_szInt64SS.f k l0 a1 = some r) :
  Calls Try.prog 38 #[.slice A0 l0.length c0, .int .i64 a1] w fun e w' => e = .returned (.int .i64 r) ∧ Drawn0 w w' := by
 have HR0 := Aside0.mk hr0
 have HC0 := Aside0.mk hc0
 clear hr0 hc0
 have H : (if (wrap64 (a1 - (l0.length : Int))) < 0 then (some (-1)) else (laws_szInt64SS.l0 k l0 (wrap64 (a1 - (l0.length : Int))) 0)) = some r := h
 clear h
 by_cases c3 : (wrap64 (a1 - (l0.length : Int))) < 0
 ·rw [if_pos c3] at H
  have c3b0 : decide ((wrap64 (a1 - (l0.length : Int))) < 0) = true := decide_eq_true c3
  clear c3
  obtain rfl := Option.some.inj H
  go_enter Try.func38, Try.ntmps38
  go_wp2
  go_ret
  exact ⟨by first | rfl | (simp; done) | (simp [*]; done), by repeat (first | exact Drawn0.refl _ | apply Drawn0.step)⟩
 ·rw [if_neg c3] at H
  have c3b0 : decide ((wrap64 (a1 - (l0.length : Int))) < 0) = false := decide_eq_false c3
  clear c3
  have H' := Aside0.mk H
  clear H
  go_enter Try.func38, Try.ntmps38
  go_wp2
  go_loopg [1, 5] k (fun kq v1 v5 w' => ∃ (x1_1 : Int) (x5_1 : Int), v1 = .int .i64 x1_1 ∧ v5 = .int .i64 x5_1 ∧ Aside0 (laws_szInt64SS.l0 kq l0 x1_1 x5_1 = some r) ∧ Aside0 (kq ≤ k) ∧ Drawn0 w w')
  case atStart => exact ⟨(wrap64 (a1 - (l0.length : Int))), (0), (by first | rfl | (simp; done) | (simp [*]; done)), (by first | rfl | (simp; done) | (simp [*]; done)), H', ⟨Nat.le_refl _⟩, by repeat (first | exact Drawn0.refl _ | apply Drawn0.step)⟩
  case round =>
   clear H'
   try clear p2
   try clear c3
   try clear c3b0
   obtain ⟨x1_1, x5_1, rfl, rfl, HA, HK1, ⟨m1, rfl⟩⟩ := hrel
   cases gk with
   | zero => exact absurd HA.out (by simp [laws_szInt64SS.l0])
   | succ k1 =>
    have H := HA.out
    clear HA
    simp only [laws_szInt64SS.l0] at H
    by_cases c4 : x5_1 < (l0.length : Int)
    ·rw [if_pos c4] at H
     have c4b0 : decide (x5_1 < (l0.length : Int)) = true := decide_eq_true c4
     clear c4
     by_cases c5 : 0 ≤ x5_1
     ·rw [if_pos c5] at H
      have c5b0 : decide (0 ≤ x5_1) = true := decide_eq_true c5
      clear c5
      replace H := Option.bind_eq_some_iff.mp H
      obtain ⟨t160, A60, H⟩ := H
      replace H : (if t160 < 0 then (some (-1)) else (laws_szInt64SS.l0 k1 l0 t160 (wrap64 (x5_1 + 1)))) = some r := H
      have A6 := Aside0.mk A60
      clear A60
      by_cases c7 : t160 < 0
      ·rw [if_pos c7] at H
       have c7b0 : decide (t160 < 0) = true := decide_eq_true c7
       clear c7
       obtain rfl := Option.some.inj H
       have p159 : 0 ≤ (x5_1 : Int) := of_decide_eq_true (by first | (with_reducible assumption) | assumption)
       have q159 : x5_1 < (l0.length : Int) := of_decide_eq_true (by first | (with_reducible assumption) | assumption)
       obtain ⟨ad159, A159_0, c159_0, e159, hx159_0, hl159_0, hi159_0⟩ := at_L1 HR0.out x5_1 p159 q159
       cases e159
       have HR159_0 := Aside0.mk hi159_0
       have HC159_0 := Aside0.mk hl159_0
       clear hi159_0 hl159_0
       replace p159 := eq_true p159
       replace q159 := eq_true q159
       go_wp2_with (first | ((with_reducible refine gate_callee (f := 69) rfl ?_); refine goesL_ (some 23) rfl rfl Try.func69 (by kernel_rfl) rfl #[.slice A159_0 (rd_L1 l0 x5_1).length c159_0, .int .i64 x1_1] rfl (by (try simp only [List.map_toArray, List.map_cons, List.map_nil]); first | done | rfl | (simp only [List.length_drop, List.length_take]; rfl) | (simp only [show ∀ (n_ : Nat) (b_ : Int), Int.tdiv (n_ : Int) b_ = (n_ : Int) / b_ from fun n_ b_ => Int.tdiv_eq_ediv_of_nonneg (Int.natCast_nonneg n_)]; rfl)) ?_; (with_reducible refine (laws_szInt64S.calls _ _ (rd_L1 l0 x5_1) x1_1 t160 _ ?side1 ?side2 A6.out).mono ?_); (case side1 => repeat (first | exact HR159_0.out | (with_reducible refine Kd.C_alloc ?_ _) | (with_reducible refine Kd.C_drewN ?_ _) | (with_reducible refine Kd.C_drew ?_))); (case side2 => exact HC159_0.out); rintro e w' ⟨rfl, ⟨nd, rfl⟩⟩; refine ⟨_, rfl, ?_⟩))
       go_ret
       exact ⟨by first | rfl | (simp; done) | (simp [*]; done), by repeat (first | exact Drawn0.refl _ | apply Drawn0.step)⟩
      ·rw [if_neg c7] at H
       have c7b0 : decide (t160 < 0) = false := decide_eq_false c7
       clear c7
       have H' := Aside0.mk H
       clear H
       have p159 : 0 ≤ (x5_1 : Int) := of_decide_eq_true (by first | (with_reducible assumption) | assumption)
       have q159 : x5_1 < (l0.length : Int) := of_decide_eq_true (by first | (with_reducible assumption) | assumption)
       obtain ⟨ad159, A159_0, c159_0, e159, hx159_0, hl159_0, hi159_0⟩ := at_L1 HR0.out x5_1 p159 q159
       cases e159
       have HR159_0 := Aside0.mk hi159_0
       have HC159_0 := Aside0.mk hl159_0
       clear hi159_0 hl159_0
       replace p159 := eq_true p159
       replace q159 := eq_true q159
       go_wp2_with (first | ((with_reducible refine gate_callee (f := 69) rfl ?_); refine goesL_ (some 23) rfl rfl Try.func69 (by kernel_rfl) rfl #[.slice A159_0 (rd_L1 l0 x5_1).length c159_0, .int .i64 x1_1] rfl (by (try simp only [List.map_toArray, List.map_cons, List.map_nil]); first | done | rfl | (simp only [List.length_drop, List.length_take]; rfl) | (simp only [show ∀ (n_ : Nat) (b_ : Int), Int.tdiv (n_ : Int) b_ = (n_ : Int) / b_ from fun n_ b_ => Int.tdiv_eq_ediv_of_nonneg (Int.natCast_nonneg n_)]; rfl)) ?_; (with_reducible refine (laws_szInt64S.calls _ _ (rd_L1 l0 x5_1) x1_1 t160 _ ?side1 ?side2 A6.out).mono ?_); (case side1 => repeat (first | exact HR159_0.out | (with_reducible refine Kd.C_alloc ?_ _) | (with_reducible refine Kd.C_drewN ?_ _) | (with_reducible refine Kd.C_drew ?_))); (case side2 => exact HC159_0.out); rintro e w' ⟨rfl, ⟨nd, rfl⟩⟩; refine ⟨_, rfl, ?_⟩))
       go_roundg k1
       case measure => have := HK1.out; omega
       case rel => exact ⟨(t160), (wrap64 (x5_1 + 1)), (by first | rfl | (simp; done) | (simp [*]; done)), (by first | rfl | (simp; done) | (simp [*]; done)), H', ⟨by have := HK1.out; omega⟩, by repeat (first | exact Drawn0.refl _ | apply Drawn0.step)⟩
     ·rw [if_neg c5] at H
      exact absurd H (by simp)
    ·rw [if_neg c4] at H
     have c4b0 : decide (x5_1 < (l0.length : Int)) = false := decide_eq_false c4
     clear c4
     obtain rfl := Option.some.inj H
     go_wp2
     go_ret
     exact ⟨by first | rfl | (simp; done) | (simp [*]; done), by repeat (first | exact Drawn0.refl _ | apply Drawn0.step)⟩
end Go.Proofs.Ytpdkknfooblplaa.Q
namespace Go.Proofs.Ytpdkknfooblplaa.Q
open Go.RowKit Go.Proofs.YtpdkknfooblplaaW.PrintWords Go.Proofs.YtpdkknfooblplaaW.PrintLast Go.Proofs.YtpdkknfooblplaaW.PrintMore
attribute [local go_sem] max2_int min2_int max_two min_two max_three min_three max_four min_four   -- for this text's walks alone
set_option linter.unusedVariables false
set_option linter.unusedSimpArgs false
def laws_szPicture.f (k : Nat) (l0_0 : List (List Int)) (a1 : Int) : Option (Int) := (laws_szInt64SS.f k l0_0 a1).bind fun t162 => (if t162 < 0 then (some (-1)) else (some t162))
theorem laws_szPicture.mono : ∀ a0 a1 k, LeO (laws_szPicture.f k a0 a1) (laws_szPicture.f (k + 1) a0 a1) := by
 intro a0 a1 k
 unfold laws_szPicture.f
 repeat' first
   | (with_reducible exact laws_szInt64SS.mono _ _ _)
   | (with_reducible exact LeO.refl _)
   | (with_reducible exact LeO.none _)
   | (with_reducible refine LeO.ite ?_ ?_)
   | (with_reducible refine LeO.bind ?_ (fun _ => ?_))
   | exact laws_szInt64SS.mono _ _ _
   | exact LeO.none _
   | refine LeO.ite ?_ ?_
   | refine LeO.bind ?_ (fun _ => ?_)
set_option maxHeartbeats 8000000 in
set_option maxRecDepth 100000 in
theorem laws_szPicture.calls (k : Nat) (A0_0 : Option Addr) (c0_0 : Nat) (l0_0 : List (List Int)) (a1 : Int) (r : Int) (w : World) (hr0_0 : Kd.C (Kd.slice 2 (Kd.int .i64)) w A0_0 l0_0.length l0_0) (hc0_0 : l0_0.length ≤ c0_0) (h : laws_szPicture.f k l0_0 a1 = some r) :
  Calls Try.prog 11 #[.agg #[.slice A0_0 l0_0.length c0_0], .int .i64 a1] w fun e w' => e = .returned (.int .i64 r) ∧ Below w.heap.size w w' := by
 have hu29 := Try.underlying29
 have HR0_0 := Aside0.mk hr0_0
 have HC0_0 := Aside0.mk hc0_0
 clear hr0_0 hc0_0
 have HB := Aside0.mk (Below.refl w.heap.size w)
 have H : ((laws_szInt64SS.f k l0_0 a1).bind fun t162 => (if t162 < 0 then (some (-1)) else (some t162))) = some r := h
 clear h
 replace H := Option.bind_eq_some_iff.mp H
 obtain ⟨t162, A30, H⟩ := H
 replace H : (if t162 < 0 then (some (-1)) else (some t162)) = some r := H
 have A3 := Aside0.mk A30
 clear A30
 by_cases c4 : t162 < 0
 ·rw [if_pos c4] at H
  have c4b0 : decide (t162 < 0) = true := decide_eq_true c4
  clear c4
  obtain rfl := Option.some.inj H
  go_enter Try.func11, Try.ntmps11
  go_wp2_with (first | ((with_reducible refine gate_dst (N := 2) rfl ?_); refine box_event ?hg (N := 2) ?hd (cs := #[.slice A0_0 l0_0.length c0_0]) (t := 29) ?hr ?_; (case hd => rfl); (case hg => rfl); (case hr => first | (go_simp; done) | (go_simp; rfl)); intro gb161 hg w5 hbox hb; have n0_ := Aside0.mk (below_step (bl_ HB) hb); have n1_ := Aside0.mk (hbox); have n2_ := Aside0.mk ((by rw [hg]; exact (below_size (bl_ HB)) : w.heap.size ≤ gb161)); have n3_ := Aside0.mk ((by rw [hg]; exact (below_size (bl_ HB)) : w.heap.size ≤ gb161)); clear HB; have HB := n0_; have BK161 := n1_; have GW161 := n2_; have GE161 := n3_; clear n0_ n1_ n2_ n3_; clear hb hbox hg; have hcz6_0 : w5.cell? ⟨gb161, 0, none⟩ = some (.slice A0_0 l0_0.length c0_0) := (blk_cell BK161.out 0).trans rfl; have hfz6_0 := blk_frozen BK161.out 0) | ((with_reducible refine gate_callee (f := 38) rfl ?_); refine goesL_ (some 8) rfl rfl Try.func38 (by kernel_rfl) rfl #[.slice A0_0 l0_0.length c0_0, .int .i64 a1] rfl (by (try simp only [List.map_toArray, List.map_cons, List.map_nil]); first | done | rfl | (simp only [List.length_drop, List.length_take]; rfl) | (simp only [show ∀ (n_ : Nat) (b_ : Int), Int.tdiv (n_ : Int) b_ = (n_ : Int) / b_ from fun n_ b_ => Int.tdiv_eq_ediv_of_nonneg (Int.natCast_nonneg n_)]; rfl)) ?_; (with_reducible refine (laws_szInt64SS.calls k _ _ l0_0 a1 t162 _ ?side1 ?side2 A3.out).mono ?_); (case side1 => repeat (first | exact (Kd.C_below HR0_0.out HB.out) | (with_reducible refine Kd.C_alloc ?_ _) | (with_reducible refine Kd.C_drewN ?_ _) | (with_reducible refine Kd.C_drew ?_))); (case side2 => exact HC0_0.out); rintro e w' ⟨rfl, ⟨nd, rfl⟩⟩; refine ⟨_, rfl, ?_⟩))
  go_ret
  exact ⟨by first | rfl | (simp [errW_none, errW_some] <;> rfl) | (simp [*, errW_none, errW_some] <;> rfl), bl_ HB⟩
 ·rw [if_neg c4] at H
  have c4b0 : decide (t162 < 0) = false := decide_eq_false c4
  clear c4
  obtain rfl := Option.some.inj H
  go_enter Try.func11, Try.ntmps11
  go_wp2_with (first | ((with_reducible refine gate_dst (N := 2) rfl ?_); refine box_event ?hg (N := 2) ?hd (cs := #[.slice A0_0 l0_0.length c0_0]) (t := 29) ?hr ?_; (case hd => rfl); (case hg => rfl); (case hr => first | (go_simp; done) | (go_simp; rfl)); intro gb161 hg w7 hbox hb; have n0_ := Aside0.mk (below_step (bl_ HB) hb); have n1_ := Aside0.mk (hbox); have n2_ := Aside0.mk ((by rw [hg]; exact (below_size (bl_ HB)) : w.heap.size ≤ gb161)); have n3_ := Aside0.mk ((by rw [hg]; exact (below_size (bl_ HB)) : w.heap.size ≤ gb161)); clear HB; have HB := n0_; have BK161 := n1_; have GW161 := n2_; have GE161 := n3_; clear n0_ n1_ n2_ n3_; clear hb hbox hg; have hcz8_0 : w7.cell? ⟨gb161, 0, none⟩ = some (.slice A0_0 l0_0.length c0_0) := (blk_cell BK161.out 0).trans rfl; have hfz8_0 := blk_frozen BK161.out 0) | ((with_reducible refine gate_callee (f := 38) rfl ?_); refine goesL_ (some 8) rfl rfl Try.func38 (by kernel_rfl) rfl #[.slice A0_0 l0_0.length c0_0, .int .i64 a1] rfl (by (try simp only [List.map_toArray, List.map_cons, List.map_nil]); first | done | rfl | (simp only [List.length_drop, List.length_take]; rfl) | (simp only [show ∀ (n_ : Nat) (b_ : Int), Int.tdiv (n_ : Int) b_ = (n_ : Int) / b_ from fun n_ b_ => Int.tdiv_eq_ediv_of_nonneg (Int.natCast_nonneg n_)]; rfl)) ?_; (with_reducible refine (laws_szInt64SS.calls k _ _ l0_0 a1 t162 _ ?side1 ?side2 A3.out).mono ?_); (case side1 => repeat (first | exact (Kd.C_below HR0_0.out HB.out) | (with_reducible refine Kd.C_alloc ?_ _) | (with_reducible refine Kd.C_drewN ?_ _) | (with_reducible refine Kd.C_drew ?_))); (case side2 => exact HC0_0.out); rintro e w' ⟨rfl, ⟨nd, rfl⟩⟩; refine ⟨_, rfl, ?_⟩))
  go_ret
  exact ⟨by first | rfl | (simp [errW_none, errW_some] <;> rfl) | (simp [*, errW_none, errW_some] <;> rfl), bl_ HB⟩
def laws_szTapS.f (l0 : List (S96)) (a1 : Int) : Option (Int) := if (wrap64 (a1 - (l0.length : Int))) < 0 then (some (-1)) else (some (wrap64 (a1 - (l0.length : Int))))
set_option maxHeartbeats 8000000 in
set_option maxRecDepth 100000 in
theorem laws_szTapS.calls (A0 : Option Addr) (c0 : Nat) (l0 : List (S96)) (a1 : Int) (r : Int) (w : World) (hr0 : Kd.C k96 w A0 l0.length l0) (hc0 : l0.length ≤ c0) (h : laws_szTapS.f l0 a1 = some r) :
  Calls Try.prog 39 #[.slice A0 l0.length c0, .int .i64 a1] w fun e w' => e = .returned (.int .i64 r) ∧ Drawn0 w w' := by
 have HR0 := Aside0.mk hr0
 have HC0 := Aside0.mk hc0
 clear hr0 hc0
 have H : (if (wrap64 (a1 - (l0.length : Int))) < 0 then (some (-1)) else (some (wrap64 (a1 - (l0.length : Int))))) = some r := h
 clear h
 by_cases c3 : (wrap64 (a1 - (l0.length : Int))) < 0
 ·rw [if_pos c3] at H
  have c3b0 : decide ((wrap64 (a1 - (l0.length : Int))) < 0) = true := decide_eq_true c3
  clear c3
  obtain rfl := Option.some.inj H
  go_enter Try.func39, Try.ntmps39
  go_wp2
  go_ret
  exact ⟨by first | rfl | (simp; done) | (simp [*]; done), by repeat (first | exact Drawn0.refl _ | apply Drawn0.step)⟩
 ·rw [if_neg c3] at H
  have c3b0 : decide ((wrap64 (a1 - (l0.length : Int))) < 0) = false := decide_eq_false c3
  clear c3
  obtain rfl := Option.some.inj H
  go_enter Try.func39, Try.ntmps39
  go_wp2
  go_ret
  exact ⟨by first | rfl | (simp; done) | (simp [*]; done), by repeat (first | exact Drawn0.refl _ | apply Drawn0.step)⟩
def laws_szKernel.f (a0_0 : Int) (l0_1 : List (S96)) (a1 : Int) : Option (Int) := (laws_szTapS.f l0_1 a1).bind fun t164 => (if t164 < 0 then (some (-1)) else (some t164))
set_option maxHeartbeats 8000000 in
set_option maxRecDepth 100000 in
theorem laws_szKernel.calls (a0_0 : Int) (A0_1 : Option Addr) (c0_1 : Nat) (l0_1 : List (S96)) (a1 : Int) (r : Int) (w : World) (hr0_1 : Kd.C k96 w A0_1 l0_1.length l0_1) (hc0_1 : l0_1.length ≤ c0_1) (h : laws_szKernel.f a0_0 l0_1 a1 = some r) :
  Calls Try.prog 12 #[.agg #[.int .i64 a0_0, .slice A0_1 l0_1.length c0_1], .int .i64 a1] w fun e w' => e = .returned (.int .i64 r) ∧ Below w.heap.size w w' := by
 have hu32 := Try.underlying32
 have HR0_1 := Aside0.mk hr0_1
 have HC0_1 := Aside0.mk hc0_1
 clear hr0_1 hc0_1
 have HB := Aside0.mk (Below.refl w.heap.size w)
 have H : ((laws_szTapS.f l0_1 a1).bind fun t164 => (if t164 < 0 then (some (-1)) else (some t164))) = some r := h
 clear h
 replace H := Option.bind_eq_some_iff.mp H
 obtain ⟨t164, A30, H⟩ := H
 replace H : (if t164 < 0 then (some (-1)) else (some t164)) = some r := H
 have A3 := Aside0.mk A30
 clear A30
 by_cases c4 : t164 < 0
 ·rw [if_pos c4] at H
  have c4b0 : decide (t164 < 0) = true := decide_eq_true c4
  clear c4
  obtain rfl := Option.some.inj H
  go_enter Try.func12, Try.ntmps12
  go_wp2_with (first | ((with_reducible refine gate_dst (N := 2) rfl ?_); refine box_event ?hg (N := 2) ?hd (cs := #[.int .i64 a0_0, .slice A0_1 l0_1.length c0_1]) (t := 32) ?hr ?_; (case hd => rfl); (case hg => rfl); (case hr => first | (go_simp; done) | (go_simp; rfl)); intro gb163 hg w5 hbox hb; have n0_ := Aside0.mk (below_step (bl_ HB) hb); have n1_ := Aside0.mk (hbox); have n2_ := Aside0.mk ((by rw [hg]; exact (below_size (bl_ HB)) : w.heap.size ≤ gb163)); have n3_ := Aside0.mk ((by rw [hg]; exact (below_size (bl_ HB)) : w.heap.size ≤ gb163)); clear HB; have HB := n0_; have BK163 := n1_; have GW163 := n2_; have GE163 := n3_; clear n0_ n1_ n2_ n3_; clear hb hbox hg; have hcz6_0 : w5.cell? ⟨gb163, 0, none⟩ = some (.int .i64 a0_0) := (blk_cell BK163.out 0).trans rfl; have hcz6_1 : w5.cell? ⟨gb163, 1, none⟩ = some (.slice A0_1 l0_1.length c0_1) := (blk_cell BK163.out 1).trans rfl; have hfz6_0 := blk_frozen BK163.out 0; have hfz6_1 := blk_frozen BK163.out 1) | ((with_reducible refine gate_callee (f := 39) rfl ?_); refine goesL_ (some 8) rfl rfl Try.func39 (by kernel_rfl) rfl #[.slice A0_1 l0_1.length c0_1, .int .i64 a1] rfl (by (try simp only [List.map_toArray, List.map_cons, List.map_nil]); first | done | rfl | (simp only [List.length_drop, List.length_take]; rfl) | (simp only [show ∀ (n_ : Nat) (b_ : Int), Int.tdiv (n_ : Int) b_ = (n_ : Int) / b_ from fun n_ b_ => Int.tdiv_eq_ediv_of_nonneg (Int.natCast_nonneg n_)]; rfl)) ?_; (with_reducible refine (laws_szTapS.calls _ _ l0_1 a1 t164 _ ?side1 ?side2 A3.out).mono ?_); (case side1 => repeat (first | exact (Kd.C_below HR0_1.out HB.out) | (with_reducible refine Kd.C_alloc ?_ _) | (with_reducible refine Kd.C_drewN ?_ _) | (with_reducible refine Kd.C_drew ?_))); (case side2 => exact HC0_1.out); rintro e w' ⟨rfl, ⟨nd, rfl⟩⟩; refine ⟨_, rfl, ?_⟩))
  go_ret
  exact ⟨by first | rfl | (simp [errW_none, errW_some] <;> rfl) | (simp [*, errW_none, errW_some] <;> rfl), bl_ HB⟩
 ·rw [if_neg c4] at H
  have c4b0 : decide (t164 < 0) = false := decide_eq_false c4
  clear c4
  obtain rfl := Option.some.inj H
  go_enter Try.func12, Try.ntmps12
  go_wp2_with (first | ((with_reducible refine gate_dst (N := 2) rfl ?_); refine box_event ?hg (N := 2) ?hd (cs := #[.int .i64 a0_0, .slice A0_1 l0_1.length c0_1]) (t := 32) ?hr ?_; (case hd => rfl); (case hg => rfl); (case hr => first | (go_simp; done) | (go_simp; rfl)); intro gb163 hg w7 hbox hb; have n0_ := Aside0.mk (below_step (bl_ HB) hb); have n1_ := Aside0.mk (hbox); have n2_ := Aside0.mk ((by rw [hg]; exact (below_size (bl_ HB)) : w.heap.size ≤ gb163)); have n3_ := Aside0.mk ((by rw [hg]; exact (below_size (bl_ HB)) : w.heap.size ≤ gb163)); clear HB; have HB := n0_; have BK163 := n1_; have GW163 := n2_; have GE163 := n3_; clear n0_ n1_ n2_ n3_; clear hb hbox hg; have hcz8_0 : w7.cell? ⟨gb163, 0, none⟩ = some (.int .i64 a0_0) := (blk_cell BK163.out 0).trans rfl; have hcz8_1 : w7.cell? ⟨gb163, 1, none⟩ = some (.slice A0_1 l0_1.length c0_1) := (blk_cell BK163.out 1).trans rfl; have hfz8_0 := blk_frozen BK163.out 0; have hfz8_1 := blk_frozen BK163.out 1) | ((with_reducible refine gate_callee (f := 39) rfl ?_); refine goesL_ (some 8) rfl rfl Try.func39 (by kernel_rfl) rfl #[.slice A0_1 l0_1.length c0_1, .int .i64 a1] rfl (by (try simp only [List.map_toArray, List.map_cons, List.map_nil]); first | done | rfl | (simp only [List.length_drop, List.length_take]; rfl) | (simp only [show ∀ (n_ : Nat) (b_ : Int), Int.tdiv (n_ : Int) b_ = (n_ : Int) / b_ from fun n_ b_ => Int.tdiv_eq_ediv_of_nonneg (Int.natCast_nonneg n_)]; rfl)) ?_; (with_reducible refine (laws_szTapS.calls _ _ l0_1 a1 t164 _ ?side1 ?side2 A3.out).mono ?_); (case side1 => repeat (first | exact (Kd.C_below HR0_1.out HB.out) | (with_reducible refine Kd.C_alloc ?_ _) | (with_reducible refine Kd.C_drewN ?_ _) | (with_reducible refine Kd.C_drew ?_))); (case side2 => exact HC0_1.out); rintro e w' ⟨rfl, ⟨nd, rfl⟩⟩; refine ⟨_, rfl, ?_⟩))
  go_ret
  exact ⟨by first | rfl | (simp [errW_none, errW_some] <;> rfl) | (simp [*, errW_none, errW_some] <;> rfl), bl_ HB⟩
def spec_l09Is.f (k : Nat) (l0_0 : List (List Int)) : Option (Bool) := (spec_l09Form.f k l0_0 255).bind fun t165 => (some t165)
theorem spec_l09Is.mono : ∀ a0 k, LeO (spec_l09Is.f k a0) (spec_l09Is.f (k + 1) a0) := by
 intro a0 k
 unfold spec_l09Is.f
 repeat' first
   | (with_reducible exact spec_l09Form.mono _ _ _)
   | (with_reducible exact LeO.refl _)
   | (with_reducible exact LeO.none _)
   | (with_reducible refine LeO.ite ?_ ?_)
   | (with_reducible refine LeO.bind ?_ (fun _ => ?_))
   | exact spec_l09Form.mono _ _ _
   | exact LeO.none _
   | refine LeO.ite ?_ ?_
   | refine LeO.bind ?_ (fun _ => ?_)
set_option maxHeartbeats 8000000 in
set_option maxRecDepth 100000 in
theorem spec_l09Is.calls (k : Nat) (g0_ : Nat) (A0_0 : Option Addr) (c0_0 : Nat) (l0_0 : List (List Int)) (r : Bool) (w : World) (hr0_0 : Kd.C (Kd.slice 2 (Kd.int .i64)) w A0_0 l0_0.length l0_0) (hc0_0 : l0_0.length ≤ c0_0) (hbx0 : w.heap[g0_]? = some (.cells #[.slice A0_0 l0_0.length c0_0] 37 (0, 0))) (h : spec_l09Is.f k l0_0 = some r) :
  Calls Try.prog 40 #[.pointer (some ⟨g0_, 0, none⟩)] w fun e w' => e = .returned (.bool r) ∧ Below w.heap.size w w' := by
 have HR0_0 := Aside0.mk hr0_0
 have HC0_0 := Aside0.mk hc0_0
 clear hr0_0 hc0_0
 have HB := Aside0.mk (Below.refl w.heap.size w)
 have BK0 := Aside0.mk hbx0
 clear hbx0
 have H : ((spec_l09Form.f k l0_0 255).bind fun t165 => (some t165)) = some r := h
 clear h
 replace H := Option.bind_eq_some_iff.mp H
 obtain ⟨t165, A20, H⟩ := H
 replace H : (some t165) = some r := H
 have A2 := Aside0.mk A20
 clear A20
 obtain rfl := Option.some.inj H
 have hcz3_0 : w.cell? ⟨g0_, 0, none⟩ = some (.slice A0_0 l0_0.length c0_0) := (blk_cell BK0.out 0).trans rfl
 have hfz3_0 := blk_frozen BK0.out 0
 go_enter Try.func40, Try.ntmps40
 go_wp2_with (first | ((with_reducible refine gate_callee (f := 32) rfl ?_); refine goesL_ (some 7) rfl rfl Try.func32 (by kernel_rfl) rfl #[.slice A0_0 l0_0.length c0_0, .int .i64 255] rfl (by (try simp only [List.map_toArray, List.map_cons, List.map_nil]); first | done | rfl | (simp only [List.length_drop, List.length_take]; rfl) | (simp only [show ∀ (n_ : Nat) (b_ : Int), Int.tdiv (n_ : Int) b_ = (n_ : Int) / b_ from fun n_ b_ => Int.tdiv_eq_ediv_of_nonneg (Int.natCast_nonneg n_)]; rfl)) ?_; (with_reducible refine (spec_l09Form.calls k _ _ l0_0 255 t165 _ ?side1 ?side2 A2.out).mono ?_); (case side1 => repeat (first | exact HR0_0.out | (with_reducible refine Kd.C_alloc ?_ _) | (with_reducible refine Kd.C_drewN ?_ _) | (with_reducible refine Kd.C_drew ?_))); (case side2 => exact HC0_0.out); rintro e w' ⟨rfl, ⟨nd, rfl⟩⟩; refine ⟨_, rfl, ?_⟩))
 go_ret
 exact ⟨by first | rfl | (simp [errW_none, errW_some] <;> rfl) | (simp [*, errW_none, errW_some] <;> rfl), bl_ HB⟩
end Go.Proofs.Ytpdkknfooblplaa.Q
