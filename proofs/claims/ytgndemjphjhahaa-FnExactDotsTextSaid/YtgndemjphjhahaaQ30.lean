/- Functions of the given program as plain functions, and that the program's calls answer as they do; written by a program of this session over the kit's print. -/
import Derived.Test.YtgndemjphjhahaaQ0
namespace Go.Proofs.Ytgndemjphjhahaa.Q
open Go.RowKit Go.Proofs.YtgndemjphjhahaaW.PrintWords Go.Proofs.YtgndemjphjhahaaW.PrintLast Go.Proofs.YtgndemjphjhahaaW.PrintMore
attribute [local go_sem] max2_int min2_int max_two min_two max_three min_three max_four min_four   -- for this text's walks alone
set_option linter.unusedVariables false
set_option linter.unusedSimpArgs false

/-! ### slices_IndexFunc_int64_int64: function 111 -/

theorem rws_enters {f : FuncId} {fn : Func} {c : Code} (hf : Try.prog.funcs[f]? = some fn) (hname : (fn.name == "runtime.NumGoroutine") = false) (hb : fn.body = some c) (args : Array Value) (w : World) : (callFunc f args).run Try.prog w = .ok (.enter f args) w := by
  have h1 : fn.name ≠ "runtime.NumGoroutine" := by simpa using hname
  simp [callFunc, hf, h1, hb, mark]
def rws_idxf {α : Type} (p : α → Bool) (l : List α) : Int := match l.findIdx? p with | some i => (i : Int) | none => -1
theorem rws_idxf_hit {α : Type} {p : α → Bool} {l : List α} {k : Nat} (hk : k < l.length) (h : p l[k] = true) (hb : ∀ j (hj : j < l.length), j < k → p l[j] = false) : rws_idxf p l = k := by
  unfold rws_idxf
  have : l.findIdx? p = some k := List.findIdx?_eq_some_iff_getElem.2 ⟨hk, h, fun j hj => by simp [hb j (by omega) hj]⟩
  rw [this]
theorem rws_idxf_miss {α : Type} {p : α → Bool} {l : List α} (hb : ∀ j (hj : j < l.length), p l[j] = false) : rws_idxf p l = -1 := by
  unfold rws_idxf
  have : l.findIdx? p = none := List.findIdx?_eq_none_iff.2 (fun x hx => by obtain ⟨j, hj, rfl⟩ := List.getElem_of_mem hx; exact hb j hj)
  rw [this]
theorem rws_idxf_any {α : Type} (p : α → Bool) (l : List α) : decide (rws_idxf p l ≥ 0) = l.any p := by
  unfold rws_idxf
  cases h : l.findIdx? p with
  | none =>
    have := List.findIdx?_eq_none_iff.1 h
    simp only [show ¬ ((-1 : Int) ≥ 0) by omega, decide_false]
    symm
    rw [List.any_eq_false]
    intro x hx
    simp [this x hx]
  | some i =>
    have := List.findIdx?_eq_some_iff_getElem.1 h
    obtain ⟨hi, h1, _⟩ := this
    have h2 : l.any p = true := List.any_eq_true.2 ⟨l[i], List.getElem_mem hi, h1⟩
    rw [h2]
    simp

set_option maxHeartbeats 2000000 in
theorem rws_ixf (g : Nat) (lb : Array Value) (eg : ∀ args w, (callFunc g args).run Try.prog w = .ok (.enter g args) w) (p : List Int → Bool) (A0 : Option Addr) (c0 : Nat) (l0 : List (List Int)) (w : World) (hr : Kd.C (Kd.slice 2 (Kd.int .i64)) w A0 l0.length l0)
    (hp : ∀ (x : List Int) (A : Option Addr) (c : Nat) (w1 : World), Below w.heap.size w w1 → x.length ≤ c → Kd.C (Kd.int .i64) w1 A x.length x → Calls Try.prog g (#[.slice A x.length c] ++ lb) w1 fun e w' => e = .returned (.bool (p x)) ∧ Below w1.heap.size w1 w') :
    Calls Try.prog 111 #[.slice A0 l0.length c0, .func (.func g) #[] lb] w fun e w' => e = .returned (.int .i64 (rws_idxf p l0)) ∧ Below w.heap.size w w' := by
  have hbig : l0.length ≤ 9223372036854775807 := hr.2.1
  have HR := Aside0.mk hr
  clear hr
  go_enter Try.func111, Try.ntmps111
  go_wp2
  go_loopg [5, 8] l0.length (fun gg _ s8 wr => ∃ kk : Nat, kk ≤ l0.length ∧ l0.length - kk ≤ gg ∧ s8 = .int .i64 kk ∧ Aside0 (Below w.heap.size w wr) ∧ Aside0 (∀ j (hj : j < l0.length), j < kk → p l0[j] = false))
  case atStart => exact ⟨0, Nat.zero_le _, by omega, rfl, ⟨Below.refl _ _⟩, ⟨fun j hj h => absurd h (Nat.not_lt_zero _)⟩⟩
  case round =>
    obtain ⟨kk, hkk, hg, rfl, HB, A⟩ := hrel
    by_cases hlt : kk < l0.length
    · have hltz : (kk : Int) < (l0.length : Int) := by omega
      have HC := Kd.C_below HR.out HB.out
      obtain ⟨ad, rfl, hcs⟩ := HC.2.2 (by omega)
      obtain ⟨cs, hl1, hk1, hc1⟩ := hcs kk _ (List.getElem?_eq_getElem hlt)
      obtain ⟨A1, c1, rfl, hlc, hcr⟩ := hk1
      have hcell := hc1 0 _ rfl
      simp only [show (Kd.slice 2 (Kd.int .i64)).sz = 1 from rfl, Nat.mul_one, Nat.add_zero] at hcell
      have HCR := Aside0.mk hcr
      have HLC := Aside0.mk hlc
      clear hcs hc1 hl1 hcr hlc HC
      generalize hy : l0[kk] = y at hcell HCR HLC
      have B := Aside0.mk hy
      clear hy
      cases hq : p y with
      | true =>
        go_wp2_with fail
        refine (hp y A1 c1 _ HB.out HLC.out HCR.out).mono ?_
        rintro e w' ⟨rfl, hb⟩
        rw [hq]
        have HB2 := Aside0.mk (below_then HB.out HB.out.size hb)
        go_wp2
        go_ret
        exact ⟨by rw [rws_idxf_hit hlt (by rw [B.out]; exact hq) A.out]; rfl, by first | exact HB2.out | exact pw_below_drewN HB2.out _⟩
      | false =>
        go_wp2_with fail
        refine (hp y A1 c1 _ HB.out HLC.out HCR.out).mono ?_
        rintro e w' ⟨rfl, hb⟩
        rw [hq]
        have HB2 := Aside0.mk (below_then HB.out HB.out.size hb)
        go_wp2
        go_roundg (l0.length - (kk + 1))
        case measure => omega
        case rel =>
          refine ⟨kk + 1, by omega, by omega, by go_num, ⟨by first | exact HB2.out | exact pw_below_drewN HB2.out _⟩, ⟨fun j hj h => ?_⟩⟩
          by_cases e : j = kk
          · subst e
            rw [B.out]; exact hq
          · exact A.out j hj (by omega)
    · have hltz : ¬ (kk : Int) < (l0.length : Int) := by omega
      have : kk = l0.length := by omega
      subst this
      go_wp2
      go_ret
      exact ⟨by rw [rws_idxf_miss (fun j hj => A.out j hj hj)]; rfl, by first | exact HB.out | exact pw_below_drewN HB.out _⟩


/-! ### slices_ContainsFunc_int64_int64: function 98 -/

set_option maxHeartbeats 2000000 in
theorem rws_ctf (g : Nat) (lb : Array Value) (eg : ∀ args w, (callFunc g args).run Try.prog w = .ok (.enter g args) w) (p : List Int → Bool) (A0 : Option Addr) (c0 : Nat) (l0 : List (List Int)) (w : World) (hr : Kd.C (Kd.slice 2 (Kd.int .i64)) w A0 l0.length l0)
    (hp : ∀ (x : List Int) (A : Option Addr) (c : Nat) (w1 : World), Below w.heap.size w w1 → x.length ≤ c → Kd.C (Kd.int .i64) w1 A x.length x → Calls Try.prog g (#[.slice A x.length c] ++ lb) w1 fun e w' => e = .returned (.bool (p x)) ∧ Below w1.heap.size w1 w') :
    Calls Try.prog 98 #[.slice A0 l0.length c0, .func (.func g) #[] lb] w fun e w' => e = .returned (.bool (l0.any p)) ∧ Below w.heap.size w w' := by
  have HR := Aside0.mk hr
  clear hr
  rw [← rws_idxf_any]
  go_enter Try.func98, Try.ntmps98
  go_wp2_with (go_at_call 111; refine (rws_ixf g lb eg p A0 c0 l0 _ HR.out hp).mono ?_; rintro e w' ⟨rfl, hb⟩)
  go_ret
  exact ⟨rfl, by first | exact hb | exact pw_below_drewN hb _⟩


end Go.Proofs.Ytgndemjphjhahaa.Q
