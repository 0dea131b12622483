/- Functions of the given program as plain functions, and that the program's calls answer as they do; written by a program of this session over the kit's print. -/
import Derived.Test.YtgndemjphjhahaaQ0
import Derived.Test.YtgndemjphjhahaaQ14
import Derived.Test.YtgndemjphjhahaaQ29
import Derived.Test.YtgndemjphjhahaaQ30
import Derived.Test.YtgndemjphjhahaaQ31
namespace Go.Proofs.Ytgndemjphjhahaa.Q
open Go.RowKit Go.Proofs.YtgndemjphjhahaaW.PrintWords Go.Proofs.YtgndemjphjhahaaW.PrintLast Go.Proofs.YtgndemjphjhahaaW.PrintMore
attribute [local go_sem] max2_int min2_int max_two min_two max_three min_three max_four min_four   -- for this text's walks alone
set_option linter.unusedVariables false
set_option linter.unusedSimpArgs false

/-! ### impl_areRows: function 75 -/

theorem impl_areRows.lt_ {w : World} {a : Addr} {v : Value} (h : w.cell? a = some v) : a.block < w.heap.size := by
  cases hb : w.heap[a.block]? with
  | none =>
    unfold World.cell? at h
    rw [hb] at h
    simp at h
  | some x => exact (Array.getElem?_eq_some_iff.1 hb).1
def impl_areRows.p (m : Nat) (a1 : Int) (x : List Int) : Bool := decide (x.length ≠ m) || !(x.all fun z => decide (0 ≤ z ∧ z ≤ a1))
def impl_areRows.f (l0 : List (List Int)) (a1 : Int) : Option (Bool) := match l0 with
  | [] => some false
  | y :: _ => some (decide (l0.length ≤ 12) && decide (1 ≤ y.length ∧ y.length ≤ 12) && !(l0.any (impl_areRows.p y.length a1)))
set_option maxHeartbeats 2000000 in
theorem impl_areRows.one (b1 b2 : Nat) (ad : Addr) (c0 n : Nat) (hn : 0 < n) (A1 : Option Addr) (c1 m : Nat) (a1 : Int) (A : Option Addr) (c : Nat) (x : List Int) (w : World) (h1 : w.cell? ⟨b1, 0, none⟩ = some (.slice (some ad) n c0)) (h2 : w.cell? ⟨b2, 0, none⟩ = some (.int .i64 a1))
    (h3 : w.cell? ad = some (.slice A1 m c1)) (hlc : x.length ≤ c) (hx : Kd.C (Kd.int .i64) w A x.length x) :
    Calls Try.prog 99 (#[.slice A x.length c] ++ #[.pointer (some ⟨b1, 0, none⟩), .pointer (some ⟨b2, 0, none⟩)]) w fun e w' => e = .returned (.bool (impl_areRows.p m a1 x)) ∧ Below w.heap.size w w' := by
  have HX := Aside0.mk hx
  have HL := Aside0.mk hlc
  have hnz : (0 : Int) < (n : Int) := by omega
  clear hx hlc
  by_cases q : x.length = m
  · have q1 : ((x.length : Int) == (m : Int)) = true := by simp [q]
    have q2 : ((x.length : Int) != (m : Int)) = false := by simp [q]
    have HQ := Aside0.mk q
    clear q
    go_enter Try.func99, Try.ntmps99
    go_wp2_with (go_at_call 100; refine (impl_areWithin.calls A c x 0 a1 _ _ (Kd.C_below HX.out (by first | exact Below.refl _ _ | exact pw_below_drewN (Below.refl _ _) _)) HL.out rfl).mono ?_; rintro e w' ⟨rfl, hb⟩)
    go_ret
    refine ⟨?_, ?_⟩
    · simp [impl_areRows.p, HQ.out]
    · first | exact hb | exact pw_below_drewN hb _ | exact below_then (pw_below_drewN (Below.refl _ _) _) (Nat.le_refl _) hb
  · have q1 : ((x.length : Int) == (m : Int)) = false := by simp; omega
    have q2 : ((x.length : Int) != (m : Int)) = true := by simp; omega
    have HQ := Aside0.mk q
    clear q
    go_enter Try.func99, Try.ntmps99
    go_wp2
    go_ret
    refine ⟨?_, ?_⟩
    · simp [impl_areRows.p, HQ.out]
    · first | exact Below.refl _ _ | exact pw_below_drewN (Below.refl _ _) _
set_option maxHeartbeats 4000000 in
theorem impl_areRows.calls (A0 : Option Addr) (c0 : Nat) (l0 : List (List Int)) (a1 : Int) (r : Bool) (w : World) (hr0 : Kd.C (Kd.slice 2 (Kd.int .i64)) w A0 l0.length l0) (hc0 : l0.length ≤ c0) (h : impl_areRows.f l0 a1 = some r) :
    Calls Try.prog 75 #[.slice A0 l0.length c0, .int .i64 a1] w fun e w' => e = .returned (.bool r) ∧ Below w.heap.size w w' := by
  have eg : ∀ args w, (callFunc 99 args).run Try.prog w = .ok (.enter 99 args) w := i64_enters Try.func99 (by kernel_rfl) rfl
  have HR := Aside0.mk hr0
  have HC0 := Aside0.mk hc0
  have H1 := Aside0.mk (impl_within_tells (l0.length : Int) 1 12)
  have up : ∀ o1 o2, Below w.heap.size w ((w.alloc o1).alloc o2) := fun o1 o2 => below_alloc (below_alloc (Below.refl _ _) o1) o2
  cases l0 with
  | nil =>
    have e : r = false := by
      have h' : some false = some r := h
      injection h' with h'; exact h'.symm
    subst e
    clear hr0 hc0 h
    have H1' := Aside0.mk (show impl_within.f (([] : List (List Int)).length : Int) 1 12 = some false from H1.out)
    clear H1
    have UP := Aside0.mk up
    clear up
    go_enter Try.func75, Try.ntmps75
    go_wp2_with (first | (go_at_call 83; refine (impl_size_int64_83.calls A0 c0 [] _ _ (Kd.C_below HR.out (by repeat (first | exact UP.out _ _ | apply pw_below_drewN))) HC0.out rfl).mono ?_; rintro e w' ⟨rfl, ⟨nd, rfl⟩⟩) | (go_at_call 65; refine (impl_within.calls _ _ _ _ _ H1'.out).mono ?_; rintro e w' ⟨rfl, ⟨nd, rfl⟩⟩))
    go_ret
    exact ⟨rfl, by repeat (first | exact UP.out _ _ | apply pw_below_drewN)⟩
  | cons y ys =>
    have hl : (y :: ys).length = ys.length + 1 := rfl
    have er : r = (decide ((y :: ys).length ≤ 12) && decide (1 ≤ y.length ∧ y.length ≤ 12) && !((y :: ys).any (impl_areRows.p y.length a1))) := by
      have h' : some (decide ((y :: ys).length ≤ 12) && decide (1 ≤ y.length ∧ y.length ≤ 12) && !((y :: ys).any (impl_areRows.p y.length a1))) = some r := h
      injection h' with h'; exact h'.symm
    have hr1 := Kd.C_below hr0 (up (.cells #[.slice A0 (y :: ys).length c0] 37 (0, 0)) (.cells #[.int .i64 a1] 2 (0, 0)))
    obtain ⟨ad, rfl, hcs⟩ := hr1.2.2 (by rw [hl]; omega)
    obtain ⟨cs, _, ⟨A1, c1, rfl, hlc, hcr⟩, hc1⟩ := hcs 0 y rfl
    have hcell := hc1 0 _ rfl
    simp only [show (Kd.slice 2 (Kd.int .i64)).sz = 1 from rfl, Nat.mul_one, Nat.add_zero, show ad.add 0 = ad by cases ad; simp [Addr.add]] at hcell
    have HCR := Aside0.mk hcr
    have HLC := Aside0.mk hlc
    have H2 := Aside0.mk (impl_within_tells (y.length : Int) 1 12)
    have HR1 := Aside0.mk hr1
    clear hcs hc1 hcr hlc hr0 hc0 h hr1 HR
    have UP := Aside0.mk up
    clear up
    have hnz : (0 : Int) < ((y :: ys).length : Int) := by rw [hl]; omega
    have hnz' : 0 < (y :: ys).length := by rw [hl]; omega
    have ER := Aside0.mk er
    clear er hl
    have AL : (y :: ys) = (y :: ys) := rfl
    generalize hL : y :: ys = L at hcell hnz hnz' HR1 HCR HC0 H1 ER ⊢
    have HLL := Aside0.mk hL
    clear hL AL
    by_cases q1 : L.length ≤ 12
    · have H1' : Aside0 (impl_within.f (L.length : Int) 1 12 = some true) := ⟨H1.out.trans (by rw [decide_eq_true (show 1 ≤ (L.length : Int) ∧ (L.length : Int) ≤ 12 by omega)])⟩
      by_cases q2 : 1 ≤ y.length ∧ y.length ≤ 12
      · have H2' : Aside0 (impl_within.f (y.length : Int) 1 12 = some true) := ⟨H2.out.trans (by rw [decide_eq_true (show 1 ≤ (y.length : Int) ∧ (y.length : Int) ≤ 12 by omega)])⟩
        have ER' : r = !(L.any (impl_areRows.p y.length a1)) := by rw [ER.out, decide_eq_true q1, decide_eq_true q2]; rfl
        subst ER'
        clear q1 q2 H1 H2 ER
        have HLT := Aside0.mk (impl_areRows.lt_ hcell)
        generalize hp : impl_areRows.p y.length a1 = p
        have HP := Aside0.mk hp
        clear hp
        go_enter Try.func75, Try.ntmps75
        go_wp2_with (first
          | (go_at_call 83; refine (impl_size_int64_83.calls (some ad) c0 L _ _ (Kd.C_below HR1.out (by repeat (first | exact Below.refl _ _ | apply pw_below_drewN))) HC0.out rfl).mono ?_; rintro e w' ⟨rfl, ⟨nd, rfl⟩⟩)
          | (go_at_call 84; refine (impl_size_int64_84.calls A1 c1 y _ _ (Kd.C_below HCR.out (by repeat (first | exact Below.refl _ _ | apply pw_below_drewN))) HLC.out rfl).mono ?_; rintro e w' ⟨rfl, ⟨nd2, rfl⟩⟩)
          | (go_at_call 65; refine (impl_within.calls _ _ _ true _ (by with_reducible first | exact H1'.out | exact H2'.out)).mono ?_; rintro e w' ⟨rfl, ⟨nd3, rfl⟩⟩)
          | (go_at_call 98; refine (rws_ctf 99 _ eg p (some ad) c0 L _ (Kd.C_below HR1.out (by repeat (first | exact Below.refl _ _ | apply pw_below_drewN))) (fun x A c w1 hb hc hx => by rw [← HP.out]; exact impl_areRows.one _ _ ad c0 L.length hnz' A1 c1 y.length a1 A c x w1 (by rw [Below.cell hb (by simp <;> omega)]; simp) (by rw [Below.cell hb (by simp <;> omega)]; simp) (by rw [Below.cell hb (by have := HLT.out; simp at this ⊢; omega)]; simp [hcell]) hc hx)).mono ?_; rintro e w' ⟨rfl, hb⟩))
        go_ret
        exact ⟨rfl, by first | exact below_then (by repeat (first | exact UP.out _ _ | apply pw_below_drewN)) (by simp <;> omega) hb | exact pw_below_drewN (below_then (by repeat (first | exact UP.out _ _ | apply pw_below_drewN)) (by simp <;> omega) hb) _⟩
      · have H2' : Aside0 (impl_within.f (y.length : Int) 1 12 = some false) := ⟨H2.out.trans (by rw [decide_eq_false (show ¬ (1 ≤ (y.length : Int) ∧ (y.length : Int) ≤ 12) by omega)])⟩
        have ER' : r = false := by rw [ER.out, decide_eq_false q2]; simp
        subst ER'
        clear ER q1 q2 H1 H2
        go_enter Try.func75, Try.ntmps75
        go_wp2_with (first
          | (go_at_call 83; refine (impl_size_int64_83.calls (some ad) c0 L _ _ (Kd.C_below HR1.out (by repeat (first | exact Below.refl _ _ | apply pw_below_drewN))) HC0.out rfl).mono ?_; rintro e w' ⟨rfl, ⟨nd, rfl⟩⟩)
          | (go_at_call 84; refine (impl_size_int64_84.calls A1 c1 y _ _ (Kd.C_below HCR.out (by repeat (first | exact Below.refl _ _ | apply pw_below_drewN))) HLC.out rfl).mono ?_; rintro e w' ⟨rfl, ⟨nd2, rfl⟩⟩)
          | (go_at_call 65; refine (impl_within.calls _ _ _ true _ (by with_reducible exact H1'.out)).mono ?_; rintro e w' ⟨rfl, ⟨nd3, rfl⟩⟩)
          | (go_at_call 65; refine (impl_within.calls _ _ _ false _ (by with_reducible exact H2'.out)).mono ?_; rintro e w' ⟨rfl, ⟨nd4, rfl⟩⟩))
        go_ret
        exact ⟨rfl, by repeat (first | exact UP.out _ _ | apply pw_below_drewN)⟩
    · have H1' : Aside0 (impl_within.f (L.length : Int) 1 12 = some false) := ⟨H1.out.trans (by rw [decide_eq_false (show ¬ (1 ≤ (L.length : Int) ∧ (L.length : Int) ≤ 12) by omega)])⟩
      have H2' := H1'
      have ER' : r = false := by rw [ER.out, decide_eq_false q1]; simp
      subst ER'
      clear ER q1 H1 H2
      go_enter Try.func75, Try.ntmps75
      go_wp2_with (first
        | (go_at_call 83; refine (impl_size_int64_83.calls (some ad) c0 L _ _ (Kd.C_below HR1.out (by repeat (first | exact Below.refl _ _ | apply pw_below_drewN))) HC0.out rfl).mono ?_; rintro e w' ⟨rfl, ⟨nd, rfl⟩⟩)
        | (go_at_call 84; refine (impl_size_int64_84.calls A1 c1 y _ _ (Kd.C_below HCR.out (by repeat (first | exact Below.refl _ _ | apply pw_below_drewN))) HLC.out rfl).mono ?_; rintro e w' ⟨rfl, ⟨nd2, rfl⟩⟩)
        | (go_at_call 65; refine (impl_within.calls _ _ _ false _ (by with_reducible exact H1'.out)).mono ?_; rintro e w' ⟨rfl, ⟨nd3, rfl⟩⟩)
        | (go_at_call 65; refine (impl_within.calls _ _ _ false _ (by with_reducible exact H2'.out)).mono ?_; rintro e w' ⟨rfl, ⟨nd4, rfl⟩⟩))
      go_ret
      exact ⟨rfl, by repeat (first | exact UP.out _ _ | apply pw_below_drewN)⟩


end Go.Proofs.Ytgndemjphjhahaa.Q
