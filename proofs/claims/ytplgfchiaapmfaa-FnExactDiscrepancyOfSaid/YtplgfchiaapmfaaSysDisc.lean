/- The discrepancy of a system, on both sides. -/
import Derived.Test.YtplgfchiaapmfaaSysImb
import Derived.Test.YtplgfchiaapmfaaSysDegree
import Derived.Test.YtplgfchiaapmfaaGreatest
import Derived.Test.YtplgfchiaapmfaaQ28
import Derived.Test.YtplgfchiaapmfaaQ39
import Derived.Test.YtplgfchiaapmfaaQ40
import Derived.Test.YtplgfchiaapmfaaQ54
import Derived.Test.YtplgfchiaapmfaaQ55
import Derived.Test.YtplgfchiaapmfaaQ56
namespace Go.Proofs.Ytplgfchiaapmfaa.Com
set_option linter.unusedSimpArgs false
set_option linter.unusedVariables false
set_option linter.unusedSectionVars false
open Go.RowKit Go.Proofs.YtplgfchiaapmfaaW.PrintWords Go.Proofs.YtplgfchiaapmfaaW.PrintMore Go.Proofs.Ytplgfchiaapmfaa.Q

/-- The first of the least values so far, and where it was. -/
def stepD (f : Nat → Int) (s : Int × Int) (r : Nat) : Int × Int := if s.1 < 0 then (f r, (r : Int)) else if f r < s.1 then (f r, (r : Int)) else s
def minD (f : Nat → Int) (ok : Nat → Bool) (n : Nat) : Int × Int := ((List.range n).filter ok).foldl (stepD f) (-1, 0)
theorem minD_succ (f : Nat → Int) (ok : Nat → Bool) (n : Nat) : minD f ok (n + 1) = if ok n then stepD f (minD f ok n) n else minD f ok n := by
  unfold minD
  rw [List.range_succ, List.filter_append, List.foldl_append]
  cases h : ok n <;> simp [h]
theorem minD_congr {f g : Nat → Int} {ok ok' : Nat → Bool} {n : Nat} (h : ∀ r, r < n → ok r = ok' r ∧ f r = g r) : minD f ok n = minD g ok' n := by
  induction n with
  | zero => rfl
  | succ n ih =>
    rw [minD_succ, minD_succ, ih (fun r hr => h r (by omega))]
    obtain ⟨e1, e2⟩ := h n (by omega)
    rw [e1]
    unfold stepD
    rw [e2]
def most (l : List Int) (pts r : Nat) : Int := gr (l.map fun x => imb (x.toNat &&& pts) r)
section
variable {l : List Int} (hl : l.length ≤ 12) (hs : ∀ x ∈ l, 0 ≤ x ∧ x.toNat < 4096)
include hl hs
theorem most_bd (pts r : Nat) : 0 ≤ most l pts r ∧ most l pts r ≤ 24 :=
  gr_bd 24 (by omega) _ (fun y hy => by
    obtain ⟨x, _, rfl⟩ := List.mem_map.1 hy
    have := imb_bd (x.toNat &&& pts) r
    omega)
theorem most_ev (pts r : Nat) (hp : pts < 4096) (hr : r < 4096) : Ev (fun k => spec_l10Most.f k l (pts : Int) (r : Int)) (most l pts r) := by
  unfold spec_l10Most.f
  have gen := ev_fold l (fun m s k => spec_l10Most.l0 k l (pts : Int) (r : Int) s (m : Int)) (fun d s => (d.map fun x => imb (x.toNat &&& pts) r).foldl (fun s x => mx (mx s x) (-x)) s) (fun m s => True) ?_ ?_ 0 0 (by omega) trivial
  · simpa [most, gr] using gen
  · intro s hm
    refine Ev.step (fun k => by rw [spec_l10Most.l0]) ?_
    simp only [if_neg (show ¬ (l.length : Int) < (l.length : Int) by omega)]
    exact Ev.now _
  · intro m hm s _ ih
    obtain ⟨x0, x1⟩ := hs l[m] (List.getElem_mem hm)
    refine Ev.step (fun k => by rw [spec_l10Most.l0]) ?_
    simp only [if_pos (show (m : Int) < (l.length : Int) by omega), if_pos (show 0 ≤ (m : Int) by omega), rd_nat hm, w_succ (m := m) (by omega)]
    obtain ⟨n, hn⟩ : ∃ n : Nat, l[m] = (n : Int) := ⟨l[m].toNat, by omega⟩
    have hn' : n < 4096 := by rw [hn, Int.toNat_natCast] at x1; exact x1
    have b := imb_bd (n &&& pts) r
    rw [hn, and_nat n pts hn' hp, List.map_cons, List.foldl_cons, Int.toNat_natCast]
    refine Ev.bind (specImb_ev (n &&& pts) r (and_lt pts hn') hr) ?_
    rw [w64 (x := -imb (n &&& pts) r) (by omega) (by omega)]
    simp only [max_mx, Option.bind_some]
    rw [show mx s (mx (imb (n &&& pts) r) (-imb (n &&& pts) r)) = mx (mx s (imb (n &&& pts) r)) (-imb (n &&& pts) r) from by unfold mx; repeat' split <;> omega]
    exact ih _ trivial
/-- The reference's search, for any points. -/
theorem specDisc_ev (pts : Nat) (hp : pts < 4096) : Ev (fun k => spec_l10Discrepancy.f k l (pts : Int)) (minD (most l pts) (fun r => decide (r &&& pts = r)) (pts + 1)) := by
  unfold spec_l10Discrepancy.f
  have gen := ev_count (pts + 1) (fun m (s : Int × Int) k => spec_l10Discrepancy.l0 k l (pts : Int) s.1 s.2 (m : Int)) (minD (most l pts) (fun r => decide (r &&& pts = r)) (pts + 1)) (fun m s => s = minD (most l pts) (fun r => decide (r &&& pts = r)) m) ?_ ?_ 0 (-1, 0) (by omega) rfl
  · exact gen
  · rintro s rfl
    refine Ev.step (fun k => by rw [spec_l10Discrepancy.l0]) ?_
    simp only [if_neg (show ¬ ((pts + 1 : Nat) : Int) ≤ (pts : Int) by omega)]
    exact Ev.now _
  · rintro m s hm rfl
    refine ⟨_, rfl, fun ih => ?_⟩
    refine Ev.step (fun k => by rw [spec_l10Discrepancy.l0]) ?_
    simp only [if_pos (show (m : Int) ≤ (pts : Int) by omega), and_nat m pts (by omega) hp, w_succ (m := m) (by omega)]
    rw [minD_succ] at ih
    by_cases c : m &&& pts = m
    · simp only [c, if_true]
      rw [decide_eq_true c] at ih
      simp only [if_true, stepD] at ih
      refine Ev.bind (most_ev hl hs pts m hp (by omega)) ?_
      generalize minD (most l pts) (fun r => decide (r &&& pts = r)) m = s at ih ⊢
      by_cases c1 : s.1 < 0
      · simp only [if_pos c1] at ih ⊢
        exact ih
      · simp only [if_neg c1] at ih ⊢
        by_cases c2 : most l pts m < s.1
        · simp only [if_pos c2] at ih ⊢
          exact ih
        · simp only [if_neg c2] at ih ⊢
          exact ih
    · simp only [if_neg (show ¬ ((m &&& pts : Nat) : Int) = (m : Int) by omega)]
      rw [decide_eq_false c] at ih
      simpa using ih
/-- The program's search. -/
theorem implDisc_ev (p : Nat) (hp : p ≤ 12) : Ev (fun k => impl_System_discrepancy.f k (p : Int) l) (minD (fun r => gr (imbs l r)) (fun _ => true) (2 ^ p)) := by
  have hpw := pow_bd hp
  unfold impl_System_discrepancy.f
  simp only [if_pos (show 0 ≤ (p : Int) by omega), shl_one p hp]
  rw [show (2 : Int) ^ p = ((2 ^ p : Nat) : Int) by simp]
  have gen := ev_count (2 ^ p) (fun m (s : Int × Int) k => impl_System_discrepancy.l0 k s.2 s.1 ((2 ^ p : Nat) : Int) (m : Int) (p : Int) l) (minD (fun r => gr (imbs l r)) (fun _ => true) (2 ^ p)) (fun m s => s = minD (fun r => gr (imbs l r)) (fun _ => true) m) ?_ ?_ 0 (-1, 0) (by omega) rfl
  · exact gen
  · rintro s rfl
    refine Ev.step (fun k => by rw [impl_System_discrepancy.l0]) ?_
    simp only [if_neg (show ¬ ((2 ^ p : Nat) : Int) < ((2 ^ p : Nat) : Int) by omega)]
    exact Ev.now _
  · rintro m s hm rfl
    refine ⟨_, rfl, fun ih => ?_⟩
    refine Ev.step (fun k => by rw [impl_System_discrepancy.l0]) ?_
    simp only [if_pos (show (m : Int) < ((2 ^ p : Nat) : Int) by omega), w_succ (m := m) (by omega)]
    rw [minD_succ] at ih
    simp only [if_true, stepD] at ih
    refine Ev.bind (implImbs_ev hl hs _ m (by omega)) (Ev.bind (greatest_ev _ (by simp [imbs]; omega) (fun y hy => by
      obtain ⟨x, _, rfl⟩ := List.mem_map.1 hy
      have := imb_bd x.toNat m
      omega)) ?_)
    generalize minD (fun r => gr (imbs l r)) (fun _ => true) m = s at ih ⊢
    by_cases c1 : s.1 < 0
    · simp only [if_pos c1] at ih ⊢
      exact ih
    · simp only [if_neg c1] at ih ⊢
      by_cases c2 : gr (imbs l m) < s.1
      · simp only [if_pos c2] at ih ⊢
        exact ih
      · simp only [if_neg c2] at ih ⊢
        exact ih
end
theorem mask_full {p x : Nat} (h : x < 2 ^ p) : x &&& (2 ^ p - 1) = x := by
  rw [Nat.and_two_pow_sub_one_eq_mod, Nat.mod_eq_of_lt h]
theorem all_tells (p : Nat) (l : List Int) (h : p ≤ 12) : spec_l10All.f (p : Int) l = some ((2 ^ p - 1 : Nat) : Int) := by
  unfold spec_l10All.f
  rw [uw (p : Int) (by omega), if_pos (by omega), show wrap64 (shl .i64 1 (p : Int) - 1) = full p from rfl, full_nat p h]
theorem disc_both (p : Int) (l : List Int) (hx : l.length ≤ 1048576) : ∃ r, Ev (fun k => spec_DiscrepancyOf.f k p l) r ∧ Ev (fun k => impl_DiscrepancyOf.f k p l) r := by
  unfold spec_DiscrepancyOf.f impl_DiscrepancyOf.f
  cases h : validSys p l with
  | false =>
    refine ⟨(0, 0, false), Ev.bind (specIs_ev p l hx) ?_, ev_bind' (implValidSys_tells p l) ?_⟩ <;>
    · simp only [h, Bool.false_eq_true, if_false]
      exact Ev.now _
  | true =>
    obtain ⟨⟨q, rfl, hq⟩, hl, hs⟩ := validSys_of h
    have hpw := pow_bd hq
    have hs' : ∀ x ∈ l, 0 ≤ x ∧ x.toNat < 4096 := fun x hx => ⟨(hs x hx).1, (full_lt hq (hs x hx)).2⟩
    have e : minD (most l (2 ^ q - 1)) (fun r => decide (r &&& (2 ^ q - 1) = r)) (2 ^ q - 1 + 1) = minD (fun r => gr (imbs l r)) (fun _ => true) (2 ^ q) := by
      rw [show 2 ^ q - 1 + 1 = 2 ^ q by omega]
      refine minD_congr fun r hr => ⟨decide_eq_true (mask_full hr), ?_⟩
      unfold most imbs
      congr 1
      apply List.map_congr_left
      intro x hx
      rw [mask_full (full_lt hq (hs x hx)).1]
    refine ⟨((minD (fun r => gr (imbs l r)) (fun _ => true) (2 ^ q)).1, (minD (fun r => gr (imbs l r)) (fun _ => true) (2 ^ q)).2, true), Ev.bind (specIs_ev _ l hx) ?_, ev_bind' (implValidSys_tells _ l) ?_⟩
    · simp only [h, if_true, all_tells q l hq, Option.bind_some]
      refine Ev.bind (specDisc_ev hl hs' (2 ^ q - 1) (by omega)) ?_
      rw [e]
      exact Ev.now _
    · simp only [h, if_true]
      exact Ev.bind (implDisc_ev hl hs' q hq) (Ev.now _)
end Go.Proofs.Ytplgfchiaapmfaa.Com
