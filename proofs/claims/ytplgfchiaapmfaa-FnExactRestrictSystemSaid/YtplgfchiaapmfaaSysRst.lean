/- Restrictions of systems, on both sides. -/
import Derived.Test.YtplgfchiaapmfaaSysValid
import Derived.Test.YtplgfchiaapmfaaPop
import Derived.Test.YtplgfchiaapmfaaSysImb
import Derived.Test.YtplgfchiaapmfaaQ48
import Derived.Test.YtplgfchiaapmfaaQ50
import Derived.Test.YtplgfchiaapmfaaQ52
namespace Go.Proofs.Ytplgfchiaapmfaa.Com
set_option linter.unusedSimpArgs false
set_option linter.unusedVariables false
set_option linter.unusedSectionVars false
open Go.RowKit Go.Proofs.YtplgfchiaapmfaaW.PrintWords Go.Proofs.YtplgfchiaapmfaaW.PrintMore Go.Proofs.Ytplgfchiaapmfaa.Q

def rst (pts s : Nat) : Nat → Int × Nat
  | 0 => (0, 0)
  | i + 1 => if bitAt pts i = 0 then rst pts s i else (Go.bits .or .i64 (rst pts s i).1 (shl .i64 ((bitAt s i : Nat) : Int) (((rst pts s i).2 : Nat) : Int)), (rst pts s i).2 + 1)
theorem rst_le (pts s i : Nat) : (rst pts s i).2 ≤ i := by
  induction i with
  | zero => exact Nat.le_refl _
  | succ i ih =>
    unfold rst
    split
    · omega
    · show (rst pts s i).2 + 1 ≤ i + 1
      omega
def rsts (l : List Int) (pts p : Nat) : List Int := l.map fun x => (rst pts x.toNat p).1
section
variable {l : List Int} (hl : l.length ≤ 12) (hs : ∀ x ∈ l, 0 ≤ x ∧ x.toNat < 4096) {pts p : Nat} (hp : p ≤ 12) (hpts : pts < 4096)
include hl hs hp hpts
theorem specRst_ev (q : Int) : Ev (fun k => spec_RestrictSystem.l0 k (pts : Int) 0 (p : Int) l q []) (q, rsts l pts p, true) := by
  have gen := ev_fold l (fun m s k => spec_RestrictSystem.l0 k (pts : Int) (m : Int) (p : Int) l q s) (fun d s => (q, s ++ rsts d pts p, true)) (fun m s => s.length = m) ?_ ?_ 0 [] (by omega) rfl
  · exact gen
  · intro s hm
    refine Ev.step (fun k => by rw [spec_RestrictSystem.l0]) ?_
    simp only [if_neg (show ¬ (l.length : Int) < (l.length : Int) by omega), rsts, List.map_nil, List.append_nil]
    exact Ev.now _
  · intro m hm s hlen ih
    obtain ⟨x0, x1⟩ := hs l[m] (List.getElem_mem hm)
    refine Ev.step (fun k => by rw [spec_RestrictSystem.l0]) ?_
    simp only [if_pos (show (m : Int) < (l.length : Int) by omega)]
    obtain ⟨n, hn⟩ : ∃ n : Nat, l[m] = (n : Int) := ⟨l[m].toNat, by omega⟩
    have hn' : n < 4096 := by rw [hn, Int.toNat_natCast] at x1; exact x1
    have gen := ev_count p (fun i (st : Int × Nat) k => spec_RestrictSystem.l1 k (pts : Int) (m : Int) st.1 (st.2 : Int) (i : Int) (p : Int) l q s) (q, s ++ rsts ((n : Int) :: l.drop (m + 1)) pts p, true) (fun i st => st = rst pts n i) ?_ ?_ 0 (0, 0) (by omega) rfl
    · rw [hn]; exact gen
    · rintro st rfl
      refine Ev.step (fun k => by rw [spec_RestrictSystem.l1]) ?_
      simp only [if_neg (show ¬ (p : Int) < (p : Int) by omega), if_pos (show s.length < 17592186044416 by omega), w_succ (m := m) (by omega)]
      have e : s ++ rsts ((n : Int) :: l.drop (m + 1)) pts p = (s ++ [(rst pts n p).1]) ++ rsts (l.drop (m + 1)) pts p := by
        simp [rsts]
      rw [e]
      exact ih _ (by simp [hlen])
    · rintro i st hi rfl
      refine ⟨_, rfl, fun ih => ?_⟩
      have hle := rst_le pts n i
      refine Ev.step (fun k => by rw [spec_RestrictSystem.l1]) ?_
      simp only [if_pos (show (i : Int) < (p : Int) by omega), uw (i : Int) (by omega), if_pos (show 0 ≤ (i : Int) by omega), bit_tells pts i hpts (by omega), if_pos (show 0 ≤ (m : Int) by omega), if_pos (show (m : Int) < (l.length : Int) by omega), rd_nat hm, hn, bit_tells n i hn' (by omega), w_succ (m := i) (by omega), if_pos (show 0 ≤ (((rst pts n i).2 : Nat) : Int) by omega), uw (((rst pts n i).2 : Nat) + 1 : Int) (by omega)]
      rw [rst] at ih
      by_cases c : bitAt pts i = 0
      · simp only [if_pos c] at ih
        simp only [if_pos (show ((bitAt pts i : Nat) : Int) = 0 by omega)]
        exact ih
      · simp only [if_neg c] at ih
        simp only [if_neg (show ¬ ((bitAt pts i : Nat) : Int) = 0 by omega)]
        exact ih
theorem implRst_ev : Ev (fun k => impl_System_restricted.f k (p : Int) l (pts : Int)) (((pop pts : Nat) : Int), rsts l pts p) := by
  unfold impl_System_restricted.f
  refine ev_bind' (many_tells pts hpts) ?_
  generalize ((pop pts : Nat) : Int) = q
  have gen := ev_fold l (fun m s k => impl_System_restricted.l0 k (pts : Int) l (l.length : Int) (m : Int) (p : Int) l q s) (fun d s => (q, s ++ rsts d pts p)) (fun m s => s.length = m) ?_ ?_ 0 [] (by omega) rfl
  · exact gen
  · intro s hm
    refine Ev.step (fun k => by rw [impl_System_restricted.l0]) ?_
    simp only [if_neg (show ¬ (l.length : Int) < (l.length : Int) by omega), rsts, List.map_nil, List.append_nil]
    exact Ev.now _
  · intro m hm s hlen ih
    obtain ⟨x0, x1⟩ := hs l[m] (List.getElem_mem hm)
    refine Ev.step (fun k => by rw [impl_System_restricted.l0]) ?_
    simp only [if_pos (show (m : Int) < (l.length : Int) by omega), if_pos (show 0 ≤ (m : Int) by omega), rd_nat hm]
    obtain ⟨n, hn⟩ : ∃ n : Nat, l[m] = (n : Int) := ⟨l[m].toNat, by omega⟩
    have hn' : n < 4096 := by rw [hn, Int.toNat_natCast] at x1; exact x1
    rw [hn]
    have gen := ev_count p (fun i (st : Int × Nat) k => impl_System_restricted.l1 k (pts : Int) (n : Int) st.1 (st.2 : Int) l (l.length : Int) (m : Int) (p : Int) (i : Int) (p : Int) l q s) (q, s ++ rsts ((n : Int) :: l.drop (m + 1)) pts p) (fun i st => st = rst pts n i) ?_ ?_ 0 (0, 0) (by omega) rfl
    · exact gen
    · rintro st rfl
      refine Ev.step (fun k => by rw [impl_System_restricted.l1]) ?_
      simp only [if_neg (show ¬ (p : Int) < (p : Int) by omega), if_pos (show s.length < 17592186044416 by omega), w_succ (m := m) (by omega)]
      have e : s ++ rsts ((n : Int) :: l.drop (m + 1)) pts p = (s ++ [(rst pts n p).1]) ++ rsts (l.drop (m + 1)) pts p := by
        simp [rsts]
      rw [e]
      exact ih _ (by simp [hlen])
    · rintro i st hi rfl
      refine ⟨_, rfl, fun ih => ?_⟩
      have hle := rst_le pts n i
      refine Ev.step (fun k => by rw [impl_System_restricted.l1]) ?_
      simp only [if_pos (show (i : Int) < (p : Int) by omega), if_pos (show 0 ≤ (i : Int) by omega), bit_tells pts i hpts (by omega), bit_tells n i hn' (by omega), w_succ (m := i) (by omega), if_pos (show 0 ≤ (((rst pts n i).2 : Nat) : Int) by omega), w_succ (m := (rst pts n i).2) (by omega)]
      have hb := bitAt_le pts i
      rw [rst] at ih
      by_cases c : bitAt pts i = 0
      · simp only [if_pos c] at ih
        simp only [if_neg (show ¬ ((bitAt pts i : Nat) : Int) = 1 by omega)]
        exact ih
      · simp only [if_neg c] at ih
        simp only [if_pos (show ((bitAt pts i : Nat) : Int) = 1 by omega)]
        exact ih
end
def rstOf (p : Int) (l : List Int) (pts : Int) : Int × List Int × Bool := if validSys p l = true ∧ 0 ≤ pts ∧ pts ≤ full p then (((pop pts.toNat : Nat) : Int), rsts l pts.toNat p.toNat, true) else (0, [], false)
theorem restrict_both (p : Int) (l : List Int) (pts : Int) (hx : l.length ≤ 1048576) : ∃ r, Ev (fun k => spec_RestrictSystem.f k p l pts) r ∧ Ev (fun k => impl_RestrictSystem.f k p l pts) r ∧ r.2.1.length ≤ 12 := by
  have jf : Ev (fun k => spec_RestrictSystem.j0 k pts true p l) (0, [], false) := Ev.step (fun k => by rw [spec_RestrictSystem.j0]) (by simp only [if_true]; exact Ev.now _)
  unfold spec_RestrictSystem.f impl_RestrictSystem.f
  cases h : validSys p l with
  | false =>
    refine ⟨(0, [], false), Ev.bind (specIs_ev p l hx) ?_, ev_bind' (implValidSys_tells p l) ?_, by simp⟩
    · simp only [h, Bool.false_eq_true, if_false]
      exact jf
    · simp only [h, Bool.false_eq_true, if_false]
      exact Ev.now _
  | true =>
    obtain ⟨⟨q, rfl, hq⟩, hl, hs⟩ := validSys_of h
    by_cases hr : 0 ≤ pts ∧ pts ≤ full q
    · obtain ⟨r, rfl⟩ : ∃ r : Nat, pts = (r : Int) := ⟨pts.toNat, by omega⟩
      have hr' := (full_lt hq hr).2
      rw [Int.toNat_natCast] at hr'
      refine ⟨(((pop r : Nat) : Int), rsts l r q, true), Ev.bind (specIs_ev _ l hx) ?_, ev_bind' (implValidSys_tells _ l) ?_, by simp [rsts]; omega⟩
      · simp only [h, if_true, set_tells (q : Int) _ (by omega), Option.bind_some, decide_eq_true hr, Bool.not_true]
        refine Ev.step (fun k => by rw [spec_RestrictSystem.j0]) ?_
        simp only [Bool.false_eq_true, if_false]
        exact Ev.bind (count_ev r hr') (specRst_ev hl (fun x hx => ⟨(hs x hx).1, (full_lt hq (hs x hx)).2⟩) hq hr' _)
      · simp only [h, if_true, if_pos (show 0 ≤ (q : Int) by omega)]
        rw [show wrap64 (shl .i64 1 (q : Int) - 1) = full q from rfl]
        simp only [within_tells, Option.bind_some, decide_eq_true hr, if_true]
        exact Ev.bind (implRst_ev hl (fun x hx => ⟨(hs x hx).1, (full_lt hq (hs x hx)).2⟩) hq hr') (Ev.now _)
    · refine ⟨(0, [], false), Ev.bind (specIs_ev _ l hx) ?_, ev_bind' (implValidSys_tells _ l) ?_, by simp⟩
      · simp only [h, if_true, set_tells (q : Int) _ (by omega), Option.bind_some, decide_eq_false hr, Bool.not_false]
        exact jf
      · simp only [h, if_true, if_pos (show 0 ≤ (q : Int) by omega)]
        rw [show wrap64 (shl .i64 1 (q : Int) - 1) = full q from rfl]
        simp only [within_tells, Option.bind_some, decide_eq_false hr, Bool.false_eq_true, if_false]
        exact Ev.now _
end Go.Proofs.Ytplgfchiaapmfaa.Com
