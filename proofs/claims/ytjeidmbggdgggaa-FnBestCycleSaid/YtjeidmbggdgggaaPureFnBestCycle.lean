/- The pure statement of FnBestCycle: no cycle of at most so many years is nearer than the one that BestCycle returns, or as near with fewer years. -/
import Derived.Test.YtjeidmbggdgggaaBestCycle
import Derived.Test.YtjeidmbggdgggaaQ1
import Derived.Test.YtjeidmbggdgggaaQ2
import Derived.Test.YtjeidmbggdgggaaQ3
namespace Go.Proofs.Ytjeidmbggdgggaa.Pure
set_option linter.unusedSimpArgs false
set_option linter.unusedVariables false
open Go.RowKit Go.Proofs.Ytjeidmbggdgggaa.Q Go.Proofs.YtjeidmbggdgggaaW.PrintWords Go.Proofs.YtjeidmbggdgggaaW.PrintLast Go.Proofs.YtjeidmbggdgggaaW.PrintMore Go.Proofs.Ytjeidmbggdgggaa.Com

/-- A number that is drawn lies from 0 to n - 1. -/
theorem b10At_tells (l : List Int) (i n : Int) (hl : ∀ x ∈ l, (Lit.int .u8 x).wf = true) (hi : 0 ≤ i ∧ i ≤ 10) (hn : 1 ≤ n) : ∃ r, laws_b10At.f l i n = some r ∧ 0 ≤ r ∧ r < n := by
  unfold laws_b10At.f
  by_cases h1 : n ≤ 1
  · exact ⟨0, by rw [if_pos h1], by omega, by omega⟩
  · rw [if_neg h1]
    by_cases h2 : i < (l.length : Int)
    · rw [if_pos h2, if_pos hi.1, if_neg (show ¬ n = 0 by omega)]
      have hx : 0 ≤ rd l i ∧ rd l i ≤ 255 := by
        have hlt : i.toNat < l.length := by omega
        have : rd l i ∈ l := by
          unfold rd
          rw [List.getD_eq_getElem?_getD, List.getElem?_eq_getElem hlt]
          exact List.getElem_mem hlt
        have := hl _ this
        simp [Lit.wf, IntKind.min, IntKind.max, IntKind.signed, IntKind.bits] at this
        omega
      rw [w64 (by omega) (by omega), tmod_nn hx.1]
      exact ⟨_, rfl, Int.emod_nonneg _ (by omega), Int.emod_lt_of_pos _ (by omega)⟩
    · rw [if_neg h2, if_neg (show ¬ n = 0 by omega), w64 (x := i * 37) (by omega) (by omega), w64 (by omega) (by omega), tmod_nn (by omega)]
      exact ⟨_, rfl, Int.emod_nonneg _ (by omega), Int.emod_lt_of_pos _ (by omega)⟩
theorem b10Abs_tells (den num k n : Int) (b : -9223372036854775807 ≤ k * den - num * n ∧ k * den - num * n ≤ 9223372036854775807) (b1 : -9223372036854775808 ≤ k * den ∧ k * den ≤ 9223372036854775807) (b2 : -9223372036854775808 ≤ num * n ∧ num * n ≤ 9223372036854775807) :
    laws_b10Abs.f (wrap64 ((wrap64 (k * den)) - (wrap64 (num * n)))) = some (Best.ds den num k n) := by
  rw [w64 (x := k * den) (by omega) (by omega), w64 (x := num * n) (by omega) (by omega), w64 (by omega) (by omega)]
  unfold laws_b10Abs.f Best.ds mx
  split
  · rw [w64 (by omega) (by omega)]
    split <;> first | (congr 1; omega) | (congr 1 <;> omega) | rfl
  · split <;> first | (congr 1; omega) | (congr 1 <;> omega) | rfl
theorem FnBestCycle : laws_FnBestCycle.Pure := by
  intro code more _ _ hc _ _ hm
  apply ev_of
  unfold laws_FnBestCycle.f
  by_cases hlong : (code.length : Int) > 1048576 ∨ (more.length : Int) > 1048576
  · have e : laws_b10Long.f code more = some true := by
      unfold laws_b10Long.f
      by_cases h : (code.length : Int) > 1048576
      · rw [if_pos h]
      · rw [if_neg h, decide_eq_true (by omega)]
    rw [e]
    simp
    exact Ev.now _
  have e : laws_b10Long.f code more = some false := by
    unfold laws_b10Long.f
    rw [if_neg (by omega), decide_eq_false (by omega)]
  rw [e]
  obtain ⟨a, ha, a0, a1⟩ := b10At_tells code 0 250 hc (by omega) (by omega)
  simp only [Option.bind_some, Bool.false_eq_true, if_false, ha]
  rw [w64 (x := 1 + a) (by omega) (by omega), w64 (by omega) (by omega)]
  obtain ⟨b, hb, b0, b1⟩ := b10At_tells code 1 (1 + a + 1) hc (by omega) (by omega)
  obtain ⟨m, hm', m0, m1⟩ := b10At_tells more 0 60 hm (by omega) (by omega)
  simp only [Option.bind_some, hb, hm']
  rw [w64 (x := 1 + m) (by omega) (by omega)]
  obtain ⟨⟨K, N, t⟩, hi, _, hp⟩ := Best.both (den := 1 + a) (num := b) (most := 1 + m) (by omega) (by omega) (by omega)
  obtain ⟨p1, p2, p3, p4, p5, p6⟩ := hp
  simp only at p1 p2 p3 p4 p5 p6
  subst p1
  refine Ev.bind hi ?_
  simp only [if_true, if_neg (show ¬ N < 1 by omega), if_neg (show ¬ N > 1 + m by omega), if_neg (show ¬ K < 0 by omega)]
  rw [decide_eq_false (show ¬ K > N by omega)]
  obtain ⟨c, hcy, c0, c1⟩ := b10At_tells more 1 (1 + m) hm (by omega) (by omega)
  refine Ev.step (fun k => by rw [laws_FnBestCycle.j0]) ?_
  simp only [Bool.false_eq_true, if_false, hcy, Option.bind_some]
  rw [w64 (x := 1 + c) (by omega) (by omega), w64 (x := 1 + c + 1) (by omega) (by omega)]
  obtain ⟨l, hl, l0, l1⟩ := b10At_tells more 2 (1 + c + 1) hm (by omega) (by omega)
  have hd : 1 ≤ 1 + a ∧ 1 + a ≤ 1000 := by omega
  have hn : 0 ≤ b ∧ b ≤ 1 + a := by omega
  have x1 := Best.bd hd hn l (1 + c) (by omega) (by omega)
  have x2 := Best.bd hd hn K N (by omega) (by omega)
  have y1 := Best.ds_bd hd hn l (1 + c) (by omega) (by omega)
  have y2 := Best.ds_bd hd hn K N (by omega) (by omega)
  have z1 := mul_bd y1.1 y1.2 (show 0 ≤ N by omega) (show N ≤ 401 by omega)
  have z2 := mul_bd y2.1 y2.2 (show 0 ≤ 1 + c by omega) (show 1 + c ≤ 401 by omega)
  simp only [hl, Option.bind_some, b10Abs_tells (1 + a) b l (1 + c) (by omega) (by omega) (by omega), b10Abs_tells (1 + a) b K N (by omega) (by omega) (by omega)]
  rw [w64 (x := Best.ds (1 + a) b K N * (1 + c)) (by omega) (by omega), w64 (x := Best.ds (1 + a) b l (1 + c) * N) (by omega) (by omega)]
  obtain ⟨g0, g1, g2⟩ := p6 (1 + c) l ⟨by omega, by omega, l0, by omega⟩
  have key : (if Best.ds (1 + a) b K N * (1 + c) < Best.ds (1 + a) b l (1 + c) * N then some true else if Best.ds (1 + a) b K N * (1 + c) = Best.ds (1 + a) b l (1 + c) * N then (if N < 1 + c then some true else if N = 1 + c then some (decide (K ≤ l)) else some false) else some false) = some true := by
    split
    · rfl
    · rw [if_pos (by omega)]
      split
      · rfl
      · have : N = 1 + c := by
          rcases Com.lt_or_ge (1 + c) N with h | h
          · have := g2 (.inl h); omega
          · omega
        rw [if_pos this]
        congr 1
        apply decide_eq_true
        rcases Com.lt_or_ge l K with h | h
        · have := g2 (.inr ⟨this.symm, h⟩); omega
        · exact h
  exact ev_const key
end Go.Proofs.Ytjeidmbggdgggaa.Pure
