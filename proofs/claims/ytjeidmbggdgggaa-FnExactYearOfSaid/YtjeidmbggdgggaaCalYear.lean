/- The year of a day, on both sides. -/
import Derived.Test.YtjeidmbggdgggaaCalValid
import Derived.Test.YtjeidmbggdgggaaCalDb
import Derived.Test.YtjeidmbggdgggaaQ48
import Derived.Test.YtjeidmbggdgggaaQ49
namespace Go.Proofs.Ytjeidmbggdgggaa.Com
set_option linter.unusedSimpArgs false
set_option linter.unusedVariables false
set_option linter.unusedSectionVars false
open Go.RowKit Go.Proofs.YtjeidmbggdgggaaW.PrintWords Go.Proofs.YtjeidmbggdgggaaW.PrintMore Go.Proofs.Ytjeidmbggdgggaa.Q

/-! ### The year of a day -/
section
variable {c cm : Int} {l : List Int} (hc : 1 ≤ c ∧ c ≤ 400) (hm : 1 ≤ cm ∧ cm ≤ 1000) (hx : l.length ≤ 1048576) (day : Int)
include hc hm hx
def IsYear (c cm : Int) (l : List Int) (day y : Int) : Prop := 0 ≤ y ∧ y < 100000 ∧ db c cm l y ≤ day ∧ day < db c cm l (y + 1)
theorem IsYear.uniq {y z : Int} (h : IsYear c cm l day y) (g : IsYear c cm l day z) : y = z := by
  obtain ⟨h1, h2, h3, h4⟩ := h
  obtain ⟨g1, g2, g3, g4⟩ := g
  rcases Int.lt_trichotomy y z with q | q | q
  · by_cases e : y + 1 = z
    · subst e; omega
    · have := db_lt hc hm hx (y := y + 1) (z := z) (by omega) (by omega); omega
  · exact q
  · by_cases e : z + 1 = y
    · subst e; omega
    · have := db_lt hc hm hx (y := z + 1) (z := y) (by omega) (by omega); omega
theorem implYear_ev (d : Nat) : ∀ lo hi : Int, 0 ≤ lo → lo < hi → hi ≤ 100000 → hi - lo ≤ d → db c cm l lo ≤ day → day < db c cm l hi → ∃ y, IsYear c cm l day y ∧ Ev (fun k => impl_YearOf.l0 k day lo hi c cm l) (y, day - db c cm l y, true) := by
  induction d with
  | zero => intro lo hi h1 h2 h3 h4 h5 h6; omega
  | succ d ih =>
    intro lo hi h1 h2 h3 h4 h5 h6
    have b1 := db_bd hc hm hx lo (by omega)
    have b2 := db_bd hc hm hx hi (by omega)
    by_cases g : hi - lo > 1
    · have m1 : lo < (lo + hi) / 2 := by omega
      have m2 : (lo + hi) / 2 < hi := by omega
      by_cases t : db c cm l ((lo + hi) / 2) ≤ day
      · obtain ⟨y, hy, he⟩ := ih ((lo + hi) / 2) hi (by omega) m2 h3 (by omega) t h6
        refine ⟨y, hy, Ev.step (fun k => by rw [impl_YearOf.l0]) ?_⟩
        rw [w64 (x := hi - lo) (by omega) (by omega), w64 (x := lo + hi) (by omega) (by omega), tdiv_nn (show 0 ≤ lo + hi by omega), w64 (x := (lo + hi) / 2) (by omega) (by omega)]
        simp only [if_pos g]
        refine Ev.bind (daysBefore_ev hc hm hx ((lo + hi) / 2) (by omega)) ?_
        simp only [if_pos t]
        exact he
      · obtain ⟨y, hy, he⟩ := ih lo ((lo + hi) / 2) (by omega) m1 (by omega) (by omega) h5 (by omega)
        refine ⟨y, hy, Ev.step (fun k => by rw [impl_YearOf.l0]) ?_⟩
        rw [w64 (x := hi - lo) (by omega) (by omega), w64 (x := lo + hi) (by omega) (by omega), tdiv_nn (show 0 ≤ lo + hi by omega), w64 (x := (lo + hi) / 2) (by omega) (by omega)]
        simp only [if_pos g]
        refine Ev.bind (daysBefore_ev hc hm hx ((lo + hi) / 2) (by omega)) ?_
        simp only [if_neg t]
        exact he
    · obtain rfl : hi = lo + 1 := by omega
      refine ⟨lo, ⟨h1, by omega, h5, h6⟩, Ev.step (fun k => by rw [impl_YearOf.l0]) ?_⟩
      rw [w64 (x := lo + 1 - lo) (by omega) (by omega)]
      simp only [if_neg g]
      refine Ev.bind (daysBefore_ev hc hm hx lo (by omega)) ?_
      rw [w64 (by omega) (by omega)]
      exact Ev.now _
theorem specYear_ev (d : Nat) : ∀ lo hi : Int, 0 ≤ lo → lo ≤ hi → hi < 100000 → hi - lo ≤ d → db c cm l lo ≤ day → day < db c cm l (hi + 1) → ∃ y, IsYear c cm l day y ∧ Ev (fun k => spec_YearOf.l0 k day lo hi c cm l) (y, day - db c cm l y, true) := by
  induction d with
  | zero =>
    intro lo hi h1 h2 h3 h4 h5 h6
    obtain rfl : hi = lo := by omega
    have b1 := db_bd hc hm hx hi (by omega)
    have b2 := db_bd hc hm hx (hi + 1) (by omega)
    refine ⟨hi, ⟨h1, by omega, h5, h6⟩, Ev.step (fun k => by rw [spec_YearOf.l0]) ?_⟩
    simp only [if_neg (show ¬ hi < hi by omega)]
    refine Ev.bind (l11Before_ev hc hm hx hi (by omega)) ?_
    rw [w64 (by omega) (by omega)]
    exact Ev.now _
  | succ d ih =>
    intro lo hi h1 h2 h3 h4 h5 h6
    have b1 := db_bd hc hm hx lo (by omega)
    have b2 := db_bd hc hm hx (hi + 1) (by omega)
    by_cases g : lo < hi
    · have m1 : lo < (lo + hi + 1) / 2 := by omega
      have m2 : (lo + hi + 1) / 2 ≤ hi := by omega
      by_cases t : db c cm l ((lo + hi + 1) / 2) ≤ day
      · obtain ⟨y, hy, he⟩ := ih ((lo + hi + 1) / 2) hi (by omega) m2 h3 (by omega) t h6
        refine ⟨y, hy, Ev.step (fun k => by rw [spec_YearOf.l0]) ?_⟩
        rw [w64 (x := lo + hi) (by omega) (by omega), w64 (x := lo + hi + 1) (by omega) (by omega), tdiv_nn (show 0 ≤ lo + hi + 1 by omega), w64 (x := (lo + hi + 1) / 2) (by omega) (by omega)]
        simp only [if_pos g]
        refine Ev.bind (l11Before_ev hc hm hx ((lo + hi + 1) / 2) (by omega)) ?_
        simp only [if_pos t]
        exact he
      · obtain ⟨y, hy, he⟩ := ih lo ((lo + hi + 1) / 2 - 1) (by omega) (by omega) (by omega) (by omega) h5 (by rw [Int.sub_add_cancel]; omega)
        refine ⟨y, hy, Ev.step (fun k => by rw [spec_YearOf.l0]) ?_⟩
        rw [w64 (x := lo + hi) (by omega) (by omega), w64 (x := lo + hi + 1) (by omega) (by omega), tdiv_nn (show 0 ≤ lo + hi + 1 by omega), w64 (x := (lo + hi + 1) / 2) (by omega) (by omega), w64 (x := (lo + hi + 1) / 2 - 1) (by omega) (by omega)]
        simp only [if_pos g]
        refine Ev.bind (l11Before_ev hc hm hx ((lo + hi + 1) / 2) (by omega)) ?_
        simp only [if_neg t]
        exact he
    · exact ih lo hi h1 h2 h3 (by omega) h5 h6
end
theorem year_both (c cm : Int) (l : List Int) (day : Int) (hx : l.length ≤ 1048576) (hw : -9223372036854775808 ≤ day ∧ day ≤ 9223372036854775807) :
    ∃ r, Ev (fun k => spec_YearOf.f k c cm l day) r ∧ Ev (fun k => impl_YearOf.f k c cm l day) r ∧
      (validCal c cm l = true → 0 ≤ day → day < db c cm l 100000 → ∃ y, IsYear c cm l day y ∧ r = (y, day - db c cm l y, true)) := by
  have j1 : Ev (fun k => spec_YearOf.j0 k day true c cm l) (0, 0, false) := Ev.step (fun k => by rw [spec_YearOf.j0]) (by simp only [if_true]; exact Ev.now _)
  have j2 : Ev (fun k => impl_YearOf.j0 k day true c cm l) (0, 0, false) := Ev.step (fun k => by rw [impl_YearOf.j0]) (by simp only [if_true]; exact Ev.now _)
  unfold spec_YearOf.f impl_YearOf.f
  by_cases h : validCal c cm l = true
  · have b := valid_bd h
    have bm := db_bd (c := c) (cm := cm) (l := l) (by omega) (by omega) hx 100000 (by omega)
    have b0 := db_bd (c := c) (cm := cm) (l := l) (by omega) (by omega) hx 0 (by omega)
    have z : db c cm l 0 = cntLt 0 l := by unfold db; rw [Int.zero_mul, Int.zero_ediv, Int.zero_mul, Int.zero_emod]; omega
    by_cases hd : 0 ≤ day ∧ day < db c cm l 100000
    · have hz : db c cm l 0 ≤ day := by
        rw [z]
        have : cntLt 0 l = 0 := by
          unfold validCal rises at h
          simp only [Bool.and_eq_true] at h
          have key : ∀ (r : List Int) (p : Option Int), risesFrom 0 (c - 1) p r = true → cntLt 0 r = 0 := by
            intro r
            induction r with
            | nil => intro p _; rfl
            | cons x r ih =>
              intro p hp
              unfold risesFrom at hp
              simp only [Bool.and_eq_true, decide_eq_true_eq] at hp
              unfold cntLt
              rw [if_neg (by omega), ih _ hp.2]
              rfl
          exact key l none h.2
        omega
      obtain ⟨y, hy, he⟩ := implYear_ev (c := c) (cm := cm) (l := l) (by omega) (by omega) hx day 100000 0 100000 (by omega) (by omega) (by omega) (by omega) hz hd.2
      obtain ⟨y', hy', he'⟩ := specYear_ev (c := c) (cm := cm) (l := l) (by omega) (by omega) hx day 100000 0 99999 (by omega) (by omega) (by omega) (by omega) hz hd.2
      obtain rfl := IsYear.uniq (c := c) (cm := cm) (l := l) (by omega) (by omega) hx day hy hy'
      refine ⟨(y, day - db c cm l y, true), Ev.bind (l11Calendar_ev c cm l hx) ?_, Ev.bind (implValid_ev c cm l hx) ?_, fun _ _ _ => ⟨y, hy, rfl⟩⟩
      · simp only [h, if_true, if_neg (show ¬ day < 0 by omega)]
        refine Ev.bind (l11Before_ev (by omega) (by omega) hx 100000 (by omega)) ?_
        rw [decide_eq_false (by omega)]
        refine Ev.step (fun k => by rw [spec_YearOf.j0]) ?_
        simp only [Bool.false_eq_true, if_false]
        exact he'
      · simp only [h, if_true]
        refine Ev.bind (daysBefore_ev (by omega) (by omega) hx 100000 (by omega)) ?_
        rw [w64 (x := db c cm l 100000 - 1) (by omega) (by omega)]
        simp only [within_tells, Option.bind_some, decide_eq_true (show 0 ≤ day ∧ day ≤ db c cm l 100000 - 1 by omega), Bool.not_true]
        refine Ev.step (fun k => by rw [impl_YearOf.j0]) ?_
        simp only [Bool.false_eq_true, if_false]
        exact he
    · refine ⟨(0, 0, false), Ev.bind (l11Calendar_ev c cm l hx) ?_, Ev.bind (implValid_ev c cm l hx) ?_, fun _ q1 q2 => absurd ⟨q1, q2⟩ hd⟩
      · simp only [h, if_true]
        by_cases hn : day < 0
        · simp only [if_pos hn]
          exact j1
        · simp only [if_neg hn]
          refine Ev.bind (l11Before_ev (by omega) (by omega) hx 100000 (by omega)) ?_
          rw [decide_eq_true (by omega)]
          exact j1
      · simp only [h, if_true]
        refine Ev.bind (daysBefore_ev (by omega) (by omega) hx 100000 (by omega)) ?_
        rw [w64 (x := db c cm l 100000 - 1) (by omega) (by omega)]
        simp only [within_tells, Option.bind_some, decide_eq_false (show ¬ (0 ≤ day ∧ day ≤ db c cm l 100000 - 1) by omega), Bool.not_false]
        exact j2
  · have h' : validCal c cm l = false := by simpa using h
    refine ⟨(0, 0, false), Ev.bind (l11Calendar_ev c cm l hx) ?_, Ev.bind (implValid_ev c cm l hx) ?_, fun q => absurd q h⟩
    · simp only [h', Bool.false_eq_true, if_false]
      exact j1
    · simp only [h', Bool.false_eq_true, if_false]
      exact j2
end Go.Proofs.Ytjeidmbggdgggaa.Com
