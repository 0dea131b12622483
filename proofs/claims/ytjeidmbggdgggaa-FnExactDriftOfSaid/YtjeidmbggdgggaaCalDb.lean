/- The days before a year, on both sides. -/
import Derived.Test.YtjeidmbggdgggaaFold
import Derived.Test.YtjeidmbggdgggaaQ20
import Derived.Test.YtjeidmbggdgggaaQ21
import Derived.Test.YtjeidmbggdgggaaQ22
import Derived.Test.YtjeidmbggdgggaaQ35
namespace Go.Proofs.Ytjeidmbggdgggaa.Com
set_option linter.unusedSimpArgs false
set_option linter.unusedVariables false
set_option linter.unusedSectionVars false
open Go.RowKit Go.Proofs.YtjeidmbggdgggaaW.PrintWords Go.Proofs.YtjeidmbggdgggaaW.PrintMore Go.Proofs.Ytjeidmbggdgggaa.Q

/-! ### Days -/
def cntLt (b : Int) : List Int → Int
  | [] => 0
  | x :: r => (if x < b then 1 else 0) + cntLt b r
theorem cntLt_bd (b : Int) (l : List Int) : 0 ≤ cntLt b l ∧ cntLt b l ≤ l.length := by
  induction l with
  | nil => simp [cntLt]
  | cons x r ih => unfold cntLt; rw [List.length_cons]; split <;> omega
theorem cntLt_mono {b b' : Int} (h : b ≤ b') (l : List Int) : cntLt b l ≤ cntLt b' l := by
  induction l with
  | nil => simp [cntLt]
  | cons x r ih => unfold cntLt; split <;> split <;> omega
def db (c cm : Int) (l : List Int) (y : Int) : Int := y * cm + y / c * (l.length : Int) + cntLt (y % c) l
section
variable {c cm : Int} {l : List Int} (hc : 1 ≤ c ∧ c ≤ 400) (hm : 1 ≤ cm ∧ cm ≤ 1000) (hx : l.length ≤ 1048576)
include hc hm hx
theorem db_parts (y : Int) (hy : 0 ≤ y ∧ y ≤ 100000) : 0 ≤ y * cm ∧ y * cm ≤ 100000000 ∧ 0 ≤ y / c ∧ y / c ≤ 100000 ∧ 0 ≤ y / c * (l.length : Int) ∧ y / c * (l.length : Int) ≤ 104857600000 ∧ 0 ≤ y % c ∧ y % c < c := by
  have a := mul_bd hy.1 hy.2 (show 0 ≤ cm by omega) hm.2
  have b1 : 0 ≤ y / c := Int.ediv_nonneg hy.1 (by omega)
  have b2 : y / c ≤ y := Int.ediv_le_self _ hy.1
  have b := mul_bd b1 (show y / c ≤ 100000 by omega) (show (0 : Int) ≤ (l.length : Int) by omega) (show (l.length : Int) ≤ 1048576 by omega)
  have d := Int.emod_nonneg y (show c ≠ 0 by omega)
  have e := Int.emod_lt_of_pos y (show 0 < c by omega)
  omega
theorem db_bd (y : Int) (hy : 0 ≤ y ∧ y ≤ 100000) : 0 ≤ db c cm l y ∧ db c cm l y ≤ 200000000000 := by
  have := db_parts hc hm hx y hy
  have := cntLt_bd (y % c) l
  unfold db
  omega
theorem l11Before_ev (y : Int) (hy : 0 ≤ y ∧ y ≤ 100000) : Ev (fun k => spec_l11Before.f k c cm l y) (db c cm l y) := by
  have p := db_parts hc hm hx y hy
  unfold spec_l11Before.f
  simp only [if_neg (show ¬ c = 0 by omega), tdiv_nn hy.1]
  rw [w64 (x := y / c) (by omega) (by omega), w64 (x := y / c * (l.length : Int)) (by omega) (by omega), w64 (x := y * cm) (by omega) (by omega), w64 (by omega) (by omega)]
  have gen := ev_fold l (fun m s k => spec_l11Before.l0 k y s (m : Int) c cm l) (fun r s => s + cntLt (y % c) r) (fun m s => 0 ≤ s ∧ s ≤ 200000000000 - (l.length - m)) ?_ ?_ 0 (y * cm + y / c * (l.length : Int)) (by omega) (by omega)
  · simpa [db] using gen
  · intro s hs
    refine Ev.step (fun k => by rw [spec_l11Before.l0]) ?_
    simp only [if_neg (show ¬ (l.length : Int) < (l.length : Int) by omega), cntLt, Int.add_zero]
    exact Ev.now _
  · intro m h s hs ih
    refine Ev.step (fun k => by rw [spec_l11Before.l0]) ?_
    simp only [if_pos (show (m : Int) < (l.length : Int) by omega), if_pos (show 0 ≤ (m : Int) by omega), rd_nat h, w_succ (m := m) (by omega), if_neg (show ¬ c = 0 by omega), tmod_nn hy.1]
    unfold cntLt
    by_cases q : l[m] < y % c
    · simp only [if_pos q]
      rw [w64 (by omega) (by omega)]
      have := ih (s + 1) (by omega)
      rwa [Int.add_assoc] at this
    · simp only [if_neg q, Int.zero_add]
      exact ih s (by omega)
theorem daysBefore_ev (y : Int) (hy : 0 ≤ y ∧ y ≤ 100000) : Ev (fun k => impl_Calendar_daysBefore.f k c cm l y) (db c cm l y) := by
  have p := db_parts hc hm hx y hy
  unfold impl_Calendar_daysBefore.f impl_size_int64.f
  simp only [if_neg (show ¬ c = 0 by omega), tdiv_nn hy.1, Option.bind_some]
  rw [w64 (x := y / c) (by omega) (by omega), w64 (x := y / c * (l.length : Int)) (by omega) (by omega)]
  have gen := ev_fold l (fun m s k => impl_Calendar_daysBefore.l0 k y s l (l.length : Int) (m : Int) c cm l) (fun r s => y * cm + (s + cntLt (y % c) r)) (fun m s => 0 ≤ s ∧ s ≤ 200000000000 - (l.length - m)) ?_ ?_ 0 (y / c * (l.length : Int)) (by omega) (by omega)
  · simpa [db, Int.add_assoc] using gen
  · intro s hs
    refine Ev.step (fun k => by rw [impl_Calendar_daysBefore.l0]) ?_
    simp only [if_neg (show ¬ (l.length : Int) < (l.length : Int) by omega), cntLt, Int.add_zero]
    rw [w64 (x := y * cm) (by omega) (by omega), w64 (by omega) (by omega)]
    exact Ev.now _
  · intro m h s hs ih
    refine Ev.step (fun k => by rw [impl_Calendar_daysBefore.l0]) ?_
    simp only [if_pos (show (m : Int) < (l.length : Int) by omega), if_pos (show 0 ≤ (m : Int) by omega), rd_nat h, w_succ (m := m) (by omega), if_neg (show ¬ c = 0 by omega), tmod_nn hy.1]
    unfold cntLt impl_bit.f
    by_cases q : l[m] < y % c
    · simp only [if_pos q, decide_eq_true q, if_true, Option.bind_some]
      rw [w64 (x := s + 1) (by omega) (by omega)]
      have := ih (s + 1) (by omega)
      rwa [Int.add_assoc] at this
    · simp only [if_neg q, decide_eq_false q, Bool.false_eq_true, if_false, Option.bind_some, Int.zero_add, Int.add_zero]
      rw [w64 (x := s) (by omega) (by omega)]
      exact ih s (by omega)
theorem db_step (y : Int) (hy : 0 ≤ y) : db c cm l y + cm ≤ db c cm l (y + 1) := by
  unfold db
  have e1 : (y + 1) * cm = y * cm + cm := by rw [Int.add_mul, Int.one_mul]
  have a := cntLt_bd (y % c) l
  have a' := cntLt_bd ((y + 1) % c) l
  have b1 := Int.emod_nonneg y (show c ≠ 0 by omega)
  have b2 := Int.emod_lt_of_pos y (show 0 < c by omega)
  have b3 := Int.emod_add_mul_ediv y c
  by_cases h : y % c = c - 1
  · have q : (y + 1) / c = y / c + 1 := by
      have : y + 1 = c * (y / c + 1) := by rw [Int.mul_add, Int.mul_one]; omega
      rw [this, Int.mul_ediv_cancel_left _ (show c ≠ 0 by omega)]
    rw [q, e1, Int.add_mul, Int.one_mul]
    omega
  · have q : (y + 1) % c = y % c + 1 := by
      have : y + 1 = (y % c + 1) + c * (y / c) := by omega
      rw [this, Int.add_mul_emod_self_left, Int.emod_eq_of_lt (by omega) (by omega)]
    have q2 : (y + 1) / c = y / c := by
      have : y + 1 = (y % c + 1) + c * (y / c) := by omega
      rw [this, Int.add_mul_ediv_left _ _ (show c ≠ 0 by omega), Int.ediv_eq_zero_of_lt (by omega) (by omega), Int.zero_add]
    have := cntLt_mono (show y % c ≤ (y + 1) % c by omega) l
    rw [q2, e1]
    omega
theorem db_mono (d : Nat) : ∀ (y : Int), 0 ≤ y → db c cm l y + (d : Int) ≤ db c cm l (y + d) := by
  induction d with
  | zero => intro y hy; simp
  | succ d ih =>
    intro y hy
    have h1 := ih y hy
    have h2 := db_step hc hm hx (y + d) (by omega)
    rw [show y + ((d + 1 : Nat) : Int) = y + (d : Int) + 1 by omega]
    omega
theorem db_lt {y z : Int} (hy : 0 ≤ y) (h : y < z) : db c cm l y < db c cm l z := by
  have := db_mono hc hm hx (z - y).toNat y hy
  rw [show y + (((z - y).toNat : Nat) : Int) = z by omega] at this
  omega
end
end Go.Proofs.Ytjeidmbggdgggaa.Com
