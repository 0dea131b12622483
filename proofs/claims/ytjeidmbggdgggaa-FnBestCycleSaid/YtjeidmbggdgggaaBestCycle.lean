/- BestCycle: what the program's and the reference's functions come to is the first of the nearest cycles; from this both are equal. -/
import Derived.Test.YtjeidmbggdgggaaCom
import Derived.Test.YtjeidmbggdgggaaQ1
import Derived.Test.YtjeidmbggdgggaaQ2
import Derived.Test.YtjeidmbggdgggaaQ3
namespace Go.Proofs.Ytjeidmbggdgggaa.Best
set_option linter.unusedSimpArgs false
set_option linter.unusedVariables false
set_option linter.unusedSectionVars false
open Go.RowKit Go.Proofs.YtjeidmbggdgggaaW.PrintWords Go.Proofs.YtjeidmbggdgggaaW.PrintMore Go.Proofs.Ytjeidmbggdgggaa.Q Go.Proofs.Ytjeidmbggdgggaa.Com

def ds (den num k n : Int) : Int := mx (k * den - num * n) (num * n - k * den)
theorem ds_max (den num k n : Int) : ds den num k n ≥ k * den - num * n ∧ ds den num k n ≥ num * n - k * den ∧ (ds den num k n = k * den - num * n ∨ ds den num k n = num * n - k * den) := by
  unfold ds mx
  split <;> omega

theorem cmp_trans {a b c C n n' : Int} (hC : 0 < C) (hn' : 0 < n') (hn : 0 < n) (h1 : a * C < b * n) (h2 : b * n' ≤ c * C) : a * n' < c * n := by
  have e1 : (a * C) * n' < (b * n) * n' := Int.mul_lt_mul_of_pos_right h1 hn'
  have e2 : (b * n') * n ≤ (c * C) * n := Int.mul_le_mul_of_nonneg_right h2 (Int.le_of_lt hn)
  have e3 : (a * n') * C < (c * n) * C := by
    have r1 : (a * n') * C = (a * C) * n' := by simp only [Int.mul_assoc, Int.mul_comm, Int.mul_left_comm]
    have r2 : (c * n) * C = (c * C) * n := by simp only [Int.mul_assoc, Int.mul_comm, Int.mul_left_comm]
    have r3 : (b * n) * n' = (b * n') * n := by simp only [Int.mul_assoc, Int.mul_comm, Int.mul_left_comm]
    omega
  exact Int.lt_of_mul_lt_mul_right e3 (Int.le_of_lt hC)

/-- (L, C) is the first of the nearest among the pairs (k, n) with P n k. -/
def Good (den num : Int) (P : Int → Int → Prop) (L C : Int) : Prop :=
  ∀ n k, P n k → 0 < n ∧ ds den num L C * n ≤ ds den num k n * C ∧ ((n < C ∨ (n = C ∧ k < L)) → ds den num L C * n < ds den num k n * C)

theorem Good.add_lt {den num : Int} {P : Int → Int → Prop} {L C k n : Int} (h : Good den num P L C) (hC : 0 < C) (hn : 0 < n) (hlt : ds den num k n * C < ds den num L C * n) :
    Good den num (fun n' k' => P n' k' ∨ (n' = n ∧ k' = k)) k n := by
  rintro n' k' (hp | ⟨rfl, rfl⟩)
  · obtain ⟨h0, h1, _⟩ := h n' k' hp
    have := cmp_trans hC h0 hn hlt h1
    exact ⟨h0, by omega, fun _ => this⟩
  · exact ⟨hn, Int.le_refl _, fun h => by omega⟩
theorem Good.add_ge {den num : Int} {P : Int → Int → Prop} {L C k n : Int} (h : Good den num P L C) (hn : 0 < n) (hge : ¬ ds den num k n * C < ds den num L C * n) (hb : C < n ∨ (C = n ∧ L ≤ k)) :
    Good den num (fun n' k' => P n' k' ∨ (n' = n ∧ k' = k)) L C := by
  rintro n' k' (hp | ⟨rfl, rfl⟩)
  · exact h n' k' hp
  · exact ⟨hn, by omega, fun h => by omega⟩
theorem Good.imp {den num : Int} {P P' : Int → Int → Prop} {L C : Int} (h : Good den num P L C) (hp : ∀ n k, P' n k → P n k) : Good den num P' L C := fun n k hk => h n k (hp n k hk)

def Bef (m n k : Int) : Prop := 1 ≤ n ∧ n < m ∧ 0 ≤ k ∧ k ≤ n
def Post (den num most : Int) (r : Int × Int × Bool) : Prop :=
  r.2.2 = true ∧ 1 ≤ r.2.1 ∧ r.2.1 ≤ most ∧ 0 ≤ r.1 ∧ r.1 ≤ r.2.1 ∧ Good den num (Bef (most + 1)) r.1 r.2.1
theorem Post.uniq {den num most : Int} {r q : Int × Int × Bool} (h : Post den num most r) (g : Post den num most q) : r = q := by
  obtain ⟨L, C, b⟩ := r
  obtain ⟨L', C', b'⟩ := q
  obtain ⟨h1, h2, h3, h4, h5, h6⟩ := h
  obtain ⟨g1, g2, g3, g4, g5, g6⟩ := g
  simp only at *
  have a := h6 C' L' ⟨by omega, by omega, by omega, by omega⟩
  have c := g6 C L ⟨by omega, by omega, by omega, by omega⟩
  have e : C = C' := by
    rcases Int.lt_trichotomy C C' with x | x | x
    · have := c.2.2 (.inl x); omega
    · exact x
    · have := a.2.2 (.inl x); omega
  subst e
  have e : L = L' := by
    rcases Int.lt_trichotomy L L' with x | x | x
    · have := c.2.2 (.inr ⟨rfl, x⟩); omega
    · exact x
    · have := a.2.2 (.inr ⟨rfl, x⟩); omega
  subst e
  rw [h1, g1]

section
variable {den num most : Int} (hd : 1 ≤ den ∧ den ≤ 1000) (hm : 0 ≤ num ∧ num ≤ den) (hs : 1 ≤ most ∧ most ≤ 400)
include hd hm

theorem bd (k n : Int) (hk : 0 ≤ k ∧ k ≤ 401) (hn : 0 ≤ n ∧ n ≤ 401) : 0 ≤ k * den ∧ k * den ≤ 401000 ∧ 0 ≤ num * n ∧ num * n ≤ 401000 := by
  have a := mul_bd hk.1 hk.2 (show 0 ≤ den by omega) hd.2
  have b := mul_bd hm.1 (show num ≤ 1000 by omega) hn.1 hn.2
  omega
theorem ds_bd (k n : Int) (hk : 0 ≤ k ∧ k ≤ 401) (hn : 0 ≤ n ∧ n ≤ 401) : 0 ≤ ds den num k n ∧ ds den num k n ≤ 401000 := by
  have := bd hd hm k n hk hn
  have := ds_max den num k n
  omega
theorem max_tells (k n : Int) (hk : 0 ≤ k ∧ k ≤ 401) (hn : 0 ≤ n ∧ n ≤ 401) :
    spec_l00Max.f (wrap64 ((wrap64 (k * den)) - (wrap64 (num * n)))) (wrap64 ((wrap64 (num * n)) - (wrap64 (k * den)))) = some (ds den num k n) := by
  have := bd hd hm k n hk hn
  rw [w64 (x := k * den) (by omega) (by omega), w64 (x := num * n) (by omega) (by omega), w64 (by omega) (by omega), w64 (by omega) (by omega)]
  unfold spec_l00Max.f ds mx
  split <;> split <;> first | rfl | (congr 1; omega)

include hs
/-- The reference's inner loop. -/
theorem spec_inner (n : Int) (hn : 1 ≤ n ∧ n ≤ most) (out : ∀ L C, Good den num (Bef (n + 1)) L C → 0 ≤ L → L ≤ C → 1 ≤ C → C ≤ n → ∃ r, Ev (fun k => spec_BestCycle.l0 k num den most L C (n + 1)) r ∧ Post den num most r) (d : Nat) :
    ∀ (kk L C : Int), n + 1 - kk = d → 0 ≤ kk → Good den num (fun n' k' => Bef n n' k' ∨ (n' = n ∧ 0 ≤ k' ∧ k' < kk)) L C → 0 ≤ L → L ≤ C → 1 ≤ C → (C < n ∨ (C = n ∧ L ≤ kk)) →
      ∃ r, Ev (fun k => spec_BestCycle.l1 k num den most L C n kk) r ∧ Post den num most r := by
  induction d with
  | zero =>
    intro kk L C e h0 hg hL hLC hC hb
    obtain ⟨r, hr, hp⟩ := out L C (hg.imp fun n' k' h => by
      unfold Bef at h ⊢
      rcases Com.lt_or_ge n' n with x | x
      · exact .inl (by omega)
      · exact .inr (by omega)) hL hLC hC (by omega)
    refine ⟨r, ?_, hp⟩
    refine Ev.step (fun k => by rw [spec_BestCycle.l1]) ?_
    simp only [if_neg (show ¬ kk ≤ n by omega)]
    rw [w64 (by omega) (by omega)]
    exact hr
  | succ d ih =>
    intro kk L C e h0 hg hL hLC hC hb
    have hk : kk ≤ n := by omega
    have b1 := ds_bd hd hm kk n (by omega) (by omega)
    have b2 := ds_bd hd hm L C (by omega) (by omega)
    have b3 := mul_bd b1.1 b1.2 (show 0 ≤ C by omega) (show C ≤ 401 by omega)
    have b4 := mul_bd b2.1 b2.2 (show 0 ≤ n by omega) (show n ≤ 401 by omega)
    by_cases hlt : ds den num kk n * C < ds den num L C * n
    · obtain ⟨r, hr, hp⟩ := ih (kk + 1) kk n (by omega) (by omega) ((hg.add_lt (by omega) (by omega) hlt).imp fun n' k' h => by
        rcases h with h | ⟨rfl, h⟩
        · exact .inl (.inl h)
        · rcases Com.lt_or_ge k' kk with x | x
          · exact .inl (.inr ⟨rfl, h.1, x⟩)
          · exact .inr ⟨rfl, by omega⟩) h0 hk (by omega) (.inr ⟨rfl, by omega⟩)
      refine ⟨r, ?_, hp⟩
      refine Ev.step (fun k => by rw [spec_BestCycle.l1]) ?_
      simp only [if_pos hk, max_tells hd hm kk n (by omega) (by omega), max_tells hd hm L C (by omega) (by omega), Option.bind_some]
      rw [w64 (x := ds den num kk n * C) (by omega) (by omega), w64 (x := ds den num L C * n) (by omega) (by omega)]
      simp only [if_pos hlt]
      rw [w64 (by omega) (by omega)]
      exact hr
    · obtain ⟨r, hr, hp⟩ := ih (kk + 1) L C (by omega) (by omega) ((hg.add_ge (by omega) hlt hb).imp fun n' k' h => by
        rcases h with h | ⟨rfl, h⟩
        · exact .inl (.inl h)
        · rcases Com.lt_or_ge k' kk with x | x
          · exact .inl (.inr ⟨rfl, h.1, x⟩)
          · exact .inr ⟨rfl, by omega⟩) hL hLC hC (by omega)
      refine ⟨r, ?_, hp⟩
      refine Ev.step (fun k => by rw [spec_BestCycle.l1]) ?_
      simp only [if_pos hk, max_tells hd hm kk n (by omega) (by omega), max_tells hd hm L C (by omega) (by omega), Option.bind_some]
      rw [w64 (x := ds den num kk n * C) (by omega) (by omega), w64 (x := ds den num L C * n) (by omega) (by omega)]
      simp only [if_neg hlt]
      rw [w64 (by omega) (by omega)]
      exact hr
theorem spec_outer (d : Nat) : ∀ (n L C : Int), most + 1 - n = d → 1 ≤ n → Good den num (Bef n) L C → 0 ≤ L → L ≤ C → 1 ≤ C → (C < n ∨ (n = 1 ∧ C = 1 ∧ L = 0)) →
    ∃ r, Ev (fun k => spec_BestCycle.l0 k num den most L C n) r ∧ Post den num most r := by
  induction d with
  | zero =>
    intro n L C e h1 hg hL hLC hC hb
    refine ⟨(L, C, true), ?_, rfl, hC, by simp only; omega, hL, hLC, ?_⟩
    · refine Ev.step (fun k => by rw [spec_BestCycle.l0]) ?_
      simp only [if_neg (show ¬ n ≤ most by omega)]
      exact Ev.now _
    · obtain rfl : n = most + 1 := by omega
      exact hg
  | succ d ih =>
    intro n L C e h1 hg hL hLC hC hb
    obtain ⟨r, hr, hp⟩ := spec_inner hd hm hs n (by omega) (fun L C hg hL hLC hC hb => ih (n + 1) L C (by omega) (by omega) hg hL hLC hC (.inl (by omega))) (n + 1).toNat 0 L C (by omega) (by omega)
      (hg.imp fun n' k' h => by
        rcases h with h | h
        · exact h
        · omega) hL hLC hC (by omega)
    refine ⟨r, ?_, hp⟩
    refine Ev.step (fun k => by rw [spec_BestCycle.l0]) ?_
    simp only [if_pos (show n ≤ most by omega)]
    exact hr
theorem spec_best : ∃ r, Ev (fun k => spec_BestCycle.f k num den most) r ∧ Post den num most r := by
  obtain ⟨r, hr, hp⟩ := spec_outer hd hm hs most.toNat 1 0 1 (by omega) (by omega) (fun n k h => by unfold Bef at h; omega) (by omega) (by omega) (by omega) (.inr ⟨rfl, rfl, rfl⟩)
  refine ⟨r, ?_, hp⟩
  unfold spec_BestCycle.f spec_l00In.f
  simp only [if_pos (show den ≥ 1 by omega), if_pos (show num ≥ 0 by omega), if_pos (show most ≥ 1 by omega), decide_eq_true (show den ≤ 1000 by omega), decide_eq_true (show num ≤ den by omega), decide_eq_true (show most ≤ 400 by omega), Option.bind_some, if_true]
  refine Ev.step (fun k => by rw [spec_BestCycle.j0]) ?_
  simpa using hr

end

section
variable {den num most : Int} (hd : 1 ≤ den ∧ den ≤ 1000) (hm : 0 ≤ num ∧ num ≤ den) (hs : 1 ≤ most ∧ most ≤ 400)
include hd hm
theorem far_tells (k n : Int) (hk : 0 ≤ k ∧ k ≤ 401) (hn : 0 ≤ n ∧ n ≤ 401) :
    mx (wrap64 ((wrap64 (k * den)) - (wrap64 (num * n)))) (wrap64 ((wrap64 (num * n)) - (wrap64 (k * den)))) = ds den num k n := by
  have := bd hd hm k n hk hn
  rw [w64 (x := k * den) (by omega) (by omega), w64 (x := num * n) (by omega) (by omega), w64 (by omega) (by omega), w64 (by omega) (by omega)]
  rfl
/-- The floor and the ceiling, and where they lie. -/
theorem floor_tells (n : Int) (hn : 1 ≤ n ∧ n ≤ 400) :
    ∃ f, impl_floor.f (wrap64 (num * n)) den = some f ∧ 0 ≤ f ∧ f ≤ n ∧ f * den ≤ num * n ∧ num * n < f * den + den := by
  have b := bd hd hm 0 n (by omega) (by omega)
  have h1 : num * n ≤ den * n := Int.mul_le_mul_of_nonneg_right hm.2 (by omega)
  refine ⟨num * n / den, ?_, Int.ediv_nonneg b.2.2.1 (by omega), ?_, ?_, ?_⟩
  · rw [w64 (by omega) (by omega)]
    unfold impl_floor.f
    have h2 : 0 ≤ num * n / den := Int.ediv_nonneg b.2.2.1 (by omega)
    have h3 : num * n / den ≤ num * n := Int.ediv_le_self _ b.2.2.1
    rw [if_neg (by omega), if_neg, tdiv_nn b.2.2.1, w64 (by omega) (by omega)]
    rw [tmod_nn b.2.2.1]
    have := Int.emod_nonneg (num * n) (show den ≠ 0 by omega)
    omega
  · refine Int.le_of_lt_add_one (Int.ediv_lt_of_lt_mul (by omega) ?_)
    have e : (n + 1) * den = den * n + den := by rw [Int.add_mul, Int.one_mul, Int.mul_comm]
    omega
  · exact Int.ediv_mul_le _ (by omega)
  · have := Int.lt_ediv_add_one_mul_self (num * n) (show 0 < den by omega)
    rw [Int.add_mul, Int.one_mul] at this
    exact this
theorem ceiling_tells (n : Int) (hn : 1 ≤ n ∧ n ≤ 400) (f : Int) (hf : 0 ≤ f ∧ f ≤ n ∧ f * den ≤ num * n ∧ num * n < f * den + den) :
    ∃ g, impl_ceiling.f (wrap64 (num * n)) den = some g ∧ g ≤ n ∧ ((g = f ∧ f * den = num * n) ∨ (g = f + 1 ∧ f * den < num * n)) := by
  have b := bd hd hm 0 n (by omega) (by omega)
  have h1 : num * n ≤ den * n := Int.mul_le_mul_of_nonneg_right hm.2 (by omega)
  have hfb := mul_bd hf.1 (show f ≤ 400 by omega) (show 0 ≤ den by omega) hd.2
  unfold impl_ceiling.f impl_floor.f
  rw [w64 (x := num * n) (by omega) (by omega), w64 (x := -(num * n)) (by omega) (by omega), if_neg (by omega)]
  have e1 : Int.tmod (-(num * n)) den = -(num * n % den) := by rw [Int.neg_tmod, tmod_nn b.2.2.1]
  have e2 : Int.tdiv (-(num * n)) den = -(num * n / den) := by rw [Int.neg_tdiv, tdiv_nn b.2.2.1]
  have e3 : num * n / den = f := by
    apply Int.le_antisymm
    · refine Int.le_of_lt_add_one (Int.ediv_lt_of_lt_mul (by omega) ?_)
      rw [Int.add_mul, Int.one_mul]
      omega
    · exact Int.le_ediv_of_mul_le (by omega) hf.2.2.1
  have e4 : num * n % den = num * n - f * den := by
    rw [Int.emod_def, e3, Int.mul_comm den f]
  rw [e1, e2, e3, e4]
  by_cases h : f * den < num * n
  · rw [if_pos (by omega), w64 (x := -f) (by omega) (by omega), w64 (x := -f - 1) (by omega) (by omega), Option.bind_some, w64 (by omega) (by omega)]
    refine ⟨f + 1, by congr 1; omega, ?_, .inr ⟨rfl, h⟩⟩
    have h2 : f * den < n * den := by rw [Int.mul_comm n den]; omega
    have := Int.lt_of_mul_lt_mul_right h2 (by omega)
    omega
  · rw [if_neg (by omega), w64 (by omega) (by omega), Option.bind_some, w64 (by omega) (by omega)]
    exact ⟨f, by congr 1; omega, hf.2.1, .inl ⟨rfl, by omega⟩⟩
theorem ds_low (n k f : Int) (hk : k ≤ f) (hf : f * den ≤ num * n) : ds den num f n ≤ ds den num k n ∧ (k < f → ds den num f n < ds den num k n) := by
  have h1 := ds_max den num f n
  have h2 := ds_max den num k n
  have e : k * den ≤ f * den := Int.mul_le_mul_of_nonneg_right hk (by omega)
  refine ⟨by omega, fun h => ?_⟩
  have e : k * den < f * den := Int.mul_lt_mul_of_pos_right h (by omega)
  omega
theorem ds_high (n k g : Int) (hk : g ≤ k) (hg : num * n ≤ g * den) : ds den num g n ≤ ds den num k n ∧ (g < k → ds den num g n < ds den num k n) := by
  have h1 := ds_max den num g n
  have h2 := ds_max den num k n
  have e : g * den ≤ k * den := Int.mul_le_mul_of_nonneg_right hk (by omega)
  refine ⟨by omega, fun h => ?_⟩
  have e : g * den < k * den := Int.mul_lt_mul_of_pos_right h (by omega)
  omega
/-- If the best of what came before, the floor and the ceiling is known, so is the best of all with n years. -/
theorem Good.close {P : Int → Int → Prop} {L C n f g : Int} (hg : Good den num (fun n' k' => (P n' k' ∨ (n' = n ∧ k' = f)) ∨ (n' = n ∧ k' = g)) L C) (hC : 1 ≤ C) (hCn : C ≤ n)
    (hf : f * den ≤ num * n) (hfg : (g = f ∧ f * den = num * n) ∨ (g = f + 1 ∧ num * n ≤ g * den)) : Good den num (fun n' k' => P n' k' ∨ (n' = n ∧ 0 ≤ k' ∧ k' ≤ n)) L C := by
  rintro n' k' (hp | ⟨rfl, hk⟩)
  · exact hg n' k' (.inl (.inl hp))
  · obtain ⟨h0, f1, f2⟩ := hg n' f (.inl (.inr ⟨rfl, rfl⟩))
    obtain ⟨_, g1, g2⟩ := hg n' g (.inr ⟨rfl, rfl⟩)
    have key : ∀ m, ds den num m n' ≤ ds den num k' n' → ds den num m n' * C ≤ ds den num k' n' * C := fun m h => Int.mul_le_mul_of_nonneg_right h (by omega)
    have keyS : ∀ m, ds den num m n' < ds den num k' n' → ds den num m n' * C < ds den num k' n' * C := fun m h => Int.mul_lt_mul_of_pos_right h (by omega)
    refine ⟨h0, ?_⟩
    by_cases hkf : k' ≤ f
    · obtain ⟨l1, l2⟩ := ds_low hd hm n' k' f hkf hf
      have a := key f l1
      refine ⟨by omega, fun h => ?_⟩
      rcases h with h | ⟨h, h'⟩
      · omega
      · by_cases e : k' = f
        · subst e; exact f2 (.inr ⟨h, h'⟩)
        · have := keyS f (l2 (by omega)); omega
    · have hgk : g ≤ k' := by omega
      obtain ⟨l1, l2⟩ := ds_high hd hm n' k' g hgk (by rcases hfg with ⟨rfl, h⟩ | ⟨_, h⟩ <;> omega)
      have a := key g l1
      refine ⟨by omega, fun h => ?_⟩
      rcases h with h | ⟨h, h'⟩
      · omega
      · by_cases e : k' = g
        · subst e; exact g2 (.inr ⟨h, h'⟩)
        · have := keyS g (l2 (by omega)); omega
theorem against_tells (k n L C : Int) (hk : 0 ≤ k ∧ k ≤ 401) (hn : 1 ≤ n ∧ n ≤ 401) (hL : 0 ≤ L ∧ L ≤ 401) (hC : 1 ≤ C ∧ C ≤ 401) :
    ∃ t, Ev (fun q => impl_worth_against.f q (ds den num k n) n (ds den num L C) C) t ∧ (t < 0 ↔ ds den num k n * C < ds den num L C * n) := by
  have b1 := ds_bd hd hm k n hk (by omega)
  have b2 := ds_bd hd hm L C hL (by omega)
  have b3 := mul_bd b1.1 b1.2 (show 0 ≤ C by omega) (show C ≤ 401 by omega)
  have b4 := mul_bd b2.1 b2.2 (show 0 ≤ n by omega) (show n ≤ 401 by omega)
  refine ⟨if ds den num k n * C < ds den num L C * n then -1 else if ds den num k n * C > ds den num L C * n then 1 else 0, ?_, ?_⟩
  · unfold impl_worth_against.f
    simp only [if_neg (show ¬ n = 0 by omega)]
    refine Ev.step (fun q => by rw [impl_worth_against.j0]) ?_
    simp only [Bool.false_eq_true, if_false, if_neg (show ¬ n = 0 by omega), if_neg (show ¬ C = 0 by omega)]
    rw [w64 (x := ds den num k n * C) (by omega) (by omega), w64 (x := ds den num L C * n) (by omega) (by omega)]
    unfold impl_compare.f
    split
    · exact ev_const rfl
    · split <;> exact ev_const rfl
  · split
    · simp [*]
    · split <;> simp_all
/-- The program's inner loop: the floor, then the ceiling. -/
theorem impl_one (n kk L C : Int) (P : Int → Int → Prop) (ys : List Int) (j : Int) (hn : 1 ≤ n ∧ n ≤ 400) (hk : 0 ≤ kk ∧ kk ≤ n) (hj : 0 ≤ j ∧ j < ys.length ∧ ys.length ≤ 2) (hrd : rd ys j = kk)
    (hst : (C = 0 ∧ L = 0 ∧ ∀ n' k', ¬ P n' k') ∨ (1 ≤ C ∧ 0 ≤ L ∧ L ≤ C ∧ (C < n ∨ (C = n ∧ L ≤ kk)) ∧ Good den num P L C)) (x y : Int) (hxy : C = 0 ∨ (x = ds den num L C ∧ y = C)) :
    ∃ L' C', 1 ≤ C' ∧ 0 ≤ L' ∧ L' ≤ C' ∧ (C' < n ∨ (C' = n ∧ L' ≤ kk)) ∧ Good den num (fun n' k' => P n' k' ∨ (n' = n ∧ k' = kk)) L' C' ∧
      ∀ r, Ev (fun q => impl_BestCycle.l1 q num den most L' C' n ys (ys.length : Int) (j + 1) (ds den num L' C') C') r → Ev (fun q => impl_BestCycle.l1 q num den most L C n ys (ys.length : Int) j x y) r := by
  have b := bd hd hm kk n (by omega) (by omega)
  rcases hst with ⟨rfl, rfl, hP⟩ | ⟨hC, hL, hLC, hb, hg⟩
  · refine ⟨kk, n, hn.1, hk.1, hk.2, .inr ⟨rfl, Int.le_refl _⟩, ?_, fun r hr => ?_⟩
    · rintro n' k' (hp | ⟨rfl, rfl⟩)
      · exact absurd hp (hP _ _)
      · exact ⟨by omega, Int.le_refl _, fun h => by omega⟩
    · refine Ev.step (fun k => by rw [impl_BestCycle.l1]) ?_
      simp only [if_pos hj.2.1, if_pos hj.1, hrd, if_true]
      rw [far_tells hd hm kk n (by omega) (by omega), w64 (x := j + 1) (by omega) (by omega)]
      exact hr
  · rcases hxy with e | ⟨rfl, rfl⟩
    · omega
    obtain ⟨t, ht, hti⟩ := against_tells hd hm kk n L y (by omega) (by omega) (by omega) (by omega)
    by_cases hlt : ds den num kk n * y < ds den num L y * n
    · refine ⟨kk, n, hn.1, hk.1, hk.2, .inr ⟨rfl, Int.le_refl _⟩, hg.add_lt (by omega) (by omega) hlt, fun r hr => ?_⟩
      refine Ev.step (fun k => by rw [impl_BestCycle.l1]) ?_
      simp only [if_pos hj.2.1, if_pos hj.1, hrd, if_neg (show ¬ y = 0 by omega)]
      rw [far_tells hd hm kk n (by omega) (by omega), w64 (x := j + 1) (by omega) (by omega)]
      refine Ev.bind ht ?_
      simp only [if_pos (hti.2 hlt)]
      exact hr
    · refine ⟨L, y, hC, hL, hLC, hb, hg.add_ge (by omega) hlt hb, fun r hr => ?_⟩
      refine Ev.step (fun k => by rw [impl_BestCycle.l1]) ?_
      simp only [if_pos hj.2.1, if_pos hj.1, hrd, if_neg (show ¬ y = 0 by omega)]
      rw [far_tells hd hm kk n (by omega) (by omega), w64 (x := j + 1) (by omega) (by omega)]
      refine Ev.bind ht ?_
      simp only [if_neg (show ¬ t < 0 from fun h => hlt (hti.1 h))]
      exact hr
include hs
theorem impl_outer (d : Nat) : ∀ (n L C x y : Int), most + 1 - n = d → 1 ≤ n → ((C = 0 ∧ L = 0 ∧ n = 1) ∨ (1 ≤ C ∧ C < n ∧ 0 ≤ L ∧ L ≤ C ∧ Good den num (Bef n) L C ∧ x = ds den num L C ∧ y = C)) →
    ∃ r, Ev (fun k => impl_BestCycle.l0 k num den most L C n x y) r ∧ Post den num most r := by
  induction d with
  | zero =>
    intro n L C x y e h1 hst
    rcases hst with h | ⟨hC, hCn, hL, hLC, hg, rfl, rfl⟩
    · omega
    refine ⟨(L, y, true), ?_, rfl, hC, by simp only; omega, hL, hLC, ?_⟩
    · refine Ev.step (fun k => by rw [impl_BestCycle.l0]) ?_
      simp only [if_neg (show ¬ n ≤ most by omega)]
      exact Ev.now _
    · obtain rfl : n = most + 1 := by omega
      exact hg
  | succ d ih =>
    intro n L C x y e h1 hst
    obtain ⟨f, hf, hf0, hfn, hfl, hfh⟩ := floor_tells hd hm n (by omega)
    obtain ⟨g, hg, hgn, hfg⟩ := ceiling_tells hd hm n (by omega) f ⟨hf0, hfn, hfl, hfh⟩
    have hfg' : (g = f ∧ f * den = num * n) ∨ (g = f + 1 ∧ num * n ≤ g * den) := by
      rcases hfg with h | ⟨rfl, h⟩
      · exact .inl h
      · exact .inr ⟨rfl, by rw [Int.add_mul, Int.one_mul]; omega⟩
    obtain ⟨L1, C1, a1, a2, a3, a4, a5, a6⟩ := impl_one (most := most) hd hm n f L C (Bef n) [f, g] 0 (by omega) (by omega) (by simp) rfl (by
      rcases hst with ⟨rfl, rfl, rfl⟩ | ⟨hC, hCn, hL, hLC, hg, _⟩
      · exact .inl ⟨rfl, rfl, fun n' k' h => by unfold Bef at h; omega⟩
      · exact .inr ⟨hC, hL, hLC, .inl hCn, hg⟩) x y (by
      rcases hst with h | h
      · exact .inl h.1
      · exact .inr ⟨h.2.2.2.2.2.1, h.2.2.2.2.2.2⟩)
    obtain ⟨L2, C2, b1, b2, b3, b4, b5, b6⟩ := impl_one (most := most) hd hm n g L1 C1 _ [f, g] 1 (by omega) (by omega) (by simp) rfl (.inr ⟨a1, a2, a3, by omega, a5⟩) (ds den num L1 C1) C1 (.inr ⟨rfl, rfl⟩)
    have b7 := Good.close hd hm b5 b1 (by omega) hfl hfg'
    obtain ⟨r, hr, hp⟩ := ih (n + 1) L2 C2 (ds den num L2 C2) C2 (by omega) (by omega) (.inr ⟨b1, by omega, b2, b3, b7.imp (fun n' k' h => by
      unfold Bef at h ⊢
      rcases Com.lt_or_ge n' n with x | x
      · exact .inl (by omega)
      · exact .inr (by omega)), rfl, rfl⟩)
    refine ⟨r, ?_, hp⟩
    refine Ev.step (fun k => by rw [impl_BestCycle.l0]) ?_
    simp only [if_pos (show n ≤ most by omega), hf, hg, Option.bind_some]
    refine a6 r (b6 r ?_)
    refine Ev.step (fun k => by rw [impl_BestCycle.l1]) ?_
    simp only [if_neg (show ¬ (1 + 1 : Int) < ([f, g] : List Int).length by simp)]
    rw [w64 (by omega) (by omega)]
    exact hr
theorem impl_best : ∃ r, Ev (fun k => impl_BestCycle.f k num den most) r ∧ Post den num most r := by
  obtain ⟨r, hr, hp⟩ := impl_outer hd hm hs most.toNat 1 0 0 0 0 (by omega) (by omega) (.inl ⟨rfl, rfl, rfl⟩)
  refine ⟨r, ?_, hp⟩
  unfold impl_BestCycle.f impl_within.f
  simp only [if_pos (show 1 ≤ den by omega), if_pos (show 0 ≤ num by omega), if_pos (show 1 ≤ most by omega), decide_eq_true (show den ≤ 1000 by omega), decide_eq_true (show num ≤ den by omega), decide_eq_true (show most ≤ 400 by omega), Option.bind_some, if_true]
  refine Ev.step (fun k => by rw [impl_BestCycle.j0]) ?_
  simpa using hr
theorem both : ∃ r, Ev (fun k => impl_BestCycle.f k num den most) r ∧ Ev (fun k => spec_BestCycle.f k num den most) r ∧ Post den num most r := by
  obtain ⟨r, hr, hp⟩ := impl_best hd hm hs
  obtain ⟨q, hq, hq'⟩ := spec_best hd hm hs
  obtain rfl := hp.uniq hq'
  exact ⟨r, hr, hq, hp⟩
end
/-- Otherwise both fail. -/
theorem neither {den num most : Int} (h : ¬ ((1 ≤ den ∧ den ≤ 1000) ∧ (0 ≤ num ∧ num ≤ den) ∧ (1 ≤ most ∧ most ≤ 400))) :
    Ev (fun k => impl_BestCycle.f k num den most) (0, 0, false) ∧ Ev (fun k => spec_BestCycle.f k num den most) (0, 0, false) := by
  have w : ∀ x a b : Int, impl_within.f x a b = some (decide (a ≤ x ∧ x ≤ b)) := fun x a b => by unfold impl_within.f; split <;> simp [*]
  have v : ∀ x a b : Int, spec_l00In.f x a b = some (decide (a ≤ x ∧ x ≤ b)) := fun x a b => by
    unfold spec_l00In.f
    by_cases h : x ≥ a
    · have h' : a ≤ x := h
      simp [h, h']
    · have h' : ¬ a ≤ x := h
      simp [h, h']
  have j : Ev (fun k => impl_BestCycle.j0 k num den most true) (0, 0, false) := Ev.step (fun k => by rw [impl_BestCycle.j0]) (by simp; exact Ev.now _)
  have j' : Ev (fun k => spec_BestCycle.j0 k num den most true) (0, 0, false) := Ev.step (fun k => by rw [spec_BestCycle.j0]) (by simp; exact Ev.now _)
  constructor
  · unfold impl_BestCycle.f
    simp only [w, Option.bind_some, decide_eq_true_eq]
    split
    · split
      · rw [decide_eq_false (show ¬ (1 ≤ most ∧ most ≤ 400) by omega)]; exact j
      · exact j
    · exact j
  · unfold spec_BestCycle.f
    simp only [v, Option.bind_some, decide_eq_true_eq]
    split
    · split
      · rw [decide_eq_false (show ¬ (1 ≤ most ∧ most ≤ 400) by omega)]; exact j'
      · exact j'
    · exact j'
end Go.Proofs.Ytjeidmbggdgggaa.Best
