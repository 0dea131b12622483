/- The pure statement of FnExactValidPicture: for all arguments the program's ValidPicture returns what the reference's returns. -/
import Derived.Test.YtgndemjphjhahaaRowsS
import Derived.Test.YtgndemjphjhahaaQ24
import Derived.Test.YtgndemjphjhahaaQ26
import Derived.Test.YtgndemjphjhahaaQ29
import Derived.Test.YtgndemjphjhahaaQ33
import Derived.Test.YtgndemjphjhahaaQ34
namespace Go.Proofs.Ytgndemjphjhahaa.Pure
set_option linter.unusedSimpArgs false
set_option linter.unusedVariables false
open Go.RowKit Go.Proofs.Ytgndemjphjhahaa.Q Go.Proofs.YtgndemjphjhahaaW.PrintWords Go.Proofs.YtgndemjphjhahaaW.PrintLast Go.Proofs.Ytgndemjphjhahaa.Com

theorem FnExactValidPicture : laws_FnExactValidPicture.Pure := by
  intro l hl
  apply ev_of
  unfold laws_FnExactValidPicture.f
  obtain ⟨t, ht, h⟩ := szInt64SS_ev l hl.1 (fun x hx => (hl.2 x hx).1)
  have hsz : Ev (fun k => laws_szPicture.f k l 1048576) t := by
    unfold laws_szPicture.f
    refine Ev.bind ht ?_
    rcases h with rfl | ⟨h, _⟩
    · simp only [if_pos (show (-1 : Int) < 0 by omega)]
      exact Ev.now _
    · simp only [if_neg (show ¬ t < 0 by omega)]
      exact Ev.now _
  refine Ev.bind hsz ?_
  rcases h with rfl | ⟨h0, hx, hr⟩
  · simp only [if_pos (show (-1 : Int) < 0 by omega)]
    exact Ev.now _
  · simp only [if_neg (show ¬ t < 0 by omega)]
    have hto : Ev (fun k => laws_toPicture.f k l) l := by
      unfold laws_toPicture.f
      exact Ev.bind (toInt64SS_ev l hx hr) (Ev.now _)
    have heq : Ev (fun k => laws_eqPicture.f k l l) true := by
      unfold laws_eqPicture.f
      refine Ev.bind (eqInt64SS_ev l hx hr) ?_
      simp only [if_true]
      exact Ev.now _
    have hs : Ev (fun k => spec_ValidPicture.f k l) (rowsForm 255 l) := by
      unfold spec_ValidPicture.f spec_l09Is.f
      exact Ev.bind (Ev.bind (form_ev l 255 hx hr) (Ev.now _)) (Ev.now _)
    have hi : impl_ValidPicture.f l = some (rowsForm 255 l) := by
      unfold impl_ValidPicture.f
      rw [areRows_tells]
      rfl
    refine Ev.bind hto (Ev.bind hs (Ev.bind hto (ev_bind' hi ?_)))
    simp only [bne_self_eq_false, Bool.false_eq_true, if_false]
    refine Ev.bind hto (Ev.bind heq ?_)
    simp only [if_true]
    exact Ev.now _
end Go.Proofs.Ytgndemjphjhahaa.Pure
