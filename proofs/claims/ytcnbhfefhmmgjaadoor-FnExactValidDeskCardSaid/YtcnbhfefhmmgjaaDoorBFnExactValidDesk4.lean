/- The statement FnExactValidDesk, with all that its proof stands on: functions of the program as plain functions, the program's walks, and the plain law. Conditions: none beyond the statement's own. -/
import Derived.ArgAppend
import Derived.Below
import Derived.BigQuiet
import Derived.Deep.AppendLies
import Derived.Deep.CutBlock
import Derived.Deep.DeepCutAuto
import Derived.Deep.Draws
import Derived.Deep.LoopGhost
import Derived.Deep.OwnRows
import Derived.Deep.QuietTactic
import Derived.Deep.RegionHeld3
import Derived.Deep.Slices
import Derived.KernelRfl
import Derived.Laws.BitsLemmas
import Derived.Laws.BytesArg
import Derived.Laws.IdiomCopy
import Derived.Laws.MakeOwn
import Derived.Laws.OwnMore
import Derived.Laws.Rows
import Derived.Laws.Slices
import Derived.Lib.AppendStr
import Derived.Lib.ConvBytes
import Derived.Lib.SmallJoins
import Derived.Maps.AppendAt
import Derived.OrdersHeld
import Derived.OwnWalk
import Derived.ProofKit
import Derived.RowKit
import Derived.RowKit3
import Derived.Tactics
import Derived.WalkKit
import Derived.WideLaws
import Derived.Test.YtcnbhfefhmmgjaaDoorBFnExactValidDesk0
import Derived.Test.YtcnbhfefhmmgjaaDoorBFnExactValidDesk2
import Derived.Test.YtcnbhfefhmmgjaaDoorBFnExactValidDesk3
set_option linter.unusedVariables false
set_option linter.unusedSimpArgs false
namespace Go.Proofs.YtcnbhfefhmmgjaaDoor.Opn
open Go.RowKit Go.Deep Go.ChangeShapes Go.WideShapes Go.Joins Go.Proofs.YtcnbhfefhmmgjaaDoorW.PrintWords
set_option linter.unusedVariables false
def Opn {α : Type} (P : Program) (t : TypeId) (d : Kd α) (Wf : α → Prop) : Prop :=
 ∀ {H : Type} (enc : TypeId × Value → H) (w : World) (base : Nat) (spare : Nat → Bool) (held : Bool) (n : Nat) (cs : List Value) (x : DataW H × List MemPlace), DataW.trod enc P w base spare held n t cs = some x → ∃ y, d.K w y cs ∧ Wf y
theorem opn_int {P : Program} {t : TypeId} {k : IntKind} (ht : P.underlying t = some (.int k)) : Opn P t (Kd.int k) (fun y => (Lit.int k y).wf = true) := by
 intro H enc w base spare held n cs x h
 obtain ⟨y, rfl, _, hw⟩ := DataW.trod_int ht h
 exact ⟨y, rfl, hw⟩
theorem opn_string {P : Program} {t : TypeId} (ht : P.underlying t = some .string) : Opn P t Kd.string (fun y => y.size ≤ maxLen) := by
 intro H enc w base spare held n cs x h
 obtain ⟨y, rfl, _, hw⟩ := DataW.trod_string ht h
 exact ⟨y, rfl, hw⟩
theorem opn_slice {α : Type} [Inhabited α] {P : Program} {t e : TypeId} {d : Kd α} {Wf : α → Prop} (ht : P.underlying t = some (.slice e)) (hc : P.cellsOf e = d.sz) (hd : Opn P e d Wf) :
  Opn P t (Kd.slice e d) (fun xs => xs.length ≤ maxLen ∧ ∀ y ∈ xs, Wf y) := by
 intro H enc w base spare held n cs x h
 rcases open_slice ht h with ⟨rfl, rfl⟩ | ⟨a, len, cap, m, n', D, Pl, rfl, hb, hl, hm, hmm, rfl, hx⟩
 ·exact ⟨[], ⟨none, 0, rfl, Nat.le_refl _, Kd.C_nil _ _⟩, by simp [maxLen], fun y hy => by simp at hy⟩
 ·have hlm : len ≤ m := by rw [hmm]; split <;> omega
  obtain ⟨f, hf⟩ := choose_lt (α := α) (n := len) (p := fun i y => (∃ cs', w.cells? base (a.add (i * P.cellsOf e)) (P.cellsOf e) = some cs' ∧ d.K w y cs') ∧ Wf y) (fun i hi => by
   obtain ⟨cs', h1, h2⟩ := hx i (by omega)
   obtain ⟨y, hk, hy⟩ := hd enc w base spare held n' cs' _ h2
   exact ⟨y, ⟨cs', h1, hk⟩, hy⟩)
  have hlen : ((List.range len).map f).length = len := by simp
  refine ⟨(List.range len).map f, ⟨some a, cap, by rw [hlen], by rw [hlen]; exact hl, ?_⟩, by rw [hlen]; omega, ?_⟩
  ·refine ⟨rfl, by rw [hlen]; unfold maxLen at hm; omega, fun _ => ⟨a, rfl, fun j p hj => ?_⟩⟩
   have hj' : j < len := by
    have := (List.getElem?_eq_some_iff.1 hj).1
    omega
   have hp : f j = p := by
    rw [List.getElem?_map, List.getElem?_range hj'] at hj
    simpa using hj
   obtain ⟨⟨cs', h1, hk⟩, _⟩ := hf j hj'
   obtain ⟨_, h2, h3⟩ := World.cells?_some h1
   subst hp
   refine ⟨cs', by rw [h2, hc], hk, fun i u hu => ?_⟩
   have hi : i < P.cellsOf e := by
    have := (List.getElem?_eq_some_iff.1 hu).1
    omega
   rw [← hc, ← Go.Deep.add_add]
   exact (h3 i hi).trans hu
  ·intro y hy
   obtain ⟨i, hi, rfl⟩ := List.mem_map.1 hy
   exact (hf i (List.mem_range.1 hi)).2
theorem slice_of {α : Type} {e : TypeId} {d : Kd α} {w : World} {xs : List α} {v : Value} (h : (Kd.slice e d).K w xs [v]) : ∃ A c, v = .slice A xs.length c ∧ xs.length ≤ c ∧ d.C w A xs.length xs := by
 obtain ⟨A, c, he, hl, hr⟩ := h
 exact ⟨A, c, by simpa using he, hl, hr⟩
theorem fields2 {P : Program} {H : Type} {enc : TypeId × Value → H} {w : World} {base : Nat} {spare : Nat → Bool} {held : Bool} {n : Nat} {t : TypeId} {f0 f1 : Field} {cs : List Value} {x : DataW H × List MemPlace}
  (hs : P.underlying t = some (.struct #[f0, f1])) (hC : P.cellsOf t = 2) (h0 : f0.offset = 0 ∧ P.cellsOf f0.type = 1) (h1 : f1.offset = 1 ∧ P.cellsOf f1.type = 1) (h : DataW.trod enc P w base spare held n t cs = some x) :
  ∃ v0 v1 y0 y1 m, cs = [v0, v1] ∧ DataW.trod enc P w base spare held m f0.type [v0] = some y0 ∧ DataW.trod enc P w base spare held m f1.type [v1] = some y1 := by
 obtain ⟨y0, y1, m, _, hl, e0, e1⟩ := trod_struct2 hs h
 rw [hC] at hl
 match cs, hl with
 | [v0, v1], _ => rw [h0.1, h0.2] at e0; rw [h1.1, h1.2] at e1; exact ⟨v0, v1, y0, y1, m, rfl, by simpa using e0, by simpa using e1⟩
theorem opn_struct2 {α β γ : Type} {P : Program} {t : TypeId} {f0 f1 : Field} {d0 : Kd α} {d1 : Kd β} {p : γ → α × β} {mk : α → β → γ} {W0 : α → Prop} {W1 : β → Prop} (hs : P.underlying t = some (.struct #[f0, f1])) (hC : P.cellsOf t = 2)
  (h0 : f0.offset = 0 ∧ P.cellsOf f0.type = 1) (h1 : f1.offset = 1 ∧ P.cellsOf f1.type = 1) (o0 : Opn P f0.type d0 W0) (o1 : Opn P f1.type d1 W1) (hp : ∀ a b, p (mk a b) = (a, b)) :
  Opn P t (Kd.iso (Kd.pair d0 d1) p) (fun y => W0 (p y).1 ∧ W1 (p y).2) := by
 intro H enc w base spare held n cs x h
 obtain ⟨v0, v1, y0, y1, m, rfl, e0, e1⟩ := fields2 hs hC h0 h1 h
 obtain ⟨a, ka, wa⟩ := o0 enc w base spare held m _ _ e0
 obtain ⟨b, kb, wb⟩ := o1 enc w base spare held m _ _ e1
 exact ⟨mk a b, by show (Kd.pair d0 d1).K w (p (mk a b)) _; rw [hp]; exact ⟨[v0], [v1], rfl, ka, kb⟩, by show W0 (p (mk a b)).1 ∧ W1 (p (mk a b)).2; rw [hp]; exact ⟨wa, wb⟩⟩
end Go.Proofs.YtcnbhfefhmmgjaaDoor.Opn
