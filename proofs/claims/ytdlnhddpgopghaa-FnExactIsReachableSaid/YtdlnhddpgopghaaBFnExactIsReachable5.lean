/- The statement FnExactIsReachable, with all that its proof stands on: functions of the program as plain functions, the program's walks, and the plain law. Conditions: none beyond the statement's own. -/
import Derived.ArgAppend
import Derived.Below
import Derived.BigQuiet
import Derived.Deep.AppendLies
import Derived.Deep.CutBlock
import Derived.Deep.DeepCutAuto
import Derived.Deep.Draws
import Derived.Deep.LoopGhost
import Derived.Deep.OwnRows
import Derived.Deep.QuietTactic
import Derived.Deep.RegionHeld3
import Derived.KernelRfl
import Derived.Laws.BitsLemmas
import Derived.Laws.BytesArg
import Derived.Laws.IdiomCopy
import Derived.Laws.MakeOwn
import Derived.Laws.OwnMore
import Derived.Laws.Rows
import Derived.Laws.Slices
import Derived.Lib.AppendStr
import Derived.Lib.ConvBytes
import Derived.Maps.AppendAt
import Derived.OrdersHeld
import Derived.OwnWalk
import Derived.ProofKit
import Derived.RowKit
import Derived.RowKit3
import Derived.Tactics
import Derived.WalkKit
import Derived.WideLaws
import Derived.Test.YtdlnhddpgopghaaBFnExactIsReachable1
import Derived.Test.YtdlnhddpgopghaaBFnExactIsReachable3
import Derived.Test.YtdlnhddpgopghaaBFnExactIsReachable4
set_option linter.unusedVariables false
set_option linter.unusedSimpArgs false
namespace Go.Proofs.Ytdlnhddpgopghaa.Q
open Go.RowKit Go.Proofs.YtdlnhddpgopghaaW.PrintWords Go.Proofs.YtdlnhddpgopghaaW.PrintLast Go.Proofs.YtdlnhddpgopghaaW.PrintMore
set_option linter.unusedVariables false
def rda (xs : List (List Int)) (i : Int) : List Int := xs.getD i.toNat ([] : List Int)
theorem rows_at {t e base n cap : Nat} {A : Option Addr} {ok : Nat → Prop} {W : World} {xs : List (List Int)} (h : Kd.S (Kd.slice t (Kd.int .i64)) e W base ok (.slice A n cap) xs) (i j : Int) (h0 : 0 ≤ i) (h1 : i < (xs.length : Int)) (j0 : 0 ≤ j) (j1 : j < ((rda xs i).length : Int)) :
  ∃ g b c, A = some ⟨g, 0, none⟩ ∧ n = xs.length ∧ W.cell? ⟨g, i.toNat, none⟩ = some (.slice (some ⟨b, 0, none⟩) (rda xs i).length c) ∧ W.cell? ⟨b, j.toNat, none⟩ = some (.int .i64 (rd (rda xs i) j)) ∧ W.frozen? ⟨b, j.toNat, none⟩ = false ∧ base ≤ b ∧ b < W.heap.size ∧ g < W.heap.size ∧ ok b ∧ b ≠ g ∧
   ∀ u : Int, Kd.S (Kd.slice t (Kd.int .i64)) e (W.setCell ⟨b, j.toNat, none⟩ (.int .i64 u)) base ok (.slice A n cap) (xs.set i.toNat ((rda xs i).set j.toNat u)) := by
 have hn := (Kd.S_reads' h).1
 subst hn
 obtain ⟨g, cap', e1, hg1, hg2, _⟩ := Kd.S_form h (by omega)
 injection e1 with e1 _ e3
 subst e1
 obtain ⟨oki, c, hcl, hM, hcc, hfr, hoki, hH⟩ := Kd.S_elem h [] i h0 (by omega)
 obtain ⟨ve, rfl, hR0⟩ := hM
 have hR : (Kd.int .i64).R t W base oki ve (rda xs i) := hR0
 clear hR0
 have hcell := hcc 0 _ rfl
 have hj : 0 < (rda xs i).length := by omega
 obtain ⟨b, cb, rfl, hb1, hb2, _⟩ := Kd.R_form hR hj
 have hkb := hoki b (hR.1 b rfl)
 have hc := Kd.R_cell (0 : Int) hR j j0 j1
 refine ⟨g, b, cb, rfl, rfl, ?_, hc.1, hc.2, hb1, hb2, hg2, hkb.1, hkb.2, fun u => ?_⟩
 ·rw [show (Kd.slice t (Kd.int .i64)).sz = 1 from rfl, Nat.mul_one, Nat.add_zero] at hcell
  exact hcell
 ·have hp := Kd.R_put hR j u
  refine Kd.H_back (okp := oki) (Kd.H_grown hH hp.2 (fun k hk => by cases hk; exact hR.1 b rfl)) ⟨_, rfl, ?_⟩ (fun _ hk => hk)
  have hq := hp.1
  exact hq
end Go.Proofs.Ytdlnhddpgopghaa.Q
