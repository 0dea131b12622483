/- The statement FnDiffused, with all that its proof stands on: functions of the program as plain functions, the program's walks, and the plain law. Conditions: none beyond the statement's own. -/
import Derived.ArgAppend
import Derived.Below
import Derived.BigQuiet
import Derived.BigRegion
import Derived.CallsIn
import Derived.ControlIn
import Derived.Deep.AppendLies
import Derived.Deep.CutBlock
import Derived.Deep.DeepCutAuto
import Derived.Deep.Draws
import Derived.Deep.LoopGhost
import Derived.Deep.OwnRows
import Derived.Deep.QuietTactic
import Derived.Deep.RegionHeld3
import Derived.Ground.SlgnProg
import Derived.KernelRfl
import Derived.Laws.BitsLemmas
import Derived.Laws.BytesArg
import Derived.Laws.IdiomCopy
import Derived.Laws.MakeOwn
import Derived.Laws.OwnMore
import Derived.Laws.Rows
import Derived.Laws.Slices
import Derived.Lib.AppendStr
import Derived.Lib.ConvBytes
import Derived.Lib.IndexLaws
import Derived.LoopIn
import Derived.LoopNIn
import Derived.Maps.AppendAt
import Derived.OrdersHeld
import Derived.OwnWalk
import Derived.OwnWalkIn
import Derived.ProofKit
import Derived.RangeFuncBound
import Derived.RangeFuncBox
import Derived.RangeFuncCalls
import Derived.RangeFuncFrom
import Derived.RangeFuncKeeps
import Derived.RangeFuncLeaves
import Derived.RangeFuncNested
import Derived.RangeFuncWrites
import Derived.RowKit
import Derived.RowKit3
import Derived.Shelf.Abstract
import Derived.Shelf.RegionOpen
import Derived.Shelf.SlicesE.Clone
import Derived.Shelf.Small.Strs
import Derived.Shelf.Strings.Search1
import Derived.Sort.OwnSortedInts
import Derived.Tactics
import Derived.TacticsIn
import Derived.TacticsInMore
import Derived.Test.YtpdkknfooblplaaProg
import Derived.WalkKit
import Derived.WideLaws
import Derived.Test.YtpdkknfooblplaaBFnDiffused0
import Derived.Test.YtpdkknfooblplaaBFnDiffused2
import Derived.Test.YtpdkknfooblplaaBFnDiffused3
import Derived.Test.YtpdkknfooblplaaBFnDiffused4
import Derived.Test.YtpdkknfooblplaaBFnDiffused5
import Derived.Test.YtpdkknfooblplaaBFnDiffused6
import Derived.Test.YtpdkknfooblplaaBFnDiffused7
import Derived.Test.YtpdkknfooblplaaBFnDiffused8
import Derived.Test.YtpdkknfooblplaaBFnDiffused9
import Derived.Test.YtpdkknfooblplaaBFnDiffused10
import Derived.Test.YtpdkknfooblplaaBFnDiffused11
import Derived.Test.YtpdkknfooblplaaBFnDiffused12
set_option linter.unusedVariables false
set_option linter.unusedSimpArgs false
namespace Go.Proofs.Ytpdkknfooblplaa.Q
open Go.RowKit Go.Proofs.YtpdkknfooblplaaW.PrintWords Go.Proofs.YtpdkknfooblplaaW.PrintLast Go.Proofs.YtpdkknfooblplaaW.PrintMore
attribute [local go_sem] max2_int min2_int max_two min_two max_three min_three max_four min_four   -- for this text's walks alone
set_option linter.unusedVariables false
set_option linter.unusedSimpArgs false
open Go Go.Shelf Go.Proofs Go.Proofs.Ytpdkknfooblplaa.Box
attribute [local go_sem] Oper.semAt_some
def impl_ReadDots.row (x : ByteArray) : List Int := x.data.toList.dropLast.map fun b => if b = 35 then 1 else 0
def impl_ReadDots.rows (s : ByteArray) : List (List Int) := (blines s).map impl_ReadDots.row
def impl_ReadDots.f (k : Nat) (a0 : ByteArray) : Option (List (List Int) × Bool) := if a0.size ≤ 1048576 then (impl_DotsText.f k (impl_ReadDots.rows a0)).bind fun t => (if t.2 = true ∧ t.1 = a0 then some (impl_ReadDots.rows a0, true) else some ([], false)) else none
theorem impl_ReadDots.mono : ∀ a0 k, LeO (impl_ReadDots.f k a0) (impl_ReadDots.f (k + 1) a0) := by
 intro a0 k
 unfold impl_ReadDots.f
 repeat' first
  | (with_reducible exact impl_DotsText.mono _ _)
  | (with_reducible exact LeO.refl _)
  | (with_reducible exact LeO.none _)
  | (with_reducible refine LeO.ite ?_ ?_)
  | (with_reducible refine LeO.bind ?_ (fun _ => ?_))
abbrev RR := Kd.slice 2 (Kd.int .i64)
def impl_ReadDots.I (base b4 bL : Nat) (w : World) (pre : List ByteArray) (W : World) : Prop := ∃ v, W.cell? ⟨b4, 0, none⟩ = some v ∧ W.frozen? ⟨b4, 0, none⟩ = false ∧ Kd.S RR 58 W base (fun k => k ≠ b4 ∧ k ≠ bL) v (pre.map impl_ReadDots.row) ∧ Below base w W ∧ bL < W.heap.size
theorem cell_lt {W : World} {a : Addr} {v : Value} (h : W.cell? a = some v) : a.block < W.heap.size := by
 unfold World.cell? at h
 cases e : W.heap[a.block]? with
 | none => rw [e] at h; cases h
 | some o => exact (Array.getElem?_eq_some_iff.1 e).1
theorem S_put {α : Type} {d : Kd α} {e base : Nat} {ok : Nat → Prop} {v : Value} {xs : List α} {W : World} {l : Nat} {o : Obj} (o' : Obj) (hS : Kd.S d e W base ok v xs) (h : W.heap[l]? = some o) (ho : o.isCells = false) : Kd.S d e (W.putObj l o') base ok v xs := by
 refine Kd.S_mono (Kd.S_step (Kd.S_bound hS) fun k hk _ => ?_) (fun k hk => hk.1)
 obtain ⟨_, _, _, _, _, cells, hcells⟩ := hk
 exact World.putObj_heap_other (fun e => by subst e; rw [h] at hcells; cases hcells; simp [Obj.isCells] at ho)
theorem below_put {B : Nat} {w W : World} {l : Nat} (o' : Obj) (hB : Below B w W) (hl : B ≤ l) : Below B w (W.putObj l o') :=
 ⟨hB.os, hB.tape, hB.output, by simpa using hB.size, fun k hk => (World.putObj_heap_other (by omega)).trans (hB.block k hk)⟩
theorem impl_ReadDots.anew (base b4 bL : Nat) (w : World) (hb : base ≤ w.heap.size) : Anew (impl_ReadDots.I base b4 bL w) := by
 rintro s W W' ⟨v, hc, hf, hS, hB, hbL⟩ h
 have hlt := cell_lt hc
 exact ⟨v, (h.cell hlt).trans hc, (h.frozen hlt).trans hf, Kd.S_below hS h, ⟨h.os.trans hB.os, h.tape.trans hB.tape, h.output.trans hB.output, Nat.le_trans hB.size h.size, fun k hk => (h.block k (Nat.lt_of_lt_of_le hk (Nat.le_trans hb hB.size))).trans (hB.block k hk)⟩, Nat.lt_of_lt_of_le hbL h.size⟩
theorem impl_ReadDots.abox (base b4 bL : Nat) (w : World) (h4 : b4 ≠ bL) (hL : base ≤ bL) : Abox bL (impl_ReadDots.I base b4 bL w) := by
 rintro s W u ⟨v, hc, hf, hS, hB, hbL⟩
 exact ⟨v, (World.cell?_setCell_far _ _ _ _ (fun e => h4 e.symm)).trans hc, by rw [World.frozen?_setCell]; exact hf, Kd.S_far hS (fun k hk => hk.2) u, hB.setCell hL u, by simpa using hbL⟩
theorem impl_ReadDots.aown (base b4 bL B : Nat) (w : World) (hb : base ≤ B) : Aown B (impl_ReadDots.I base b4 bL w) := by
 rintro s W l o o' ⟨v, hc, hf, hS, hB, hbL⟩ hl h ho
 refine ⟨v, cell_putObj o' hc h ho, (kbox_frozen o' hc h ho).trans hf, ?_, ?_, by simpa using hbL⟩
 ·exact S_put o' hS h ho
 ·exact below_put o' hB (by omega)
theorem lit0 {α : Type} (d : Kd α) (e : Nat) (W : World) : d.R e (W.alloc (.cells #[] e)) W.heap.size (fun k => k = W.heap.size) (.slice (some ⟨W.heap.size, 0, none⟩) 0 0) [] := by
 refine ⟨fun k hk => ?_, [], ?_, Reps.none _ _⟩
 ·simpa [Value.ownBlock, eq_comm] using hk
 ·simpa using World.ownsRow_lit (base := W.heap.size) (e := e) (size := d.sz) W #[] 0 (Nat.le_refl _) (by simp [maxLen]) (by simp)
theorem dt_calls {k : Nat} {s : List (List Int)} {r1 : ByteArray} {r2 : Bool} (A0 : Option Addr) (c0 : Nat) (w : World) (hr0 : Kd.C RR w A0 s.length s) (hc0 : s.length ≤ c0) (h : impl_DotsText.f k s = some (r1, r2)) :
  Calls Try.prog 25 #[.slice A0 s.length c0] w fun e w' => e = .returned (.tuple #[.string r1, .bool r2]) ∧ Below w.heap.size w w' := impl_DotsText.calls k A0 c0 s r1 r2 w hr0 hc0 h
set_option maxHeartbeats 8000000 in
set_option maxRecDepth 100000 in
theorem impl_ReadDots.calls (k : Nat) (a0 : ByteArray) (r1 : List (List Int)) (r2 : Bool) (w : World) (h : impl_ReadDots.f k a0 = some (r1, r2)) :
  Calls Try.prog 7 #[.string a0] w fun e w' => ∃ v0_ : Value, e = .returned (.tuple #[v0_, .bool r2]) ∧ Kd.S (Kd.slice 2 (Kd.int .i64)) 58 w' w.heap.size (fun _ => True) v0_ r1 ∧ Below w.heap.size w w' := by
 unfold impl_ReadDots.f at h
 by_cases hsz : a0.size ≤ 1048576
 ·rw [if_pos hsz] at h
  obtain ⟨⟨t1, t2⟩, hdt, h⟩ := Option.bind_eq_some_iff.1 h
  refine (callsIn_wide (n := 9)).1 (callsIn_of_wp_marks Try.func7 rfl trivial ?_ rfl)
  simp only [Try.ntmps7, List.size_toArray, List.length_cons, List.length_nil, Nat.reduceAdd, Nat.reduceSub, Array.replicate_succ, Array.replicate_zero, List.push_toArray, List.append_toArray, List.nil_append, List.cons_append]
  gi_wp2_with (refine ⟨trivial, ?_⟩; gi_at_call 33; refine ((lines_in 8 a0 _)).mono ?_; rintro e w' ⟨rfl, rfl⟩)
  have c0 := new_cell (w.alloc (Obj.cells #[] 58)) (Value.slice (some ⟨w.heap.size, 0, none⟩) 0 0) 22
  have c1 := new_cell ((w.alloc (Obj.cells #[] 58)).alloc (Obj.cells #[Value.slice (some ⟨w.heap.size, 0, none⟩) 0 0] 22)) (.string a0) 9
  simp only [World.size_alloc] at c0 c1
  have hB0 : Below w.heap.size w (((w.alloc (Obj.cells #[] 58)).alloc (Obj.cells #[Value.slice (some ⟨w.heap.size, 0, none⟩) 0 0] 22)).alloc (Obj.cells #[.string a0] 9)) := below_alloc (below_alloc (below_alloc (Below.refl _ _) _) _) _
  have hS0 : Kd.S RR 58 (((w.alloc (Obj.cells #[] 58)).alloc (Obj.cells #[Value.slice (some ⟨w.heap.size, 0, none⟩) 0 0] 22)).alloc (Obj.cells #[.string a0] 9)) w.heap.size (fun k => k ≠ w.heap.size + 1 ∧ k ≠ w.heap.size + 2) (.slice (some ⟨w.heap.size, 0, none⟩) 0 0) (([] : List ByteArray).map impl_ReadDots.row) :=
   Kd.S_alloc (Kd.S_alloc (Kd.S_mono (Kd.S_bare (lit0 (Kd.bare RR) 58 w)) (fun k hk => ⟨by omega, by omega⟩)) _) _
  have hI0 : impl_ReadDots.I w.heap.size (w.heap.size + 1) (w.heap.size + 2) w [] (((w.alloc (Obj.cells #[] 58)).alloc (Obj.cells #[Value.slice (some ⟨w.heap.size, 0, none⟩) 0 0] 22)).alloc (Obj.cells #[.string a0] 9)) :=
   ⟨_, (alloc_cell _ c0.1).1, (alloc_cell _ c0.1).2.trans c0.2, hS0, hB0, by simp⟩
  have hs3 : (((w.alloc (Obj.cells #[] 58)).alloc (Obj.cells #[Value.slice (some ⟨w.heap.size, 0, none⟩) 0 0] 22)).alloc (Obj.cells #[.string a0] 9)).heap.size = w.heap.size + 3 := by simp
  obtain ⟨W0, hW0⟩ : ∃ W0, ((w.alloc (Obj.cells #[] 58)).alloc (Obj.cells #[Value.slice (some ⟨w.heap.size, 0, none⟩) 0 0] 22)).alloc (Obj.cells #[.string a0] 9) = W0 := ⟨_, rfl⟩
  rw [hW0] at c1 hB0 hI0 hs3 ⊢
  refine range_box rfl (by decide) (gf := 67) (lb := #[.pointer (some ⟨w.heap.size + 2, 0, none⟩)]) rfl trivial (enters_of Try.func67 (by kernel_rfl) rfl) (encs := fun x : ByteArray => #[.string x]) (b := w.heap.size + 2) (by omega) (lines1_in 8 (by decide) (w.heap.size + 2) a0 W0 c1.1 c1.2 (by omega) (by omega)) (fun _ => rfl)
   (impl_ReadDots.I w.heap.size (w.heap.size + 1) (w.heap.size + 2) w) (fun _ _ _ => False) (impl_ReadDots.anew _ _ _ _ (Nat.le_refl _)) (impl_ReadDots.abox _ _ _ _ (by omega) (by omega)) (impl_ReadDots.aown _ _ _ _ _ (by omega)) (fun _ _ _ _ h _ => h) (fun _ _ _ _ _ _ h _ _ _ => h) hI0
   (fun x => { tmps := #[.string a0, undef, .slice none 0 0, .bool false, .pointer (some ⟨w.heap.size + 1, 0, none⟩), .string x, undef, undef, undef, undef, .slice (some ⟨w.heap.size, 0, none⟩) 0 0, .string a0, .func (.func 67) #[] #[.pointer (some ⟨w.heap.size + 2, 0, none⟩)], .string x, undef, undef, undef, undef, undef, undef, undef, undef, undef, undef, undef, undef, undef, undef, undef, undef, undef, undef, undef, undef, undef, undef, undef, undef, undef, undef, undef, undef, undef, undef, undef, undef, undef], defers := [] }) ?assign ?body ?done ?stop
  case assign =>
   intro l x W K hK
   gi_wp2
   exact hK
  case stop =>
   intro D c pre W _ _ h
   exact h.elim
  case done =>
   rintro D xs W hD rfl hI hK
   obtain ⟨v, hc4, hf4, hS, hB, hbL⟩ := hI
   obtain ⟨Av, cv, ev⟩ := Kd.S_slice hS
   subst ev
   have hww : w.heap.size ≤ W.heap.size := hB.size
   have hDl : D < W.heap.size := (Array.getElem?_eq_some_iff.1 hK).1
   have hdc := dt_calls (k := k) (s := impl_ReadDots.rows a0) Av cv W (Kd.S_reads' hS).2.2 (Kd.S_reads' hS).2.1 hdt
   have hn : ((blines a0).map impl_ReadDots.row).length = (impl_ReadDots.rows a0).length := rfl
   obtain ⟨z, hz⟩ : ∃ z, (impl_ReadDots.rows a0).length = z := ⟨_, rfl⟩
   rw [hn, hz] at hS hc4
   rw [hz] at hdc
   have hE : (t1.toList == a0.toList) = decide (t1 = a0) := by
    rw [ByteArray.toList_eq, ByteArray.toList_eq]
    by_cases e : t1 = a0
    ·simp [e]
    ·have : t1.data ≠ a0.data := fun h => e (ByteArray.ext h)
     simp [e, this]
   by_cases hg : t2 = true ∧ t1 = a0
   ·obtain ⟨rfl, ht⟩ := hg
    rw [decide_eq_true ht] at hE
    rw [if_pos ⟨rfl, ht⟩] at h
    obtain ⟨rfl, rfl⟩ := Prod.mk.inj (Option.some.inj h)
    gi_wp2_with (refine ⟨trivial, ?_⟩; gi_at_call 25; refine (callsIn_wide.2 hdc).mono ?_; rintro e w2 ⟨rfl, hb2⟩; have hc5 := (hb2.cell (p := ⟨w.heap.size + 1, 0, none⟩) (cell_lt hc4)).trans hc4; have hf5 := (hb2.frozen (p := ⟨w.heap.size + 1, 0, none⟩) (cell_lt hc4)).trans hf4; have hK2 := (hb2.block D hDl).trans hK; have hS2 := Kd.S_below hS hb2; have hB2 := below_step hB hb2)
    refine ⟨by simp, .inl ⟨_, _, rfl, run_takeDeferred hK2, ?_⟩⟩
    exact ⟨_, results_tmp2 rfl _ _ _, ⟨_, rfl, Kd.S_mono (S_put _ hS2 hK2 rfl) (fun _ _ => trivial), below_put _ hB2 (by omega)⟩⟩
   ·rw [if_neg hg] at h
    obtain ⟨rfl, rfl⟩ := Prod.mk.inj (Option.some.inj h)
    cases t2 with
    | false =>
     gi_wp2_with (refine ⟨trivial, ?_⟩; gi_at_call 25; refine (callsIn_wide.2 hdc).mono ?_; rintro e w2 ⟨rfl, hb2⟩; have hK2 := (hb2.block D hDl).trans hK; have hB2 := below_step hB hb2)
     refine ⟨by simp, .inl ⟨_, _, rfl, run_takeDeferred hK2, ?_⟩⟩
     exact ⟨_, results_tmp2 rfl _ _ _, ⟨_, rfl, Kd.S_nil _ _ _ _ _, below_put _ hB2 (by omega)⟩⟩
    | true =>
     have ht : t1 ≠ a0 := fun e => hg ⟨rfl, e⟩
     rw [decide_eq_false ht] at hE
     gi_wp2_with (refine ⟨trivial, ?_⟩; gi_at_call 25; refine (callsIn_wide.2 hdc).mono ?_; rintro e w2 ⟨rfl, hb2⟩; have hK2 := (hb2.block D hDl).trans hK; have hB2 := below_step hB hb2)
     refine ⟨by simp, .inl ⟨_, _, rfl, run_takeDeferred hK2, ?_⟩⟩
     exact ⟨_, results_tmp2 rfl _ _ _, ⟨_, rfl, Kd.S_nil _ _ _ _ _, below_put _ hB2 (by omega)⟩⟩
  case body =>
   rintro l pre x W hI hpre
   obtain ⟨v, hc4, hf4, hS, hB, hbL⟩ := hI
   have hxs : x.size ≤ 1048576 := Nat.le_trans (blines_size (hpre.subset (by simp))) hsz
   have hpl : pre.length ≤ 1048576 := by have h1 := hpre.length_le; have h2 := blines_count a0; simp at h1; omega
   have hR0 : Kd.R (Kd.int .i64) 2 (W.alloc (Obj.cells #[] 2)) W.heap.size (fun _ => True) (.slice (some ⟨W.heap.size, 0, none⟩) 0 0) ((x.data.toList.take 0).map fun b => if b = 35 then (1 : Int) else 0) := Kd.R_mono (lit0 (Kd.int .i64) 2 W) (fun _ _ => trivial)
   have hB1 : Below W.heap.size W (W.alloc (Obj.cells #[] 2)) := below_alloc (Below.refl _ _) _
   gi_wp2
   gi_loopw [6, 18] (fun v6 v18 wr => ∃ i : Nat, v18 = .int .i64 i ∧ i ≤ x.size - 1 ∧ Aside0 (Kd.R (Kd.int .i64) 2 wr W.heap.size (fun _ => True) v6 ((x.data.toList.take i).map fun b => if b = 35 then (1 : Int) else 0)) ∧ Aside0 (Below W.heap.size W wr))
    (fun _ v18 _ => x.size - (intOf v18).toNat)
   case atStart =>
    exact ⟨0, rfl, Nat.zero_le _, ⟨hR0⟩, ⟨hB1⟩⟩
   case round =>
    obtain ⟨i, rfl, hi, hR, hBW⟩ := hrel
    by_cases hlt : (i : Int) < (x.size : Int) - 1
    ·have hix : i < x.size := by omega
     have hd : decide ((i : Int) < (x.size : Int) - 1) = true := decide_eq_true hlt
     obtain ⟨bv, hbv⟩ : ∃ bv : Int, (if x[i] = 35 then (1 : Int) else 0) = bv := ⟨_, rfl⟩
     have hbit : impl_bit.f (((x[i].toNat : Nat) : Int) == 35) = some bv := by
      rw [← hbv]
      unfold impl_bit.f
      by_cases h35 : x[i] = 35
      ·rw [if_pos h35, h35]; rfl
      ·have hn : ¬ ((((x[i].toNat : Nat) : Int) == 35) = true) := by
        simp only [beq_iff_eq]
        intro e
        exact h35 (UInt8.toNat_inj.1 (by have : UInt8.toNat 35 = 35 := rfl; omega))
       rw [if_neg h35, if_neg hn]
     have hnx : (x.data.toList.take (i + 1)).map (fun b => if b = 35 then (1 : Int) else 0) = (x.data.toList.take i).map (fun b => if b = 35 then (1 : Int) else 0) ++ [bv] := by
      have hlen : i < x.data.toList.length := by simpa using hix
      rw [List.take_succ_eq_append_getElem hlen, List.map_append, ← hbv]
      rfl
     obtain ⟨y, hy⟩ : ∃ y : List Int, (x.data.toList.take i).map (fun b => if b = 35 then (1 : Int) else 0) = y := ⟨_, rfl⟩
     obtain ⟨y2, hy2⟩ : ∃ y : List Int, (x.data.toList.take (i + 1)).map (fun b => if b = 35 then (1 : Int) else 0) = y := ⟨_, rfl⟩
     rw [hy] at hnx hR
     rw [hy2] at hnx
     have hyl : y.length ≤ 1048576 := by rw [← hy]; simp; omega
     have hres := Aside0.mk hnx
     gi_wp2_with (first
      | (refine ⟨trivial, ?_⟩; gi_at_call 34; refine (CallsIn.inRound l (callsIn_wide.2 (impl_bit.calls _ bv _ hbit))).mono ?_; rintro e w' ⟨rfl, ⟨nd, rfl⟩⟩)
      | ((with_reducible refine gateB (b := .append) (xs := #[.tmp 21, .tmp 27]) rfl ?_); refine opIn rfl fun Kc hKc => ?_; refine Kd.R_append_step (Kd.int .i64) (w0 := W) W.heap.size rfl (.tmp 21) (.tmp 27) 58 2 (.int .i64 0) 8 rfl Try.underlying58 info2 rfl (by decide) (by omega) u6 y bv [.int .i64 bv] (fun _ => True) (fun _ => False) rfl rfl ?aP (fun _ hk => hk.elim) (fun _ _ => trivial) ?aO ?aB ?aS ?aL ?_; (case aP => exact rfl); (case aO => exact Kd.R_drewN hR.out nd); (case aB => exact pw_below_drewN hBW.out nd); (case aS => exact hBW.out.size); (case aL => omega); intro v1 w1 ho hb hg hat; refine hKc _ _ ?_; rw [← hres.out] at ho; clear hKc; have hR1 := Aside0.mk ho; have hB2 := Aside0.mk hb))
     go_roundw
     case rel => exact ⟨i + 1, by simp, by omega, ⟨by rw [hy2]; exact hR1.out⟩, hB2⟩
     case measure => first | omega | (simp [intOf]; omega)
    ·have hd : decide ((i : Int) < (x.size : Int) - 1) = false := decide_eq_false hlt
     have hcw : wr.cell? ⟨w.heap.size + 1, 0, none⟩ = some v := (hBW.out.cell (p := ⟨w.heap.size + 1, 0, none⟩) (cell_lt hc4)).trans hc4
     have hfw : wr.frozen? ⟨w.heap.size + 1, 0, none⟩ = false := (hBW.out.frozen (p := ⟨w.heap.size + 1, 0, none⟩) (cell_lt hc4)).trans hf4
     have hrow : (x.data.toList.take i).map (fun b => if b = 35 then (1 : Int) else 0) = impl_ReadDots.row x := by
      unfold impl_ReadDots.row
      rw [List.dropLast_eq_take]
      have : x.data.toList.length = x.size := by simp
      rw [this]
      congr 2
      omega
     rw [hrow] at hR
     have hb4 : w.heap.size + 1 < W.heap.size := cell_lt hc4
     have hwr : W.heap.size ≤ wr.heap.size := hBW.out.size
     have hww : w.heap.size ≤ W.heap.size := hB.size
     obtain ⟨Ar, cr, er⟩ := Kd.R_slice hR.out
     subst er
     have hko : ∀ k, some k = (Value.slice Ar (impl_ReadDots.row x).length cr).ownBlock → W.heap.size ≤ k := fun k hk => Kd.R_base hR.out k hk.symm
     have hvo : ∀ k, v.ownBlock = some k → k < W.heap.size := Kd.S_lt hS
     have hSw : Kd.S RR 58 wr w.heap.size (fun k => (k ≠ w.heap.size + 1 ∧ k ≠ w.heap.size + 2) ∧ ¬ some k = (Value.slice Ar (impl_ReadDots.row x).length cr).ownBlock) v (pre.map impl_ReadDots.row) :=
      Kd.S_mono (Kd.S_below (Kd.S_bound hS) hBW.out) (fun k hk => ⟨hk.1, fun e => by have := hko k e; have := hk.2.2.1; omega⟩)
     have hM : RR.M wr w.heap.size (fun k => some k = (Value.slice Ar (impl_ReadDots.row x).length cr).ownBlock) (impl_ReadDots.row x) [Value.slice Ar (impl_ReadDots.row x).length cr] :=
      Kd.M_row (Kd.R_mono (Kd.R_tight rfl (Kd.R_lower hR.out hww)) (fun _ h_ => h_))
     have hBw : Below w.heap.size w wr := below_step hB hBW.out
     have hpre' := Aside0.mk hpl
     obtain ⟨z, hz⟩ : ∃ z : Nat, (impl_ReadDots.row x).length = z := ⟨_, rfl⟩
     rw [hz] at hM hSw hko
     rw [hz]
     gi_wp2_with ((with_reducible refine gateB (b := .append) (xs := #[.tmp 30, .tmp 32]) rfl ?_); refine opIn rfl fun Kc hKc => ?_; refine Kd.S_append_step RR (w0 := w) w.heap.size rfl (.tmp 30) (.tmp 32) 22 58 (.slice none 0 0) 24 rfl Try.underlying22 info58 rfl (by decide) (by omega) v (pre.map impl_ReadDots.row) (impl_ReadDots.row x) [.slice Ar z cr] (fun k => k ≠ w.heap.size + 1 ∧ k ≠ w.heap.size + 2) (fun k => some k = (Value.slice Ar z cr).ownBlock) rfl rfl hM ?aK ?aF hSw hBw ?aS ?aL ?_; (case aK => exact fun k hk => ⟨⟨by have := hko k hk; omega, by have := hko k hk; omega⟩, fun e => by have := hko k hk; have := hvo k e.symm; omega⟩); (case aF => exact fun k hk => ⟨by omega, by omega⟩); (case aS => omega); (case aL => have := hpre'.out; simp only [List.length_map]; omega); intro v1 w1 ho hb hg hat; refine hKc _ _ ?_; clear hKc; obtain ⟨A1, k1, e1⟩ := Kd.S_slice ho; subst e1; have hcw1 : w1.cell? ⟨w.heap.size + 1, 0, none⟩ = some v := (World.cell?_of_block (hg.block (w.heap.size + 1) (by omega) (Kd.S_away hSw fun k hk => hk.1.1))).trans hcw; have hfw1 : w1.frozen? ⟨w.heap.size + 1, 0, none⟩ = false := (World.frozen?_of_block (hg.block (w.heap.size + 1) (by omega) (Kd.S_away hSw fun k hk => hk.1.1))).trans hfw)
     have hk1 : KeepsOthers W wr := ⟨hwr, fun k o hk _ => (hBW.out.block k (Array.getElem?_eq_some_iff.1 hk).1).trans hk⟩
     have hk2 : KeepsOthers wr w1 := KeepsOthers.of_grownBy hg (fun j o hj ho_ => by obtain ⟨cs, hcs⟩ := Kd.S_typed hSw j hj; rw [hcs] at ho_; cases ho_; rfl)
     have hb2 : Kbox (w.heap.size + 2) W (w1.setCell ⟨w.heap.size + 1, 0, none⟩ (.slice A1 (pre.length + 1) k1)) := by
      intro u hu
      have e1 : w1.heap[w.heap.size + 2]? = W.heap[w.heap.size + 2]? := (hg.block _ (by omega) (Kd.S_away hSw fun k hk => hk.1.2)).trans (hBW.out.block _ (by omega))
      exact ⟨(World.cell?_setCell_far _ _ _ _ (by simp)).trans ((World.cell?_of_block e1).trans hu), by rw [World.frozen?_setCell]; exact World.frozen?_of_block e1⟩
     refine ⟨(hk1.trans hk2).trans (KeepsOthers.setCell _ _ _), hb2, ⟨_, World.cell?_setCell_same' _ _ _ (by rw [hcw1]; rfl), by rw [World.frozen?_setCell]; exact hfw1, ?_, hb.setCell (by simp) _, ?_⟩⟩
     ·have hl1 : (List.map impl_ReadDots.row pre ++ [impl_ReadDots.row x]).length = pre.length + 1 := by simp
      rw [hl1] at ho
      rw [List.map_append]
      exact Kd.S_far (p := ⟨w.heap.size + 1, 0, none⟩) ho (fun k hk => hk.1) _
     ·have := hg.size
      simp
      omega
 ·rw [if_neg hsz] at h
  cases h
end Go.Proofs.Ytpdkknfooblplaa.Q
namespace Go.Proofs.Ytpdkknfooblplaa.Q
open Go.RowKit Go.Proofs.YtpdkknfooblplaaW.PrintWords Go.Proofs.YtpdkknfooblplaaW.PrintLast Go.Proofs.YtpdkknfooblplaaW.PrintMore
attribute [local go_sem] max2_int min2_int max_two min_two max_three min_three max_four min_four   -- for this text's walks alone
set_option linter.unusedVariables false
set_option linter.unusedSimpArgs false
mutual
def laws_FnDiffused.j0 : Nat → Bool → Bool → List (List Int) → Int → List (S79) → Option (Bool)
 | 0, _, _, _, _, _ => none
 | k + 1, x7, x85, x483000, x488000, x488001 => if x85 = true then (some false) else ((impl_KernelOf.f 2).bind fun bt503 => ((impl_DiffuseDither.f k x483000 bt503.1 bt503.2.1 x7).bind fun bt509 => (if bt503.2.2 = true then (if bt509.2.2 = true then (laws_FnDiffused.j1 k bt509.1 bt509.2.1 ((bt509.1.length : Int) != (x483000.length : Int)) x483000 x488000 x488001) else (laws_FnDiffused.j1 k bt509.1 bt509.2.1 true x483000 x488000 x488001)) else (laws_FnDiffused.j1 k bt509.1 bt509.2.1 true x483000 x488000 x488001))))
def laws_FnDiffused.j1 : Nat → List (List Int) → Int → Bool → List (List Int) → Int → List (S79) → Option (Bool)
 | 0, _, _, _, _, _, _ => none
 | k + 1, x17, x18, x111, x483000, x488000, x488001 => if x111 = true then (some false) else (laws_FnDiffused.l0 k x17 x18 0 0 x483000 x488000 x488001)
def laws_FnDiffused.l0 : Nat → List (List Int) → Int → Int → Int → List (List Int) → Int → List (S79) → Option (Bool)
 | 0, _, _, _, _, _, _, _ => none
 | k + 1, x17, x18, x20, x21, x483000, x488000, x488001 => if x21 < (x17.length : Int) then (if 0 ≤ x21 then (if x21 < (x483000.length : Int) then (if ((rd_L1 x17 x21).length : Int) = ((rd_L1 x483000 x21).length : Int) then ((laws_b10Sum.f k (rd_L1 x483000 x21)).bind fun t518 => ((laws_b10Sum.f k (rd_L1 x17 x21)).bind fun t520 => ((laws_b10Abs.f (wrap64 (t518 - (wrap64 (255 * t520))))).bind fun t521 => (if (wrap64 (2 * t521)) > 256 then (some false) else (laws_FnDiffused.l0 k x17 x18 (wrap64 (x20 + (wrap64 (t518 - (wrap64 (255 * t520)))))) (wrap64 (x21 + 1)) x483000 x488000 x488001))))) else (some false)) else (none)) else (none)) else (if x20 = x18 then ((impl_ValidKernel.f k x488000 x488001).bind fun t514 => (some t514)) else (some false))
end
def laws_FnDiffused.f (k : Nat) (l0 : List Int) (l1 : List Int) : Option (Bool) := (laws_b10Long.f l0 l1).bind fun t478 => (if t478 = true then (some true) else ((spec_B10Picture.f k l0).bind fun t479 => ((spec_B10Kernel.f k l1).bind fun bt483 => ((laws_b10At.f l1 0 2).bind fun t488 => ((impl_DiffuseDither.f k t479 bt483.1 bt483.2 (t488 == 1)).bind fun bt489 => ((impl_DotsText.f k bt489.1).bind fun bt494 => ((impl_ReadDots.f k bt494.1).bind fun bt496 => (if bt489.2.2 = true then (if bt494.2 = true then (if bt496.2 = true then ((laws_b10Tables.f k bt496.1 bt489.1).bind fun t500 => (if t500 = true then (if (bt489.1.length : Int) = (t479.length : Int) then ((laws_b10All.f k t479).bind fun t501 => ((laws_b10All.f k bt489.1).bind fun t502 => (laws_FnDiffused.j0 k (t488 == 1) (t501 != (wrap64 ((wrap64 (255 * t502)) + bt489.2.1))) t479 bt483.1 bt483.2))) else (laws_FnDiffused.j0 k (t488 == 1) true t479 bt483.1 bt483.2)) else (laws_FnDiffused.j0 k (t488 == 1) true t479 bt483.1 bt483.2))) else (laws_FnDiffused.j0 k (t488 == 1) true t479 bt483.1 bt483.2)) else (laws_FnDiffused.j0 k (t488 == 1) true t479 bt483.1 bt483.2)) else (laws_FnDiffused.j0 k (t488 == 1) true t479 bt483.1 bt483.2)))))))))
theorem laws_FnDiffused.mono_l : ∀ k, (∀ y0 y1 y2 y3 y4, LeO (laws_FnDiffused.j0 k y0 y1 y2 y3 y4) (laws_FnDiffused.j0 (k + 1) y0 y1 y2 y3 y4)) ∧ (∀ y0 y1 y2 y3 y4 y5, LeO (laws_FnDiffused.j1 k y0 y1 y2 y3 y4 y5) (laws_FnDiffused.j1 (k + 1) y0 y1 y2 y3 y4 y5)) ∧ (∀ y0 y1 y2 y3 y4 y5 y6, LeO (laws_FnDiffused.l0 k y0 y1 y2 y3 y4 y5 y6) (laws_FnDiffused.l0 (k + 1) y0 y1 y2 y3 y4 y5 y6))
 | 0 => ⟨fun _ _ _ _ _ r h => by simp [laws_FnDiffused.j0] at h, fun _ _ _ _ _ _ r h => by simp [laws_FnDiffused.j1] at h, fun _ _ _ _ _ _ _ r h => by simp [laws_FnDiffused.l0] at h⟩
 | k + 1 => by
  obtain ⟨ih0, ih1, ih2⟩ := laws_FnDiffused.mono_l k
  refine ⟨?_, ?_, ?_⟩
  ·intro y0 y1 y2 y3 y4
   unfold laws_FnDiffused.j0
   repeat' first
   | (with_reducible exact ih0 _ _ _ _ _)
   | (with_reducible exact ih1 _ _ _ _ _ _)
   | (with_reducible exact ih2 _ _ _ _ _ _ _)
   | (with_reducible exact impl_DiffuseDither.mono _ _ _ _ _)
   | (with_reducible exact impl_DotsText.mono _ _)
   | (with_reducible exact impl_ReadDots.mono _ _)
   | (with_reducible exact impl_ValidKernel.mono _ _ _)
   | (with_reducible exact laws_b10All.mono _ _)
   | (with_reducible exact laws_b10Sum.mono _ _)
   | (with_reducible exact laws_b10Tables.mono _ _ _)
   | (with_reducible exact spec_B10Kernel.mono _ _)
   | (with_reducible exact spec_B10Picture.mono _ _)
   | (with_reducible exact LeO.refl _)
   | (with_reducible exact LeO.none _)
   | (with_reducible refine LeO.ite ?_ ?_)
   | (with_reducible refine LeO.bind ?_ (fun _ => ?_))
   | exact ih0 _ _ _ _ _
   | exact ih1 _ _ _ _ _ _
   | exact ih2 _ _ _ _ _ _ _
   | exact impl_DiffuseDither.mono _ _ _ _ _
   | exact impl_DotsText.mono _ _
   | exact impl_ReadDots.mono _ _
   | exact impl_ValidKernel.mono _ _ _
   | exact laws_b10All.mono _ _
   | exact laws_b10Sum.mono _ _
   | exact laws_b10Tables.mono _ _ _
   | exact spec_B10Kernel.mono _ _
   | exact spec_B10Picture.mono _ _
   | exact LeO.none _
   | refine LeO.ite ?_ ?_
   | refine LeO.bind ?_ (fun _ => ?_)
  ·intro y0 y1 y2 y3 y4 y5
   unfold laws_FnDiffused.j1
   repeat' first
   | (with_reducible exact ih0 _ _ _ _ _)
   | (with_reducible exact ih1 _ _ _ _ _ _)
   | (with_reducible exact ih2 _ _ _ _ _ _ _)
   | (with_reducible exact impl_DiffuseDither.mono _ _ _ _ _)
   | (with_reducible exact impl_DotsText.mono _ _)
   | (with_reducible exact impl_ReadDots.mono _ _)
   | (with_reducible exact impl_ValidKernel.mono _ _ _)
   | (with_reducible exact laws_b10All.mono _ _)
   | (with_reducible exact laws_b10Sum.mono _ _)
   | (with_reducible exact laws_b10Tables.mono _ _ _)
   | (with_reducible exact spec_B10Kernel.mono _ _)
   | (with_reducible exact spec_B10Picture.mono _ _)
   | (with_reducible exact LeO.refl _)
   | (with_reducible exact LeO.none _)
   | (with_reducible refine LeO.ite ?_ ?_)
   | (with_reducible refine LeO.bind ?_ (fun _ => ?_))
   | exact ih0 _ _ _ _ _
   | exact ih1 _ _ _ _ _ _
   | exact ih2 _ _ _ _ _ _ _
   | exact impl_DiffuseDither.mono _ _ _ _ _
   | exact impl_DotsText.mono _ _
   | exact impl_ReadDots.mono _ _
   | exact impl_ValidKernel.mono _ _ _
   | exact laws_b10All.mono _ _
   | exact laws_b10Sum.mono _ _
   | exact laws_b10Tables.mono _ _ _
   | exact spec_B10Kernel.mono _ _
   | exact spec_B10Picture.mono _ _
   | exact LeO.none _
   | refine LeO.ite ?_ ?_
   | refine LeO.bind ?_ (fun _ => ?_)
  ·intro y0 y1 y2 y3 y4 y5 y6
   unfold laws_FnDiffused.l0
   repeat' first
   | (with_reducible exact ih0 _ _ _ _ _)
   | (with_reducible exact ih1 _ _ _ _ _ _)
   | (with_reducible exact ih2 _ _ _ _ _ _ _)
   | (with_reducible exact impl_DiffuseDither.mono _ _ _ _ _)
   | (with_reducible exact impl_DotsText.mono _ _)
   | (with_reducible exact impl_ReadDots.mono _ _)
   | (with_reducible exact impl_ValidKernel.mono _ _ _)
   | (with_reducible exact laws_b10All.mono _ _)
   | (with_reducible exact laws_b10Sum.mono _ _)
   | (with_reducible exact laws_b10Tables.mono _ _ _)
   | (with_reducible exact spec_B10Kernel.mono _ _)
   | (with_reducible exact spec_B10Picture.mono _ _)
   | (with_reducible exact LeO.refl _)
   | (with_reducible exact LeO.none _)
   | (with_reducible refine LeO.ite ?_ ?_)
   | (with_reducible refine LeO.bind ?_ (fun _ => ?_))
   | exact ih0 _ _ _ _ _
   | exact ih1 _ _ _ _ _ _
   | exact ih2 _ _ _ _ _ _ _
   | exact impl_DiffuseDither.mono _ _ _ _ _
   | exact impl_DotsText.mono _ _
   | exact impl_ReadDots.mono _ _
   | exact impl_ValidKernel.mono _ _ _
   | exact laws_b10All.mono _ _
   | exact laws_b10Sum.mono _ _
   | exact laws_b10Tables.mono _ _ _
   | exact spec_B10Kernel.mono _ _
   | exact spec_B10Picture.mono _ _
   | exact LeO.none _
   | refine LeO.ite ?_ ?_
   | refine LeO.bind ?_ (fun _ => ?_)
theorem laws_FnDiffused.mono : ∀ a0 a1 k, LeO (laws_FnDiffused.f k a0 a1) (laws_FnDiffused.f (k + 1) a0 a1) := by
 intro a0 a1 k
 obtain ⟨ih0, ih1, ih2⟩ := laws_FnDiffused.mono_l k
 unfold laws_FnDiffused.f
 repeat' first
   | (with_reducible exact ih0 _ _ _ _ _)
   | (with_reducible exact ih1 _ _ _ _ _ _)
   | (with_reducible exact ih2 _ _ _ _ _ _ _)
   | (with_reducible exact impl_DiffuseDither.mono _ _ _ _ _)
   | (with_reducible exact impl_DotsText.mono _ _)
   | (with_reducible exact impl_ReadDots.mono _ _)
   | (with_reducible exact impl_ValidKernel.mono _ _ _)
   | (with_reducible exact laws_b10All.mono _ _)
   | (with_reducible exact laws_b10Sum.mono _ _)
   | (with_reducible exact laws_b10Tables.mono _ _ _)
   | (with_reducible exact spec_B10Kernel.mono _ _)
   | (with_reducible exact spec_B10Picture.mono _ _)
   | (with_reducible exact LeO.refl _)
   | (with_reducible exact LeO.none _)
   | (with_reducible refine LeO.ite ?_ ?_)
   | (with_reducible refine LeO.bind ?_ (fun _ => ?_))
   | exact ih0 _ _ _ _ _
   | exact ih1 _ _ _ _ _ _
   | exact ih2 _ _ _ _ _ _ _
   | exact impl_DiffuseDither.mono _ _ _ _ _
   | exact impl_DotsText.mono _ _
   | exact impl_ReadDots.mono _ _
   | exact impl_ValidKernel.mono _ _ _
   | exact laws_b10All.mono _ _
   | exact laws_b10Sum.mono _ _
   | exact laws_b10Tables.mono _ _ _
   | exact spec_B10Kernel.mono _ _
   | exact spec_B10Picture.mono _ _
   | exact LeO.none _
   | refine LeO.ite ?_ ?_
   | refine LeO.bind ?_ (fun _ => ?_)
set_option maxHeartbeats 8000000 in
theorem laws_FnDiffused.j0_no : ∀ (k : Nat) x0_ x2_ x3_ x4_, laws_FnDiffused.j0 k x0_ true x2_ x3_ x4_ ≠ some true := by
 intro k
 cases k <;> intros <;> simp [laws_FnDiffused.j0]
theorem laws_FnDiffused.j1_no : ∀ (k : Nat) x0_ x1_ x3_ x4_ x5_, laws_FnDiffused.j1 k x0_ x1_ true x3_ x4_ x5_ ≠ some true := by
 intro k
 cases k <;> intros <;> simp [laws_FnDiffused.j1]
set_option maxRecDepth 100000 in
theorem laws_FnDiffused.calls (k : Nat) (A0 : Option Addr) (c0 : Nat) (l0 : List Int) (A1 : Option Addr) (c1 : Nat) (l1 : List Int) (r : Bool) (hr_ : r = true) (w : World) (hr0 : Kd.C (Kd.int .u8) w A0 l0.length l0) (hc0 : l0.length ≤ c0) (hr1 : Kd.C (Kd.int .u8) w A1 l1.length l1) (hc1 : l1.length ≤ c1) (h : laws_FnDiffused.f k l0 l1 = some r) :
  Calls Try.prog 5 #[.slice A0 l0.length c0, .slice A1 l1.length c1] w fun e w' => e = .returned (.bool r) ∧ Below w.heap.size w w' := by
 have hu37 := Try.underlying37
 have hu41 := Try.underlying41
 have HR0 := Aside0.mk hr0
 have HC0 := Aside0.mk hc0
 clear hr0 hc0
 have HR1 := Aside0.mk hr1
 have HC1 := Aside0.mk hc1
 clear hr1 hc1
 have HB := Aside0.mk (Below.refl w.heap.size w)
 have H : ((laws_b10Long.f l0 l1).bind fun t478 => (if t478 = true then (some true) else ((spec_B10Picture.f k l0).bind fun t479 => ((spec_B10Kernel.f k l1).bind fun bt483 => ((laws_b10At.f l1 0 2).bind fun t488 => ((impl_DiffuseDither.f k t479 bt483.1 bt483.2 (t488 == 1)).bind fun bt489 => ((impl_DotsText.f k bt489.1).bind fun bt494 => ((impl_ReadDots.f k bt494.1).bind fun bt496 => (if bt489.2.2 = true then (if bt494.2 = true then (if bt496.2 = true then ((laws_b10Tables.f k bt496.1 bt489.1).bind fun t500 => (if t500 = true then (if (bt489.1.length : Int) = (t479.length : Int) then ((laws_b10All.f k t479).bind fun t501 => ((laws_b10All.f k bt489.1).bind fun t502 => (laws_FnDiffused.j0 k (t488 == 1) (t501 != (wrap64 ((wrap64 (255 * t502)) + bt489.2.1))) t479 bt483.1 bt483.2))) else (laws_FnDiffused.j0 k (t488 == 1) true t479 bt483.1 bt483.2)) else (laws_FnDiffused.j0 k (t488 == 1) true t479 bt483.1 bt483.2))) else (laws_FnDiffused.j0 k (t488 == 1) true t479 bt483.1 bt483.2)) else (laws_FnDiffused.j0 k (t488 == 1) true t479 bt483.1 bt483.2)) else (laws_FnDiffused.j0 k (t488 == 1) true t479 bt483.1 bt483.2)))))))))) = some r := h
 clear h
 replace H := Option.bind_eq_some_iff.mp H
 obtain ⟨t478, A30, H⟩ := H
 replace H : (if t478 = true then (some true) else ((spec_B10Picture.f k l0).bind fun t479 => ((spec_B10Kernel.f k l1).bind fun bt483 => ((laws_b10At.f l1 0 2).bind fun t488 => ((impl_DiffuseDither.f k t479 bt483.1 bt483.2 (t488 == 1)).bind fun bt489 => ((impl_DotsText.f k bt489.1).bind fun bt494 => ((impl_ReadDots.f k bt494.1).bind fun bt496 => (if bt489.2.2 = true then (if bt494.2 = true then (if bt496.2 = true then ((laws_b10Tables.f k bt496.1 bt489.1).bind fun t500 => (if t500 = true then (if (bt489.1.length : Int) = (t479.length : Int) then ((laws_b10All.f k t479).bind fun t501 => ((laws_b10All.f k bt489.1).bind fun t502 => (laws_FnDiffused.j0 k (t488 == 1) (t501 != (wrap64 ((wrap64 (255 * t502)) + bt489.2.1))) t479 bt483.1 bt483.2))) else (laws_FnDiffused.j0 k (t488 == 1) true t479 bt483.1 bt483.2)) else (laws_FnDiffused.j0 k (t488 == 1) true t479 bt483.1 bt483.2))) else (laws_FnDiffused.j0 k (t488 == 1) true t479 bt483.1 bt483.2)) else (laws_FnDiffused.j0 k (t488 == 1) true t479 bt483.1 bt483.2)) else (laws_FnDiffused.j0 k (t488 == 1) true t479 bt483.1 bt483.2))))))))) = some r := H
 have A3 := Aside0.mk A30
 clear A30
 by_cases c4 : t478 = true
 ·subst c4
  have H1 : (some true) = some r := by rw [if_pos rfl] at H; exact H
  clear H
  have H := H1
  clear H1
  obtain rfl := Option.some.inj H
  go_enter Try.func5, Try.ntmps5
  go_wp2_with (first | (go_at_call 21; (with_reducible refine (laws_b10Long.calls _ _ l0 _ _ l1 true _ ?side1 ?side2 ?side3 ?side4 A3.out).mono ?_); (case side1 => repeat (first | exact HR0.out | (with_reducible refine Kd.C_alloc ?_ _) | (with_reducible refine Kd.C_drewN ?_ _) | (with_reducible refine Kd.C_drew ?_))); (case side2 => exact HC0.out); (case side3 => repeat (first | exact HR1.out | (with_reducible refine Kd.C_alloc ?_ _) | (with_reducible refine Kd.C_drewN ?_ _) | (with_reducible refine Kd.C_drew ?_))); (case side4 => exact HC1.out); rintro e w' ⟨rfl, ⟨nd, rfl⟩⟩; (try first | exact ⟨rfl, _, World.drewN_drewN _ _ _⟩ | exact ⟨rfl, _, Eq.trans (World.drewN_drewN _ _ _) (congrArg (World.drewN _) (Nat.add_assoc _ _ _))⟩)))
  repeat (go_quiet (first | (go_at_call 21; (with_reducible refine (laws_b10Long.calls _ _ l0 _ _ l1 true _ ?side1 ?side2 ?side3 ?side4 A3.out).mono ?_); (case side1 => repeat (first | exact HR0.out | (with_reducible refine Kd.C_alloc ?_ _) | (with_reducible refine Kd.C_drewN ?_ _) | (with_reducible refine Kd.C_drew ?_))); (case side2 => exact HC0.out); (case side3 => repeat (first | exact HR1.out | (with_reducible refine Kd.C_alloc ?_ _) | (with_reducible refine Kd.C_drewN ?_ _) | (with_reducible refine Kd.C_drew ?_))); (case side4 => exact HC1.out); rintro e w' ⟨rfl, ⟨nd, rfl⟩⟩; (try first | exact ⟨rfl, _, World.drewN_drewN _ _ _⟩ | exact ⟨rfl, _, Eq.trans (World.drewN_drewN _ _ _) (congrArg (World.drewN _) (Nat.add_assoc _ _ _))⟩))); try go_wp2_with (first | (go_at_call 21; (with_reducible refine (laws_b10Long.calls _ _ l0 _ _ l1 true _ ?side1 ?side2 ?side3 ?side4 A3.out).mono ?_); (case side1 => repeat (first | exact HR0.out | (with_reducible refine Kd.C_alloc ?_ _) | (with_reducible refine Kd.C_drewN ?_ _) | (with_reducible refine Kd.C_drew ?_))); (case side2 => exact HC0.out); (case side3 => repeat (first | exact HR1.out | (with_reducible refine Kd.C_alloc ?_ _) | (with_reducible refine Kd.C_drewN ?_ _) | (with_reducible refine Kd.C_drew ?_))); (case side4 => exact HC1.out); rintro e w' ⟨rfl, ⟨nd, rfl⟩⟩; (try first | exact ⟨rfl, _, World.drewN_drewN _ _ _⟩ | exact ⟨rfl, _, Eq.trans (World.drewN_drewN _ _ _) (congrArg (World.drewN _) (Nat.add_assoc _ _ _))⟩))))
  go_ret
  exact ⟨by first | rfl | (simp [errW_none, errW_some] <;> rfl) | (simp [*, errW_none, errW_some] <;> rfl), bl_ HB⟩
 ·replace c4 := Bool.eq_false_iff.mpr c4
  subst c4
  have H1 : ((spec_B10Picture.f k l0).bind fun t479 => ((spec_B10Kernel.f k l1).bind fun bt483 => ((laws_b10At.f l1 0 2).bind fun t488 => ((impl_DiffuseDither.f k t479 bt483.1 bt483.2 (t488 == 1)).bind fun bt489 => ((impl_DotsText.f k bt489.1).bind fun bt494 => ((impl_ReadDots.f k bt494.1).bind fun bt496 => (if bt489.2.2 = true then (if bt494.2 = true then (if bt496.2 = true then ((laws_b10Tables.f k bt496.1 bt489.1).bind fun t500 => (if t500 = true then (if (bt489.1.length : Int) = (t479.length : Int) then ((laws_b10All.f k t479).bind fun t501 => ((laws_b10All.f k bt489.1).bind fun t502 => (laws_FnDiffused.j0 k (t488 == 1) (t501 != (wrap64 ((wrap64 (255 * t502)) + bt489.2.1))) t479 bt483.1 bt483.2))) else (laws_FnDiffused.j0 k (t488 == 1) true t479 bt483.1 bt483.2)) else (laws_FnDiffused.j0 k (t488 == 1) true t479 bt483.1 bt483.2))) else (laws_FnDiffused.j0 k (t488 == 1) true t479 bt483.1 bt483.2)) else (laws_FnDiffused.j0 k (t488 == 1) true t479 bt483.1 bt483.2)) else (laws_FnDiffused.j0 k (t488 == 1) true t479 bt483.1 bt483.2)))))))) = some r := by rw [if_neg (show ¬ (false = true) by decide)] at H; exact H
  clear H
  have H := H1
  clear H1
  replace H := Option.bind_eq_some_iff.mp H
  obtain ⟨t479, A50, H⟩ := H
  replace H : ((spec_B10Kernel.f k l1).bind fun bt483 => ((laws_b10At.f l1 0 2).bind fun t488 => ((impl_DiffuseDither.f k t479 bt483.1 bt483.2 (t488 == 1)).bind fun bt489 => ((impl_DotsText.f k bt489.1).bind fun bt494 => ((impl_ReadDots.f k bt494.1).bind fun bt496 => (if bt489.2.2 = true then (if bt494.2 = true then (if bt496.2 = true then ((laws_b10Tables.f k bt496.1 bt489.1).bind fun t500 => (if t500 = true then (if (bt489.1.length : Int) = (t479.length : Int) then ((laws_b10All.f k t479).bind fun t501 => ((laws_b10All.f k bt489.1).bind fun t502 => (laws_FnDiffused.j0 k (t488 == 1) (t501 != (wrap64 ((wrap64 (255 * t502)) + bt489.2.1))) t479 bt483.1 bt483.2))) else (laws_FnDiffused.j0 k (t488 == 1) true t479 bt483.1 bt483.2)) else (laws_FnDiffused.j0 k (t488 == 1) true t479 bt483.1 bt483.2))) else (laws_FnDiffused.j0 k (t488 == 1) true t479 bt483.1 bt483.2)) else (laws_FnDiffused.j0 k (t488 == 1) true t479 bt483.1 bt483.2)) else (laws_FnDiffused.j0 k (t488 == 1) true t479 bt483.1 bt483.2))))))) = some r := H
  have A5 := Aside0.mk A50
  clear A50
  replace H := Option.bind_eq_some_iff.mp H
  obtain ⟨⟨t483, t484⟩, A60, H⟩ := H
  replace H : ((laws_b10At.f l1 0 2).bind fun t488 => ((impl_DiffuseDither.f k t479 t483 t484 (t488 == 1)).bind fun bt489 => ((impl_DotsText.f k bt489.1).bind fun bt494 => ((impl_ReadDots.f k bt494.1).bind fun bt496 => (if bt489.2.2 = true then (if bt494.2 = true then (if bt496.2 = true then ((laws_b10Tables.f k bt496.1 bt489.1).bind fun t500 => (if t500 = true then (if (bt489.1.length : Int) = (t479.length : Int) then ((laws_b10All.f k t479).bind fun t501 => ((laws_b10All.f k bt489.1).bind fun t502 => (laws_FnDiffused.j0 k (t488 == 1) (t501 != (wrap64 ((wrap64 (255 * t502)) + bt489.2.1))) t479 t483 t484))) else (laws_FnDiffused.j0 k (t488 == 1) true t479 t483 t484)) else (laws_FnDiffused.j0 k (t488 == 1) true t479 t483 t484))) else (laws_FnDiffused.j0 k (t488 == 1) true t479 t483 t484)) else (laws_FnDiffused.j0 k (t488 == 1) true t479 t483 t484)) else (laws_FnDiffused.j0 k (t488 == 1) true t479 t483 t484)))))) = some r := H
  have A6 := Aside0.mk A60
  clear A60
  replace H := Option.bind_eq_some_iff.mp H
  obtain ⟨t488, A70, H⟩ := H
  replace H : ((impl_DiffuseDither.f k t479 t483 t484 (t488 == 1)).bind fun bt489 => ((impl_DotsText.f k bt489.1).bind fun bt494 => ((impl_ReadDots.f k bt494.1).bind fun bt496 => (if bt489.2.2 = true then (if bt494.2 = true then (if bt496.2 = true then ((laws_b10Tables.f k bt496.1 bt489.1).bind fun t500 => (if t500 = true then (if (bt489.1.length : Int) = (t479.length : Int) then ((laws_b10All.f k t479).bind fun t501 => ((laws_b10All.f k bt489.1).bind fun t502 => (laws_FnDiffused.j0 k (t488 == 1) (t501 != (wrap64 ((wrap64 (255 * t502)) + bt489.2.1))) t479 t483 t484))) else (laws_FnDiffused.j0 k (t488 == 1) true t479 t483 t484)) else (laws_FnDiffused.j0 k (t488 == 1) true t479 t483 t484))) else (laws_FnDiffused.j0 k (t488 == 1) true t479 t483 t484)) else (laws_FnDiffused.j0 k (t488 == 1) true t479 t483 t484)) else (laws_FnDiffused.j0 k (t488 == 1) true t479 t483 t484))))) = some r := H
  have A7 := Aside0.mk A70
  clear A70
  replace H := Option.bind_eq_some_iff.mp H
  obtain ⟨⟨t489, t492, t493⟩, A80, H⟩ := H
  replace H : ((impl_DotsText.f k t489).bind fun bt494 => ((impl_ReadDots.f k bt494.1).bind fun bt496 => (if t493 = true then (if bt494.2 = true then (if bt496.2 = true then ((laws_b10Tables.f k bt496.1 t489).bind fun t500 => (if t500 = true then (if (t489.length : Int) = (t479.length : Int) then ((laws_b10All.f k t479).bind fun t501 => ((laws_b10All.f k t489).bind fun t502 => (laws_FnDiffused.j0 k (t488 == 1) (t501 != (wrap64 ((wrap64 (255 * t502)) + t492))) t479 t483 t484))) else (laws_FnDiffused.j0 k (t488 == 1) true t479 t483 t484)) else (laws_FnDiffused.j0 k (t488 == 1) true t479 t483 t484))) else (laws_FnDiffused.j0 k (t488 == 1) true t479 t483 t484)) else (laws_FnDiffused.j0 k (t488 == 1) true t479 t483 t484)) else (laws_FnDiffused.j0 k (t488 == 1) true t479 t483 t484)))) = some r := H
  have A8 := Aside0.mk A80
  clear A80
  replace H := Option.bind_eq_some_iff.mp H
  obtain ⟨⟨t494, t495⟩, A90, H⟩ := H
  replace H : ((impl_ReadDots.f k t494).bind fun bt496 => (if t493 = true then (if t495 = true then (if bt496.2 = true then ((laws_b10Tables.f k bt496.1 t489).bind fun t500 => (if t500 = true then (if (t489.length : Int) = (t479.length : Int) then ((laws_b10All.f k t479).bind fun t501 => ((laws_b10All.f k t489).bind fun t502 => (laws_FnDiffused.j0 k (t488 == 1) (t501 != (wrap64 ((wrap64 (255 * t502)) + t492))) t479 t483 t484))) else (laws_FnDiffused.j0 k (t488 == 1) true t479 t483 t484)) else (laws_FnDiffused.j0 k (t488 == 1) true t479 t483 t484))) else (laws_FnDiffused.j0 k (t488 == 1) true t479 t483 t484)) else (laws_FnDiffused.j0 k (t488 == 1) true t479 t483 t484)) else (laws_FnDiffused.j0 k (t488 == 1) true t479 t483 t484))) = some r := H
  have A9 := Aside0.mk A90
  clear A90
  replace H := Option.bind_eq_some_iff.mp H
  obtain ⟨⟨t496, t497⟩, A100, H⟩ := H
  replace H : (if t493 = true then (if t495 = true then (if t497 = true then ((laws_b10Tables.f k t496 t489).bind fun t500 => (if t500 = true then (if (t489.length : Int) = (t479.length : Int) then ((laws_b10All.f k t479).bind fun t501 => ((laws_b10All.f k t489).bind fun t502 => (laws_FnDiffused.j0 k (t488 == 1) (t501 != (wrap64 ((wrap64 (255 * t502)) + t492))) t479 t483 t484))) else (laws_FnDiffused.j0 k (t488 == 1) true t479 t483 t484)) else (laws_FnDiffused.j0 k (t488 == 1) true t479 t483 t484))) else (laws_FnDiffused.j0 k (t488 == 1) true t479 t483 t484)) else (laws_FnDiffused.j0 k (t488 == 1) true t479 t483 t484)) else (laws_FnDiffused.j0 k (t488 == 1) true t479 t483 t484)) = some r := H
  have A10 := Aside0.mk A100
  clear A100
  have HC11 := Aside0.mk H
  clear H
  go_enter Try.func5, Try.ntmps5
  go_upto_region 9 with (first | (go_at_call 21; (with_reducible refine (laws_b10Long.calls _ _ l0 _ _ l1 false _ ?side1 ?side2 ?side3 ?side4 A3.out).mono ?_); (case side1 => repeat (first | exact HR0.out | (with_reducible refine Kd.C_alloc ?_ _) | (with_reducible refine Kd.C_drewN ?_ _) | (with_reducible refine Kd.C_drew ?_))); (case side2 => exact HC0.out); (case side3 => repeat (first | exact HR1.out | (with_reducible refine Kd.C_alloc ?_ _) | (with_reducible refine Kd.C_drewN ?_ _) | (with_reducible refine Kd.C_drew ?_))); (case side4 => exact HC1.out); rintro e w' ⟨rfl, ⟨nd, rfl⟩⟩; (try first | exact ⟨rfl, _, World.drewN_drewN _ _ _⟩ | exact ⟨rfl, _, Eq.trans (World.drewN_drewN _ _ _) (congrArg (World.drewN _) (Nat.add_assoc _ _ _))⟩)) | (go_at_call 22; (with_reducible refine (spec_B10Picture.calls k _ _ l0 t479 _ ?side1 ?side2 A5.out).mono ?_); (case side1 => repeat (first | exact HR0.out | (with_reducible refine Kd.C_alloc ?_ _) | (with_reducible refine Kd.C_drewN ?_ _) | (with_reducible refine Kd.C_drew ?_))); (case side2 => exact HC0.out); rintro e w12 ⟨v480, rfl, ho0, hb⟩; have n0_ := Aside0.mk (Kd.S_lower ho0 (below_size (bl_ HB))); have n1_ := Aside0.mk (below_step (bl_ HB) hb); clear HB; have HO481 := n0_; have HB := n1_; clear n0_ n1_; (try clear hb); (try clear hb2); (try clear hk); (try clear hi); (try clear ho0)) | ((with_reducible refine gate_dst (N := 5) rfl ?_); (try (refine gate_guard (by rfl) ?_; dsimp only)); refine box_event ?hg (N := 5) ?hd (cs := #[.slice none 0 0]) (t := 37) ?hr ?_; (case hd => rfl); (case hg => rfl); (case hr => first | (go_simp; done) | (go_simp; rfl)); intro gb482 hg w13 hbox hb; have n0_ := Aside0.mk (Kd.S_below (ss_ HO481) hb); have n1_ := Aside0.mk (below_step (bl_ HB) hb); have n2_ := Aside0.mk (hbox); have n3_ := Aside0.mk ((by rw [hg]; exact (below_size (bl_ HB)) : w.heap.size ≤ gb482)); have n4_ := Aside0.mk ((by rw [hg]; exact (below_size (bl_ HB)) : w.heap.size ≤ gb482)); clear HO481; clear HB; have HO481 := n0_; have HB := n1_; have BK482 := n2_; have GW482 := n3_; have GE482 := n4_; clear n0_ n1_ n2_ n3_ n4_; clear hb hbox hg; obtain ⟨Ao14, co14, eo14⟩ := Kd.S_slice HO481.out; subst eo14; have hcz15_0 : w13.cell? ⟨gb482, 0, none⟩ = some (.slice none 0 0) := (blk_cell BK482.out 0).trans rfl; have hfz15_0 := blk_frozen BK482.out 0) | (go_at_call 23; (with_reducible refine (spec_B10Kernel.calls k _ _ l1 t483 t484 _ ?side1 ?side2 A6.out).mono ?_); (case side1 => exact Kd.C_below HR1.out (bl_ HB)); (case side2 => exact HC1.out); rintro e w16 ⟨v485, rfl, ho0, hb⟩; have n0_ := Aside0.mk (Kd.S_below (by (with_reducible repeat (first | apply Kd.S_alloc | apply Kd.S_drewN | apply Kd.S_drew)); exact (Kd.S_mono (Kd.S_far (p := ⟨gb482, 0, none⟩) (Kd.S_types HO481.out BK482.out (by decide)) (fun _ hk => hk.2) (.slice Ao14 t479.length co14)) (fun _ h_ => h_.1))) hb); have n1_ := Aside0.mk (Kd.R_lower ho0 (below_size (bl_ HB))); have n2_ := Aside0.mk (blk_below (g := gb482) (o := .cells #[.slice Ao14 t479.length co14] 37 (0, 0)) (by (with_reducible repeat (first | refine blk_drewN ?_ _ | refine blk_drew ?_ | refine blk_alloc ?_ _)); refine blk_put (cs := #[.slice none 0 0]) ?_ 0 _ rfl; (with_reducible repeat (first | refine blk_drewN ?_ _ | refine blk_drew ?_ | refine blk_alloc ?_ _)); exact BK482.out) hb); have n3_ := Aside0.mk (below_step (bl_ HB) hb); clear HO481; clear BK482; clear HB; have HO481 := n0_; have HO486 := n1_; have BK482 := n2_; have HB := n3_; clear n0_ n1_ n2_ n3_; (try clear hb); (try clear hb2); (try clear hk); (try clear hi); (try clear ho0)) | ((with_reducible refine gate_dst (N := 6) rfl ?_); (try (refine gate_guard (by rfl) ?_; dsimp only)); refine box_event ?hg (N := 6) ?hd (cs := #[.int .i64 0, .slice none 0 0]) (t := 41) ?hr ?_; (case hd => rfl); (case hg => rfl); (case hr => first | (go_simp; done) | (go_simp; rfl)); intro gb487 hg w17 hbox hb; have n0_ := Aside0.mk (Kd.S_below (ss_ HO481) hb); have n1_ := Aside0.mk (Kd.R_below (rr_ HO486) hb); have n2_ := Aside0.mk (blk_below (g := gb482) (o := .cells #[.slice Ao14 t479.length co14] 37 (0, 0)) (bk_ BK482) hb); have n3_ := Aside0.mk (below_step (bl_ HB) hb); have n4_ := Aside0.mk (hbox); have n5_ := Aside0.mk ((by rw [hg]; exact (below_size (bl_ HB)) : w.heap.size ≤ gb487)); have n6_ := Aside0.mk ((by rw [hg]; exact (below_size (bl_ HB)) : w.heap.size ≤ gb487)); have n7_ := Aside0.mk ((by rw [hg]; exact Nat.ne_of_lt (blk_lt (g := gb482) (o := .cells #[.slice Ao14 t479.length co14] 37 (0, 0)) (bk_ BK482)) : gb482 ≠ gb487)); have n8_ := Aside0.mk ((by rw [hg]; exact Nat.ne_of_gt (blk_lt (g := gb482) (o := .cells #[.slice Ao14 t479.length co14] 37 (0, 0)) (bk_ BK482)) : gb487 ≠ gb482)); clear HO481; clear HO486; clear BK482; clear HB; have HO481 := n0_; have HO486 := n1_; have BK482 := n2_; have HB := n3_; have BK487 := n4_; have GW487 := n5_; have GE487 := n6_; have NB482_487 := n7_; have NB487_482 := n8_; clear n0_ n1_ n2_ n3_ n4_ n5_ n6_ n7_ n8_; clear hb hbox hg; have hnb18 := NB487_482.out; have hnc18 := NB482_487.out; have hcz19_0 : w17.cell? ⟨gb487, 0, none⟩ = some (.int .i64 0) := (blk_cell BK487.out 0).trans rfl; have hcz19_1 : w17.cell? ⟨gb487, 1, none⟩ = some (.slice none 0 0) := (blk_cell BK487.out 1).trans rfl; have hfz19_0 := blk_frozen BK487.out 0; have hfz19_1 := blk_frozen BK487.out 1; obtain ⟨Ao20, co20, eo20⟩ := Kd.R_slice HO486.out; subst eo20) | (go_at_call 24; (with_reducible refine (laws_b10At.calls _ _ l1 0 2 t488 _ ?side1 ?side2 A7.out).mono ?_); (case side1 => exact Kd.C_below HR1.out (bl_ HB)); (case side2 => exact HC1.out); rintro e w' ⟨rfl, ⟨nd, rfl⟩⟩; (try first | exact ⟨rfl, _, World.drewN_drewN _ _ _⟩ | exact ⟨rfl, _, Eq.trans (World.drewN_drewN _ _ _) (congrArg (World.drewN _) (Nat.add_assoc _ _ _))⟩); have hcz21_0 : w17.cell? ⟨gb482, 0, none⟩ = some (.slice Ao14 t479.length co14) := (blk_cell BK482.out 0).trans rfl; have hfz21_0 := blk_frozen BK482.out 0) | (go_at_call 16; (with_reducible refine (impl_DiffuseDither.calls k _ _ t479 t483 _ _ t484 (t488 == 1) t489 t492 t493 _ ?side1 ?side2 ?side3 ?side4 A8.out).mono ?_); (case side1 => refine (Kd.S_reads' (e := 58) (base := w.heap.size) (ok := fun k_ => True) (n := t479.length) (c := co14) ?_).2.2; exact (by (with_reducible repeat (first | apply Kd.S_alloc | apply Kd.S_drewN | apply Kd.S_drew)); exact (Kd.S_mono (Kd.S_far (p := ⟨gb487, 1, none⟩) (Kd.S_far (p := ⟨gb487, 0, none⟩) (Kd.S_types HO481.out BK487.out (by decide)) (fun _ hk => hk.2) (.int .i64 t483)) (fun _ hk => hk.2) (.slice Ao20 t484.length co20)) (fun _ h_ => h_.1)))); (case side2 => exact (Kd.S_reads' HO481.out).2.1); (case side3 => refine (Kd.R_reads' (e := 79) (base := w.heap.size) (ok := fun k_ => True) (n := t484.length) (c := co20) ?_).2.2; exact (by (with_reducible repeat (first | apply Kd.R_alloc | apply Kd.R_drewN | apply Kd.R_drew)); exact (Kd.R_mono (Kd.R_far (p := ⟨gb487, 1, none⟩) (Kd.R_far (p := ⟨gb487, 0, none⟩) (Kd.R_types HO486.out BK487.out (by decide)) (fun _ hk => hk.2) (.int .i64 t483)) (fun _ hk => hk.2) (.slice Ao20 t484.length co20)) (fun _ h_ => h_.1)))); (case side4 => exact (Kd.R_reads' HO486.out).2.1); rintro e w22 ⟨v490, rfl, ho0, hb⟩; have n0_ := Aside0.mk (Kd.S_elder' (by (with_reducible repeat (first | apply Kd.S_alloc | apply Kd.S_drewN | apply Kd.S_drew)); exact (Kd.S_mono (Kd.S_far (p := ⟨gb487, 1, none⟩) (Kd.S_far (p := ⟨gb487, 0, none⟩) (Kd.S_types HO481.out BK487.out (by decide)) (fun _ hk => hk.2) (.int .i64 t483)) (fun _ hk => hk.2) (.slice Ao20 t484.length co20)) (fun _ h_ => h_.1))) (Kd.S_base ho0) hb); have n1_ := Aside0.mk (Kd.R_below (by (with_reducible repeat (first | apply Kd.R_alloc | apply Kd.R_drewN | apply Kd.R_drew)); exact (Kd.R_mono (Kd.R_far (p := ⟨gb487, 1, none⟩) (Kd.R_far (p := ⟨gb487, 0, none⟩) (Kd.R_types HO486.out BK487.out (by decide)) (fun _ hk => hk.2) (.int .i64 t483)) (fun _ hk => hk.2) (.slice Ao20 t484.length co20)) (fun _ h_ => h_.1))) hb); have n2_ := Aside0.mk (Kd.S_lower (Kd.S_new' ho0 (Kd.S_lt (by (with_reducible repeat (first | apply Kd.S_alloc | apply Kd.S_drewN | apply Kd.S_drew)); exact (Kd.S_mono (Kd.S_far (p := ⟨gb487, 1, none⟩) (Kd.S_far (p := ⟨gb487, 0, none⟩) (Kd.S_types HO481.out BK487.out (by decide)) (fun _ hk => hk.2) (.int .i64 t483)) (fun _ hk => hk.2) (.slice Ao20 t484.length co20)) (fun _ h_ => h_.1))))) (below_size (bl_ HB))); have n3_ := Aside0.mk (blk_below (g := gb482) (o := .cells #[.slice Ao14 t479.length co14] 37 (0, 0)) (by (with_reducible repeat (first | refine blk_drewN ?_ _ | refine blk_drew ?_ | refine blk_alloc ?_ _)); refine blk_far ?_ NB482_487.out _; (with_reducible repeat (first | refine blk_drewN ?_ _ | refine blk_drew ?_ | refine blk_alloc ?_ _)); refine blk_far ?_ NB482_487.out _; (with_reducible repeat (first | refine blk_drewN ?_ _ | refine blk_drew ?_ | refine blk_alloc ?_ _)); exact BK482.out) hb); have n4_ := Aside0.mk (blk_below (g := gb487) (o := .cells #[.int .i64 t483, .slice Ao20 t484.length co20] 41 (0, 0)) (by (with_reducible repeat (first | refine blk_drewN ?_ _ | refine blk_drew ?_ | refine blk_alloc ?_ _)); refine blk_put (cs := #[.int .i64 t483, .slice none 0 0]) ?_ 1 _ rfl; (with_reducible repeat (first | refine blk_drewN ?_ _ | refine blk_drew ?_ | refine blk_alloc ?_ _)); refine blk_put (cs := #[.int .i64 0, .slice none 0 0]) ?_ 0 _ rfl; (with_reducible repeat (first | refine blk_drewN ?_ _ | refine blk_drew ?_ | refine blk_alloc ?_ _)); exact BK487.out) hb); have n5_ := Aside0.mk (below_step (bl_ HB) hb); clear HO481; clear HO486; clear BK482; clear BK487; clear HB; have HO481 := n0_; have HO486 := n1_; have HO491 := n2_; have BK482 := n3_; have BK487 := n4_; have HB := n5_; clear n0_ n1_ n2_ n3_ n4_ n5_; (try clear hb); (try clear hb2); (try clear hk); (try clear hi); (try clear ho0); obtain ⟨Ao23, co23, eo23⟩ := Kd.S_slice HO491.out; subst eo23) | (go_at_call 25; (with_reducible refine (impl_DotsText.calls k _ _ t489 t494 t495 _ ?side1 ?side2 A9.out).mono ?_); (case side1 => repeat (first | exact (Kd.S_reads' HO491.out).2.2 | (with_reducible refine Kd.C_alloc ?_ _) | (with_reducible refine Kd.C_drewN ?_ _) | (with_reducible refine Kd.C_drew ?_))); (case side2 => exact (Kd.S_reads' HO491.out).2.1); rintro e w24 ⟨rfl, hb⟩; have n0_ := Aside0.mk (Kd.S_below (ss_ HO481) hb); have n1_ := Aside0.mk (Kd.R_below (rr_ HO486) hb); have n2_ := Aside0.mk (Kd.S_below (ss_ HO491) hb); have n3_ := Aside0.mk (blk_below (g := gb482) (o := .cells #[.slice Ao14 t479.length co14] 37 (0, 0)) (bk_ BK482) hb); have n4_ := Aside0.mk (blk_below (g := gb487) (o := .cells #[.int .i64 t483, .slice Ao20 t484.length co20] 41 (0, 0)) (bk_ BK487) hb); have n5_ := Aside0.mk (below_step (bl_ HB) hb); clear HO481; clear HO486; clear HO491; clear BK482; clear BK487; clear HB; have HO481 := n0_; have HO486 := n1_; have HO491 := n2_; have BK482 := n3_; have BK487 := n4_; have HB := n5_; clear n0_ n1_ n2_ n3_ n4_ n5_; (try clear hb); (try clear hb2); (try clear hk); (try clear hi)) | (go_at_call 7; (with_reducible refine (impl_ReadDots.calls k t494 t496 t497 _ A10.out).mono ?_); rintro e w25 ⟨v498, rfl, ho0, hb⟩; have n0_ := Aside0.mk (Kd.S_elder' (ss_ HO481) (Kd.S_base ho0) hb); have n1_ := Aside0.mk (Kd.R_below (rr_ HO486) hb); have n2_ := Aside0.mk (Kd.S_elder' (ss_ HO491) (Kd.S_base ho0) hb); have n3_ := Aside0.mk (Kd.S_lower (Kd.S_new' (Kd.S_new' ho0 (Kd.S_lt (ss_ HO481))) (Kd.S_lt (ss_ HO491))) (below_size (bl_ HB))); have n4_ := Aside0.mk (blk_below (g := gb482) (o := .cells #[.slice Ao14 t479.length co14] 37 (0, 0)) (bk_ BK482) hb); have n5_ := Aside0.mk (blk_below (g := gb487) (o := .cells #[.int .i64 t483, .slice Ao20 t484.length co20] 41 (0, 0)) (bk_ BK487) hb); have n6_ := Aside0.mk (below_step (bl_ HB) hb); clear HO481; clear HO486; clear HO491; clear BK482; clear BK487; clear HB; have HO481 := n0_; have HO486 := n1_; have HO491 := n2_; have HO499 := n3_; have BK482 := n4_; have BK487 := n5_; have HB := n6_; clear n0_ n1_ n2_ n3_ n4_ n5_ n6_; (try clear hb); (try clear hb2); (try clear hk); (try clear hi); (try clear ho0)))
  repeat (go_quiet (first | (go_at_call 21; (with_reducible refine (laws_b10Long.calls _ _ l0 _ _ l1 false _ ?side1 ?side2 ?side3 ?side4 A3.out).mono ?_); (case side1 => repeat (first | exact HR0.out | (with_reducible refine Kd.C_alloc ?_ _) | (with_reducible refine Kd.C_drewN ?_ _) | (with_reducible refine Kd.C_drew ?_))); (case side2 => exact HC0.out); (case side3 => repeat (first | exact HR1.out | (with_reducible refine Kd.C_alloc ?_ _) | (with_reducible refine Kd.C_drewN ?_ _) | (with_reducible refine Kd.C_drew ?_))); (case side4 => exact HC1.out); rintro e w' ⟨rfl, ⟨nd, rfl⟩⟩; (try first | exact ⟨rfl, _, World.drewN_drewN _ _ _⟩ | exact ⟨rfl, _, Eq.trans (World.drewN_drewN _ _ _) (congrArg (World.drewN _) (Nat.add_assoc _ _ _))⟩)) | (go_at_call 22; (with_reducible refine (spec_B10Picture.calls k _ _ l0 t479 _ ?side1 ?side2 A5.out).mono ?_); (case side1 => repeat (first | exact HR0.out | (with_reducible refine Kd.C_alloc ?_ _) | (with_reducible refine Kd.C_drewN ?_ _) | (with_reducible refine Kd.C_drew ?_))); (case side2 => exact HC0.out); rintro e w12 ⟨v480, rfl, ho0, hb⟩; have n0_ := Aside0.mk (Kd.S_lower ho0 (below_size (bl_ HB))); have n1_ := Aside0.mk (below_step (bl_ HB) hb); clear HB; have HO481 := n0_; have HB := n1_; clear n0_ n1_; (try clear hb); (try clear hb2); (try clear hk); (try clear hi); (try clear ho0)) | ((with_reducible refine gate_dst (N := 5) rfl ?_); (try (refine gate_guard (by rfl) ?_; dsimp only)); refine box_event ?hg (N := 5) ?hd (cs := #[.slice none 0 0]) (t := 37) ?hr ?_; (case hd => rfl); (case hg => rfl); (case hr => first | (go_simp; done) | (go_simp; rfl)); intro gb482 hg w13 hbox hb; have n0_ := Aside0.mk (Kd.S_below (ss_ HO481) hb); have n1_ := Aside0.mk (below_step (bl_ HB) hb); have n2_ := Aside0.mk (hbox); have n3_ := Aside0.mk ((by rw [hg]; exact (below_size (bl_ HB)) : w.heap.size ≤ gb482)); have n4_ := Aside0.mk ((by rw [hg]; exact (below_size (bl_ HB)) : w.heap.size ≤ gb482)); clear HO481; clear HB; have HO481 := n0_; have HB := n1_; have BK482 := n2_; have GW482 := n3_; have GE482 := n4_; clear n0_ n1_ n2_ n3_ n4_; clear hb hbox hg; obtain ⟨Ao14, co14, eo14⟩ := Kd.S_slice HO481.out; subst eo14; have hcz15_0 : w13.cell? ⟨gb482, 0, none⟩ = some (.slice none 0 0) := (blk_cell BK482.out 0).trans rfl; have hfz15_0 := blk_frozen BK482.out 0) | (go_at_call 23; (with_reducible refine (spec_B10Kernel.calls k _ _ l1 t483 t484 _ ?side1 ?side2 A6.out).mono ?_); (case side1 => exact Kd.C_below HR1.out (bl_ HB)); (case side2 => exact HC1.out); rintro e w16 ⟨v485, rfl, ho0, hb⟩; have n0_ := Aside0.mk (Kd.S_below (by (with_reducible repeat (first | apply Kd.S_alloc | apply Kd.S_drewN | apply Kd.S_drew)); exact (Kd.S_mono (Kd.S_far (p := ⟨gb482, 0, none⟩) (Kd.S_types HO481.out BK482.out (by decide)) (fun _ hk => hk.2) (.slice Ao14 t479.length co14)) (fun _ h_ => h_.1))) hb); have n1_ := Aside0.mk (Kd.R_lower ho0 (below_size (bl_ HB))); have n2_ := Aside0.mk (blk_below (g := gb482) (o := .cells #[.slice Ao14 t479.length co14] 37 (0, 0)) (by (with_reducible repeat (first | refine blk_drewN ?_ _ | refine blk_drew ?_ | refine blk_alloc ?_ _)); refine blk_put (cs := #[.slice none 0 0]) ?_ 0 _ rfl; (with_reducible repeat (first | refine blk_drewN ?_ _ | refine blk_drew ?_ | refine blk_alloc ?_ _)); exact BK482.out) hb); have n3_ := Aside0.mk (below_step (bl_ HB) hb); clear HO481; clear BK482; clear HB; have HO481 := n0_; have HO486 := n1_; have BK482 := n2_; have HB := n3_; clear n0_ n1_ n2_ n3_; (try clear hb); (try clear hb2); (try clear hk); (try clear hi); (try clear ho0)) | ((with_reducible refine gate_dst (N := 6) rfl ?_); (try (refine gate_guard (by rfl) ?_; dsimp only)); refine box_event ?hg (N := 6) ?hd (cs := #[.int .i64 0, .slice none 0 0]) (t := 41) ?hr ?_; (case hd => rfl); (case hg => rfl); (case hr => first | (go_simp; done) | (go_simp; rfl)); intro gb487 hg w17 hbox hb; have n0_ := Aside0.mk (Kd.S_below (ss_ HO481) hb); have n1_ := Aside0.mk (Kd.R_below (rr_ HO486) hb); have n2_ := Aside0.mk (blk_below (g := gb482) (o := .cells #[.slice Ao14 t479.length co14] 37 (0, 0)) (bk_ BK482) hb); have n3_ := Aside0.mk (below_step (bl_ HB) hb); have n4_ := Aside0.mk (hbox); have n5_ := Aside0.mk ((by rw [hg]; exact (below_size (bl_ HB)) : w.heap.size ≤ gb487)); have n6_ := Aside0.mk ((by rw [hg]; exact (below_size (bl_ HB)) : w.heap.size ≤ gb487)); have n7_ := Aside0.mk ((by rw [hg]; exact Nat.ne_of_lt (blk_lt (g := gb482) (o := .cells #[.slice Ao14 t479.length co14] 37 (0, 0)) (bk_ BK482)) : gb482 ≠ gb487)); have n8_ := Aside0.mk ((by rw [hg]; exact Nat.ne_of_gt (blk_lt (g := gb482) (o := .cells #[.slice Ao14 t479.length co14] 37 (0, 0)) (bk_ BK482)) : gb487 ≠ gb482)); clear HO481; clear HO486; clear BK482; clear HB; have HO481 := n0_; have HO486 := n1_; have BK482 := n2_; have HB := n3_; have BK487 := n4_; have GW487 := n5_; have GE487 := n6_; have NB482_487 := n7_; have NB487_482 := n8_; clear n0_ n1_ n2_ n3_ n4_ n5_ n6_ n7_ n8_; clear hb hbox hg; have hnb18 := NB487_482.out; have hnc18 := NB482_487.out; have hcz19_0 : w17.cell? ⟨gb487, 0, none⟩ = some (.int .i64 0) := (blk_cell BK487.out 0).trans rfl; have hcz19_1 : w17.cell? ⟨gb487, 1, none⟩ = some (.slice none 0 0) := (blk_cell BK487.out 1).trans rfl; have hfz19_0 := blk_frozen BK487.out 0; have hfz19_1 := blk_frozen BK487.out 1; obtain ⟨Ao20, co20, eo20⟩ := Kd.R_slice HO486.out; subst eo20) | (go_at_call 24; (with_reducible refine (laws_b10At.calls _ _ l1 0 2 t488 _ ?side1 ?side2 A7.out).mono ?_); (case side1 => exact Kd.C_below HR1.out (bl_ HB)); (case side2 => exact HC1.out); rintro e w' ⟨rfl, ⟨nd, rfl⟩⟩; (try first | exact ⟨rfl, _, World.drewN_drewN _ _ _⟩ | exact ⟨rfl, _, Eq.trans (World.drewN_drewN _ _ _) (congrArg (World.drewN _) (Nat.add_assoc _ _ _))⟩); have hcz21_0 : w17.cell? ⟨gb482, 0, none⟩ = some (.slice Ao14 t479.length co14) := (blk_cell BK482.out 0).trans rfl; have hfz21_0 := blk_frozen BK482.out 0) | (go_at_call 16; (with_reducible refine (impl_DiffuseDither.calls k _ _ t479 t483 _ _ t484 (t488 == 1) t489 t492 t493 _ ?side1 ?side2 ?side3 ?side4 A8.out).mono ?_); (case side1 => refine (Kd.S_reads' (e := 58) (base := w.heap.size) (ok := fun k_ => True) (n := t479.length) (c := co14) ?_).2.2; exact (by (with_reducible repeat (first | apply Kd.S_alloc | apply Kd.S_drewN | apply Kd.S_drew)); exact (Kd.S_mono (Kd.S_far (p := ⟨gb487, 1, none⟩) (Kd.S_far (p := ⟨gb487, 0, none⟩) (Kd.S_types HO481.out BK487.out (by decide)) (fun _ hk => hk.2) (.int .i64 t483)) (fun _ hk => hk.2) (.slice Ao20 t484.length co20)) (fun _ h_ => h_.1)))); (case side2 => exact (Kd.S_reads' HO481.out).2.1); (case side3 => refine (Kd.R_reads' (e := 79) (base := w.heap.size) (ok := fun k_ => True) (n := t484.length) (c := co20) ?_).2.2; exact (by (with_reducible repeat (first | apply Kd.R_alloc | apply Kd.R_drewN | apply Kd.R_drew)); exact (Kd.R_mono (Kd.R_far (p := ⟨gb487, 1, none⟩) (Kd.R_far (p := ⟨gb487, 0, none⟩) (Kd.R_types HO486.out BK487.out (by decide)) (fun _ hk => hk.2) (.int .i64 t483)) (fun _ hk => hk.2) (.slice Ao20 t484.length co20)) (fun _ h_ => h_.1)))); (case side4 => exact (Kd.R_reads' HO486.out).2.1); rintro e w22 ⟨v490, rfl, ho0, hb⟩; have n0_ := Aside0.mk (Kd.S_elder' (by (with_reducible repeat (first | apply Kd.S_alloc | apply Kd.S_drewN | apply Kd.S_drew)); exact (Kd.S_mono (Kd.S_far (p := ⟨gb487, 1, none⟩) (Kd.S_far (p := ⟨gb487, 0, none⟩) (Kd.S_types HO481.out BK487.out (by decide)) (fun _ hk => hk.2) (.int .i64 t483)) (fun _ hk => hk.2) (.slice Ao20 t484.length co20)) (fun _ h_ => h_.1))) (Kd.S_base ho0) hb); have n1_ := Aside0.mk (Kd.R_below (by (with_reducible repeat (first | apply Kd.R_alloc | apply Kd.R_drewN | apply Kd.R_drew)); exact (Kd.R_mono (Kd.R_far (p := ⟨gb487, 1, none⟩) (Kd.R_far (p := ⟨gb487, 0, none⟩) (Kd.R_types HO486.out BK487.out (by decide)) (fun _ hk => hk.2) (.int .i64 t483)) (fun _ hk => hk.2) (.slice Ao20 t484.length co20)) (fun _ h_ => h_.1))) hb); have n2_ := Aside0.mk (Kd.S_lower (Kd.S_new' ho0 (Kd.S_lt (by (with_reducible repeat (first | apply Kd.S_alloc | apply Kd.S_drewN | apply Kd.S_drew)); exact (Kd.S_mono (Kd.S_far (p := ⟨gb487, 1, none⟩) (Kd.S_far (p := ⟨gb487, 0, none⟩) (Kd.S_types HO481.out BK487.out (by decide)) (fun _ hk => hk.2) (.int .i64 t483)) (fun _ hk => hk.2) (.slice Ao20 t484.length co20)) (fun _ h_ => h_.1))))) (below_size (bl_ HB))); have n3_ := Aside0.mk (blk_below (g := gb482) (o := .cells #[.slice Ao14 t479.length co14] 37 (0, 0)) (by (with_reducible repeat (first | refine blk_drewN ?_ _ | refine blk_drew ?_ | refine blk_alloc ?_ _)); refine blk_far ?_ NB482_487.out _; (with_reducible repeat (first | refine blk_drewN ?_ _ | refine blk_drew ?_ | refine blk_alloc ?_ _)); refine blk_far ?_ NB482_487.out _; (with_reducible repeat (first | refine blk_drewN ?_ _ | refine blk_drew ?_ | refine blk_alloc ?_ _)); exact BK482.out) hb); have n4_ := Aside0.mk (blk_below (g := gb487) (o := .cells #[.int .i64 t483, .slice Ao20 t484.length co20] 41 (0, 0)) (by (with_reducible repeat (first | refine blk_drewN ?_ _ | refine blk_drew ?_ | refine blk_alloc ?_ _)); refine blk_put (cs := #[.int .i64 t483, .slice none 0 0]) ?_ 1 _ rfl; (with_reducible repeat (first | refine blk_drewN ?_ _ | refine blk_drew ?_ | refine blk_alloc ?_ _)); refine blk_put (cs := #[.int .i64 0, .slice none 0 0]) ?_ 0 _ rfl; (with_reducible repeat (first | refine blk_drewN ?_ _ | refine blk_drew ?_ | refine blk_alloc ?_ _)); exact BK487.out) hb); have n5_ := Aside0.mk (below_step (bl_ HB) hb); clear HO481; clear HO486; clear BK482; clear BK487; clear HB; have HO481 := n0_; have HO486 := n1_; have HO491 := n2_; have BK482 := n3_; have BK487 := n4_; have HB := n5_; clear n0_ n1_ n2_ n3_ n4_ n5_; (try clear hb); (try clear hb2); (try clear hk); (try clear hi); (try clear ho0); obtain ⟨Ao23, co23, eo23⟩ := Kd.S_slice HO491.out; subst eo23) | (go_at_call 25; (with_reducible refine (impl_DotsText.calls k _ _ t489 t494 t495 _ ?side1 ?side2 A9.out).mono ?_); (case side1 => repeat (first | exact (Kd.S_reads' HO491.out).2.2 | (with_reducible refine Kd.C_alloc ?_ _) | (with_reducible refine Kd.C_drewN ?_ _) | (with_reducible refine Kd.C_drew ?_))); (case side2 => exact (Kd.S_reads' HO491.out).2.1); rintro e w24 ⟨rfl, hb⟩; have n0_ := Aside0.mk (Kd.S_below (ss_ HO481) hb); have n1_ := Aside0.mk (Kd.R_below (rr_ HO486) hb); have n2_ := Aside0.mk (Kd.S_below (ss_ HO491) hb); have n3_ := Aside0.mk (blk_below (g := gb482) (o := .cells #[.slice Ao14 t479.length co14] 37 (0, 0)) (bk_ BK482) hb); have n4_ := Aside0.mk (blk_below (g := gb487) (o := .cells #[.int .i64 t483, .slice Ao20 t484.length co20] 41 (0, 0)) (bk_ BK487) hb); have n5_ := Aside0.mk (below_step (bl_ HB) hb); clear HO481; clear HO486; clear HO491; clear BK482; clear BK487; clear HB; have HO481 := n0_; have HO486 := n1_; have HO491 := n2_; have BK482 := n3_; have BK487 := n4_; have HB := n5_; clear n0_ n1_ n2_ n3_ n4_ n5_; (try clear hb); (try clear hb2); (try clear hk); (try clear hi)) | (go_at_call 7; (with_reducible refine (impl_ReadDots.calls k t494 t496 t497 _ A10.out).mono ?_); rintro e w25 ⟨v498, rfl, ho0, hb⟩; have n0_ := Aside0.mk (Kd.S_elder' (ss_ HO481) (Kd.S_base ho0) hb); have n1_ := Aside0.mk (Kd.R_below (rr_ HO486) hb); have n2_ := Aside0.mk (Kd.S_elder' (ss_ HO491) (Kd.S_base ho0) hb); have n3_ := Aside0.mk (Kd.S_lower (Kd.S_new' (Kd.S_new' ho0 (Kd.S_lt (ss_ HO481))) (Kd.S_lt (ss_ HO491))) (below_size (bl_ HB))); have n4_ := Aside0.mk (blk_below (g := gb482) (o := .cells #[.slice Ao14 t479.length co14] 37 (0, 0)) (bk_ BK482) hb); have n5_ := Aside0.mk (blk_below (g := gb487) (o := .cells #[.int .i64 t483, .slice Ao20 t484.length co20] 41 (0, 0)) (bk_ BK487) hb); have n6_ := Aside0.mk (below_step (bl_ HB) hb); clear HO481; clear HO486; clear HO491; clear BK482; clear BK487; clear HB; have HO481 := n0_; have HO486 := n1_; have HO491 := n2_; have HO499 := n3_; have BK482 := n4_; have BK487 := n5_; have HB := n6_; clear n0_ n1_ n2_ n3_ n4_ n5_ n6_; (try clear hb); (try clear hb2); (try clear hk); (try clear hi); (try clear ho0))); go_upto_region 9 with (first | (go_at_call 21; (with_reducible refine (laws_b10Long.calls _ _ l0 _ _ l1 false _ ?side1 ?side2 ?side3 ?side4 A3.out).mono ?_); (case side1 => repeat (first | exact HR0.out | (with_reducible refine Kd.C_alloc ?_ _) | (with_reducible refine Kd.C_drewN ?_ _) | (with_reducible refine Kd.C_drew ?_))); (case side2 => exact HC0.out); (case side3 => repeat (first | exact HR1.out | (with_reducible refine Kd.C_alloc ?_ _) | (with_reducible refine Kd.C_drewN ?_ _) | (with_reducible refine Kd.C_drew ?_))); (case side4 => exact HC1.out); rintro e w' ⟨rfl, ⟨nd, rfl⟩⟩; (try first | exact ⟨rfl, _, World.drewN_drewN _ _ _⟩ | exact ⟨rfl, _, Eq.trans (World.drewN_drewN _ _ _) (congrArg (World.drewN _) (Nat.add_assoc _ _ _))⟩)) | (go_at_call 22; (with_reducible refine (spec_B10Picture.calls k _ _ l0 t479 _ ?side1 ?side2 A5.out).mono ?_); (case side1 => repeat (first | exact HR0.out | (with_reducible refine Kd.C_alloc ?_ _) | (with_reducible refine Kd.C_drewN ?_ _) | (with_reducible refine Kd.C_drew ?_))); (case side2 => exact HC0.out); rintro e w12 ⟨v480, rfl, ho0, hb⟩; have n0_ := Aside0.mk (Kd.S_lower ho0 (below_size (bl_ HB))); have n1_ := Aside0.mk (below_step (bl_ HB) hb); clear HB; have HO481 := n0_; have HB := n1_; clear n0_ n1_; (try clear hb); (try clear hb2); (try clear hk); (try clear hi); (try clear ho0)) | ((with_reducible refine gate_dst (N := 5) rfl ?_); (try (refine gate_guard (by rfl) ?_; dsimp only)); refine box_event ?hg (N := 5) ?hd (cs := #[.slice none 0 0]) (t := 37) ?hr ?_; (case hd => rfl); (case hg => rfl); (case hr => first | (go_simp; done) | (go_simp; rfl)); intro gb482 hg w13 hbox hb; have n0_ := Aside0.mk (Kd.S_below (ss_ HO481) hb); have n1_ := Aside0.mk (below_step (bl_ HB) hb); have n2_ := Aside0.mk (hbox); have n3_ := Aside0.mk ((by rw [hg]; exact (below_size (bl_ HB)) : w.heap.size ≤ gb482)); have n4_ := Aside0.mk ((by rw [hg]; exact (below_size (bl_ HB)) : w.heap.size ≤ gb482)); clear HO481; clear HB; have HO481 := n0_; have HB := n1_; have BK482 := n2_; have GW482 := n3_; have GE482 := n4_; clear n0_ n1_ n2_ n3_ n4_; clear hb hbox hg; obtain ⟨Ao14, co14, eo14⟩ := Kd.S_slice HO481.out; subst eo14; have hcz15_0 : w13.cell? ⟨gb482, 0, none⟩ = some (.slice none 0 0) := (blk_cell BK482.out 0).trans rfl; have hfz15_0 := blk_frozen BK482.out 0) | (go_at_call 23; (with_reducible refine (spec_B10Kernel.calls k _ _ l1 t483 t484 _ ?side1 ?side2 A6.out).mono ?_); (case side1 => exact Kd.C_below HR1.out (bl_ HB)); (case side2 => exact HC1.out); rintro e w16 ⟨v485, rfl, ho0, hb⟩; have n0_ := Aside0.mk (Kd.S_below (by (with_reducible repeat (first | apply Kd.S_alloc | apply Kd.S_drewN | apply Kd.S_drew)); exact (Kd.S_mono (Kd.S_far (p := ⟨gb482, 0, none⟩) (Kd.S_types HO481.out BK482.out (by decide)) (fun _ hk => hk.2) (.slice Ao14 t479.length co14)) (fun _ h_ => h_.1))) hb); have n1_ := Aside0.mk (Kd.R_lower ho0 (below_size (bl_ HB))); have n2_ := Aside0.mk (blk_below (g := gb482) (o := .cells #[.slice Ao14 t479.length co14] 37 (0, 0)) (by (with_reducible repeat (first | refine blk_drewN ?_ _ | refine blk_drew ?_ | refine blk_alloc ?_ _)); refine blk_put (cs := #[.slice none 0 0]) ?_ 0 _ rfl; (with_reducible repeat (first | refine blk_drewN ?_ _ | refine blk_drew ?_ | refine blk_alloc ?_ _)); exact BK482.out) hb); have n3_ := Aside0.mk (below_step (bl_ HB) hb); clear HO481; clear BK482; clear HB; have HO481 := n0_; have HO486 := n1_; have BK482 := n2_; have HB := n3_; clear n0_ n1_ n2_ n3_; (try clear hb); (try clear hb2); (try clear hk); (try clear hi); (try clear ho0)) | ((with_reducible refine gate_dst (N := 6) rfl ?_); (try (refine gate_guard (by rfl) ?_; dsimp only)); refine box_event ?hg (N := 6) ?hd (cs := #[.int .i64 0, .slice none 0 0]) (t := 41) ?hr ?_; (case hd => rfl); (case hg => rfl); (case hr => first | (go_simp; done) | (go_simp; rfl)); intro gb487 hg w17 hbox hb; have n0_ := Aside0.mk (Kd.S_below (ss_ HO481) hb); have n1_ := Aside0.mk (Kd.R_below (rr_ HO486) hb); have n2_ := Aside0.mk (blk_below (g := gb482) (o := .cells #[.slice Ao14 t479.length co14] 37 (0, 0)) (bk_ BK482) hb); have n3_ := Aside0.mk (below_step (bl_ HB) hb); have n4_ := Aside0.mk (hbox); have n5_ := Aside0.mk ((by rw [hg]; exact (below_size (bl_ HB)) : w.heap.size ≤ gb487)); have n6_ := Aside0.mk ((by rw [hg]; exact (below_size (bl_ HB)) : w.heap.size ≤ gb487)); have n7_ := Aside0.mk ((by rw [hg]; exact Nat.ne_of_lt (blk_lt (g := gb482) (o := .cells #[.slice Ao14 t479.length co14] 37 (0, 0)) (bk_ BK482)) : gb482 ≠ gb487)); have n8_ := Aside0.mk ((by rw [hg]; exact Nat.ne_of_gt (blk_lt (g := gb482) (o := .cells #[.slice Ao14 t479.length co14] 37 (0, 0)) (bk_ BK482)) : gb487 ≠ gb482)); clear HO481; clear HO486; clear BK482; clear HB; have HO481 := n0_; have HO486 := n1_; have BK482 := n2_; have HB := n3_; have BK487 := n4_; have GW487 := n5_; have GE487 := n6_; have NB482_487 := n7_; have NB487_482 := n8_; clear n0_ n1_ n2_ n3_ n4_ n5_ n6_ n7_ n8_; clear hb hbox hg; have hnb18 := NB487_482.out; have hnc18 := NB482_487.out; have hcz19_0 : w17.cell? ⟨gb487, 0, none⟩ = some (.int .i64 0) := (blk_cell BK487.out 0).trans rfl; have hcz19_1 : w17.cell? ⟨gb487, 1, none⟩ = some (.slice none 0 0) := (blk_cell BK487.out 1).trans rfl; have hfz19_0 := blk_frozen BK487.out 0; have hfz19_1 := blk_frozen BK487.out 1; obtain ⟨Ao20, co20, eo20⟩ := Kd.R_slice HO486.out; subst eo20) | (go_at_call 24; (with_reducible refine (laws_b10At.calls _ _ l1 0 2 t488 _ ?side1 ?side2 A7.out).mono ?_); (case side1 => exact Kd.C_below HR1.out (bl_ HB)); (case side2 => exact HC1.out); rintro e w' ⟨rfl, ⟨nd, rfl⟩⟩; (try first | exact ⟨rfl, _, World.drewN_drewN _ _ _⟩ | exact ⟨rfl, _, Eq.trans (World.drewN_drewN _ _ _) (congrArg (World.drewN _) (Nat.add_assoc _ _ _))⟩); have hcz21_0 : w17.cell? ⟨gb482, 0, none⟩ = some (.slice Ao14 t479.length co14) := (blk_cell BK482.out 0).trans rfl; have hfz21_0 := blk_frozen BK482.out 0) | (go_at_call 16; (with_reducible refine (impl_DiffuseDither.calls k _ _ t479 t483 _ _ t484 (t488 == 1) t489 t492 t493 _ ?side1 ?side2 ?side3 ?side4 A8.out).mono ?_); (case side1 => refine (Kd.S_reads' (e := 58) (base := w.heap.size) (ok := fun k_ => True) (n := t479.length) (c := co14) ?_).2.2; exact (by (with_reducible repeat (first | apply Kd.S_alloc | apply Kd.S_drewN | apply Kd.S_drew)); exact (Kd.S_mono (Kd.S_far (p := ⟨gb487, 1, none⟩) (Kd.S_far (p := ⟨gb487, 0, none⟩) (Kd.S_types HO481.out BK487.out (by decide)) (fun _ hk => hk.2) (.int .i64 t483)) (fun _ hk => hk.2) (.slice Ao20 t484.length co20)) (fun _ h_ => h_.1)))); (case side2 => exact (Kd.S_reads' HO481.out).2.1); (case side3 => refine (Kd.R_reads' (e := 79) (base := w.heap.size) (ok := fun k_ => True) (n := t484.length) (c := co20) ?_).2.2; exact (by (with_reducible repeat (first | apply Kd.R_alloc | apply Kd.R_drewN | apply Kd.R_drew)); exact (Kd.R_mono (Kd.R_far (p := ⟨gb487, 1, none⟩) (Kd.R_far (p := ⟨gb487, 0, none⟩) (Kd.R_types HO486.out BK487.out (by decide)) (fun _ hk => hk.2) (.int .i64 t483)) (fun _ hk => hk.2) (.slice Ao20 t484.length co20)) (fun _ h_ => h_.1)))); (case side4 => exact (Kd.R_reads' HO486.out).2.1); rintro e w22 ⟨v490, rfl, ho0, hb⟩; have n0_ := Aside0.mk (Kd.S_elder' (by (with_reducible repeat (first | apply Kd.S_alloc | apply Kd.S_drewN | apply Kd.S_drew)); exact (Kd.S_mono (Kd.S_far (p := ⟨gb487, 1, none⟩) (Kd.S_far (p := ⟨gb487, 0, none⟩) (Kd.S_types HO481.out BK487.out (by decide)) (fun _ hk => hk.2) (.int .i64 t483)) (fun _ hk => hk.2) (.slice Ao20 t484.length co20)) (fun _ h_ => h_.1))) (Kd.S_base ho0) hb); have n1_ := Aside0.mk (Kd.R_below (by (with_reducible repeat (first | apply Kd.R_alloc | apply Kd.R_drewN | apply Kd.R_drew)); exact (Kd.R_mono (Kd.R_far (p := ⟨gb487, 1, none⟩) (Kd.R_far (p := ⟨gb487, 0, none⟩) (Kd.R_types HO486.out BK487.out (by decide)) (fun _ hk => hk.2) (.int .i64 t483)) (fun _ hk => hk.2) (.slice Ao20 t484.length co20)) (fun _ h_ => h_.1))) hb); have n2_ := Aside0.mk (Kd.S_lower (Kd.S_new' ho0 (Kd.S_lt (by (with_reducible repeat (first | apply Kd.S_alloc | apply Kd.S_drewN | apply Kd.S_drew)); exact (Kd.S_mono (Kd.S_far (p := ⟨gb487, 1, none⟩) (Kd.S_far (p := ⟨gb487, 0, none⟩) (Kd.S_types HO481.out BK487.out (by decide)) (fun _ hk => hk.2) (.int .i64 t483)) (fun _ hk => hk.2) (.slice Ao20 t484.length co20)) (fun _ h_ => h_.1))))) (below_size (bl_ HB))); have n3_ := Aside0.mk (blk_below (g := gb482) (o := .cells #[.slice Ao14 t479.length co14] 37 (0, 0)) (by (with_reducible repeat (first | refine blk_drewN ?_ _ | refine blk_drew ?_ | refine blk_alloc ?_ _)); refine blk_far ?_ NB482_487.out _; (with_reducible repeat (first | refine blk_drewN ?_ _ | refine blk_drew ?_ | refine blk_alloc ?_ _)); refine blk_far ?_ NB482_487.out _; (with_reducible repeat (first | refine blk_drewN ?_ _ | refine blk_drew ?_ | refine blk_alloc ?_ _)); exact BK482.out) hb); have n4_ := Aside0.mk (blk_below (g := gb487) (o := .cells #[.int .i64 t483, .slice Ao20 t484.length co20] 41 (0, 0)) (by (with_reducible repeat (first | refine blk_drewN ?_ _ | refine blk_drew ?_ | refine blk_alloc ?_ _)); refine blk_put (cs := #[.int .i64 t483, .slice none 0 0]) ?_ 1 _ rfl; (with_reducible repeat (first | refine blk_drewN ?_ _ | refine blk_drew ?_ | refine blk_alloc ?_ _)); refine blk_put (cs := #[.int .i64 0, .slice none 0 0]) ?_ 0 _ rfl; (with_reducible repeat (first | refine blk_drewN ?_ _ | refine blk_drew ?_ | refine blk_alloc ?_ _)); exact BK487.out) hb); have n5_ := Aside0.mk (below_step (bl_ HB) hb); clear HO481; clear HO486; clear BK482; clear BK487; clear HB; have HO481 := n0_; have HO486 := n1_; have HO491 := n2_; have BK482 := n3_; have BK487 := n4_; have HB := n5_; clear n0_ n1_ n2_ n3_ n4_ n5_; (try clear hb); (try clear hb2); (try clear hk); (try clear hi); (try clear ho0); obtain ⟨Ao23, co23, eo23⟩ := Kd.S_slice HO491.out; subst eo23) | (go_at_call 25; (with_reducible refine (impl_DotsText.calls k _ _ t489 t494 t495 _ ?side1 ?side2 A9.out).mono ?_); (case side1 => repeat (first | exact (Kd.S_reads' HO491.out).2.2 | (with_reducible refine Kd.C_alloc ?_ _) | (with_reducible refine Kd.C_drewN ?_ _) | (with_reducible refine Kd.C_drew ?_))); (case side2 => exact (Kd.S_reads' HO491.out).2.1); rintro e w24 ⟨rfl, hb⟩; have n0_ := Aside0.mk (Kd.S_below (ss_ HO481) hb); have n1_ := Aside0.mk (Kd.R_below (rr_ HO486) hb); have n2_ := Aside0.mk (Kd.S_below (ss_ HO491) hb); have n3_ := Aside0.mk (blk_below (g := gb482) (o := .cells #[.slice Ao14 t479.length co14] 37 (0, 0)) (bk_ BK482) hb); have n4_ := Aside0.mk (blk_below (g := gb487) (o := .cells #[.int .i64 t483, .slice Ao20 t484.length co20] 41 (0, 0)) (bk_ BK487) hb); have n5_ := Aside0.mk (below_step (bl_ HB) hb); clear HO481; clear HO486; clear HO491; clear BK482; clear BK487; clear HB; have HO481 := n0_; have HO486 := n1_; have HO491 := n2_; have BK482 := n3_; have BK487 := n4_; have HB := n5_; clear n0_ n1_ n2_ n3_ n4_ n5_; (try clear hb); (try clear hb2); (try clear hk); (try clear hi)) | (go_at_call 7; (with_reducible refine (impl_ReadDots.calls k t494 t496 t497 _ A10.out).mono ?_); rintro e w25 ⟨v498, rfl, ho0, hb⟩; have n0_ := Aside0.mk (Kd.S_elder' (ss_ HO481) (Kd.S_base ho0) hb); have n1_ := Aside0.mk (Kd.R_below (rr_ HO486) hb); have n2_ := Aside0.mk (Kd.S_elder' (ss_ HO491) (Kd.S_base ho0) hb); have n3_ := Aside0.mk (Kd.S_lower (Kd.S_new' (Kd.S_new' ho0 (Kd.S_lt (ss_ HO481))) (Kd.S_lt (ss_ HO491))) (below_size (bl_ HB))); have n4_ := Aside0.mk (blk_below (g := gb482) (o := .cells #[.slice Ao14 t479.length co14] 37 (0, 0)) (bk_ BK482) hb); have n5_ := Aside0.mk (blk_below (g := gb487) (o := .cells #[.int .i64 t483, .slice Ao20 t484.length co20] 41 (0, 0)) (bk_ BK487) hb); have n6_ := Aside0.mk (below_step (bl_ HB) hb); clear HO481; clear HO486; clear HO491; clear BK482; clear BK487; clear HB; have HO481 := n0_; have HO486 := n1_; have HO491 := n2_; have HO499 := n3_; have BK482 := n4_; have BK487 := n5_; have HB := n6_; clear n0_ n1_ n2_ n3_ n4_ n5_ n6_; (try clear hb); (try clear hb2); (try clear hk); (try clear hi); (try clear ho0))))
  (try simp only [Act.put, List.setIfInBounds_toArray, List.set_cons_zero, List.set_cons_succ])
  go_cut [85] (fun v85 wc => ∃ (kq : Nat) (x85_10 : Bool), v85 = .bool x85_10 ∧ Aside0 (laws_FnDiffused.j0 kq (t488 == 1) x85_10 t479 t483 t484 = some r) ∧ Aside0 (kq ≤ k) ∧ Aside0 (Kd.S (Kd.slice 2 (Kd.int .i64)) 58 wc w.heap.size (fun _ => True) (.slice Ao14 t479.length co14) t479) ∧ Aside0 (Kd.R k79 79 wc w.heap.size (fun _ => True) (.slice Ao20 t484.length co20) t484) ∧ Aside0 (wc.heap[gb482]? = some (.cells #[(.slice Ao14 t479.length co14)] 37 (0, 0))) ∧ Aside0 (wc.heap[gb487]? = some (.cells #[.int .i64 t483, (.slice Ao20 t484.length co20)] 41 (0, 0))) ∧ Aside0 (Below w.heap.size w wc))
  case first =>
   have H := HC11.out
   clear HC11
   by_cases c26 : t493 = true
   ·subst c26
    have H1 : (if t495 = true then (if t497 = true then ((laws_b10Tables.f k t496 t489).bind fun t500 => (if t500 = true then (if (t489.length : Int) = (t479.length : Int) then ((laws_b10All.f k t479).bind fun t501 => ((laws_b10All.f k t489).bind fun t502 => (laws_FnDiffused.j0 k (t488 == 1) (t501 != (wrap64 ((wrap64 (255 * t502)) + t492))) t479 t483 t484))) else (laws_FnDiffused.j0 k (t488 == 1) true t479 t483 t484)) else (laws_FnDiffused.j0 k (t488 == 1) true t479 t483 t484))) else (laws_FnDiffused.j0 k (t488 == 1) true t479 t483 t484)) else (laws_FnDiffused.j0 k (t488 == 1) true t479 t483 t484)) = some r := by rw [if_pos rfl] at H; exact H
    clear H
    have H := H1
    clear H1
    by_cases c27 : t495 = true
    ·subst c27
     have H1 : (if t497 = true then ((laws_b10Tables.f k t496 t489).bind fun t500 => (if t500 = true then (if (t489.length : Int) = (t479.length : Int) then ((laws_b10All.f k t479).bind fun t501 => ((laws_b10All.f k t489).bind fun t502 => (laws_FnDiffused.j0 k (t488 == 1) (t501 != (wrap64 ((wrap64 (255 * t502)) + t492))) t479 t483 t484))) else (laws_FnDiffused.j0 k (t488 == 1) true t479 t483 t484)) else (laws_FnDiffused.j0 k (t488 == 1) true t479 t483 t484))) else (laws_FnDiffused.j0 k (t488 == 1) true t479 t483 t484)) = some r := by rw [if_pos rfl] at H; exact H
     clear H
     have H := H1
     clear H1
     by_cases c28 : t497 = true
     ·subst c28
      have H1 : ((laws_b10Tables.f k t496 t489).bind fun t500 => (if t500 = true then (if (t489.length : Int) = (t479.length : Int) then ((laws_b10All.f k t479).bind fun t501 => ((laws_b10All.f k t489).bind fun t502 => (laws_FnDiffused.j0 k (t488 == 1) (t501 != (wrap64 ((wrap64 (255 * t502)) + t492))) t479 t483 t484))) else (laws_FnDiffused.j0 k (t488 == 1) true t479 t483 t484)) else (laws_FnDiffused.j0 k (t488 == 1) true t479 t483 t484))) = some r := by rw [if_pos rfl] at H; exact H
      clear H
      have H := H1
      clear H1
      replace H := Option.bind_eq_some_iff.mp H
      obtain ⟨t500, A290, H⟩ := H
      replace H : (if t500 = true then (if (t489.length : Int) = (t479.length : Int) then ((laws_b10All.f k t479).bind fun t501 => ((laws_b10All.f k t489).bind fun t502 => (laws_FnDiffused.j0 k (t488 == 1) (t501 != (wrap64 ((wrap64 (255 * t502)) + t492))) t479 t483 t484))) else (laws_FnDiffused.j0 k (t488 == 1) true t479 t483 t484)) else (laws_FnDiffused.j0 k (t488 == 1) true t479 t483 t484)) = some r := H
      have A29 := Aside0.mk A290
      clear A290
      by_cases c30 : t500 = true
      ·subst c30
       have H1 : (if (t489.length : Int) = (t479.length : Int) then ((laws_b10All.f k t479).bind fun t501 => ((laws_b10All.f k t489).bind fun t502 => (laws_FnDiffused.j0 k (t488 == 1) (t501 != (wrap64 ((wrap64 (255 * t502)) + t492))) t479 t483 t484))) else (laws_FnDiffused.j0 k (t488 == 1) true t479 t483 t484)) = some r := by rw [if_pos rfl] at H; exact H
       clear H
       have H := H1
       clear H1
       by_cases c31 : (t489.length : Int) = (t479.length : Int)
       ·rw [if_pos c31] at H
        have c31b0 : ((t489.length : Int) == (t479.length : Int)) = true := beq_iff_eq.mpr c31
        have c31b1 : ((t489.length : Int) != (t479.length : Int)) = false := bne_eq_false_iff_eq.mpr c31
        have c31b2 : (t489.length == t479.length) = true := by first | simpa using c31 | (simp at c31 ⊢; omega)
        clear c31
        (first | rw [c31b0] | (simp only [i64_w, i32_w]; rw [c31b0]) | skip)
        replace H := Option.bind_eq_some_iff.mp H
        obtain ⟨t501, A320, H⟩ := H
        replace H : ((laws_b10All.f k t489).bind fun t502 => (laws_FnDiffused.j0 k (t488 == 1) (t501 != (wrap64 ((wrap64 (255 * t502)) + t492))) t479 t483 t484)) = some r := H
        have A32 := Aside0.mk A320
        clear A320
        replace H := Option.bind_eq_some_iff.mp H
        obtain ⟨t502, A330, H⟩ := H
        replace H : (laws_FnDiffused.j0 k (t488 == 1) (t501 != (wrap64 ((wrap64 (255 * t502)) + t492))) t479 t483 t484) = some r := H
        have A33 := Aside0.mk A330
        clear A330
        have H' := Aside0.mk H
        clear H
        obtain ⟨Ao34, co34, eo34⟩ := Kd.S_slice HO499.out
        subst eo34
        go_wp2_with (first | (go_at_call 26; (with_reducible refine (laws_b10Tables.calls k _ _ t496 _ _ t489 true _ ?side1 ?side2 ?side3 ?side4 A29.out).mono ?_); (case side1 => repeat (first | exact (Kd.S_reads' HO499.out).2.2 | (with_reducible refine Kd.C_alloc ?_ _) | (with_reducible refine Kd.C_drewN ?_ _) | (with_reducible refine Kd.C_drew ?_))); (case side2 => exact (Kd.S_reads' HO499.out).2.1); (case side3 => repeat (first | exact (Kd.S_reads' HO491.out).2.2 | (with_reducible refine Kd.C_alloc ?_ _) | (with_reducible refine Kd.C_drewN ?_ _) | (with_reducible refine Kd.C_drew ?_))); (case side4 => exact (Kd.S_reads' HO491.out).2.1); rintro e w' ⟨rfl, ⟨nd, rfl⟩⟩; (try first | exact ⟨rfl, _, World.drewN_drewN _ _ _⟩ | exact ⟨rfl, _, Eq.trans (World.drewN_drewN _ _ _) (congrArg (World.drewN _) (Nat.add_assoc _ _ _))⟩); have hnb35 := NB482_487.out; have hnc35 := NB487_482.out; have hcz36_0 : w25.cell? ⟨gb482, 0, none⟩ = some (.slice Ao14 t479.length co14) := (blk_cell BK482.out 0).trans rfl; have hfz36_0 := blk_frozen BK482.out 0) | (go_at_call 27; (with_reducible refine (laws_b10All.calls k _ _ t479 t501 _ ?side1 ?side2 A32.out).mono ?_); (case side1 => repeat (first | exact (Kd.S_reads' HO481.out).2.2 | (with_reducible refine Kd.C_alloc ?_ _) | (with_reducible refine Kd.C_drewN ?_ _) | (with_reducible refine Kd.C_drew ?_))); (case side2 => exact (Kd.S_reads' HO481.out).2.1); rintro e w' ⟨rfl, ⟨nd, rfl⟩⟩; (try first | exact ⟨rfl, _, World.drewN_drewN _ _ _⟩ | exact ⟨rfl, _, Eq.trans (World.drewN_drewN _ _ _) (congrArg (World.drewN _) (Nat.add_assoc _ _ _))⟩)) | (go_at_call 27; (with_reducible refine (laws_b10All.calls k _ _ t489 t502 _ ?side1 ?side2 A33.out).mono ?_); (case side1 => repeat (first | exact (Kd.S_reads' HO491.out).2.2 | (with_reducible refine Kd.C_alloc ?_ _) | (with_reducible refine Kd.C_drewN ?_ _) | (with_reducible refine Kd.C_drew ?_))); (case side2 => exact (Kd.S_reads' HO491.out).2.1); rintro e w' ⟨rfl, ⟨nd, rfl⟩⟩; (try first | exact ⟨rfl, _, World.drewN_drewN _ _ _⟩ | exact ⟨rfl, _, Eq.trans (World.drewN_drewN _ _ _) (congrArg (World.drewN _) (Nat.add_assoc _ _ _))⟩)))
        repeat (go_quiet (first | (go_at_call 26; (with_reducible refine (laws_b10Tables.calls k _ _ t496 _ _ t489 true _ ?side1 ?side2 ?side3 ?side4 A29.out).mono ?_); (case side1 => repeat (first | exact (Kd.S_reads' HO499.out).2.2 | (with_reducible refine Kd.C_alloc ?_ _) | (with_reducible refine Kd.C_drewN ?_ _) | (with_reducible refine Kd.C_drew ?_))); (case side2 => exact (Kd.S_reads' HO499.out).2.1); (case side3 => repeat (first | exact (Kd.S_reads' HO491.out).2.2 | (with_reducible refine Kd.C_alloc ?_ _) | (with_reducible refine Kd.C_drewN ?_ _) | (with_reducible refine Kd.C_drew ?_))); (case side4 => exact (Kd.S_reads' HO491.out).2.1); rintro e w' ⟨rfl, ⟨nd, rfl⟩⟩; (try first | exact ⟨rfl, _, World.drewN_drewN _ _ _⟩ | exact ⟨rfl, _, Eq.trans (World.drewN_drewN _ _ _) (congrArg (World.drewN _) (Nat.add_assoc _ _ _))⟩); have hnb35 := NB482_487.out; have hnc35 := NB487_482.out; have hcz36_0 : w25.cell? ⟨gb482, 0, none⟩ = some (.slice Ao14 t479.length co14) := (blk_cell BK482.out 0).trans rfl; have hfz36_0 := blk_frozen BK482.out 0) | (go_at_call 27; (with_reducible refine (laws_b10All.calls k _ _ t479 t501 _ ?side1 ?side2 A32.out).mono ?_); (case side1 => repeat (first | exact (Kd.S_reads' HO481.out).2.2 | (with_reducible refine Kd.C_alloc ?_ _) | (with_reducible refine Kd.C_drewN ?_ _) | (with_reducible refine Kd.C_drew ?_))); (case side2 => exact (Kd.S_reads' HO481.out).2.1); rintro e w' ⟨rfl, ⟨nd, rfl⟩⟩; (try first | exact ⟨rfl, _, World.drewN_drewN _ _ _⟩ | exact ⟨rfl, _, Eq.trans (World.drewN_drewN _ _ _) (congrArg (World.drewN _) (Nat.add_assoc _ _ _))⟩)) | (go_at_call 27; (with_reducible refine (laws_b10All.calls k _ _ t489 t502 _ ?side1 ?side2 A33.out).mono ?_); (case side1 => repeat (first | exact (Kd.S_reads' HO491.out).2.2 | (with_reducible refine Kd.C_alloc ?_ _) | (with_reducible refine Kd.C_drewN ?_ _) | (with_reducible refine Kd.C_drew ?_))); (case side2 => exact (Kd.S_reads' HO491.out).2.1); rintro e w' ⟨rfl, ⟨nd, rfl⟩⟩; (try first | exact ⟨rfl, _, World.drewN_drewN _ _ _⟩ | exact ⟨rfl, _, Eq.trans (World.drewN_drewN _ _ _) (congrArg (World.drewN _) (Nat.add_assoc _ _ _))⟩))); try go_wp2_with (first | (go_at_call 26; (with_reducible refine (laws_b10Tables.calls k _ _ t496 _ _ t489 true _ ?side1 ?side2 ?side3 ?side4 A29.out).mono ?_); (case side1 => repeat (first | exact (Kd.S_reads' HO499.out).2.2 | (with_reducible refine Kd.C_alloc ?_ _) | (with_reducible refine Kd.C_drewN ?_ _) | (with_reducible refine Kd.C_drew ?_))); (case side2 => exact (Kd.S_reads' HO499.out).2.1); (case side3 => repeat (first | exact (Kd.S_reads' HO491.out).2.2 | (with_reducible refine Kd.C_alloc ?_ _) | (with_reducible refine Kd.C_drewN ?_ _) | (with_reducible refine Kd.C_drew ?_))); (case side4 => exact (Kd.S_reads' HO491.out).2.1); rintro e w' ⟨rfl, ⟨nd, rfl⟩⟩; (try first | exact ⟨rfl, _, World.drewN_drewN _ _ _⟩ | exact ⟨rfl, _, Eq.trans (World.drewN_drewN _ _ _) (congrArg (World.drewN _) (Nat.add_assoc _ _ _))⟩); have hnb35 := NB482_487.out; have hnc35 := NB487_482.out; have hcz36_0 : w25.cell? ⟨gb482, 0, none⟩ = some (.slice Ao14 t479.length co14) := (blk_cell BK482.out 0).trans rfl; have hfz36_0 := blk_frozen BK482.out 0) | (go_at_call 27; (with_reducible refine (laws_b10All.calls k _ _ t479 t501 _ ?side1 ?side2 A32.out).mono ?_); (case side1 => repeat (first | exact (Kd.S_reads' HO481.out).2.2 | (with_reducible refine Kd.C_alloc ?_ _) | (with_reducible refine Kd.C_drewN ?_ _) | (with_reducible refine Kd.C_drew ?_))); (case side2 => exact (Kd.S_reads' HO481.out).2.1); rintro e w' ⟨rfl, ⟨nd, rfl⟩⟩; (try first | exact ⟨rfl, _, World.drewN_drewN _ _ _⟩ | exact ⟨rfl, _, Eq.trans (World.drewN_drewN _ _ _) (congrArg (World.drewN _) (Nat.add_assoc _ _ _))⟩)) | (go_at_call 27; (with_reducible refine (laws_b10All.calls k _ _ t489 t502 _ ?side1 ?side2 A33.out).mono ?_); (case side1 => repeat (first | exact (Kd.S_reads' HO491.out).2.2 | (with_reducible refine Kd.C_alloc ?_ _) | (with_reducible refine Kd.C_drewN ?_ _) | (with_reducible refine Kd.C_drew ?_))); (case side2 => exact (Kd.S_reads' HO491.out).2.1); rintro e w' ⟨rfl, ⟨nd, rfl⟩⟩; (try first | exact ⟨rfl, _, World.drewN_drewN _ _ _⟩ | exact ⟨rfl, _, Eq.trans (World.drewN_drewN _ _ _) (congrArg (World.drewN _) (Nat.add_assoc _ _ _))⟩))))
        go_meet
        case rel => exact ⟨_, ((t501 != (wrap64 ((wrap64 (255 * t502)) + t492)))), (by first | rfl | (simp; done) | (simp [*]; done)), H', ⟨by first | omega | exact Nat.le_refl _⟩, ⟨by (with_reducible repeat (first | apply Kd.S_alloc | apply Kd.S_drewN | apply Kd.S_drew)); exact Kd.S_mono HO481.out (fun _ hk => trivial)⟩, ⟨rr_ HO486⟩, ⟨bk_ BK482⟩, ⟨bk_ BK487⟩, ⟨bl_ HB⟩⟩
       ·exact absurd (((if_neg c31).symm.trans H).trans (congrArg some hr_)) (by apply laws_FnDiffused.j0_no)
      ·replace c30 := Bool.eq_false_iff.mpr c30
       subst c30
       have H1 : (laws_FnDiffused.j0 k (t488 == 1) true t479 t483 t484) = some r := by rw [if_neg (show ¬ (false = true) by decide)] at H; exact H
       exact absurd (H1.trans (congrArg some hr_)) (by apply laws_FnDiffused.j0_no)
     ·replace c28 := Bool.eq_false_iff.mpr c28
      subst c28
      have H1 : (laws_FnDiffused.j0 k (t488 == 1) true t479 t483 t484) = some r := by rw [if_neg (show ¬ (false = true) by decide)] at H; exact H
      exact absurd (H1.trans (congrArg some hr_)) (by apply laws_FnDiffused.j0_no)
    ·replace c27 := Bool.eq_false_iff.mpr c27
     subst c27
     have H1 : (laws_FnDiffused.j0 k (t488 == 1) true t479 t483 t484) = some r := by rw [if_neg (show ¬ (false = true) by decide)] at H; exact H
     exact absurd (H1.trans (congrArg some hr_)) (by apply laws_FnDiffused.j0_no)
   ·replace c26 := Bool.eq_false_iff.mpr c26
    subst c26
    have H1 : (laws_FnDiffused.j0 k (t488 == 1) true t479 t483 t484) = some r := by rw [if_neg (show ¬ (false = true) by decide)] at H; exact H
    exact absurd (H1.trans (congrArg some hr_)) (by apply laws_FnDiffused.j0_no)
  case rest =>
   clear HC11
   try clear c1
   try clear c2
   try clear p2
   try clear c3
   try clear c4
   try clear c5
   try clear p6
   try clear c18
   try clear c26
   try clear c27
   try clear c28
   try clear c30
   try clear c31
   try clear c31b0
   try clear c31b1
   try clear c31b2
   try clear c35
   try clear c38
   try clear hcz15_0
   try clear hcz19_0
   try clear hcz19_1
   try clear hcz21_0
   try clear hcz36_0
   try clear hcz39_0
   try clear hfz15_0
   try clear hfz19_0
   try clear hfz19_1
   try clear hfz21_0
   try clear hfz36_0
   try clear hfz39_0
   obtain ⟨kq, x85_10, rfl, HA, HJ10, HO_483000, HO_488001, BK482, BK487, HB⟩ := hcut
   cases kq with
   | zero => exact absurd HA.out (by simp [laws_FnDiffused.j0])
   | succ kj10 =>
    have H := HA.out
    clear HA
    simp only [laws_FnDiffused.j0] at H
    by_cases c41 : x85_10 = true
    ·subst c41
     have H1 : (some false) = some r := by rw [if_pos rfl] at H; exact H
     exact absurd (H1.trans (congrArg some hr_)) (by simp)
    ·replace c41 := Bool.eq_false_iff.mpr c41
     subst c41
     have H1 : ((impl_KernelOf.f 2).bind fun bt503 => ((impl_DiffuseDither.f kj10 t479 bt503.1 bt503.2.1 (t488 == 1)).bind fun bt509 => (if bt503.2.2 = true then (if bt509.2.2 = true then (laws_FnDiffused.j1 kj10 bt509.1 bt509.2.1 ((bt509.1.length : Int) != (t479.length : Int)) t479 t483 t484) else (laws_FnDiffused.j1 kj10 bt509.1 bt509.2.1 true t479 t483 t484)) else (laws_FnDiffused.j1 kj10 bt509.1 bt509.2.1 true t479 t483 t484)))) = some r := by rw [if_neg (show ¬ (false = true) by decide)] at H; exact H
     clear H
     have H := H1
     clear H1
     replace H := Option.bind_eq_some_iff.mp H
     obtain ⟨⟨t503, t504, t507⟩, A420, H⟩ := H
     replace H : ((impl_DiffuseDither.f kj10 t479 t503 t504 (t488 == 1)).bind fun bt509 => (if t507 = true then (if bt509.2.2 = true then (laws_FnDiffused.j1 kj10 bt509.1 bt509.2.1 ((bt509.1.length : Int) != (t479.length : Int)) t479 t483 t484) else (laws_FnDiffused.j1 kj10 bt509.1 bt509.2.1 true t479 t483 t484)) else (laws_FnDiffused.j1 kj10 bt509.1 bt509.2.1 true t479 t483 t484))) = some r := H
     have A42 := Aside0.mk A420
     clear A420
     replace H := Option.bind_eq_some_iff.mp H
     obtain ⟨⟨t509, t512, t513⟩, A430, H⟩ := H
     replace H : (if t507 = true then (if t513 = true then (laws_FnDiffused.j1 kj10 t509 t512 ((t509.length : Int) != (t479.length : Int)) t479 t483 t484) else (laws_FnDiffused.j1 kj10 t509 t512 true t479 t483 t484)) else (laws_FnDiffused.j1 kj10 t509 t512 true t479 t483 t484)) = some r := H
     have A43 := Aside0.mk A430
     clear A430
     have HC44 := Aside0.mk H
     clear H
     go_upto_region 13 with (first | (go_at_call 28; (with_reducible refine (impl_KernelOf.calls 2 t503 t504 t507 _ A42.out).mono ?_); rintro e w45 ⟨v505, rfl, ho0, hb⟩; have n0_ := Aside0.mk (Kd.S_below (ss_ HO_483000) hb); have n1_ := Aside0.mk (Kd.R_elder' (rr_ HO_488001) (Kd.R_base ho0) hb); have n2_ := Aside0.mk (Kd.R_lower (Kd.R_new' ho0 (Kd.R_lt (rr_ HO_488001))) (below_size (bl_ HB))); have n3_ := Aside0.mk (blk_below (g := gb482) (o := .cells #[.slice Ao14 t479.length co14] 37 (0, 0)) (bk_ BK482) hb); have n4_ := Aside0.mk (blk_below (g := gb487) (o := .cells #[.int .i64 t483, .slice Ao20 t484.length co20] 41 (0, 0)) (bk_ BK487) hb); have n5_ := Aside0.mk (below_step (bl_ HB) hb); clear HO_483000; clear HO_488001; clear BK482; clear BK487; clear HB; have HO_483000 := n0_; have HO_488001 := n1_; have HO506 := n2_; have BK482 := n3_; have BK487 := n4_; have HB := n5_; clear n0_ n1_ n2_ n3_ n4_ n5_; (try clear hb); (try clear hb2); (try clear hk); (try clear hi); (try clear ho0)) | ((with_reducible refine gate_dst (N := 15) rfl ?_); (try (refine gate_guard (by rfl) ?_; dsimp only)); refine box_event ?hg (N := 15) ?hd (cs := #[.int .i64 0, .slice none 0 0]) (t := 41) ?hr ?_; (case hd => rfl); (case hg => rfl); (case hr => first | (go_simp; done) | (go_simp; rfl)); intro gb508 hg w46 hbox hb; have n0_ := Aside0.mk (Kd.S_below (ss_ HO_483000) hb); have n1_ := Aside0.mk (Kd.R_below (rr_ HO_488001) hb); have n2_ := Aside0.mk (Kd.R_below (rr_ HO506) hb); have n3_ := Aside0.mk (blk_below (g := gb482) (o := .cells #[.slice Ao14 t479.length co14] 37 (0, 0)) (bk_ BK482) hb); have n4_ := Aside0.mk (blk_below (g := gb487) (o := .cells #[.int .i64 t483, .slice Ao20 t484.length co20] 41 (0, 0)) (bk_ BK487) hb); have n5_ := Aside0.mk (below_step (bl_ HB) hb); have n6_ := Aside0.mk (hbox); have n7_ := Aside0.mk ((by rw [hg]; exact (below_size (bl_ HB)) : w.heap.size ≤ gb508)); have n8_ := Aside0.mk ((by rw [hg]; exact (below_size (bl_ HB)) : w.heap.size ≤ gb508)); have n9_ := Aside0.mk ((by rw [hg]; exact Nat.ne_of_lt (blk_lt (g := gb482) (o := .cells #[.slice Ao14 t479.length co14] 37 (0, 0)) (bk_ BK482)) : gb482 ≠ gb508)); have n10_ := Aside0.mk ((by rw [hg]; exact Nat.ne_of_gt (blk_lt (g := gb482) (o := .cells #[.slice Ao14 t479.length co14] 37 (0, 0)) (bk_ BK482)) : gb508 ≠ gb482)); have n11_ := Aside0.mk ((by rw [hg]; exact Nat.ne_of_lt (blk_lt (g := gb487) (o := .cells #[.int .i64 t483, .slice Ao20 t484.length co20] 41 (0, 0)) (bk_ BK487)) : gb487 ≠ gb508)); have n12_ := Aside0.mk ((by rw [hg]; exact Nat.ne_of_gt (blk_lt (g := gb487) (o := .cells #[.int .i64 t483, .slice Ao20 t484.length co20] 41 (0, 0)) (bk_ BK487)) : gb508 ≠ gb487)); clear HO_483000; clear HO_488001; clear HO506; clear BK482; clear BK487; clear HB; have HO_483000 := n0_; have HO_488001 := n1_; have HO506 := n2_; have BK482 := n3_; have BK487 := n4_; have HB := n5_; have BK508 := n6_; have GW508 := n7_; have GE508 := n8_; have NB482_508 := n9_; have NB508_482 := n10_; have NB487_508 := n11_; have NB508_487 := n12_; clear n0_ n1_ n2_ n3_ n4_ n5_ n6_ n7_ n8_ n9_ n10_ n11_ n12_; clear hb hbox hg; have hnb47 := NB508_482.out; have hnc47 := NB482_508.out; have hnb48 := NB508_487.out; have hnc48 := NB487_508.out; have hcz49_0 : w46.cell? ⟨gb508, 0, none⟩ = some (.int .i64 0) := (blk_cell BK508.out 0).trans rfl; have hcz49_1 : w46.cell? ⟨gb508, 1, none⟩ = some (.slice none 0 0) := (blk_cell BK508.out 1).trans rfl; have hfz49_0 := blk_frozen BK508.out 0; have hfz49_1 := blk_frozen BK508.out 1; obtain ⟨Ao50, co50, eo50⟩ := Kd.R_slice HO506.out; subst eo50; have hnb51 := NB482_487.out; have hnc51 := NB487_482.out; have hcz52_0 : w46.cell? ⟨gb482, 0, none⟩ = some (.slice Ao14 t479.length co14) := (blk_cell BK482.out 0).trans rfl; have hfz52_0 := blk_frozen BK482.out 0) | (go_at_call 16; (with_reducible refine (impl_DiffuseDither.calls kj10 _ _ t479 t503 _ _ t504 (t488 == 1) t509 t512 t513 _ ?side1 ?side2 ?side3 ?side4 A43.out).mono ?_); (case side1 => refine (Kd.S_reads' (e := 58) (base := w.heap.size) (ok := fun k_ => True) (n := t479.length) (c := co14) ?_).2.2; exact (by (with_reducible repeat (first | apply Kd.S_alloc | apply Kd.S_drewN | apply Kd.S_drew)); exact (Kd.S_mono (Kd.S_far (p := ⟨gb508, 1, none⟩) (Kd.S_far (p := ⟨gb508, 0, none⟩) (Kd.S_types HO_483000.out BK508.out (by decide)) (fun _ hk => hk.2) (.int .i64 t503)) (fun _ hk => hk.2) (.slice Ao50 t504.length co50)) (fun _ h_ => h_.1)))); (case side2 => exact (Kd.S_reads' HO_483000.out).2.1); (case side3 => refine (Kd.R_reads' (e := 79) (base := w.heap.size) (ok := fun k_ => (True ∧ some k_ ≠ (.slice Ao20 t484.length co20 : Value).ownBlock)) (n := t504.length) (c := co50) ?_).2.2; exact (by (with_reducible repeat (first | apply Kd.R_alloc | apply Kd.R_drewN | apply Kd.R_drew)); exact (Kd.R_mono (Kd.R_far (p := ⟨gb508, 1, none⟩) (Kd.R_far (p := ⟨gb508, 0, none⟩) (Kd.R_types HO506.out BK508.out (by decide)) (fun _ hk => hk.2) (.int .i64 t503)) (fun _ hk => hk.2) (.slice Ao50 t504.length co50)) (fun _ h_ => h_.1)))); (case side4 => exact (Kd.R_reads' HO506.out).2.1); rintro e w53 ⟨v510, rfl, ho0, hb⟩; have n0_ := Aside0.mk (Kd.S_elder' (by (with_reducible repeat (first | apply Kd.S_alloc | apply Kd.S_drewN | apply Kd.S_drew)); exact (Kd.S_mono (Kd.S_far (p := ⟨gb508, 1, none⟩) (Kd.S_far (p := ⟨gb508, 0, none⟩) (Kd.S_types HO_483000.out BK508.out (by decide)) (fun _ hk => hk.2) (.int .i64 t503)) (fun _ hk => hk.2) (.slice Ao50 t504.length co50)) (fun _ h_ => h_.1))) (Kd.S_base ho0) hb); have n1_ := Aside0.mk (Kd.R_below (by (with_reducible repeat (first | apply Kd.R_alloc | apply Kd.R_drewN | apply Kd.R_drew)); exact (Kd.R_mono (Kd.R_far (p := ⟨gb508, 1, none⟩) (Kd.R_far (p := ⟨gb508, 0, none⟩) (Kd.R_types HO_488001.out BK508.out (by decide)) (fun _ hk => hk.2) (.int .i64 t503)) (fun _ hk => hk.2) (.slice Ao50 t504.length co50)) (fun _ h_ => h_.1))) hb); have n2_ := Aside0.mk (Kd.R_below (by (with_reducible repeat (first | apply Kd.R_alloc | apply Kd.R_drewN | apply Kd.R_drew)); exact (Kd.R_mono (Kd.R_far (p := ⟨gb508, 1, none⟩) (Kd.R_far (p := ⟨gb508, 0, none⟩) (Kd.R_types HO506.out BK508.out (by decide)) (fun _ hk => hk.2) (.int .i64 t503)) (fun _ hk => hk.2) (.slice Ao50 t504.length co50)) (fun _ h_ => h_.1))) hb); have n3_ := Aside0.mk (Kd.S_lower (Kd.S_new' ho0 (Kd.S_lt (by (with_reducible repeat (first | apply Kd.S_alloc | apply Kd.S_drewN | apply Kd.S_drew)); exact (Kd.S_mono (Kd.S_far (p := ⟨gb508, 1, none⟩) (Kd.S_far (p := ⟨gb508, 0, none⟩) (Kd.S_types HO_483000.out BK508.out (by decide)) (fun _ hk => hk.2) (.int .i64 t503)) (fun _ hk => hk.2) (.slice Ao50 t504.length co50)) (fun _ h_ => h_.1))))) (below_size (bl_ HB))); have n4_ := Aside0.mk (blk_below (g := gb482) (o := .cells #[.slice Ao14 t479.length co14] 37 (0, 0)) (by (with_reducible repeat (first | refine blk_drewN ?_ _ | refine blk_drew ?_ | refine blk_alloc ?_ _)); refine blk_far ?_ NB482_508.out _; (with_reducible repeat (first | refine blk_drewN ?_ _ | refine blk_drew ?_ | refine blk_alloc ?_ _)); refine blk_far ?_ NB482_508.out _; (with_reducible repeat (first | refine blk_drewN ?_ _ | refine blk_drew ?_ | refine blk_alloc ?_ _)); exact BK482.out) hb); have n5_ := Aside0.mk (blk_below (g := gb487) (o := .cells #[.int .i64 t483, .slice Ao20 t484.length co20] 41 (0, 0)) (by (with_reducible repeat (first | refine blk_drewN ?_ _ | refine blk_drew ?_ | refine blk_alloc ?_ _)); refine blk_far ?_ NB487_508.out _; (with_reducible repeat (first | refine blk_drewN ?_ _ | refine blk_drew ?_ | refine blk_alloc ?_ _)); refine blk_far ?_ NB487_508.out _; (with_reducible repeat (first | refine blk_drewN ?_ _ | refine blk_drew ?_ | refine blk_alloc ?_ _)); exact BK487.out) hb); have n6_ := Aside0.mk (blk_below (g := gb508) (o := .cells #[.int .i64 t503, .slice Ao50 t504.length co50] 41 (0, 0)) (by (with_reducible repeat (first | refine blk_drewN ?_ _ | refine blk_drew ?_ | refine blk_alloc ?_ _)); refine blk_put (cs := #[.int .i64 t503, .slice none 0 0]) ?_ 1 _ rfl; (with_reducible repeat (first | refine blk_drewN ?_ _ | refine blk_drew ?_ | refine blk_alloc ?_ _)); refine blk_put (cs := #[.int .i64 0, .slice none 0 0]) ?_ 0 _ rfl; (with_reducible repeat (first | refine blk_drewN ?_ _ | refine blk_drew ?_ | refine blk_alloc ?_ _)); exact BK508.out) hb); have n7_ := Aside0.mk (below_step (bl_ HB) hb); clear HO_483000; clear HO_488001; clear HO506; clear BK482; clear BK487; clear BK508; clear HB; have HO_483000 := n0_; have HO_488001 := n1_; have HO506 := n2_; have HO511 := n3_; have BK482 := n4_; have BK487 := n5_; have BK508 := n6_; have HB := n7_; clear n0_ n1_ n2_ n3_ n4_ n5_ n6_ n7_; (try clear hb); (try clear hb2); (try clear hk); (try clear hi); (try clear ho0)))
     repeat (go_quiet (first | (go_at_call 28; (with_reducible refine (impl_KernelOf.calls 2 t503 t504 t507 _ A42.out).mono ?_); rintro e w45 ⟨v505, rfl, ho0, hb⟩; have n0_ := Aside0.mk (Kd.S_below (ss_ HO_483000) hb); have n1_ := Aside0.mk (Kd.R_elder' (rr_ HO_488001) (Kd.R_base ho0) hb); have n2_ := Aside0.mk (Kd.R_lower (Kd.R_new' ho0 (Kd.R_lt (rr_ HO_488001))) (below_size (bl_ HB))); have n3_ := Aside0.mk (blk_below (g := gb482) (o := .cells #[.slice Ao14 t479.length co14] 37 (0, 0)) (bk_ BK482) hb); have n4_ := Aside0.mk (blk_below (g := gb487) (o := .cells #[.int .i64 t483, .slice Ao20 t484.length co20] 41 (0, 0)) (bk_ BK487) hb); have n5_ := Aside0.mk (below_step (bl_ HB) hb); clear HO_483000; clear HO_488001; clear BK482; clear BK487; clear HB; have HO_483000 := n0_; have HO_488001 := n1_; have HO506 := n2_; have BK482 := n3_; have BK487 := n4_; have HB := n5_; clear n0_ n1_ n2_ n3_ n4_ n5_; (try clear hb); (try clear hb2); (try clear hk); (try clear hi); (try clear ho0)) | ((with_reducible refine gate_dst (N := 15) rfl ?_); (try (refine gate_guard (by rfl) ?_; dsimp only)); refine box_event ?hg (N := 15) ?hd (cs := #[.int .i64 0, .slice none 0 0]) (t := 41) ?hr ?_; (case hd => rfl); (case hg => rfl); (case hr => first | (go_simp; done) | (go_simp; rfl)); intro gb508 hg w46 hbox hb; have n0_ := Aside0.mk (Kd.S_below (ss_ HO_483000) hb); have n1_ := Aside0.mk (Kd.R_below (rr_ HO_488001) hb); have n2_ := Aside0.mk (Kd.R_below (rr_ HO506) hb); have n3_ := Aside0.mk (blk_below (g := gb482) (o := .cells #[.slice Ao14 t479.length co14] 37 (0, 0)) (bk_ BK482) hb); have n4_ := Aside0.mk (blk_below (g := gb487) (o := .cells #[.int .i64 t483, .slice Ao20 t484.length co20] 41 (0, 0)) (bk_ BK487) hb); have n5_ := Aside0.mk (below_step (bl_ HB) hb); have n6_ := Aside0.mk (hbox); have n7_ := Aside0.mk ((by rw [hg]; exact (below_size (bl_ HB)) : w.heap.size ≤ gb508)); have n8_ := Aside0.mk ((by rw [hg]; exact (below_size (bl_ HB)) : w.heap.size ≤ gb508)); have n9_ := Aside0.mk ((by rw [hg]; exact Nat.ne_of_lt (blk_lt (g := gb482) (o := .cells #[.slice Ao14 t479.length co14] 37 (0, 0)) (bk_ BK482)) : gb482 ≠ gb508)); have n10_ := Aside0.mk ((by rw [hg]; exact Nat.ne_of_gt (blk_lt (g := gb482) (o := .cells #[.slice Ao14 t479.length co14] 37 (0, 0)) (bk_ BK482)) : gb508 ≠ gb482)); have n11_ := Aside0.mk ((by rw [hg]; exact Nat.ne_of_lt (blk_lt (g := gb487) (o := .cells #[.int .i64 t483, .slice Ao20 t484.length co20] 41 (0, 0)) (bk_ BK487)) : gb487 ≠ gb508)); have n12_ := Aside0.mk ((by rw [hg]; exact Nat.ne_of_gt (blk_lt (g := gb487) (o := .cells #[.int .i64 t483, .slice Ao20 t484.length co20] 41 (0, 0)) (bk_ BK487)) : gb508 ≠ gb487)); clear HO_483000; clear HO_488001; clear HO506; clear BK482; clear BK487; clear HB; have HO_483000 := n0_; have HO_488001 := n1_; have HO506 := n2_; have BK482 := n3_; have BK487 := n4_; have HB := n5_; have BK508 := n6_; have GW508 := n7_; have GE508 := n8_; have NB482_508 := n9_; have NB508_482 := n10_; have NB487_508 := n11_; have NB508_487 := n12_; clear n0_ n1_ n2_ n3_ n4_ n5_ n6_ n7_ n8_ n9_ n10_ n11_ n12_; clear hb hbox hg; have hnb47 := NB508_482.out; have hnc47 := NB482_508.out; have hnb48 := NB508_487.out; have hnc48 := NB487_508.out; have hcz49_0 : w46.cell? ⟨gb508, 0, none⟩ = some (.int .i64 0) := (blk_cell BK508.out 0).trans rfl; have hcz49_1 : w46.cell? ⟨gb508, 1, none⟩ = some (.slice none 0 0) := (blk_cell BK508.out 1).trans rfl; have hfz49_0 := blk_frozen BK508.out 0; have hfz49_1 := blk_frozen BK508.out 1; obtain ⟨Ao50, co50, eo50⟩ := Kd.R_slice HO506.out; subst eo50; have hnb51 := NB482_487.out; have hnc51 := NB487_482.out; have hcz52_0 : w46.cell? ⟨gb482, 0, none⟩ = some (.slice Ao14 t479.length co14) := (blk_cell BK482.out 0).trans rfl; have hfz52_0 := blk_frozen BK482.out 0) | (go_at_call 16; (with_reducible refine (impl_DiffuseDither.calls kj10 _ _ t479 t503 _ _ t504 (t488 == 1) t509 t512 t513 _ ?side1 ?side2 ?side3 ?side4 A43.out).mono ?_); (case side1 => refine (Kd.S_reads' (e := 58) (base := w.heap.size) (ok := fun k_ => True) (n := t479.length) (c := co14) ?_).2.2; exact (by (with_reducible repeat (first | apply Kd.S_alloc | apply Kd.S_drewN | apply Kd.S_drew)); exact (Kd.S_mono (Kd.S_far (p := ⟨gb508, 1, none⟩) (Kd.S_far (p := ⟨gb508, 0, none⟩) (Kd.S_types HO_483000.out BK508.out (by decide)) (fun _ hk => hk.2) (.int .i64 t503)) (fun _ hk => hk.2) (.slice Ao50 t504.length co50)) (fun _ h_ => h_.1)))); (case side2 => exact (Kd.S_reads' HO_483000.out).2.1); (case side3 => refine (Kd.R_reads' (e := 79) (base := w.heap.size) (ok := fun k_ => (True ∧ some k_ ≠ (.slice Ao20 t484.length co20 : Value).ownBlock)) (n := t504.length) (c := co50) ?_).2.2; exact (by (with_reducible repeat (first | apply Kd.R_alloc | apply Kd.R_drewN | apply Kd.R_drew)); exact (Kd.R_mono (Kd.R_far (p := ⟨gb508, 1, none⟩) (Kd.R_far (p := ⟨gb508, 0, none⟩) (Kd.R_types HO506.out BK508.out (by decide)) (fun _ hk => hk.2) (.int .i64 t503)) (fun _ hk => hk.2) (.slice Ao50 t504.length co50)) (fun _ h_ => h_.1)))); (case side4 => exact (Kd.R_reads' HO506.out).2.1); rintro e w53 ⟨v510, rfl, ho0, hb⟩; have n0_ := Aside0.mk (Kd.S_elder' (by (with_reducible repeat (first | apply Kd.S_alloc | apply Kd.S_drewN | apply Kd.S_drew)); exact (Kd.S_mono (Kd.S_far (p := ⟨gb508, 1, none⟩) (Kd.S_far (p := ⟨gb508, 0, none⟩) (Kd.S_types HO_483000.out BK508.out (by decide)) (fun _ hk => hk.2) (.int .i64 t503)) (fun _ hk => hk.2) (.slice Ao50 t504.length co50)) (fun _ h_ => h_.1))) (Kd.S_base ho0) hb); have n1_ := Aside0.mk (Kd.R_below (by (with_reducible repeat (first | apply Kd.R_alloc | apply Kd.R_drewN | apply Kd.R_drew)); exact (Kd.R_mono (Kd.R_far (p := ⟨gb508, 1, none⟩) (Kd.R_far (p := ⟨gb508, 0, none⟩) (Kd.R_types HO_488001.out BK508.out (by decide)) (fun _ hk => hk.2) (.int .i64 t503)) (fun _ hk => hk.2) (.slice Ao50 t504.length co50)) (fun _ h_ => h_.1))) hb); have n2_ := Aside0.mk (Kd.R_below (by (with_reducible repeat (first | apply Kd.R_alloc | apply Kd.R_drewN | apply Kd.R_drew)); exact (Kd.R_mono (Kd.R_far (p := ⟨gb508, 1, none⟩) (Kd.R_far (p := ⟨gb508, 0, none⟩) (Kd.R_types HO506.out BK508.out (by decide)) (fun _ hk => hk.2) (.int .i64 t503)) (fun _ hk => hk.2) (.slice Ao50 t504.length co50)) (fun _ h_ => h_.1))) hb); have n3_ := Aside0.mk (Kd.S_lower (Kd.S_new' ho0 (Kd.S_lt (by (with_reducible repeat (first | apply Kd.S_alloc | apply Kd.S_drewN | apply Kd.S_drew)); exact (Kd.S_mono (Kd.S_far (p := ⟨gb508, 1, none⟩) (Kd.S_far (p := ⟨gb508, 0, none⟩) (Kd.S_types HO_483000.out BK508.out (by decide)) (fun _ hk => hk.2) (.int .i64 t503)) (fun _ hk => hk.2) (.slice Ao50 t504.length co50)) (fun _ h_ => h_.1))))) (below_size (bl_ HB))); have n4_ := Aside0.mk (blk_below (g := gb482) (o := .cells #[.slice Ao14 t479.length co14] 37 (0, 0)) (by (with_reducible repeat (first | refine blk_drewN ?_ _ | refine blk_drew ?_ | refine blk_alloc ?_ _)); refine blk_far ?_ NB482_508.out _; (with_reducible repeat (first | refine blk_drewN ?_ _ | refine blk_drew ?_ | refine blk_alloc ?_ _)); refine blk_far ?_ NB482_508.out _; (with_reducible repeat (first | refine blk_drewN ?_ _ | refine blk_drew ?_ | refine blk_alloc ?_ _)); exact BK482.out) hb); have n5_ := Aside0.mk (blk_below (g := gb487) (o := .cells #[.int .i64 t483, .slice Ao20 t484.length co20] 41 (0, 0)) (by (with_reducible repeat (first | refine blk_drewN ?_ _ | refine blk_drew ?_ | refine blk_alloc ?_ _)); refine blk_far ?_ NB487_508.out _; (with_reducible repeat (first | refine blk_drewN ?_ _ | refine blk_drew ?_ | refine blk_alloc ?_ _)); refine blk_far ?_ NB487_508.out _; (with_reducible repeat (first | refine blk_drewN ?_ _ | refine blk_drew ?_ | refine blk_alloc ?_ _)); exact BK487.out) hb); have n6_ := Aside0.mk (blk_below (g := gb508) (o := .cells #[.int .i64 t503, .slice Ao50 t504.length co50] 41 (0, 0)) (by (with_reducible repeat (first | refine blk_drewN ?_ _ | refine blk_drew ?_ | refine blk_alloc ?_ _)); refine blk_put (cs := #[.int .i64 t503, .slice none 0 0]) ?_ 1 _ rfl; (with_reducible repeat (first | refine blk_drewN ?_ _ | refine blk_drew ?_ | refine blk_alloc ?_ _)); refine blk_put (cs := #[.int .i64 0, .slice none 0 0]) ?_ 0 _ rfl; (with_reducible repeat (first | refine blk_drewN ?_ _ | refine blk_drew ?_ | refine blk_alloc ?_ _)); exact BK508.out) hb); have n7_ := Aside0.mk (below_step (bl_ HB) hb); clear HO_483000; clear HO_488001; clear HO506; clear BK482; clear BK487; clear BK508; clear HB; have HO_483000 := n0_; have HO_488001 := n1_; have HO506 := n2_; have HO511 := n3_; have BK482 := n4_; have BK487 := n5_; have BK508 := n6_; have HB := n7_; clear n0_ n1_ n2_ n3_ n4_ n5_ n6_ n7_; (try clear hb); (try clear hb2); (try clear hk); (try clear hi); (try clear ho0))); go_upto_region 13 with (first | (go_at_call 28; (with_reducible refine (impl_KernelOf.calls 2 t503 t504 t507 _ A42.out).mono ?_); rintro e w45 ⟨v505, rfl, ho0, hb⟩; have n0_ := Aside0.mk (Kd.S_below (ss_ HO_483000) hb); have n1_ := Aside0.mk (Kd.R_elder' (rr_ HO_488001) (Kd.R_base ho0) hb); have n2_ := Aside0.mk (Kd.R_lower (Kd.R_new' ho0 (Kd.R_lt (rr_ HO_488001))) (below_size (bl_ HB))); have n3_ := Aside0.mk (blk_below (g := gb482) (o := .cells #[.slice Ao14 t479.length co14] 37 (0, 0)) (bk_ BK482) hb); have n4_ := Aside0.mk (blk_below (g := gb487) (o := .cells #[.int .i64 t483, .slice Ao20 t484.length co20] 41 (0, 0)) (bk_ BK487) hb); have n5_ := Aside0.mk (below_step (bl_ HB) hb); clear HO_483000; clear HO_488001; clear BK482; clear BK487; clear HB; have HO_483000 := n0_; have HO_488001 := n1_; have HO506 := n2_; have BK482 := n3_; have BK487 := n4_; have HB := n5_; clear n0_ n1_ n2_ n3_ n4_ n5_; (try clear hb); (try clear hb2); (try clear hk); (try clear hi); (try clear ho0)) | ((with_reducible refine gate_dst (N := 15) rfl ?_); (try (refine gate_guard (by rfl) ?_; dsimp only)); refine box_event ?hg (N := 15) ?hd (cs := #[.int .i64 0, .slice none 0 0]) (t := 41) ?hr ?_; (case hd => rfl); (case hg => rfl); (case hr => first | (go_simp; done) | (go_simp; rfl)); intro gb508 hg w46 hbox hb; have n0_ := Aside0.mk (Kd.S_below (ss_ HO_483000) hb); have n1_ := Aside0.mk (Kd.R_below (rr_ HO_488001) hb); have n2_ := Aside0.mk (Kd.R_below (rr_ HO506) hb); have n3_ := Aside0.mk (blk_below (g := gb482) (o := .cells #[.slice Ao14 t479.length co14] 37 (0, 0)) (bk_ BK482) hb); have n4_ := Aside0.mk (blk_below (g := gb487) (o := .cells #[.int .i64 t483, .slice Ao20 t484.length co20] 41 (0, 0)) (bk_ BK487) hb); have n5_ := Aside0.mk (below_step (bl_ HB) hb); have n6_ := Aside0.mk (hbox); have n7_ := Aside0.mk ((by rw [hg]; exact (below_size (bl_ HB)) : w.heap.size ≤ gb508)); have n8_ := Aside0.mk ((by rw [hg]; exact (below_size (bl_ HB)) : w.heap.size ≤ gb508)); have n9_ := Aside0.mk ((by rw [hg]; exact Nat.ne_of_lt (blk_lt (g := gb482) (o := .cells #[.slice Ao14 t479.length co14] 37 (0, 0)) (bk_ BK482)) : gb482 ≠ gb508)); have n10_ := Aside0.mk ((by rw [hg]; exact Nat.ne_of_gt (blk_lt (g := gb482) (o := .cells #[.slice Ao14 t479.length co14] 37 (0, 0)) (bk_ BK482)) : gb508 ≠ gb482)); have n11_ := Aside0.mk ((by rw [hg]; exact Nat.ne_of_lt (blk_lt (g := gb487) (o := .cells #[.int .i64 t483, .slice Ao20 t484.length co20] 41 (0, 0)) (bk_ BK487)) : gb487 ≠ gb508)); have n12_ := Aside0.mk ((by rw [hg]; exact Nat.ne_of_gt (blk_lt (g := gb487) (o := .cells #[.int .i64 t483, .slice Ao20 t484.length co20] 41 (0, 0)) (bk_ BK487)) : gb508 ≠ gb487)); clear HO_483000; clear HO_488001; clear HO506; clear BK482; clear BK487; clear HB; have HO_483000 := n0_; have HO_488001 := n1_; have HO506 := n2_; have BK482 := n3_; have BK487 := n4_; have HB := n5_; have BK508 := n6_; have GW508 := n7_; have GE508 := n8_; have NB482_508 := n9_; have NB508_482 := n10_; have NB487_508 := n11_; have NB508_487 := n12_; clear n0_ n1_ n2_ n3_ n4_ n5_ n6_ n7_ n8_ n9_ n10_ n11_ n12_; clear hb hbox hg; have hnb47 := NB508_482.out; have hnc47 := NB482_508.out; have hnb48 := NB508_487.out; have hnc48 := NB487_508.out; have hcz49_0 : w46.cell? ⟨gb508, 0, none⟩ = some (.int .i64 0) := (blk_cell BK508.out 0).trans rfl; have hcz49_1 : w46.cell? ⟨gb508, 1, none⟩ = some (.slice none 0 0) := (blk_cell BK508.out 1).trans rfl; have hfz49_0 := blk_frozen BK508.out 0; have hfz49_1 := blk_frozen BK508.out 1; obtain ⟨Ao50, co50, eo50⟩ := Kd.R_slice HO506.out; subst eo50; have hnb51 := NB482_487.out; have hnc51 := NB487_482.out; have hcz52_0 : w46.cell? ⟨gb482, 0, none⟩ = some (.slice Ao14 t479.length co14) := (blk_cell BK482.out 0).trans rfl; have hfz52_0 := blk_frozen BK482.out 0) | (go_at_call 16; (with_reducible refine (impl_DiffuseDither.calls kj10 _ _ t479 t503 _ _ t504 (t488 == 1) t509 t512 t513 _ ?side1 ?side2 ?side3 ?side4 A43.out).mono ?_); (case side1 => refine (Kd.S_reads' (e := 58) (base := w.heap.size) (ok := fun k_ => True) (n := t479.length) (c := co14) ?_).2.2; exact (by (with_reducible repeat (first | apply Kd.S_alloc | apply Kd.S_drewN | apply Kd.S_drew)); exact (Kd.S_mono (Kd.S_far (p := ⟨gb508, 1, none⟩) (Kd.S_far (p := ⟨gb508, 0, none⟩) (Kd.S_types HO_483000.out BK508.out (by decide)) (fun _ hk => hk.2) (.int .i64 t503)) (fun _ hk => hk.2) (.slice Ao50 t504.length co50)) (fun _ h_ => h_.1)))); (case side2 => exact (Kd.S_reads' HO_483000.out).2.1); (case side3 => refine (Kd.R_reads' (e := 79) (base := w.heap.size) (ok := fun k_ => (True ∧ some k_ ≠ (.slice Ao20 t484.length co20 : Value).ownBlock)) (n := t504.length) (c := co50) ?_).2.2; exact (by (with_reducible repeat (first | apply Kd.R_alloc | apply Kd.R_drewN | apply Kd.R_drew)); exact (Kd.R_mono (Kd.R_far (p := ⟨gb508, 1, none⟩) (Kd.R_far (p := ⟨gb508, 0, none⟩) (Kd.R_types HO506.out BK508.out (by decide)) (fun _ hk => hk.2) (.int .i64 t503)) (fun _ hk => hk.2) (.slice Ao50 t504.length co50)) (fun _ h_ => h_.1)))); (case side4 => exact (Kd.R_reads' HO506.out).2.1); rintro e w53 ⟨v510, rfl, ho0, hb⟩; have n0_ := Aside0.mk (Kd.S_elder' (by (with_reducible repeat (first | apply Kd.S_alloc | apply Kd.S_drewN | apply Kd.S_drew)); exact (Kd.S_mono (Kd.S_far (p := ⟨gb508, 1, none⟩) (Kd.S_far (p := ⟨gb508, 0, none⟩) (Kd.S_types HO_483000.out BK508.out (by decide)) (fun _ hk => hk.2) (.int .i64 t503)) (fun _ hk => hk.2) (.slice Ao50 t504.length co50)) (fun _ h_ => h_.1))) (Kd.S_base ho0) hb); have n1_ := Aside0.mk (Kd.R_below (by (with_reducible repeat (first | apply Kd.R_alloc | apply Kd.R_drewN | apply Kd.R_drew)); exact (Kd.R_mono (Kd.R_far (p := ⟨gb508, 1, none⟩) (Kd.R_far (p := ⟨gb508, 0, none⟩) (Kd.R_types HO_488001.out BK508.out (by decide)) (fun _ hk => hk.2) (.int .i64 t503)) (fun _ hk => hk.2) (.slice Ao50 t504.length co50)) (fun _ h_ => h_.1))) hb); have n2_ := Aside0.mk (Kd.R_below (by (with_reducible repeat (first | apply Kd.R_alloc | apply Kd.R_drewN | apply Kd.R_drew)); exact (Kd.R_mono (Kd.R_far (p := ⟨gb508, 1, none⟩) (Kd.R_far (p := ⟨gb508, 0, none⟩) (Kd.R_types HO506.out BK508.out (by decide)) (fun _ hk => hk.2) (.int .i64 t503)) (fun _ hk => hk.2) (.slice Ao50 t504.length co50)) (fun _ h_ => h_.1))) hb); have n3_ := Aside0.mk (Kd.S_lower (Kd.S_new' ho0 (Kd.S_lt (by (with_reducible repeat (first | apply Kd.S_alloc | apply Kd.S_drewN | apply Kd.S_drew)); exact (Kd.S_mono (Kd.S_far (p := ⟨gb508, 1, none⟩) (Kd.S_far (p := ⟨gb508, 0, none⟩) (Kd.S_types HO_483000.out BK508.out (by decide)) (fun _ hk => hk.2) (.int .i64 t503)) (fun _ hk => hk.2) (.slice Ao50 t504.length co50)) (fun _ h_ => h_.1))))) (below_size (bl_ HB))); have n4_ := Aside0.mk (blk_below (g := gb482) (o := .cells #[.slice Ao14 t479.length co14] 37 (0, 0)) (by (with_reducible repeat (first | refine blk_drewN ?_ _ | refine blk_drew ?_ | refine blk_alloc ?_ _)); refine blk_far ?_ NB482_508.out _; (with_reducible repeat (first | refine blk_drewN ?_ _ | refine blk_drew ?_ | refine blk_alloc ?_ _)); refine blk_far ?_ NB482_508.out _; (with_reducible repeat (first | refine blk_drewN ?_ _ | refine blk_drew ?_ | refine blk_alloc ?_ _)); exact BK482.out) hb); have n5_ := Aside0.mk (blk_below (g := gb487) (o := .cells #[.int .i64 t483, .slice Ao20 t484.length co20] 41 (0, 0)) (by (with_reducible repeat (first | refine blk_drewN ?_ _ | refine blk_drew ?_ | refine blk_alloc ?_ _)); refine blk_far ?_ NB487_508.out _; (with_reducible repeat (first | refine blk_drewN ?_ _ | refine blk_drew ?_ | refine blk_alloc ?_ _)); refine blk_far ?_ NB487_508.out _; (with_reducible repeat (first | refine blk_drewN ?_ _ | refine blk_drew ?_ | refine blk_alloc ?_ _)); exact BK487.out) hb); have n6_ := Aside0.mk (blk_below (g := gb508) (o := .cells #[.int .i64 t503, .slice Ao50 t504.length co50] 41 (0, 0)) (by (with_reducible repeat (first | refine blk_drewN ?_ _ | refine blk_drew ?_ | refine blk_alloc ?_ _)); refine blk_put (cs := #[.int .i64 t503, .slice none 0 0]) ?_ 1 _ rfl; (with_reducible repeat (first | refine blk_drewN ?_ _ | refine blk_drew ?_ | refine blk_alloc ?_ _)); refine blk_put (cs := #[.int .i64 0, .slice none 0 0]) ?_ 0 _ rfl; (with_reducible repeat (first | refine blk_drewN ?_ _ | refine blk_drew ?_ | refine blk_alloc ?_ _)); exact BK508.out) hb); have n7_ := Aside0.mk (below_step (bl_ HB) hb); clear HO_483000; clear HO_488001; clear HO506; clear BK482; clear BK487; clear BK508; clear HB; have HO_483000 := n0_; have HO_488001 := n1_; have HO506 := n2_; have HO511 := n3_; have BK482 := n4_; have BK487 := n5_; have BK508 := n6_; have HB := n7_; clear n0_ n1_ n2_ n3_ n4_ n5_ n6_ n7_; (try clear hb); (try clear hb2); (try clear hk); (try clear hi); (try clear ho0))))
     (try simp only [Act.put, List.setIfInBounds_toArray, List.set_cons_zero, List.set_cons_succ])
     go_cut [111] (fun v111 wc => ∃ (kq : Nat) (x111_43 : Bool), v111 = .bool x111_43 ∧ Aside0 (laws_FnDiffused.j1 kq t509 t512 x111_43 t479 t483 t484 = some r) ∧ Aside0 (kq ≤ kj10) ∧ Aside0 (Kd.S (Kd.slice 2 (Kd.int .i64)) 58 wc w.heap.size (fun k_ => some k_ ≠ ((.slice Ao14 t479.length co14) : Value).ownBlock) v510 t509) ∧ Aside0 (Kd.S (Kd.slice 2 (Kd.int .i64)) 58 wc w.heap.size (fun k_ => some k_ ≠ (v510 : Value).ownBlock) (.slice Ao14 t479.length co14) t479) ∧ Aside0 (Kd.R k79 79 wc w.heap.size (fun k_ => some k_ ≠ ((.slice Ao50 t504.length co50) : Value).ownBlock) (.slice Ao20 t484.length co20) t484) ∧ Aside0 (Kd.R k79 79 wc w.heap.size (fun k_ => some k_ ≠ ((.slice Ao20 t484.length co20) : Value).ownBlock) (.slice Ao50 t504.length co50) t504) ∧ Aside0 (wc.heap[gb482]? = some (.cells #[(.slice Ao14 t479.length co14)] 37 (0, 0))) ∧ Aside0 (wc.heap[gb487]? = some (.cells #[.int .i64 t483, (.slice Ao20 t484.length co20)] 41 (0, 0))) ∧ Aside0 (wc.heap[gb508]? = some (.cells #[.int .i64 t503, (.slice Ao50 t504.length co50)] 41 (0, 0))) ∧ Aside0 (Below w.heap.size w wc))
     case first =>
      have H := HC44.out
      clear HC44
      by_cases c54 : t507 = true
      ·subst c54
       have H1 : (if t513 = true then (laws_FnDiffused.j1 kj10 t509 t512 ((t509.length : Int) != (t479.length : Int)) t479 t483 t484) else (laws_FnDiffused.j1 kj10 t509 t512 true t479 t483 t484)) = some r := by rw [if_pos rfl] at H; exact H
       clear H
       have H := H1
       clear H1
       by_cases c55 : t513 = true
       ·subst c55
        have H1 : (laws_FnDiffused.j1 kj10 t509 t512 ((t509.length : Int) != (t479.length : Int)) t479 t483 t484) = some r := by rw [if_pos rfl] at H; exact H
        clear H
        have H := H1
        clear H1
        have H' := Aside0.mk H
        clear H
        obtain ⟨Ao56, co56, eo56⟩ := Kd.S_slice HO511.out
        subst eo56
        have hnb57 := NB482_487.out
        have hnc57 := NB487_482.out
        have hnb58 := NB482_508.out
        have hnc58 := NB508_482.out
        have hcz59_0 : w53.cell? ⟨gb482, 0, none⟩ = some (.slice Ao14 t479.length co14) := (blk_cell BK482.out 0).trans rfl
        have hfz59_0 := blk_frozen BK482.out 0
        go_wp2
        repeat (go_quiet (fail); try go_wp2)
        go_meet
        case rel => exact ⟨_, (((t509.length : Int) != (t479.length : Int))), (by first | rfl | (simp; done) | (simp [*]; done)), H', ⟨by have := HJ10.out; first | omega | exact Nat.le_refl _⟩, ⟨by (with_reducible repeat (first | apply Kd.S_alloc | apply Kd.S_drewN | apply Kd.S_drew)); exact Kd.S_mono HO511.out (fun _ hk => hk.2)⟩, ⟨by (with_reducible repeat (first | apply Kd.S_alloc | apply Kd.S_drewN | apply Kd.S_drew)); exact Kd.S_mono HO_483000.out (fun _ hk => hk.2)⟩, ⟨by (with_reducible repeat (first | apply Kd.R_alloc | apply Kd.R_drewN | apply Kd.R_drew)); exact Kd.R_mono HO_488001.out (fun _ hk => hk.2)⟩, ⟨by (with_reducible repeat (first | apply Kd.R_alloc | apply Kd.R_drewN | apply Kd.R_drew)); exact Kd.R_mono HO506.out (fun _ hk => hk.2)⟩, ⟨bk_ BK482⟩, ⟨bk_ BK487⟩, ⟨bk_ BK508⟩, ⟨bl_ HB⟩⟩
       ·replace c55 := Bool.eq_false_iff.mpr c55
        subst c55
        have H1 : (laws_FnDiffused.j1 kj10 t509 t512 true t479 t483 t484) = some r := by rw [if_neg (show ¬ (false = true) by decide)] at H; exact H
        exact absurd (H1.trans (congrArg some hr_)) (by apply laws_FnDiffused.j1_no)
      ·replace c54 := Bool.eq_false_iff.mpr c54
       subst c54
       have H1 : (laws_FnDiffused.j1 kj10 t509 t512 true t479 t483 t484) = some r := by rw [if_neg (show ¬ (false = true) by decide)] at H; exact H
       exact absurd (H1.trans (congrArg some hr_)) (by apply laws_FnDiffused.j1_no)
     case rest =>
      clear HC44
      try clear c1
      try clear c2
      try clear p2
      try clear c3
      try clear c4
      try clear c5
      try clear p6
      try clear c18
      try clear c26
      try clear c27
      try clear c28
      try clear c30
      try clear c31
      try clear c31b0
      try clear c31b1
      try clear c31b2
      try clear c35
      try clear c38
      try clear c41
      try clear c47
      try clear c48
      try clear c51
      try clear c54
      try clear c55
      try clear c57
      try clear c58
      try clear hcz15_0
      try clear hcz19_0
      try clear hcz19_1
      try clear hcz21_0
      try clear hcz36_0
      try clear hcz39_0
      try clear hcz49_0
      try clear hcz49_1
      try clear hcz52_0
      try clear hcz59_0
      try clear hfz15_0
      try clear hfz19_0
      try clear hfz19_1
      try clear hfz21_0
      try clear hfz36_0
      try clear hfz39_0
      try clear hfz49_0
      try clear hfz49_1
      try clear hfz52_0
      try clear hfz59_0
      try clear p2
      try clear p6
      obtain ⟨kq, x111_43, rfl, HA, HJ43, HO_17, HO_483000, HO_488001, HO_509001, BK482, BK487, BK508, HB⟩ := hcut
      cases kq with
      | zero => exact absurd HA.out (by simp [laws_FnDiffused.j1])
      | succ kj43 =>
       have H := HA.out
       clear HA
       simp only [laws_FnDiffused.j1] at H
       by_cases c60 : x111_43 = true
       ·subst c60
        have H1 : (some false) = some r := by rw [if_pos rfl] at H; exact H
        exact absurd (H1.trans (congrArg some hr_)) (by simp)
       ·replace c60 := Bool.eq_false_iff.mpr c60
        subst c60
        have H1 : (laws_FnDiffused.l0 kj43 t509 t512 0 0 t479 t483 t484) = some r := by rw [if_neg (show ¬ (false = true) by decide)] at H; exact H
        clear H
        have H := H1
        clear H1
        have H' := Aside0.mk H
        clear H
        go_wp2
        repeat (go_quiet (fail); try go_wp2)
        go_loopg [20, 21] kj43 (fun kq v20 v21 w' => ∃ (x20_3 : Int) (x21_3 : Int), v20 = .int .i64 x20_3 ∧ v21 = .int .i64 x21_3 ∧ Aside0 (laws_FnDiffused.l0 kq t509 t512 x20_3 x21_3 t479 t483 t484 = some r) ∧ Aside0 (kq ≤ kj43) ∧ Aside0 (Kd.S (Kd.slice 2 (Kd.int .i64)) 58 w' w.heap.size (fun k_ => some k_ ≠ ((.slice Ao14 t479.length co14) : Value).ownBlock) v510 t509) ∧ Aside0 (Kd.S (Kd.slice 2 (Kd.int .i64)) 58 w' w.heap.size (fun k_ => some k_ ≠ (v510 : Value).ownBlock) (.slice Ao14 t479.length co14) t479) ∧ Aside0 (Kd.R k79 79 w' w.heap.size (fun k_ => some k_ ≠ ((.slice Ao50 t504.length co50) : Value).ownBlock) (.slice Ao20 t484.length co20) t484) ∧ Aside0 (Kd.R k79 79 w' w.heap.size (fun k_ => some k_ ≠ ((.slice Ao20 t484.length co20) : Value).ownBlock) (.slice Ao50 t504.length co50) t504) ∧ Aside0 (w'.heap[gb482]? = some (.cells #[(.slice Ao14 t479.length co14)] 37 (0, 0))) ∧ Aside0 (w'.heap[gb487]? = some (.cells #[.int .i64 t483, (.slice Ao20 t484.length co20)] 41 (0, 0))) ∧ Aside0 (w'.heap[gb508]? = some (.cells #[.int .i64 t503, (.slice Ao50 t504.length co50)] 41 (0, 0))) ∧ Aside0 (Below w.heap.size w w'))
        case atStart => exact ⟨(0), (0), (by first | rfl | (simp; done) | (simp [*]; done)), (by first | rfl | (simp; done) | (simp [*]; done)), H', ⟨Nat.le_refl _⟩, ⟨ss_ HO_17⟩, ⟨ss_ HO_483000⟩, ⟨rr_ HO_488001⟩, ⟨rr_ HO_509001⟩, ⟨bk_ BK482⟩, ⟨bk_ BK487⟩, ⟨bk_ BK508⟩, ⟨bl_ HB⟩⟩
        case round =>
         clear H'
         try clear c1
         try clear c2
         try clear p2
         try clear c3
         try clear c4
         try clear c5
         try clear c6
         try clear p6
         try clear c18
         try clear c26
         try clear c27
         try clear c28
         try clear c30
         try clear c31
         try clear c31b0
         try clear c31b1
         try clear c31b2
         try clear c35
         try clear c38
         try clear c41
         try clear c47
         try clear c48
         try clear c51
         try clear c54
         try clear c55
         try clear c57
         try clear c58
         try clear c60
         try clear hcz15_0
         try clear hcz19_0
         try clear hcz19_1
         try clear hcz21_0
         try clear hcz36_0
         try clear hcz39_0
         try clear hcz49_0
         try clear hcz49_1
         try clear hcz52_0
         try clear hcz59_0
         try clear hfz15_0
         try clear hfz19_0
         try clear hfz19_1
         try clear hfz21_0
         try clear hfz36_0
         try clear hfz39_0
         try clear hfz49_0
         try clear hfz49_1
         try clear hfz52_0
         try clear hfz59_0
         try clear p2
         try clear p6
         obtain ⟨x20_3, x21_3, rfl, rfl, HA, HK3, HO_17, HO_483000, HO_488001, HO_509001, BK482, BK487, BK508, HB⟩ := hrel
         cases gk with
         | zero => exact absurd HA.out (by simp [laws_FnDiffused.l0])
         | succ k3 =>
          have H := HA.out
          clear HA
          simp only [laws_FnDiffused.l0] at H
          by_cases c61 : x21_3 < (t509.length : Int)
          ·rw [if_pos c61] at H
           have c61b0 : decide (x21_3 < (t509.length : Int)) = true := decide_eq_true c61
           clear c61
           by_cases c62 : 0 ≤ x21_3
           ·rw [if_pos c62] at H
            have c62b0 : decide (0 ≤ x21_3) = true := decide_eq_true c62
            clear c62
            by_cases c63 : x21_3 < (t479.length : Int)
            ·rw [if_pos c63] at H
             have c63b0 : decide (x21_3 < (t479.length : Int)) = true := decide_eq_true c63
             clear c63
             by_cases c64 : ((rd_L1 t509 x21_3).length : Int) = ((rd_L1 t479 x21_3).length : Int)
             ·rw [if_pos c64] at H
              have c64b0 : (((rd_L1 t509 x21_3).length : Int) == ((rd_L1 t479 x21_3).length : Int)) = true := beq_iff_eq.mpr c64
              have c64b1 : (((rd_L1 t509 x21_3).length : Int) != ((rd_L1 t479 x21_3).length : Int)) = false := bne_eq_false_iff_eq.mpr c64
              have c64b2 : ((rd_L1 t509 x21_3).length == (rd_L1 t479 x21_3).length) = true := by first | simpa using c64 | (simp at c64 ⊢; omega)
              clear c64
              replace H := Option.bind_eq_some_iff.mp H
              obtain ⟨t518, A650, H⟩ := H
              replace H : ((laws_b10Sum.f k3 (rd_L1 t509 x21_3)).bind fun t520 => ((laws_b10Abs.f (wrap64 (t518 - (wrap64 (255 * t520))))).bind fun t521 => (if (wrap64 (2 * t521)) > 256 then (some false) else (laws_FnDiffused.l0 k3 t509 t512 (wrap64 (x20_3 + (wrap64 (t518 - (wrap64 (255 * t520)))))) (wrap64 (x21_3 + 1)) t479 t483 t484)))) = some r := H
              have A65 := Aside0.mk A650
              clear A650
              replace H := Option.bind_eq_some_iff.mp H
              obtain ⟨t520, A660, H⟩ := H
              replace H : ((laws_b10Abs.f (wrap64 (t518 - (wrap64 (255 * t520))))).bind fun t521 => (if (wrap64 (2 * t521)) > 256 then (some false) else (laws_FnDiffused.l0 k3 t509 t512 (wrap64 (x20_3 + (wrap64 (t518 - (wrap64 (255 * t520)))))) (wrap64 (x21_3 + 1)) t479 t483 t484))) = some r := H
              have A66 := Aside0.mk A660
              clear A660
              replace H := Option.bind_eq_some_iff.mp H
              obtain ⟨t521, A670, H⟩ := H
              replace H : (if (wrap64 (2 * t521)) > 256 then (some false) else (laws_FnDiffused.l0 k3 t509 t512 (wrap64 (x20_3 + (wrap64 (t518 - (wrap64 (255 * t520)))))) (wrap64 (x21_3 + 1)) t479 t483 t484)) = some r := H
              have A67 := Aside0.mk A670
              clear A670
              by_cases c68 : (wrap64 (2 * t521)) > 256
              ·exact absurd (((if_pos c68).symm.trans H).trans (congrArg some hr_)) (by simp)
              ·rw [if_neg c68] at H
               have c68b0 : decide (256 < (wrap64 (2 * t521))) = false := decide_eq_false c68
               clear c68
               have H' := Aside0.mk H
               clear H
               obtain ⟨Ao73, co73, eo73⟩ := Kd.S_slice HO_17.out
               subst eo73
               have p515 : 0 ≤ (x21_3 : Int) := of_decide_eq_true (by first | (with_reducible assumption) | assumption)
               have q515 : x21_3 < (t509.length : Int) := of_decide_eq_true (by first | (with_reducible assumption) | assumption)
               (first | (obtain ⟨Aoz_, coz_, eoz_⟩ := Kd.S_slice HO_17.out; subst eoz_) | skip)
               obtain ⟨ad515, A515_0, c515_0, e515, hx515_0, hl515_0, hi515_0⟩ := at_L1 (Kd.S_reads' HO_17.out).2.2 x21_3 p515 q515
               cases e515
               obtain ⟨ce515, hce515, hMe515, hcc515⟩ := Kd.S_get HO_17.out [] x21_3 p515 (by first | exact q515 | exact of_decide_eq_true (by first | (with_reducible assumption) | assumption) | (have e_ := (Kd.S_reads' HO_17.out).1; omega))
               obtain ⟨ve515_0, rfl, ge515_0⟩ := hMe515
               have hv515_0 := hcc515 0 _ rfl
               rw [Nat.add_zero, show ((Kd.slice 2 (Kd.int .i64))).sz = 1 from rfl, Nat.mul_one] at hv515_0
               replace hv515_0 := Option.some.inj (hv515_0.symm.trans hx515_0)
               rw [hv515_0] at ge515_0
               have HL515_0 := Aside0.mk (show Kd.R (Kd.int .i64) 2 _ _ _ _ (rd_L1 t509 x21_3) from ge515_0)
               clear hv515_0 ge515_0
               clear hcc515 hce515
               have HR515_0 := Aside0.mk hi515_0
               have HC515_0 := Aside0.mk hl515_0
               clear hi515_0 hl515_0
               replace p515 := eq_true p515
               replace q515 := eq_true q515
               have hnb74 := NB482_487.out
               have hnc74 := NB487_482.out
               have hnb75 := NB482_508.out
               have hnc75 := NB508_482.out
               have hcz76_0 : wr.cell? ⟨gb482, 0, none⟩ = some (.slice Ao14 t479.length co14) := (blk_cell BK482.out 0).trans rfl
               have hfz76_0 := blk_frozen BK482.out 0
               have p516 : 0 ≤ (x21_3 : Int) := of_decide_eq_true (by first | (with_reducible assumption) | assumption)
               have q516 : x21_3 < (t479.length : Int) := of_decide_eq_true (by first | (with_reducible assumption) | assumption)
               (first | (obtain ⟨Aoz_, coz_, eoz_⟩ := Kd.S_slice HO_483000.out; subst eoz_) | skip)
               obtain ⟨ad516, A516_0, c516_0, e516, hx516_0, hl516_0, hi516_0⟩ := at_L1 (Kd.S_reads' HO_483000.out).2.2 x21_3 p516 q516
               cases e516
               obtain ⟨ce516, hce516, hMe516, hcc516⟩ := Kd.S_get HO_483000.out [] x21_3 p516 (by first | exact q516 | exact of_decide_eq_true (by first | (with_reducible assumption) | assumption) | (have e_ := (Kd.S_reads' HO_483000.out).1; omega))
               obtain ⟨ve516_0, rfl, ge516_0⟩ := hMe516
               have hv516_0 := hcc516 0 _ rfl
               rw [Nat.add_zero, show ((Kd.slice 2 (Kd.int .i64))).sz = 1 from rfl, Nat.mul_one] at hv516_0
               replace hv516_0 := Option.some.inj (hv516_0.symm.trans hx516_0)
               rw [hv516_0] at ge516_0
               have HL516_0 := Aside0.mk (show Kd.R (Kd.int .i64) 2 _ _ _ _ (rd_L1 t479 x21_3) from ge516_0)
               clear hv516_0 ge516_0
               clear hcc516 hce516
               have HR516_0 := Aside0.mk hi516_0
               have HC516_0 := Aside0.mk hl516_0
               clear hi516_0 hl516_0
               replace p516 := eq_true p516
               replace q516 := eq_true q516
               have p517 : 0 ≤ (x21_3 : Int) := of_decide_eq_true (by first | (with_reducible assumption) | assumption)
               have q517 : x21_3 < (t479.length : Int) := of_decide_eq_true (by first | (with_reducible assumption) | assumption)
               (first | (obtain ⟨Aoz_, coz_, eoz_⟩ := Kd.S_slice HO_483000.out; subst eoz_) | skip)
               obtain ⟨ad517, A517_0, c517_0, e517, hx517_0, hl517_0, hi517_0⟩ := at_L1 (Kd.S_reads' HO_483000.out).2.2 x21_3 p517 q517
               obtain rfl : ad516 = ad517 := (by injection e517)
               obtain ⟨ce517, hce517, hMe517, hcc517⟩ := Kd.S_get HO_483000.out [] x21_3 p517 (by first | exact q517 | exact of_decide_eq_true (by first | (with_reducible assumption) | assumption) | (have e_ := (Kd.S_reads' HO_483000.out).1; omega))
               obtain ⟨ve517_0, rfl, ge517_0⟩ := hMe517
               have hv517_0 := hcc517 0 _ rfl
               rw [Nat.add_zero, show ((Kd.slice 2 (Kd.int .i64))).sz = 1 from rfl, Nat.mul_one] at hv517_0
               replace hv517_0 := Option.some.inj (hv517_0.symm.trans hx517_0)
               rw [hv517_0] at ge517_0
               have HL517_0 := Aside0.mk (show Kd.R (Kd.int .i64) 2 _ _ _ _ (rd_L1 t479 x21_3) from ge517_0)
               clear hv517_0 ge517_0
               clear hcc517 hce517
               have HR517_0 := Aside0.mk hi517_0
               have HC517_0 := Aside0.mk hl517_0
               clear hi517_0 hl517_0
               replace p517 := eq_true p517
               replace q517 := eq_true q517
               have ea_ := Option.some.inj (hx516_0.symm.trans hx517_0)
               injection ea_ with ea_ en_ ec_
               subst ea_
               subst ec_
               clear en_
               go_wp2_with (first | (go_at_call 29; (with_reducible refine (laws_b10Sum.calls k3 _ _ (rd_L1 t479 x21_3) t518 _ ?side1 ?side2 A65.out).mono ?_); (case side1 => repeat (first | exact (by repeat (first | (with_reducible exact HR517_0.out) | (with_reducible refine Kd.C_alloc ?_ _) | (with_reducible refine Kd.C_drewN ?_ _) | (with_reducible refine Kd.C_drew ?_) | exact HR517_0.out)) | (with_reducible refine Kd.C_alloc ?_ _) | (with_reducible refine Kd.C_drewN ?_ _) | (with_reducible refine Kd.C_drew ?_))); (case side2 => exact HC517_0.out); rintro e w' ⟨rfl, ⟨nd, rfl⟩⟩; (try first | exact ⟨rfl, _, World.drewN_drewN _ _ _⟩ | exact ⟨rfl, _, Eq.trans (World.drewN_drewN _ _ _) (congrArg (World.drewN _) (Nat.add_assoc _ _ _))⟩); have p519 : 0 ≤ (x21_3 : Int) := of_decide_eq_true (by first | (with_reducible assumption) | assumption); have q519 : x21_3 < (t509.length : Int) := of_decide_eq_true (by first | (with_reducible assumption) | assumption); obtain ⟨ad519, A519_0, c519_0, e519, hx519_0, hl519_0, hi519_0⟩ := at_L1 (Kd.S_reads' HO_17.out).2.2 x21_3 p519 q519; obtain rfl : ad515 = ad519 := (by injection e519); obtain ⟨ce519, hce519, hMe519, hcc519⟩ := Kd.S_get HO_17.out [] x21_3 p519 (by first | exact q519 | exact of_decide_eq_true (by first | (with_reducible assumption) | assumption) | (have e_ := (Kd.S_reads' HO_17.out).1; omega)); obtain ⟨ve519_0, rfl, ge519_0⟩ := hMe519; have hv519_0 := hcc519 0 _ rfl; rw [Nat.add_zero, show ((Kd.slice 2 (Kd.int .i64))).sz = 1 from rfl, Nat.mul_one] at hv519_0; replace hv519_0 := Option.some.inj (hv519_0.symm.trans hx519_0); rw [hv519_0] at ge519_0; have HL519_0 := Aside0.mk (show Kd.R (Kd.int .i64) 2 _ _ _ _ (rd_L1 t509 x21_3) from ge519_0); clear hv519_0 ge519_0; clear hcc519 hce519; have HR519_0 := Aside0.mk hi519_0; have HC519_0 := Aside0.mk hl519_0; clear hi519_0 hl519_0; replace p519 := eq_true p519; replace q519 := eq_true q519; have ea_ := Option.some.inj (hx515_0.symm.trans hx519_0); injection ea_ with ea_ en_ ec_; subst ea_; subst ec_; clear en_) | (go_at_call 29; (with_reducible refine (laws_b10Sum.calls k3 _ _ (rd_L1 t509 x21_3) t520 _ ?side1 ?side2 A66.out).mono ?_); (case side1 => repeat (first | exact (by repeat (first | (with_reducible exact HR519_0.out) | (with_reducible refine Kd.C_alloc ?_ _) | (with_reducible refine Kd.C_drewN ?_ _) | (with_reducible refine Kd.C_drew ?_) | exact HR519_0.out)) | (with_reducible refine Kd.C_alloc ?_ _) | (with_reducible refine Kd.C_drewN ?_ _) | (with_reducible refine Kd.C_drew ?_))); (case side2 => exact HC519_0.out); rintro e w' ⟨rfl, ⟨nd, rfl⟩⟩; (try first | exact ⟨rfl, _, World.drewN_drewN _ _ _⟩ | exact ⟨rfl, _, Eq.trans (World.drewN_drewN _ _ _) (congrArg (World.drewN _) (Nat.add_assoc _ _ _))⟩)) | (go_at_call 30; (with_reducible refine (laws_b10Abs.calls (wrap64 (t518 - (wrap64 (255 * t520)))) t521 _ A67.out).mono ?_); rintro e w' ⟨rfl, ⟨nd, rfl⟩⟩; (try first | exact ⟨rfl, _, World.drewN_drewN _ _ _⟩ | exact ⟨rfl, _, Eq.trans (World.drewN_drewN _ _ _) (congrArg (World.drewN _) (Nat.add_assoc _ _ _))⟩)))
               repeat (go_quiet (first | (go_at_call 29; (with_reducible refine (laws_b10Sum.calls k3 _ _ (rd_L1 t479 x21_3) t518 _ ?side1 ?side2 A65.out).mono ?_); (case side1 => repeat (first | exact (by repeat (first | (with_reducible exact HR517_0.out) | (with_reducible refine Kd.C_alloc ?_ _) | (with_reducible refine Kd.C_drewN ?_ _) | (with_reducible refine Kd.C_drew ?_) | exact HR517_0.out)) | (with_reducible refine Kd.C_alloc ?_ _) | (with_reducible refine Kd.C_drewN ?_ _) | (with_reducible refine Kd.C_drew ?_))); (case side2 => exact HC517_0.out); rintro e w' ⟨rfl, ⟨nd, rfl⟩⟩; (try first | exact ⟨rfl, _, World.drewN_drewN _ _ _⟩ | exact ⟨rfl, _, Eq.trans (World.drewN_drewN _ _ _) (congrArg (World.drewN _) (Nat.add_assoc _ _ _))⟩); have p519 : 0 ≤ (x21_3 : Int) := of_decide_eq_true (by first | (with_reducible assumption) | assumption); have q519 : x21_3 < (t509.length : Int) := of_decide_eq_true (by first | (with_reducible assumption) | assumption); obtain ⟨ad519, A519_0, c519_0, e519, hx519_0, hl519_0, hi519_0⟩ := at_L1 (Kd.S_reads' HO_17.out).2.2 x21_3 p519 q519; obtain rfl : ad515 = ad519 := (by injection e519); obtain ⟨ce519, hce519, hMe519, hcc519⟩ := Kd.S_get HO_17.out [] x21_3 p519 (by first | exact q519 | exact of_decide_eq_true (by first | (with_reducible assumption) | assumption) | (have e_ := (Kd.S_reads' HO_17.out).1; omega)); obtain ⟨ve519_0, rfl, ge519_0⟩ := hMe519; have hv519_0 := hcc519 0 _ rfl; rw [Nat.add_zero, show ((Kd.slice 2 (Kd.int .i64))).sz = 1 from rfl, Nat.mul_one] at hv519_0; replace hv519_0 := Option.some.inj (hv519_0.symm.trans hx519_0); rw [hv519_0] at ge519_0; have HL519_0 := Aside0.mk (show Kd.R (Kd.int .i64) 2 _ _ _ _ (rd_L1 t509 x21_3) from ge519_0); clear hv519_0 ge519_0; clear hcc519 hce519; have HR519_0 := Aside0.mk hi519_0; have HC519_0 := Aside0.mk hl519_0; clear hi519_0 hl519_0; replace p519 := eq_true p519; replace q519 := eq_true q519; have ea_ := Option.some.inj (hx515_0.symm.trans hx519_0); injection ea_ with ea_ en_ ec_; subst ea_; subst ec_; clear en_) | (go_at_call 29; (with_reducible refine (laws_b10Sum.calls k3 _ _ (rd_L1 t509 x21_3) t520 _ ?side1 ?side2 A66.out).mono ?_); (case side1 => repeat (first | exact (by repeat (first | (with_reducible exact HR519_0.out) | (with_reducible refine Kd.C_alloc ?_ _) | (with_reducible refine Kd.C_drewN ?_ _) | (with_reducible refine Kd.C_drew ?_) | exact HR519_0.out)) | (with_reducible refine Kd.C_alloc ?_ _) | (with_reducible refine Kd.C_drewN ?_ _) | (with_reducible refine Kd.C_drew ?_))); (case side2 => exact HC519_0.out); rintro e w' ⟨rfl, ⟨nd, rfl⟩⟩; (try first | exact ⟨rfl, _, World.drewN_drewN _ _ _⟩ | exact ⟨rfl, _, Eq.trans (World.drewN_drewN _ _ _) (congrArg (World.drewN _) (Nat.add_assoc _ _ _))⟩)) | (go_at_call 30; (with_reducible refine (laws_b10Abs.calls (wrap64 (t518 - (wrap64 (255 * t520)))) t521 _ A67.out).mono ?_); rintro e w' ⟨rfl, ⟨nd, rfl⟩⟩; (try first | exact ⟨rfl, _, World.drewN_drewN _ _ _⟩ | exact ⟨rfl, _, Eq.trans (World.drewN_drewN _ _ _) (congrArg (World.drewN _) (Nat.add_assoc _ _ _))⟩))); try go_wp2_with (first | (go_at_call 29; (with_reducible refine (laws_b10Sum.calls k3 _ _ (rd_L1 t479 x21_3) t518 _ ?side1 ?side2 A65.out).mono ?_); (case side1 => repeat (first | exact (by repeat (first | (with_reducible exact HR517_0.out) | (with_reducible refine Kd.C_alloc ?_ _) | (with_reducible refine Kd.C_drewN ?_ _) | (with_reducible refine Kd.C_drew ?_) | exact HR517_0.out)) | (with_reducible refine Kd.C_alloc ?_ _) | (with_reducible refine Kd.C_drewN ?_ _) | (with_reducible refine Kd.C_drew ?_))); (case side2 => exact HC517_0.out); rintro e w' ⟨rfl, ⟨nd, rfl⟩⟩; (try first | exact ⟨rfl, _, World.drewN_drewN _ _ _⟩ | exact ⟨rfl, _, Eq.trans (World.drewN_drewN _ _ _) (congrArg (World.drewN _) (Nat.add_assoc _ _ _))⟩); have p519 : 0 ≤ (x21_3 : Int) := of_decide_eq_true (by first | (with_reducible assumption) | assumption); have q519 : x21_3 < (t509.length : Int) := of_decide_eq_true (by first | (with_reducible assumption) | assumption); obtain ⟨ad519, A519_0, c519_0, e519, hx519_0, hl519_0, hi519_0⟩ := at_L1 (Kd.S_reads' HO_17.out).2.2 x21_3 p519 q519; obtain rfl : ad515 = ad519 := (by injection e519); obtain ⟨ce519, hce519, hMe519, hcc519⟩ := Kd.S_get HO_17.out [] x21_3 p519 (by first | exact q519 | exact of_decide_eq_true (by first | (with_reducible assumption) | assumption) | (have e_ := (Kd.S_reads' HO_17.out).1; omega)); obtain ⟨ve519_0, rfl, ge519_0⟩ := hMe519; have hv519_0 := hcc519 0 _ rfl; rw [Nat.add_zero, show ((Kd.slice 2 (Kd.int .i64))).sz = 1 from rfl, Nat.mul_one] at hv519_0; replace hv519_0 := Option.some.inj (hv519_0.symm.trans hx519_0); rw [hv519_0] at ge519_0; have HL519_0 := Aside0.mk (show Kd.R (Kd.int .i64) 2 _ _ _ _ (rd_L1 t509 x21_3) from ge519_0); clear hv519_0 ge519_0; clear hcc519 hce519; have HR519_0 := Aside0.mk hi519_0; have HC519_0 := Aside0.mk hl519_0; clear hi519_0 hl519_0; replace p519 := eq_true p519; replace q519 := eq_true q519; have ea_ := Option.some.inj (hx515_0.symm.trans hx519_0); injection ea_ with ea_ en_ ec_; subst ea_; subst ec_; clear en_) | (go_at_call 29; (with_reducible refine (laws_b10Sum.calls k3 _ _ (rd_L1 t509 x21_3) t520 _ ?side1 ?side2 A66.out).mono ?_); (case side1 => repeat (first | exact (by repeat (first | (with_reducible exact HR519_0.out) | (with_reducible refine Kd.C_alloc ?_ _) | (with_reducible refine Kd.C_drewN ?_ _) | (with_reducible refine Kd.C_drew ?_) | exact HR519_0.out)) | (with_reducible refine Kd.C_alloc ?_ _) | (with_reducible refine Kd.C_drewN ?_ _) | (with_reducible refine Kd.C_drew ?_))); (case side2 => exact HC519_0.out); rintro e w' ⟨rfl, ⟨nd, rfl⟩⟩; (try first | exact ⟨rfl, _, World.drewN_drewN _ _ _⟩ | exact ⟨rfl, _, Eq.trans (World.drewN_drewN _ _ _) (congrArg (World.drewN _) (Nat.add_assoc _ _ _))⟩)) | (go_at_call 30; (with_reducible refine (laws_b10Abs.calls (wrap64 (t518 - (wrap64 (255 * t520)))) t521 _ A67.out).mono ?_); rintro e w' ⟨rfl, ⟨nd, rfl⟩⟩; (try first | exact ⟨rfl, _, World.drewN_drewN _ _ _⟩ | exact ⟨rfl, _, Eq.trans (World.drewN_drewN _ _ _) (congrArg (World.drewN _) (Nat.add_assoc _ _ _))⟩))))
               go_roundg k3
               case measure => have := HJ10.out; have := HJ43.out; have := HK3.out; omega
               case rel => exact ⟨(wrap64 (x20_3 + (wrap64 (t518 - (wrap64 (255 * t520)))))), (wrap64 (x21_3 + 1)), (by first | rfl | (simp; done) | (simp [*]; done)), (by first | rfl | (simp; done) | (simp [*]; done)), H', ⟨by have := HJ10.out; have := HJ43.out; have := HK3.out; omega⟩, ⟨ss_ HO_17⟩, ⟨ss_ HO_483000⟩, ⟨rr_ HO_488001⟩, ⟨rr_ HO_509001⟩, ⟨bk_ BK482⟩, ⟨bk_ BK487⟩, ⟨bk_ BK508⟩, ⟨bl_ HB⟩⟩
             ·rw [if_neg c64] at H
              exact absurd (H.trans (congrArg some hr_)) (by simp)
            ·rw [if_neg c63] at H
             exact absurd H (by simp)
           ·rw [if_neg c62] at H
            exact absurd H (by simp)
          ·rw [if_neg c61] at H
           have c61b0 : decide (x21_3 < (t509.length : Int)) = false := decide_eq_false c61
           clear c61
           by_cases c81 : x20_3 = t512
           ·rw [if_pos c81] at H
            have c81b0 : (x20_3 == t512) = true := beq_iff_eq.mpr c81
            have c81b1 : (x20_3 != t512) = false := bne_eq_false_iff_eq.mpr c81
            clear c81
            replace H := Option.bind_eq_some_iff.mp H
            obtain ⟨t514, A820, H⟩ := H
            replace H : (some t514) = some r := H
            have A82 := Aside0.mk A820
            clear A820
            obtain rfl := Option.some.inj H
            obtain ⟨Ao83, co83, eo83⟩ := Kd.S_slice HO_17.out
            subst eo83
            have hnb84 := NB487_482.out
            have hnc84 := NB482_487.out
            have hnb85 := NB487_508.out
            have hnc85 := NB508_487.out
            have hcz86_0 : wr.cell? ⟨gb487, 0, none⟩ = some (.int .i64 t483) := (blk_cell BK487.out 0).trans rfl
            have hcz86_1 : wr.cell? ⟨gb487, 1, none⟩ = some (.slice Ao20 t484.length co20) := (blk_cell BK487.out 1).trans rfl
            have hfz86_0 := blk_frozen BK487.out 0
            have hfz86_1 := blk_frozen BK487.out 1
            go_wp2_with (first | (go_at_call 31; (with_reducible refine (impl_ValidKernel.calls k3 t483 _ _ t484 t514 _ ?side1 ?side2 A82.out).mono ?_); (case side1 => repeat (first | exact (Kd.R_reads' HO_488001.out).2.2 | (with_reducible refine Kd.C_alloc ?_ _) | (with_reducible refine Kd.C_drewN ?_ _) | (with_reducible refine Kd.C_drew ?_))); (case side2 => exact (Kd.R_reads' HO_488001.out).2.1); rintro e w87 ⟨rfl, hb⟩; have n0_ := Aside0.mk (Kd.S_below (ss_ HO_17) hb); have n1_ := Aside0.mk (Kd.S_below (ss_ HO_483000) hb); have n2_ := Aside0.mk (Kd.R_below (rr_ HO_488001) hb); have n3_ := Aside0.mk (Kd.R_below (rr_ HO_509001) hb); have n4_ := Aside0.mk (blk_below (g := gb482) (o := .cells #[.slice Ao14 t479.length co14] 37 (0, 0)) (bk_ BK482) hb); have n5_ := Aside0.mk (blk_below (g := gb487) (o := .cells #[.int .i64 t483, .slice Ao20 t484.length co20] 41 (0, 0)) (bk_ BK487) hb); have n6_ := Aside0.mk (blk_below (g := gb508) (o := .cells #[.int .i64 t503, .slice Ao50 t504.length co50] 41 (0, 0)) (bk_ BK508) hb); have n7_ := Aside0.mk (below_step (bl_ HB) hb); clear HO_17; clear HO_483000; clear HO_488001; clear HO_509001; clear BK482; clear BK487; clear BK508; clear HB; have HO_17 := n0_; have HO_483000 := n1_; have HO_488001 := n2_; have HO_509001 := n3_; have BK482 := n4_; have BK487 := n5_; have BK508 := n6_; have HB := n7_; clear n0_ n1_ n2_ n3_ n4_ n5_ n6_ n7_; (try clear hb); (try clear hb2); (try clear hk); (try clear hi)))
            repeat (go_quiet (first | (go_at_call 31; (with_reducible refine (impl_ValidKernel.calls k3 t483 _ _ t484 t514 _ ?side1 ?side2 A82.out).mono ?_); (case side1 => repeat (first | exact (Kd.R_reads' HO_488001.out).2.2 | (with_reducible refine Kd.C_alloc ?_ _) | (with_reducible refine Kd.C_drewN ?_ _) | (with_reducible refine Kd.C_drew ?_))); (case side2 => exact (Kd.R_reads' HO_488001.out).2.1); rintro e w87 ⟨rfl, hb⟩; have n0_ := Aside0.mk (Kd.S_below (ss_ HO_17) hb); have n1_ := Aside0.mk (Kd.S_below (ss_ HO_483000) hb); have n2_ := Aside0.mk (Kd.R_below (rr_ HO_488001) hb); have n3_ := Aside0.mk (Kd.R_below (rr_ HO_509001) hb); have n4_ := Aside0.mk (blk_below (g := gb482) (o := .cells #[.slice Ao14 t479.length co14] 37 (0, 0)) (bk_ BK482) hb); have n5_ := Aside0.mk (blk_below (g := gb487) (o := .cells #[.int .i64 t483, .slice Ao20 t484.length co20] 41 (0, 0)) (bk_ BK487) hb); have n6_ := Aside0.mk (blk_below (g := gb508) (o := .cells #[.int .i64 t503, .slice Ao50 t504.length co50] 41 (0, 0)) (bk_ BK508) hb); have n7_ := Aside0.mk (below_step (bl_ HB) hb); clear HO_17; clear HO_483000; clear HO_488001; clear HO_509001; clear BK482; clear BK487; clear BK508; clear HB; have HO_17 := n0_; have HO_483000 := n1_; have HO_488001 := n2_; have HO_509001 := n3_; have BK482 := n4_; have BK487 := n5_; have BK508 := n6_; have HB := n7_; clear n0_ n1_ n2_ n3_ n4_ n5_ n6_ n7_; (try clear hb); (try clear hb2); (try clear hk); (try clear hi))); try go_wp2_with (first | (go_at_call 31; (with_reducible refine (impl_ValidKernel.calls k3 t483 _ _ t484 t514 _ ?side1 ?side2 A82.out).mono ?_); (case side1 => repeat (first | exact (Kd.R_reads' HO_488001.out).2.2 | (with_reducible refine Kd.C_alloc ?_ _) | (with_reducible refine Kd.C_drewN ?_ _) | (with_reducible refine Kd.C_drew ?_))); (case side2 => exact (Kd.R_reads' HO_488001.out).2.1); rintro e w87 ⟨rfl, hb⟩; have n0_ := Aside0.mk (Kd.S_below (ss_ HO_17) hb); have n1_ := Aside0.mk (Kd.S_below (ss_ HO_483000) hb); have n2_ := Aside0.mk (Kd.R_below (rr_ HO_488001) hb); have n3_ := Aside0.mk (Kd.R_below (rr_ HO_509001) hb); have n4_ := Aside0.mk (blk_below (g := gb482) (o := .cells #[.slice Ao14 t479.length co14] 37 (0, 0)) (bk_ BK482) hb); have n5_ := Aside0.mk (blk_below (g := gb487) (o := .cells #[.int .i64 t483, .slice Ao20 t484.length co20] 41 (0, 0)) (bk_ BK487) hb); have n6_ := Aside0.mk (blk_below (g := gb508) (o := .cells #[.int .i64 t503, .slice Ao50 t504.length co50] 41 (0, 0)) (bk_ BK508) hb); have n7_ := Aside0.mk (below_step (bl_ HB) hb); clear HO_17; clear HO_483000; clear HO_488001; clear HO_509001; clear BK482; clear BK487; clear BK508; clear HB; have HO_17 := n0_; have HO_483000 := n1_; have HO_488001 := n2_; have HO_509001 := n3_; have BK482 := n4_; have BK487 := n5_; have BK508 := n6_; have HB := n7_; clear n0_ n1_ n2_ n3_ n4_ n5_ n6_ n7_; (try clear hb); (try clear hb2); (try clear hk); (try clear hi))))
            go_ret
            exact ⟨by first | rfl | (simp [errW_none, errW_some] <;> rfl) | (simp [*, errW_none, errW_some] <;> rfl), bl_ HB⟩
           ·rw [if_neg c81] at H
            exact absurd (H.trans (congrArg some hr_)) (by simp)
def laws_FnDiffused.Pure : Prop := ∀ (l0 : List Int) (l1 : List Int), l0.length ≤ maxLen → l0.length * 1 ≤ 140737488351232 → (∀ x ∈ l0, (Lit.int .u8 x).wf = true) → l1.length ≤ maxLen → l1.length * 1 ≤ 140737488351232 → (∀ x ∈ l1, (Lit.int .u8 x).wf = true) → ∃ k, laws_FnDiffused.f k l0 l1 = some true
theorem laws_FnDiffused.walk (P : laws_FnDiffused.Pure) (a0 : Option Addr) (len0 cap0 : Nat) (z0 : List Int) (a1 : Option Addr) (len1 cap1 : Nat) (z1 : List Int) (w : World) (w0 : (a0 = none ∧ len0 = 0 ∧ cap0 = 0 ∧ z0 = []) ∨ ∃ x, a0 = some x ∧ len0 ≤ cap0 ∧ cap0 ≤ maxLen ∧ z0.length = cap0 ∧ (∀ i, i < z0.length → w.cell? (x.add i) = some (.int .u8 (z0.getD i 0))) ∧ ∀ n ∈ z0, (Lit.int .u8 n).wf = true) (y0 : len0 * 1 ≤ 140737488351232) (w1 : (a1 = none ∧ len1 = 0 ∧ cap1 = 0 ∧ z1 = []) ∨ ∃ x, a1 = some x ∧ len1 ≤ cap1 ∧ cap1 ≤ maxLen ∧ z1.length = cap1 ∧ (∀ i, i < z1.length → w.cell? (x.add i) = some (.int .u8 (z1.getD i 0))) ∧ ∀ n ∈ z1, (Lit.int .u8 n).wf = true) (y1 : len1 * 1 ≤ 140737488351232) :
  Calls Try.prog 5 #[.slice a0 len0 cap0, .slice a1 len1 cap1] w fun e w' => e = .returned (.bool true) ∧ Below w.heap.size w w' := by
 obtain ⟨l0, rfl, hr0, hm0, hw0, hc0⟩ := ReadsInt.ofRowC w0
 obtain ⟨l1, rfl, hr1, hm1, hw1, hc1⟩ := ReadsInt.ofRowC w1
 obtain ⟨k, h⟩ := P l0 l1 hm0 y0 hw0 hm1 y1 hw1
 refine (laws_FnDiffused.calls k _ _ l0 _ _ l1 true rfl w (Kd.C_of_reads (d := (0 : Int)) (h1 := fun _ => rfl) hr0) hc0 (Kd.C_of_reads (d := (0 : Int)) (h1 := fun _ => rfl) hr1) hc1 h).mono ?_
 rintro e w' ⟨rfl, hd⟩
 exact ⟨rfl, hd⟩
end Go.Proofs.Ytpdkknfooblplaa.Q
