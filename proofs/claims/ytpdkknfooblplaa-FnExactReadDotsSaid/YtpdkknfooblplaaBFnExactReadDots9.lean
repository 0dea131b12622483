/- The statement FnExactReadDots, with all that its proof stands on: functions of the program as plain functions, the program's walks, and the plain law. Conditions: none beyond the statement's own. -/
import Derived.ArgAppend
import Derived.Below
import Derived.BigQuiet
import Derived.BigRegion
import Derived.CallsIn
import Derived.ControlIn
import Derived.Deep.AppendLies
import Derived.Deep.CutBlock
import Derived.Deep.DeepCutAuto
import Derived.Deep.Draws
import Derived.Deep.LoopGhost
import Derived.Deep.OwnRows
import Derived.Deep.QuietTactic
import Derived.Deep.RegionHeld3
import Derived.Ground.SlgnProg
import Derived.KernelRfl
import Derived.Laws.BitsLemmas
import Derived.Laws.BytesArg
import Derived.Laws.IdiomCopy
import Derived.Laws.MakeOwn
import Derived.Laws.OwnMore
import Derived.Laws.Rows
import Derived.Laws.Slices
import Derived.Lib.AppendStr
import Derived.Lib.ConvBytes
import Derived.Lib.IndexLaws
import Derived.LoopIn
import Derived.LoopNIn
import Derived.Maps.AppendAt
import Derived.OrdersHeld
import Derived.OwnWalk
import Derived.OwnWalkIn
import Derived.ProofKit
import Derived.RangeFuncBound
import Derived.RangeFuncBox
import Derived.RangeFuncCalls
import Derived.RangeFuncFrom
import Derived.RangeFuncKeeps
import Derived.RangeFuncLeaves
import Derived.RangeFuncNested
import Derived.RangeFuncWrites
import Derived.RowKit
import Derived.RowKit3
import Derived.Shelf.Abstract
import Derived.Shelf.RegionOpen
import Derived.Shelf.SlicesE.Clone
import Derived.Shelf.SlicesG.Clone
import Derived.Shelf.Small.Strs
import Derived.Shelf.Strings.Search1
import Derived.Tactics
import Derived.TacticsIn
import Derived.TacticsInMore
import Derived.Test.YtpdkknfooblplaaProg
import Derived.WalkKit
import Derived.WideLaws
import Derived.Test.YtpdkknfooblplaaBFnExactReadDots0
import Derived.Test.YtpdkknfooblplaaBFnExactReadDots1
import Derived.Test.YtpdkknfooblplaaBFnExactReadDots2
import Derived.Test.YtpdkknfooblplaaBFnExactReadDots3
import Derived.Test.YtpdkknfooblplaaBFnExactReadDots4
import Derived.Test.YtpdkknfooblplaaBFnExactReadDots5
import Derived.Test.YtpdkknfooblplaaBFnExactReadDots6
import Derived.Test.YtpdkknfooblplaaBFnExactReadDots7
set_option linter.unusedVariables false
set_option linter.unusedSimpArgs false
namespace Go.Proofs.Ytpdkknfooblplaa.Q
open Go.RowKit Go.Proofs.YtpdkknfooblplaaW.PrintWords Go.Proofs.YtpdkknfooblplaaW.PrintLast Go.Proofs.YtpdkknfooblplaaW.PrintMore
set_option linter.unusedVariables false
open Go Go.Shelf Go.Proofs Go.Proofs.Ytpdkknfooblplaa.Box
attribute [local go_sem] Oper.semAt_some
def impl_ReadDots.row (x : ByteArray) : List Int := x.data.toList.dropLast.map fun b => if b = 35 then 1 else 0
def impl_ReadDots.rows (s : ByteArray) : List (List Int) := (blines s).map impl_ReadDots.row
def impl_ReadDots.f (k : Nat) (a0 : ByteArray) : Option (List (List Int) × Bool) := if a0.size ≤ 1048576 then (impl_DotsText.f k (impl_ReadDots.rows a0)).bind fun t => (if t.2 = true ∧ t.1 = a0 then some (impl_ReadDots.rows a0, true) else some ([], false)) else none
abbrev RR := Kd.slice 2 (Kd.int .i64)
def impl_ReadDots.I (base b4 bL : Nat) (w : World) (pre : List ByteArray) (W : World) : Prop := ∃ v, W.cell? ⟨b4, 0, none⟩ = some v ∧ W.frozen? ⟨b4, 0, none⟩ = false ∧ Kd.S RR 58 W base (fun k => k ≠ b4 ∧ k ≠ bL) v (pre.map impl_ReadDots.row) ∧ Below base w W ∧ bL < W.heap.size
theorem cell_lt {W : World} {a : Addr} {v : Value} (h : W.cell? a = some v) : a.block < W.heap.size := by
 unfold World.cell? at h
 cases e : W.heap[a.block]? with
 | none => rw [e] at h; cases h
 | some o => exact (Array.getElem?_eq_some_iff.1 e).1
theorem S_put {α : Type} {d : Kd α} {e base : Nat} {ok : Nat → Prop} {v : Value} {xs : List α} {W : World} {l : Nat} {o : Obj} (o' : Obj) (hS : Kd.S d e W base ok v xs) (h : W.heap[l]? = some o) (ho : o.isCells = false) : Kd.S d e (W.putObj l o') base ok v xs := by
 refine Kd.S_mono (Kd.S_step (Kd.S_bound hS) fun k hk _ => ?_) (fun k hk => hk.1)
 obtain ⟨_, _, _, _, _, cells, hcells⟩ := hk
 exact World.putObj_heap_other (fun e => by subst e; rw [h] at hcells; cases hcells; simp [Obj.isCells] at ho)
theorem below_put {B : Nat} {w W : World} {l : Nat} (o' : Obj) (hB : Below B w W) (hl : B ≤ l) : Below B w (W.putObj l o') :=
 ⟨hB.os, hB.tape, hB.output, by simpa using hB.size, fun k hk => (World.putObj_heap_other (by omega)).trans (hB.block k hk)⟩
theorem impl_ReadDots.anew (base b4 bL : Nat) (w : World) (hb : base ≤ w.heap.size) : Anew (impl_ReadDots.I base b4 bL w) := by
 rintro s W W' ⟨v, hc, hf, hS, hB, hbL⟩ h
 have hlt := cell_lt hc
 exact ⟨v, (h.cell hlt).trans hc, (h.frozen hlt).trans hf, Kd.S_below hS h, ⟨h.os.trans hB.os, h.tape.trans hB.tape, h.output.trans hB.output, Nat.le_trans hB.size h.size, fun k hk => (h.block k (Nat.lt_of_lt_of_le hk (Nat.le_trans hb hB.size))).trans (hB.block k hk)⟩, Nat.lt_of_lt_of_le hbL h.size⟩
theorem impl_ReadDots.abox (base b4 bL : Nat) (w : World) (h4 : b4 ≠ bL) (hL : base ≤ bL) : Abox bL (impl_ReadDots.I base b4 bL w) := by
 rintro s W u ⟨v, hc, hf, hS, hB, hbL⟩
 exact ⟨v, (World.cell?_setCell_far _ _ _ _ (fun e => h4 e.symm)).trans hc, by rw [World.frozen?_setCell]; exact hf, Kd.S_far hS (fun k hk => hk.2) u, hB.setCell hL u, by simpa using hbL⟩
theorem impl_ReadDots.aown (base b4 bL B : Nat) (w : World) (hb : base ≤ B) : Aown B (impl_ReadDots.I base b4 bL w) := by
 rintro s W l o o' ⟨v, hc, hf, hS, hB, hbL⟩ hl h ho
 refine ⟨v, cell_putObj o' hc h ho, (kbox_frozen o' hc h ho).trans hf, ?_, ?_, by simpa using hbL⟩
 ·exact S_put o' hS h ho
 ·exact below_put o' hB (by omega)
theorem lit0 {α : Type} (d : Kd α) (e : Nat) (W : World) : d.R e (W.alloc (.cells #[] e)) W.heap.size (fun k => k = W.heap.size) (.slice (some ⟨W.heap.size, 0, none⟩) 0 0) [] := by
 refine ⟨fun k hk => ?_, [], ?_, Reps.none _ _⟩
 ·simpa [Value.ownBlock, eq_comm] using hk
 ·simpa using World.ownsRow_lit (base := W.heap.size) (e := e) (size := d.sz) W #[] 0 (Nat.le_refl _) (by simp [maxLen]) (by simp)
theorem dt_calls {k : Nat} {s : List (List Int)} {r1 : ByteArray} {r2 : Bool} (A0 : Option Addr) (c0 : Nat) (w : World) (hr0 : Kd.C RR w A0 s.length s) (hc0 : s.length ≤ c0) (h : impl_DotsText.f k s = some (r1, r2)) :
  Calls Try.prog 25 #[.slice A0 s.length c0] w fun e w' => e = .returned (.tuple #[.string r1, .bool r2]) ∧ Below w.heap.size w w' := impl_DotsText.calls k A0 c0 s r1 r2 w hr0 hc0 h
set_option maxHeartbeats 8000000 in
set_option maxRecDepth 100000 in
theorem impl_ReadDots.calls (k : Nat) (a0 : ByteArray) (r1 : List (List Int)) (r2 : Bool) (w : World) (h : impl_ReadDots.f k a0 = some (r1, r2)) :
  Calls Try.prog 7 #[.string a0] w fun e w' => ∃ v0_ : Value, e = .returned (.tuple #[v0_, .bool r2]) ∧ Kd.S (Kd.slice 2 (Kd.int .i64)) 58 w' w.heap.size (fun _ => True) v0_ r1 ∧ Below w.heap.size w w' := by
 unfold impl_ReadDots.f at h
 by_cases hsz : a0.size ≤ 1048576
 ·rw [if_pos hsz] at h
  obtain ⟨⟨t1, t2⟩, hdt, h⟩ := Option.bind_eq_some_iff.1 h
  refine (callsIn_wide (n := 9)).1 (callsIn_of_wp_marks Try.func7 rfl trivial ?_ rfl)
  simp only [Try.ntmps7, List.size_toArray, List.length_cons, List.length_nil, Nat.reduceAdd, Nat.reduceSub, Array.replicate_succ, Array.replicate_zero, List.push_toArray, List.append_toArray, List.nil_append, List.cons_append]
  gi_wp2_with (refine ⟨trivial, ?_⟩; gi_at_call 33; refine ((lines_in 8 a0 _)).mono ?_; rintro e w' ⟨rfl, rfl⟩)
  have c0 := new_cell (w.alloc (Obj.cells #[] 58)) (Value.slice (some ⟨w.heap.size, 0, none⟩) 0 0) 22
  have c1 := new_cell ((w.alloc (Obj.cells #[] 58)).alloc (Obj.cells #[Value.slice (some ⟨w.heap.size, 0, none⟩) 0 0] 22)) (.string a0) 9
  simp only [World.size_alloc] at c0 c1
  have hB0 : Below w.heap.size w (((w.alloc (Obj.cells #[] 58)).alloc (Obj.cells #[Value.slice (some ⟨w.heap.size, 0, none⟩) 0 0] 22)).alloc (Obj.cells #[.string a0] 9)) := below_alloc (below_alloc (below_alloc (Below.refl _ _) _) _) _
  have hS0 : Kd.S RR 58 (((w.alloc (Obj.cells #[] 58)).alloc (Obj.cells #[Value.slice (some ⟨w.heap.size, 0, none⟩) 0 0] 22)).alloc (Obj.cells #[.string a0] 9)) w.heap.size (fun k => k ≠ w.heap.size + 1 ∧ k ≠ w.heap.size + 2) (.slice (some ⟨w.heap.size, 0, none⟩) 0 0) (([] : List ByteArray).map impl_ReadDots.row) :=
   Kd.S_alloc (Kd.S_alloc (Kd.S_mono (Kd.S_bare (lit0 (Kd.bare RR) 58 w)) (fun k hk => ⟨by omega, by omega⟩)) _) _
  have hI0 : impl_ReadDots.I w.heap.size (w.heap.size + 1) (w.heap.size + 2) w [] (((w.alloc (Obj.cells #[] 58)).alloc (Obj.cells #[Value.slice (some ⟨w.heap.size, 0, none⟩) 0 0] 22)).alloc (Obj.cells #[.string a0] 9)) :=
   ⟨_, (alloc_cell _ c0.1).1, (alloc_cell _ c0.1).2.trans c0.2, hS0, hB0, by simp⟩
  have hs3 : (((w.alloc (Obj.cells #[] 58)).alloc (Obj.cells #[Value.slice (some ⟨w.heap.size, 0, none⟩) 0 0] 22)).alloc (Obj.cells #[.string a0] 9)).heap.size = w.heap.size + 3 := by simp
  obtain ⟨W0, hW0⟩ : ∃ W0, ((w.alloc (Obj.cells #[] 58)).alloc (Obj.cells #[Value.slice (some ⟨w.heap.size, 0, none⟩) 0 0] 22)).alloc (Obj.cells #[.string a0] 9) = W0 := ⟨_, rfl⟩
  rw [hW0] at c1 hB0 hI0 hs3 ⊢
  refine range_box rfl (by decide) (gf := 67) (lb := #[.pointer (some ⟨w.heap.size + 2, 0, none⟩)]) rfl trivial (enters_of Try.func67 (by kernel_rfl) rfl) (encs := fun x : ByteArray => #[.string x]) (b := w.heap.size + 2) (by omega) (lines1_in 8 (by decide) (w.heap.size + 2) a0 W0 c1.1 c1.2 (by omega) (by omega)) (fun _ => rfl)
   (impl_ReadDots.I w.heap.size (w.heap.size + 1) (w.heap.size + 2) w) (fun _ _ _ => False) (impl_ReadDots.anew _ _ _ _ (Nat.le_refl _)) (impl_ReadDots.abox _ _ _ _ (by omega) (by omega)) (impl_ReadDots.aown _ _ _ _ _ (by omega)) (fun _ _ _ _ h _ => h) (fun _ _ _ _ _ _ h _ _ _ => h) hI0
   (fun x => { tmps := #[.string a0, undef, .slice none 0 0, .bool false, .pointer (some ⟨w.heap.size + 1, 0, none⟩), .string x, undef, undef, undef, undef, .slice (some ⟨w.heap.size, 0, none⟩) 0 0, .string a0, .func (.func 67) #[] #[.pointer (some ⟨w.heap.size + 2, 0, none⟩)], .string x, undef, undef, undef, undef, undef, undef, undef, undef, undef, undef, undef, undef, undef, undef, undef, undef, undef, undef, undef, undef, undef, undef, undef, undef, undef, undef, undef, undef, undef, undef, undef, undef, undef], defers := [] }) ?assign ?body ?done ?stop
  case assign =>
   intro l x W K hK
   gi_wp2
   exact hK
  case stop =>
   intro D c pre W _ _ h
   exact h.elim
  case done =>
   rintro D xs W hD rfl hI hK
   obtain ⟨v, hc4, hf4, hS, hB, hbL⟩ := hI
   obtain ⟨Av, cv, ev⟩ := Kd.S_slice hS
   subst ev
   have hww : w.heap.size ≤ W.heap.size := hB.size
   have hDl : D < W.heap.size := (Array.getElem?_eq_some_iff.1 hK).1
   have hdc := dt_calls (k := k) (s := impl_ReadDots.rows a0) Av cv W (Kd.S_reads' hS).2.2 (Kd.S_reads' hS).2.1 hdt
   have hn : ((blines a0).map impl_ReadDots.row).length = (impl_ReadDots.rows a0).length := rfl
   obtain ⟨z, hz⟩ : ∃ z, (impl_ReadDots.rows a0).length = z := ⟨_, rfl⟩
   rw [hn, hz] at hS hc4
   rw [hz] at hdc
   have hE : (t1.toList == a0.toList) = decide (t1 = a0) := by
    rw [ByteArray.toList_eq, ByteArray.toList_eq]
    by_cases e : t1 = a0
    ·simp [e]
    ·have : t1.data ≠ a0.data := fun h => e (ByteArray.ext h)
     simp [e, this]
   by_cases hg : t2 = true ∧ t1 = a0
   ·obtain ⟨rfl, ht⟩ := hg
    rw [decide_eq_true ht] at hE
    rw [if_pos ⟨rfl, ht⟩] at h
    obtain ⟨rfl, rfl⟩ := Prod.mk.inj (Option.some.inj h)
    gi_wp2_with (refine ⟨trivial, ?_⟩; gi_at_call 25; refine (callsIn_wide.2 hdc).mono ?_; rintro e w2 ⟨rfl, hb2⟩; have hc5 := (hb2.cell (p := ⟨w.heap.size + 1, 0, none⟩) (cell_lt hc4)).trans hc4; have hf5 := (hb2.frozen (p := ⟨w.heap.size + 1, 0, none⟩) (cell_lt hc4)).trans hf4; have hK2 := (hb2.block D hDl).trans hK; have hS2 := Kd.S_below hS hb2; have hB2 := below_step hB hb2)
    refine ⟨by simp, .inl ⟨_, _, rfl, run_takeDeferred hK2, ?_⟩⟩
    exact ⟨_, results_tmp2 rfl _ _ _, ⟨_, rfl, Kd.S_mono (S_put _ hS2 hK2 rfl) (fun _ _ => trivial), below_put _ hB2 (by omega)⟩⟩
   ·rw [if_neg hg] at h
    obtain ⟨rfl, rfl⟩ := Prod.mk.inj (Option.some.inj h)
    cases t2 with
    | false =>
     gi_wp2_with (refine ⟨trivial, ?_⟩; gi_at_call 25; refine (callsIn_wide.2 hdc).mono ?_; rintro e w2 ⟨rfl, hb2⟩; have hK2 := (hb2.block D hDl).trans hK; have hB2 := below_step hB hb2)
     refine ⟨by simp, .inl ⟨_, _, rfl, run_takeDeferred hK2, ?_⟩⟩
     exact ⟨_, results_tmp2 rfl _ _ _, ⟨_, rfl, Kd.S_nil _ _ _ _ _, below_put _ hB2 (by omega)⟩⟩
    | true =>
     have ht : t1 ≠ a0 := fun e => hg ⟨rfl, e⟩
     rw [decide_eq_false ht] at hE
     gi_wp2_with (refine ⟨trivial, ?_⟩; gi_at_call 25; refine (callsIn_wide.2 hdc).mono ?_; rintro e w2 ⟨rfl, hb2⟩; have hK2 := (hb2.block D hDl).trans hK; have hB2 := below_step hB hb2)
     refine ⟨by simp, .inl ⟨_, _, rfl, run_takeDeferred hK2, ?_⟩⟩
     exact ⟨_, results_tmp2 rfl _ _ _, ⟨_, rfl, Kd.S_nil _ _ _ _ _, below_put _ hB2 (by omega)⟩⟩
  case body =>
   rintro l pre x W hI hpre
   obtain ⟨v, hc4, hf4, hS, hB, hbL⟩ := hI
   have hxs : x.size ≤ 1048576 := Nat.le_trans (blines_size (hpre.subset (by simp))) hsz
   have hpl : pre.length ≤ 1048576 := by have h1 := hpre.length_le; have h2 := blines_count a0; simp at h1; omega
   have hR0 : Kd.R (Kd.int .i64) 2 (W.alloc (Obj.cells #[] 2)) W.heap.size (fun _ => True) (.slice (some ⟨W.heap.size, 0, none⟩) 0 0) ((x.data.toList.take 0).map fun b => if b = 35 then (1 : Int) else 0) := Kd.R_mono (lit0 (Kd.int .i64) 2 W) (fun _ _ => trivial)
   have hB1 : Below W.heap.size W (W.alloc (Obj.cells #[] 2)) := below_alloc (Below.refl _ _) _
   gi_wp2
   gi_loopw [6, 18] (fun v6 v18 wr => ∃ i : Nat, v18 = .int .i64 i ∧ i ≤ x.size - 1 ∧ Aside0 (Kd.R (Kd.int .i64) 2 wr W.heap.size (fun _ => True) v6 ((x.data.toList.take i).map fun b => if b = 35 then (1 : Int) else 0)) ∧ Aside0 (Below W.heap.size W wr))
    (fun _ v18 _ => x.size - (intOf v18).toNat)
   case atStart =>
    exact ⟨0, rfl, Nat.zero_le _, ⟨hR0⟩, ⟨hB1⟩⟩
   case round =>
    obtain ⟨i, rfl, hi, hR, hBW⟩ := hrel
    by_cases hlt : (i : Int) < (x.size : Int) - 1
    ·have hix : i < x.size := by omega
     have hd : decide ((i : Int) < (x.size : Int) - 1) = true := decide_eq_true hlt
     obtain ⟨bv, hbv⟩ : ∃ bv : Int, (if x[i] = 35 then (1 : Int) else 0) = bv := ⟨_, rfl⟩
     have hbit : impl_bit.f (((x[i].toNat : Nat) : Int) == 35) = some bv := by
      rw [← hbv]
      unfold impl_bit.f
      by_cases h35 : x[i] = 35
      ·rw [if_pos h35, h35]; rfl
      ·have hn : ¬ ((((x[i].toNat : Nat) : Int) == 35) = true) := by
        simp only [beq_iff_eq]
        intro e
        exact h35 (UInt8.toNat_inj.1 (by have : UInt8.toNat 35 = 35 := rfl; omega))
       rw [if_neg h35, if_neg hn]
     have hnx : (x.data.toList.take (i + 1)).map (fun b => if b = 35 then (1 : Int) else 0) = (x.data.toList.take i).map (fun b => if b = 35 then (1 : Int) else 0) ++ [bv] := by
      have hlen : i < x.data.toList.length := by simpa using hix
      rw [List.take_succ_eq_append_getElem hlen, List.map_append, ← hbv]
      rfl
     obtain ⟨y, hy⟩ : ∃ y : List Int, (x.data.toList.take i).map (fun b => if b = 35 then (1 : Int) else 0) = y := ⟨_, rfl⟩
     obtain ⟨y2, hy2⟩ : ∃ y : List Int, (x.data.toList.take (i + 1)).map (fun b => if b = 35 then (1 : Int) else 0) = y := ⟨_, rfl⟩
     rw [hy] at hnx hR
     rw [hy2] at hnx
     have hyl : y.length ≤ 1048576 := by rw [← hy]; simp; omega
     have hres := Aside0.mk hnx
     gi_wp2_with (first
      | (refine ⟨trivial, ?_⟩; gi_at_call 34; refine (CallsIn.inRound l (callsIn_wide.2 (impl_bit.calls _ bv _ hbit))).mono ?_; rintro e w' ⟨rfl, ⟨nd, rfl⟩⟩)
      | ((with_reducible refine gateB (b := .append) (xs := #[.tmp 21, .tmp 27]) rfl ?_); refine opIn rfl fun Kc hKc => ?_; refine Kd.R_append_step (Kd.int .i64) (w0 := W) W.heap.size rfl (.tmp 21) (.tmp 27) 58 2 (.int .i64 0) 8 rfl Try.underlying58 info2 rfl (by decide) (by omega) u6 y bv [.int .i64 bv] (fun _ => True) (fun _ => False) rfl rfl ?aP (fun _ hk => hk.elim) (fun _ _ => trivial) ?aO ?aB ?aS ?aL ?_; (case aP => exact rfl); (case aO => exact Kd.R_drewN hR.out nd); (case aB => exact pw_below_drewN hBW.out nd); (case aS => exact hBW.out.size); (case aL => omega); intro v1 w1 ho hb hg hat; refine hKc _ _ ?_; rw [← hres.out] at ho; clear hKc; have hR1 := Aside0.mk ho; have hB2 := Aside0.mk hb))
     go_roundw
     case rel => exact ⟨i + 1, by simp, by omega, ⟨by rw [hy2]; exact hR1.out⟩, hB2⟩
     case measure => first | omega | (simp [intOf]; omega)
    ·have hd : decide ((i : Int) < (x.size : Int) - 1) = false := decide_eq_false hlt
     have hcw : wr.cell? ⟨w.heap.size + 1, 0, none⟩ = some v := (hBW.out.cell (p := ⟨w.heap.size + 1, 0, none⟩) (cell_lt hc4)).trans hc4
     have hfw : wr.frozen? ⟨w.heap.size + 1, 0, none⟩ = false := (hBW.out.frozen (p := ⟨w.heap.size + 1, 0, none⟩) (cell_lt hc4)).trans hf4
     have hrow : (x.data.toList.take i).map (fun b => if b = 35 then (1 : Int) else 0) = impl_ReadDots.row x := by
      unfold impl_ReadDots.row
      rw [List.dropLast_eq_take]
      have : x.data.toList.length = x.size := by simp
      rw [this]
      congr 2
      omega
     rw [hrow] at hR
     have hb4 : w.heap.size + 1 < W.heap.size := cell_lt hc4
     have hwr : W.heap.size ≤ wr.heap.size := hBW.out.size
     have hww : w.heap.size ≤ W.heap.size := hB.size
     obtain ⟨Ar, cr, er⟩ := Kd.R_slice hR.out
     subst er
     have hko : ∀ k, some k = (Value.slice Ar (impl_ReadDots.row x).length cr).ownBlock → W.heap.size ≤ k := fun k hk => Kd.R_base hR.out k hk.symm
     have hvo : ∀ k, v.ownBlock = some k → k < W.heap.size := Kd.S_lt hS
     have hSw : Kd.S RR 58 wr w.heap.size (fun k => (k ≠ w.heap.size + 1 ∧ k ≠ w.heap.size + 2) ∧ ¬ some k = (Value.slice Ar (impl_ReadDots.row x).length cr).ownBlock) v (pre.map impl_ReadDots.row) :=
      Kd.S_mono (Kd.S_below (Kd.S_bound hS) hBW.out) (fun k hk => ⟨hk.1, fun e => by have := hko k e; have := hk.2.2.1; omega⟩)
     have hM : RR.M wr w.heap.size (fun k => some k = (Value.slice Ar (impl_ReadDots.row x).length cr).ownBlock) (impl_ReadDots.row x) [Value.slice Ar (impl_ReadDots.row x).length cr] :=
      Kd.M_row (Kd.R_mono (Kd.R_tight rfl (Kd.R_lower hR.out hww)) (fun _ h_ => h_))
     have hBw : Below w.heap.size w wr := below_step hB hBW.out
     have hpre' := Aside0.mk hpl
     obtain ⟨z, hz⟩ : ∃ z : Nat, (impl_ReadDots.row x).length = z := ⟨_, rfl⟩
     rw [hz] at hM hSw hko
     rw [hz]
     gi_wp2_with ((with_reducible refine gateB (b := .append) (xs := #[.tmp 30, .tmp 32]) rfl ?_); refine opIn rfl fun Kc hKc => ?_; refine Kd.S_append_step RR (w0 := w) w.heap.size rfl (.tmp 30) (.tmp 32) 22 58 (.slice none 0 0) 24 rfl Try.underlying22 info58 rfl (by decide) (by omega) v (pre.map impl_ReadDots.row) (impl_ReadDots.row x) [.slice Ar z cr] (fun k => k ≠ w.heap.size + 1 ∧ k ≠ w.heap.size + 2) (fun k => some k = (Value.slice Ar z cr).ownBlock) rfl rfl hM ?aK ?aF hSw hBw ?aS ?aL ?_; (case aK => exact fun k hk => ⟨⟨by have := hko k hk; omega, by have := hko k hk; omega⟩, fun e => by have := hko k hk; have := hvo k e.symm; omega⟩); (case aF => exact fun k hk => ⟨by omega, by omega⟩); (case aS => omega); (case aL => have := hpre'.out; simp only [List.length_map]; omega); intro v1 w1 ho hb hg hat; refine hKc _ _ ?_; clear hKc; obtain ⟨A1, k1, e1⟩ := Kd.S_slice ho; subst e1; have hcw1 : w1.cell? ⟨w.heap.size + 1, 0, none⟩ = some v := (World.cell?_of_block (hg.block (w.heap.size + 1) (by omega) (Kd.S_away hSw fun k hk => hk.1.1))).trans hcw; have hfw1 : w1.frozen? ⟨w.heap.size + 1, 0, none⟩ = false := (World.frozen?_of_block (hg.block (w.heap.size + 1) (by omega) (Kd.S_away hSw fun k hk => hk.1.1))).trans hfw)
     have hk1 : KeepsOthers W wr := ⟨hwr, fun k o hk _ => (hBW.out.block k (Array.getElem?_eq_some_iff.1 hk).1).trans hk⟩
     have hk2 : KeepsOthers wr w1 := KeepsOthers.of_grownBy hg (fun j o hj ho_ => by obtain ⟨cs, hcs⟩ := Kd.S_typed hSw j hj; rw [hcs] at ho_; cases ho_; rfl)
     have hb2 : Kbox (w.heap.size + 2) W (w1.setCell ⟨w.heap.size + 1, 0, none⟩ (.slice A1 (pre.length + 1) k1)) := by
      intro u hu
      have e1 : w1.heap[w.heap.size + 2]? = W.heap[w.heap.size + 2]? := (hg.block _ (by omega) (Kd.S_away hSw fun k hk => hk.1.2)).trans (hBW.out.block _ (by omega))
      exact ⟨(World.cell?_setCell_far _ _ _ _ (by simp)).trans ((World.cell?_of_block e1).trans hu), by rw [World.frozen?_setCell]; exact World.frozen?_of_block e1⟩
     refine ⟨(hk1.trans hk2).trans (KeepsOthers.setCell _ _ _), hb2, ⟨_, World.cell?_setCell_same' _ _ _ (by rw [hcw1]; rfl), by rw [World.frozen?_setCell]; exact hfw1, ?_, hb.setCell (by simp) _, ?_⟩⟩
     ·have hl1 : (List.map impl_ReadDots.row pre ++ [impl_ReadDots.row x]).length = pre.length + 1 := by simp
      rw [hl1] at ho
      rw [List.map_append]
      exact Kd.S_far (p := ⟨w.heap.size + 1, 0, none⟩) ho (fun k hk => hk.1) _
     ·have := hg.size
      simp
      omega
 ·rw [if_neg hsz] at h
  cases h
end Go.Proofs.Ytpdkknfooblplaa.Q
namespace Go.Proofs.Ytpdkknfooblplaa.Q
open Go.RowKit Go.Proofs.YtpdkknfooblplaaW.PrintWords Go.Proofs.YtpdkknfooblplaaW.PrintLast Go.Proofs.YtpdkknfooblplaaW.PrintMore
set_option linter.unusedVariables false
set_option linter.unusedSimpArgs false
def laws_FnExactReadDots.f (k : Nat) (a0 : ByteArray) : Option Bool := if (a0.size : Int) > 1048576 then some true else ((spec_ReadDots.f k a0).bind fun bt1 => ((impl_ReadDots.f k a0).bind fun bt4 => ((laws_eqInt64SS.f k bt4.1 bt1.1).bind fun bt7 => (if bt7 = true then (if bt4.2 = bt1.2 then ((laws_markInt64SS.f k bt4.1 1).bind fun bt8 => ((laws_heldInt64SS.f k bt8.2 1).bind fun bt10 => (if bt10 < 0 then some false else (if bt10 = bt8.1 then ((impl_ReadDots.f k a0).bind fun bt11 => ((laws_eqInt64SS.f k bt11.1 bt1.1).bind fun bt14 => (if bt14 = true then (if bt11.2 = bt4.2 then ((laws_heldInt64SS.f k bt8.2 1).bind fun bt15 => (if bt15 < 0 then some false else (if bt15 = bt10 then (some true) else some false))) else some false) else some false))) else some false)))) else some false) else some false))))
def laws_FnExactReadDots.Pure : Prop := ∀ (a0 : ByteArray), a0.size ≤ maxLen → ∃ k, laws_FnExactReadDots.f k a0 = some true
set_option maxHeartbeats 16000000 in
set_option maxRecDepth 100000 in
theorem laws_FnExactReadDots.calls (k : Nat) (a0 : ByteArray) (w : World)  (h : laws_FnExactReadDots.f k a0 = some true) :
  Calls Try.prog 3 #[.string a0] w fun e w' => e = .returned (.bool true) ∧ Below w.heap.size w w' := by
 have HB := Aside0.mk (Below.refl w.heap.size w)
 have H := h
 clear h
 unfold laws_FnExactReadDots.f at H
 by_cases c0 : (a0.size : Int) > 1048576
 ·clear H
  have c0b : decide ((a0.size : Int) > 1048576) = true := decide_eq_true c0
  clear c0
  go_enter Try.func3, Try.ntmps3
  try go_wp2
  go_ret
  exact ⟨by first | rfl | (simp; done) | (simp [*]; done), HB.out⟩
 rw [if_neg c0] at H
 have c0b : decide ((a0.size : Int) > 1048576) = false := decide_eq_false c0
 clear c0
 replace H := Option.bind_eq_some_iff.mp H
 obtain ⟨⟨t1, t2⟩, E20, H⟩ := H
 (try dsimp only at H)
 have E2 := Aside0.mk E20
 clear E20
 replace H := Option.bind_eq_some_iff.mp H
 obtain ⟨⟨t4, t5⟩, E30, H⟩ := H
 (try dsimp only at H)
 have E3 := Aside0.mk E30
 clear E30
 replace H := Option.bind_eq_some_iff.mp H
 obtain ⟨t7, E40, H⟩ := H
 (try dsimp only at H)
 have E4 := Aside0.mk E40
 clear E40
 by_cases c4 : t7 = true
 rotate_left
 ·rw [if_neg c4] at H; exact absurd H (by simp)
 rw [if_pos c4] at H
 subst c4
 by_cases c5 : t5 = t2
 rotate_left
 ·rw [if_neg c5] at H; exact absurd H (by simp)
 rw [if_pos c5] at H
 subst c5
 replace H := Option.bind_eq_some_iff.mp H
 obtain ⟨⟨t8, t9⟩, E70, H⟩ := H
 (try dsimp only at H)
 have E7 := Aside0.mk E70
 clear E70
 replace H := Option.bind_eq_some_iff.mp H
 obtain ⟨t10, E80, H⟩ := H
 (try dsimp only at H)
 have E8 := Aside0.mk E80
 clear E80
 by_cases c8 : t10 < 0
 ·rw [if_pos c8] at H; exact absurd H (by simp)
 rw [if_neg c8] at H
 have c8b : decide (t10 < 0) = false := decide_eq_false c8
 clear c8
 by_cases c9 : t10 = t8
 rotate_left
 ·rw [if_neg c9] at H; exact absurd H (by simp)
 rw [if_pos c9] at H
 subst c9
 replace H := Option.bind_eq_some_iff.mp H
 obtain ⟨⟨t11, t12⟩, E110, H⟩ := H
 (try dsimp only at H)
 have E11 := Aside0.mk E110
 clear E110
 replace H := Option.bind_eq_some_iff.mp H
 obtain ⟨t14, E120, H⟩ := H
 (try dsimp only at H)
 have E12 := Aside0.mk E120
 clear E120
 by_cases c12 : t14 = true
 rotate_left
 ·rw [if_neg c12] at H; exact absurd H (by simp)
 rw [if_pos c12] at H
 subst c12
 by_cases c13 : t12 = t5
 rotate_left
 ·rw [if_neg c13] at H; exact absurd H (by simp)
 rw [if_pos c13] at H
 subst c13
 replace H := Option.bind_eq_some_iff.mp H
 obtain ⟨t15, E150, H⟩ := H
 (try dsimp only at H)
 have E15 := Aside0.mk E150
 clear E150
 by_cases c15 : t15 < 0
 ·rw [if_pos c15] at H; exact absurd H (by simp)
 rw [if_neg c15] at H
 have c15b : decide (t15 < 0) = false := decide_eq_false c15
 clear c15
 by_cases c16 : t15 = t10
 rotate_left
 ·rw [if_neg c16] at H; exact absurd H (by simp)
 rw [if_pos c16] at H
 subst c16
 clear H
 go_enter Try.func3, Try.ntmps3
 go_wp2_with (first | ((with_reducible refine gate_callee (f := 6) rfl ?_); refine goesL_ (some 16) rfl rfl Try.func6 (by kernel_rfl) rfl #[.string a0] rfl (by (try simp only [List.map_toArray, List.map_cons, List.map_nil]); first | done | rfl) ?_; (with_reducible refine (spec_ReadDots.calls k a0 t1 t12 _ E2.out).mono ?_); rintro e w_1 ⟨vR3, rfl, hoR3, hb⟩; refine ⟨_, rfl, ?_⟩; obtain ⟨loR3, hloR3⟩ : ∃ n_ : Nat, n_ = w.heap.size := ⟨_, rfl⟩; obtain ⟨hiR3, hhiR3⟩ : ∃ n_ : Nat, n_ = w_1.heap.size := ⟨_, rfl⟩; have n0_ := Aside0.mk (below_step HB.out hb); have n1_ := Aside0.mk (Kd.S_lower (Kd.S_mono (ok' := fun k_ => loR3 ≤ k_ ∧ k_ < hiR3) (Kd.S_bound hoR3) (fun k_ hk_ => ⟨by rw [hloR3]; exact hk_.2.1, by rw [hhiR3]; exact hk_.2.2.1⟩)) (below_size HB.out)); have n2_ := Aside0.mk (by rw [hhiR3]; exact Nat.le_refl _ : hiR3 ≤ w_1.heap.size); clear HB; have HB := n0_; have HOR3 := n1_; have UPR3 := n2_; clear n0_ n1_ n2_; clear hb; clear hoR3 hloR3 hhiR3; obtain ⟨AR3, cR3, eqR3⟩ := Kd.S_slice HOR3.out; subst eqR3) | ((with_reducible refine gate_callee (f := 7) rfl ?_); refine goesL_ (some 21) rfl rfl Try.func7 (by kernel_rfl) rfl #[.string a0] rfl (by (try simp only [List.map_toArray, List.map_cons, List.map_nil]); first | done | rfl) ?_; have HWM := HB; have HBM := Aside0.mk (Below.refl w_1.heap.size w_1); (with_reducible refine (impl_ReadDots.calls k a0 t4 t12 _ E3.out).mono ?_); rintro e w_2 ⟨vR6, rfl, hoR6, hb⟩; refine ⟨_, rfl, ?_⟩; obtain ⟨loR6, hloR6⟩ : ∃ n_ : Nat, n_ = w_1.heap.size := ⟨_, rfl⟩; obtain ⟨hiR6, hhiR6⟩ : ∃ n_ : Nat, n_ = w_2.heap.size := ⟨_, rfl⟩; have n0_ := Aside0.mk (Kd.S_below HOR3.out hb); have n1_ := Aside0.mk (Nat.le_trans UPR3.out hb.size); have n2_ := Aside0.mk (below_step HB.out hb); have n3_ := Aside0.mk (below_step HBM.out hb); have n4_ := Aside0.mk (Kd.S_lower (Kd.S_mono (ok' := fun k_ => loR6 ≤ k_ ∧ k_ < hiR6) (Kd.S_bound hoR6) (fun k_ hk_ => ⟨by rw [hloR6]; exact hk_.2.1, by rw [hhiR6]; exact hk_.2.2.1⟩)) (below_size HBM.out)); have n5_ := Aside0.mk (by rw [hhiR6]; exact Nat.le_refl _ : hiR6 ≤ w_2.heap.size); have n6_ := Aside0.mk (fun k_ h1_ h2_ => by have := UPR3.out; rw [← hloR6] at this; omega : ∀ k_, loR3 ≤ k_ ∧ k_ < hiR3 → ¬ (loR6 ≤ k_ ∧ k_ < hiR6)); have n7_ := Aside0.mk (fun k_ h1_ h2_ => by have := UPR3.out; rw [← hloR6] at this; omega : ∀ k_, loR6 ≤ k_ ∧ k_ < hiR6 → ¬ (loR3 ≤ k_ ∧ k_ < hiR3)); clear HOR3; clear UPR3; clear HB; clear HBM; have HOR3 := n0_; have UPR3 := n1_; have HB := n2_; have HBM := n3_; have HOR6 := n4_; have UPR6 := n5_; have NRR3_R6 := n6_; have NRR6_R3 := n7_; clear n0_ n1_ n2_ n3_ n4_ n5_ n6_ n7_; clear hb; clear hoR6 hloR6 hhiR6; obtain ⟨AR6, cR6, eqR6⟩ := Kd.S_slice HOR6.out; subst eqR6) | ((with_reducible refine gate_callee (f := 8) rfl ?_); refine goesL_ (some 26) rfl rfl Try.func8 (by kernel_rfl) rfl #[.slice AR6 t4.length cR6, .slice AR3 t1.length cR3] rfl (by (try simp only [List.map_toArray, List.map_cons, List.map_nil]); first | done | rfl) ?_; (with_reducible refine (laws_eqInt64SS.calls k _ _ t4 _ _ t1 true _ ?side1 ?side2 ?side3 ?side4 E4.out).mono ?_); (case side1 => exact (Kd.S_reads' HOR6.out).2.2); (case side2 => exact (Kd.S_reads' HOR6.out).2.1); (case side3 => exact (Kd.S_reads' HOR3.out).2.2); (case side4 => exact (Kd.S_reads' HOR3.out).2.1); rintro e w_3 ⟨rfl, hd⟩; have hb := Drawn0.below hd; refine ⟨_, rfl, ?_⟩; have n0_ := Aside0.mk (Kd.S_below HOR3.out hb); have n1_ := Aside0.mk (Kd.S_below HOR6.out hb); have n2_ := Aside0.mk (Nat.le_trans UPR3.out hb.size); have n3_ := Aside0.mk (Nat.le_trans UPR6.out hb.size); have n4_ := Aside0.mk (below_step HB.out hb); have n5_ := Aside0.mk (below_step HBM.out hb); clear HOR3; clear HOR6; clear UPR3; clear UPR6; clear HB; clear HBM; have HOR3 := n0_; have HOR6 := n1_; have UPR3 := n2_; have UPR6 := n3_; have HB := n4_; have HBM := n5_; clear n0_ n1_ n2_ n3_ n4_ n5_; clear hb; clear hd) | ((with_reducible refine gate_callee (f := 9) rfl ?_); refine goesL_ (some 35) rfl rfl Try.func9 (by kernel_rfl) rfl #[.slice AR6 t4.length cR6, .int .i64 1] rfl (by (try simp only [List.map_toArray, List.map_cons, List.map_nil]); first | done | rfl) ?_; (with_reducible refine (laws_markInt64SS.calls k (fun k_ => loR6 ≤ k_ ∧ k_ < hiR6) _ t4 1 t15 t9 w_1 _ ?side1 ?side2 E7.out).mono ?_); (case side1 => exact HBM.out); (case side2 => exact HOR6.out); rintro e w_4 ⟨rfl, hy, hb, hkp⟩; refine ⟨_, rfl, ?_⟩; have n0_ := Aside0.mk (Kd.S_kept HOR3.out hkp NRR3_R6.out); have n1_ := Aside0.mk (Nat.le_trans UPR3.out hkp.1); have n2_ := Aside0.mk (hy); have n3_ := Aside0.mk (Nat.le_trans UPR6.out hkp.1); have n4_ := Aside0.mk (below_step HWM.out hb); have n5_ := Aside0.mk (hb); clear HOR3; clear UPR3; clear HOR6; clear UPR6; clear HB; clear HBM; have HOR3 := n0_; have UPR3 := n1_; have HOR6 := n2_; have UPR6 := n3_; have HB := n4_; have HBM := n5_; clear n0_ n1_ n2_ n3_ n4_ n5_; clear hy hb hkp) | ((with_reducible refine gate_callee (f := 10) rfl ?_); refine goesL_ (some 38) rfl rfl Try.func10 (by kernel_rfl) rfl #[.slice AR6 t9.length cR6, .int .i64 1] rfl (by (try simp only [List.map_toArray, List.map_cons, List.map_nil]); first | done | rfl | (simp only [show t9.length = t4.length from (Kd.S_reads' HOR6.out).1.symm]; rfl)) ?_; (with_reducible refine (laws_heldInt64SS.calls k _ _ t9 1 t15 _ ?side1 ?side2 E8.out).mono ?_); (case side1 => exact (Kd.S_reads' HOR6.out).2.2); (case side2 => exact (fun h_ => h_.1 ▸ h_.2.1) (Kd.S_reads' HOR6.out)); rintro e w_5 ⟨rfl, hd⟩; have hb := Drawn0.below hd; refine ⟨_, rfl, ?_⟩; have n0_ := Aside0.mk (Kd.S_below HOR3.out hb); have n1_ := Aside0.mk (Kd.S_below HOR6.out hb); have n2_ := Aside0.mk (Nat.le_trans UPR3.out hb.size); have n3_ := Aside0.mk (Nat.le_trans UPR6.out hb.size); have n4_ := Aside0.mk (below_step HB.out hb); have n5_ := Aside0.mk (below_step HBM.out hb); clear HOR3; clear HOR6; clear UPR3; clear UPR6; clear HB; clear HBM; have HOR3 := n0_; have HOR6 := n1_; have UPR3 := n2_; have UPR6 := n3_; have HB := n4_; have HBM := n5_; clear n0_ n1_ n2_ n3_ n4_ n5_; clear hb; clear hd) | ((with_reducible refine gate_callee (f := 7) rfl ?_); refine goesL_ (some 46) rfl rfl Try.func7 (by kernel_rfl) rfl #[.string a0] rfl (by (try simp only [List.map_toArray, List.map_cons, List.map_nil]); first | done | rfl) ?_; (with_reducible refine (impl_ReadDots.calls k a0 t11 t12 _ E11.out).mono ?_); rintro e w_6 ⟨vR13, rfl, hoR13, hb⟩; refine ⟨_, rfl, ?_⟩; obtain ⟨loR13, hloR13⟩ : ∃ n_ : Nat, n_ = w_5.heap.size := ⟨_, rfl⟩; obtain ⟨hiR13, hhiR13⟩ : ∃ n_ : Nat, n_ = w_6.heap.size := ⟨_, rfl⟩; have n0_ := Aside0.mk (Kd.S_below HOR3.out hb); have n1_ := Aside0.mk (Kd.S_below HOR6.out hb); have n2_ := Aside0.mk (Nat.le_trans UPR3.out hb.size); have n3_ := Aside0.mk (Nat.le_trans UPR6.out hb.size); have n4_ := Aside0.mk (below_step HB.out hb); have n5_ := Aside0.mk (below_step HBM.out hb); have n6_ := Aside0.mk (Kd.S_lower (Kd.S_mono (ok' := fun k_ => loR13 ≤ k_ ∧ k_ < hiR13) (Kd.S_bound hoR13) (fun k_ hk_ => ⟨by rw [hloR13]; exact hk_.2.1, by rw [hhiR13]; exact hk_.2.2.1⟩)) (below_size HBM.out)); have n7_ := Aside0.mk (by rw [hhiR13]; exact Nat.le_refl _ : hiR13 ≤ w_6.heap.size); have n8_ := Aside0.mk (fun k_ h1_ h2_ => by have := UPR3.out; rw [← hloR13] at this; omega : ∀ k_, loR3 ≤ k_ ∧ k_ < hiR3 → ¬ (loR13 ≤ k_ ∧ k_ < hiR13)); have n9_ := Aside0.mk (fun k_ h1_ h2_ => by have := UPR3.out; rw [← hloR13] at this; omega : ∀ k_, loR13 ≤ k_ ∧ k_ < hiR13 → ¬ (loR3 ≤ k_ ∧ k_ < hiR3)); have n10_ := Aside0.mk (fun k_ h1_ h2_ => by have := UPR6.out; rw [← hloR13] at this; omega : ∀ k_, loR6 ≤ k_ ∧ k_ < hiR6 → ¬ (loR13 ≤ k_ ∧ k_ < hiR13)); have n11_ := Aside0.mk (fun k_ h1_ h2_ => by have := UPR6.out; rw [← hloR13] at this; omega : ∀ k_, loR13 ≤ k_ ∧ k_ < hiR13 → ¬ (loR6 ≤ k_ ∧ k_ < hiR6)); clear HOR3; clear HOR6; clear UPR3; clear UPR6; clear HB; clear HBM; have HOR3 := n0_; have HOR6 := n1_; have UPR3 := n2_; have UPR6 := n3_; have HB := n4_; have HBM := n5_; have HOR13 := n6_; have UPR13 := n7_; have NRR3_R13 := n8_; have NRR13_R3 := n9_; have NRR6_R13 := n10_; have NRR13_R6 := n11_; clear n0_ n1_ n2_ n3_ n4_ n5_ n6_ n7_ n8_ n9_ n10_ n11_; clear hb; clear hoR13 hloR13 hhiR13; obtain ⟨AR13, cR13, eqR13⟩ := Kd.S_slice HOR13.out; subst eqR13) | ((with_reducible refine gate_callee (f := 8) rfl ?_); refine goesL_ (some 51) rfl rfl Try.func8 (by kernel_rfl) rfl #[.slice AR13 t11.length cR13, .slice AR3 t1.length cR3] rfl (by (try simp only [List.map_toArray, List.map_cons, List.map_nil]); first | done | rfl) ?_; (with_reducible refine (laws_eqInt64SS.calls k _ _ t11 _ _ t1 true _ ?side1 ?side2 ?side3 ?side4 E12.out).mono ?_); (case side1 => exact (Kd.S_reads' HOR13.out).2.2); (case side2 => exact (Kd.S_reads' HOR13.out).2.1); (case side3 => exact (Kd.S_reads' HOR3.out).2.2); (case side4 => exact (Kd.S_reads' HOR3.out).2.1); rintro e w_7 ⟨rfl, hd⟩; have hb := Drawn0.below hd; refine ⟨_, rfl, ?_⟩; have n0_ := Aside0.mk (Kd.S_below HOR3.out hb); have n1_ := Aside0.mk (Kd.S_below HOR6.out hb); have n2_ := Aside0.mk (Kd.S_below HOR13.out hb); have n3_ := Aside0.mk (Nat.le_trans UPR3.out hb.size); have n4_ := Aside0.mk (Nat.le_trans UPR6.out hb.size); have n5_ := Aside0.mk (Nat.le_trans UPR13.out hb.size); have n6_ := Aside0.mk (below_step HB.out hb); have n7_ := Aside0.mk (below_step HBM.out hb); clear HOR3; clear HOR6; clear HOR13; clear UPR3; clear UPR6; clear UPR13; clear HB; clear HBM; have HOR3 := n0_; have HOR6 := n1_; have HOR13 := n2_; have UPR3 := n3_; have UPR6 := n4_; have UPR13 := n5_; have HB := n6_; have HBM := n7_; clear n0_ n1_ n2_ n3_ n4_ n5_ n6_ n7_; clear hb; clear hd) | ((with_reducible refine gate_callee (f := 10) rfl ?_); refine goesL_ (some 60) rfl rfl Try.func10 (by kernel_rfl) rfl #[.slice AR6 t9.length cR6, .int .i64 1] rfl (by (try simp only [List.map_toArray, List.map_cons, List.map_nil]); first | done | rfl | (simp only [show t9.length = t4.length from (Kd.S_reads' HOR6.out).1.symm]; rfl)) ?_; (with_reducible refine (laws_heldInt64SS.calls k _ _ t9 1 t15 _ ?side1 ?side2 E15.out).mono ?_); (case side1 => exact (Kd.S_reads' HOR6.out).2.2); (case side2 => exact (fun h_ => h_.1 ▸ h_.2.1) (Kd.S_reads' HOR6.out)); rintro e w_8 ⟨rfl, hd⟩; have hb := Drawn0.below hd; refine ⟨_, rfl, ?_⟩; have n0_ := Aside0.mk (Kd.S_below HOR3.out hb); have n1_ := Aside0.mk (Kd.S_below HOR6.out hb); have n2_ := Aside0.mk (Kd.S_below HOR13.out hb); have n3_ := Aside0.mk (Nat.le_trans UPR3.out hb.size); have n4_ := Aside0.mk (Nat.le_trans UPR6.out hb.size); have n5_ := Aside0.mk (Nat.le_trans UPR13.out hb.size); have n6_ := Aside0.mk (below_step HB.out hb); have n7_ := Aside0.mk (below_step HBM.out hb); clear HOR3; clear HOR6; clear HOR13; clear UPR3; clear UPR6; clear UPR13; clear HB; clear HBM; have HOR3 := n0_; have HOR6 := n1_; have HOR13 := n2_; have UPR3 := n3_; have UPR6 := n4_; have UPR13 := n5_; have HB := n6_; have HBM := n7_; clear n0_ n1_ n2_ n3_ n4_ n5_ n6_ n7_; clear hb; clear hd))
 go_ret
 exact ⟨by first | rfl | (simp; done) | (simp [*]; done), HB.out⟩
theorem laws_FnExactReadDots.walk (P : laws_FnExactReadDots.Pure) (a0 : ByteArray) (w : World)  (w0 : a0.size ≤ maxLen) :
  Calls Try.prog 3 #[.string a0] w fun e w' => e = .returned (.bool true) ∧ Below w.heap.size w w' := by
 obtain ⟨k, h⟩ := P a0 w0
 exact laws_FnExactReadDots.calls k a0 w h
end Go.Proofs.Ytpdkknfooblplaa.Q
namespace Go.Proofs.Ytpdkknfooblplaa.Com
open Go.RowKit Go.Proofs.YtpdkknfooblplaaW.PrintWords
theorem w64 {x : Int} (h1 : -9223372036854775808 ≤ x) (h2 : x ≤ 9223372036854775807) : wrap64 x = x := by
 unfold wrap64
 omega
theorem ev_of {α : Type} {g : Nat → Option α} {r : α} (h : Ev g r) : ∃ k, g k = some r := h.rounds
theorem ev_bind' {α β : Type} {o : Option α} {f : Nat → α → Option β} {a : α} {r : β} (h : o = some a) (k : Ev (fun n => f n a) r) : Ev (fun n => o.bind (f n)) r := by
 subst h
 exact k
end Go.Proofs.Ytpdkknfooblplaa.Com
namespace Go.Proofs.Ytpdkknfooblplaa.Com
set_option linter.unusedSimpArgs false
set_option linter.unusedVariables false
open Go.RowKit Go.Proofs.YtpdkknfooblplaaW.PrintWords
theorem ev_fold {α σ ρ : Type} (xs : List α) (g : Nat → σ → Nat → Option ρ) (F : List α → σ → ρ) (Inv : Nat → σ → Prop)
  (h0 : ∀ s, Inv xs.length s → Ev (g xs.length s) (F [] s))
  (hs : ∀ m (h : m < xs.length) s, Inv m s → (∀ s', Inv (m + 1) s' → Ev (g (m + 1) s') (F (xs.drop (m + 1)) s')) → Ev (g m s) (F (xs[m] :: xs.drop (m + 1)) s)) :
  ∀ m s, m ≤ xs.length → Inv m s → Ev (g m s) (F (xs.drop m) s) := by
 have key : ∀ d m s, m + d = xs.length → Inv m s → Ev (g m s) (F (xs.drop m) s) := by
  intro d
  induction d with
  | zero =>
   intro m s e hi
   obtain rfl : m = xs.length := by omega
   rw [List.drop_length]
   exact h0 s hi
  | succ d ih =>
   intro m s e hi
   have h : m < xs.length := by omega
   rw [List.drop_eq_getElem_cons h]
   exact hs m h s hi (fun s' hi' => ih (m + 1) s' (by omega) hi')
 intro m s hm hi
 exact key (xs.length - m) m s (by omega) hi
theorem ev_list {α ρ : Type} (xs : List α) (g : Nat → Nat → Option ρ) (F : List α → ρ) (h0 : Ev (g xs.length) (F []))
  (hs : ∀ m (h : m < xs.length), Ev (g (m + 1)) (F (xs.drop (m + 1))) → Ev (g m) (F (xs[m] :: xs.drop (m + 1)))) (m : Nat) (hm : m ≤ xs.length) : Ev (g m) (F (xs.drop m)) :=
 ev_fold xs (fun m (_ : Unit) => g m) (fun l _ => F l) (fun _ _ => True) (fun _ _ => h0) (fun m h _ _ ih => hs m h (ih () trivial)) m () hm trivial
theorem ev_count {σ ρ : Type} (n : Nat) (g : Nat → σ → Nat → Option ρ) (r : ρ) (Inv : Nat → σ → Prop) (h0 : ∀ s, Inv n s → Ev (g n s) r)
  (hs : ∀ m s, m < n → Inv m s → ∃ s', Inv (m + 1) s' ∧ (Ev (g (m + 1) s') r → Ev (g m s) r)) : ∀ m s, m ≤ n → Inv m s → Ev (g m s) r := by
 have key : ∀ d m s, m + d = n → Inv m s → Ev (g m s) r := by
  intro d
  induction d with
  | zero =>
   intro m s e hi
   obtain rfl : m = n := by omega
   exact h0 s hi
  | succ d ih =>
   intro m s e hi
   obtain ⟨s', hi', k⟩ := hs m s (by omega) hi
   exact k (ih (m + 1) s' (by omega) hi')
 intro m s hm hi
 exact key (n - m) m s (by omega) hi
theorem rd_nat {xs : List Int} {m : Nat} (h : m < xs.length) : rd xs (m : Int) = xs[m] := by
 unfold rd
 rw [Int.toNat_natCast, List.getD_eq_getElem?_getD, List.getElem?_eq_getElem h]
 rfl
theorem w_succ {m : Nat} (h : m < 9223372036854775807) : wrap64 ((m : Int) + 1) = ((m + 1 : Nat) : Int) := by
 rw [w64 (by omega) (by omega)]
 omega
end Go.Proofs.Ytpdkknfooblplaa.Com
namespace Go.Proofs.Ytpdkknfooblplaa.Com
set_option linter.unusedSimpArgs false
set_option linter.unusedVariables false
open Go.RowKit Go.Proofs.YtpdkknfooblplaaW.PrintWords Go.Proofs.Ytpdkknfooblplaa.Q
theorem eqInt64S_ev (xs ys : List Int) (hx : xs.length ≤ 1048576) : Ev (fun k => laws_eqInt64S.f k xs ys) (decide (xs = ys)) := by
 unfold laws_eqInt64S.f
 by_cases hl : (xs.length : Int) = (ys.length : Int)
 ·simp only [if_pos hl]
  have key : ∀ m, m ≤ xs.length → Ev (fun k => laws_eqInt64S.l0 k xs ys (m : Int)) (decide (xs.drop m = ys.drop m)) := by
   have gen := ev_list xs (fun m k => laws_eqInt64S.l0 k xs ys (m : Int)) (fun l => decide (l = ys.drop (xs.length - l.length))) ?_ ?_
   ·intro m hm
    have := gen m hm
    rwa [List.length_drop, show xs.length - (xs.length - m) = m by omega] at this
   ·refine Ev.step (fun k => by rw [laws_eqInt64S.l0]) ?_
    simp only [if_neg (show ¬ (xs.length : Int) < (xs.length : Int) by omega)]
    have : ys.drop (xs.length - ([] : List Int).length) = [] := by simp; omega
    rw [this]
    exact Ev.now _
   ·intro m hm ih
    refine Ev.step (fun k => by rw [laws_eqInt64S.l0]) ?_
    have hy : m < ys.length := by omega
    simp only [if_pos (show (m : Int) < (xs.length : Int) by omega), if_pos (show 0 ≤ (m : Int) by omega), if_pos (show (m : Int) < (ys.length : Int) by omega), rd_nat hm, rd_nat hy, w_succ (m := m) (by omega)]
    rw [List.length_drop, show xs.length - (xs.length - (m + 1)) = m + 1 by omega] at ih
    have e : xs.length - (xs[m] :: xs.drop (m + 1)).length = m := by simp; omega
    rw [e, List.drop_eq_getElem_cons hy]
    by_cases c : xs[m] = ys[m]
    ·simp only [if_pos c]
     rw [show decide (xs[m] :: xs.drop (m + 1) = ys[m] :: ys.drop (m + 1)) = decide (xs.drop (m + 1) = ys.drop (m + 1)) from decide_eq_decide.2 (by rw [c]; exact ⟨fun h => (List.cons.inj h).2, fun h => by rw [h]⟩)]
     exact ih
    ·simp only [if_neg c]
     rw [decide_eq_false (show ¬ xs[m] :: xs.drop (m + 1) = ys[m] :: ys.drop (m + 1) from fun h => c (List.cons.inj h).1)]
     exact Ev.now _
  have := key 0 (by omega)
  simpa using this
 ·simp only [if_neg hl]
  have : xs ≠ ys := fun e => hl (by rw [e])
  rw [decide_eq_false this]
  exact Ev.now _
end Go.Proofs.Ytpdkknfooblplaa.Com
namespace Go.Proofs.Ytpdkknfooblplaa.Com
set_option linter.unusedSimpArgs false
set_option linter.unusedVariables false
open Go.RowKit Go.Proofs.YtpdkknfooblplaaW.PrintWords Go.Proofs.Ytpdkknfooblplaa.Q
theorem in_tells (x a b : Int) : spec_l00In.f x a b = some (decide (a ≤ x ∧ x ≤ b)) := by
 unfold spec_l00In.f
 by_cases h : x ≥ a
 ·have h' : a ≤ x := h
  simp [h, h']
 ·have h' : ¬ a ≤ x := h
  simp [h, h']
end Go.Proofs.Ytpdkknfooblplaa.Com
namespace Go.Proofs.Ytpdkknfooblplaa.Com
set_option linter.unusedSimpArgs false
set_option linter.unusedVariables false
set_option linter.unusedSectionVars false
open Go.RowKit Go.Proofs.YtpdkknfooblplaaW.PrintWords Go.Proofs.YtpdkknfooblplaaW.PrintMore Go.Proofs.Ytpdkknfooblplaa.Q
theorem rdr_nat {xs : List (List Int)} {m : Nat} (h : m < xs.length) : rd_L1 xs (m : Int) = xs[m] := by
 unfold rd_L1
 rw [Int.toNat_natCast, List.getD_eq_getElem?_getD, List.getElem?_eq_getElem h]
 rfl
theorem eqInt64SS_ev (xs : List (List Int)) (hx : xs.length ≤ 1048576) (hr : ∀ x ∈ xs, x.length ≤ 1048576) : Ev (fun k => laws_eqInt64SS.f k xs xs) true := by
 unfold laws_eqInt64SS.f
 simp only [if_true]
 have gen := ev_list xs (fun m k => laws_eqInt64SS.l0 k xs xs (m : Int)) (fun _ => true) ?_ ?_ 0 (by omega)
 ·exact gen
 ·refine Ev.step (fun k => by rw [laws_eqInt64SS.l0]) ?_
  simp only [if_neg (show ¬ (xs.length : Int) < (xs.length : Int) by omega)]
  exact Ev.now _
 ·intro m hm ih
  refine Ev.step (fun k => by rw [laws_eqInt64SS.l0]) ?_
  simp only [if_pos (show (m : Int) < (xs.length : Int) by omega), if_pos (show 0 ≤ (m : Int) by omega), rdr_nat hm, w_succ (m := m) (by omega)]
  refine Ev.bind (eqInt64S_ev xs[m] xs[m] (hr _ (List.getElem_mem hm))) ?_
  simp only [decide_true, if_true]
  exact ih
def rowOk (n : Nat) (b : Int) (x : List Int) : Bool := decide (x.length = n) && x.all fun z => decide (0 ≤ z ∧ z ≤ b)
def rowsForm (b : Int) (l : List (List Int)) : Bool := match l with
 | [] => false
 | y :: _ => decide (l.length ≤ 12) && decide (1 ≤ y.length ∧ y.length ≤ 12) && l.all (rowOk y.length b)
theorem areRows_tells (l : List (List Int)) (b : Int) : impl_areRows.f l b = some (rowsForm b l) := by
 cases l with
 | nil => rfl
 | cons y r =>
  unfold impl_areRows.f rowsForm
  simp only
  congr 1
  rw [List.not_any_eq_all_not]
  congr 2
  funext x
  unfold impl_areRows.p rowOk
  by_cases h : x.length = y.length <;> simp [h]
theorem form_ev (l : List (List Int)) (b : Int) (hx : l.length ≤ 1048576) (hr : ∀ x ∈ l, x.length ≤ 1048576) : Ev (fun k => spec_l09Form.f k l b) (rowsForm b l) := by
 have jf : Ev (fun k => spec_l09Form.j0 k l b true) false := Ev.step (fun k => by rw [spec_l09Form.j0]) (by simp only [if_true]; exact Ev.now _)
 unfold spec_l09Form.f
 cases l with
 | nil =>
  simp only [if_pos (show (([] : List (List Int)).length : Int) < 1 by decide)]
  exact jf
 | cons y r =>
  have e0 : rd_L1 (y :: r) 0 = y := rdr_nat (xs := y :: r) (m := 0) (by rw [List.length_cons]; omega)
  have hl : (y :: r).length = r.length + 1 := rfl
  simp only [if_neg (show ¬ ((y :: r).length : Int) < 1 by omega), if_pos (show 0 < ((y :: r).length : Int) by omega), e0]
  have ef : rowsForm b (y :: r) = (decide ((y :: r).length ≤ 12) && decide (1 ≤ y.length ∧ y.length ≤ 12) && (y :: r).all (rowOk y.length b)) := rfl
  by_cases h1 : ((y :: r).length : Int) > 12
  ·simp only [if_pos h1]
   rw [ef, decide_eq_false (show ¬ (y :: r).length ≤ 12 by omega), Bool.false_and, Bool.false_and]
   exact jf
  ·simp only [if_neg h1]
   rw [ef, decide_eq_true (show (y :: r).length ≤ 12 by omega), Bool.true_and]
   by_cases h2 : (y.length : Int) < 1
   ·simp only [if_pos h2]
    rw [decide_eq_false (show ¬ (1 ≤ y.length ∧ y.length ≤ 12) by omega), Bool.false_and]
    exact jf
   ·simp only [if_neg h2]
    by_cases h3 : (y.length : Int) > 12
    ·rw [decide_eq_true h3, decide_eq_false (show ¬ (1 ≤ y.length ∧ y.length ≤ 12) by omega), Bool.false_and]
     exact jf
    ·rw [decide_eq_false h3, decide_eq_true (show 1 ≤ y.length ∧ y.length ≤ 12 by omega), Bool.true_and]
     refine Ev.step (fun k => by rw [spec_l09Form.j0]) ?_
     simp only [Bool.false_eq_true, if_false]
     generalize y :: r = l at hx hr e0 hl h1
     have gen := ev_list l (fun m k => spec_l09Form.l0 k l b (m : Int)) (fun d => d.all (rowOk y.length b)) ?_ ?_ 0 (by omega)
     ·exact gen
     ·refine Ev.step (fun k => by rw [spec_l09Form.l0]) ?_
      simp only [if_neg (show ¬ (l.length : Int) < (l.length : Int) by omega), List.all_nil]
      exact Ev.now _
     ·intro m hm ih
      have hrm := hr _ (List.getElem_mem hm)
      refine Ev.step (fun k => by rw [spec_l09Form.l0]) ?_
      simp only [if_pos (show (m : Int) < (l.length : Int) by omega), if_pos (show 0 ≤ (m : Int) by omega), if_pos (show 0 < (l.length : Int) by omega), rdr_nat hm, e0]
      rw [List.all_cons]
      by_cases q : l[m].length = y.length
      ·simp only [if_pos (show (l[m].length : Int) = (y.length : Int) by omega)]
       have er : rowOk y.length b l[m] = l[m].all fun z => decide (0 ≤ z ∧ z ≤ b) := by unfold rowOk; rw [decide_eq_true q, Bool.true_and]
       rw [er]
       have gen := ev_list l[m] (fun j k => spec_l09Form.l1 k l b (m : Int) (j : Int)) (fun d => (d.all fun z => decide (0 ≤ z ∧ z ≤ b)) && (l.drop (m + 1)).all (rowOk y.length b)) ?_ ?_ 0 (by omega)
       ·exact gen
       ·refine Ev.step (fun k => by rw [spec_l09Form.l1]) ?_
        simp only [if_pos (show (m : Int) < (l.length : Int) by omega), if_pos (show 0 ≤ (m : Int) by omega), rdr_nat hm, if_neg (show ¬ (l[m].length : Int) < (l[m].length : Int) by omega), w_succ (m := m) (by omega), List.all_nil, Bool.true_and]
        exact ih
       ·intro j hj ih2
        refine Ev.step (fun k => by rw [spec_l09Form.l1]) ?_
        simp only [if_pos (show (m : Int) < (l.length : Int) by omega), if_pos (show 0 ≤ (m : Int) by omega), rdr_nat hm, if_pos (show (j : Int) < (l[m].length : Int) by omega), if_pos (show 0 ≤ (j : Int) by omega), rd_nat hj, in_tells, Option.bind_some, decide_eq_true_eq, w_succ (m := j) (by omega)]
        rw [List.all_cons]
        by_cases c : 0 ≤ l[m][j] ∧ l[m][j] ≤ b
        ·simp only [if_pos c]
         rw [decide_eq_true c, Bool.true_and]
         exact ih2
        ·simp only [if_neg c]
         rw [decide_eq_false c, Bool.false_and, Bool.false_and]
         exact Ev.now _
      ·simp only [if_neg (show ¬ (l[m].length : Int) = (y.length : Int) by omega)]
       have er : rowOk y.length b l[m] = false := by unfold rowOk; rw [decide_eq_false q, Bool.false_and]
       rw [er, Bool.false_and]
       exact Ev.now _
end Go.Proofs.Ytpdkknfooblplaa.Com
namespace Go.Proofs.Ytpdkknfooblplaa.Com
set_option linter.unusedSimpArgs false
set_option linter.unusedVariables false
set_option linter.unusedSectionVars false
open Go.RowKit Go.Proofs.Ytpdkknfooblplaa.Q Go.Proofs.YtpdkknfooblplaaW.PrintWords Go.Proofs.YtpdkknfooblplaaW.PrintLast Go.Proofs.Ytpdkknfooblplaa.Com Go.Proofs.Ytpdkknfooblplaa.Box
def dot (z : Int) : Int := if z = 1 then 35 else 46
def dots : List (List Int) → List Int
 | [] => []
 | x :: r => x.map dot ++ [10] ++ dots r
section
variable {l : List (List Int)} (hl : l.length ≤ 12) (hr : ∀ x ∈ l, x.length ≤ 12 ∧ ∀ z ∈ x, 0 ≤ z ∧ z ≤ 1)
include hl hr
theorem dotsImpl_ev : Ev (fun k => impl_DotsText.l0 k [] l (l.length : Int) 0) (strOfNums (dots l), true) := by
 have gen := ev_fold l (fun m (s : List Int) k => impl_DotsText.l0 k s l (l.length : Int) (m : Int)) (fun d s => (strOfNums (s ++ dots d), true)) (fun m s => s.length ≤ 13 * m) ?_ ?_ 0 [] (by omega) (by simp)
 ·exact gen
 ·intro s _
  refine Ev.step (fun k => by rw [impl_DotsText.l0]) ?_
  simp only [if_neg (show ¬ (l.length : Int) < (l.length : Int) by omega), dots, List.append_nil]
  exact Ev.now _
 ·intro m hm s hs ih
  obtain ⟨h1, h2⟩ := hr _ (List.getElem_mem hm)
  refine Ev.step (fun k => by rw [impl_DotsText.l0]) ?_
  simp only [if_pos (show (m : Int) < (l.length : Int) by omega), if_pos (show 0 ≤ (m : Int) by omega), rdr_nat hm]
  have gen := ev_fold l[m] (fun j (s : List Int) k => impl_DotsText.l1 k s l (l.length : Int) (m : Int) l[m] (l[m].length : Int) (j : Int)) (fun d s => (strOfNums (s ++ (d.map dot ++ [10] ++ dots (l.drop (m + 1)))), true)) (fun j s => s.length ≤ 13 * m + j) ?_ ?_ 0 s (by omega) (by omega)
  ·exact gen
  ·intro s hs
   refine Ev.step (fun k => by rw [impl_DotsText.l1]) ?_
   simp only [if_neg (show ¬ (l[m].length : Int) < (l[m].length : Int) by omega), w_succ (m := m) (by omega), if_pos (show s.length < 140737488355328 by omega), List.map_nil, List.nil_append]
   rw [← List.append_assoc]
   exact ih _ (by simp; omega)
  ·intro j hj s hs ih2
   obtain ⟨z0, z1⟩ := h2 _ (List.getElem_mem hj)
   have e : bt (⟨#[46, 35]⟩ : ByteArray) l[m][j] = dot l[m][j] := by
    rcases (show l[m][j] = 0 ∨ l[m][j] = 1 by omega) with h | h <;> rw [h] <;> rfl
   refine Ev.step (fun k => by rw [impl_DotsText.l1]) ?_
   simp only [if_pos (show (j : Int) < (l[m].length : Int) by omega), if_pos (show 0 ≤ (j : Int) by omega), rd_nat hj, w_succ (m := j) (by omega), if_pos z0, if_pos (show l[m][j] < 2 by omega), if_pos (show s.length < 140737488355328 by omega), e]
   rw [List.map_cons]
   rw [show s ++ (dot l[m][j] :: List.map dot (List.drop (j + 1) l[m]) ++ [10] ++ dots (List.drop (m + 1) l)) = s ++ [dot l[m][j]] ++ (List.map dot (List.drop (j + 1) l[m]) ++ [10] ++ dots (List.drop (m + 1) l)) by simp]
   exact ih2 _ (by simp; omega)
end
theorem form_rows {l : List (List Int)} {b : Int} (h : rowsForm b l = true) : l.length ≤ 12 ∧ ∀ x ∈ l, x.length ≤ 12 ∧ ∀ z ∈ x, 0 ≤ z ∧ z ≤ b := by
 cases l with
 | nil => simp [rowsForm] at h
 | cons y r =>
  have h' : (decide ((y :: r).length ≤ 12) && decide (1 ≤ y.length ∧ y.length ≤ 12) && (y :: r).all (rowOk y.length b)) = true := h
  rw [Bool.and_eq_true, Bool.and_eq_true] at h'
  obtain ⟨⟨h1, h2⟩, h3⟩ := h'
  have h1 := of_decide_eq_true h1
  have h2 := of_decide_eq_true h2
  refine ⟨h1, fun x hx => ?_⟩
  have hk := List.all_eq_true.1 h3 x hx
  unfold rowOk at hk
  rw [Bool.and_eq_true] at hk
  have q := of_decide_eq_true hk.1
  exact ⟨by omega, fun z hz => of_decide_eq_true (List.all_eq_true.1 hk.2 z hz)⟩
def bdot (z : Int) : UInt8 := if z = 1 then 35 else 46
def bdots : List (List Int) → List UInt8
 | [] => []
 | x :: r => x.map bdot ++ 10 :: bdots r
theorem strOf_map : ∀ (l : List Int) (m : List UInt8), l.map (fun n => UInt8.ofNat n.toNat) = m → strOfNums l = ⟨m.toArray⟩ := by
 intro l m h
 apply ByteArray.ext
 simp [strOfNums, ← h]
theorem dots_bytes : ∀ rs : List (List Int), (dots rs).map (fun n => UInt8.ofNat n.toNat) = bdots rs
 | [] => rfl
 | x :: r => by
  have ih := dots_bytes r
  simp only [dots, bdots, List.map_append, ih, List.map_map, List.append_assoc, List.map_cons, List.map_nil, List.cons_append, List.nil_append]
  refine congr (congrArg _ (List.map_congr_left fun z _ => ?_)) rfl
  simp only [Function.comp, dot, bdot]
  split <;> rfl
theorem str_dots (rs : List (List Int)) : strOfNums (dots rs) = ⟨(bdots rs).toArray⟩ := strOf_map _ _ (dots_bytes rs)
theorem bdots_append : ∀ (a b : List (List Int)), bdots (a ++ b) = bdots a ++ bdots b
 | [], b => rfl
 | x :: a, b => by simp [bdots, bdots_append a b]
theorem lines_app : ∀ (u rest : List UInt8), (∀ b ∈ u, b ≠ 10) → lines (u ++ 10 :: rest) = (u ++ [10]) :: lines rest
 | [], rest, _ => by simp [lines]
 | b :: u, rest, h => by
  have ih := lines_app u rest (fun x hx => h x (List.mem_cons_of_mem _ hx))
  have hb : b ≠ 10 := h b (by simp)
  rw [List.cons_append, lines, if_neg hb, ih]
  rfl
theorem bdot_ne (z : Int) : bdot z ≠ 10 := by unfold bdot; split <;> decide
theorem lines_bdots : ∀ rs : List (List Int), lines (bdots rs) = rs.map fun r => r.map bdot ++ [10]
 | [] => rfl
 | x :: r => by
  rw [bdots, lines_app _ _ (fun b hb => by obtain ⟨z, _, rfl⟩ := List.mem_map.1 hb; exact bdot_ne z), lines_bdots r]
  rfl
theorem rows_bdots (rs : List (List Int)) (h : ∀ x ∈ rs, ∀ z ∈ x, 0 ≤ z ∧ z ≤ 1) : impl_ReadDots.rows ⟨(bdots rs).toArray⟩ = rs := by
 unfold impl_ReadDots.rows blines
 rw [show ((⟨(bdots rs).toArray⟩ : ByteArray).data.toList) = bdots rs from by simp, lines_bdots, List.map_map, List.map_map]
 conv => rhs; rw [← List.map_id rs]
 refine List.map_congr_left fun x hx => ?_
 simp only [Function.comp, impl_ReadDots.row, List.dropLast_concat, List.map_map, id]
 conv => rhs; rw [← List.map_id x]
 refine List.map_congr_left fun z hz => ?_
 have := h x hx z hz
 simp only [Function.comp, bdot, id]
 by_cases h1 : z = 1
 ·simp [h1]
 ·have : z = 0 := by omega
  simp [h1, this]
def specP : List UInt8 → List (List Int) → List Int → Option (List (List Int))
 | [], rs, r => if 0 < r.length then none else some rs
 | b :: d, rs, r => if b = 35 then specP d rs (r ++ [1]) else if b = 46 then specP d rs (r ++ [0]) else if b = 10 then specP d (rs ++ [r]) [] else none
theorem specP_row : ∀ (x : List Int) (d : List UInt8) (rs : List (List Int)) (r : List Int), (∀ z ∈ x, 0 ≤ z ∧ z ≤ 1) → specP (x.map bdot ++ d) rs r = specP d rs (r ++ x)
 | [], d, rs, r, _ => by simp
 | z :: x, d, rs, r, h => by
  have hz := h z (by simp)
  have ih := specP_row x d rs (r ++ [z]) (fun y hy => h y (List.mem_cons_of_mem _ hy))
  rw [List.map_cons, List.cons_append, specP]
  by_cases h1 : z = 1
  ·rw [h1, if_pos (show bdot 1 = 35 from rfl), ← h1, ih]
   simp
  ·have h0 : z = 0 := by omega
   rw [h0, if_neg (show ¬ bdot 0 = 35 by decide), if_pos (show bdot 0 = 46 from rfl), ← h0, ih]
   simp
theorem specP_dots : ∀ (xs rs : List (List Int)), (∀ x ∈ xs, ∀ z ∈ x, 0 ≤ z ∧ z ≤ 1) → specP (bdots xs) rs [] = some (rs ++ xs)
 | [], rs, _ => by simp [bdots, specP]
 | x :: xs, rs, h => by
  rw [bdots, specP_row x _ rs [] (h x (by simp)), specP, if_neg (by decide), if_neg (by decide), if_pos rfl, specP_dots xs _ (fun y hy => h y (List.mem_cons_of_mem _ hy))]
  simp
theorem specP_back : ∀ (l : List UInt8) (rs : List (List Int)) (r : List Int) (out : List (List Int)), specP l rs r = some out → (∀ x ∈ rs, ∀ z ∈ x, 0 ≤ z ∧ z ≤ 1) → (∀ z ∈ r, 0 ≤ z ∧ z ≤ 1) →
  bdots rs ++ (r.map bdot ++ l) = bdots out ∧ ∀ x ∈ out, ∀ z ∈ x, 0 ≤ z ∧ z ≤ 1
 | [], rs, r, out, h, hrs, hr => by
  rw [specP] at h
  split at h
  ·cases h
  ·obtain rfl := Option.some.inj h
   have : r = [] := List.eq_nil_of_length_eq_zero (by omega)
   subst this
   exact ⟨by simp, hrs⟩
 | b :: d, rs, r, out, h, hrs, hr => by
  rw [specP] at h
  split at h
  ·rename_i hb
   have := specP_back d rs (r ++ [1]) out h hrs (fun z hz => by rcases List.mem_append.1 hz with hz | hz; exact hr z hz; simp at hz; omega)
   rw [← this.1]
   exact ⟨by simp [bdot, hb], this.2⟩
  ·split at h
   ·rename_i hb
    have := specP_back d rs (r ++ [0]) out h hrs (fun z hz => by rcases List.mem_append.1 hz with hz | hz; exact hr z hz; simp at hz; omega)
    rw [← this.1]
    exact ⟨by simp [bdot, hb], this.2⟩
   ·split at h
    ·rename_i hb
     have := specP_back d (rs ++ [r]) [] out h (fun x hx => by rcases List.mem_append.1 hx with hx | hx; exact hrs x hx; rw [List.mem_singleton.1 hx]; exact hr) (by simp)
     rw [← this.1]
     exact ⟨by rw [bdots_append]; simp [bdots, hb], this.2⟩
    ·cases h
end Go.Proofs.Ytpdkknfooblplaa.Com
namespace Go.Proofs.Ytpdkknfooblplaa.Com
set_option linter.unusedSimpArgs false
set_option linter.unusedVariables false
open Go.RowKit Go.Proofs.YtpdkknfooblplaaW.PrintWords Go.Proofs.Ytpdkknfooblplaa.Q
def markL (n : Nat) (a : Int) : List Int := (List.range n).map fun (i : Nat) => a + (i : Int)
theorem markL_len (n : Nat) (a : Int) : (markL n a).length = n := by simp [markL]
theorem markL_at (n : Nat) (a : Int) (i : Nat) (h : i < (markL n a).length) : (markL n a)[i] = a + i := by simp [markL]
theorem markL_succ (n : Nat) (a : Int) : markL (n + 1) a = markL n a ++ [a + n] := by
 unfold markL
 rw [List.range_succ, List.map_append]
 rfl
theorem mark_set (xs : List Int) (m : Nat) (a : Int) (h : m < xs.length) : (markL m a ++ xs.drop m).set m (a + m) = markL (m + 1) a ++ xs.drop (m + 1) := by
 rw [List.set_append_right _ _ (by rw [markL_len]; omega), markL_len, Nat.sub_self, List.drop_eq_getElem_cons h, List.set_cons_zero, markL_succ, List.append_assoc]
 rfl
theorem markInt64S_ev (xs : List Int) (a : Int) (hx : xs.length ≤ 1048576) (ha : 0 ≤ a ∧ a ≤ 1000000000000) : Ev (fun k => laws_markInt64S.f k xs a) (a + xs.length, markL xs.length a) := by
 unfold laws_markInt64S.f
 have gen := ev_count xs.length (fun m (s : List Int × Int) k => laws_markInt64S.l0 k s.1 s.2 (m : Int)) (a + (xs.length : Int), markL xs.length a) (fun m s => s = (markL m a ++ xs.drop m, a + m)) ?_ ?_ 0 (xs, a) (by omega) (by simp [markL])
 ·exact gen
 ·rintro s rfl
  refine Ev.step (fun k => by rw [laws_markInt64S.l0]) ?_
  have hl : (markL xs.length a ++ xs.drop xs.length).length = xs.length := by rw [List.length_append, markL_len, List.length_drop]; omega
  rw [List.drop_length, List.append_nil] at hl ⊢
  simp only [hl, if_neg (show ¬ (xs.length : Int) < (xs.length : Int) by omega)]
  exact Ev.now _
 ·rintro m s hm rfl
  refine ⟨_, rfl, fun ih => ?_⟩
  refine Ev.step (fun k => by rw [laws_markInt64S.l0]) ?_
  have hl : (markL m a ++ xs.drop m).length = xs.length := by rw [List.length_append, markL_len, List.length_drop]; omega
  simp only [hl, if_pos (show (m : Int) < (xs.length : Int) by omega), if_pos (show 0 ≤ (m : Int) by omega), Int.toNat_natCast, mark_set xs m a hm, w_succ (m := m) (by omega)]
  rw [w64 (by omega) (by omega)]
  simp only at ih
  rwa [show a + ((m + 1 : Nat) : Int) = a + (m : Int) + 1 by omega] at ih
theorem heldInt64S_ev (n : Nat) (a : Int) (hx : n ≤ 1048576) (ha : 0 ≤ a ∧ a ≤ 1000000000000) : Ev (fun k => laws_heldInt64S.f k (markL n a) a) (a + n) := by
 unfold laws_heldInt64S.f
 have gen := ev_count n (fun m (s : Int) k => laws_heldInt64S.l0 k (markL n a) s (m : Int)) (a + (n : Int)) (fun m s => s = a + m) ?_ ?_ 0 a (by omega) (by simp)
 ·exact gen
 ·rintro s rfl
  refine Ev.step (fun k => by rw [laws_heldInt64S.l0]) ?_
  simp only [markL_len, if_neg (show ¬ (n : Int) < (n : Int) by omega)]
  exact Ev.now _
 ·rintro m s hm rfl
  refine ⟨_, rfl, fun ih => ?_⟩
  refine Ev.step (fun k => by rw [laws_heldInt64S.l0]) ?_
  have h : m < (markL n a).length := by rw [markL_len]; exact hm
  simp only [if_pos (show (m : Int) < ((markL n a).length : Int) by rw [markL_len]; omega), if_pos (show 0 ≤ (m : Int) by omega), rd_nat h, markL_at, if_true, w_succ (m := m) (by omega)]
  rw [w64 (by omega) (by omega)]
  rwa [show a + ((m + 1 : Nat) : Int) = a + (m : Int) + 1 by omega] at ih
end Go.Proofs.Ytpdkknfooblplaa.Com
namespace Go.Proofs.Ytpdkknfooblplaa.Com
set_option linter.unusedSimpArgs false
set_option linter.unusedVariables false
set_option linter.unusedSectionVars false
open Go.RowKit Go.Proofs.YtpdkknfooblplaaW.PrintWords Go.Proofs.YtpdkknfooblplaaW.PrintMore Go.Proofs.Ytpdkknfooblplaa.Q
def tot : List (List Int) → Int
 | [] => 0
 | x :: r => (x.length : Int) + tot r
theorem tot_nn (l : List (List Int)) : 0 ≤ tot l := by
 induction l with
 | nil => exact Int.le_refl _
 | cons x r ih => unfold tot; omega
theorem tot_le (l : List (List Int)) (c : Nat) (h : ∀ x ∈ l, x.length ≤ c) : tot l ≤ (l.length * c : Nat) := by
 induction l with
 | nil => simp [tot]
 | cons x r ih =>
  have h1 := h x (List.mem_cons_self ..)
  have h2 := ih (fun y hy => h y (List.mem_cons_of_mem _ hy))
  unfold tot
  rw [List.length_cons, Nat.add_mul, Nat.one_mul]
  omega
theorem tot_take (xs : List (List Int)) (m : Nat) (h : m < xs.length) : tot (xs.take (m + 1)) = tot (xs.take m) + xs[m].length := by
 induction xs generalizing m with
 | nil => simp at h
 | cons y r ih =>
  cases m with
  | zero => simp [tot]
  | succ m =>
   simp only [List.take_succ_cons, tot, List.getElem_cons_succ]
   rw [ih m (by simpa using h)]
   omega
theorem tot_take_le (xs : List (List Int)) (m : Nat) : tot (xs.take m) ≤ tot xs := by
 induction xs generalizing m with
 | nil => simp
 | cons y r ih =>
  cases m with
  | zero => simp [tot]; have := tot_nn r; omega
  | succ m => simp only [List.take_succ_cons, tot]; have := ih m; omega
def markLL : List (List Int) → Int → List (List Int)
 | [], _ => []
 | x :: r, a => markL x.length a :: markLL r (a + x.length)
theorem markLL_len (xs : List (List Int)) : ∀ a, (markLL xs a).length = xs.length := by
 induction xs with
 | nil => intro a; rfl
 | cons x r ih => intro a; simp [markLL, ih]
theorem markLL_snoc (xs : List (List Int)) (x : List Int) : ∀ a, markLL (xs ++ [x]) a = markLL xs a ++ [markL x.length (a + tot xs)] := by
 induction xs with
 | nil => intro a; simp [markLL, tot]
 | cons y r ih => intro a; simp only [List.cons_append, markLL, tot, ih]; rw [Int.add_assoc]
theorem markLL_at (xs : List (List Int)) : ∀ a (m : Nat) (h : m < (markLL xs a).length) (h' : m < xs.length), (markLL xs a)[m] = markL xs[m].length (a + tot (xs.take m)) := by
 induction xs with
 | nil => intro a m h h'; simp at h'
 | cons y r ih =>
  intro a m h h'
  cases m with
  | zero => simp [markLL, tot]
  | succ m =>
   simp only [markLL, List.getElem_cons_succ, List.take_succ_cons, tot]
   rw [ih _ m (by rw [markLL_len]; simpa using h') (by simpa using h'), Int.add_assoc]
theorem setll (A : List (List Int)) (xs : List (List Int)) (m : Nat) (h : m < xs.length) (hA : A.length = m) (y : List Int) : (A ++ xs.drop m).set m y = A ++ [y] ++ xs.drop (m + 1) := by
 rw [List.drop_eq_getElem_cons h, List.set_append_right _ _ (by omega), hA, Nat.sub_self, List.set_cons_zero, List.append_assoc]
 rfl
theorem markSS_ev (xs : List (List Int)) (a : Int) (hx : xs.length ≤ 1048576) (hr : ∀ x ∈ xs, x.length ≤ 1048576) (ha : 0 ≤ a) (hb : a + tot xs ≤ 1000000000000) : Ev (fun k => laws_markInt64SS.f k xs a) (a + tot xs, markLL xs a) := by
 unfold laws_markInt64SS.f
 refine ev_count xs.length (fun m (s : List (List Int) × Int) k => laws_markInt64SS.l0 k s.1 s.2 (m : Int)) _ (fun m s => s = (markLL (xs.take m) a ++ xs.drop m, a + tot (xs.take m))) ?_ ?_ 0 (xs, a) (by omega) (by simp [markLL, tot])
 ·rintro _ rfl
  refine Ev.step (fun k => by rw [laws_markInt64SS.l0]) ?_
  simp only [List.take_length, List.drop_length, List.append_nil, markLL_len, if_neg (show ¬ (xs.length : Int) < (xs.length : Int) by omega)]
  exact Ev.now _
 ·rintro m _ hm rfl
  refine ⟨_, rfl, fun ih => ?_⟩
  have hA : (markLL (xs.take m) a).length = m := by rw [markLL_len, List.length_take]; omega
  have hl : (markLL (xs.take m) a ++ xs.drop m).length = xs.length := by rw [List.length_append, hA, List.length_drop]; omega
  have e : rd_L1 (markLL (xs.take m) a ++ xs.drop m) (m : Int) = xs[m] := by
   rw [rdr_nat (by omega), List.getElem_append_right (by omega)]
   simp [hA]
  have t1 := tot_take xs m hm
  have t2 := tot_take_le xs (m + 1)
  have t3 := tot_nn (xs.take m)
  refine Ev.step (fun k => by rw [laws_markInt64SS.l0]) ?_
  simp only [hl, if_pos (show (m : Int) < (xs.length : Int) by omega), if_pos (show 0 ≤ (m : Int) by omega), e, w_succ (m := m) (by omega), Int.toNat_natCast]
  refine Ev.bind (markInt64S_ev xs[m] (a + tot (xs.take m)) (hr _ (List.getElem_mem hm)) (by omega)) ?_
  simp only
  rw [setll _ xs m hm hA, ← markLL_snoc, ← List.take_succ_eq_append_getElem hm, Int.add_assoc, ← t1]
  exact ih
theorem heldSS_ev (xs : List (List Int)) (a : Int) (hx : xs.length ≤ 1048576) (hr : ∀ x ∈ xs, x.length ≤ 1048576) (ha : 0 ≤ a) (hb : a + tot xs ≤ 1000000000000) : Ev (fun k => laws_heldInt64SS.f k (markLL xs a) a) (a + tot xs) := by
 unfold laws_heldInt64SS.f
 refine ev_count xs.length (fun m (s : Int) k => laws_heldInt64SS.l0 k (markLL xs a) s (m : Int)) _ (fun m s => s = a + tot (xs.take m)) ?_ ?_ 0 a (by omega) (by simp [tot])
 ·rintro _ rfl
  refine Ev.step (fun k => by rw [laws_heldInt64SS.l0]) ?_
  simp only [List.take_length, markLL_len, if_neg (show ¬ (xs.length : Int) < (xs.length : Int) by omega)]
  exact Ev.now _
 ·rintro m _ hm rfl
  refine ⟨_, rfl, fun ih => ?_⟩
  have e : rd_L1 (markLL xs a) (m : Int) = markL xs[m].length (a + tot (xs.take m)) := by
   rw [rdr_nat (by rw [markLL_len]; exact hm), markLL_at xs a m (by rw [markLL_len]; exact hm) hm]
  have t1 := tot_take xs m hm
  have t2 := tot_take_le xs (m + 1)
  have t3 := tot_nn (xs.take m)
  refine Ev.step (fun k => by rw [laws_heldInt64SS.l0]) ?_
  simp only [markLL_len, if_pos (show (m : Int) < (xs.length : Int) by omega), if_pos (show 0 ≤ (m : Int) by omega), e, w_succ (m := m) (by omega)]
  refine Ev.bind (heldInt64S_ev xs[m].length (a + tot (xs.take m)) (hr _ (List.getElem_mem hm)) (by omega)) ?_
  simp only [if_neg (show ¬ a + tot (xs.take m) + (xs[m].length : Int) < 0 by omega)]
  rw [Int.add_assoc, ← t1]
  exact ih
def Grid (R C : Nat) (g : List (List Int)) : Prop := g.length = R ∧ ∀ x ∈ g, x.length = C
theorem Grid.row {R C : Nat} {g : List (List Int)} (h : Grid R C g) {i : Nat} (hi : i < R) : i < g.length ∧ ∀ (h' : i < g.length), g[i].length = C := ⟨by rw [h.1]; exact hi, fun h' => h.2 _ (List.getElem_mem h')⟩
theorem Grid.rd {R C : Nat} {g : List (List Int)} (h : Grid R C g) {i : Nat} (hi : i < R) : (rd_L1 g (i : Int)).length = C := by
 rw [rdr_nat (h.row hi).1]
 exact (h.row hi).2 _
end Go.Proofs.Ytpdkknfooblplaa.Com
namespace Go.Proofs.Ytpdkknfooblplaa.Pure
set_option linter.unusedSimpArgs false
set_option linter.unusedVariables false
open Go.RowKit Go.Proofs.Ytpdkknfooblplaa.Q Go.Proofs.YtpdkknfooblplaaW.PrintWords Go.Proofs.YtpdkknfooblplaaW.PrintLast Go.Proofs.Ytpdkknfooblplaa.Com
def outP (o : Option (List (List Int))) : List (List Int) × Bool := match o with
 | none => ([], false)
 | some o => if rowsForm 1 o = true then (o, true) else ([], false)
theorem bt_nat (s : ByteArray) (m : Nat) (h : m < s.data.toList.length) : bt s (m : Int) = ((s.data.toList[m].toNat : Nat) : Int) := by
 have h' : ((m : Nat) : Int).toNat < s.size := by simpa using h
 rw [← bt_at s m h']
 rfl
theorem u8_iff (b c : UInt8) : (((b.toNat : Nat) : Int) = ((c.toNat : Nat) : Int)) = (b = c) := by
 apply propext
 constructor
 ·intro h; exact UInt8.toNat_inj.1 (by omega)
 ·rintro rfl; rfl
theorem refRead_ev (s : ByteArray) (hs : s.size ≤ 156) : Ev (fun k => spec_ReadDots.l0 k s [] [] 0) (outP (specP s.data.toList [] [])) := by
 have hl : s.data.toList.length = s.size := by simp
 have gen := ev_fold s.data.toList (fun m (q : List (List Int) × List Int) k => spec_ReadDots.l0 k s q.1 q.2 (m : Int)) (fun d q => outP (specP d q.1 q.2)) (fun m q => q.1.length ≤ m ∧ q.2.length ≤ m ∧ ∀ x ∈ q.1, x.length ≤ m) ?_ ?_ 0 ([], []) (by omega) (by simp)
 ·exact gen
 ·rintro ⟨rs, r⟩ ⟨i1, i2, i3⟩
  simp only at i1 i2 i3
  refine Ev.step (fun k => by rw [spec_ReadDots.l0]) ?_
  simp only [hl, if_neg (show ¬ (s.size : Int) < (s.size : Int) by omega)]
  rw [specP]
  by_cases hr : 0 < r.length
  ·simp only [if_pos (show (r.length : Int) > 0 by omega), if_pos hr]
   exact Ev.now _
  ·simp only [if_neg (show ¬ (r.length : Int) > 0 by omega), if_neg hr]
   refine Ev.bind (form_ev rs 1 (by omega) (fun x hx => by have := i3 x hx; omega)) ?_
   by_cases hf : rowsForm 1 rs = true
   ·simp only [outP, if_pos hf]; exact Ev.now _
   ·simp only [outP, if_neg hf]; exact Ev.now _
 ·rintro m hm ⟨rs, r⟩ ⟨i1, i2, i3⟩ ih
  simp only at i1 i2 i3 ih ⊢
  have hb := bt_nat s m hm
  obtain ⟨b, eb⟩ : ∃ b, s.data.toList[m] = b := ⟨_, rfl⟩
  rw [eb] at hb ⊢
  refine Ev.step (fun k => by rw [spec_ReadDots.l0]) ?_
  have c35 : ((bt s (m : Int)) = 35) = (b = 35) := by rw [hb]; exact u8_iff b 35
  have c46 : ((bt s (m : Int)) = 46) = (b = 46) := by rw [hb]; exact u8_iff b 46
  have c10 : ((bt s (m : Int)) = 10) = (b = 10) := by rw [hb]; exact u8_iff b 10
  simp only [if_pos (show (m : Int) < (s.size : Int) by omega), if_pos (show 0 ≤ (m : Int) by omega), w_succ (m := m) (by omega), if_pos (show r.length < 17592186044416 by omega), if_pos (show rs.length < 5864062014805 by omega), c35, c46, c10]
  rw [specP]
  by_cases h35 : b = 35
  ·simp only [if_pos h35]
   exact ih (rs, r ++ [1]) ⟨by simp; omega, by simp; omega, fun x hx => by have := i3 x hx; omega⟩
  ·simp only [if_neg h35]
   by_cases h46 : b = 46
   ·simp only [if_pos h46]
    exact ih (rs, r ++ [0]) ⟨by simp; omega, by simp; omega, fun x hx => by have := i3 x hx; omega⟩
   ·simp only [if_neg h46]
    by_cases h10 : b = 10
    ·simp only [if_pos h10]
     exact ih (rs ++ [r], []) ⟨by simp; omega, by simp, fun x hx => by rcases List.mem_append.1 hx with hx | hx; have := i3 x hx; omega; rw [List.mem_singleton.1 hx]; omega⟩
    ·simp only [if_neg h10]
     exact Ev.now _
theorem bdots_len (rs : List (List Int)) (h : ∀ x ∈ rs, x.length ≤ 12) : (bdots rs).length ≤ 13 * rs.length := by
 induction rs with
 | nil => simp [bdots]
 | cons x r ih =>
  have h1 := h x (by simp)
  have h2 := ih (fun y hy => h y (List.mem_cons_of_mem _ hy))
  simp only [bdots, List.length_append, List.length_map, List.length_cons]
  omega
theorem dotsOf_ev (l : List (List Int)) : Ev (fun k => impl_DotsText.f k l) (if rowsForm 1 l = true then (⟨(bdots l).toArray⟩, true) else (⟨#[]⟩, false)) := by
 unfold impl_DotsText.f
 refine ev_bind' (areRows_tells l 1) ?_
 cases h : rowsForm 1 l with
 | false =>
  simp only [Bool.false_eq_true, if_false]
  exact Ev.now _
 | true =>
  obtain ⟨h1, h2⟩ := form_rows h
  simp only [if_true]
  rw [← str_dots]
  exact dotsImpl_ev h1 h2
theorem both (s : ByteArray) (hs : s.size ≤ 1048576) : ∃ r, Ev (fun k => spec_ReadDots.f k s) r ∧ Ev (fun k => impl_ReadDots.f k s) r ∧ r.1.length ≤ 12 ∧ ∀ x ∈ r.1, x.length ≤ 12 := by
 obtain ⟨R, hR⟩ : ∃ R, impl_ReadDots.rows s = R := ⟨_, rfl⟩
 have hI : Ev (fun k => impl_ReadDots.f k s) (if rowsForm 1 R = true ∧ (⟨(bdots R).toArray⟩ : ByteArray) = s then (R, true) else ([], false)) := by
  unfold impl_ReadDots.f
  simp only [if_pos hs, hR]
  refine Ev.bind (dotsOf_ev R) ?_
  cases h : rowsForm 1 R with
  | true =>
   simp only [if_true, true_and]
   by_cases h2 : (⟨(bdots R).toArray⟩ : ByteArray) = s
   ·simp only [if_pos h2]; exact Ev.now _
   ·simp only [if_neg h2]; exact Ev.now _
  | false =>
   simp only [Bool.false_eq_true, if_false, false_and]
   exact Ev.now _
 have hacc : rowsForm 1 R = true ∧ (⟨(bdots R).toArray⟩ : ByteArray) = s → s.size ≤ 156 ∧ specP s.data.toList [] [] = some R := by
  rintro ⟨h1, h2⟩
  obtain ⟨f1, f2⟩ := form_rows h1
  have h3 : s.data.toList = bdots R := by rw [← h2]
  have := bdots_len R (fun x hx => (f2 x hx).1)
  refine ⟨?_, ?_⟩
  ·have e : s.size = s.data.toList.length := by simp
   rw [e, h3]
   omega
  ·rw [h3, specP_dots R [] (fun x hx => (f2 x hx).2)]
   rfl
 by_cases hz : s.size ≤ 156
 ·have hS : Ev (fun k => spec_ReadDots.f k s) (outP (specP s.data.toList [] [])) := by
   unfold spec_ReadDots.f
   simp only [if_neg (show ¬ (s.size : Int) > 156 by omega)]
   exact refRead_ev s hz
  cases hp : specP s.data.toList [] [] with
  | none =>
   rw [hp] at hS hacc
   rw [if_neg (fun h => by cases (hacc h).2)] at hI
   exact ⟨_, hS, hI, by simp [outP]⟩
  | some o =>
   rw [hp] at hS
   obtain ⟨e1, e2⟩ := specP_back _ _ _ _ hp (by simp) (by simp)
   have e3 : s.data.toList = bdots o := by simpa [bdots] using e1
   have e4 : s = ⟨(bdots o).toArray⟩ := ByteArray.ext (by rw [← e3])
   have e5 : R = o := by rw [← hR, e4]; exact rows_bdots o e2
   subst e5
   by_cases hf : rowsForm 1 R = true
   ·rw [if_pos ⟨hf, e4.symm⟩] at hI
    simp only [outP, if_pos hf] at hS
    obtain ⟨f1, f2⟩ := form_rows hf
    exact ⟨_, hS, hI, f1, fun x hx => (f2 x hx).1⟩
   ·rw [if_neg (fun h => hf h.1)] at hI
    simp only [outP, if_neg hf] at hS
    exact ⟨_, hS, hI, by simp⟩
 ·rw [if_neg (fun h => hz (hacc h).1)] at hI
  refine ⟨_, ?_, hI, by simp⟩
  unfold spec_ReadDots.f
  simp only [if_pos (show (s.size : Int) > 156 by omega)]
  exact Ev.now _
theorem FnExactReadDots : laws_FnExactReadDots.Pure := by
 intro a ha
 apply ev_of
 unfold laws_FnExactReadDots.f
 by_cases hz : (a.size : Int) > 1048576
 ·simp only [if_pos hz]
  exact Ev.now _
 ·simp only [if_neg hz]
  obtain ⟨⟨g, b⟩, E1, E2, g1, g2⟩ := both a (by omega)
  simp only at g1 g2
  have c1 : g.length ≤ 1048576 := by omega
  have c2 : ∀ x ∈ g, x.length ≤ 1048576 := fun x hx => by have := g2 x hx; omega
  have c3 := tot_le g 12 g2
  have c4 := tot_nn g
  have c5 : g.length * 12 ≤ 12 * 12 := Nat.mul_le_mul_right _ g1
  refine Ev.bind E1 (Ev.bind E2 (Ev.bind (eqInt64SS_ev g c1 c2) ?_))
  simp only [if_true]
  refine Ev.bind (markSS_ev g 1 c1 c2 (by omega) (by omega)) (Ev.bind (heldSS_ev g 1 c1 c2 (by omega) (by omega)) ?_)
  simp only [if_neg (show ¬ 1 + tot g < 0 by omega), if_true]
  refine Ev.bind E2 (Ev.bind (eqInt64SS_ev g c1 c2) ?_)
  simp only [if_true]
  refine Ev.bind (heldSS_ev g 1 c1 c2 (by omega) (by omega)) ?_
  simp only [if_neg (show ¬ 1 + tot g < 0 by omega), if_true]
  exact Ev.now _
end Go.Proofs.Ytpdkknfooblplaa.Pure
