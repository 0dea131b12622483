/- The statement FnJournal, with all that its proof stands on: functions of the program as plain functions, the program's walks, and the plain law. Conditions: none beyond the statement's own. -/
import Derived.ArgAppend
import Derived.Below
import Derived.BigQuiet
import Derived.BigRegion
import Derived.CallsIn
import Derived.ControlIn
import Derived.Deep.AppendLies
import Derived.Deep.CutBlock
import Derived.Deep.DeepCutAuto
import Derived.Deep.Draws
import Derived.Deep.LoopGhost
import Derived.Deep.OwnRows
import Derived.Deep.QuietTactic
import Derived.Deep.RegionHeld3
import Derived.KernelRfl
import Derived.Laws.BitsLemmas
import Derived.Laws.BytesArg
import Derived.Laws.IdiomCopy
import Derived.Laws.MakeOwn
import Derived.Laws.OwnMore
import Derived.Laws.Rows
import Derived.Laws.Slices
import Derived.Lib.AppendIntMem
import Derived.Lib.AppendStr
import Derived.Lib.ConvBytes
import Derived.Lib.IndexLaws
import Derived.LoopIn
import Derived.LoopNIn
import Derived.Maps.AppendAt
import Derived.OrdersHeld
import Derived.OrdersIn
import Derived.OwnWalk
import Derived.OwnWalkIn
import Derived.ProofKit
import Derived.RangeFuncBound
import Derived.RangeFuncBox
import Derived.RangeFuncCalls
import Derived.RangeFuncFrom
import Derived.RangeFuncKeeps
import Derived.RangeFuncLeaves
import Derived.RangeFuncNested
import Derived.RangeFuncWrites
import Derived.RowKit
import Derived.RowKit3
import Derived.Shelf.Abstract
import Derived.Shelf.LaysM
import Derived.Shelf.RegionOpen
import Derived.Shelf.Small.Strs
import Derived.Shelf.Small.Utf8
import Derived.Shelf.Strconv.Itoa0
import Derived.Shelf.Strconv.Itoa1
import Derived.Shelf.Strconv.Itoa2
import Derived.Shelf.Strconv.Itoa3
import Derived.Shelf.Strconv.Itoa4
import Derived.Shelf.Strings.AsciiSet
import Derived.Shelf.Strings.Builder1
import Derived.Shelf.Strings.Cut
import Derived.Shelf.Strings.Prefix
import Derived.Shelf.Strings.Runes
import Derived.Shelf.Strings.Search1
import Derived.Shelf.Strings.Search2
import Derived.Shelf.Strings.Search3
import Derived.Shelf.Strings.Shaped
import Derived.Shelf.Strings.SlTrimAscii
import Derived.Shelf.Strings.Trim
import Derived.Shelf.Unicode.Decode
import Derived.Shelf.Unicode.DecodeAny
import Derived.Shelf.Unicode.DecodeLast
import Derived.Shelf.Unicode.DecodeSlow
import Derived.Sort.OwnSortedInts
import Derived.Tactics
import Derived.TacticsIn
import Derived.TacticsInMore
import Derived.Test.YtcnbhfefhmmgjaaDoorProg
import Derived.WalkKit
import Derived.WalkSmall
import Derived.WideLaws
import Derived.Test.YtcnbhfefhmmgjaaDoorBFnJournal0
import Derived.Test.YtcnbhfefhmmgjaaDoorBFnJournal2
import Derived.Test.YtcnbhfefhmmgjaaDoorBFnJournal3
import Derived.Test.YtcnbhfefhmmgjaaDoorBFnJournal4
import Derived.Test.YtcnbhfefhmmgjaaDoorBFnJournal5
import Derived.Test.YtcnbhfefhmmgjaaDoorBFnJournal6
import Derived.Test.YtcnbhfefhmmgjaaDoorBFnJournal7
import Derived.Test.YtcnbhfefhmmgjaaDoorBFnJournal8
import Derived.Test.YtcnbhfefhmmgjaaDoorBFnJournal9
import Derived.Test.YtcnbhfefhmmgjaaDoorBFnJournal10
set_option linter.unusedVariables false
set_option linter.unusedSimpArgs false
namespace Go.Proofs.YtcnbhfefhmmgjaaDoor.Q
open Go.RowKit Go.Proofs.YtcnbhfefhmmgjaaDoorW.PrintWords Go.Proofs.YtcnbhfefhmmgjaaDoorW.PrintLast Go.Proofs.YtcnbhfefhmmgjaaDoorW.PrintMore
attribute [local go_sem] max2_int min2_int max_two min_two max_three min_three max_four min_four   -- for this text's walks alone
set_option linter.unusedVariables false
set_option linter.unusedSimpArgs false
open Go Go.Shelf Go.Proofs Go.Proofs.YtcnbhfefhmmgjaaDoor.Box
attribute [local go_sem] Oper.semAt_some
theorem cell_ltR {W : World} {a : Addr} {v : Value} (h : W.cell? a = some v) : a.block < W.heap.size := by
 unfold World.cell? at h
 cases e : W.heap[a.block]? with
 | none => rw [e] at h; cases h
 | some o => exact (Array.getElem?_eq_some_iff.1 e).1
def Bx (W : World) (b : Nat) (v : Value) : Prop := W.cell? ⟨b, 0, none⟩ = some v ∧ W.frozen? ⟨b, 0, none⟩ = false
theorem Bx.lt {W : World} {b : Nat} {v : Value} (h : Bx W b v) : b < W.heap.size := cell_ltR h.1
theorem Bx.block {W W' : World} {b : Nat} {v : Value} (h : Bx W b v) (e : W'.heap[b]? = W.heap[b]?) : Bx W' b v := ⟨(World.cell?_of_block e).trans h.1, (World.frozen?_of_block e).trans h.2⟩
theorem Bx.below {W W' : World} {b : Nat} {v : Value} (h : Bx W b v) (hb : Below W.heap.size W W') : Bx W' b v := h.block (hb.block b h.lt)
theorem Bx.far {W : World} {b b' : Nat} {v : Value} (h : Bx W b v) (hn : b' ≠ b) (u : Value) : Bx (W.setCell ⟨b', 0, none⟩ u) b v := ⟨(World.cell?_setCell_far _ _ _ _ hn).trans h.1, by rw [World.frozen?_setCell]; exact h.2⟩
theorem Bx.set {W : World} {b : Nat} {v : Value} (h : Bx W b v) (u : Value) : Bx (W.setCell ⟨b, 0, none⟩ u) b u := ⟨World.cell?_setCell_same' _ _ _ (by rw [h.1]; rfl), by rw [World.frozen?_setCell]; exact h.2⟩
theorem Bx.put {W : World} {b l : Nat} {v : Value} {o : Obj} (o' : Obj) (h : Bx W b v) (hl : W.heap[l]? = some o) (ho : o.isCells = false) : Bx (W.putObj l o') b v := ⟨cell_putObj o' h.1 hl ho, (kbox_frozen o' h.1 hl ho).trans h.2⟩
theorem Bx.grown {W W' : World} {b : Nat} {v : Value} {row : Option Nat} (h : Bx W b v) (hg : W.grownBy W' row) (hn : some b ≠ row) : Bx W' b v := h.block (hg.block b h.lt hn)
theorem Bx.new (W : World) (v : Value) (t : TypeId) : Bx (W.alloc (.cells #[v] t)) W.heap.size v := new_cell W v t
theorem below_put {B : Nat} {w W : World} {l : Nat} (o' : Obj) (hB : Below B w W) (hl : B ≤ l) : Below B w (W.putObj l o') :=
 ⟨hB.os, hB.tape, hB.output, by simpa using hB.size, fun k hk => (World.putObj_heap_other (by omega)).trans (hB.block k hk)⟩
theorem R_put {α : Type} {d : Kd α} {e base : Nat} {ok : Nat → Prop} {v : Value} {xs : List α} {W : World} {l : Nat} {o : Obj} (o' : Obj) (hS : Kd.R d e W base ok v xs) (h : W.heap[l]? = some o) (ho : o.isCells = false) : Kd.R d e (W.putObj l o') base ok v xs := by
 refine Kd.R_mono (Kd.R_step (Kd.R_bound hS) fun k hk _ => ?_) (fun k hk => hk.1)
 obtain ⟨_, _, _, _, _, cells, hcells⟩ := hk
 exact World.putObj_heap_other (fun e => by subst e; rw [h] at hcells; cases hcells; simp [Obj.isCells] at ho)
theorem R_farb {α : Type} {d : Kd α} {e base : Nat} {ok : Nat → Prop} {v : Value} {xs : List α} {W : World} {b : Nat} (hS : Kd.R d e W base ok v xs) (hn : ∀ k, ok k → k ≠ b) (u : Value) : Kd.R d e (W.setCell ⟨b, 0, none⟩ u) base ok v xs :=
 Kd.R_step hS fun k hk _ => Below.heap_setCell W ⟨b, 0, none⟩ u k (hn k hk)
theorem lit0 {α : Type} (d : Kd α) (e : Nat) (W : World) : d.R e (W.alloc (.cells #[] e)) W.heap.size (fun k => k = W.heap.size) (.slice (some ⟨W.heap.size, 0, none⟩) 0 0) [] := by
 refine ⟨fun k hk => ?_, [], ?_, Reps.none _ _⟩
 ·simpa [Value.ownBlock, eq_comm] using hk
 ·simpa using World.ownsRow_lit (base := W.heap.size) (e := e) (size := d.sz) W #[] 0 (Nat.le_refl _) (by simp [maxLen]) (by simp)
def trimNl (x : ByteArray) : ByteArray := ⟨(Go.Lib.trimSuffix x.data.toList [10]).toArray⟩
def endsNl (x : ByteArray) : Bool := Go.Lib.hasSuffix x.data.toList [10]
theorem trimNl_size (x : ByteArray) : (trimNl x).size ≤ x.size := by
 show ((Go.Lib.trimSuffix x.data.toList [10]).toArray).size ≤ x.data.size
 unfold Go.Lib.trimSuffix
 split <;> simp
theorem keeps_below {W W' : World} (hb : Below W.heap.size W W') : KeepsOthers W W' := ⟨hb.size, fun k o hk _ => (hb.block k (Array.getElem?_eq_some_iff.1 hk).1).trans hk⟩
theorem str_eq (a b : ByteArray) : (a.toList == b.toList) = decide (a = b) := by
 rw [ByteArray.toList_eq, ByteArray.toList_eq]
 by_cases e : a = b
 ·simp [e]
 ·have : a.data ≠ b.data := fun h => e (ByteArray.ext h)
  simp [e, this]
def impl_RecoverJournal.go (k : Nat) : List ByteArray → List ByteArray → Int → Int → Option (List ByteArray × Int)
 | [], out, _, at_ => some (out, at_)
 | x :: r, out, c, at_ => (impl_checkOf.f k c (bcut (trimNl x) 32).2.1).bind fun c2 => if -9223372036854775808 ≤ c2 ∧ c2 ≤ 9223372036854775807 then (if (bcut (trimNl x) 32).2.2 = true ∧ endsNl x = true ∧ (bcut (trimNl x) 32).1 = ⟨(Go.Lib.itoa c2).toArray⟩ then impl_RecoverJournal.go k r (out ++ [(bcut (trimNl x) 32).2.1]) c2 (wrap64 (at_ + (x.size : Int))) else some (out, at_)) else none
def impl_RecoverJournal.f (k : Nat) (a0 : ByteArray) : Option (List ByteArray × Int × Bool) := if (a0.size : Int) > 4000 then some (([] : List ByteArray), 0, false) else (impl_RecoverJournal.go k (blines a0) [] 0 0).bind fun q => some (q.1, q.2, true)
theorem impl_RecoverJournal.mono_g (k : Nat) : ∀ (l out : List ByteArray) (c at_ : Int), LeO (impl_RecoverJournal.go k l out c at_) (impl_RecoverJournal.go (k + 1) l out c at_)
 | [], out, c, at_ => LeO.refl _
 | x :: r, out, c, at_ => by
  unfold impl_RecoverJournal.go
  repeat' first
   | (with_reducible exact impl_RecoverJournal.mono_g k _ _ _ _)
   | (with_reducible exact impl_checkOf.mono _ _ _)
   | (with_reducible exact LeO.refl _)
   | (with_reducible exact LeO.none _)
   | (with_reducible refine LeO.ite ?_ ?_)
   | (with_reducible refine LeO.bind ?_ (fun _ => ?_))
theorem impl_RecoverJournal.mono : ∀ a0 k, LeO (impl_RecoverJournal.f k a0) (impl_RecoverJournal.f (k + 1) a0) := by
 intro a0 k
 unfold impl_RecoverJournal.f
 repeat' first
  | (with_reducible exact impl_RecoverJournal.mono_g k _ _ _ _)
  | (with_reducible exact LeO.refl _)
  | (with_reducible refine LeO.ite ?_ ?_)
  | (with_reducible refine LeO.bind ?_ (fun _ => ?_))
def impl_RecoverJournal.M (b5 : Nat) (w : World) (out : List ByteArray) (c at_ : Int) (W : World) : Prop := ∃ v, Bx W b5 v ∧ Bx W (b5 + 1) (.int .i64 c) ∧ Bx W (b5 + 1 + 1) (.int .i64 at_) ∧ Kd.R Kd.string 9 W w.heap.size (fun k => k < b5 ∨ b5 + 1 + 1 + 1 < k) v out ∧ Below w.heap.size w W ∧ b5 + 1 + 1 + 1 < W.heap.size
theorem impl_RecoverJournal.M_below {b5 : Nat} {w : World} {out : List ByteArray} {c at_ : Int} {W W' : World} (h : impl_RecoverJournal.M b5 w out c at_ W) (hb : Below W.heap.size W W') : impl_RecoverJournal.M b5 w out c at_ W' := by
 obtain ⟨v, h5, h6, h7, hR, hB, hl⟩ := h
 exact ⟨v, h5.below hb, h6.below hb, h7.below hb, Kd.R_below hR hb, below_step hB hb, Nat.lt_of_lt_of_le hl hb.size⟩
theorem impl_RecoverJournal.M_box {b5 : Nat} {w : World} {out : List ByteArray} {c at_ : Int} {W : World} (h : impl_RecoverJournal.M b5 w out c at_ W) (hw : w.heap.size ≤ b5) (u : Value) : impl_RecoverJournal.M b5 w out c at_ (W.setCell ⟨b5 + 1 + 1 + 1, 0, none⟩ u) := by
 obtain ⟨v, h5, h6, h7, hR, hB, hl⟩ := h
 exact ⟨v, h5.far (by omega) u, h6.far (by omega) u, h7.far (by omega) u, R_farb hR (fun k hk => by omega) u, hB.setCell (by show w.heap.size ≤ b5 + 1 + 1 + 1; omega) u, by simpa using hl⟩
theorem impl_RecoverJournal.M_put {b5 : Nat} {w : World} {out : List ByteArray} {c at_ : Int} {W : World} {l : Nat} {o : Obj} (o' : Obj) (h : impl_RecoverJournal.M b5 w out c at_ W) (hw : w.heap.size ≤ l) (ho : W.heap[l]? = some o) (hc : o.isCells = false) : impl_RecoverJournal.M b5 w out c at_ (W.putObj l o') := by
 obtain ⟨v, h5, h6, h7, hR, hB, hl⟩ := h
 exact ⟨v, h5.put o' ho hc, h6.put o' ho hc, h7.put o' ho hc, R_put o' hR ho hc, below_put o' hB hw, by simpa using hl⟩
def impl_RecoverJournal.I (k b5 : Nat) (w : World) (a0 : ByteArray) (r1 : List ByteArray) (r2 : Int) (pre : List ByteArray) (W : World) : Prop := ∃ out c at_, impl_RecoverJournal.M b5 w out c at_ W ∧ out.length = pre.length ∧ ∀ rest, blines a0 = pre ++ rest → impl_RecoverJournal.go k rest out c at_ = some (r1, r2)
def impl_RecoverJournal.Ix (b5 : Nat) (w : World) (r1 : List ByteArray) (r2 : Int) (cd : Code) (pre : List ByteArray) (W : World) : Prop := cd = .exit 0 ∧ ∃ c, impl_RecoverJournal.M b5 w r1 c r2 W
set_option maxHeartbeats 8000000 in
set_option maxRecDepth 100000 in
theorem impl_RecoverJournal.calls (k : Nat) (a0 : ByteArray) (r1 : List ByteArray) (r2 : Int) (r3 : Bool) (w : World) (h : impl_RecoverJournal.f k a0 = some (r1, r2, r3)) (ht : DecTab w) :
  Calls Tryd.prog 13 #[.string a0] w fun e w' => ∃ v0_ : Value, e = .returned (.tuple #[v0_, .int .i64 r2, .bool r3]) ∧ Kd.R Kd.string 9 w' w.heap.size (fun _ => True) v0_ r1 ∧ Below w.heap.size w w' := by
 unfold impl_RecoverJournal.f at h
 refine (callsIn_wide (n := 9)).1 (callsIn_of_wp_marks Tryd.func13 rfl trivial ?_ rfl)
 simp only [Tryd.ntmps13, List.size_toArray, List.length_cons, List.length_nil, Nat.reduceAdd, Nat.reduceSub, Array.replicate_succ, Array.replicate_zero, List.push_toArray, List.append_toArray, List.nil_append, List.cons_append]
 by_cases hsz : (a0.size : Int) > 4000
 ·rw [if_pos hsz] at h
  obtain ⟨rfl, rfl, rfl⟩ : ([] : List ByteArray) = r1 ∧ (0 : Int) = r2 ∧ false = r3 := by simpa using h
  have hd : decide (4000 < (a0.size : Int)) = true := decide_eq_true hsz
  gi_wp2
  exact ⟨_, results_tmp3 rfl _ _ _, ⟨_, rfl, Kd.R_nil _ _ _ _ _, Below.refl _ _⟩⟩
 ·rw [if_neg hsz] at h
  have hd : decide (4000 < (a0.size : Int)) = false := decide_eq_false hsz
  have hz : a0.size ≤ 4000 := by omega
  obtain ⟨⟨q1, q2⟩, hgo, h⟩ := Option.bind_eq_some_iff.1 h
  obtain ⟨rfl, rfl, rfl⟩ : q1 = r1 ∧ q2 = r2 ∧ true = r3 := by simpa using h
  clear h hsz
  gi_wp2_with (refine ⟨trivial, ?_⟩; gi_at_call 35; refine ((lines_in 8 a0 _)).mono ?_; rintro e w' ⟨rfl, rfl⟩)
  obtain ⟨W0, hW0⟩ : ∃ W0, (((((w.alloc (Obj.cells #[] 9)).alloc (Obj.cells #[Value.slice (some ⟨w.heap.size, 0, none⟩) 0 0] 22)).alloc (Obj.cells #[Value.int .i64 0] 2)).alloc (Obj.cells #[Value.int .i64 0] 2)).alloc (Obj.cells #[Value.string a0] 9)) = W0 := ⟨_, rfl⟩
  obtain ⟨W1, hW1⟩ : ∃ W1, w.alloc (Obj.cells #[] 9) = W1 := ⟨_, rfl⟩
  have hs1 : W1.heap.size = w.heap.size + 1 := by rw [← hW1]; simp
  have hR1 : Kd.R Kd.string 9 W1 w.heap.size (fun k => k = w.heap.size) (.slice (some ⟨w.heap.size, 0, none⟩) 0 0) [] := by rw [← hW1]; exact lit0 Kd.string _ w
  have hB1 : Below w.heap.size w W1 := by rw [← hW1]; exact below_alloc (Below.refl _ _) _
  obtain ⟨b5, hb5⟩ : ∃ b5, w.heap.size + 1 = b5 := ⟨_, rfl⟩
  rw [hW1] at hW0 ⊢
  rw [hb5] at hs1 ⊢
  have x5 := Bx.new W1 (Value.slice (some ⟨w.heap.size, 0, none⟩) 0 0) 22
  obtain ⟨W2, hW2⟩ : ∃ W2, W1.alloc (Obj.cells #[Value.slice (some ⟨w.heap.size, 0, none⟩) 0 0] 22) = W2 := ⟨_, rfl⟩
  have hs2 : W2.heap.size = b5 + 1 := by rw [← hW2]; simp [hs1]
  rw [hW2, hs1] at x5
  rw [hW2] at hW0 ⊢
  have x6 := Bx.new W2 (Value.int .i64 0) 2
  have y5 : Bx (W2.alloc (Obj.cells #[Value.int .i64 0] 2)) b5 _ := x5.below (below_alloc (Below.refl _ _) _)
  obtain ⟨W3, hW3⟩ : ∃ W3, W2.alloc (Obj.cells #[Value.int .i64 0] 2) = W3 := ⟨_, rfl⟩
  have hs3 : W3.heap.size = b5 + 1 + 1 := by rw [← hW3]; simp [hs2]
  rw [hW3, hs2] at x6
  rw [hW3] at hW0 y5 ⊢
  have x7 := Bx.new W3 (Value.int .i64 0) 2
  have z5 : Bx (W3.alloc (Obj.cells #[Value.int .i64 0] 2)) b5 _ := y5.below (below_alloc (Below.refl _ _) _)
  have y6 : Bx (W3.alloc (Obj.cells #[Value.int .i64 0] 2)) (b5 + 1) _ := x6.below (below_alloc (Below.refl _ _) _)
  obtain ⟨W4, hW4⟩ : ∃ W4, W3.alloc (Obj.cells #[Value.int .i64 0] 2) = W4 := ⟨_, rfl⟩
  have hs4 : W4.heap.size = b5 + 1 + 1 + 1 := by rw [← hW4]; simp [hs3]
  rw [hW4, hs3] at x7
  rw [hW4] at hW0 z5 y6 ⊢
  have xL := Bx.new W4 (Value.string a0) 9
  rw [hs4] at xL
  have hB4 : Below W1.heap.size W1 W4 := by rw [← hW4, ← hW3, ← hW2]; exact below_alloc (below_alloc (below_alloc (Below.refl _ _) _) _) _
  have hM4 : impl_RecoverJournal.M b5 w [] 0 0 (W4.alloc (Obj.cells #[Value.string a0] 9)) :=
   ⟨_, z5.below (below_alloc (Below.refl _ _) _), y6.below (below_alloc (Below.refl _ _) _), x7.below (below_alloc (Below.refl _ _) _), Kd.R_mono (Kd.R_alloc (Kd.R_below hR1 hB4) _) (fun k hk => .inl (by omega)), below_alloc (below_step hB1 hB4) _, by simp [hs4]⟩
  have hs5 : (W4.alloc (Obj.cells #[Value.string a0] 9)).heap.size = b5 + 1 + 1 + 1 + 1 := by simp [hs4]
  rw [hW0] at hM4 xL hs5 ⊢
  refine range_box rfl (by decide) (gf := 55) (lb := #[.pointer (some ⟨b5 + 1 + 1 + 1, 0, none⟩)]) rfl trivial (enters_of Tryd.func55 (by kernel_rfl) rfl) (encs := fun x : ByteArray => #[.string x]) (b := b5 + 1 + 1 + 1) (by omega) (lines1_in 8 (by decide) (b5 + 1 + 1 + 1) a0 W0 xL.1 xL.2 (by omega) (by omega)) (fun _ => rfl)
   (impl_RecoverJournal.I k b5 w a0 q1 q2) (impl_RecoverJournal.Ix b5 w q1 q2)
   (fun s A B hs hB => by obtain ⟨o, c, t, hM, hr⟩ := hs; exact ⟨o, c, t, impl_RecoverJournal.M_below hM hB, hr⟩)
   (fun s A u hs => by obtain ⟨o, c, t, hM, hr⟩ := hs; exact ⟨o, c, t, impl_RecoverJournal.M_box hM (by omega) u, hr⟩)
   (fun s A l o o' hs hl ho hc => by obtain ⟨o2, c, t, hM, hr⟩ := hs; exact ⟨o2, c, t, impl_RecoverJournal.M_put o' hM (by omega) ho hc, hr⟩)
   (fun c s A B hs hB => by obtain ⟨e, c, hM⟩ := hs; exact ⟨e, c, impl_RecoverJournal.M_below hM hB⟩)
   (fun c s A l o o' hs hl ho hc => by obtain ⟨e, c, hM⟩ := hs; exact ⟨e, c, impl_RecoverJournal.M_put o' hM (by omega) ho hc⟩)
   ⟨[], 0, 0, hM4, rfl, fun rest e => by rw [List.nil_append] at e; rw [← e]; exact hgo⟩
   (fun x => { tmps := #[.string a0, undef, .slice none 0 0, .int .i64 0, .bool false, .pointer (some ⟨b5, 0, none⟩), .pointer (some ⟨b5 + 1, 0, none⟩), .pointer (some ⟨b5 + 1 + 1, 0, none⟩), .string x, undef, undef, undef, undef, .string a0, .int .i64 (a0.size : Int), .bool false, .slice (some ⟨w.heap.size, 0, none⟩) 0 0, .string a0, .func (.func 55) #[] #[.pointer (some ⟨b5 + 1 + 1 + 1, 0, none⟩)], .string x, undef, undef, undef, undef, undef, undef, undef, undef, undef, undef, undef, undef, undef, undef, undef, undef, undef, undef, undef, undef, undef, undef, undef, undef, undef, undef, undef, undef, undef, undef, undef, undef, undef, undef], defers := [] }) ?assign ?body ?done ?stop
  case assign =>
   intro l x W K hK
   gi_wp2
   exact hK
  case stop =>
   rintro D cd pre W hD hpre ⟨rfl, c, hM⟩ hK
   obtain ⟨v, h5, h6, h7, hR, hB, hbl⟩ := hM
   have c5 := h5.1
   have c6 := h6.1
   have c7 := h7.1
   gi_wp2
   gi_region_both
   gi_wp2
   refine ⟨by simp, .inl ⟨_, _, rfl, run_takeDeferred (b := D) (ds := []) hK, ?_⟩⟩
   exact ⟨_, results_tmp3 rfl _ _ _, ⟨_, rfl, Kd.R_mono (R_put (l := D) (o := .deferred (some [])) _ (Kd.R_drew hR) hK rfl) (fun _ _ => trivial), below_put _ (below_drew hB) (by omega)⟩⟩
  case done =>
   rintro D xs W hD rfl ⟨o, c, t, hM, _, hr⟩ hK
   have hr := hr [] (by simp)
   obtain ⟨rfl, rfl⟩ : o = q1 ∧ t = q2 := by simpa [impl_RecoverJournal.go] using hr
   clear hr
   obtain ⟨v, h5, h6, h7, hR, hB, hbl⟩ := hM
   have c5 := h5.1
   have c6 := h6.1
   have c7 := h7.1
   gi_wp2
   gi_region_both
   gi_wp2
   refine ⟨by simp, .inl ⟨_, _, rfl, run_takeDeferred (b := D) (ds := []) hK, ?_⟩⟩
   exact ⟨_, results_tmp3 rfl _ _ _, ⟨_, rfl, Kd.R_mono (R_put (l := D) (o := .deferred (some [])) _ (Kd.R_drew hR) hK rfl) (fun _ _ => trivial), below_put _ (below_drew hB) (by omega)⟩⟩
  case body =>
   rintro l pre x W ⟨out, c, t, hM, hlen, hr⟩ hpre
   obtain ⟨rest, hrest⟩ := hpre
   have hgo2 := hr (x :: rest) (by rw [← hrest]; simp)
   have hxs : x.size ≤ 4000 := Nat.le_trans (blines_size (by rw [← hrest]; simp)) hz
   have hll : out.length ≤ 4000 := by
    have h1 := congrArg List.length hrest
    have h2 := blines_count a0
    simp at h1
    omega
   have hM0 := hM
   obtain ⟨v, h5, h6, h7, hR, hB, hbl⟩ := hM
   simp only [impl_RecoverJournal.go] at hgo2
   obtain ⟨c2, hck, hgo2⟩ := Option.bind_eq_some_iff.1 hgo2
   have hw2 : -9223372036854775808 ≤ c2 ∧ c2 ≤ 9223372036854775807 := by
    by_cases hw2 : -9223372036854775808 ≤ c2 ∧ c2 ≤ 9223372036854775807
    ·exact hw2
    ·rw [if_neg hw2] at hgo2
     cases hgo2
   rw [if_pos hw2] at hgo2
   have hcut := fun W' => cut_one 6 (by decide) (trimNl x) 32 W' (Nat.le_trans (trimNl_size x) (by omega))
   obtain ⟨hd, hhd⟩ : ∃ y, (bcut (trimNl x) 32).1 = y := ⟨_, rfl⟩
   obtain ⟨tx, htx⟩ : ∃ y, (bcut (trimNl x) 32).2.1 = y := ⟨_, rfl⟩
   obtain ⟨mo, hmo⟩ : ∃ y, (bcut (trimNl x) 32).2.2 = y := ⟨_, rfl⟩
   obtain ⟨en, hen⟩ : ∃ y, endsNl x = y := ⟨_, rfl⟩
   obtain ⟨dc, hdc⟩ : ∃ y : ByteArray, (⟨(Go.Lib.itoa c2).toArray⟩ : ByteArray) = y := ⟨_, rfl⟩
   rw [hhd, htx, hmo, hen, hdc] at hgo2
   rw [htx] at hck
   simp only [hhd, htx, hmo] at hcut
   have hT : ∀ W', Calls Tryd.prog 37 #[.string x, .string ⟨#[10]⟩] W' fun e w' => e = .returned (.string (trimNl x)) ∧ w' = W' := fun W' => Tryd.strings_TrimSuffix x ⟨#[10]⟩ W' (by omega)
   have hH : ∀ W', Calls Tryd.prog 38 #[.string x, .string ⟨#[10]⟩] W' fun e w' => e = .returned (.bool en) ∧ w' = W' := fun W' => by rw [← hen]; exact Tryd.strings_HasSuffix x ⟨#[10]⟩ W' (by omega)
   have hC := hcut
   have hD : ∀ W', Below w.heap.size w W' → Calls Tryd.prog 28 #[.int .i64 c2] W' fun e w' => e = .returned (.string dc) ∧ Below W'.heap.size W' w' := fun W' hb => by rw [← hdc]; exact impl_DecimalT.calls c2 hw2.1 hw2.2 W' (ht.below hb)
   have hE := str_eq hd dc
   clear hcut hhd htx hmo hen hdc hr
   cases mo with
   | false =>
    rw [if_neg (by simp)] at hgo2
    obtain ⟨rfl, rfl⟩ : out = q1 ∧ t = q2 := by simpa using hgo2
    gi_wp2_with (first
      | (refine ⟨trivial, ?_⟩; gi_at_call 37; refine (CallsIn.inRound l (callsIn_wide.2 (hT _))).mono ?_; rintro e w' ⟨rfl, e2⟩; have e3 := e2.symm; subst e3; clear e2)
      | (refine ⟨trivial, ?_⟩; gi_at_call 36; refine (CallsIn.inRound l (hC _)).mono ?_; rintro e w' ⟨rfl, m, rfl⟩; have hba := pw_below_drewN (Below.refl W.heap.size W) m; have g6 := (h6.below hba).1; obtain ⟨Wa, hWa⟩ : ∃ Wa, World.drewN W m = Wa := ⟨_, rfl⟩; rw [hWa] at hba g6 ⊢; clear hWa)
      | (refine ⟨trivial, ?_⟩; gi_at_call 26; refine (CallsIn.inRound l (callsIn_wide.2 (impl_checkOf.calls k c tx c2 _ hck))).mono ?_; rintro e w' ⟨rfl, ⟨nd, rfl⟩⟩; have hbb := pw_below_drewN hba nd; clear hba g6; obtain ⟨Wb, hWb⟩ : ∃ Wb, World.drewN Wa nd = Wb := ⟨_, rfl⟩; rw [hWb] at hbb ⊢; clear hWb)
      | (refine ⟨trivial, ?_⟩; gi_at_call 38; refine (CallsIn.inRound l (callsIn_wide.2 (hH _))).mono ?_; rintro e w' ⟨rfl, rfl⟩)
      | (refine ⟨trivial, ?_⟩; gi_at_call 28; refine (CallsIn.inRound l (callsIn_wide.2 (hD _ (below_step hB hbb)))).mono ?_; rintro e Wd ⟨rfl, hbd0⟩; have hbd := below_step hbb hbd0; clear hbd0))
    refine ⟨trivial, ?_⟩
    gi_wp2
    refine ⟨trivial, ?_⟩
    gi_wp2
    exact ⟨keeps_below hbb, rfl, c, impl_RecoverJournal.M_below hM0 hbb⟩
   | true =>
    cases en with
    | false =>
     rw [if_neg (by simp)] at hgo2
     obtain ⟨rfl, rfl⟩ : out = q1 ∧ t = q2 := by simpa using hgo2
     gi_wp2_with (first
      | (refine ⟨trivial, ?_⟩; gi_at_call 37; refine (CallsIn.inRound l (callsIn_wide.2 (hT _))).mono ?_; rintro e w' ⟨rfl, e2⟩; have e3 := e2.symm; subst e3; clear e2)
      | (refine ⟨trivial, ?_⟩; gi_at_call 36; refine (CallsIn.inRound l (hC _)).mono ?_; rintro e w' ⟨rfl, m, rfl⟩; have hba := pw_below_drewN (Below.refl W.heap.size W) m; have g6 := (h6.below hba).1; obtain ⟨Wa, hWa⟩ : ∃ Wa, World.drewN W m = Wa := ⟨_, rfl⟩; rw [hWa] at hba g6 ⊢; clear hWa)
      | (refine ⟨trivial, ?_⟩; gi_at_call 26; refine (CallsIn.inRound l (callsIn_wide.2 (impl_checkOf.calls k c tx c2 _ hck))).mono ?_; rintro e w' ⟨rfl, ⟨nd, rfl⟩⟩; have hbb := pw_below_drewN hba nd; clear hba g6; obtain ⟨Wb, hWb⟩ : ∃ Wb, World.drewN Wa nd = Wb := ⟨_, rfl⟩; rw [hWb] at hbb ⊢; clear hWb)
      | (refine ⟨trivial, ?_⟩; gi_at_call 38; refine (CallsIn.inRound l (callsIn_wide.2 (hH _))).mono ?_; rintro e w' ⟨rfl, rfl⟩)
      | (refine ⟨trivial, ?_⟩; gi_at_call 28; refine (CallsIn.inRound l (callsIn_wide.2 (hD _ (below_step hB hbb)))).mono ?_; rintro e Wd ⟨rfl, hbd0⟩; have hbd := below_step hbb hbd0; clear hbd0))
     refine ⟨trivial, ?_⟩
     gi_wp2
     exact ⟨keeps_below hbb, rfl, c, impl_RecoverJournal.M_below hM0 hbb⟩
    | true =>
     by_cases he : hd = dc
     ·rw [if_pos ⟨rfl, rfl, he⟩] at hgo2
      rw [decide_eq_true he] at hE
      gi_wp2_with (first
      | (refine ⟨trivial, ?_⟩; gi_at_call 37; refine (CallsIn.inRound l (callsIn_wide.2 (hT _))).mono ?_; rintro e w' ⟨rfl, e2⟩; have e3 := e2.symm; subst e3; clear e2)
      | (refine ⟨trivial, ?_⟩; gi_at_call 36; refine (CallsIn.inRound l (hC _)).mono ?_; rintro e w' ⟨rfl, m, rfl⟩; have hba := pw_below_drewN (Below.refl W.heap.size W) m; have g6 := (h6.below hba).1; obtain ⟨Wa, hWa⟩ : ∃ Wa, World.drewN W m = Wa := ⟨_, rfl⟩; rw [hWa] at hba g6 ⊢; clear hWa)
      | (refine ⟨trivial, ?_⟩; gi_at_call 26; refine (CallsIn.inRound l (callsIn_wide.2 (impl_checkOf.calls k c tx c2 _ hck))).mono ?_; rintro e w' ⟨rfl, ⟨nd, rfl⟩⟩; have hbb := pw_below_drewN hba nd; clear hba g6; obtain ⟨Wb, hWb⟩ : ∃ Wb, World.drewN Wa nd = Wb := ⟨_, rfl⟩; rw [hWb] at hbb ⊢; clear hWb)
      | (refine ⟨trivial, ?_⟩; gi_at_call 38; refine (CallsIn.inRound l (callsIn_wide.2 (hH _))).mono ?_; rintro e w' ⟨rfl, rfl⟩)
      | (refine ⟨trivial, ?_⟩; gi_at_call 28; refine (CallsIn.inRound l (callsIn_wide.2 (hD _ (below_step hB hbb)))).mono ?_; rintro e Wd ⟨rfl, hbd0⟩; have hbd := below_step hbb hbd0; clear hbd0))
      have g5 : Bx Wd b5 v := h5.below hbd
      have g6 : Bx Wd (b5 + 1) (.int .i64 c) := h6.below hbd
      have g7 : Bx Wd (b5 + 1 + 1) (.int .i64 t) := h7.below hbd
      have gR := Kd.R_below hR hbd
      have gB := below_step hB hbd
      have gs := hbd.size
      refine startIn (m := 12) (S := fun w' => w'.cell? ⟨b5 + 1 + 1, 0, none⟩ = some (.int .i64 t)) (ds := [11]) #[false, false, false, false, false, false, false, false, false, false, false, false] rfl (by kernel_rfl) rfl rfl (g7.below (below_drew (Below.refl _ _))).1 (fun K0 hK0 hHeld => ?_)
      refine pure_ (i := 1) (N := some 44) (v := ?_) (a' := ?_) #[false, true, false, false, false, false, false, false, false, false, false, false] rfl rfl (by kernel_rfl) (fun _ _ _ h => h) (Or.inl ⟨by rfl, ?_⟩) ?_ ?_
      rotate_left
      ·intro w'
       go_simp
       with_reducible rfl
      rotate_left
      ·simp only [Act.put, List.setIfInBounds_toArray, List.set_cons_zero, List.set_cons_succ, i64_w, i32_w]
       rfl
      refine pure_ (i := 4) (N := some 47) (v := ?_) (a' := ?_) #[false, true, false, false, true, false, false, false, false, false, false, false] rfl rfl (by kernel_rfl) (fun _ _ _ h => h) (Or.inl ⟨by rfl, ?_⟩) ?_ ?_
      rotate_left
      ·intro w'
       go_simp
       with_reducible rfl
      rotate_left
      ·simp only [Act.put, List.setIfInBounds_toArray, List.set_cons_zero, List.set_cons_succ, i64_w, i32_w]
       rfl
      refine pure_ (i := 6) (N := some 49) (v := ?_) (a' := ?_) #[false, true, false, false, true, false, true, false, false, false, false, false] rfl rfl (by kernel_rfl) (fun _ _ _ h => h) (Or.inl ⟨by rfl, ?_⟩) ?_ ?_
      rotate_left
      ·intro w'
       go_simp
       with_reducible rfl
      rotate_left
      ·simp only [Act.put, List.setIfInBounds_toArray, List.set_cons_zero, List.set_cons_succ, i64_w, i32_w]
       rfl
      refine pure_ (i := 7) (N := some 50) (v := ?_) (a' := ?_) #[false, true, false, false, true, false, true, true, false, false, false, false] rfl rfl (by kernel_rfl) (fun _ _ _ h => h) (Or.inl ⟨by rfl, ?_⟩) ?_ ?_
      rotate_left
      ·intro w'
       go_simp
       with_reducible rfl
      rotate_left
      ·simp only [Act.put, List.setIfInBounds_toArray, List.set_cons_zero, List.set_cons_succ, i64_w, i32_w]
       rfl
      refine take_ (i := 5) (N := some 48) (v := ?_) (a' := ?_) #[false, true, false, false, true, true, true, true, false, false, false, false] rfl rfl (by kernel_rfl) (fun _ _ _ h => h) (Or.inl ⟨by rfl, ?_⟩) hHeld ?_ ?_
      rotate_left
      ·intro w' s0
       go_simp
       with_reducible rfl
      rotate_left
      ·simp only [Act.put, List.setIfInBounds_toArray, List.set_cons_zero, List.set_cons_succ, i64_w, i32_w]
       rfl
      refine pure_ (i := 8) (N := some 51) (v := ?_) (a' := ?_) #[false, true, false, false, true, true, true, true, true, false, false, false] rfl rfl (by kernel_rfl) (fun _ _ _ h => h) (Or.inl ⟨by rfl, ?_⟩) ?_ ?_
      rotate_left
      ·intro w'
       go_simp
       with_reducible rfl
      rotate_left
      ·simp only [Act.put, List.setIfInBounds_toArray, List.set_cons_zero, List.set_cons_succ, i64_w, i32_w]
       rfl
      have k5 : Bx Wd.drew b5 v := g5.below (below_drew (Below.refl _ _))
      have k6 : Bx Wd.drew (b5 + 1) (.int .i64 c) := g6.below (below_drew (Below.refl _ _))
      have k7 : Bx Wd.drew (b5 + 1 + 1) (.int .i64 t) := g7.below (below_drew (Below.refl _ _))
      have kR := Kd.R_drew gR
      have kB : Below w.heap.size w Wd.drew := below_drew gB
      clear g5 g6 g7 gR gB
      obtain ⟨We, hWe⟩ : ∃ We, Wd.drew = We := ⟨_, rfl⟩
      rw [hWe] at k5 k6 k7 kR kB hHeld ⊢
      have kW : Below W.heap.size W We := by rw [← hWe]; exact below_drew hbd
      clear hWe hbd
      have kws := kW.size
      have c5 := k5.1
      refine two_ (i := 0) (j := 2) (Ni := some 43) (Nj := some 45) #[true, true, false, false, true, true, true, true, true, false, false, false] #[false, true, true, false, true, true, true, true, true, false, false, false] rfl rfl rfl rfl (by kernel_rfl) (by decide) (by decide) (fun K hK => ?_) (fun K hK => ?_)
      ·refine value_ (w1 := ?_) (v := ?_) (by rfl) rfl ?_ ?_
       rotate_left 2
       ·go_simp
        try (constructor <;> rfl)
       refine hK.out _ _ k7.1 (fun hHeld => ?_)
       clear hK K
       refine norm_ (a' := ?_) ?_ ?_
       rotate_left
       ·show Act.put _ (some 43) _ = _
        simp only [Act.put, List.setIfInBounds_toArray, List.set_cons_zero, List.set_cons_succ, i64_w, i32_w]
        rfl
       refine one_ (i := 2) (N := some 45) #[true, true, true, false, true, true, true, true, true, false, false, false] rfl rfl (by kernel_rfl) (by decide) (fun K hK => ?_)
       refine value_ (w1 := ?_) (v := ?_) (by rfl) rfl ?_ ?_
       rotate_left 2
       ·go_simp
        try (constructor <;> rfl)
       refine hK.out _ _ (k7.below (below_alloc (Below.refl _ _) _)).1 (fun hHeld => ?_)
       clear hK K
       refine norm_ (a' := ?_) ?_ ?_
       rotate_left
       ·show Act.put _ (some 45) _ = _
        simp only [Act.put, List.setIfInBounds_toArray, List.set_cons_zero, List.set_cons_succ, i64_w, i32_w]
        rfl
       refine one_ (i := 3) (N := some 46) #[true, true, true, true, true, true, true, true, true, false, false, false] rfl rfl (by kernel_rfl) (by decide) (fun K hK => ?_)
       refine Kd.R_append_step Kd.string (w0 := w) w.heap.size (by rfl) (.tmp 43) (.tmp 45) 22 9 (.string ⟨#[]⟩) 16 rfl Tryd.underlying22 info9 rfl (by decide) (by omega) v out tx [.string tx] (fun k => k < b5 ∨ b5 + 1 + 1 + 1 < k) (fun _ => False) rfl rfl ?aP (fun _ hk => hk.elim) ?aF kR kB ?aS ?aL ?_
       (case aP => exact rfl)
       (case aF => exact fun k hk => .inr (by omega))
       (case aS => omega)
       (case aL => omega)
       intro v1 w1 ho hb hg hat
       obtain ⟨A1, k1, e1⟩ := Kd.R_slice ho
       rw [show (out ++ [tx]).length = pre.length + 1 by simp [hlen]] at e1
       subst e1
       have n5 : Bx w1 b5 v := k5.grown hg (Kd.R_away kR fun k hk => by omega)
       have n6 : Bx w1 (b5 + 1) (.int .i64 c) := k6.grown hg (Kd.R_away kR fun k hk => by omega)
       have n7 : Bx w1 (b5 + 1 + 1) (.int .i64 t) := k7.grown hg (Kd.R_away kR fun k hk => by omega)
       have kk : KeepsOthers We w1 := KeepsOthers.of_grownBy hg (fun j o hj ho_ => by obtain ⟨cs, hcs⟩ := Kd.R_typed kR j hj; rw [hcs] at ho_; cases ho_; rfl)
       have nL : w1.heap[b5 + 1 + 1 + 1]? = We.heap[b5 + 1 + 1 + 1]? := hg.block _ (by omega) (Kd.R_away kR fun k hk => by omega)
       have ns := hg.size
       refine hK.out _ _ n7.1 (fun hHeld => ?_)
       clear hK K
       refine norm_ (a' := ?_) ?_ ?_
       rotate_left
       ·show Act.put _ (some 46) _ = _
        simp only [Act.put, List.setIfInBounds_toArray, List.set_cons_zero, List.set_cons_succ, i64_w, i32_w]
        rfl
       refine one_ (i := 9) (N := none) #[true, true, true, true, true, true, true, true, true, true, false, false] rfl rfl (by kernel_rfl) (by decide) (fun K hK => ?_)
       have cs5 := n5.1
       have cs6 := n6.1
       have cs7 := n7.1
       have fs5 := n5.2
       have fs6 := n6.2
       have fs7 := n7.2
       refine skip_ (w1 := ?_) (by rfl) rfl ?_ ?_
       rotate_left
       ·go_simp
        rfl
       refine hK.out _ _ (n7.far (by omega) _).1 (fun hHeld => ?_)
       clear hK K cs5 cs6 cs7 fs5 fs6 fs7
       have m5 := n5.set (.slice A1 (pre.length + 1) k1)
       have m6 := n6.far (b' := b5) (by omega) (.slice A1 (pre.length + 1) k1)
       have m7 := n7.far (b' := b5) (by omega) (.slice A1 (pre.length + 1) k1)
       refine one_ (i := 10) (N := none) #[true, true, true, true, true, true, true, true, true, true, true, false] rfl rfl (by kernel_rfl) (by decide) (fun K hK => ?_)
       have cs5 := n5.1
       have cs6 := n6.1
       have cs7 := n7.1
       have fs5 := n5.2
       have fs6 := n6.2
       have fs7 := n7.2
       refine skip_ (w1 := ?_) (by rfl) rfl ?_ ?_
       rotate_left
       ·go_simp
        rfl
       refine hK.out _ _ (m7.far (by omega) _).1 (fun hHeld => ?_)
       clear hK K cs5 cs6 cs7 fs5 fs6 fs7
       have l5 := m5.far (b' := b5 + 1) (by omega) (.int .i64 c2)
       have l6 := m6.set (.int .i64 c2)
       have l7 := m7.far (b' := b5 + 1) (by omega) (.int .i64 c2)
       refine last_ (i := 11) (N := none) #[true, true, true, true, true, true, true, true, true, true, true, true] rfl rfl (by kernel_rfl) (by decide) (fun K hK => ?_)
       have cs5 := n5.1
       have cs6 := n6.1
       have cs7 := n7.1
       have fs5 := n5.2
       have fs6 := n6.2
       have fs7 := n7.2
       refine skip_ (w1 := ?_) (by rfl) rfl ?_ ?_
       rotate_left
       ·go_simp
        rfl
       refine hK.out _ _ ?_
       clear hK K cs5 cs6 cs7 fs5 fs6 fs7
       refine done_ (by kernel_rfl) (hK0 _ _ ?_)
       have e1 : ((((w1.setCell ⟨b5, 0, none⟩ (.slice A1 (pre.length + 1) k1)).setCell ⟨b5 + 1, 0, none⟩ (.int .i64 c2)).setCell ⟨b5 + 1 + 1, 0, none⟩ (.int .i64 (wrap64 (t + (x.size : Int)))))).heap[b5 + 1 + 1 + 1]? = W.heap[b5 + 1 + 1 + 1]? :=
        (Below.heap_setCell _ _ _ _ (by show _ ≠ b5 + 1 + 1; omega)).trans ((Below.heap_setCell _ _ _ _ (by show _ ≠ b5 + 1; omega)).trans ((Below.heap_setCell _ _ _ _ (by show _ ≠ b5; omega)).trans (nL.trans (kW.block _ hbl))))
       refine ⟨((((keeps_below kW).trans kk).trans (KeepsOthers.setCell _ _ _)).trans (KeepsOthers.setCell _ _ _)).trans (KeepsOthers.setCell _ _ _), fun u hu => ⟨(World.cell?_of_block e1).trans hu, World.frozen?_of_block e1⟩, ⟨out ++ [tx], c2, wrap64 (t + (x.size : Int)), ⟨_, l5.far (by omega) _, l6.far (by omega) _, l7.set _, R_farb (R_farb (R_farb ho (fun k hk => by omega) _) (fun k hk => by omega) _) (fun k hk => by omega) _, ((hb.setCell (p := ⟨b5, 0, none⟩) (by show w.heap.size ≤ b5; omega) _).setCell (p := ⟨b5 + 1, 0, none⟩) (by show w.heap.size ≤ b5 + 1; omega) _).setCell (p := ⟨b5 + 1 + 1, 0, none⟩) (by show w.heap.size ≤ b5 + 1 + 1; omega) _, by simp; omega⟩, by simp [hlen], fun rest' e => ?_⟩⟩
       have e2 : rest = rest' := by rw [← hrest] at e; exact List.append_cancel_left e
       rw [← e2]
       exact hgo2
      ·refine value_ (w1 := ?_) (v := ?_) (by rfl) rfl ?_ ?_
       rotate_left 2
       ·go_simp
        try (constructor <;> rfl)
       refine hK.out _ _ (k7.below (below_alloc (Below.refl _ _) _)).1 (fun hHeld => ?_)
       clear hK K
       refine norm_ (a' := ?_) ?_ ?_
       rotate_left
       ·show Act.put _ (some 45) _ = _
        simp only [Act.put, List.setIfInBounds_toArray, List.set_cons_zero, List.set_cons_succ, i64_w, i32_w]
        rfl
       have c5 := (k5.below (below_alloc (Below.refl _ _) (.cells #[.string tx] 9))).1
       refine one_ (i := 0) (N := some 43) #[true, true, true, false, true, true, true, true, true, false, false, false] rfl rfl (by kernel_rfl) (by decide) (fun K hK => ?_)
       refine value_ (w1 := ?_) (v := ?_) (by rfl) rfl ?_ ?_
       rotate_left 2
       ·go_simp
        try (constructor <;> rfl)
       refine hK.out _ _ (k7.below (below_alloc (Below.refl _ _) _)).1 (fun hHeld => ?_)
       clear hK K
       refine norm_ (a' := ?_) ?_ ?_
       rotate_left
       ·show Act.put _ (some 43) _ = _
        simp only [Act.put, List.setIfInBounds_toArray, List.set_cons_zero, List.set_cons_succ, i64_w, i32_w]
        rfl
       refine one_ (i := 3) (N := some 46) #[true, true, true, true, true, true, true, true, true, false, false, false] rfl rfl (by kernel_rfl) (by decide) (fun K hK => ?_)
       refine Kd.R_append_step Kd.string (w0 := w) w.heap.size (by rfl) (.tmp 43) (.tmp 45) 22 9 (.string ⟨#[]⟩) 16 rfl Tryd.underlying22 info9 rfl (by decide) (by omega) v out tx [.string tx] (fun k => k < b5 ∨ b5 + 1 + 1 + 1 < k) (fun _ => False) rfl rfl ?aP (fun _ hk => hk.elim) ?aF kR kB ?aS ?aL ?_
       (case aP => exact rfl)
       (case aF => exact fun k hk => .inr (by omega))
       (case aS => omega)
       (case aL => omega)
       intro v1 w1 ho hb hg hat
       obtain ⟨A1, k1, e1⟩ := Kd.R_slice ho
       rw [show (out ++ [tx]).length = pre.length + 1 by simp [hlen]] at e1
       subst e1
       have n5 : Bx w1 b5 v := k5.grown hg (Kd.R_away kR fun k hk => by omega)
       have n6 : Bx w1 (b5 + 1) (.int .i64 c) := k6.grown hg (Kd.R_away kR fun k hk => by omega)
       have n7 : Bx w1 (b5 + 1 + 1) (.int .i64 t) := k7.grown hg (Kd.R_away kR fun k hk => by omega)
       have kk : KeepsOthers We w1 := KeepsOthers.of_grownBy hg (fun j o hj ho_ => by obtain ⟨cs, hcs⟩ := Kd.R_typed kR j hj; rw [hcs] at ho_; cases ho_; rfl)
       have nL : w1.heap[b5 + 1 + 1 + 1]? = We.heap[b5 + 1 + 1 + 1]? := hg.block _ (by omega) (Kd.R_away kR fun k hk => by omega)
       have ns := hg.size
       refine hK.out _ _ n7.1 (fun hHeld => ?_)
       clear hK K
       refine norm_ (a' := ?_) ?_ ?_
       rotate_left
       ·show Act.put _ (some 46) _ = _
        simp only [Act.put, List.setIfInBounds_toArray, List.set_cons_zero, List.set_cons_succ, i64_w, i32_w]
        rfl
       refine one_ (i := 9) (N := none) #[true, true, true, true, true, true, true, true, true, true, false, false] rfl rfl (by kernel_rfl) (by decide) (fun K hK => ?_)
       have cs5 := n5.1
       have cs6 := n6.1
       have cs7 := n7.1
       have fs5 := n5.2
       have fs6 := n6.2
       have fs7 := n7.2
       refine skip_ (w1 := ?_) (by rfl) rfl ?_ ?_
       rotate_left
       ·go_simp
        rfl
       refine hK.out _ _ (n7.far (by omega) _).1 (fun hHeld => ?_)
       clear hK K cs5 cs6 cs7 fs5 fs6 fs7
       have m5 := n5.set (.slice A1 (pre.length + 1) k1)
       have m6 := n6.far (b' := b5) (by omega) (.slice A1 (pre.length + 1) k1)
       have m7 := n7.far (b' := b5) (by omega) (.slice A1 (pre.length + 1) k1)
       refine one_ (i := 10) (N := none) #[true, true, true, true, true, true, true, true, true, true, true, false] rfl rfl (by kernel_rfl) (by decide) (fun K hK => ?_)
       have cs5 := n5.1
       have cs6 := n6.1
       have cs7 := n7.1
       have fs5 := n5.2
       have fs6 := n6.2
       have fs7 := n7.2
       refine skip_ (w1 := ?_) (by rfl) rfl ?_ ?_
       rotate_left
       ·go_simp
        rfl
       refine hK.out _ _ (m7.far (by omega) _).1 (fun hHeld => ?_)
       clear hK K cs5 cs6 cs7 fs5 fs6 fs7
       have l5 := m5.far (b' := b5 + 1) (by omega) (.int .i64 c2)
       have l6 := m6.set (.int .i64 c2)
       have l7 := m7.far (b' := b5 + 1) (by omega) (.int .i64 c2)
       refine last_ (i := 11) (N := none) #[true, true, true, true, true, true, true, true, true, true, true, true] rfl rfl (by kernel_rfl) (by decide) (fun K hK => ?_)
       have cs5 := n5.1
       have cs6 := n6.1
       have cs7 := n7.1
       have fs5 := n5.2
       have fs6 := n6.2
       have fs7 := n7.2
       refine skip_ (w1 := ?_) (by rfl) rfl ?_ ?_
       rotate_left
       ·go_simp
        rfl
       refine hK.out _ _ ?_
       clear hK K cs5 cs6 cs7 fs5 fs6 fs7
       refine done_ (by kernel_rfl) (hK0 _ _ ?_)
       have e1 : ((((w1.setCell ⟨b5, 0, none⟩ (.slice A1 (pre.length + 1) k1)).setCell ⟨b5 + 1, 0, none⟩ (.int .i64 c2)).setCell ⟨b5 + 1 + 1, 0, none⟩ (.int .i64 (wrap64 (t + (x.size : Int)))))).heap[b5 + 1 + 1 + 1]? = W.heap[b5 + 1 + 1 + 1]? :=
        (Below.heap_setCell _ _ _ _ (by show _ ≠ b5 + 1 + 1; omega)).trans ((Below.heap_setCell _ _ _ _ (by show _ ≠ b5 + 1; omega)).trans ((Below.heap_setCell _ _ _ _ (by show _ ≠ b5; omega)).trans (nL.trans (kW.block _ hbl))))
       refine ⟨((((keeps_below kW).trans kk).trans (KeepsOthers.setCell _ _ _)).trans (KeepsOthers.setCell _ _ _)).trans (KeepsOthers.setCell _ _ _), fun u hu => ⟨(World.cell?_of_block e1).trans hu, World.frozen?_of_block e1⟩, ⟨out ++ [tx], c2, wrap64 (t + (x.size : Int)), ⟨_, l5.far (by omega) _, l6.far (by omega) _, l7.set _, R_farb (R_farb (R_farb ho (fun k hk => by omega) _) (fun k hk => by omega) _) (fun k hk => by omega) _, ((hb.setCell (p := ⟨b5, 0, none⟩) (by show w.heap.size ≤ b5; omega) _).setCell (p := ⟨b5 + 1, 0, none⟩) (by show w.heap.size ≤ b5 + 1; omega) _).setCell (p := ⟨b5 + 1 + 1, 0, none⟩) (by show w.heap.size ≤ b5 + 1 + 1; omega) _, by simp; omega⟩, by simp [hlen], fun rest' e => ?_⟩⟩
       have e2 : rest = rest' := by rw [← hrest] at e; exact List.append_cancel_left e
       rw [← e2]
       exact hgo2
     ·rw [if_neg (by simp [he])] at hgo2
      rw [decide_eq_false he] at hE
      obtain ⟨rfl, rfl⟩ : out = q1 ∧ t = q2 := by simpa using hgo2
      gi_wp2_with (first
      | (refine ⟨trivial, ?_⟩; gi_at_call 37; refine (CallsIn.inRound l (callsIn_wide.2 (hT _))).mono ?_; rintro e w' ⟨rfl, e2⟩; have e3 := e2.symm; subst e3; clear e2)
      | (refine ⟨trivial, ?_⟩; gi_at_call 36; refine (CallsIn.inRound l (hC _)).mono ?_; rintro e w' ⟨rfl, m, rfl⟩; have hba := pw_below_drewN (Below.refl W.heap.size W) m; have g6 := (h6.below hba).1; obtain ⟨Wa, hWa⟩ : ∃ Wa, World.drewN W m = Wa := ⟨_, rfl⟩; rw [hWa] at hba g6 ⊢; clear hWa)
      | (refine ⟨trivial, ?_⟩; gi_at_call 26; refine (CallsIn.inRound l (callsIn_wide.2 (impl_checkOf.calls k c tx c2 _ hck))).mono ?_; rintro e w' ⟨rfl, ⟨nd, rfl⟩⟩; have hbb := pw_below_drewN hba nd; clear hba g6; obtain ⟨Wb, hWb⟩ : ∃ Wb, World.drewN Wa nd = Wb := ⟨_, rfl⟩; rw [hWb] at hbb ⊢; clear hWb)
      | (refine ⟨trivial, ?_⟩; gi_at_call 38; refine (CallsIn.inRound l (callsIn_wide.2 (hH _))).mono ?_; rintro e w' ⟨rfl, rfl⟩)
      | (refine ⟨trivial, ?_⟩; gi_at_call 28; refine (CallsIn.inRound l (callsIn_wide.2 (hD _ (below_step hB hbb)))).mono ?_; rintro e Wd ⟨rfl, hbd0⟩; have hbd := below_step hbb hbd0; clear hbd0))
      exact ⟨keeps_below hbd, rfl, c, impl_RecoverJournal.M_below hM0 hbd⟩
end Go.Proofs.YtcnbhfefhmmgjaaDoor.Q
