/- The statement FnExactRecoverJournal, with all that its proof stands on: functions of the program as plain functions, the program's walks, and the plain law. Conditions: none beyond the statement's own. -/
import Derived.ArgAppend
import Derived.Below
import Derived.BigQuiet
import Derived.BigRegion
import Derived.CallsIn
import Derived.ControlIn
import Derived.Deep.AppendLies
import Derived.Deep.CutBlock
import Derived.Deep.DeepCutAuto
import Derived.Deep.Draws
import Derived.Deep.LoopGhost
import Derived.Deep.OwnRows
import Derived.Deep.QuietTactic
import Derived.Deep.RegionHeld3
import Derived.KernelRfl
import Derived.Laws.BitsLemmas
import Derived.Laws.BytesArg
import Derived.Laws.IdiomCopy
import Derived.Laws.MakeOwn
import Derived.Laws.OwnMore
import Derived.Laws.Rows
import Derived.Laws.Slices
import Derived.Lib.AppendIntMem
import Derived.Lib.AppendStr
import Derived.Lib.ConvBytes
import Derived.Lib.IndexLaws
import Derived.LoopIn
import Derived.LoopNIn
import Derived.Maps.AppendAt
import Derived.OrdersHeld
import Derived.OrdersIn
import Derived.OwnWalk
import Derived.OwnWalkIn
import Derived.ProofKit
import Derived.RangeFuncBound
import Derived.RangeFuncBox
import Derived.RangeFuncCalls
import Derived.RangeFuncFrom
import Derived.RangeFuncKeeps
import Derived.RangeFuncLeaves
import Derived.RangeFuncNested
import Derived.RangeFuncWrites
import Derived.RowKit
import Derived.RowKit3
import Derived.Shelf.Abstract
import Derived.Shelf.LaysM
import Derived.Shelf.RegionOpen
import Derived.Shelf.Small.Strs
import Derived.Shelf.Small.Utf8
import Derived.Shelf.Strconv.Itoa0
import Derived.Shelf.Strconv.Itoa1
import Derived.Shelf.Strconv.Itoa2
import Derived.Shelf.Strconv.Itoa3
import Derived.Shelf.Strconv.Itoa4
import Derived.Shelf.Strings.AsciiSet
import Derived.Shelf.Strings.Builder1
import Derived.Shelf.Strings.BuilderCap
import Derived.Shelf.Strings.BuilderF
import Derived.Shelf.Strings.BuilderK
import Derived.Shelf.Strings.Cut
import Derived.Shelf.Strings.Prefix
import Derived.Shelf.Strings.Runes
import Derived.Shelf.Strings.Search1
import Derived.Shelf.Strings.Search2
import Derived.Shelf.Strings.Search3
import Derived.Shelf.Strings.Shaped
import Derived.Shelf.Unicode.Decode
import Derived.Shelf.Unicode.DecodeAny
import Derived.Shelf.Unicode.DecodeLast
import Derived.Shelf.Unicode.DecodeSlow
import Derived.Sort.OwnSortedInts
import Derived.Tactics
import Derived.TacticsIn
import Derived.TacticsInMore
import Derived.Test.YtcnbhfefhmmgjaaDoorProg
import Derived.WalkKit
import Derived.WalkSmall
import Derived.WideLaws
import Derived.Test.YtcnbhfefhmmgjaaDoorBFnExactRecoverJournal0
import Derived.Test.YtcnbhfefhmmgjaaDoorBFnExactRecoverJournal1
import Derived.Test.YtcnbhfefhmmgjaaDoorBFnExactRecoverJournal2
import Derived.Test.YtcnbhfefhmmgjaaDoorBFnExactRecoverJournal3
import Derived.Test.YtcnbhfefhmmgjaaDoorBFnExactRecoverJournal4
import Derived.Test.YtcnbhfefhmmgjaaDoorBFnExactRecoverJournal5
import Derived.Test.YtcnbhfefhmmgjaaDoorBFnExactRecoverJournal6
import Derived.Test.YtcnbhfefhmmgjaaDoorBFnExactRecoverJournal7
import Derived.Test.YtcnbhfefhmmgjaaDoorBFnExactRecoverJournal8
import Derived.Test.YtcnbhfefhmmgjaaDoorBFnExactRecoverJournal9
set_option linter.unusedVariables false
set_option linter.unusedSimpArgs false
namespace Go.Proofs.YtcnbhfefhmmgjaaDoor.Q
open Go.RowKit Go.Proofs.YtcnbhfefhmmgjaaDoorW.PrintWords Go.Proofs.YtcnbhfefhmmgjaaDoorW.PrintLast Go.Proofs.YtcnbhfefhmmgjaaDoorW.PrintMore
attribute [local go_sem] max2_int min2_int max_two min_two max_three min_three max_four min_four   -- for this text's walks alone
set_option linter.unusedVariables false
set_option linter.unusedSimpArgs false
open Go Go.Shelf Go.Proofs Go.Proofs.YtcnbhfefhmmgjaaDoor.Box
attribute [local go_sem] Oper.semAt_some
theorem cell_ltR {W : World} {a : Addr} {v : Value} (h : W.cell? a = some v) : a.block < W.heap.size := by
 unfold World.cell? at h
 cases e : W.heap[a.block]? with
 | none => rw [e] at h; cases h
 | some o => exact (Array.getElem?_eq_some_iff.1 e).1
def Bx (W : World) (b : Nat) (v : Value) : Prop := W.cell? ⟨b, 0, none⟩ = some v ∧ W.frozen? ⟨b, 0, none⟩ = false
theorem Bx.lt {W : World} {b : Nat} {v : Value} (h : Bx W b v) : b < W.heap.size := cell_ltR h.1
theorem Bx.block {W W' : World} {b : Nat} {v : Value} (h : Bx W b v) (e : W'.heap[b]? = W.heap[b]?) : Bx W' b v := ⟨(World.cell?_of_block e).trans h.1, (World.frozen?_of_block e).trans h.2⟩
theorem Bx.below {W W' : World} {b : Nat} {v : Value} (h : Bx W b v) (hb : Below W.heap.size W W') : Bx W' b v := h.block (hb.block b h.lt)
theorem Bx.far {W : World} {b b' : Nat} {v : Value} (h : Bx W b v) (hn : b' ≠ b) (u : Value) : Bx (W.setCell ⟨b', 0, none⟩ u) b v := ⟨(World.cell?_setCell_far _ _ _ _ hn).trans h.1, by rw [World.frozen?_setCell]; exact h.2⟩
theorem Bx.set {W : World} {b : Nat} {v : Value} (h : Bx W b v) (u : Value) : Bx (W.setCell ⟨b, 0, none⟩ u) b u := ⟨World.cell?_setCell_same' _ _ _ (by rw [h.1]; rfl), by rw [World.frozen?_setCell]; exact h.2⟩
theorem Bx.put {W : World} {b l : Nat} {v : Value} {o : Obj} (o' : Obj) (h : Bx W b v) (hl : W.heap[l]? = some o) (ho : o.isCells = false) : Bx (W.putObj l o') b v := ⟨cell_putObj o' h.1 hl ho, (kbox_frozen o' h.1 hl ho).trans h.2⟩
theorem Bx.grown {W W' : World} {b : Nat} {v : Value} {row : Option Nat} (h : Bx W b v) (hg : W.grownBy W' row) (hn : some b ≠ row) : Bx W' b v := h.block (hg.block b h.lt hn)
theorem Bx.new (W : World) (v : Value) (t : TypeId) : Bx (W.alloc (.cells #[v] t)) W.heap.size v := new_cell W v t
theorem below_put {B : Nat} {w W : World} {l : Nat} (o' : Obj) (hB : Below B w W) (hl : B ≤ l) : Below B w (W.putObj l o') :=
 ⟨hB.os, hB.tape, hB.output, by simpa using hB.size, fun k hk => (World.putObj_heap_other (by omega)).trans (hB.block k hk)⟩
theorem R_put {α : Type} {d : Kd α} {e base : Nat} {ok : Nat → Prop} {v : Value} {xs : List α} {W : World} {l : Nat} {o : Obj} (o' : Obj) (hS : Kd.R d e W base ok v xs) (h : W.heap[l]? = some o) (ho : o.isCells = false) : Kd.R d e (W.putObj l o') base ok v xs := by
 refine Kd.R_mono (Kd.R_step (Kd.R_bound hS) fun k hk _ => ?_) (fun k hk => hk.1)
 obtain ⟨_, _, _, _, _, cells, hcells⟩ := hk
 exact World.putObj_heap_other (fun e => by subst e; rw [h] at hcells; cases hcells; simp [Obj.isCells] at ho)
theorem R_farb {α : Type} {d : Kd α} {e base : Nat} {ok : Nat → Prop} {v : Value} {xs : List α} {W : World} {b : Nat} (hS : Kd.R d e W base ok v xs) (hn : ∀ k, ok k → k ≠ b) (u : Value) : Kd.R d e (W.setCell ⟨b, 0, none⟩ u) base ok v xs :=
 Kd.R_step hS fun k hk _ => Below.heap_setCell W ⟨b, 0, none⟩ u k (hn k hk)
theorem lit0 {α : Type} (d : Kd α) (e : Nat) (W : World) : d.R e (W.alloc (.cells #[] e)) W.heap.size (fun k => k = W.heap.size) (.slice (some ⟨W.heap.size, 0, none⟩) 0 0) [] := by
 refine ⟨fun k hk => ?_, [], ?_, Reps.none _ _⟩
 ·simpa [Value.ownBlock, eq_comm] using hk
 ·simpa using World.ownsRow_lit (base := W.heap.size) (e := e) (size := d.sz) W #[] 0 (Nat.le_refl _) (by simp [maxLen]) (by simp)
def trimNl (x : ByteArray) : ByteArray := ⟨(Go.Lib.trimSuffix x.data.toList [10]).toArray⟩
def endsNl (x : ByteArray) : Bool := Go.Lib.hasSuffix x.data.toList [10]
theorem trimNl_size (x : ByteArray) : (trimNl x).size ≤ x.size := by
 show ((Go.Lib.trimSuffix x.data.toList [10]).toArray).size ≤ x.data.size
 unfold Go.Lib.trimSuffix
 split <;> simp
theorem keeps_below {W W' : World} (hb : Below W.heap.size W W') : KeepsOthers W W' := ⟨hb.size, fun k o hk _ => (hb.block k (Array.getElem?_eq_some_iff.1 hk).1).trans hk⟩
theorem str_eq (a b : ByteArray) : (a.toList == b.toList) = decide (a = b) := by
 rw [ByteArray.toList_eq, ByteArray.toList_eq]
 by_cases e : a = b
 ·simp [e]
 ·have : a.data ≠ b.data := fun h => e (ByteArray.ext h)
  simp [e, this]
def impl_RecoverJournal.go (k : Nat) : List ByteArray → List ByteArray → Int → Int → Option (List ByteArray × Int)
 | [], out, _, at_ => some (out, at_)
 | x :: r, out, c, at_ => (impl_checkOf.f k c (bcut (trimNl x) 32).2.1).bind fun c2 => if -9223372036854775808 ≤ c2 ∧ c2 ≤ 9223372036854775807 then (if (bcut (trimNl x) 32).2.2 = true ∧ endsNl x = true ∧ (bcut (trimNl x) 32).1 = ⟨(Go.Lib.itoa c2).toArray⟩ then impl_RecoverJournal.go k r (out ++ [(bcut (trimNl x) 32).2.1]) c2 (wrap64 (at_ + (x.size : Int))) else some (out, at_)) else none
def impl_RecoverJournal.f (k : Nat) (a0 : ByteArray) : Option (List ByteArray × Int × Bool) := if (a0.size : Int) > 4000 then some (([] : List ByteArray), 0, false) else (impl_RecoverJournal.go k (blines a0) [] 0 0).bind fun q => some (q.1, q.2, true)
theorem impl_RecoverJournal.mono_g (k : Nat) : ∀ (l out : List ByteArray) (c at_ : Int), LeO (impl_RecoverJournal.go k l out c at_) (impl_RecoverJournal.go (k + 1) l out c at_)
 | [], out, c, at_ => LeO.refl _
 | x :: r, out, c, at_ => by
  unfold impl_RecoverJournal.go
  repeat' first
   | (with_reducible exact impl_RecoverJournal.mono_g k _ _ _ _)
   | (with_reducible exact impl_checkOf.mono _ _ _)
   | (with_reducible exact LeO.refl _)
   | (with_reducible exact LeO.none _)
   | (with_reducible refine LeO.ite ?_ ?_)
   | (with_reducible refine LeO.bind ?_ (fun _ => ?_))
theorem impl_RecoverJournal.mono : ∀ a0 k, LeO (impl_RecoverJournal.f k a0) (impl_RecoverJournal.f (k + 1) a0) := by
 intro a0 k
 unfold impl_RecoverJournal.f
 repeat' first
  | (with_reducible exact impl_RecoverJournal.mono_g k _ _ _ _)
  | (with_reducible exact LeO.refl _)
  | (with_reducible refine LeO.ite ?_ ?_)
  | (with_reducible refine LeO.bind ?_ (fun _ => ?_))
def impl_RecoverJournal.M (b5 : Nat) (w : World) (out : List ByteArray) (c at_ : Int) (W : World) : Prop := ∃ v, Bx W b5 v ∧ Bx W (b5 + 1) (.int .i64 c) ∧ Bx W (b5 + 1 + 1) (.int .i64 at_) ∧ Kd.R Kd.string 9 W w.heap.size (fun k => k < b5 ∨ b5 + 1 + 1 + 1 < k) v out ∧ Below w.heap.size w W ∧ b5 + 1 + 1 + 1 < W.heap.size
theorem impl_RecoverJournal.M_below {b5 : Nat} {w : World} {out : List ByteArray} {c at_ : Int} {W W' : World} (h : impl_RecoverJournal.M b5 w out c at_ W) (hb : Below W.heap.size W W') : impl_RecoverJournal.M b5 w out c at_ W' := by
 obtain ⟨v, h5, h6, h7, hR, hB, hl⟩ := h
 exact ⟨v, h5.below hb, h6.below hb, h7.below hb, Kd.R_below hR hb, below_step hB hb, Nat.lt_of_lt_of_le hl hb.size⟩
theorem impl_RecoverJournal.M_box {b5 : Nat} {w : World} {out : List ByteArray} {c at_ : Int} {W : World} (h : impl_RecoverJournal.M b5 w out c at_ W) (hw : w.heap.size ≤ b5) (u : Value) : impl_RecoverJournal.M b5 w out c at_ (W.setCell ⟨b5 + 1 + 1 + 1, 0, none⟩ u) := by
 obtain ⟨v, h5, h6, h7, hR, hB, hl⟩ := h
 exact ⟨v, h5.far (by omega) u, h6.far (by omega) u, h7.far (by omega) u, R_farb hR (fun k hk => by omega) u, hB.setCell (by show w.heap.size ≤ b5 + 1 + 1 + 1; omega) u, by simpa using hl⟩
theorem impl_RecoverJournal.M_put {b5 : Nat} {w : World} {out : List ByteArray} {c at_ : Int} {W : World} {l : Nat} {o : Obj} (o' : Obj) (h : impl_RecoverJournal.M b5 w out c at_ W) (hw : w.heap.size ≤ l) (ho : W.heap[l]? = some o) (hc : o.isCells = false) : impl_RecoverJournal.M b5 w out c at_ (W.putObj l o') := by
 obtain ⟨v, h5, h6, h7, hR, hB, hl⟩ := h
 exact ⟨v, h5.put o' ho hc, h6.put o' ho hc, h7.put o' ho hc, R_put o' hR ho hc, below_put o' hB hw, by simpa using hl⟩
def impl_RecoverJournal.I (k b5 : Nat) (w : World) (a0 : ByteArray) (r1 : List ByteArray) (r2 : Int) (pre : List ByteArray) (W : World) : Prop := ∃ out c at_, impl_RecoverJournal.M b5 w out c at_ W ∧ out.length = pre.length ∧ ∀ rest, blines a0 = pre ++ rest → impl_RecoverJournal.go k rest out c at_ = some (r1, r2)
def impl_RecoverJournal.Ix (b5 : Nat) (w : World) (r1 : List ByteArray) (r2 : Int) (cd : Code) (pre : List ByteArray) (W : World) : Prop := cd = .exit 0 ∧ ∃ c, impl_RecoverJournal.M b5 w r1 c r2 W
set_option maxHeartbeats 8000000 in
set_option maxRecDepth 100000 in
theorem impl_RecoverJournal.calls (k : Nat) (a0 : ByteArray) (r1 : List ByteArray) (r2 : Int) (r3 : Bool) (w : World) (h : impl_RecoverJournal.f k a0 = some (r1, r2, r3)) (ht : DecTab w) :
  Calls Tryd.prog 13 #[.string a0] w fun e w' => ∃ v0_ : Value, e = .returned (.tuple #[v0_, .int .i64 r2, .bool r3]) ∧ Kd.R Kd.string 9 w' w.heap.size (fun _ => True) v0_ r1 ∧ Below w.heap.size w w' := by
 unfold impl_RecoverJournal.f at h
 refine (callsIn_wide (n := 9)).1 (callsIn_of_wp_marks Tryd.func13 rfl trivial ?_ rfl)
 simp only [Tryd.ntmps13, List.size_toArray, List.length_cons, List.length_nil, Nat.reduceAdd, Nat.reduceSub, Array.replicate_succ, Array.replicate_zero, List.push_toArray, List.append_toArray, List.nil_append, List.cons_append]
 by_cases hsz : (a0.size : Int) > 4000
 ·rw [if_pos hsz] at h
  obtain ⟨rfl, rfl, rfl⟩ : ([] : List ByteArray) = r1 ∧ (0 : Int) = r2 ∧ false = r3 := by simpa using h
  have hd : decide (4000 < (a0.size : Int)) = true := decide_eq_true hsz
  gi_wp2
  exact ⟨_, results_tmp3 rfl _ _ _, ⟨_, rfl, Kd.R_nil _ _ _ _ _, Below.refl _ _⟩⟩
 ·rw [if_neg hsz] at h
  have hd : decide (4000 < (a0.size : Int)) = false := decide_eq_false hsz
  have hz : a0.size ≤ 4000 := by omega
  obtain ⟨⟨q1, q2⟩, hgo, h⟩ := Option.bind_eq_some_iff.1 h
  obtain ⟨rfl, rfl, rfl⟩ : q1 = r1 ∧ q2 = r2 ∧ true = r3 := by simpa using h
  clear h hsz
  gi_wp2_with (refine ⟨trivial, ?_⟩; gi_at_call 35; refine ((lines_in 8 a0 _)).mono ?_; rintro e w' ⟨rfl, rfl⟩)
  obtain ⟨W0, hW0⟩ : ∃ W0, (((((w.alloc (Obj.cells #[] 9)).alloc (Obj.cells #[Value.slice (some ⟨w.heap.size, 0, none⟩) 0 0] 22)).alloc (Obj.cells #[Value.int .i64 0] 2)).alloc (Obj.cells #[Value.int .i64 0] 2)).alloc (Obj.cells #[Value.string a0] 9)) = W0 := ⟨_, rfl⟩
  obtain ⟨W1, hW1⟩ : ∃ W1, w.alloc (Obj.cells #[] 9) = W1 := ⟨_, rfl⟩
  have hs1 : W1.heap.size = w.heap.size + 1 := by rw [← hW1]; simp
  have hR1 : Kd.R Kd.string 9 W1 w.heap.size (fun k => k = w.heap.size) (.slice (some ⟨w.heap.size, 0, none⟩) 0 0) [] := by rw [← hW1]; exact lit0 Kd.string _ w
  have hB1 : Below w.heap.size w W1 := by rw [← hW1]; exact below_alloc (Below.refl _ _) _
  obtain ⟨b5, hb5⟩ : ∃ b5, w.heap.size + 1 = b5 := ⟨_, rfl⟩
  rw [hW1] at hW0 ⊢
  rw [hb5] at hs1 ⊢
  have x5 := Bx.new W1 (Value.slice (some ⟨w.heap.size, 0, none⟩) 0 0) 22
  obtain ⟨W2, hW2⟩ : ∃ W2, W1.alloc (Obj.cells #[Value.slice (some ⟨w.heap.size, 0, none⟩) 0 0] 22) = W2 := ⟨_, rfl⟩
  have hs2 : W2.heap.size = b5 + 1 := by rw [← hW2]; simp [hs1]
  rw [hW2, hs1] at x5
  rw [hW2] at hW0 ⊢
  have x6 := Bx.new W2 (Value.int .i64 0) 2
  have y5 : Bx (W2.alloc (Obj.cells #[Value.int .i64 0] 2)) b5 _ := x5.below (below_alloc (Below.refl _ _) _)
  obtain ⟨W3, hW3⟩ : ∃ W3, W2.alloc (Obj.cells #[Value.int .i64 0] 2) = W3 := ⟨_, rfl⟩
  have hs3 : W3.heap.size = b5 + 1 + 1 := by rw [← hW3]; simp [hs2]
  rw [hW3, hs2] at x6
  rw [hW3] at hW0 y5 ⊢
  have x7 := Bx.new W3 (Value.int .i64 0) 2
  have z5 : Bx (W3.alloc (Obj.cells #[Value.int .i64 0] 2)) b5 _ := y5.below (below_alloc (Below.refl _ _) _)
  have y6 : Bx (W3.alloc (Obj.cells #[Value.int .i64 0] 2)) (b5 + 1) _ := x6.below (below_alloc (Below.refl _ _) _)
  obtain ⟨W4, hW4⟩ : ∃ W4, W3.alloc (Obj.cells #[Value.int .i64 0] 2) = W4 := ⟨_, rfl⟩
  have hs4 : W4.heap.size = b5 + 1 + 1 + 1 := by rw [← hW4]; simp [hs3]
  rw [hW4, hs3] at x7
  rw [hW4] at hW0 z5 y6 ⊢
  have xL := Bx.new W4 (Value.string a0) 9
  rw [hs4] at xL
  have hB4 : Below W1.heap.size W1 W4 := by rw [← hW4, ← hW3, ← hW2]; exact below_alloc (below_alloc (below_alloc (Below.refl _ _) _) _) _
  have hM4 : impl_RecoverJournal.M b5 w [] 0 0 (W4.alloc (Obj.cells #[Value.string a0] 9)) :=
   ⟨_, z5.below (below_alloc (Below.refl _ _) _), y6.below (below_alloc (Below.refl _ _) _), x7.below (below_alloc (Below.refl _ _) _), Kd.R_mono (Kd.R_alloc (Kd.R_below hR1 hB4) _) (fun k hk => .inl (by omega)), below_alloc (below_step hB1 hB4) _, by simp [hs4]⟩
  have hs5 : (W4.alloc (Obj.cells #[Value.string a0] 9)).heap.size = b5 + 1 + 1 + 1 + 1 := by simp [hs4]
  rw [hW0] at hM4 xL hs5 ⊢
  refine range_box rfl (by decide) (gf := 55) (lb := #[.pointer (some ⟨b5 + 1 + 1 + 1, 0, none⟩)]) rfl trivial (enters_of Tryd.func55 (by kernel_rfl) rfl) (encs := fun x : ByteArray => #[.string x]) (b := b5 + 1 + 1 + 1) (by omega) (lines1_in 8 (by decide) (b5 + 1 + 1 + 1) a0 W0 xL.1 xL.2 (by omega) (by omega)) (fun _ => rfl)
   (impl_RecoverJournal.I k b5 w a0 q1 q2) (impl_RecoverJournal.Ix b5 w q1 q2)
   (fun s A B hs hB => by obtain ⟨o, c, t, hM, hr⟩ := hs; exact ⟨o, c, t, impl_RecoverJournal.M_below hM hB, hr⟩)
   (fun s A u hs => by obtain ⟨o, c, t, hM, hr⟩ := hs; exact ⟨o, c, t, impl_RecoverJournal.M_box hM (by omega) u, hr⟩)
   (fun s A l o o' hs hl ho hc => by obtain ⟨o2, c, t, hM, hr⟩ := hs; exact ⟨o2, c, t, impl_RecoverJournal.M_put o' hM (by omega) ho hc, hr⟩)
   (fun c s A B hs hB => by obtain ⟨e, c, hM⟩ := hs; exact ⟨e, c, impl_RecoverJournal.M_below hM hB⟩)
   (fun c s A l o o' hs hl ho hc => by obtain ⟨e, c, hM⟩ := hs; exact ⟨e, c, impl_RecoverJournal.M_put o' hM (by omega) ho hc⟩)
   ⟨[], 0, 0, hM4, rfl, fun rest e => by rw [List.nil_append] at e; rw [← e]; exact hgo⟩
   (fun x => { tmps := #[.string a0, undef, .slice none 0 0, .int .i64 0, .bool false, .pointer (some ⟨b5, 0, none⟩), .pointer (some ⟨b5 + 1, 0, none⟩), .pointer (some ⟨b5 + 1 + 1, 0, none⟩), .string x, undef, undef, undef, undef, .string a0, .int .i64 (a0.size : Int), .bool false, .slice (some ⟨w.heap.size, 0, none⟩) 0 0, .string a0, .func (.func 55) #[] #[.pointer (some ⟨b5 + 1 + 1 + 1, 0, none⟩)], .string x, undef, undef, undef, undef, undef, undef, undef, undef, undef, undef, undef, undef, undef, undef, undef, undef, undef, undef, undef, undef, undef, undef, undef, undef, undef, undef, undef, undef, undef, undef, undef, undef, undef, undef], defers := [] }) ?assign ?body ?done ?stop
  case assign =>
   intro l x W K hK
   gi_wp2
   exact hK
  case stop =>
   rintro D cd pre W hD hpre ⟨rfl, c, hM⟩ hK
   obtain ⟨v, h5, h6, h7, hR, hB, hbl⟩ := hM
   have c5 := h5.1
   have c6 := h6.1
   have c7 := h7.1
   gi_wp2
   gi_region_both
   gi_wp2
   refine ⟨by simp, .inl ⟨_, _, rfl, run_takeDeferred (b := D) (ds := []) hK, ?_⟩⟩
   exact ⟨_, results_tmp3 rfl _ _ _, ⟨_, rfl, Kd.R_mono (R_put (l := D) (o := .deferred (some [])) _ (Kd.R_drew hR) hK rfl) (fun _ _ => trivial), below_put _ (below_drew hB) (by omega)⟩⟩
  case done =>
   rintro D xs W hD rfl ⟨o, c, t, hM, _, hr⟩ hK
   have hr := hr [] (by simp)
   obtain ⟨rfl, rfl⟩ : o = q1 ∧ t = q2 := by simpa [impl_RecoverJournal.go] using hr
   clear hr
   obtain ⟨v, h5, h6, h7, hR, hB, hbl⟩ := hM
   have c5 := h5.1
   have c6 := h6.1
   have c7 := h7.1
   gi_wp2
   gi_region_both
   gi_wp2
   refine ⟨by simp, .inl ⟨_, _, rfl, run_takeDeferred (b := D) (ds := []) hK, ?_⟩⟩
   exact ⟨_, results_tmp3 rfl _ _ _, ⟨_, rfl, Kd.R_mono (R_put (l := D) (o := .deferred (some [])) _ (Kd.R_drew hR) hK rfl) (fun _ _ => trivial), below_put _ (below_drew hB) (by omega)⟩⟩
  case body =>
   rintro l pre x W ⟨out, c, t, hM, hlen, hr⟩ hpre
   obtain ⟨rest, hrest⟩ := hpre
   have hgo2 := hr (x :: rest) (by rw [← hrest]; simp)
   have hxs : x.size ≤ 4000 := Nat.le_trans (blines_size (by rw [← hrest]; simp)) hz
   have hll : out.length ≤ 4000 := by
    have h1 := congrArg List.length hrest
    have h2 := blines_count a0
    simp at h1
    omega
   have hM0 := hM
   obtain ⟨v, h5, h6, h7, hR, hB, hbl⟩ := hM
   simp only [impl_RecoverJournal.go] at hgo2
   obtain ⟨c2, hck, hgo2⟩ := Option.bind_eq_some_iff.1 hgo2
   have hw2 : -9223372036854775808 ≤ c2 ∧ c2 ≤ 9223372036854775807 := by
    by_cases hw2 : -9223372036854775808 ≤ c2 ∧ c2 ≤ 9223372036854775807
    ·exact hw2
    ·rw [if_neg hw2] at hgo2
     cases hgo2
   rw [if_pos hw2] at hgo2
   have hcut := fun W' => cut_one 6 (by decide) (trimNl x) 32 W' (Nat.le_trans (trimNl_size x) (by omega))
   obtain ⟨hd, hhd⟩ : ∃ y, (bcut (trimNl x) 32).1 = y := ⟨_, rfl⟩
   obtain ⟨tx, htx⟩ : ∃ y, (bcut (trimNl x) 32).2.1 = y := ⟨_, rfl⟩
   obtain ⟨mo, hmo⟩ : ∃ y, (bcut (trimNl x) 32).2.2 = y := ⟨_, rfl⟩
   obtain ⟨en, hen⟩ : ∃ y, endsNl x = y := ⟨_, rfl⟩
   obtain ⟨dc, hdc⟩ : ∃ y : ByteArray, (⟨(Go.Lib.itoa c2).toArray⟩ : ByteArray) = y := ⟨_, rfl⟩
   rw [hhd, htx, hmo, hen, hdc] at hgo2
   rw [htx] at hck
   simp only [hhd, htx, hmo] at hcut
   have hT : ∀ W', Calls Tryd.prog 37 #[.string x, .string ⟨#[10]⟩] W' fun e w' => e = .returned (.string (trimNl x)) ∧ w' = W' := fun W' => Tryd.strings_TrimSuffix x ⟨#[10]⟩ W' (by omega)
   have hH : ∀ W', Calls Tryd.prog 38 #[.string x, .string ⟨#[10]⟩] W' fun e w' => e = .returned (.bool en) ∧ w' = W' := fun W' => by rw [← hen]; exact Tryd.strings_HasSuffix x ⟨#[10]⟩ W' (by omega)
   have hC := hcut
   have hD : ∀ W', Below w.heap.size w W' → Calls Tryd.prog 28 #[.int .i64 c2] W' fun e w' => e = .returned (.string dc) ∧ Below W'.heap.size W' w' := fun W' hb => by rw [← hdc]; exact impl_DecimalT.calls c2 hw2.1 hw2.2 W' (ht.below hb)
   have hE := str_eq hd dc
   clear hcut hhd htx hmo hen hdc hr
   cases mo with
   | false =>
    rw [if_neg (by simp)] at hgo2
    obtain ⟨rfl, rfl⟩ : out = q1 ∧ t = q2 := by simpa using hgo2
    gi_wp2_with (first
      | (refine ⟨trivial, ?_⟩; gi_at_call 37; refine (CallsIn.inRound l (callsIn_wide.2 (hT _))).mono ?_; rintro e w' ⟨rfl, e2⟩; have e3 := e2.symm; subst e3; clear e2)
      | (refine ⟨trivial, ?_⟩; gi_at_call 36; refine (CallsIn.inRound l (hC _)).mono ?_; rintro e w' ⟨rfl, m, rfl⟩; have hba := pw_below_drewN (Below.refl W.heap.size W) m; have g6 := (h6.below hba).1; obtain ⟨Wa, hWa⟩ : ∃ Wa, World.drewN W m = Wa := ⟨_, rfl⟩; rw [hWa] at hba g6 ⊢; clear hWa)
      | (refine ⟨trivial, ?_⟩; gi_at_call 26; refine (CallsIn.inRound l (callsIn_wide.2 (impl_checkOf.calls k c tx c2 _ hck))).mono ?_; rintro e w' ⟨rfl, ⟨nd, rfl⟩⟩; have hbb := pw_below_drewN hba nd; clear hba g6; obtain ⟨Wb, hWb⟩ : ∃ Wb, World.drewN Wa nd = Wb := ⟨_, rfl⟩; rw [hWb] at hbb ⊢; clear hWb)
      | (refine ⟨trivial, ?_⟩; gi_at_call 38; refine (CallsIn.inRound l (callsIn_wide.2 (hH _))).mono ?_; rintro e w' ⟨rfl, rfl⟩)
      | (refine ⟨trivial, ?_⟩; gi_at_call 28; refine (CallsIn.inRound l (callsIn_wide.2 (hD _ (below_step hB hbb)))).mono ?_; rintro e Wd ⟨rfl, hbd0⟩; have hbd := below_step hbb hbd0; clear hbd0))
    refine ⟨trivial, ?_⟩
    gi_wp2
    refine ⟨trivial, ?_⟩
    gi_wp2
    exact ⟨keeps_below hbb, rfl, c, impl_RecoverJournal.M_below hM0 hbb⟩
   | true =>
    cases en with
    | false =>
     rw [if_neg (by simp)] at hgo2
     obtain ⟨rfl, rfl⟩ : out = q1 ∧ t = q2 := by simpa using hgo2
     gi_wp2_with (first
      | (refine ⟨trivial, ?_⟩; gi_at_call 37; refine (CallsIn.inRound l (callsIn_wide.2 (hT _))).mono ?_; rintro e w' ⟨rfl, e2⟩; have e3 := e2.symm; subst e3; clear e2)
      | (refine ⟨trivial, ?_⟩; gi_at_call 36; refine (CallsIn.inRound l (hC _)).mono ?_; rintro e w' ⟨rfl, m, rfl⟩; have hba := pw_below_drewN (Below.refl W.heap.size W) m; have g6 := (h6.below hba).1; obtain ⟨Wa, hWa⟩ : ∃ Wa, World.drewN W m = Wa := ⟨_, rfl⟩; rw [hWa] at hba g6 ⊢; clear hWa)
      | (refine ⟨trivial, ?_⟩; gi_at_call 26; refine (CallsIn.inRound l (callsIn_wide.2 (impl_checkOf.calls k c tx c2 _ hck))).mono ?_; rintro e w' ⟨rfl, ⟨nd, rfl⟩⟩; have hbb := pw_below_drewN hba nd; clear hba g6; obtain ⟨Wb, hWb⟩ : ∃ Wb, World.drewN Wa nd = Wb := ⟨_, rfl⟩; rw [hWb] at hbb ⊢; clear hWb)
      | (refine ⟨trivial, ?_⟩; gi_at_call 38; refine (CallsIn.inRound l (callsIn_wide.2 (hH _))).mono ?_; rintro e w' ⟨rfl, rfl⟩)
      | (refine ⟨trivial, ?_⟩; gi_at_call 28; refine (CallsIn.inRound l (callsIn_wide.2 (hD _ (below_step hB hbb)))).mono ?_; rintro e Wd ⟨rfl, hbd0⟩; have hbd := below_step hbb hbd0; clear hbd0))
     refine ⟨trivial, ?_⟩
     gi_wp2
     exact ⟨keeps_below hbb, rfl, c, impl_RecoverJournal.M_below hM0 hbb⟩
    | true =>
     by_cases he : hd = dc
     ·rw [if_pos ⟨rfl, rfl, he⟩] at hgo2
      rw [decide_eq_true he] at hE
      gi_wp2_with (first
      | (refine ⟨trivial, ?_⟩; gi_at_call 37; refine (CallsIn.inRound l (callsIn_wide.2 (hT _))).mono ?_; rintro e w' ⟨rfl, e2⟩; have e3 := e2.symm; subst e3; clear e2)
      | (refine ⟨trivial, ?_⟩; gi_at_call 36; refine (CallsIn.inRound l (hC _)).mono ?_; rintro e w' ⟨rfl, m, rfl⟩; have hba := pw_below_drewN (Below.refl W.heap.size W) m; have g6 := (h6.below hba).1; obtain ⟨Wa, hWa⟩ : ∃ Wa, World.drewN W m = Wa := ⟨_, rfl⟩; rw [hWa] at hba g6 ⊢; clear hWa)
      | (refine ⟨trivial, ?_⟩; gi_at_call 26; refine (CallsIn.inRound l (callsIn_wide.2 (impl_checkOf.calls k c tx c2 _ hck))).mono ?_; rintro e w' ⟨rfl, ⟨nd, rfl⟩⟩; have hbb := pw_below_drewN hba nd; clear hba g6; obtain ⟨Wb, hWb⟩ : ∃ Wb, World.drewN Wa nd = Wb := ⟨_, rfl⟩; rw [hWb] at hbb ⊢; clear hWb)
      | (refine ⟨trivial, ?_⟩; gi_at_call 38; refine (CallsIn.inRound l (callsIn_wide.2 (hH _))).mono ?_; rintro e w' ⟨rfl, rfl⟩)
      | (refine ⟨trivial, ?_⟩; gi_at_call 28; refine (CallsIn.inRound l (callsIn_wide.2 (hD _ (below_step hB hbb)))).mono ?_; rintro e Wd ⟨rfl, hbd0⟩; have hbd := below_step hbb hbd0; clear hbd0))
      have g5 : Bx Wd b5 v := h5.below hbd
      have g6 : Bx Wd (b5 + 1) (.int .i64 c) := h6.below hbd
      have g7 : Bx Wd (b5 + 1 + 1) (.int .i64 t) := h7.below hbd
      have gR := Kd.R_below hR hbd
      have gB := below_step hB hbd
      have gs := hbd.size
      refine startIn (m := 12) (S := fun w' => w'.cell? ⟨b5 + 1 + 1, 0, none⟩ = some (.int .i64 t)) (ds := [11]) #[false, false, false, false, false, false, false, false, false, false, false, false] rfl (by kernel_rfl) rfl rfl (g7.below (below_drew (Below.refl _ _))).1 (fun K0 hK0 hHeld => ?_)
      refine pure_ (i := 1) (N := some 44) (v := ?_) (a' := ?_) #[false, true, false, false, false, false, false, false, false, false, false, false] rfl rfl (by kernel_rfl) (fun _ _ _ h => h) (Or.inl ⟨by rfl, ?_⟩) ?_ ?_
      rotate_left
      ·intro w'
       go_simp
       with_reducible rfl
      rotate_left
      ·simp only [Act.put, List.setIfInBounds_toArray, List.set_cons_zero, List.set_cons_succ, i64_w, i32_w]
       rfl
      refine pure_ (i := 4) (N := some 47) (v := ?_) (a' := ?_) #[false, true, false, false, true, false, false, false, false, false, false, false] rfl rfl (by kernel_rfl) (fun _ _ _ h => h) (Or.inl ⟨by rfl, ?_⟩) ?_ ?_
      rotate_left
      ·intro w'
       go_simp
       with_reducible rfl
      rotate_left
      ·simp only [Act.put, List.setIfInBounds_toArray, List.set_cons_zero, List.set_cons_succ, i64_w, i32_w]
       rfl
      refine pure_ (i := 6) (N := some 49) (v := ?_) (a' := ?_) #[false, true, false, false, true, false, true, false, false, false, false, false] rfl rfl (by kernel_rfl) (fun _ _ _ h => h) (Or.inl ⟨by rfl, ?_⟩) ?_ ?_
      rotate_left
      ·intro w'
       go_simp
       with_reducible rfl
      rotate_left
      ·simp only [Act.put, List.setIfInBounds_toArray, List.set_cons_zero, List.set_cons_succ, i64_w, i32_w]
       rfl
      refine pure_ (i := 7) (N := some 50) (v := ?_) (a' := ?_) #[false, true, false, false, true, false, true, true, false, false, false, false] rfl rfl (by kernel_rfl) (fun _ _ _ h => h) (Or.inl ⟨by rfl, ?_⟩) ?_ ?_
      rotate_left
      ·intro w'
       go_simp
       with_reducible rfl
      rotate_left
      ·simp only [Act.put, List.setIfInBounds_toArray, List.set_cons_zero, List.set_cons_succ, i64_w, i32_w]
       rfl
      refine take_ (i := 5) (N := some 48) (v := ?_) (a' := ?_) #[false, true, false, false, true, true, true, true, false, false, false, false] rfl rfl (by kernel_rfl) (fun _ _ _ h => h) (Or.inl ⟨by rfl, ?_⟩) hHeld ?_ ?_
      rotate_left
      ·intro w' s0
       go_simp
       with_reducible rfl
      rotate_left
      ·simp only [Act.put, List.setIfInBounds_toArray, List.set_cons_zero, List.set_cons_succ, i64_w, i32_w]
       rfl
      refine pure_ (i := 8) (N := some 51) (v := ?_) (a' := ?_) #[false, true, false, false, true, true, true, true, true, false, false, false] rfl rfl (by kernel_rfl) (fun _ _ _ h => h) (Or.inl ⟨by rfl, ?_⟩) ?_ ?_
      rotate_left
      ·intro w'
       go_simp
       with_reducible rfl
      rotate_left
      ·simp only [Act.put, List.setIfInBounds_toArray, List.set_cons_zero, List.set_cons_succ, i64_w, i32_w]
       rfl
      have k5 : Bx Wd.drew b5 v := g5.below (below_drew (Below.refl _ _))
      have k6 : Bx Wd.drew (b5 + 1) (.int .i64 c) := g6.below (below_drew (Below.refl _ _))
      have k7 : Bx Wd.drew (b5 + 1 + 1) (.int .i64 t) := g7.below (below_drew (Below.refl _ _))
      have kR := Kd.R_drew gR
      have kB : Below w.heap.size w Wd.drew := below_drew gB
      clear g5 g6 g7 gR gB
      obtain ⟨We, hWe⟩ : ∃ We, Wd.drew = We := ⟨_, rfl⟩
      rw [hWe] at k5 k6 k7 kR kB hHeld ⊢
      have kW : Below W.heap.size W We := by rw [← hWe]; exact below_drew hbd
      clear hWe hbd
      have kws := kW.size
      have c5 := k5.1
      refine two_ (i := 0) (j := 2) (Ni := some 43) (Nj := some 45) #[true, true, false, false, true, true, true, true, true, false, false, false] #[false, true, true, false, true, true, true, true, true, false, false, false] rfl rfl rfl rfl (by kernel_rfl) (by decide) (by decide) (fun K hK => ?_) (fun K hK => ?_)
      ·refine value_ (w1 := ?_) (v := ?_) (by rfl) rfl ?_ ?_
       rotate_left 2
       ·go_simp
        try (constructor <;> rfl)
       refine hK.out _ _ k7.1 (fun hHeld => ?_)
       clear hK K
       refine norm_ (a' := ?_) ?_ ?_
       rotate_left
       ·show Act.put _ (some 43) _ = _
        simp only [Act.put, List.setIfInBounds_toArray, List.set_cons_zero, List.set_cons_succ, i64_w, i32_w]
        rfl
       refine one_ (i := 2) (N := some 45) #[true, true, true, false, true, true, true, true, true, false, false, false] rfl rfl (by kernel_rfl) (by decide) (fun K hK => ?_)
       refine value_ (w1 := ?_) (v := ?_) (by rfl) rfl ?_ ?_
       rotate_left 2
       ·go_simp
        try (constructor <;> rfl)
       refine hK.out _ _ (k7.below (below_alloc (Below.refl _ _) _)).1 (fun hHeld => ?_)
       clear hK K
       refine norm_ (a' := ?_) ?_ ?_
       rotate_left
       ·show Act.put _ (some 45) _ = _
        simp only [Act.put, List.setIfInBounds_toArray, List.set_cons_zero, List.set_cons_succ, i64_w, i32_w]
        rfl
       refine one_ (i := 3) (N := some 46) #[true, true, true, true, true, true, true, true, true, false, false, false] rfl rfl (by kernel_rfl) (by decide) (fun K hK => ?_)
       refine Kd.R_append_step Kd.string (w0 := w) w.heap.size (by rfl) (.tmp 43) (.tmp 45) 22 9 (.string ⟨#[]⟩) 16 rfl Tryd.underlying22 info9 rfl (by decide) (by omega) v out tx [.string tx] (fun k => k < b5 ∨ b5 + 1 + 1 + 1 < k) (fun _ => False) rfl rfl ?aP (fun _ hk => hk.elim) ?aF kR kB ?aS ?aL ?_
       (case aP => exact rfl)
       (case aF => exact fun k hk => .inr (by omega))
       (case aS => omega)
       (case aL => omega)
       intro v1 w1 ho hb hg hat
       obtain ⟨A1, k1, e1⟩ := Kd.R_slice ho
       rw [show (out ++ [tx]).length = pre.length + 1 by simp [hlen]] at e1
       subst e1
       have n5 : Bx w1 b5 v := k5.grown hg (Kd.R_away kR fun k hk => by omega)
       have n6 : Bx w1 (b5 + 1) (.int .i64 c) := k6.grown hg (Kd.R_away kR fun k hk => by omega)
       have n7 : Bx w1 (b5 + 1 + 1) (.int .i64 t) := k7.grown hg (Kd.R_away kR fun k hk => by omega)
       have kk : KeepsOthers We w1 := KeepsOthers.of_grownBy hg (fun j o hj ho_ => by obtain ⟨cs, hcs⟩ := Kd.R_typed kR j hj; rw [hcs] at ho_; cases ho_; rfl)
       have nL : w1.heap[b5 + 1 + 1 + 1]? = We.heap[b5 + 1 + 1 + 1]? := hg.block _ (by omega) (Kd.R_away kR fun k hk => by omega)
       have ns := hg.size
       refine hK.out _ _ n7.1 (fun hHeld => ?_)
       clear hK K
       refine norm_ (a' := ?_) ?_ ?_
       rotate_left
       ·show Act.put _ (some 46) _ = _
        simp only [Act.put, List.setIfInBounds_toArray, List.set_cons_zero, List.set_cons_succ, i64_w, i32_w]
        rfl
       refine one_ (i := 9) (N := none) #[true, true, true, true, true, true, true, true, true, true, false, false] rfl rfl (by kernel_rfl) (by decide) (fun K hK => ?_)
       have cs5 := n5.1
       have cs6 := n6.1
       have cs7 := n7.1
       have fs5 := n5.2
       have fs6 := n6.2
       have fs7 := n7.2
       refine skip_ (w1 := ?_) (by rfl) rfl ?_ ?_
       rotate_left
       ·go_simp
        rfl
       refine hK.out _ _ (n7.far (by omega) _).1 (fun hHeld => ?_)
       clear hK K cs5 cs6 cs7 fs5 fs6 fs7
       have m5 := n5.set (.slice A1 (pre.length + 1) k1)
       have m6 := n6.far (b' := b5) (by omega) (.slice A1 (pre.length + 1) k1)
       have m7 := n7.far (b' := b5) (by omega) (.slice A1 (pre.length + 1) k1)
       refine one_ (i := 10) (N := none) #[true, true, true, true, true, true, true, true, true, true, true, false] rfl rfl (by kernel_rfl) (by decide) (fun K hK => ?_)
       have cs5 := n5.1
       have cs6 := n6.1
       have cs7 := n7.1
       have fs5 := n5.2
       have fs6 := n6.2
       have fs7 := n7.2
       refine skip_ (w1 := ?_) (by rfl) rfl ?_ ?_
       rotate_left
       ·go_simp
        rfl
       refine hK.out _ _ (m7.far (by omega) _).1 (fun hHeld => ?_)
       clear hK K cs5 cs6 cs7 fs5 fs6 fs7
       have l5 := m5.far (b' := b5 + 1) (by omega) (.int .i64 c2)
       have l6 := m6.set (.int .i64 c2)
       have l7 := m7.far (b' := b5 + 1) (by omega) (.int .i64 c2)
       refine last_ (i := 11) (N := none) #[true, true, true, true, true, true, true, true, true, true, true, true] rfl rfl (by kernel_rfl) (by decide) (fun K hK => ?_)
       have cs5 := n5.1
       have cs6 := n6.1
       have cs7 := n7.1
       have fs5 := n5.2
       have fs6 := n6.2
       have fs7 := n7.2
       refine skip_ (w1 := ?_) (by rfl) rfl ?_ ?_
       rotate_left
       ·go_simp
        rfl
       refine hK.out _ _ ?_
       clear hK K cs5 cs6 cs7 fs5 fs6 fs7
       refine done_ (by kernel_rfl) (hK0 _ _ ?_)
       have e1 : ((((w1.setCell ⟨b5, 0, none⟩ (.slice A1 (pre.length + 1) k1)).setCell ⟨b5 + 1, 0, none⟩ (.int .i64 c2)).setCell ⟨b5 + 1 + 1, 0, none⟩ (.int .i64 (wrap64 (t + (x.size : Int)))))).heap[b5 + 1 + 1 + 1]? = W.heap[b5 + 1 + 1 + 1]? :=
        (Below.heap_setCell _ _ _ _ (by show _ ≠ b5 + 1 + 1; omega)).trans ((Below.heap_setCell _ _ _ _ (by show _ ≠ b5 + 1; omega)).trans ((Below.heap_setCell _ _ _ _ (by show _ ≠ b5; omega)).trans (nL.trans (kW.block _ hbl))))
       refine ⟨((((keeps_below kW).trans kk).trans (KeepsOthers.setCell _ _ _)).trans (KeepsOthers.setCell _ _ _)).trans (KeepsOthers.setCell _ _ _), fun u hu => ⟨(World.cell?_of_block e1).trans hu, World.frozen?_of_block e1⟩, ⟨out ++ [tx], c2, wrap64 (t + (x.size : Int)), ⟨_, l5.far (by omega) _, l6.far (by omega) _, l7.set _, R_farb (R_farb (R_farb ho (fun k hk => by omega) _) (fun k hk => by omega) _) (fun k hk => by omega) _, ((hb.setCell (p := ⟨b5, 0, none⟩) (by show w.heap.size ≤ b5; omega) _).setCell (p := ⟨b5 + 1, 0, none⟩) (by show w.heap.size ≤ b5 + 1; omega) _).setCell (p := ⟨b5 + 1 + 1, 0, none⟩) (by show w.heap.size ≤ b5 + 1 + 1; omega) _, by simp; omega⟩, by simp [hlen], fun rest' e => ?_⟩⟩
       have e2 : rest = rest' := by rw [← hrest] at e; exact List.append_cancel_left e
       rw [← e2]
       exact hgo2
      ·refine value_ (w1 := ?_) (v := ?_) (by rfl) rfl ?_ ?_
       rotate_left 2
       ·go_simp
        try (constructor <;> rfl)
       refine hK.out _ _ (k7.below (below_alloc (Below.refl _ _) _)).1 (fun hHeld => ?_)
       clear hK K
       refine norm_ (a' := ?_) ?_ ?_
       rotate_left
       ·show Act.put _ (some 45) _ = _
        simp only [Act.put, List.setIfInBounds_toArray, List.set_cons_zero, List.set_cons_succ, i64_w, i32_w]
        rfl
       have c5 := (k5.below (below_alloc (Below.refl _ _) (.cells #[.string tx] 9))).1
       refine one_ (i := 0) (N := some 43) #[true, true, true, false, true, true, true, true, true, false, false, false] rfl rfl (by kernel_rfl) (by decide) (fun K hK => ?_)
       refine value_ (w1 := ?_) (v := ?_) (by rfl) rfl ?_ ?_
       rotate_left 2
       ·go_simp
        try (constructor <;> rfl)
       refine hK.out _ _ (k7.below (below_alloc (Below.refl _ _) _)).1 (fun hHeld => ?_)
       clear hK K
       refine norm_ (a' := ?_) ?_ ?_
       rotate_left
       ·show Act.put _ (some 43) _ = _
        simp only [Act.put, List.setIfInBounds_toArray, List.set_cons_zero, List.set_cons_succ, i64_w, i32_w]
        rfl
       refine one_ (i := 3) (N := some 46) #[true, true, true, true, true, true, true, true, true, false, false, false] rfl rfl (by kernel_rfl) (by decide) (fun K hK => ?_)
       refine Kd.R_append_step Kd.string (w0 := w) w.heap.size (by rfl) (.tmp 43) (.tmp 45) 22 9 (.string ⟨#[]⟩) 16 rfl Tryd.underlying22 info9 rfl (by decide) (by omega) v out tx [.string tx] (fun k => k < b5 ∨ b5 + 1 + 1 + 1 < k) (fun _ => False) rfl rfl ?aP (fun _ hk => hk.elim) ?aF kR kB ?aS ?aL ?_
       (case aP => exact rfl)
       (case aF => exact fun k hk => .inr (by omega))
       (case aS => omega)
       (case aL => omega)
       intro v1 w1 ho hb hg hat
       obtain ⟨A1, k1, e1⟩ := Kd.R_slice ho
       rw [show (out ++ [tx]).length = pre.length + 1 by simp [hlen]] at e1
       subst e1
       have n5 : Bx w1 b5 v := k5.grown hg (Kd.R_away kR fun k hk => by omega)
       have n6 : Bx w1 (b5 + 1) (.int .i64 c) := k6.grown hg (Kd.R_away kR fun k hk => by omega)
       have n7 : Bx w1 (b5 + 1 + 1) (.int .i64 t) := k7.grown hg (Kd.R_away kR fun k hk => by omega)
       have kk : KeepsOthers We w1 := KeepsOthers.of_grownBy hg (fun j o hj ho_ => by obtain ⟨cs, hcs⟩ := Kd.R_typed kR j hj; rw [hcs] at ho_; cases ho_; rfl)
       have nL : w1.heap[b5 + 1 + 1 + 1]? = We.heap[b5 + 1 + 1 + 1]? := hg.block _ (by omega) (Kd.R_away kR fun k hk => by omega)
       have ns := hg.size
       refine hK.out _ _ n7.1 (fun hHeld => ?_)
       clear hK K
       refine norm_ (a' := ?_) ?_ ?_
       rotate_left
       ·show Act.put _ (some 46) _ = _
        simp only [Act.put, List.setIfInBounds_toArray, List.set_cons_zero, List.set_cons_succ, i64_w, i32_w]
        rfl
       refine one_ (i := 9) (N := none) #[true, true, true, true, true, true, true, true, true, true, false, false] rfl rfl (by kernel_rfl) (by decide) (fun K hK => ?_)
       have cs5 := n5.1
       have cs6 := n6.1
       have cs7 := n7.1
       have fs5 := n5.2
       have fs6 := n6.2
       have fs7 := n7.2
       refine skip_ (w1 := ?_) (by rfl) rfl ?_ ?_
       rotate_left
       ·go_simp
        rfl
       refine hK.out _ _ (n7.far (by omega) _).1 (fun hHeld => ?_)
       clear hK K cs5 cs6 cs7 fs5 fs6 fs7
       have m5 := n5.set (.slice A1 (pre.length + 1) k1)
       have m6 := n6.far (b' := b5) (by omega) (.slice A1 (pre.length + 1) k1)
       have m7 := n7.far (b' := b5) (by omega) (.slice A1 (pre.length + 1) k1)
       refine one_ (i := 10) (N := none) #[true, true, true, true, true, true, true, true, true, true, true, false] rfl rfl (by kernel_rfl) (by decide) (fun K hK => ?_)
       have cs5 := n5.1
       have cs6 := n6.1
       have cs7 := n7.1
       have fs5 := n5.2
       have fs6 := n6.2
       have fs7 := n7.2
       refine skip_ (w1 := ?_) (by rfl) rfl ?_ ?_
       rotate_left
       ·go_simp
        rfl
       refine hK.out _ _ (m7.far (by omega) _).1 (fun hHeld => ?_)
       clear hK K cs5 cs6 cs7 fs5 fs6 fs7
       have l5 := m5.far (b' := b5 + 1) (by omega) (.int .i64 c2)
       have l6 := m6.set (.int .i64 c2)
       have l7 := m7.far (b' := b5 + 1) (by omega) (.int .i64 c2)
       refine last_ (i := 11) (N := none) #[true, true, true, true, true, true, true, true, true, true, true, true] rfl rfl (by kernel_rfl) (by decide) (fun K hK => ?_)
       have cs5 := n5.1
       have cs6 := n6.1
       have cs7 := n7.1
       have fs5 := n5.2
       have fs6 := n6.2
       have fs7 := n7.2
       refine skip_ (w1 := ?_) (by rfl) rfl ?_ ?_
       rotate_left
       ·go_simp
        rfl
       refine hK.out _ _ ?_
       clear hK K cs5 cs6 cs7 fs5 fs6 fs7
       refine done_ (by kernel_rfl) (hK0 _ _ ?_)
       have e1 : ((((w1.setCell ⟨b5, 0, none⟩ (.slice A1 (pre.length + 1) k1)).setCell ⟨b5 + 1, 0, none⟩ (.int .i64 c2)).setCell ⟨b5 + 1 + 1, 0, none⟩ (.int .i64 (wrap64 (t + (x.size : Int)))))).heap[b5 + 1 + 1 + 1]? = W.heap[b5 + 1 + 1 + 1]? :=
        (Below.heap_setCell _ _ _ _ (by show _ ≠ b5 + 1 + 1; omega)).trans ((Below.heap_setCell _ _ _ _ (by show _ ≠ b5 + 1; omega)).trans ((Below.heap_setCell _ _ _ _ (by show _ ≠ b5; omega)).trans (nL.trans (kW.block _ hbl))))
       refine ⟨((((keeps_below kW).trans kk).trans (KeepsOthers.setCell _ _ _)).trans (KeepsOthers.setCell _ _ _)).trans (KeepsOthers.setCell _ _ _), fun u hu => ⟨(World.cell?_of_block e1).trans hu, World.frozen?_of_block e1⟩, ⟨out ++ [tx], c2, wrap64 (t + (x.size : Int)), ⟨_, l5.far (by omega) _, l6.far (by omega) _, l7.set _, R_farb (R_farb (R_farb ho (fun k hk => by omega) _) (fun k hk => by omega) _) (fun k hk => by omega) _, ((hb.setCell (p := ⟨b5, 0, none⟩) (by show w.heap.size ≤ b5; omega) _).setCell (p := ⟨b5 + 1, 0, none⟩) (by show w.heap.size ≤ b5 + 1; omega) _).setCell (p := ⟨b5 + 1 + 1, 0, none⟩) (by show w.heap.size ≤ b5 + 1 + 1; omega) _, by simp; omega⟩, by simp [hlen], fun rest' e => ?_⟩⟩
       have e2 : rest = rest' := by rw [← hrest] at e; exact List.append_cancel_left e
       rw [← e2]
       exact hgo2
     ·rw [if_neg (by simp [he])] at hgo2
      rw [decide_eq_false he] at hE
      obtain ⟨rfl, rfl⟩ : out = q1 ∧ t = q2 := by simpa using hgo2
      gi_wp2_with (first
      | (refine ⟨trivial, ?_⟩; gi_at_call 37; refine (CallsIn.inRound l (callsIn_wide.2 (hT _))).mono ?_; rintro e w' ⟨rfl, e2⟩; have e3 := e2.symm; subst e3; clear e2)
      | (refine ⟨trivial, ?_⟩; gi_at_call 36; refine (CallsIn.inRound l (hC _)).mono ?_; rintro e w' ⟨rfl, m, rfl⟩; have hba := pw_below_drewN (Below.refl W.heap.size W) m; have g6 := (h6.below hba).1; obtain ⟨Wa, hWa⟩ : ∃ Wa, World.drewN W m = Wa := ⟨_, rfl⟩; rw [hWa] at hba g6 ⊢; clear hWa)
      | (refine ⟨trivial, ?_⟩; gi_at_call 26; refine (CallsIn.inRound l (callsIn_wide.2 (impl_checkOf.calls k c tx c2 _ hck))).mono ?_; rintro e w' ⟨rfl, ⟨nd, rfl⟩⟩; have hbb := pw_below_drewN hba nd; clear hba g6; obtain ⟨Wb, hWb⟩ : ∃ Wb, World.drewN Wa nd = Wb := ⟨_, rfl⟩; rw [hWb] at hbb ⊢; clear hWb)
      | (refine ⟨trivial, ?_⟩; gi_at_call 38; refine (CallsIn.inRound l (callsIn_wide.2 (hH _))).mono ?_; rintro e w' ⟨rfl, rfl⟩)
      | (refine ⟨trivial, ?_⟩; gi_at_call 28; refine (CallsIn.inRound l (callsIn_wide.2 (hD _ (below_step hB hbb)))).mono ?_; rintro e Wd ⟨rfl, hbd0⟩; have hbd := below_step hbb hbd0; clear hbd0))
      exact ⟨keeps_below hbd, rfl, c, impl_RecoverJournal.M_below hM0 hbd⟩
end Go.Proofs.YtcnbhfefhmmgjaaDoor.Q
namespace Go.Proofs.YtcnbhfefhmmgjaaDoor.Q
open Go.RowKit Go.Proofs.YtcnbhfefhmmgjaaDoorW.PrintWords Go.Proofs.YtcnbhfefhmmgjaaDoorW.PrintLast Go.Proofs.YtcnbhfefhmmgjaaDoorW.PrintMore
attribute [local go_sem] max2_int min2_int max_two min_two max_three min_three max_four min_four   -- for this text's walks alone
set_option linter.unusedVariables false
set_option linter.unusedSimpArgs false
mutual
def laws_FnExactRecoverJournal.j0 : Nat → ByteArray → List ByteArray → Int → Bool → List ByteArray → Bool → Option (Bool)
 | 0, _, _, _, _, _, _ => none
 | k + 1, x0, x3, x4, x5, x6, x42 => if x42 = true then (some false) else ((laws_markStringS.f k x6 1).bind fun bt185 => ((laws_heldStringS.f k bt185.2 1).bind fun t187 => (if t187 < 0 then (some false) else (if t187 = bt185.1 then ((impl_RecoverJournal.f k x0).bind fun bt188 => ((laws_eqStringS.f k bt188.1 x3).bind fun t193 => (if t193 = true then (if bt188.2.1 = x4 then (laws_FnExactRecoverJournal.j1 k bt185.2 bt185.1 (bt188.2.2 != x5)) else (laws_FnExactRecoverJournal.j1 k bt185.2 bt185.1 true)) else (laws_FnExactRecoverJournal.j1 k bt185.2 bt185.1 true)))) else (some false)))))
def laws_FnExactRecoverJournal.j1 : Nat → List ByteArray → Int → Bool → Option (Bool)
 | 0, _, _, _ => none
 | k + 1, x6, x9, x73 => if x73 = true then (some false) else ((laws_heldStringS.f k x6 1).bind fun t194 => (if t194 < 0 then (some false) else (if t194 = x9 then (some true) else (some false))))
end
def laws_FnExactRecoverJournal.f (k : Nat) (a0 : ByteArray) : Option (Bool) := if (a0.size : Int) > 1048576 then (some true) else ((spec_RecoverJournal.f k a0).bind fun bt174 => ((impl_RecoverJournal.f k a0).bind fun bt179 => ((laws_eqStringS.f k bt179.1 bt174.1).bind fun t184 => (if t184 = true then (if bt179.2.1 = bt174.2.1 then (laws_FnExactRecoverJournal.j0 k a0 bt174.1 bt174.2.1 bt174.2.2 bt179.1 (bt179.2.2 != bt174.2.2)) else (laws_FnExactRecoverJournal.j0 k a0 bt174.1 bt174.2.1 bt174.2.2 bt179.1 true)) else (laws_FnExactRecoverJournal.j0 k a0 bt174.1 bt174.2.1 bt174.2.2 bt179.1 true)))))
theorem laws_FnExactRecoverJournal.mono_l : ∀ k, (∀ y0 y1 y2 y3 y4 y5, LeO (laws_FnExactRecoverJournal.j0 k y0 y1 y2 y3 y4 y5) (laws_FnExactRecoverJournal.j0 (k + 1) y0 y1 y2 y3 y4 y5)) ∧ (∀ y0 y1 y2, LeO (laws_FnExactRecoverJournal.j1 k y0 y1 y2) (laws_FnExactRecoverJournal.j1 (k + 1) y0 y1 y2))
 | 0 => ⟨fun _ _ _ _ _ _ r h => by simp [laws_FnExactRecoverJournal.j0] at h, fun _ _ _ r h => by simp [laws_FnExactRecoverJournal.j1] at h⟩
 | k + 1 => by
  obtain ⟨ih0, ih1⟩ := laws_FnExactRecoverJournal.mono_l k
  refine ⟨?_, ?_⟩
  ·intro y0 y1 y2 y3 y4 y5
   unfold laws_FnExactRecoverJournal.j0
   repeat' first
   | (with_reducible exact ih0 _ _ _ _ _ _)
   | (with_reducible exact ih1 _ _ _)
   | (with_reducible exact impl_RecoverJournal.mono _ _)
   | (with_reducible exact laws_eqStringS.mono _ _ _)
   | (with_reducible exact laws_heldStringS.mono _ _ _)
   | (with_reducible exact laws_markStringS.mono _ _ _)
   | (with_reducible exact spec_RecoverJournal.mono _ _)
   | (with_reducible exact LeO.refl _)
   | (with_reducible exact LeO.none _)
   | (with_reducible refine LeO.ite ?_ ?_)
   | (with_reducible refine LeO.bind ?_ (fun _ => ?_))
   | exact ih0 _ _ _ _ _ _
   | exact ih1 _ _ _
   | exact impl_RecoverJournal.mono _ _
   | exact laws_eqStringS.mono _ _ _
   | exact laws_heldStringS.mono _ _ _
   | exact laws_markStringS.mono _ _ _
   | exact spec_RecoverJournal.mono _ _
   | exact LeO.none _
   | refine LeO.ite ?_ ?_
   | refine LeO.bind ?_ (fun _ => ?_)
  ·intro y0 y1 y2
   unfold laws_FnExactRecoverJournal.j1
   repeat' first
   | (with_reducible exact ih0 _ _ _ _ _ _)
   | (with_reducible exact ih1 _ _ _)
   | (with_reducible exact impl_RecoverJournal.mono _ _)
   | (with_reducible exact laws_eqStringS.mono _ _ _)
   | (with_reducible exact laws_heldStringS.mono _ _ _)
   | (with_reducible exact laws_markStringS.mono _ _ _)
   | (with_reducible exact spec_RecoverJournal.mono _ _)
   | (with_reducible exact LeO.refl _)
   | (with_reducible exact LeO.none _)
   | (with_reducible refine LeO.ite ?_ ?_)
   | (with_reducible refine LeO.bind ?_ (fun _ => ?_))
   | exact ih0 _ _ _ _ _ _
   | exact ih1 _ _ _
   | exact impl_RecoverJournal.mono _ _
   | exact laws_eqStringS.mono _ _ _
   | exact laws_heldStringS.mono _ _ _
   | exact laws_markStringS.mono _ _ _
   | exact spec_RecoverJournal.mono _ _
   | exact LeO.none _
   | refine LeO.ite ?_ ?_
   | refine LeO.bind ?_ (fun _ => ?_)
theorem laws_FnExactRecoverJournal.mono : ∀ a0 k, LeO (laws_FnExactRecoverJournal.f k a0) (laws_FnExactRecoverJournal.f (k + 1) a0) := by
 intro a0 k
 obtain ⟨ih0, ih1⟩ := laws_FnExactRecoverJournal.mono_l k
 unfold laws_FnExactRecoverJournal.f
 repeat' first
   | (with_reducible exact ih0 _ _ _ _ _ _)
   | (with_reducible exact ih1 _ _ _)
   | (with_reducible exact impl_RecoverJournal.mono _ _)
   | (with_reducible exact laws_eqStringS.mono _ _ _)
   | (with_reducible exact laws_heldStringS.mono _ _ _)
   | (with_reducible exact laws_markStringS.mono _ _ _)
   | (with_reducible exact spec_RecoverJournal.mono _ _)
   | (with_reducible exact LeO.refl _)
   | (with_reducible exact LeO.none _)
   | (with_reducible refine LeO.ite ?_ ?_)
   | (with_reducible refine LeO.bind ?_ (fun _ => ?_))
   | exact ih0 _ _ _ _ _ _
   | exact ih1 _ _ _
   | exact impl_RecoverJournal.mono _ _
   | exact laws_eqStringS.mono _ _ _
   | exact laws_heldStringS.mono _ _ _
   | exact laws_markStringS.mono _ _ _
   | exact spec_RecoverJournal.mono _ _
   | exact LeO.none _
   | refine LeO.ite ?_ ?_
   | refine LeO.bind ?_ (fun _ => ?_)
set_option maxHeartbeats 8000000 in
set_option maxRecDepth 100000 in
theorem laws_FnExactRecoverJournal.calls (k : Nat) (a0 : ByteArray) (r : Bool) (w : World) (h : laws_FnExactRecoverJournal.f k a0 = some r) (hT_ : DecTab w) :
  Calls Tryd.prog 4 #[.string a0] w fun e w' => e = .returned (.bool r) ∧ Below w.heap.size w w' := by
 have HTX := Aside0.mk hT_
 clear hT_
 have HB := Aside0.mk (Below.refl w.heap.size w)
 have H : (if (a0.size : Int) > 1048576 then (some true) else ((spec_RecoverJournal.f k a0).bind fun bt174 => ((impl_RecoverJournal.f k a0).bind fun bt179 => ((laws_eqStringS.f k bt179.1 bt174.1).bind fun t184 => (if t184 = true then (if bt179.2.1 = bt174.2.1 then (laws_FnExactRecoverJournal.j0 k a0 bt174.1 bt174.2.1 bt174.2.2 bt179.1 (bt179.2.2 != bt174.2.2)) else (laws_FnExactRecoverJournal.j0 k a0 bt174.1 bt174.2.1 bt174.2.2 bt179.1 true)) else (laws_FnExactRecoverJournal.j0 k a0 bt174.1 bt174.2.1 bt174.2.2 bt179.1 true)))))) = some r := h
 clear h
 by_cases c2 : (a0.size : Int) > 1048576
 ·rw [if_pos c2] at H
  have c2b0 : decide (1048576 < (a0.size : Int)) = true := decide_eq_true c2
  have c2b1 : decide (1048576 < a0.size) = true := decide_eq_true (by omega)
  clear c2
  obtain rfl := Option.some.inj H
  go_enter Tryd.func4, Tryd.ntmps4
  go_wp2
  go_ret
  exact ⟨by first | rfl | (simp [errW_none, errW_some] <;> rfl) | (simp [*, errW_none, errW_some] <;> rfl), by repeat (first | (with_reducible first | exact HB.out | apply below_alloc | apply pw_below_drewN | apply below_drew1) | exact HB.out)⟩
 ·rw [if_neg c2] at H
  have c2b0 : decide (1048576 < (a0.size : Int)) = false := decide_eq_false c2
  have c2b1 : decide (1048576 < a0.size) = false := decide_eq_false (by omega)
  clear c2
  replace H := Option.bind_eq_some_iff.mp H
  obtain ⟨⟨t174, t175, t176⟩, A30, H⟩ := H
  replace H : ((impl_RecoverJournal.f k a0).bind fun bt179 => ((laws_eqStringS.f k bt179.1 t174).bind fun t184 => (if t184 = true then (if bt179.2.1 = t175 then (laws_FnExactRecoverJournal.j0 k a0 t174 t175 t176 bt179.1 (bt179.2.2 != t176)) else (laws_FnExactRecoverJournal.j0 k a0 t174 t175 t176 bt179.1 true)) else (laws_FnExactRecoverJournal.j0 k a0 t174 t175 t176 bt179.1 true)))) = some r := H
  have A3 := Aside0.mk A30
  clear A30
  replace H := Option.bind_eq_some_iff.mp H
  obtain ⟨⟨t179, t180, t181⟩, A40, H⟩ := H
  replace H : ((laws_eqStringS.f k t179 t174).bind fun t184 => (if t184 = true then (if t180 = t175 then (laws_FnExactRecoverJournal.j0 k a0 t174 t175 t176 t179 (t181 != t176)) else (laws_FnExactRecoverJournal.j0 k a0 t174 t175 t176 t179 true)) else (laws_FnExactRecoverJournal.j0 k a0 t174 t175 t176 t179 true))) = some r := H
  have A4 := Aside0.mk A40
  clear A40
  have HC5 := Aside0.mk H
  clear H
  go_enter Tryd.func4, Tryd.ntmps4
  go_upto_region 5 with (first | ((with_reducible refine gate_callee (f := 12) rfl ?_); refine goesL_ (some 19) rfl rfl Tryd.func12 (by kernel_rfl) rfl #[.string a0] rfl (by (try simp only [List.map_toArray, List.map_cons, List.map_nil]); first | done | rfl | (simp only [List.length_drop, List.length_take]; rfl) | (simp only [show ∀ (n_ : Nat) (b_ : Int), Int.tdiv (n_ : Int) b_ = (n_ : Int) / b_ from fun n_ b_ => Int.tdiv_eq_ediv_of_nonneg (Int.natCast_nonneg n_)]; rfl)) ?_; (with_reducible refine (spec_RecoverJournal.calls k a0 t174 t175 t176 _ A3.out).mono ?_); rintro e w6 ⟨v177, rfl, ho0, hb⟩; refine ⟨_, rfl, ?_⟩; have n0_ := Aside0.mk (Kd.R_lower ho0 (below_size (by repeat (first | (with_reducible first | exact HB.out | apply below_alloc | apply pw_below_drewN | apply below_drew1) | exact HB.out)))); have n1_ := Aside0.mk (below_step (by repeat (first | (with_reducible first | exact HB.out | apply below_alloc | apply pw_below_drewN | apply below_drew1) | exact HB.out)) hb); clear HB; have HO178 := n0_; have HB := n1_; clear n0_ n1_; (try clear hb); (try clear hb2); (try clear hk); (try clear hi); (try clear ho0)) | ((with_reducible refine gate_callee (f := 13) rfl ?_); refine goesL_ (some 25) rfl rfl Tryd.func13 (by kernel_rfl) rfl #[.string a0] rfl (by (try simp only [List.map_toArray, List.map_cons, List.map_nil]); first | done | rfl | (simp only [List.length_drop, List.length_take]; rfl) | (simp only [show ∀ (n_ : Nat) (b_ : Int), Int.tdiv (n_ : Int) b_ = (n_ : Int) / b_ from fun n_ b_ => Int.tdiv_eq_ediv_of_nonneg (Int.natCast_nonneg n_)]; rfl)) ?_; (with_reducible refine (impl_RecoverJournal.calls k a0 t179 t180 t181 _ A4.out ?sideT).mono ?_); (case sideT => exact DecTab.below HTX.out (by repeat (first | (with_reducible first | exact HB.out | apply below_alloc | apply pw_below_drewN | apply below_drew1) | exact HB.out))); rintro e w7 ⟨v182, rfl, ho0, hb⟩; refine ⟨_, rfl, ?_⟩; have n0_ := Aside0.mk (Kd.R_elder' (by (with_reducible repeat (first | apply Kd.R_alloc | apply Kd.R_drewN | apply Kd.R_drew)); exact HO178.out) (Kd.R_base ho0) hb); have n1_ := Aside0.mk (Kd.R_lower (Kd.R_new' ho0 (Kd.R_lt (by (with_reducible repeat (first | apply Kd.R_alloc | apply Kd.R_drewN | apply Kd.R_drew)); exact HO178.out))) (below_size (by repeat (first | (with_reducible first | exact HB.out | apply below_alloc | apply pw_below_drewN | apply below_drew1) | exact HB.out)))); have n2_ := Aside0.mk (below_step (by repeat (first | (with_reducible first | exact HB.out | apply below_alloc | apply pw_below_drewN | apply below_drew1) | exact HB.out)) hb); clear HO178; clear HB; have HO178 := n0_; have HO183 := n1_; have HB := n2_; clear n0_ n1_ n2_; (try clear hb); (try clear hb2); (try clear hk); (try clear hi); (try clear ho0)))
  (try simp only [Act.put, List.setIfInBounds_toArray, List.set_cons_zero, List.set_cons_succ])
  go_cut [42] (fun v42 wc => ∃ (kq : Nat) (x42_4 : Bool), v42 = .bool x42_4 ∧ Aside0 (laws_FnExactRecoverJournal.j0 kq a0 t174 t175 t176 t179 x42_4 = some r) ∧ Aside0 (kq ≤ k) ∧ Aside0 (Kd.R Kd.string 9 wc w.heap.size (fun k_ => some k_ ≠ (v182 : Value).ownBlock) v177 t174) ∧ Aside0 (Kd.R Kd.string 9 wc w.heap.size (fun k_ => some k_ ≠ (v177 : Value).ownBlock) v182 t179) ∧ Aside0 (Below w.heap.size w wc))
  case first =>
   have H := HC5.out
   clear HC5
   replace H := Option.bind_eq_some_iff.mp H
   obtain ⟨t184, A80, H⟩ := H
   replace H : (if t184 = true then (if t180 = t175 then (laws_FnExactRecoverJournal.j0 k a0 t174 t175 t176 t179 (t181 != t176)) else (laws_FnExactRecoverJournal.j0 k a0 t174 t175 t176 t179 true)) else (laws_FnExactRecoverJournal.j0 k a0 t174 t175 t176 t179 true)) = some r := H
   have A8 := Aside0.mk A80
   clear A80
   by_cases c9 : t184 = true
   ·subst c9
    have H1 : (if t180 = t175 then (laws_FnExactRecoverJournal.j0 k a0 t174 t175 t176 t179 (t181 != t176)) else (laws_FnExactRecoverJournal.j0 k a0 t174 t175 t176 t179 true)) = some r := by rw [if_pos rfl] at H; exact H
    clear H
    have H := H1
    clear H1
    by_cases c10 : t180 = t175
    ·rw [if_pos c10] at H
     have c10b0 : (t180 == t175) = true := beq_iff_eq.mpr c10
     have c10b1 : (t180 != t175) = false := bne_eq_false_iff_eq.mpr c10
     clear c10
     (first | rw [c10b0] | (simp only [i64_w, i32_w]; rw [c10b0]) | skip)
     have H' := Aside0.mk H
     clear H
     obtain ⟨Ao11, co11, eo11⟩ := Kd.R_slice HO183.out
     subst eo11
     obtain ⟨Ao12, co12, eo12⟩ := Kd.R_slice HO178.out
     subst eo12
     go_wp2_with (first | ((with_reducible refine gate_callee (f := 11) rfl ?_); refine goesL_ (some 31) rfl rfl Tryd.func11 (by kernel_rfl) rfl #[.slice Ao11 t179.length co11, .slice Ao12 t174.length co12] rfl (by (try simp only [List.map_toArray, List.map_cons, List.map_nil]); first | done | rfl | (simp only [List.length_drop, List.length_take]; rfl) | (simp only [show ∀ (n_ : Nat) (b_ : Int), Int.tdiv (n_ : Int) b_ = (n_ : Int) / b_ from fun n_ b_ => Int.tdiv_eq_ediv_of_nonneg (Int.natCast_nonneg n_)]; rfl)) ?_; (with_reducible refine (laws_eqStringS.calls k _ _ t179 _ _ t174 true _ ?side1 ?side2 ?side3 ?side4 A8.out).mono ?_); (case side1 => repeat (first | exact (Kd.R_reads' HO183.out).2.2 | (with_reducible refine Kd.C_alloc ?_ _) | (with_reducible refine Kd.C_drewN ?_ _) | (with_reducible refine Kd.C_drew ?_))); (case side2 => exact (Kd.R_reads' HO183.out).2.1); (case side3 => repeat (first | exact (Kd.R_reads' HO178.out).2.2 | (with_reducible refine Kd.C_alloc ?_ _) | (with_reducible refine Kd.C_drewN ?_ _) | (with_reducible refine Kd.C_drew ?_))); (case side4 => exact (Kd.R_reads' HO178.out).2.1); rintro e w' ⟨rfl, ⟨nd, rfl⟩⟩; refine ⟨_, rfl, ?_⟩))
     go_meet
     case rel => exact ⟨_, ((t181 != t176)), (by first | rfl | (simp; done) | (simp [*]; done)), H', ⟨by first | omega | exact Nat.le_refl _⟩, ⟨by (with_reducible repeat (first | apply Kd.R_alloc | apply Kd.R_drewN | apply Kd.R_drew)); exact Kd.R_mono HO178.out (fun _ hk => hk.2)⟩, ⟨by (with_reducible repeat (first | apply Kd.R_alloc | apply Kd.R_drewN | apply Kd.R_drew)); exact Kd.R_mono HO183.out (fun _ hk => hk.2)⟩, ⟨by repeat (first | (with_reducible first | exact HB.out | apply below_alloc | apply pw_below_drewN | apply below_drew1) | exact HB.out)⟩⟩
    ·rw [if_neg c10] at H
     have c10b0 : (t180 == t175) = false := beq_eq_false_iff_ne.mpr c10
     have c10b1 : (t180 != t175) = true := bne_iff_ne.mpr c10
     (first | rw [c10b0] | (simp only [i64_w, i32_w]; rw [c10b0]) | skip)
     have H' := Aside0.mk H
     clear H
     obtain ⟨Ao13, co13, eo13⟩ := Kd.R_slice HO183.out
     subst eo13
     obtain ⟨Ao14, co14, eo14⟩ := Kd.R_slice HO178.out
     subst eo14
     go_wp2_with (first | ((with_reducible refine gate_callee (f := 11) rfl ?_); refine goesL_ (some 31) rfl rfl Tryd.func11 (by kernel_rfl) rfl #[.slice Ao13 t179.length co13, .slice Ao14 t174.length co14] rfl (by (try simp only [List.map_toArray, List.map_cons, List.map_nil]); first | done | rfl | (simp only [List.length_drop, List.length_take]; rfl) | (simp only [show ∀ (n_ : Nat) (b_ : Int), Int.tdiv (n_ : Int) b_ = (n_ : Int) / b_ from fun n_ b_ => Int.tdiv_eq_ediv_of_nonneg (Int.natCast_nonneg n_)]; rfl)) ?_; (with_reducible refine (laws_eqStringS.calls k _ _ t179 _ _ t174 true _ ?side1 ?side2 ?side3 ?side4 A8.out).mono ?_); (case side1 => repeat (first | exact (Kd.R_reads' HO183.out).2.2 | (with_reducible refine Kd.C_alloc ?_ _) | (with_reducible refine Kd.C_drewN ?_ _) | (with_reducible refine Kd.C_drew ?_))); (case side2 => exact (Kd.R_reads' HO183.out).2.1); (case side3 => repeat (first | exact (Kd.R_reads' HO178.out).2.2 | (with_reducible refine Kd.C_alloc ?_ _) | (with_reducible refine Kd.C_drewN ?_ _) | (with_reducible refine Kd.C_drew ?_))); (case side4 => exact (Kd.R_reads' HO178.out).2.1); rintro e w' ⟨rfl, ⟨nd, rfl⟩⟩; refine ⟨_, rfl, ?_⟩))
     go_meet
     case rel => exact ⟨_, (true), (by first | rfl | (simp; done) | (simp [*]; done)), H', ⟨by first | omega | exact Nat.le_refl _⟩, ⟨by (with_reducible repeat (first | apply Kd.R_alloc | apply Kd.R_drewN | apply Kd.R_drew)); exact Kd.R_mono HO178.out (fun _ hk => hk.2)⟩, ⟨by (with_reducible repeat (first | apply Kd.R_alloc | apply Kd.R_drewN | apply Kd.R_drew)); exact Kd.R_mono HO183.out (fun _ hk => hk.2)⟩, ⟨by repeat (first | (with_reducible first | exact HB.out | apply below_alloc | apply pw_below_drewN | apply below_drew1) | exact HB.out)⟩⟩
   ·replace c9 := Bool.eq_false_iff.mpr c9
    subst c9
    have H1 : (laws_FnExactRecoverJournal.j0 k a0 t174 t175 t176 t179 true) = some r := by rw [if_neg (show ¬ (false = true) by decide)] at H; exact H
    clear H
    have H := H1
    clear H1
    have H' := Aside0.mk H
    clear H
    obtain ⟨Ao15, co15, eo15⟩ := Kd.R_slice HO183.out
    subst eo15
    obtain ⟨Ao16, co16, eo16⟩ := Kd.R_slice HO178.out
    subst eo16
    go_wp2_with (first | ((with_reducible refine gate_callee (f := 11) rfl ?_); refine goesL_ (some 31) rfl rfl Tryd.func11 (by kernel_rfl) rfl #[.slice Ao15 t179.length co15, .slice Ao16 t174.length co16] rfl (by (try simp only [List.map_toArray, List.map_cons, List.map_nil]); first | done | rfl | (simp only [List.length_drop, List.length_take]; rfl) | (simp only [show ∀ (n_ : Nat) (b_ : Int), Int.tdiv (n_ : Int) b_ = (n_ : Int) / b_ from fun n_ b_ => Int.tdiv_eq_ediv_of_nonneg (Int.natCast_nonneg n_)]; rfl)) ?_; (with_reducible refine (laws_eqStringS.calls k _ _ t179 _ _ t174 false _ ?side1 ?side2 ?side3 ?side4 A8.out).mono ?_); (case side1 => repeat (first | exact (Kd.R_reads' HO183.out).2.2 | (with_reducible refine Kd.C_alloc ?_ _) | (with_reducible refine Kd.C_drewN ?_ _) | (with_reducible refine Kd.C_drew ?_))); (case side2 => exact (Kd.R_reads' HO183.out).2.1); (case side3 => repeat (first | exact (Kd.R_reads' HO178.out).2.2 | (with_reducible refine Kd.C_alloc ?_ _) | (with_reducible refine Kd.C_drewN ?_ _) | (with_reducible refine Kd.C_drew ?_))); (case side4 => exact (Kd.R_reads' HO178.out).2.1); rintro e w' ⟨rfl, ⟨nd, rfl⟩⟩; refine ⟨_, rfl, ?_⟩))
    go_meet
    case rel => exact ⟨_, (true), (by first | rfl | (simp; done) | (simp [*]; done)), H', ⟨by first | omega | exact Nat.le_refl _⟩, ⟨by (with_reducible repeat (first | apply Kd.R_alloc | apply Kd.R_drewN | apply Kd.R_drew)); exact Kd.R_mono HO178.out (fun _ hk => hk.2)⟩, ⟨by (with_reducible repeat (first | apply Kd.R_alloc | apply Kd.R_drewN | apply Kd.R_drew)); exact Kd.R_mono HO183.out (fun _ hk => hk.2)⟩, ⟨by repeat (first | (with_reducible first | exact HB.out | apply below_alloc | apply pw_below_drewN | apply below_drew1) | exact HB.out)⟩⟩
  case rest =>
   clear HC5
   try clear c1
   try clear c2
   try clear c2b0
   try clear c2b1
   try clear p2
   try clear c4
   try clear c9
   try clear c10
   try clear c10b0
   try clear c10b1
   try clear c11
   try clear c12
   try clear c13
   obtain ⟨kq, x42_4, rfl, HA, HJ4, HO_3, HO_6, HB⟩ := hcut
   cases kq with
   | zero => exact absurd HA.out (by simp [laws_FnExactRecoverJournal.j0])
   | succ kj4 =>
    have H := HA.out
    clear HA
    simp only [laws_FnExactRecoverJournal.j0] at H
    by_cases c17 : x42_4 = true
    ·subst c17
     have H1 : (some false) = some r := by rw [if_pos rfl] at H; exact H
     clear H
     have H := H1
     clear H1
     obtain rfl := Option.some.inj H
     go_wp2
     go_ret
     exact ⟨by first | rfl | (simp [errW_none, errW_some] <;> rfl) | (simp [*, errW_none, errW_some] <;> rfl), by repeat (first | (with_reducible first | exact HB.out | apply below_alloc | apply pw_below_drewN | apply below_drew1) | exact HB.out)⟩
    ·replace c17 := Bool.eq_false_iff.mpr c17
     subst c17
     have H1 : ((laws_markStringS.f kj4 t179 1).bind fun bt185 => ((laws_heldStringS.f kj4 bt185.2 1).bind fun t187 => (if t187 < 0 then (some false) else (if t187 = bt185.1 then ((impl_RecoverJournal.f kj4 a0).bind fun bt188 => ((laws_eqStringS.f kj4 bt188.1 t174).bind fun t193 => (if t193 = true then (if bt188.2.1 = t175 then (laws_FnExactRecoverJournal.j1 kj4 bt185.2 bt185.1 (bt188.2.2 != t176)) else (laws_FnExactRecoverJournal.j1 kj4 bt185.2 bt185.1 true)) else (laws_FnExactRecoverJournal.j1 kj4 bt185.2 bt185.1 true)))) else (some false))))) = some r := by rw [if_neg (show ¬ (false = true) by decide)] at H; exact H
     clear H
     have H := H1
     clear H1
     replace H := Option.bind_eq_some_iff.mp H
     obtain ⟨⟨t185, t186⟩, A180, H⟩ := H
     replace H : ((laws_heldStringS.f kj4 t186 1).bind fun t187 => (if t187 < 0 then (some false) else (if t187 = t185 then ((impl_RecoverJournal.f kj4 a0).bind fun bt188 => ((laws_eqStringS.f kj4 bt188.1 t174).bind fun t193 => (if t193 = true then (if bt188.2.1 = t175 then (laws_FnExactRecoverJournal.j1 kj4 t186 t185 (bt188.2.2 != t176)) else (laws_FnExactRecoverJournal.j1 kj4 t186 t185 true)) else (laws_FnExactRecoverJournal.j1 kj4 t186 t185 true)))) else (some false)))) = some r := H
     have A18 := Aside0.mk A180
     clear A180
     replace H := Option.bind_eq_some_iff.mp H
     obtain ⟨t187, A190, H⟩ := H
     replace H : (if t187 < 0 then (some false) else (if t187 = t185 then ((impl_RecoverJournal.f kj4 a0).bind fun bt188 => ((laws_eqStringS.f kj4 bt188.1 t174).bind fun t193 => (if t193 = true then (if bt188.2.1 = t175 then (laws_FnExactRecoverJournal.j1 kj4 t186 t185 (bt188.2.2 != t176)) else (laws_FnExactRecoverJournal.j1 kj4 t186 t185 true)) else (laws_FnExactRecoverJournal.j1 kj4 t186 t185 true)))) else (some false))) = some r := H
     have A19 := Aside0.mk A190
     clear A190
     by_cases c20 : t187 < 0
     ·rw [if_pos c20] at H
      have c20b0 : decide (t187 < 0) = true := decide_eq_true c20
      clear c20
      obtain rfl := Option.some.inj H
      obtain ⟨Ao21, co21, eo21⟩ := Kd.R_slice HO_6.out
      subst eo21
      go_wp2_with (first | ((with_reducible refine gate_callee (f := 14) rfl ?_); refine goesL_ (some 45) rfl rfl Tryd.func14 (by kernel_rfl) rfl #[.slice Ao21 t179.length co21, .int .i64 1] rfl (by (try simp only [List.map_toArray, List.map_cons, List.map_nil]); first | done | rfl | (simp only [List.length_drop, List.length_take]; rfl) | (simp only [show ∀ (n_ : Nat) (b_ : Int), Int.tdiv (n_ : Int) b_ = (n_ : Int) / b_ from fun n_ b_ => Int.tdiv_eq_ediv_of_nonneg (Int.natCast_nonneg n_)]; rfl)) ?_; (with_reducible refine (laws_markStringS.calls kj4 (fun k_ => some k_ = (.slice Ao21 t179.length co21 : Value).ownBlock) (.slice Ao21 t179.length co21) t179 1 t185 t186 w _ ?side1 ?side2 A18.out).mono ?_); (case side1 => repeat (first | (with_reducible first | exact HB.out | apply below_alloc | apply pw_below_drewN | apply below_drew1) | exact HB.out)); (case side2 => exact Kd.R_tight rfl HO_6.out); rintro e w22 ⟨rfl, hy0, hb, hkp⟩; refine ⟨_, rfl, ?_⟩; have n0_ := Aside0.mk (Kd.R_mono (ok' := fun k_ => some k_ ≠ (.slice Ao21 t179.length co21 : Value).ownBlock) (Kd.R_keptB (HO_3.out) hkp (fun k_ hk_ hs_ => (hk_) hs_)) (fun k_ hk_ => hk_.1)); have n1_ := Aside0.mk (Kd.R_reok rfl hy0 (fun k_ e_ => HO_6.out.1 k_ e_)); have n2_ := Aside0.mk (hb); clear HO_3; clear HO_6; clear HB; have HO_3 := n0_; have HO_6 := n1_; have HB := n2_; clear n0_ n1_ n2_; (try clear hb); (try clear hkp); (try clear hy0)) | ((with_reducible refine gate_callee (f := 15) rfl ?_); refine goesL_ (some 48) rfl rfl Tryd.func15 (by kernel_rfl) rfl #[.slice Ao21 t186.length co21, .int .i64 1] rfl (by (try simp only [List.map_toArray, List.map_cons, List.map_nil]); first | done | (rw [show t186.length = t179.length from (Kd.R_reads' HO_6.out).1.symm] <;> rfl) | rfl | (simp only [List.length_drop, List.length_take]; rfl)) ?_; (with_reducible refine (laws_heldStringS.calls kj4 _ _ t186 1 t187 _ ?side1 ?side2 A19.out).mono ?_); (case side1 => repeat (first | exact (Kd.R_reads' HO_6.out).2.2 | (with_reducible refine Kd.C_alloc ?_ _) | (with_reducible refine Kd.C_drewN ?_ _) | (with_reducible refine Kd.C_drew ?_))); (case side2 => rw [show t186.length = t179.length from (Kd.R_reads' HO_6.out).1.symm]; exact (Kd.R_reads' HO_6.out).2.1); rintro e w23 ⟨rfl, hb⟩; refine ⟨_, rfl, ?_⟩; have n0_ := Aside0.mk (Kd.R_below (by (with_reducible repeat (first | apply Kd.R_alloc | apply Kd.R_drewN | apply Kd.R_drew)); exact HO_3.out) hb); have n1_ := Aside0.mk (Kd.R_below (by (with_reducible repeat (first | apply Kd.R_alloc | apply Kd.R_drewN | apply Kd.R_drew)); exact HO_6.out) hb); have n2_ := Aside0.mk (below_step (by repeat (first | (with_reducible first | exact HB.out | apply below_alloc | apply pw_below_drewN | apply below_drew1) | exact HB.out)) hb); clear HO_3; clear HO_6; clear HB; have HO_3 := n0_; have HO_6 := n1_; have HB := n2_; clear n0_ n1_ n2_; (try clear hb); (try clear hb2); (try clear hk); (try clear hi)))
      go_ret
      exact ⟨by first | rfl | (simp [errW_none, errW_some] <;> rfl) | (simp [*, errW_none, errW_some] <;> rfl), by repeat (first | (with_reducible first | exact HB.out | apply below_alloc | apply pw_below_drewN | apply below_drew1) | exact HB.out)⟩
     ·rw [if_neg c20] at H
      have c20b0 : decide (t187 < 0) = false := decide_eq_false c20
      clear c20
      by_cases c24 : t187 = t185
      ·rw [if_pos c24] at H
       have c24b0 : (t187 == t185) = true := beq_iff_eq.mpr c24
       have c24b1 : (t187 != t185) = false := bne_eq_false_iff_eq.mpr c24
       clear c24
       replace H := Option.bind_eq_some_iff.mp H
       obtain ⟨⟨t188, t189, t190⟩, A250, H⟩ := H
       replace H : ((laws_eqStringS.f kj4 t188 t174).bind fun t193 => (if t193 = true then (if t189 = t175 then (laws_FnExactRecoverJournal.j1 kj4 t186 t185 (t190 != t176)) else (laws_FnExactRecoverJournal.j1 kj4 t186 t185 true)) else (laws_FnExactRecoverJournal.j1 kj4 t186 t185 true))) = some r := H
       have A25 := Aside0.mk A250
       clear A250
       have HC26 := Aside0.mk H
       clear H
       obtain ⟨Ao27, co27, eo27⟩ := Kd.R_slice HO_6.out
       subst eo27
       go_upto_region 16 with (first | ((with_reducible refine gate_callee (f := 14) rfl ?_); refine goesL_ (some 45) rfl rfl Tryd.func14 (by kernel_rfl) rfl #[.slice Ao27 t179.length co27, .int .i64 1] rfl (by (try simp only [List.map_toArray, List.map_cons, List.map_nil]); first | done | rfl | (simp only [List.length_drop, List.length_take]; rfl) | (simp only [show ∀ (n_ : Nat) (b_ : Int), Int.tdiv (n_ : Int) b_ = (n_ : Int) / b_ from fun n_ b_ => Int.tdiv_eq_ediv_of_nonneg (Int.natCast_nonneg n_)]; rfl)) ?_; (with_reducible refine (laws_markStringS.calls kj4 (fun k_ => some k_ = (.slice Ao27 t179.length co27 : Value).ownBlock) (.slice Ao27 t179.length co27) t179 1 t185 t186 w _ ?side1 ?side2 A18.out).mono ?_); (case side1 => repeat (first | (with_reducible first | exact HB.out | apply below_alloc | apply pw_below_drewN | apply below_drew1) | exact HB.out)); (case side2 => exact Kd.R_tight rfl HO_6.out); rintro e w28 ⟨rfl, hy0, hb, hkp⟩; refine ⟨_, rfl, ?_⟩; have n0_ := Aside0.mk (Kd.R_mono (ok' := fun k_ => some k_ ≠ (.slice Ao27 t179.length co27 : Value).ownBlock) (Kd.R_keptB (HO_3.out) hkp (fun k_ hk_ hs_ => (hk_) hs_)) (fun k_ hk_ => hk_.1)); have n1_ := Aside0.mk (Kd.R_reok rfl hy0 (fun k_ e_ => HO_6.out.1 k_ e_)); have n2_ := Aside0.mk (hb); clear HO_3; clear HO_6; clear HB; have HO_3 := n0_; have HO_6 := n1_; have HB := n2_; clear n0_ n1_ n2_; (try clear hb); (try clear hkp); (try clear hy0)) | ((with_reducible refine gate_callee (f := 15) rfl ?_); refine goesL_ (some 48) rfl rfl Tryd.func15 (by kernel_rfl) rfl #[.slice Ao27 t186.length co27, .int .i64 1] rfl (by (try simp only [List.map_toArray, List.map_cons, List.map_nil]); first | done | (rw [show t186.length = t179.length from (Kd.R_reads' HO_6.out).1.symm] <;> rfl) | rfl | (simp only [List.length_drop, List.length_take]; rfl)) ?_; (with_reducible refine (laws_heldStringS.calls kj4 _ _ t186 1 t187 _ ?side1 ?side2 A19.out).mono ?_); (case side1 => repeat (first | exact (Kd.R_reads' HO_6.out).2.2 | (with_reducible refine Kd.C_alloc ?_ _) | (with_reducible refine Kd.C_drewN ?_ _) | (with_reducible refine Kd.C_drew ?_))); (case side2 => rw [show t186.length = t179.length from (Kd.R_reads' HO_6.out).1.symm]; exact (Kd.R_reads' HO_6.out).2.1); rintro e w29 ⟨rfl, hb⟩; refine ⟨_, rfl, ?_⟩; have n0_ := Aside0.mk (Kd.R_below (by (with_reducible repeat (first | apply Kd.R_alloc | apply Kd.R_drewN | apply Kd.R_drew)); exact HO_3.out) hb); have n1_ := Aside0.mk (Kd.R_below (by (with_reducible repeat (first | apply Kd.R_alloc | apply Kd.R_drewN | apply Kd.R_drew)); exact HO_6.out) hb); have n2_ := Aside0.mk (below_step (by repeat (first | (with_reducible first | exact HB.out | apply below_alloc | apply pw_below_drewN | apply below_drew1) | exact HB.out)) hb); clear HO_3; clear HO_6; clear HB; have HO_3 := n0_; have HO_6 := n1_; have HB := n2_; clear n0_ n1_ n2_; (try clear hb); (try clear hb2); (try clear hk); (try clear hi)) | ((with_reducible refine gate_callee (f := 13) rfl ?_); refine goesL_ (some 56) rfl rfl Tryd.func13 (by kernel_rfl) rfl #[.string a0] rfl (by (try simp only [List.map_toArray, List.map_cons, List.map_nil]); first | done | rfl | (simp only [List.length_drop, List.length_take]; rfl) | (simp only [show ∀ (n_ : Nat) (b_ : Int), Int.tdiv (n_ : Int) b_ = (n_ : Int) / b_ from fun n_ b_ => Int.tdiv_eq_ediv_of_nonneg (Int.natCast_nonneg n_)]; rfl)) ?_; (with_reducible refine (impl_RecoverJournal.calls kj4 a0 t188 t189 t190 _ A25.out ?sideT).mono ?_); (case sideT => exact DecTab.below HTX.out (by repeat (first | (with_reducible first | exact HB.out | apply below_alloc | apply pw_below_drewN | apply below_drew1) | exact HB.out))); rintro e w30 ⟨v191, rfl, ho0, hb⟩; refine ⟨_, rfl, ?_⟩; have n0_ := Aside0.mk (Kd.R_elder' (by (with_reducible repeat (first | apply Kd.R_alloc | apply Kd.R_drewN | apply Kd.R_drew)); exact HO_3.out) (Kd.R_base ho0) hb); have n1_ := Aside0.mk (Kd.R_elder' (by (with_reducible repeat (first | apply Kd.R_alloc | apply Kd.R_drewN | apply Kd.R_drew)); exact HO_6.out) (Kd.R_base ho0) hb); have n2_ := Aside0.mk (Kd.R_lower (Kd.R_new' (Kd.R_new' ho0 (Kd.R_lt (by (with_reducible repeat (first | apply Kd.R_alloc | apply Kd.R_drewN | apply Kd.R_drew)); exact HO_3.out))) (Kd.R_lt (by (with_reducible repeat (first | apply Kd.R_alloc | apply Kd.R_drewN | apply Kd.R_drew)); exact HO_6.out))) (below_size (by repeat (first | (with_reducible first | exact HB.out | apply below_alloc | apply pw_below_drewN | apply below_drew1) | exact HB.out)))); have n3_ := Aside0.mk (below_step (by repeat (first | (with_reducible first | exact HB.out | apply below_alloc | apply pw_below_drewN | apply below_drew1) | exact HB.out)) hb); clear HO_3; clear HO_6; clear HB; have HO_3 := n0_; have HO_6 := n1_; have HO192 := n2_; have HB := n3_; clear n0_ n1_ n2_ n3_; (try clear hb); (try clear hb2); (try clear hk); (try clear hi); (try clear ho0)))
       (try simp only [Act.put, List.setIfInBounds_toArray, List.set_cons_zero, List.set_cons_succ])
       go_cut [73] (fun v73 wc => ∃ (kq : Nat) (x73_25 : Bool), v73 = .bool x73_25 ∧ Aside0 (laws_FnExactRecoverJournal.j1 kq t186 t185 x73_25 = some r) ∧ Aside0 (kq ≤ kj4) ∧ Aside0 (Kd.R Kd.string 9 wc w.heap.size (fun _ => True) (.slice Ao27 t179.length co27) t186) ∧ Aside0 (Below w.heap.size w wc))
       case first =>
        have H := HC26.out
        clear HC26
        replace H := Option.bind_eq_some_iff.mp H
        obtain ⟨t193, A310, H⟩ := H
        replace H : (if t193 = true then (if t189 = t175 then (laws_FnExactRecoverJournal.j1 kj4 t186 t185 (t190 != t176)) else (laws_FnExactRecoverJournal.j1 kj4 t186 t185 true)) else (laws_FnExactRecoverJournal.j1 kj4 t186 t185 true)) = some r := H
        have A31 := Aside0.mk A310
        clear A310
        by_cases c32 : t193 = true
        ·subst c32
         have H1 : (if t189 = t175 then (laws_FnExactRecoverJournal.j1 kj4 t186 t185 (t190 != t176)) else (laws_FnExactRecoverJournal.j1 kj4 t186 t185 true)) = some r := by rw [if_pos rfl] at H; exact H
         clear H
         have H := H1
         clear H1
         by_cases c33 : t189 = t175
         ·rw [if_pos c33] at H
          have c33b0 : (t189 == t175) = true := beq_iff_eq.mpr c33
          have c33b1 : (t189 != t175) = false := bne_eq_false_iff_eq.mpr c33
          clear c33
          (first | rw [c33b0] | (simp only [i64_w, i32_w]; rw [c33b0]) | skip)
          have H' := Aside0.mk H
          clear H
          obtain ⟨Ao34, co34, eo34⟩ := Kd.R_slice HO192.out
          subst eo34
          obtain ⟨Ao35, co35, eo35⟩ := Kd.R_slice HO_3.out
          subst eo35
          go_wp2_with (first | ((with_reducible refine gate_callee (f := 11) rfl ?_); refine goesL_ (some 62) rfl rfl Tryd.func11 (by kernel_rfl) rfl #[.slice Ao34 t188.length co34, .slice Ao35 t174.length co35] rfl (by (try simp only [List.map_toArray, List.map_cons, List.map_nil]); first | done | rfl | (simp only [List.length_drop, List.length_take]; rfl) | (simp only [show ∀ (n_ : Nat) (b_ : Int), Int.tdiv (n_ : Int) b_ = (n_ : Int) / b_ from fun n_ b_ => Int.tdiv_eq_ediv_of_nonneg (Int.natCast_nonneg n_)]; rfl)) ?_; (with_reducible refine (laws_eqStringS.calls kj4 _ _ t188 _ _ t174 true _ ?side1 ?side2 ?side3 ?side4 A31.out).mono ?_); (case side1 => repeat (first | exact (Kd.R_reads' HO192.out).2.2 | (with_reducible refine Kd.C_alloc ?_ _) | (with_reducible refine Kd.C_drewN ?_ _) | (with_reducible refine Kd.C_drew ?_))); (case side2 => exact (Kd.R_reads' HO192.out).2.1); (case side3 => repeat (first | exact (Kd.R_reads' HO_3.out).2.2 | (with_reducible refine Kd.C_alloc ?_ _) | (with_reducible refine Kd.C_drewN ?_ _) | (with_reducible refine Kd.C_drew ?_))); (case side4 => exact (Kd.R_reads' HO_3.out).2.1); rintro e w' ⟨rfl, ⟨nd, rfl⟩⟩; refine ⟨_, rfl, ?_⟩))
          go_meet
          case rel => exact ⟨_, ((t190 != t176)), (by first | rfl | (simp; done) | (simp [*]; done)), H', ⟨by have := HJ4.out; first | omega | exact Nat.le_refl _⟩, ⟨by (with_reducible repeat (first | apply Kd.R_alloc | apply Kd.R_drewN | apply Kd.R_drew)); exact Kd.R_mono HO_6.out (fun _ hk => trivial)⟩, ⟨by repeat (first | (with_reducible first | exact HB.out | apply below_alloc | apply pw_below_drewN | apply below_drew1) | exact HB.out)⟩⟩
         ·rw [if_neg c33] at H
          have c33b0 : (t189 == t175) = false := beq_eq_false_iff_ne.mpr c33
          have c33b1 : (t189 != t175) = true := bne_iff_ne.mpr c33
          (first | rw [c33b0] | (simp only [i64_w, i32_w]; rw [c33b0]) | skip)
          have H' := Aside0.mk H
          clear H
          obtain ⟨Ao36, co36, eo36⟩ := Kd.R_slice HO192.out
          subst eo36
          obtain ⟨Ao37, co37, eo37⟩ := Kd.R_slice HO_3.out
          subst eo37
          go_wp2_with (first | ((with_reducible refine gate_callee (f := 11) rfl ?_); refine goesL_ (some 62) rfl rfl Tryd.func11 (by kernel_rfl) rfl #[.slice Ao36 t188.length co36, .slice Ao37 t174.length co37] rfl (by (try simp only [List.map_toArray, List.map_cons, List.map_nil]); first | done | rfl | (simp only [List.length_drop, List.length_take]; rfl) | (simp only [show ∀ (n_ : Nat) (b_ : Int), Int.tdiv (n_ : Int) b_ = (n_ : Int) / b_ from fun n_ b_ => Int.tdiv_eq_ediv_of_nonneg (Int.natCast_nonneg n_)]; rfl)) ?_; (with_reducible refine (laws_eqStringS.calls kj4 _ _ t188 _ _ t174 true _ ?side1 ?side2 ?side3 ?side4 A31.out).mono ?_); (case side1 => repeat (first | exact (Kd.R_reads' HO192.out).2.2 | (with_reducible refine Kd.C_alloc ?_ _) | (with_reducible refine Kd.C_drewN ?_ _) | (with_reducible refine Kd.C_drew ?_))); (case side2 => exact (Kd.R_reads' HO192.out).2.1); (case side3 => repeat (first | exact (Kd.R_reads' HO_3.out).2.2 | (with_reducible refine Kd.C_alloc ?_ _) | (with_reducible refine Kd.C_drewN ?_ _) | (with_reducible refine Kd.C_drew ?_))); (case side4 => exact (Kd.R_reads' HO_3.out).2.1); rintro e w' ⟨rfl, ⟨nd, rfl⟩⟩; refine ⟨_, rfl, ?_⟩))
          go_meet
          case rel => exact ⟨_, (true), (by first | rfl | (simp; done) | (simp [*]; done)), H', ⟨by have := HJ4.out; first | omega | exact Nat.le_refl _⟩, ⟨by (with_reducible repeat (first | apply Kd.R_alloc | apply Kd.R_drewN | apply Kd.R_drew)); exact Kd.R_mono HO_6.out (fun _ hk => trivial)⟩, ⟨by repeat (first | (with_reducible first | exact HB.out | apply below_alloc | apply pw_below_drewN | apply below_drew1) | exact HB.out)⟩⟩
        ·replace c32 := Bool.eq_false_iff.mpr c32
         subst c32
         have H1 : (laws_FnExactRecoverJournal.j1 kj4 t186 t185 true) = some r := by rw [if_neg (show ¬ (false = true) by decide)] at H; exact H
         clear H
         have H := H1
         clear H1
         have H' := Aside0.mk H
         clear H
         obtain ⟨Ao38, co38, eo38⟩ := Kd.R_slice HO192.out
         subst eo38
         obtain ⟨Ao39, co39, eo39⟩ := Kd.R_slice HO_3.out
         subst eo39
         go_wp2_with (first | ((with_reducible refine gate_callee (f := 11) rfl ?_); refine goesL_ (some 62) rfl rfl Tryd.func11 (by kernel_rfl) rfl #[.slice Ao38 t188.length co38, .slice Ao39 t174.length co39] rfl (by (try simp only [List.map_toArray, List.map_cons, List.map_nil]); first | done | rfl | (simp only [List.length_drop, List.length_take]; rfl) | (simp only [show ∀ (n_ : Nat) (b_ : Int), Int.tdiv (n_ : Int) b_ = (n_ : Int) / b_ from fun n_ b_ => Int.tdiv_eq_ediv_of_nonneg (Int.natCast_nonneg n_)]; rfl)) ?_; (with_reducible refine (laws_eqStringS.calls kj4 _ _ t188 _ _ t174 false _ ?side1 ?side2 ?side3 ?side4 A31.out).mono ?_); (case side1 => repeat (first | exact (Kd.R_reads' HO192.out).2.2 | (with_reducible refine Kd.C_alloc ?_ _) | (with_reducible refine Kd.C_drewN ?_ _) | (with_reducible refine Kd.C_drew ?_))); (case side2 => exact (Kd.R_reads' HO192.out).2.1); (case side3 => repeat (first | exact (Kd.R_reads' HO_3.out).2.2 | (with_reducible refine Kd.C_alloc ?_ _) | (with_reducible refine Kd.C_drewN ?_ _) | (with_reducible refine Kd.C_drew ?_))); (case side4 => exact (Kd.R_reads' HO_3.out).2.1); rintro e w' ⟨rfl, ⟨nd, rfl⟩⟩; refine ⟨_, rfl, ?_⟩))
         go_meet
         case rel => exact ⟨_, (true), (by first | rfl | (simp; done) | (simp [*]; done)), H', ⟨by have := HJ4.out; first | omega | exact Nat.le_refl _⟩, ⟨by (with_reducible repeat (first | apply Kd.R_alloc | apply Kd.R_drewN | apply Kd.R_drew)); exact Kd.R_mono HO_6.out (fun _ hk => trivial)⟩, ⟨by repeat (first | (with_reducible first | exact HB.out | apply below_alloc | apply pw_below_drewN | apply below_drew1) | exact HB.out)⟩⟩
       case rest =>
        clear HC26
        try clear c1
        try clear c2
        try clear c2b0
        try clear c2b1
        try clear p2
        try clear c3
        try clear c4
        try clear c9
        try clear c10
        try clear c10b0
        try clear c10b1
        try clear c11
        try clear c12
        try clear c13
        try clear c14
        try clear c15
        try clear c17
        try clear c20
        try clear c20b0
        try clear c24
        try clear c24b0
        try clear c24b1
        try clear c32
        try clear c33
        try clear c33b0
        try clear c33b1
        try clear p2
        obtain ⟨kq, x73_25, rfl, HA, HJ25, HO_6, HB⟩ := hcut
        have hl6_25 := (Kd.R_reads' HO_6.out).1
        rw [hl6_25] at HO_6
        (try simp only [hl6_25])
        cases kq with
        | zero => exact absurd HA.out (by simp [laws_FnExactRecoverJournal.j1])
        | succ kj25 =>
         have H := HA.out
         clear HA
         simp only [laws_FnExactRecoverJournal.j1] at H
         by_cases c40 : x73_25 = true
         ·subst c40
          have H1 : (some false) = some r := by rw [if_pos rfl] at H; exact H
          clear H
          have H := H1
          clear H1
          obtain rfl := Option.some.inj H
          go_wp2
          go_ret
          exact ⟨by first | rfl | (simp [errW_none, errW_some] <;> rfl) | (simp [*, errW_none, errW_some] <;> rfl), by repeat (first | (with_reducible first | exact HB.out | apply below_alloc | apply pw_below_drewN | apply below_drew1) | exact HB.out)⟩
         ·replace c40 := Bool.eq_false_iff.mpr c40
          subst c40
          have H1 : ((laws_heldStringS.f kj25 t186 1).bind fun t194 => (if t194 < 0 then (some false) else (if t194 = t185 then (some true) else (some false)))) = some r := by rw [if_neg (show ¬ (false = true) by decide)] at H; exact H
          clear H
          have H := H1
          clear H1
          replace H := Option.bind_eq_some_iff.mp H
          obtain ⟨t194, A410, H⟩ := H
          replace H : (if t194 < 0 then (some false) else (if t194 = t185 then (some true) else (some false))) = some r := H
          have A41 := Aside0.mk A410
          clear A410
          by_cases c42 : t194 < 0
          ·rw [if_pos c42] at H
           have c42b0 : decide (t194 < 0) = true := decide_eq_true c42
           clear c42
           obtain rfl := Option.some.inj H
           go_wp2_with (first | ((with_reducible refine gate_callee (f := 15) rfl ?_); refine goesL_ (some 76) rfl rfl Tryd.func15 (by kernel_rfl) rfl #[.slice Ao27 t186.length co27, .int .i64 1] rfl (by (try simp only [List.map_toArray, List.map_cons, List.map_nil]); first | done | rfl | (simp only [List.length_drop, List.length_take]; rfl) | (simp only [show ∀ (n_ : Nat) (b_ : Int), Int.tdiv (n_ : Int) b_ = (n_ : Int) / b_ from fun n_ b_ => Int.tdiv_eq_ediv_of_nonneg (Int.natCast_nonneg n_)]; rfl)) ?_; (with_reducible refine (laws_heldStringS.calls kj25 _ _ t186 1 t194 _ ?side1 ?side2 A41.out).mono ?_); (case side1 => repeat (first | exact (Kd.R_reads' HO_6.out).2.2 | (with_reducible refine Kd.C_alloc ?_ _) | (with_reducible refine Kd.C_drewN ?_ _) | (with_reducible refine Kd.C_drew ?_))); (case side2 => exact (Kd.R_reads' HO_6.out).2.1); rintro e w43 ⟨rfl, hb⟩; refine ⟨_, rfl, ?_⟩; have n0_ := Aside0.mk (Kd.R_below (by (with_reducible repeat (first | apply Kd.R_alloc | apply Kd.R_drewN | apply Kd.R_drew)); exact HO_6.out) hb); have n1_ := Aside0.mk (below_step (by repeat (first | (with_reducible first | exact HB.out | apply below_alloc | apply pw_below_drewN | apply below_drew1) | exact HB.out)) hb); clear HO_6; clear HB; have HO_6 := n0_; have HB := n1_; clear n0_ n1_; (try clear hb); (try clear hb2); (try clear hk); (try clear hi)))
           go_ret
           exact ⟨by first | rfl | (simp [errW_none, errW_some] <;> rfl) | (simp [*, errW_none, errW_some] <;> rfl), by repeat (first | (with_reducible first | exact HB.out | apply below_alloc | apply pw_below_drewN | apply below_drew1) | exact HB.out)⟩
          ·rw [if_neg c42] at H
           have c42b0 : decide (t194 < 0) = false := decide_eq_false c42
           clear c42
           by_cases c44 : t194 = t185
           ·rw [if_pos c44] at H
            have c44b0 : (t194 == t185) = true := beq_iff_eq.mpr c44
            have c44b1 : (t194 != t185) = false := bne_eq_false_iff_eq.mpr c44
            clear c44
            obtain rfl := Option.some.inj H
            go_wp2_with (first | ((with_reducible refine gate_callee (f := 15) rfl ?_); refine goesL_ (some 76) rfl rfl Tryd.func15 (by kernel_rfl) rfl #[.slice Ao27 t186.length co27, .int .i64 1] rfl (by (try simp only [List.map_toArray, List.map_cons, List.map_nil]); first | done | rfl | (simp only [List.length_drop, List.length_take]; rfl) | (simp only [show ∀ (n_ : Nat) (b_ : Int), Int.tdiv (n_ : Int) b_ = (n_ : Int) / b_ from fun n_ b_ => Int.tdiv_eq_ediv_of_nonneg (Int.natCast_nonneg n_)]; rfl)) ?_; (with_reducible refine (laws_heldStringS.calls kj25 _ _ t186 1 t194 _ ?side1 ?side2 A41.out).mono ?_); (case side1 => repeat (first | exact (Kd.R_reads' HO_6.out).2.2 | (with_reducible refine Kd.C_alloc ?_ _) | (with_reducible refine Kd.C_drewN ?_ _) | (with_reducible refine Kd.C_drew ?_))); (case side2 => exact (Kd.R_reads' HO_6.out).2.1); rintro e w45 ⟨rfl, hb⟩; refine ⟨_, rfl, ?_⟩; have n0_ := Aside0.mk (Kd.R_below (by (with_reducible repeat (first | apply Kd.R_alloc | apply Kd.R_drewN | apply Kd.R_drew)); exact HO_6.out) hb); have n1_ := Aside0.mk (below_step (by repeat (first | (with_reducible first | exact HB.out | apply below_alloc | apply pw_below_drewN | apply below_drew1) | exact HB.out)) hb); clear HO_6; clear HB; have HO_6 := n0_; have HB := n1_; clear n0_ n1_; (try clear hb); (try clear hb2); (try clear hk); (try clear hi)))
            go_ret
            exact ⟨by first | rfl | (simp [errW_none, errW_some] <;> rfl) | (simp [*, errW_none, errW_some] <;> rfl), by repeat (first | (with_reducible first | exact HB.out | apply below_alloc | apply pw_below_drewN | apply below_drew1) | exact HB.out)⟩
           ·rw [if_neg c44] at H
            have c44b0 : (t194 == t185) = false := beq_eq_false_iff_ne.mpr c44
            have c44b1 : (t194 != t185) = true := bne_iff_ne.mpr c44
            obtain rfl := Option.some.inj H
            go_wp2_with (first | ((with_reducible refine gate_callee (f := 15) rfl ?_); refine goesL_ (some 76) rfl rfl Tryd.func15 (by kernel_rfl) rfl #[.slice Ao27 t186.length co27, .int .i64 1] rfl (by (try simp only [List.map_toArray, List.map_cons, List.map_nil]); first | done | rfl | (simp only [List.length_drop, List.length_take]; rfl) | (simp only [show ∀ (n_ : Nat) (b_ : Int), Int.tdiv (n_ : Int) b_ = (n_ : Int) / b_ from fun n_ b_ => Int.tdiv_eq_ediv_of_nonneg (Int.natCast_nonneg n_)]; rfl)) ?_; (with_reducible refine (laws_heldStringS.calls kj25 _ _ t186 1 t194 _ ?side1 ?side2 A41.out).mono ?_); (case side1 => repeat (first | exact (Kd.R_reads' HO_6.out).2.2 | (with_reducible refine Kd.C_alloc ?_ _) | (with_reducible refine Kd.C_drewN ?_ _) | (with_reducible refine Kd.C_drew ?_))); (case side2 => exact (Kd.R_reads' HO_6.out).2.1); rintro e w46 ⟨rfl, hb⟩; refine ⟨_, rfl, ?_⟩; have n0_ := Aside0.mk (Kd.R_below (by (with_reducible repeat (first | apply Kd.R_alloc | apply Kd.R_drewN | apply Kd.R_drew)); exact HO_6.out) hb); have n1_ := Aside0.mk (below_step (by repeat (first | (with_reducible first | exact HB.out | apply below_alloc | apply pw_below_drewN | apply below_drew1) | exact HB.out)) hb); clear HO_6; clear HB; have HO_6 := n0_; have HB := n1_; clear n0_ n1_; (try clear hb); (try clear hb2); (try clear hk); (try clear hi)))
            go_ret
            exact ⟨by first | rfl | (simp [errW_none, errW_some] <;> rfl) | (simp [*, errW_none, errW_some] <;> rfl), by repeat (first | (with_reducible first | exact HB.out | apply below_alloc | apply pw_below_drewN | apply below_drew1) | exact HB.out)⟩
      ·rw [if_neg c24] at H
       have c24b0 : (t187 == t185) = false := beq_eq_false_iff_ne.mpr c24
       have c24b1 : (t187 != t185) = true := bne_iff_ne.mpr c24
       obtain rfl := Option.some.inj H
       obtain ⟨Ao47, co47, eo47⟩ := Kd.R_slice HO_6.out
       subst eo47
       go_wp2_with (first | ((with_reducible refine gate_callee (f := 14) rfl ?_); refine goesL_ (some 45) rfl rfl Tryd.func14 (by kernel_rfl) rfl #[.slice Ao47 t179.length co47, .int .i64 1] rfl (by (try simp only [List.map_toArray, List.map_cons, List.map_nil]); first | done | rfl | (simp only [List.length_drop, List.length_take]; rfl) | (simp only [show ∀ (n_ : Nat) (b_ : Int), Int.tdiv (n_ : Int) b_ = (n_ : Int) / b_ from fun n_ b_ => Int.tdiv_eq_ediv_of_nonneg (Int.natCast_nonneg n_)]; rfl)) ?_; (with_reducible refine (laws_markStringS.calls kj4 (fun k_ => some k_ = (.slice Ao47 t179.length co47 : Value).ownBlock) (.slice Ao47 t179.length co47) t179 1 t185 t186 w _ ?side1 ?side2 A18.out).mono ?_); (case side1 => repeat (first | (with_reducible first | exact HB.out | apply below_alloc | apply pw_below_drewN | apply below_drew1) | exact HB.out)); (case side2 => exact Kd.R_tight rfl HO_6.out); rintro e w48 ⟨rfl, hy0, hb, hkp⟩; refine ⟨_, rfl, ?_⟩; have n0_ := Aside0.mk (Kd.R_mono (ok' := fun k_ => some k_ ≠ (.slice Ao47 t179.length co47 : Value).ownBlock) (Kd.R_keptB (HO_3.out) hkp (fun k_ hk_ hs_ => (hk_) hs_)) (fun k_ hk_ => hk_.1)); have n1_ := Aside0.mk (Kd.R_reok rfl hy0 (fun k_ e_ => HO_6.out.1 k_ e_)); have n2_ := Aside0.mk (hb); clear HO_3; clear HO_6; clear HB; have HO_3 := n0_; have HO_6 := n1_; have HB := n2_; clear n0_ n1_ n2_; (try clear hb); (try clear hkp); (try clear hy0)) | ((with_reducible refine gate_callee (f := 15) rfl ?_); refine goesL_ (some 48) rfl rfl Tryd.func15 (by kernel_rfl) rfl #[.slice Ao47 t186.length co47, .int .i64 1] rfl (by (try simp only [List.map_toArray, List.map_cons, List.map_nil]); first | done | (rw [show t186.length = t179.length from (Kd.R_reads' HO_6.out).1.symm] <;> rfl) | rfl | (simp only [List.length_drop, List.length_take]; rfl)) ?_; (with_reducible refine (laws_heldStringS.calls kj4 _ _ t186 1 t187 _ ?side1 ?side2 A19.out).mono ?_); (case side1 => repeat (first | exact (Kd.R_reads' HO_6.out).2.2 | (with_reducible refine Kd.C_alloc ?_ _) | (with_reducible refine Kd.C_drewN ?_ _) | (with_reducible refine Kd.C_drew ?_))); (case side2 => rw [show t186.length = t179.length from (Kd.R_reads' HO_6.out).1.symm]; exact (Kd.R_reads' HO_6.out).2.1); rintro e w49 ⟨rfl, hb⟩; refine ⟨_, rfl, ?_⟩; have n0_ := Aside0.mk (Kd.R_below (by (with_reducible repeat (first | apply Kd.R_alloc | apply Kd.R_drewN | apply Kd.R_drew)); exact HO_3.out) hb); have n1_ := Aside0.mk (Kd.R_below (by (with_reducible repeat (first | apply Kd.R_alloc | apply Kd.R_drewN | apply Kd.R_drew)); exact HO_6.out) hb); have n2_ := Aside0.mk (below_step (by repeat (first | (with_reducible first | exact HB.out | apply below_alloc | apply pw_below_drewN | apply below_drew1) | exact HB.out)) hb); clear HO_3; clear HO_6; clear HB; have HO_3 := n0_; have HO_6 := n1_; have HB := n2_; clear n0_ n1_ n2_; (try clear hb); (try clear hb2); (try clear hk); (try clear hi)))
       go_ret
       exact ⟨by first | rfl | (simp [errW_none, errW_some] <;> rfl) | (simp [*, errW_none, errW_some] <;> rfl), by repeat (first | (with_reducible first | exact HB.out | apply below_alloc | apply pw_below_drewN | apply below_drew1) | exact HB.out)⟩
def laws_FnExactRecoverJournal.Pure : Prop := ∀ (a0 : ByteArray), a0.size ≤ 140737488351232 → ∃ k, laws_FnExactRecoverJournal.f k a0 = some true
theorem laws_FnExactRecoverJournal.walk (P : laws_FnExactRecoverJournal.Pure) (a0 : ByteArray) (w : World) (w0 : a0.size ≤ 140737488351232) (hT_ : DecTab w) :
  Calls Tryd.prog 4 #[.string a0] w fun e w' => e = .returned (.bool true) ∧ Below w.heap.size w w' := by
 obtain ⟨k, h⟩ := P a0 w0
 refine (laws_FnExactRecoverJournal.calls k a0 true w h hT_).mono ?_
 rintro e w' ⟨rfl, hd⟩
 exact ⟨rfl, hd⟩
end Go.Proofs.YtcnbhfefhmmgjaaDoor.Q
namespace Go.Proofs.YtcnbhfefhmmgjaaDoor.Com
open Go.RowKit Go.Proofs.YtcnbhfefhmmgjaaDoorW.PrintWords
theorem w64 {x : Int} (h1 : -9223372036854775808 ≤ x) (h2 : x ≤ 9223372036854775807) : wrap64 x = x := by
 unfold wrap64
 omega
theorem ev_of {α : Type} {g : Nat → Option α} {r : α} (h : Ev g r) : ∃ k, g k = some r := h.rounds
theorem tdiv_nn {a b : Int} (h : 0 ≤ a) : Int.tdiv a b = a / b := Int.tdiv_eq_ediv_of_nonneg h
theorem tmod_nn {a b : Int} (h : 0 ≤ a) : Int.tmod a b = a % b := Int.tmod_eq_emod_of_nonneg h
end Go.Proofs.YtcnbhfefhmmgjaaDoor.Com
namespace Go.Proofs.YtcnbhfefhmmgjaaDoor.Com
set_option linter.unusedSimpArgs false
set_option linter.unusedVariables false
open Go.RowKit Go.Proofs.YtcnbhfefhmmgjaaDoorW.PrintWords
theorem ev_fold {α σ ρ : Type} (xs : List α) (g : Nat → σ → Nat → Option ρ) (F : List α → σ → ρ) (Inv : Nat → σ → Prop)
  (h0 : ∀ s, Inv xs.length s → Ev (g xs.length s) (F [] s))
  (hs : ∀ m (h : m < xs.length) s, Inv m s → (∀ s', Inv (m + 1) s' → Ev (g (m + 1) s') (F (xs.drop (m + 1)) s')) → Ev (g m s) (F (xs[m] :: xs.drop (m + 1)) s)) :
  ∀ m s, m ≤ xs.length → Inv m s → Ev (g m s) (F (xs.drop m) s) := by
 have key : ∀ d m s, m + d = xs.length → Inv m s → Ev (g m s) (F (xs.drop m) s) := by
  intro d
  induction d with
  | zero =>
   intro m s e hi
   obtain rfl : m = xs.length := by omega
   rw [List.drop_length]
   exact h0 s hi
  | succ d ih =>
   intro m s e hi
   have h : m < xs.length := by omega
   rw [List.drop_eq_getElem_cons h]
   exact hs m h s hi (fun s' hi' => ih (m + 1) s' (by omega) hi')
 intro m s hm hi
 exact key (xs.length - m) m s (by omega) hi
theorem ev_list {α ρ : Type} (xs : List α) (g : Nat → Nat → Option ρ) (F : List α → ρ) (h0 : Ev (g xs.length) (F []))
  (hs : ∀ m (h : m < xs.length), Ev (g (m + 1)) (F (xs.drop (m + 1))) → Ev (g m) (F (xs[m] :: xs.drop (m + 1)))) (m : Nat) (hm : m ≤ xs.length) : Ev (g m) (F (xs.drop m)) :=
 ev_fold xs (fun m (_ : Unit) => g m) (fun l _ => F l) (fun _ _ => True) (fun _ _ => h0) (fun m h _ _ ih => hs m h (ih () trivial)) m () hm trivial
theorem ev_count {σ ρ : Type} (n : Nat) (g : Nat → σ → Nat → Option ρ) (r : ρ) (Inv : Nat → σ → Prop) (h0 : ∀ s, Inv n s → Ev (g n s) r)
  (hs : ∀ m s, m < n → Inv m s → ∃ s', Inv (m + 1) s' ∧ (Ev (g (m + 1) s') r → Ev (g m s) r)) : ∀ m s, m ≤ n → Inv m s → Ev (g m s) r := by
 have key : ∀ d m s, m + d = n → Inv m s → Ev (g m s) r := by
  intro d
  induction d with
  | zero =>
   intro m s e hi
   obtain rfl : m = n := by omega
   exact h0 s hi
  | succ d ih =>
   intro m s e hi
   obtain ⟨s', hi', k⟩ := hs m s (by omega) hi
   exact k (ih (m + 1) s' (by omega) hi')
 intro m s hm hi
 exact key (n - m) m s (by omega) hi
theorem w_succ {m : Nat} (h : m < 9223372036854775807) : wrap64 ((m : Int) + 1) = ((m + 1 : Nat) : Int) := by
 rw [w64 (by omega) (by omega)]
 omega
end Go.Proofs.YtcnbhfefhmmgjaaDoor.Com
namespace Go.Proofs.YtcnbhfefhmmgjaaDoor.Com
set_option linter.unusedSimpArgs false
set_option linter.unusedVariables false
open Go.RowKit Go.Proofs.YtcnbhfefhmmgjaaDoorW.PrintWords Go.Proofs.YtcnbhfefhmmgjaaDoorW.PrintMore Go.Proofs.YtcnbhfefhmmgjaaDoor.Q
theorem rds_nat {xs : List ByteArray} {m : Nat} (h : m < xs.length) : rdOf ByteArray.empty xs (m : Int) = xs[m] := by
 unfold rdOf
 rw [Int.toNat_natCast, List.getD_eq_getElem?_getD, List.getElem?_eq_getElem h]
 rfl
theorem eqStringS_ev (xs : List ByteArray) (hx : xs.length ≤ 1048576) : Ev (fun k => laws_eqStringS.f k xs xs) true := by
 unfold laws_eqStringS.f
 simp only [if_true]
 have gen := ev_list xs (fun m k => laws_eqStringS.l0 k xs xs (m : Int)) (fun _ => true) ?_ ?_ 0 (by omega)
 ·exact gen
 ·refine Ev.step (fun k => by rw [laws_eqStringS.l0]) ?_
  simp only [if_neg (show ¬ (xs.length : Int) < (xs.length : Int) by omega)]
  exact Ev.now _
 ·intro m hm ih
  refine Ev.step (fun k => by rw [laws_eqStringS.l0]) ?_
  simp only [if_pos (show (m : Int) < (xs.length : Int) by omega), if_pos (show 0 ≤ (m : Int) by omega), if_true, w_succ (m := m) (by omega)]
  exact ih
end Go.Proofs.YtcnbhfefhmmgjaaDoor.Com
namespace Go.Proofs.YtcnbhfefhmmgjaaDoor.Com
set_option linter.unusedSimpArgs false
set_option linter.unusedVariables false
open Go.RowKit Go.Proofs.YtcnbhfefhmmgjaaDoorW.PrintWords Go.Proofs.YtcnbhfefhmmgjaaDoorW.PrintMore Go.Proofs.YtcnbhfefhmmgjaaDoor.Q
def bytesOf (s : List Int) : List UInt8 := s.map fun n => UInt8.ofNat n.toNat
theorem str_bytes (s : List Int) : strOfNums s = ⟨(bytesOf s).toArray⟩ := by
 apply ByteArray.ext
 simp [strOfNums, bytesOf]
theorem str_app (a b : List Int) : strOfNums a ++ strOfNums b = strOfNums (a ++ b) := by
 apply ByteArray.ext
 simp [strOfNums, ByteArray.data_append]
def digs (n : Nat) : List Int := if h : n < 10 then [48 + (n : Int)] else digs (n / 10) ++ [48 + ((n % 10 : Nat) : Int)]
termination_by n
decreasing_by omega
theorem digs_lt {n : Nat} (h : n < 10) : digs n = [48 + (n : Int)] := by rw [digs, dif_pos h]
theorem digs_ge {n : Nat} (h : ¬ n < 10) : digs n = digs (n / 10) ++ [48 + ((n % 10 : Nat) : Int)] := by rw [digs, dif_neg h]
theorem digs_bytes (n : Nat) : Go.Lib.decDigits n = bytesOf (digs n) := by
 induction n using Nat.strongRecOn with
 | _ n ih =>
  rw [Go.Lib.decDigits]
  by_cases q : n < 10
  ·rw [dif_pos q, digs_lt q]
   show [UInt8.ofNat (48 + n)] = [UInt8.ofNat (48 + (n : Int)).toNat]
   rw [show (48 + (n : Int)).toNat = 48 + n by omega]
  ·rw [dif_neg q, digs_ge q, ih (n / 10) (by omega)]
   unfold bytesOf
   rw [List.map_append]
   show _ ++ [UInt8.ofNat (48 + n % 10)] = _ ++ [UInt8.ofNat (48 + ((n % 10 : Nat) : Int)).toNat]
   rw [show (48 + ((n % 10 : Nat) : Int)).toNat = 48 + n % 10 by omega]
theorem specDec_key (d : Nat) : ∀ (n : Nat) (s : List Int) (a : Int), n < 10 ^ (d + 1) → d ≤ 17 → s.length + d ≤ 1000 → 0 ≤ a → Ev (fun k => spec_l01Dec.l0 k a (strOfNums s) (n : Int)) (strOfNums (digs n ++ s)) := by
 induction d with
 | zero =>
  intro n s a h hd hs ha
  have q : n < 10 := by simpa using h
  refine Ev.step (fun k => by rw [spec_l01Dec.l0]) ?_
  rw [tmod_nn (by omega), tdiv_nn (by omega), show (n : Int) % 10 = (n : Int) by omega, show (n : Int) / 10 = 0 by omega, digs_lt q]
  rw [w64 (x := 48 + (n : Int)) (by omega) (by omega), w64 (x := 0) (by omega) (by omega), show (48 + (n : Int)) % 256 = 48 + (n : Int) by omega]
  simp only [if_neg (show ¬ (n : Int) < 0 by omega), Option.bind_some, strOfNums_size, List.length_singleton, if_pos (show 1 + s.length ≤ 9223372036854775807 by omega), if_true, if_neg (show ¬ a < 0 by omega), str_app]
  exact Ev.now _
 | succ d ih =>
  intro n s a h hd hs ha
  refine Ev.step (fun k => by rw [spec_l01Dec.l0]) ?_
  rw [tmod_nn (by omega), tdiv_nn (by omega)]
  have hb : n < 10 ^ 19 := Nat.lt_of_lt_of_le h (Nat.pow_le_pow_right (by omega) (by omega))
  rw [w64 (x := 48 + (n : Int) % 10) (by omega) (by omega), w64 (x := (n : Int) / 10) (by omega) (by omega), show (48 + (n : Int) % 10) % 256 = 48 + (n : Int) % 10 by omega]
  simp only [if_neg (show ¬ (n : Int) % 10 < 0 by omega), Option.bind_some, strOfNums_size, List.length_singleton, if_pos (show 1 + s.length ≤ 9223372036854775807 by omega), if_neg (show ¬ a < 0 by omega), str_app]
  by_cases q : n < 10
  ·simp only [if_pos (show (n : Int) / 10 = 0 by omega)]
   rw [digs_lt q, show (n : Int) % 10 = (n : Int) by omega]
   exact Ev.now _
  ·simp only [if_neg (show ¬ (n : Int) / 10 = 0 by omega)]
   rw [digs_ge q, List.append_assoc]
   have := ih (n / 10) ([48 + ((n % 10 : Nat) : Int)] ++ s) a (by rw [Nat.pow_succ] at h; omega) (by omega) (by rw [List.length_append]; simp; omega) ha
   rw [show ((n / 10 : Nat) : Int) = (n : Int) / 10 by omega, show ((n % 10 : Nat) : Int) = (n : Int) % 10 by omega] at this
   rw [show ((n % 10 : Nat) : Int) = (n : Int) % 10 by omega]
   exact this
theorem specDec_ev (n : Nat) (h : n < 1000000000000000000) : Ev (fun k => spec_l01Dec.f k (n : Int)) (strOfNums (digs n)) := by
 have h18 : n < 10 ^ (17 + 1) := h
 have := specDec_key 17 n [] (n : Int) h18 (by omega) (by simp) (by omega)
 rw [List.append_nil] at this
 exact this
end Go.Proofs.YtcnbhfefhmmgjaaDoor.Com
namespace Go.Proofs.YtcnbhfefhmmgjaaDoor.Com
set_option linter.unusedSimpArgs false
set_option linter.unusedVariables false
set_option linter.unusedSectionVars false
open Go.RowKit Go.Proofs.YtcnbhfefhmmgjaaDoorW.PrintWords Go.Proofs.YtcnbhfefhmmgjaaDoorW.PrintMore Go.Proofs.YtcnbhfefhmmgjaaDoor.Q
theorem bt_nat (s : ByteArray) (m : Nat) (h : m < s.data.toList.length) : bt s (m : Int) = ((s.data.toList[m]).toNat : Int) := by
 have h' : m < s.size := by simpa using h
 unfold bt
 rw [dif_pos (by rw [Int.toNat_natCast]; exact h')]
 simp [ByteArray.getElem_eq_getElem_data]
def chk (line : ByteArray) : List Nat → Int → Int
 | [], c => c
 | m :: r, c => chk line r (Int.tmod (263 * c + bt line (m : Int) + 7) 65521)
theorem chk_bd (line : ByteArray) (l : List Nat) : ∀ c, 0 ≤ c ∧ c < 65521 → 0 ≤ chk line l c ∧ chk line l c < 65521 := by
 induction l with
 | nil => intro c h; exact h
 | cons m r ih =>
  intro c h
  have hb := bt_range line (m : Int)
  unfold chk
  refine ih _ ?_
  rw [tmod_nn (by omega)]
  omega
def chkOf (line : ByteArray) (c : Int) : Int := chk line (List.range line.size) c
theorem chkOf_bd {line : ByteArray} {c : Int} (h : 0 ≤ c ∧ c < 65521) : 0 ≤ chkOf line c ∧ chkOf line c < 65521 := chk_bd _ _ _ h
theorem specCheck_ev (line : ByteArray) (c : Int) (hc : 0 ≤ c ∧ c < 65521) (hs : line.size ≤ 1048576) : Ev (fun k => spec_l01Check.f k c line) (chkOf line c) := by
 unfold spec_l01Check.f chkOf
 refine ev_fold (List.range line.size) (fun m (s : Int) k => spec_l01Check.l0 k s line (m : Int)) (fun d s => chk line d s) (fun m s => 0 ≤ s ∧ s < 65521) ?_ ?_ 0 c (by omega) hc
 ·intro s _
  refine Ev.step (fun k => by rw [spec_l01Check.l0]) ?_
  simp only [List.length_range, if_neg (show ¬ (line.size : Int) < (line.size : Int) by omega), chk]
  exact Ev.now _
 ·intro m hm s hs' ih
  have hm' : m < line.size := by simpa using hm
  have hb := bt_range line (m : Int)
  refine Ev.step (fun k => by rw [spec_l01Check.l0]) ?_
  rw [List.getElem_range]
  simp only [if_pos (show (m : Int) < (line.size : Int) by omega), if_pos (show 0 ≤ (m : Int) by omega), w_succ (m := m) (by omega)]
  rw [w64 (x := 263 * s) (by omega) (by omega), w64 (x := bt line (m : Int)) (by omega) (by omega), w64 (x := 263 * s + bt line (m : Int)) (by omega) (by omega), w64 (x := 263 * s + bt line (m : Int) + 7) (by omega) (by omega)]
  refine ih _ ?_
  rw [tmod_nn (by omega)]
  omega
theorem implCheck_ev (line : ByteArray) (c : Int) (hc : 0 ≤ c ∧ c < 65521) (hs : line.size ≤ 1048576) : Ev (fun k => impl_checkOf.f k c line) (chkOf line c) := by
 unfold impl_checkOf.f chkOf
 refine ev_fold (List.range line.size) (fun m (s : Int) k => impl_checkOf.l0 k s line (line.size : Int) (m : Int)) (fun d s => chk line d s) (fun m s => 0 ≤ s ∧ s < 65521) ?_ ?_ 0 c (by omega) hc
 ·intro s _
  refine Ev.step (fun k => by rw [impl_checkOf.l0]) ?_
  simp only [List.length_range, if_neg (show ¬ (line.size : Int) < (line.size : Int) by omega), chk]
  exact Ev.now _
 ·intro m hm s hs' ih
  have hm' : m < line.size := by simpa using hm
  have hb := bt_range line (m : Int)
  refine Ev.step (fun k => by rw [impl_checkOf.l0]) ?_
  rw [List.getElem_range]
  simp only [if_pos (show (m : Int) < (line.size : Int) by omega), if_pos (show 0 ≤ (m : Int) by omega), w_succ (m := m) (by omega)]
  rw [w64 (x := 263 * s) (by omega) (by omega), w64 (x := bt line (m : Int)) (by omega) (by omega), w64 (x := 263 * s + bt line (m : Int)) (by omega) (by omega), w64 (x := 263 * s + bt line (m : Int) + 7) (by omega) (by omega)]
  refine ih _ ?_
  rw [tmod_nn (by omega)]
  omega
end Go.Proofs.YtcnbhfefhmmgjaaDoor.Com
namespace Go.Proofs.YtcnbhfefhmmgjaaDoor.Com
set_option linter.unusedSimpArgs false
set_option linter.unusedVariables false
set_option linter.unusedSectionVars false
open Go.RowKit Go.Proofs.YtcnbhfefhmmgjaaDoorW.PrintWords Go.Proofs.YtcnbhfefhmmgjaaDoorW.PrintMore Go.Proofs.YtcnbhfefhmmgjaaDoor.Q Go.Proofs.YtcnbhfefhmmgjaaDoor.Box
def mk (l : List UInt8) : ByteArray := ⟨l.toArray⟩
theorem mk_data (l : List UInt8) : (mk l).data.toList = l := by simp [mk]
theorem mk_size (l : List UInt8) : (mk l).size = l.length := by show l.toArray.size = _; simp
theorem mk_ext {a : ByteArray} {l : List UInt8} (h : a.data.toList = l) : a = mk l := ByteArray.ext (Array.toList_inj.1 (by rw [h]; simp [mk]))
def splitL : List UInt8 → List (List UInt8) × List UInt8
 | [] => ([], [])
 | b :: r => if b = 10 then ([] :: (splitL r).1, (splitL r).2) else match splitL r with
  | ([], rem) => ([], b :: rem)
  | (l :: ls, rem) => ((b :: l) :: ls, rem)
theorem splitL_no : ∀ l : List UInt8, (∀ b ∈ l, b ≠ 10) → splitL l = ([], l)
 | [], _ => rfl
 | b :: r, h => by
  rw [splitL, if_neg (h b (by simp)), splitL_no r (fun x hx => h x (List.mem_cons_of_mem _ hx))]
theorem splitL_app : ∀ (u d : List UInt8), (∀ b ∈ u, b ≠ 10) → splitL (u ++ 10 :: d) = (u :: (splitL d).1, (splitL d).2)
 | [], d, _ => by simp [splitL]
 | b :: u, d, h => by
  rw [List.cons_append, splitL, if_neg (h b (by simp)), splitL_app u d (fun x hx => h x (List.mem_cons_of_mem _ hx))]
theorem splitL_lines : ∀ l : List UInt8, lines l = (splitL l).1.map (· ++ [10]) ++ (if (splitL l).2 = [] then [] else [(splitL l).2])
 | [] => by simp [lines, splitL]
 | b :: r => by
  have ih := splitL_lines r
  rw [lines, splitL]
  by_cases hb : b = 10
  ·rw [if_pos hb, if_pos hb, ih, hb]
   simp
  ·rw [if_neg hb, if_neg hb, ih]
   rcases hs : splitL r with ⟨_ | ⟨l, ls⟩, rem⟩
   ·by_cases hr : rem = []
    ·simp [hr]
    ·simp [hr]
   ·simp
theorem splitL_clean : ∀ l : List UInt8, (∀ x ∈ (splitL l).1, ∀ b ∈ x, b ≠ 10) ∧ ∀ b ∈ (splitL l).2, b ≠ 10
 | [] => by simp [splitL]
 | b :: r => by
  obtain ⟨i1, i2⟩ := splitL_clean r
  rw [splitL]
  by_cases hb : b = 10
  ·rw [if_pos hb]
   refine ⟨fun x hx => ?_, i2⟩
   rcases List.mem_cons.1 hx with rfl | hx
   ·simp
   ·exact i1 x hx
  ·rw [if_neg hb]
   rcases hs : splitL r with ⟨_ | ⟨l, ls⟩, rem⟩
   ·rw [hs] at i2
    refine ⟨by simp, fun y hy => ?_⟩
    rcases List.mem_cons.1 hy with rfl | hy
    ·exact hb
    ·exact i2 y hy
   ·rw [hs] at i1 i2
    refine ⟨fun x hx => ?_, i2⟩
    rcases List.mem_cons.1 hx with rfl | hx
    ·intro y hy
     rcases List.mem_cons.1 hy with rfl | hy
     ·exact hb
     ·exact i1 l (by simp) y hy
    ·exact i1 x (List.mem_cons_of_mem _ hx)
theorem splitL_count : ∀ l : List UInt8, (splitL l).1.length ≤ l.length
 | [] => by simp [splitL]
 | b :: r => by
  have ih := splitL_count r
  rw [splitL]
  by_cases hb : b = 10
  ·rw [if_pos hb]; simpa using ih
  ·rw [if_neg hb]
   rcases hs : splitL r with ⟨_ | ⟨l, ls⟩, rem⟩
   ·simp
   ·rw [hs] at ih; simp at ih ⊢; omega
theorem splitL_long : ∀ l : List UInt8, (∀ x ∈ (splitL l).1, x.length ≤ l.length) ∧ (splitL l).2.length ≤ l.length
 | [] => by simp [splitL]
 | b :: r => by
  obtain ⟨i1, i2⟩ := splitL_long r
  rw [splitL]
  by_cases hb : b = 10
  ·rw [if_pos hb]
   refine ⟨fun x hx => ?_, by simp; omega⟩
   rcases List.mem_cons.1 hx with rfl | hx
   ·simp
   ·have := i1 x hx; simp; omega
  ·rw [if_neg hb]
   rcases hs : splitL r with ⟨_ | ⟨l, ls⟩, rem⟩
   ·rw [hs] at i2
    exact ⟨by simp, by simpa using i2⟩
   ·rw [hs] at i1 i2
    refine ⟨fun x hx => ?_, by simp at i2 ⊢; omega⟩
    rcases List.mem_cons.1 hx with rfl | hx
    ·have := i1 l (by simp); simpa using this
    ·have := i1 x (List.mem_cons_of_mem _ hx); simp; omega
theorem ext_nat (s : ByteArray) (a b : Nat) : s.extract a b = mk ((s.data.toList.drop a).take (b - a)) := mk_ext (by rw [ByteArray.data_extract, Array.toList_extract, List.extract_eq_take_drop])
theorem linesOf_ev (s : ByteArray) (hs : s.size ≤ 4000) : Ev (fun k => spec_l11Lines.f k s) ((splitL s.data.toList).1.map mk, mk (splitL s.data.toList).2) := by
 have hl : s.data.toList.length = s.size := by simp
 unfold spec_l11Lines.f
 have gen := ev_fold s.data.toList (fun m (q : List ByteArray × Nat × List UInt8) k => spec_l11Lines.l0 k s q.1 (q.2.1 : Int) (m : Int)) (fun d q => (q.1 ++ (splitL (q.2.2 ++ d)).1.map mk, mk (splitL (q.2.2 ++ d)).2)) (fun m q => q.2.1 ≤ m ∧ q.1.length ≤ m ∧ q.2.2 = (s.data.toList.drop q.2.1).take (m - q.2.1) ∧ ∀ b ∈ q.2.2, b ≠ 10) ?_ ?_ 0 ([], 0, []) (by omega) (by simp)
 ·simpa using gen
 ·rintro ⟨out, a, u⟩ ⟨i1, i2, i3, i4⟩
  simp only at i1 i2 i3 i4
  refine Ev.step (fun k => by rw [spec_l11Lines.l0]) ?_
  simp only [hl, if_neg (show ¬ (s.size : Int) < (s.size : Int) by omega), if_pos (show 0 ≤ (a : Int) by omega), if_pos (show (a : Int) ≤ (s.size : Int) by omega), List.append_nil, splitL_no u i4, List.map_nil, Int.toNat_natCast]
  rw [ext_nat, show (List.drop a s.data.toList).take (s.size - a) = u by rw [i3, hl]]
  exact Ev.now _
 ·rintro m hm ⟨out, a, u⟩ ⟨i1, i2, i3, i4⟩ ih
  simp only at i1 i2 i3 i4 ih ⊢
  have hb := bt_nat s m hm
  refine Ev.step (fun k => by rw [spec_l11Lines.l0]) ?_
  have hu : (s.data.toList.drop a).take (m + 1 - a) = u ++ [s.data.toList[m]] := by
   rw [i3, show m + 1 - a = (m - a) + 1 by omega, List.take_succ_eq_append_getElem (by simp; omega), List.getElem_drop]
   congr 2
   congr 1
   omega
  simp only [if_pos (show (m : Int) < (s.size : Int) by omega), if_pos (show 0 ≤ (m : Int) by omega), w_succ (m := m) (by omega), hb]
  by_cases h10 : s.data.toList[m] = 10
  ·have e10 : ((s.data.toList[m]).toNat : Int) = 10 := by rw [h10]; rfl
   simp only [if_pos e10, if_pos (show 0 ≤ (a : Int) by omega), if_pos (show (a : Int) ≤ (m : Int) by omega), if_pos (show (m : Int) ≤ (s.size : Int) by omega), if_pos (show out.length < 8796093022208 by omega), Int.toNat_natCast]
   rw [ext_nat, ← i3, h10, splitL_app u _ i4]
   have := ih (out ++ [mk u], m + 1, []) ⟨by simp, by simp; omega, by simp, by simp⟩
   simpa using this
  ·have e10 : ¬ ((s.data.toList[m]).toNat : Int) = 10 := by
    intro h
    have h10' : (10 : UInt8).toNat = 10 := rfl
    exact h10 (UInt8.toNat_inj.1 (by omega))
   simp only [if_neg e10]
   have := ih (out, a, u ++ [s.data.toList[m]]) ⟨show a ≤ m + 1 by omega, show out.length ≤ m + 1 by omega, hu.symm, fun b hb => by rcases List.mem_append.1 hb with hb | hb; exact i4 b hb; rw [List.mem_singleton.1 hb]; exact h10⟩
   simpa using this
def spAt (l : List UInt8) : Nat := (l.takeWhile (· != 32)).length
theorem spAt_le (l : List UInt8) : spAt l ≤ l.length := (List.takeWhile_prefix _).length_le
theorem spAt_ne : ∀ (l : List UInt8) (m : Nat) (h : m < l.length), m < spAt l → l[m] ≠ 32
 | [], m, h, _ => by simp at h
 | b :: r, m, h, hm => by
  unfold spAt at hm
  rw [List.takeWhile_cons] at hm
  split at hm
  ·rename_i hb
   cases m with
   | zero => simpa using hb
   | succ m =>
    rw [List.getElem_cons_succ]
    exact spAt_ne r m (by simpa using h) (by unfold spAt; simpa using hm)
  ·simp at hm
theorem spAt_eq : ∀ (l : List UInt8) (h : spAt l < l.length), l[spAt l] = 32
 | [], h => by simp [spAt] at h
 | b :: r, h => by
  by_cases hb : (b != 32) = true
  ·have e : spAt (b :: r) = spAt r + 1 := by unfold spAt; rw [List.takeWhile_cons, if_pos hb]; simp
   simp only [e, List.getElem_cons_succ]
   exact spAt_eq r (by rw [e] at h; simpa using h)
  ·have e : spAt (b :: r) = 0 := by unfold spAt; rw [List.takeWhile_cons, if_neg hb]; rfl
   simp only [e, List.getElem_cons_zero]
   simpa using hb
theorem index_sp : ∀ l : List UInt8, Go.Lib.indexByte l 32 = if spAt l < l.length then (spAt l : Int) else -1
 | [] => by simp [Go.Lib.indexByte, spAt]
 | b :: r => by
  have ih := index_sp r
  have hle := spAt_le r
  unfold Go.Lib.indexByte
  by_cases hb : b = 32
  ·have e : spAt (b :: r) = 0 := by unfold spAt; rw [List.takeWhile_cons, if_neg (by simp [hb])]; rfl
   rw [if_pos (by simp [hb]), e]
   simp
  ·have e : spAt (b :: r) = spAt r + 1 := by unfold spAt; rw [List.takeWhile_cons, if_pos (by simp [hb])]; simp
   rw [if_neg (by simp [hb]), ih, e]
   by_cases q : spAt r < r.length
   ·rw [if_pos q, if_neg (by simp), if_pos (by simpa using q)]
    omega
   ·rw [if_neg q, if_pos (by simp), if_neg (by simpa using q)]
def stepR (ln : ByteArray) (c : Int) : Option (ByteArray × Int) :=
 if spAt ln.data.toList < ln.size then (if ln.extract 0 (spAt ln.data.toList) = mk (Go.Lib.itoa (chkOf (ln.extract (spAt ln.data.toList + 1) ln.size) c)) then some (ln.extract (spAt ln.data.toList + 1) ln.size, chkOf (ln.extract (spAt ln.data.toList + 1) ln.size) c) else none) else none
def recF : List ByteArray → List ByteArray → Int → Int → List ByteArray × Int
 | [], out, _, n => (out, n)
 | ln :: r, out, c, n => match stepR ln c with
  | none => (out, n)
  | some (tx, c') => recF r (out ++ [tx]) c' (n + (ln.size + 1))
theorem itoa_ev (c : Int) (h : 0 ≤ c ∧ c < 65521) : Ev (fun k => spec_l01Dec.f k c) (mk (Go.Lib.itoa c)) := by
 obtain ⟨n, hn⟩ := Int.eq_ofNat_of_zero_le h.1
 rw [hn]
 have := specDec_ev n (by omega)
 rw [str_bytes, ← digs_bytes] at this
 unfold Go.Lib.itoa
 rw [if_neg (by omega), Int.toNat_natCast]
 exact this
theorem toList_eq_iff (a b : ByteArray) : (a.toList = b.toList) = (a = b) := by
 rw [ByteArray.toList_eq, ByteArray.toList_eq]
 exact propext ⟨fun h => ByteArray.ext (Array.toList_inj.1 h), fun h => by rw [h]⟩
theorem ext_size_le (s : ByteArray) (a b : Nat) : (s.extract a b).size ≤ s.size := by rw [ByteArray.size_extract]; omega
theorem refRec_ev (ls : List ByteArray) (hl : ls.length ≤ 4000) (hr : ∀ x ∈ ls, x.size ≤ 4000) : Ev (fun k => spec_RecoverJournal.l0 k ls [] 0 0 0) ((recF ls [] 0 0).1, (recF ls [] 0 0).2, true) := by
 have gen := ev_fold ls (fun m (q : List ByteArray × Int × Int) k => spec_RecoverJournal.l0 k ls q.1 q.2.1 q.2.2 (m : Int)) (fun d q => ((recF d q.1 q.2.1 q.2.2).1, (recF d q.1 q.2.1 q.2.2).2, true)) (fun m q => q.1.length ≤ m ∧ (0 ≤ q.2.1 ∧ q.2.1 < 65521) ∧ (0 ≤ q.2.2 ∧ q.2.2 ≤ 5000 * m)) ?_ ?_ 0 ([], 0, 0) (by omega) (by simp)
 ·exact gen
 ·rintro ⟨out, c, n⟩ ⟨i1, i2, i3⟩
  refine Ev.step (fun k => by rw [spec_RecoverJournal.l0]) ?_
  simp only [if_neg (show ¬ (ls.length : Int) < (ls.length : Int) by omega), recF]
  exact Ev.now _
 ·rintro m hm ⟨out, c, n⟩ ⟨i1, i2, i3⟩ ih
  simp only at i1 i2 i3 ih ⊢
  have hx := hr _ (List.getElem_mem hm)
  have hrd := rds_nat hm
  obtain ⟨ln, hln⟩ : ∃ ln, ls[m] = ln := ⟨_, rfl⟩
  rw [hln] at hx hrd ⊢
  have hz : ln.data.toList.length = ln.size := by simp
  have hle := spAt_le ln.data.toList
  refine Ev.step (fun k => by rw [spec_RecoverJournal.l0]) ?_
  simp only [if_pos (show (m : Int) < (ls.length : Int) by omega)]
  have hj : Ev (fun k => spec_RecoverJournal.j2 k ls out c n (m : Int) (spAt ln.data.toList : Int)) ((recF (ln :: ls.drop (m + 1)) out c n).1, (recF (ln :: ls.drop (m + 1)) out c n).2, true) := by
   refine Ev.step (fun k => by rw [spec_RecoverJournal.j2]) ?_
   simp only [if_pos (show 0 ≤ (m : Int) by omega), if_pos (show (m : Int) < (ls.length : Int) by omega), hrd]
   rw [recF]
   by_cases hsp : spAt ln.data.toList < ln.size
   ·simp only [if_neg (show ¬ (spAt ln.data.toList : Int) = (ln.size : Int) by omega), w_succ (m := spAt ln.data.toList) (by omega), if_pos (show 0 ≤ ((spAt ln.data.toList + 1 : Nat) : Int) by omega), if_pos (show ((spAt ln.data.toList + 1 : Nat) : Int) ≤ (ln.size : Int) by omega), Int.toNat_natCast]
    have hsz := ext_size_le ln (spAt ln.data.toList + 1) ln.size
    refine Ev.bind (specCheck_ev _ c i2 (by omega)) ?_
    have hb := chkOf_bd (line := ln.extract (spAt ln.data.toList + 1) ln.size) i2
    simp only [if_pos (show 0 ≤ (spAt ln.data.toList : Int) by omega), if_pos (show (spAt ln.data.toList : Int) ≤ (ln.size : Int) by omega)]
    refine Ev.bind (itoa_ev _ hb) ?_
    simp only [toList_eq_iff]
    have hst : stepR ln c = if ln.extract 0 (spAt ln.data.toList) = mk (Go.Lib.itoa (chkOf (ln.extract (spAt ln.data.toList + 1) ln.size) c)) then some (ln.extract (spAt ln.data.toList + 1) ln.size, chkOf (ln.extract (spAt ln.data.toList + 1) ln.size) c) else none := by
     unfold stepR
     rw [if_pos hsp]
    rw [hst]
    by_cases he : ln.extract 0 (spAt ln.data.toList) = mk (Go.Lib.itoa (chkOf (ln.extract (spAt ln.data.toList + 1) ln.size) c))
    ·simp only [if_pos he, if_pos (show out.length < 8796093022208 by omega), w_succ (m := m) (by omega)]
     rw [w64 (x := (ln.size : Int) + 1) (by omega) (by omega), w64 (x := n + ((ln.size : Int) + 1)) (by omega) (by omega)]
     exact ih (out ++ [ln.extract (spAt ln.data.toList + 1) ln.size], chkOf (ln.extract (spAt ln.data.toList + 1) ln.size) c, n + ((ln.size : Int) + 1)) ⟨by simp; omega, hb, by simp only; omega⟩
    ·simp only [if_neg he]
     exact Ev.now _
   ·simp only [if_pos (show (spAt ln.data.toList : Int) = (ln.size : Int) by omega)]
    have hst : stepR ln c = none := by unfold stepR; rw [if_neg hsp]
    rw [hst]
    exact Ev.now _
  have inner := ev_fold ln.data.toList (fun j (_ : Unit) k => spec_RecoverJournal.l1 k ls out c n (m : Int) (j : Int)) (fun _ _ => ((recF (ln :: ls.drop (m + 1)) out c n).1, (recF (ln :: ls.drop (m + 1)) out c n).2, true)) (fun j _ => j ≤ spAt ln.data.toList) ?_ ?_ 0 () (by omega) (by omega)
  ·exact inner
  ·intro _ hj'
   refine Ev.step (fun k => by rw [spec_RecoverJournal.l1]) ?_
   simp only [if_pos (show 0 ≤ (m : Int) by omega), if_pos (show (m : Int) < (ls.length : Int) by omega), hrd, hz, if_neg (show ¬ (ln.size : Int) < (ln.size : Int) by omega)]
   rw [hz] at hle hj'
   have : spAt ln.data.toList = ln.size := by omega
   rw [this] at hj
   exact hj
  ·intro j hjl _ hj' ih2
   refine Ev.step (fun k => by rw [spec_RecoverJournal.l1]) ?_
   simp only [if_pos (show 0 ≤ (m : Int) by omega), if_pos (show (m : Int) < (ls.length : Int) by omega), hrd, if_pos (show (j : Int) < (ln.size : Int) by omega), if_pos (show 0 ≤ (j : Int) by omega), bt_nat ln j hjl, w_succ (m := j) (by omega)]
   have h32 : (32 : UInt8).toNat = 32 := rfl
   by_cases hlt : j < spAt ln.data.toList
   ·have hne := spAt_ne _ j hjl hlt
    have : ¬ ((ln.data.toList[j]).toNat : Int) = 32 := fun h => hne (UInt8.toNat_inj.1 (by omega))
    simp only [if_neg this]
    exact ih2 () (by omega)
   ·have ej : j = spAt ln.data.toList := by omega
    have heq := spAt_eq ln.data.toList (by omega)
    have : ((ln.data.toList[j]).toNat : Int) = 32 := by
     simp only [ej, heq]
     rfl
    simp only [if_pos this]
    rw [ej]
    exact hj
theorem bcut_sp (ln : ByteArray) : bcut ln 32 = if spAt ln.data.toList < ln.size then (ln.extract 0 (spAt ln.data.toList), ln.extract (spAt ln.data.toList + 1) ln.size, true) else (ln, ⟨#[]⟩, false) := by
 have hz : ln.data.toList.length = ln.size := by simp
 unfold bcut
 rw [index_sp, hz]
 by_cases h : spAt ln.data.toList < ln.size
 ·simp [h]
 ·simp [h]
theorem trimNl_line (l : List UInt8) : trimNl (mk (l ++ [10])) = mk l := by
 unfold trimNl Go.Lib.trimSuffix Go.Lib.hasSuffix
 rw [mk_data]
 have h : ([10] : List UInt8).isSuffixOf (l ++ [10]) = true := by simp
 rw [if_pos h]
 simp [mk]
theorem endsNl_line (l : List UInt8) : endsNl (mk (l ++ [10])) = true := by
 unfold endsNl Go.Lib.hasSuffix
 rw [mk_data]
 simp
theorem endsNl_rem (l : List UInt8) (h : ∀ b ∈ l, b ≠ 10) : endsNl (mk l) = false := by
 unfold endsNl Go.Lib.hasSuffix
 rw [mk_data]
 cases e : ([10] : List UInt8).isSuffixOf l with
 | false => rfl
 | true =>
  have h1 : ([10] : List UInt8) <:+ l := List.isSuffixOf_iff_suffix.1 e
  exact absurd rfl (h 10 (h1.subset (by simp)))
theorem progGo_ev (rem : List UInt8) (hrem : ∀ b ∈ rem, b ≠ 10) (hrl : rem.length ≤ 4000) : ∀ (ls : List (List UInt8)) (out : List ByteArray) (c n : Int), (∀ x ∈ ls, x.length ≤ 4000) → (0 ≤ c ∧ c < 65521) → 0 ≤ n → n + 5000 * ls.length ≤ 100000000 →
  Ev (fun k => impl_RecoverJournal.go k (ls.map (fun l => mk (l ++ [10])) ++ (if rem = [] then [] else [mk rem])) out c n) (recF (ls.map mk) out c n)
 | [], out, c, n, _, hc, _, _ => by
  rw [List.map_nil, List.map_nil, List.nil_append, recF]
  by_cases hr : rem = []
  ·rw [if_pos hr]
   simp only [impl_RecoverJournal.go]
   exact Ev.now _
  ·rw [if_neg hr]
   simp only [impl_RecoverJournal.go]
   have hsz : (bcut (trimNl (mk rem)) 32).2.1.size ≤ 1048576 := by
    have h1 := trimNl_size (mk rem)
    rw [mk_size] at h1
    rw [bcut_sp]
    split
    ·have := ext_size_le (trimNl (mk rem)) (spAt (trimNl (mk rem)).data.toList + 1) (trimNl (mk rem)).size
     simp only
     omega
    ·exact Nat.zero_le _
   refine Ev.bind (implCheck_ev _ c hc hsz) ?_
   have hb := chkOf_bd (line := (bcut (trimNl (mk rem)) 32).2.1) hc
   simp only [if_pos (show -9223372036854775808 ≤ chkOf (bcut (trimNl (mk rem)) 32).2.1 c ∧ chkOf (bcut (trimNl (mk rem)) 32).2.1 c ≤ 9223372036854775807 from ⟨by omega, by omega⟩), endsNl_rem rem hrem, Bool.false_eq_true, false_and, and_false, if_false]
   exact Ev.now _
 | l :: ls, out, c, n, hl, hc, hn, hbd => by
  have hll := hl l (by simp)
  simp only [List.map_cons, List.cons_append, impl_RecoverJournal.go, trimNl_line, endsNl_line]
  rw [recF]
  simp only [List.length_cons] at hbd
  have hsz := mk_size l
  have hz1 : (mk (l ++ [10])).size = l.length + 1 := by rw [mk_size]; simp
  have hext := ext_size_le (mk l) (spAt (mk l).data.toList + 1) (mk l).size
  have hcs := bcut_sp (mk l)
  by_cases hsp : spAt (mk l).data.toList < (mk l).size
  ·rw [if_pos hsp] at hcs
   simp only [hcs]
   refine Ev.bind (implCheck_ev _ c hc (by omega)) ?_
   have hb := chkOf_bd (line := (mk l).extract (spAt (mk l).data.toList + 1) (mk l).size) hc
   have hst : stepR (mk l) c = if (mk l).extract 0 (spAt (mk l).data.toList) = mk (Go.Lib.itoa (chkOf ((mk l).extract (spAt (mk l).data.toList + 1) (mk l).size) c)) then some ((mk l).extract (spAt (mk l).data.toList + 1) (mk l).size, chkOf ((mk l).extract (spAt (mk l).data.toList + 1) (mk l).size) c) else none := by
    unfold stepR
    rw [if_pos hsp]
   rw [hst]
   simp only [if_pos (show -9223372036854775808 ≤ chkOf ((mk l).extract (spAt (mk l).data.toList + 1) (mk l).size) c ∧ chkOf ((mk l).extract (spAt (mk l).data.toList + 1) (mk l).size) c ≤ 9223372036854775807 from ⟨by omega, by omega⟩), true_and]
   change Ev (fun k => if (mk l).extract 0 (spAt (mk l).data.toList) = mk (Go.Lib.itoa (chkOf ((mk l).extract (spAt (mk l).data.toList + 1) (mk l).size) c)) then _ else _) _
   by_cases he : (mk l).extract 0 (spAt (mk l).data.toList) = mk (Go.Lib.itoa (chkOf ((mk l).extract (spAt (mk l).data.toList + 1) (mk l).size) c))
   ·simp only [if_pos he]
    rw [w64 (x := n + ((mk (l ++ [10])).size : Int)) (by omega) (by omega), show n + ((mk (l ++ [10])).size : Int) = n + ((mk l).size + 1) by omega]
    exact progGo_ev rem hrem hrl ls _ _ _ (fun x hx => hl x (List.mem_cons_of_mem _ hx)) hb (by omega) (by omega)
   ·simp only [if_neg he]
    exact Ev.now _
  ·rw [if_neg hsp] at hcs
   simp only [hcs]
   refine Ev.bind (implCheck_ev _ c hc (Nat.zero_le _)) ?_
   have hb := chkOf_bd (line := (⟨#[]⟩ : ByteArray)) hc
   have hst : stepR (mk l) c = none := by unfold stepR; rw [if_neg hsp]
   rw [hst]
   simp only [if_pos (show -9223372036854775808 ≤ chkOf (⟨#[]⟩ : ByteArray) c ∧ chkOf (⟨#[]⟩ : ByteArray) c ≤ 9223372036854775807 from ⟨by omega, by omega⟩), Bool.false_eq_true, false_and, if_false]
   exact Ev.now _
theorem recF_len : ∀ (ls out : List ByteArray) (c n : Int), (recF ls out c n).1.length ≤ out.length + ls.length
 | [], out, c, n => by simp [recF]
 | ln :: r, out, c, n => by
  rw [recF]
  split
  ·simp
  ·rename_i tx c' _
   have := recF_len r (out ++ [tx]) c' (n + (ln.size + 1))
   simp at this ⊢
   omega
theorem recov_both (s : ByteArray) : ∃ r, Ev (fun k => spec_RecoverJournal.f k s) r ∧ Ev (fun k => impl_RecoverJournal.f k s) r ∧ r.1.length ≤ 4000 := by
 unfold spec_RecoverJournal.f impl_RecoverJournal.f
 by_cases hs : (s.size : Int) > 4000
 ·simp only [if_pos hs]
  exact ⟨_, Ev.now _, Ev.now _, by simp⟩
 ·simp only [if_neg hs]
  have hs' : s.size ≤ 4000 := by omega
  have hz : s.data.toList.length = s.size := by simp
  have hc := splitL_clean s.data.toList
  have hn := splitL_count s.data.toList
  have hg := splitL_long s.data.toList
  have hbl : blines s = (splitL s.data.toList).1.map (fun l => mk (l ++ [10])) ++ (if (splitL s.data.toList).2 = [] then [] else [mk (splitL s.data.toList).2]) := by
   unfold blines
   rw [splitL_lines, List.map_append, List.map_map]
   congr 1
   split <;> rfl
  have h1 := refRec_ev ((splitL s.data.toList).1.map mk) (by simp; omega) (fun x hx => by obtain ⟨l, hl, rfl⟩ := List.mem_map.1 hx; have := hg.1 l hl; rw [mk_size]; omega)
  have h2 := progGo_ev (splitL s.data.toList).2 hc.2 (by have := hg.2; omega) (splitL s.data.toList).1 [] 0 0 (fun x hx => by have := hg.1 x hx; omega) (by omega) (by omega) (by omega)
  rw [← hbl] at h2
  refine ⟨_, Ev.bind (linesOf_ev s hs') h1, Ev.bind h2 (Ev.now _), ?_⟩
  have := recF_len ((splitL s.data.toList).1.map mk) [] 0 0
  simp at this ⊢
  omega
end Go.Proofs.YtcnbhfefhmmgjaaDoor.Com
namespace Go.Proofs.YtcnbhfefhmmgjaaDoor.Com
set_option linter.unusedSimpArgs false
set_option linter.unusedVariables false
open Go.RowKit Go.Proofs.YtcnbhfefhmmgjaaDoorW.PrintWords Go.Proofs.YtcnbhfefhmmgjaaDoorW.PrintMore Go.Proofs.YtcnbhfefhmmgjaaDoor.Q
def mtext (n : Nat) : ByteArray := (⟨#[109]⟩ : ByteArray) ++ strOfNums (digs n)
theorem mtext_key (d : Nat) : ∀ (n : Nat) (s : List Int), 0 < n → n < 10 ^ (d + 1) → d ≤ 17 → s.length + d ≤ 1000 → Ev (fun k => laws_markText.l0 k (n : Int) (strOfNums s)) ((⟨#[109]⟩ : ByteArray) ++ strOfNums (digs n ++ s)) := by
 have fin : ∀ s : List Int, s.length ≤ 2000 → Ev (fun k => laws_markText.l0 k 0 (strOfNums s)) ((⟨#[109]⟩ : ByteArray) ++ strOfNums s) := by
  intro s hs
  refine Ev.step (fun k => by rw [laws_markText.l0]) ?_
  simp only [if_neg (show ¬ (0 : Int) > 0 by omega), strOfNums_size, if_pos (show 1 + s.length ≤ 9223372036854775807 by omega)]
  exact Ev.now _
 induction d with
 | zero =>
  intro n s h0 h hd hs
  have q : n < 10 := by simpa using h
  refine Ev.step (fun k => by rw [laws_markText.l0]) ?_
  rw [tmod_nn (by omega), tdiv_nn (by omega), show (n : Int) % 10 = (n : Int) by omega, show (n : Int) / 10 = 0 by omega, digs_lt q]
  rw [w64 (x := 48 + (n : Int)) (by omega) (by omega), w64 (x := 0) (by omega) (by omega), show (48 + (n : Int)) % 256 = 48 + (n : Int) by omega]
  simp only [if_pos (show (n : Int) > 0 by omega), Option.bind_some, strOfNums_size, List.length_singleton, if_pos (show 1 + s.length ≤ 9223372036854775807 by omega), str_app]
  exact fin _ (by simp; omega)
 | succ d ih =>
  intro n s h0 h hd hs
  refine Ev.step (fun k => by rw [laws_markText.l0]) ?_
  rw [tmod_nn (by omega), tdiv_nn (by omega)]
  have hb : n < 10 ^ 19 := Nat.lt_of_lt_of_le h (Nat.pow_le_pow_right (by omega) (by omega))
  rw [w64 (x := 48 + (n : Int) % 10) (by omega) (by omega), w64 (x := (n : Int) / 10) (by omega) (by omega), show (48 + (n : Int) % 10) % 256 = 48 + (n : Int) % 10 by omega]
  simp only [if_pos (show (n : Int) > 0 by omega), Option.bind_some, strOfNums_size, List.length_singleton, if_pos (show 1 + s.length ≤ 9223372036854775807 by omega), str_app]
  by_cases q : n < 10
  ·rw [digs_lt q, show (n : Int) % 10 = (n : Int) by omega, show (n : Int) / 10 = 0 by omega]
   exact fin _ (by simp; omega)
  ·rw [digs_ge q, List.append_assoc]
   have := ih (n / 10) ([48 + ((n % 10 : Nat) : Int)] ++ s) (by omega) (by rw [Nat.pow_succ] at h; omega) (by omega) (by rw [List.length_append]; simp; omega)
   rw [show ((n / 10 : Nat) : Int) = (n : Int) / 10 by omega, show ((n % 10 : Nat) : Int) = (n : Int) % 10 by omega] at this
   rw [show ((n % 10 : Nat) : Int) = (n : Int) % 10 by omega]
   exact this
theorem markText_ev (n : Nat) (h0 : 0 < n) (h : n < 1000000000000000000) : Ev (fun k => laws_markText.f k (n : Int)) (mtext n) := by
 unfold laws_markText.f
 simp only [if_neg (show ¬ (n : Int) ≤ 0 by omega)]
 have := mtext_key 17 n [] h0 (by simpa using h) (by omega) (by simp)
 rw [List.append_nil] at this
 exact this
def marked (n : Nat) : Nat → List ByteArray
 | 0 => []
 | m + 1 => mtext n :: marked (n + 1) m
theorem marked_len : ∀ (m n : Nat), (marked n m).length = m
 | 0, n => rfl
 | m + 1, n => by rw [marked, List.length_cons, marked_len m (n + 1)]
theorem marked_get : ∀ (m n i : Nat) (h : i < (marked n m).length), (marked n m)[i] = mtext (n + i)
 | 0, n, i, h => by simp [marked] at h
 | m + 1, n, 0, h => rfl
 | m + 1, n, i + 1, h => by
  have := marked_get m (n + 1) i (by rw [marked_len] at h ⊢; omega)
  simp only [marked, List.getElem_cons_succ, this]
  congr 1
  omega
theorem markStringS_ev (l : List ByteArray) (hl : l.length ≤ 1048576) : Ev (fun k => laws_markStringS.f k l 1) (1 + (l.length : Int), marked 1 l.length) := by
 unfold laws_markStringS.f
 have gen := ev_count l.length (fun m (s : List ByteArray) k => laws_markStringS.l0 k s ((1 + m : Nat) : Int) (m : Int)) (1 + (l.length : Int), marked 1 l.length) (fun m s => s.length = l.length ∧ s.take m = (marked 1 l.length).take m) ?_ ?_ 0 l (by omega) (by simp)
 ·exact gen
 ·rintro s ⟨h1, h2⟩
  refine Ev.step (fun k => by rw [laws_markStringS.l0]) ?_
  have e : s = marked 1 l.length := by
   rw [List.take_of_length_le (by omega), List.take_of_length_le (by rw [marked_len]; omega)] at h2
   exact h2
  simp only [e, marked_len, if_neg (show ¬ (l.length : Int) < (l.length : Int) by omega), show ((1 + l.length : Nat) : Int) = 1 + (l.length : Int) by omega]
  exact Ev.now _
 ·rintro m s hm ⟨h1, h2⟩
  refine ⟨s.set m (mtext (1 + m)), ⟨by simpa using h1, ?_⟩, fun ih => ?_⟩
  ·have hml : m < (marked 1 l.length).length := by rw [marked_len]; exact hm
   have hms : m < (s.set m (mtext (1 + m))).length := by simpa using (show m < s.length by omega)
   rw [List.take_succ_eq_append_getElem hms, List.take_succ_eq_append_getElem hml, marked_get, List.getElem_set_self, List.take_set_of_le (Nat.le_refl m), h2]
  ·refine Ev.step (fun k => by rw [laws_markStringS.l0]) ?_
   simp only [h1, if_pos (show (m : Int) < (l.length : Int) by omega), if_pos (show 0 ≤ (m : Int) by omega), w_succ (m := m) (by omega), w_succ (m := 1 + m) (by omega), Int.toNat_natCast]
   exact Ev.bind (markText_ev (1 + m) (by omega) (by omega)) ih
theorem heldStringS_ev (m0 : Nat) (hl : m0 ≤ 1048576) : Ev (fun k => laws_heldStringS.f k (marked 1 m0) 1) (1 + (m0 : Int)) := by
 unfold laws_heldStringS.f
 have hm0 := marked_len m0 1
 have gen := ev_list (marked 1 m0) (fun m k => laws_heldStringS.l0 k (marked 1 m0) ((1 + m : Nat) : Int) (m : Int)) (fun _ => 1 + (m0 : Int)) ?_ ?_ 0 (by omega)
 ·exact gen
 ·refine Ev.step (fun k => by rw [laws_heldStringS.l0]) ?_
  simp only [hm0, if_neg (show ¬ (m0 : Int) < (m0 : Int) by omega), show ((1 + m0 : Nat) : Int) = 1 + (m0 : Int) by omega]
  exact Ev.now _
 ·intro m hm ih
  refine Ev.step (fun k => by rw [laws_heldStringS.l0]) ?_
  simp only [if_pos (show (m : Int) < ((marked 1 m0).length : Int) by omega), if_pos (show 0 ≤ (m : Int) by omega), w_succ (m := m) (by omega), w_succ (m := 1 + m) (by omega), rds_nat hm, marked_get]
  refine Ev.bind (markText_ev (1 + m) (by omega) (by omega)) ?_
  simp only [if_true]
  exact ih
end Go.Proofs.YtcnbhfefhmmgjaaDoor.Com
namespace Go.Proofs.YtcnbhfefhmmgjaaDoor.Pure
set_option linter.unusedSimpArgs false
set_option linter.unusedVariables false
open Go.RowKit Go.Proofs.YtcnbhfefhmmgjaaDoor.Q Go.Proofs.YtcnbhfefhmmgjaaDoorW.PrintWords Go.Proofs.YtcnbhfefhmmgjaaDoorW.PrintLast Go.Proofs.YtcnbhfefhmmgjaaDoor.Com
theorem FnExactRecoverJournal : laws_FnExactRecoverJournal.Pure := by
 intro a ha
 apply ev_of
 unfold laws_FnExactRecoverJournal.f
 by_cases hz : (a.size : Int) > 1048576
 ·simp only [if_pos hz]
  exact Ev.now _
 ·simp only [if_neg hz]
  obtain ⟨⟨g, n, b⟩, E1, E2, g1⟩ := recov_both a
  simp only at g1
  refine Ev.bind E1 (Ev.bind E2 (Ev.bind (eqStringS_ev g (by omega)) ?_))
  simp only [if_true, bne_self_eq_false]
  refine Ev.step (fun k => by rw [laws_FnExactRecoverJournal.j0]) ?_
  simp only [Bool.false_eq_true, if_false]
  refine Ev.bind (markStringS_ev g (by omega)) (Ev.bind (heldStringS_ev g.length (by omega)) ?_)
  simp only [if_neg (show ¬ 1 + (g.length : Int) < 0 by omega), if_true]
  refine Ev.bind E2 (Ev.bind (eqStringS_ev g (by omega)) ?_)
  simp only [if_true, bne_self_eq_false]
  refine Ev.step (fun k => by rw [laws_FnExactRecoverJournal.j1]) ?_
  simp only [Bool.false_eq_true, if_false]
  refine Ev.bind (heldStringS_ev g.length (by omega)) ?_
  simp only [if_neg (show ¬ 1 + (g.length : Int) < 0 by omega), if_true]
  exact Ev.now _
end Go.Proofs.YtcnbhfefhmmgjaaDoor.Pure
