/- The statement FnExactIsReachable, with all that its proof stands on: functions of the program as plain functions, the program's walks, and the plain law. Conditions: none beyond the statement's own. -/
import Derived.ArgAppend
import Derived.Below
import Derived.BigQuiet
import Derived.BigRegion
import Derived.Deep.AppendLies
import Derived.Deep.CutBlock
import Derived.Deep.DeepCutAuto
import Derived.Deep.Draws
import Derived.Deep.LoopGhost
import Derived.Deep.OwnRows
import Derived.Deep.QuietTactic
import Derived.Deep.RegionHeld3
import Derived.Deep.RegionLaw
import Derived.Ground.SlgnProg
import Derived.Ground.SlsfProg
import Derived.KernelRfl
import Derived.Laws.BitsLemmas
import Derived.Laws.BytesArg
import Derived.Laws.IdiomCopy
import Derived.Laws.MakeOwn
import Derived.Laws.OwnMore
import Derived.Laws.Rows
import Derived.Laws.Slices
import Derived.Lib.AppendStr
import Derived.Lib.ConvBytes
import Derived.Lib.SliceRun
import Derived.Lib.SlicesDelete
import Derived.Lib.Walk
import Derived.Maps.AppendAt
import Derived.OrdersHeld
import Derived.OwnWalk
import Derived.ProofKit
import Derived.RowKit
import Derived.RowKit3
import Derived.Shelf.GgSortFunc.RowK
import Derived.Shelf.RegionOpenPlain
import Derived.Shelf.SlSortCmp.WholeK
import Derived.Shelf.SlicesE.Clone
import Derived.Shelf.SlicesE.Compact
import Derived.Shelf.SlicesE.Equal
import Derived.Shelf.Small.Bits
import Derived.Shelf.Strconv.Itoa0
import Derived.Sort.OwnSortedInts
import Derived.Sort.WalkB12
import Derived.Tactics
import Derived.Test.YtdlnhddpgopghaaProg
import Derived.WalkKit
import Derived.WideLaws
import Derived.Test.YtdlnhddpgopghaaBFnExactIsReachable1
import Derived.Test.YtdlnhddpgopghaaBFnExactIsReachable2
import Derived.Test.YtdlnhddpgopghaaBFnExactIsReachable3
import Derived.Test.YtdlnhddpgopghaaBFnExactIsReachable4
import Derived.Test.YtdlnhddpgopghaaBFnExactIsReachable5
import Derived.Test.YtdlnhddpgopghaaBFnExactIsReachable6
import Derived.Test.YtdlnhddpgopghaaBFnExactIsReachable7
import Derived.Test.YtdlnhddpgopghaaBFnExactIsReachable8
set_option linter.unusedVariables false
set_option linter.unusedSimpArgs false
namespace Go.Proofs.Ytdlnhddpgopghaa.Q
open Go.RowKit Go.Proofs.YtdlnhddpgopghaaW.PrintWords Go.Proofs.YtdlnhddpgopghaaW.PrintLast Go.Proofs.YtdlnhddpgopghaaW.PrintMore
attribute [local go_sem] max2_int min2_int max_two min_two max_three min_three max_four min_four   -- for this text's walks alone
set_option linter.unusedVariables false
set_option linter.unusedSimpArgs false
theorem spr_enters {f : FuncId} {fn : Func} {c : Code} (hf : Try.prog.funcs[f]? = some fn) (hname : (fn.name == "runtime.NumGoroutine") = false) (hb : fn.body = some c) (args : Array Value) (w : World) : (callFunc f args).run Try.prog w = .ok (.enter f args) w := by
 have h1 : fn.name ≠ "runtime.NumGoroutine" := by simpa using hname
 simp [callFunc, hf, h1, hb, mark]
def spr_idxf {α : Type} (p : α → Bool) (l : List α) : Int := match l.findIdx? p with | some i => (i : Int) | none => -1
theorem spr_idxf_hit {α : Type} {p : α → Bool} {l : List α} {k : Nat} (hk : k < l.length) (h : p l[k] = true) (hb : ∀ j (hj : j < l.length), j < k → p l[j] = false) : spr_idxf p l = k := by
 unfold spr_idxf
 have : l.findIdx? p = some k := List.findIdx?_eq_some_iff_getElem.2 ⟨hk, h, fun j hj => by simp [hb j (by omega) hj]⟩
 rw [this]
theorem spr_idxf_miss {α : Type} {p : α → Bool} {l : List α} (hb : ∀ j (hj : j < l.length), p l[j] = false) : spr_idxf p l = -1 := by
 unfold spr_idxf
 have : l.findIdx? p = none := List.findIdx?_eq_none_iff.2 (fun x hx => by obtain ⟨j, hj, rfl⟩ := List.getElem_of_mem hx; exact hb j hj)
 rw [this]
abbrev Sp := Int × Int
def spc (s : Sp) : List Value := [.int .i64 s.1, .int .i64 s.2]
def spf : List Sp → List Value
 | [] => []
 | s :: r => .int .i64 s.1 :: .int .i64 s.2 :: spf r
theorem spf_len : ∀ xs : List Sp, (spf xs).length = xs.length * 2
 | [] => rfl
 | s :: r => by simp only [spf, List.length_cons, spf_len r]; omega
theorem spf_app : ∀ xs ys : List Sp, spf (xs ++ ys) = spf xs ++ spf ys
 | [], ys => rfl
 | s :: r, ys => by simp only [List.cons_append, spf, spf_app r ys]
theorem spf_one : ∀ xs : List Sp, ∀ u ∈ spf xs, u.oneCell' = true
 | [], u, hu => by cases hu
 | s :: r, u, hu => by
  simp only [spf, List.mem_cons] at hu
  rcases hu with rfl | rfl | hu
  ·rfl
  ·rfl
  ·exact spf_one r u hu
theorem spf_take : ∀ (xs : List Sp) (n : Nat), spf (xs.take n) = (spf xs).take (n * 2)
 | [], n => by simp [spf]
 | s :: r, 0 => by simp [spf]
 | s :: r, n + 1 => by
  rw [List.take_succ_cons, spf, spf, spf_take r n, show (n + 1) * 2 = n * 2 + 1 + 1 by omega, List.take_succ_cons, List.take_succ_cons]
theorem spf_drop : ∀ (xs : List Sp) (n : Nat), spf (xs.drop n) = (spf xs).drop (n * 2)
 | [], n => by simp [spf]
 | s :: r, 0 => by simp
 | s :: r, n + 1 => by
  rw [List.drop_succ_cons, spf_drop r n, show (n + 1) * 2 = n * 2 + 1 + 1 by omega, spf, List.drop_succ_cons, List.drop_succ_cons]
theorem spf_get : ∀ (xs : List Sp) (i : Nat) (hi : i < xs.length), (spf xs)[i * 2]? = some (.int .i64 xs[i].1) ∧ (spf xs)[i * 2 + 1]? = some (.int .i64 xs[i].2)
 | [], i, hi => by simp at hi
 | s :: r, 0, _ => ⟨rfl, rfl⟩
 | s :: r, i + 1, hi => by
  have ih := spf_get r i (by simpa using hi)
  rw [show (i + 1) * 2 = i * 2 + 1 + 1 by omega]
  simpa [spf] using ih
theorem spf_flat (xs : List Sp) : Go.Sort.flatK spc 2 xs.toArray = (spf xs).toArray := by
 refine Go.Sort.ext_get! (by rw [Go.Sort.size_flatK]; simp [spf_len]) fun t ht => ?_
 rw [Go.Sort.size_flatK] at ht
 rw [Go.Sort.get_flatK _ _ _ _ ht]
 have hl : t / 2 < xs.length := by simp at ht; omega
 have h := spf_get xs (t / 2) hl
 have e : (xs.toArray)[t / 2]! = xs[t / 2] := by simp [hl]
 have e2 : (spf xs).toArray[t]! = (spf xs)[t]! := by simp
 rw [e, e2]
 rcases Nat.mod_two_eq_zero_or_one t with c | c
 ·rw [c]
  have : t = t / 2 * 2 := by omega
  generalize t / 2 = q at *
  subst this
  rw [List.getElem!_of_getElem? h.1]
  rfl
 ·rw [c]
  have : t = t / 2 * 2 + 1 := by omega
  generalize t / 2 = q at *
  subst this
  rw [List.getElem!_of_getElem? h.2]
  rfl
section
variable {w : World} {base g cap q : Nat} {e : TypeId} {os : Array Obj} {cur : Array Value} {F : List Value}
theorem flat_holds (hb : w.heap[g]? = some (.cells cur e (0, 0))) (ht : cur.toList.take F.length = F) : Go.Sort.Holds id w g 0 F.toArray := by
 intro j hj
 have hj' : j < F.length := by simpa using hj
 refine ⟨?_, by simp [World.frozen?, hb]⟩
 have h1 : (cur.toList.take F.length)[j]? = F[j]? := by rw [ht]
 rw [List.getElem?_take_of_lt hj'] at h1
 simp only [World.cell?, hb, Nat.zero_add]
 simp only [Option.isSome_none, Bool.false_eq_true, if_false]
 rw [← Array.getElem?_toList, h1]
 simp [hj']
theorem flat_heap {fr : Nat × Nat} (d : Array Value) (hb : w.heap[g]? = some (.cells cur e fr)) :
  (Go.Sort.grow (Go.Sort.putRow id (Go.Sort.ahead w q) g 0 d) os).heap[g]? = some (.cells (Go.Sort.putCells id 0 d cur) e fr) := by
 have hg : g < w.heap.size := (Array.getElem?_eq_some_iff.1 hb).1
 rw [Go.Sort.heap_grow_old _ _ (by simpa using hg)]
 simp [Go.Sort.putRow, Go.Sort.mapBlock, Go.Sort.ahead, Array.getElem?_modify, hb, Go.Sort.onCells]
theorem flat_grownBy (d : Array Value) : w.grownBy (Go.Sort.grow (Go.Sort.putRow id (Go.Sort.ahead w q) g 0 d) os) (some g) := by
 refine ⟨rfl, rfl, rfl, by simp, fun k hk hne => ?_⟩
 rw [Go.Sort.heap_grow_old _ _ (by simpa using hk)]
 have : g ≠ k := fun e => hne (by rw [e])
 simp [Go.Sort.putRow, Go.Sort.mapBlock, Go.Sort.ahead, Array.getElem?_modify, this]
theorem flat_take (cur : Array Value) (ts : List Value) (n : Nat) (h : ts.length ≤ cur.size) (hn : n ≤ ts.length) : (Go.Sort.putCells id 0 ts.toArray cur).toList.take n = ts.take n := by
 apply List.ext_getElem?
 intro j
 by_cases hj : j < n
 ·rw [List.getElem?_take_of_lt hj, List.getElem?_take_of_lt hj, Array.getElem?_toList]
  simp [Go.Sort.putCells, show j < ts.length by omega, show j < cur.size by omega]
 ·rw [List.getElem?_take_eq_none (by omega), List.getElem?_take_eq_none (by omega)]
theorem flat_own {m : Nat} {ys : List Sp} (hbase : base ≤ g) (hb : w.heap[g]? = some (.cells cur e (0, 0))) (hF : F.length ≤ cur.size) (h1 : m ≤ cap) (h2 : cap ≤ maxLen) (h3 : cur.size = cap * 2) (hm : ys.length = m) (hy : F.take (m * 2) = spf ys) (hl : m * 2 ≤ F.length) :
  (Go.Sort.grow (Go.Sort.putRow id (Go.Sort.ahead w q) g 0 F.toArray) os).ownsRow base e 2 (.slice (some ⟨g, 0, none⟩) m cap) m (spf ys) :=
 ⟨by rw [spf_len, hm], .inr ⟨g, cap, _, rfl, hbase, flat_heap _ hb, h1, h2, by simp [Go.Sort.putCells, h3], by rw [flat_take cur F _ hF hl, hy]⟩⟩
end
def Spr (w : World) (base : Nat) (v : Value) (xs : List Sp) : Prop := w.ownsRow base 93 2 v xs.length (spf xs)
theorem Spr.nil (w : World) (base : Nat) : Spr w base (.slice none 0 0) [] := ⟨rfl, .inl ⟨rfl, rfl⟩⟩
theorem Spr.below {w w1 : World} {base : Nat} {v : Value} {xs : List Sp} (h : Spr w base v xs) (hb : Below w.heap.size w w1) : Spr w1 base v xs :=
 own_move h fun k hk => by
  have hlt := own_lt h k hk
  exact hb.block k hlt
theorem Spr.open {w : World} {base : Nat} {v : Value} {xs : List Sp} (h : Spr w base v xs) (hn : 0 < xs.length) :
  ∃ g cap cur, v = .slice (some ⟨g, 0, none⟩) xs.length cap ∧ base ≤ g ∧ g < w.heap.size ∧ w.heap[g]? = some (.cells cur 93 (0, 0)) ∧ xs.length ≤ cap ∧ cap ≤ maxLen ∧ cur.size = cap * 2 ∧ cur.toList.take (xs.length * 2) = spf xs := by
 rcases h.2 with ⟨_, h0⟩ | ⟨g, cap, cur, hv, hb, hh, h1, h2, h3, h4⟩
 ·omega
 ·exact ⟨g, cap, cur, hv, hb, (Array.getElem?_eq_some_iff.1 hh).1, hh, h1, h2, h3, h4⟩
theorem Spr.slice {w : World} {base : Nat} {v : Value} {xs : List Sp} (h : Spr w base v xs) : ∃ A c, v = .slice A xs.length c := by
 rcases h.2 with ⟨hv, h0⟩ | ⟨g, cap, cur, hv, _⟩
 ·exact ⟨none, 0, by rw [hv, h0]⟩
 ·exact ⟨_, _, hv⟩
theorem Spr.cells {w : World} {base g c : Nat} {xs : List Sp} {n : Nat} (h : Spr w base (.slice (some ⟨g, 0, none⟩) n c) xs) (i : Nat) (hi : i < xs.length) :
  w.cell? ⟨g, i * 2, none⟩ = some (.int .i64 xs[i].1) ∧ w.cell? ⟨g, i * 2 + 1, none⟩ = some (.int .i64 xs[i].2) := by
 obtain ⟨g', cap, cur, hv, hb, hlt, hh, h1, h2, h3, h4⟩ := h.open (by omega)
 injection hv with e1 e2 e3
 injection e1 with e1
 injection e1 with e1 _
 subst e1
 have hH := flat_holds (F := spf xs) hh (by rw [spf_len]; exact h4)
 have hg := spf_get xs i hi
 have l := spf_len xs
 have a := (hH (i * 2) (by simp; omega)).1
 have b := (hH (i * 2 + 1) (by simp; omega)).1
 rw [Nat.zero_add] at a b
 refine ⟨a.trans ?_, b.trans ?_⟩
 ·simp [hg.1]
 ·simp [hg.2]
theorem spr_one (x : Sp) (k : Int) (gb : Nat) (w : World) (hk : w.heap[gb]? = some (.cells #[.int .i64 k] 2 (0, 0))) :
  Calls Try.prog 80 (#[.agg #[.int .i64 x.1, .int .i64 x.2]] ++ #[.pointer (some ⟨gb, 0, none⟩)]) w fun e w' => e = .returned (.bool (decide (x.1 ≤ k))) ∧ Below w.heap.size w w' := by
 obtain ⟨a, b⟩ := x
 have hz : (w.alloc (.cells #[.int .i64 a, .int .i64 b] 93 (0, 0))).cell? ⟨gb, 0, none⟩ = some (.int .i64 k) := (blk_cell (blk_alloc hk _) 0).trans rfl
 simp only
 clear hk
 go_enter Try.func80, Try.ntmps80
 go_wp2
 go_ret
 exact ⟨rfl, below_alloc (Below.refl _ _) _⟩
set_option maxHeartbeats 2000000 in
theorem spr_ixf (gb : Nat) (k : Int) (base : Nat) (A0 : Option Addr) (c0 : Nat) (xs : List Sp) (w : World) (h : Spr w base (.slice A0 xs.length c0) xs) (hl : xs.length ≤ 1000000) (hk : w.heap[gb]? = some (.cells #[.int .i64 k] 2 (0, 0))) :
  Calls Try.prog 79 #[.slice A0 xs.length c0, .func (.func 80) #[] #[.pointer (some ⟨gb, 0, none⟩)]] w fun e w' => e = .returned (.int .i64 (spr_idxf (fun s : Sp => decide (s.1 ≤ k)) xs)) ∧ Below w.heap.size w w' := by
 have eg : ∀ args w, (callFunc 80 args).run Try.prog w = .ok (.enter 80 args) w := spr_enters Try.func80 (by kernel_rfl) rfl
 have HR := Aside0.mk h
 have HK := Aside0.mk hk
 have hA : ∀ kk, kk < xs.length → ∃ g, A0 = some ⟨g, 0, none⟩ := by
  intro kk hkk
  obtain ⟨g, cap, cur, hv, _⟩ := h.open (by omega)
  injection hv with e1 _ _
  exact ⟨g, e1⟩
 have HA := Aside0.mk hA
 clear h hk hA
 obtain ⟨p, hp⟩ : ∃ p : Sp → Bool, p = fun s : Sp => decide (s.1 ≤ k) := ⟨_, rfl⟩
 rw [← hp]
 have HP := Aside0.mk hp
 clear hp
 go_enter Try.func79, Try.ntmps79
 go_wp2
 go_loopg [5, 8] xs.length (fun gg _ s8 wr => ∃ kk : Nat, kk ≤ xs.length ∧ xs.length - kk ≤ gg ∧ s8 = .int .i64 kk ∧ Aside0 (Below w.heap.size w wr) ∧ Aside0 (∀ j (hj : j < xs.length), j < kk → p xs[j] = false))
 case atStart => exact ⟨0, Nat.zero_le _, by omega, rfl, ⟨Below.refl _ _⟩, ⟨fun j hj h => absurd h (Nat.not_lt_zero _)⟩⟩
 case round =>
  obtain ⟨kk, hkk, hg, rfl, HB, A⟩ := hrel
  by_cases hlt : kk < xs.length
  ·have hltz : (kk : Int) < (xs.length : Int) := by omega
   obtain ⟨g, rfl⟩ := HA.out kk hlt
   obtain ⟨hx0, hx1⟩ := (HR.out.below HB.out).cells kk hlt
   have hcall := spr_one xs[kk] k gb wr (blk_below HK.out HB.out)
   generalize hy : xs[kk] = y at hx0 hx1 hcall
   have B := Aside0.mk hy
   have hpy : p y = decide (y.1 ≤ k) := by rw [HP.out]
   rw [← hpy] at hcall
   clear hy hpy
   cases hq : p y with
   | true =>
    rw [hq] at hcall
    go_wp2_with fail
    refine hcall.mono ?_
    rintro e w' ⟨rfl, hb⟩
    have HB2 := Aside0.mk (below_then HB.out HB.out.size hb)
    go_wp2
    go_ret
    exact ⟨by rw [spr_idxf_hit hlt (by rw [B.out]; exact hq) A.out]; rfl, by first | exact HB2.out | exact pw_below_drewN HB2.out _⟩
   | false =>
    rw [hq] at hcall
    go_wp2_with fail
    refine hcall.mono ?_
    rintro e w' ⟨rfl, hb⟩
    have HB2 := Aside0.mk (below_then HB.out HB.out.size hb)
    go_wp2
    go_roundg (xs.length - (kk + 1))
    case measure => omega
    case rel =>
     refine ⟨kk + 1, by omega, by omega, by go_num, ⟨by first | exact HB2.out | exact pw_below_drewN HB2.out _⟩, ⟨fun j hj h => ?_⟩⟩
     by_cases e : j = kk
     ·subst e
      rw [B.out]; exact hq
     ·exact A.out j hj (by omega)
  ·have hltz : ¬ (kk : Int) < (xs.length : Int) := by omega
   have : kk = xs.length := by omega
   subst this
   go_wp2
   go_ret
   exact ⟨by rw [spr_idxf_miss (fun j hj => A.out j hj hj)]; rfl, by first | exact HB.out | exact pw_below_drewN HB.out _⟩
end Go.Proofs.Ytdlnhddpgopghaa.Q
namespace Go.Proofs.Ytdlnhddpgopghaa.Q
open Go.RowKit Go.Proofs.YtdlnhddpgopghaaW.PrintWords Go.Proofs.YtdlnhddpgopghaaW.PrintLast Go.Proofs.YtdlnhddpgopghaaW.PrintMore
attribute [local go_sem] max2_int min2_int max_two min_two max_three min_three max_four min_four   -- for this text's walks alone
set_option linter.unusedVariables false
set_option linter.unusedSimpArgs false
def cmpI (a b : Int) : Int := if a < b then -1 else if b < a then 1 else 0
theorem spr_compare (a b : Int) (w : World) : Calls Try.prog 78 #[.int .i64 a, .int .i64 b] w fun e w' => e = .returned (.int .i64 (cmpI a b)) ∧ w' = w := by
 unfold cmpI
 by_cases c : a < b
 ·rw [if_pos c]
  go_enter Try.func78, Try.ntmps78
  go_wp2
  go_ret
  exact ⟨rfl, rfl⟩
 ·rw [if_neg c]
  by_cases d : b < a
  ·rw [if_pos d]
   go_enter Try.func78, Try.ntmps78
   go_wp2
   go_ret
   exact ⟨rfl, rfl⟩
  ·rw [if_neg d]
   go_enter Try.func78, Try.ntmps78
   go_wp2
   go_ret
   exact ⟨rfl, rfl⟩
set_option maxHeartbeats 1000000 in
theorem spr_clo (x y : Sp) (W : World) : Calls Try.prog 77 #[.agg #[.int .i64 x.1, .int .i64 x.2], .agg #[.int .i64 y.1, .int .i64 y.2]] W fun e w' => e = .returned (.int .i64 (cmpI x.2 y.2)) ∧ ∃ q os', w' = Go.Sort.grow (W.drewN q) os' := by
 have hcon := fun W' => spr_compare x.2 y.2 W'
 generalize cmpI x.2 y.2 = r at hcon ⊢
 go_enter Try.func77, Try.ntmps77
 go_wp2_with (go_at_call 78; refine (hcon _).mono ?_; rintro e w' ⟨rfl, rfl⟩)
 go_ret
 exact ⟨rfl, 0, _, by rw [Go.Sort.alloc_eq_grow, Go.Sort.alloc_eq_grow, Go.Sort.grow_grow]; rfl⟩
theorem spr_swo : Go.Sort.SWO (Go.Proofs.ltOf fun x y : Sp => cmpI x.2 y.2) := by
 have e : ∀ x y : Sp, Go.Proofs.ltOf (fun x y : Sp => cmpI x.2 y.2) x y = decide (x.2 < y.2) := by
  intro x y
  show decide (cmpI x.2 y.2 < 0) = decide (x.2 < y.2)
  unfold cmpI
  by_cases c : x.2 < y.2
  ·rw [if_pos c]; simp [c]
  ·rw [if_neg c]
   split <;> simp <;> omega
 refine ⟨fun x => by rw [e]; simp, fun x y z h1 h2 => ?_, fun x y z h1 h2 => ?_⟩
 ·rw [e] at h1 h2 ⊢
  simp only [decide_eq_true_eq] at h1 h2 ⊢
  omega
 ·rw [e] at h1 h2 ⊢
  simp only [decide_eq_false_iff_not] at h1 h2 ⊢
  omega
set_option maxHeartbeats 1000000 in
theorem spr_sort (base g cap : Nat) (xs : List Sp) (w : World) (h : Spr w base (.slice (some ⟨g, 0, none⟩) xs.length cap) xs) (hn : 0 < xs.length) (hb : xs.length ≤ 1000000) :
  Calls Try.prog 76 #[.slice (some ⟨g, 0, none⟩) xs.length cap, .func (.func 77) #[] #[]] w fun e w' => e = .returned (.tuple #[]) ∧ ∃ ys : List Sp, ys.Perm xs ∧ ys.Pairwise (fun a b => a.2 ≤ b.2) ∧ Spr w' base (.slice (some ⟨g, 0, none⟩) ys.length cap) ys ∧ w.grownBy w' (some g) := by
 have eg : ∀ args w, (callFunc 77 args).run Try.prog w = .ok (.enter 77 args) w := spr_enters Try.func77 (by kernel_rfl) rfl
 obtain ⟨g', cap', cur, hv, hbase, hlt, hh, h1, h2, h3, h4⟩ := h.open hn
 injection hv with e1 e2 e3
 injection e1 with e1
 injection e1 with e1 _
 subst e1
 subst e3
 have hH : Go.Sort.HoldsK spc 2 w g 0 xs.toArray := by
  unfold Go.Sort.HoldsK
  rw [spf_flat]
  exact flat_holds hh (by rw [spf_len]; exact h4)
 have hc := AnyQ.slices_SortFunc Try.laysSpan 2 Try.isAgg93 Try.sizeOf93 spc (fun _ => rfl) (fun x v hv => by simp only [spc, List.mem_cons, List.not_mem_nil, or_false] at hv; rcases hv with rfl | rfl <;> rfl) (fun x y : Sp => cmpI x.2 y.2) spr_swo 77 #[] g 0 cap xs.toArray w eg (fun _ _ _ _ x y => spr_clo x y _) hH hlt (by simp; omega)
 have hz : xs.toArray.size = xs.length := by simp
 rw [hz] at hc
 change Calls Try.prog 76 _ _ _ at hc
 refine hc.mono ?_
 rintro e w' ⟨rfl, d', q, os, ⟨p1, _, p3⟩, hs, rfl⟩
 have hl : d'.toList.length = xs.length := by rw [Array.length_toList, p1, hz]
 have hp : d'.toList.Perm xs := by
  have ea : d'.extract 0 xs.length = d' := by rw [show xs.length = d'.size by rw [p1, hz]]; simp
  have eb : xs.toArray.extract 0 xs.length = xs.toArray := by simp
  rw [ea, eb] at p3
  simpa using p3
 have ho : d'.toList.Pairwise (fun a b => a.2 ≤ b.2) := by
  rw [List.pairwise_iff_getElem]
  intro i j hi hj hij
  have := hs i j (Nat.zero_le _) hij (by omega)
  have hi' : i < d'.size := by simpa using hi
  have hj' : j < d'.size := by simpa using hj
  rw [getElem!_pos d' i hi', getElem!_pos d' j hj'] at this
  replace this : decide (cmpI d'[j].2 d'[i].2 < 0) = false := this
  unfold cmpI at this
  simp only [Array.getElem_toList]
  simp only [decide_eq_false_iff_not] at this
  by_cases c : d'[j].2 < d'[i].2
  ·rw [if_pos c] at this; omega
  ·omega
 refine ⟨rfl, d'.toList, hp, ho, ?_, ?_⟩
 ·unfold Spr Go.Proofs.sortWorldK Go.Sort.putRowK
  have ef := spf_flat d'.toList
  rw [Array.toArray_toList] at ef
  rw [ef, hl]
  have hfl : (spf d'.toList).length = xs.length * 2 := by rw [spf_len, hl]
  exact flat_own hbase hh (by rw [hfl, h3]; omega) h1 h2 h3 hl (by rw [← hfl, List.take_length]) (by rw [hfl]; exact Nat.le_refl _)
 ·exact flat_grownBy _
end Go.Proofs.Ytdlnhddpgopghaa.Q
namespace Go.Proofs.Ytdlnhddpgopghaa.Q
open Go.RowKit Go.Proofs.YtdlnhddpgopghaaW.PrintWords Go.Proofs.YtdlnhddpgopghaaW.PrintLast Go.Proofs.YtdlnhddpgopghaaW.PrintMore
attribute [local go_sem] max2_int min2_int max_two min_two max_three min_three max_four min_four   -- for this text's walks alone
set_option linter.unusedVariables false
set_option linter.unusedSimpArgs false
theorem run_clear_span (w : World) (ty : TypeId) (b o c : Nat) (hc : ∀ j, j < 2 → (w.cell? ⟨b, o + j, none⟩).isSome = true) (hf : ∀ j, j < 2 → w.frozen? ⟨b, o + j, none⟩ = false) :
  (Builtin.clear_ #[91] ty #[.slice (some ⟨b, o, none⟩) 1 c]).run Try.prog w = .ok (.tuple #[]) (w.setCells b o [.int .i64 0, .int .i64 0]) := by
 have hst := run_storeCells_cells (P := Try.prog) b o [.int .i64 0, .int .i64 0] 0 w (by simpa using hc) (by simpa using hf) (by intro v hv'; simp only [List.mem_cons, List.not_mem_nil, or_false] at hv'; rcases hv' with rfl | rfl <;> rfl)
 simp only [Nat.add_zero] at hst
 have hz : ∀ w, (zeroValue 93).run Try.prog w = .ok (.agg #[.int .i64 0, .int .i64 0]) w := fun w => by first | exact Try.zeroValue93 w | rfl | kernel_rfl
 have hzc : (Builtin.zeroCells (Value.agg #[.int .i64 0, .int .i64 0]).cells 1).toList = [.int .i64 0, .int .i64 0] := by first | kernel_rfl | (simp [Builtin.zeroCells, Value.cells, Array.range]; done) | (simp [Builtin.zeroCells, Value.cells, Array.range]; rfl)
 simp [Builtin.clear_, run_underlying Try.underlying91, hz, hzc, hst]
set_option maxHeartbeats 4000000 in
set_option maxRecDepth 1000000 in
theorem spr_delete (base g cap i : Nat) (xs : List Sp) (w : World) (h : Spr w base (.slice (some ⟨g, 0, none⟩) xs.length cap) xs) (hi : i < xs.length) :
  Calls Try.prog 81 #[.slice (some ⟨g, 0, none⟩) xs.length cap, .int .i64 i, .int .i64 (i + 1 : Nat)] w fun e w' => e = .returned (.slice (some ⟨g, 0, none⟩) (xs.length - 1) cap) ∧ Spr w' base (.slice (some ⟨g, 0, none⟩) (xs.length - 1) cap) (xs.eraseIdx i) ∧ w.grownBy w' (some g) := by
 obtain ⟨g', cap', cur, hv, hbase, hlt, hh, h1, h2, h3, h4⟩ := h.open (by omega)
 injection hv with e1 e2 e3
 injection e1 with e1
 injection e1 with e1 _
 subst e1
 subst e3
 clear e2 h
 have hmax : cap ≤ 9223372036854775807 := h2
 obtain ⟨n, hn⟩ : ∃ n, n = xs.length := ⟨_, rfl⟩
 obtain ⟨F, hF⟩ : ∃ F, F = spf xs := ⟨_, rfl⟩
 have hFl : F.length = n * 2 := by rw [hF, hn, spf_len]
 have hH : Go.Sort.Holds id w g 0 F.toArray := flat_holds hh (by rw [hFl, hn, h4, hF])
 have hdrop : spf (xs.eraseIdx i) = F.take (i * 2) ++ F.drop ((i + 1) * 2) := by
  rw [List.eraseIdx_eq_take_drop_succ, spf_app, spf_take, spf_drop, hF]
 have hel : (xs.eraseIdx i).length = n - 1 := by rw [List.length_eraseIdx_of_lt hi, hn]
 rw [← hn] at hi h1 ⊢
 obtain ⟨news, hnews⟩ : ∃ news, news = F.drop ((i + 1) * 2) := ⟨_, rfl⟩
 have hlen : news.length = (n - (i + 1)) * 2 := by rw [hnews, List.length_drop, hFl]; omega
 obtain ⟨A, hA, hsrc⟩ : ∃ A : Addr, (if cap = i + 1 then (some ⟨g, 0, none⟩ : Option Addr) else some ⟨g, (i + 1) * 2, none⟩) = some A ∧ Hid (∀ t u, news[t]? = some u → w.drew.cell? (A.add t) = some u) := by
  by_cases c : cap = i + 1
  ·refine ⟨⟨g, 0, none⟩, by simp [c], fun t u hu => ?_⟩
   have h0 : news.length = 0 := by rw [hlen]; omega
   rw [List.length_eq_zero_iff.1 h0] at hu
   simp at hu
  ·refine ⟨⟨g, (i + 1) * 2, none⟩, by simp [c], fun t u hu => ?_⟩
   have ht : t < (n - (i + 1)) * 2 := by
    have := (List.getElem?_eq_some_iff.1 hu).1
    rwa [hlen] at this
   rw [hnews, List.getElem?_drop] at hu
   have := (hH ((i + 1) * 2 + t) (by simp; omega)).1
   rw [Nat.zero_add] at this
   rw [Addr.add_lit]
   refine this.trans ?_
   simp [hu]
 have hone : ∀ u ∈ F, u.oneCell' = true := by
  rw [hF]
  exact spf_one xs
 have s1 : Hid (news.length = (n - (i + 1)) * 2) := hlen
 have s2 : Hid (∀ u ∈ news, u.oneCell' = true) := fun u hu => hone u (by rw [hnews] at hu; exact List.mem_of_mem_drop hu)
 have s3 : Hid (∀ t, t < news.length → (w.drew.cell? ⟨g, 0 + i * 2 + t, none⟩).isSome = true ∧ w.drew.frozen? ⟨g, 0 + i * 2 + t, none⟩ = false) := by
  intro t ht
  rw [hlen] at ht
  have := hH (i * 2 + t) (by simp; omega)
  rw [Nat.add_assoc]
  exact ⟨by show (w.cell? _).isSome = true; rw [this.1]; rfl, this.2⟩
 obtain ⟨W1, hW1⟩ : ∃ W1, W1 = w.drew.setCells g (0 + i * 2) news := ⟨_, rfl⟩
 have hW1' : W1 = Go.Sort.putRow id (Go.Sort.ahead w 1) g 0 (Go.Lib.lay F.toArray (i * 2) news) := by
  have e := Go.Lib.putRow_setCells id (Go.Sort.ahead w 1) g 0 news F.toArray (i * 2) (by simp [hlen, hFl]; omega)
  rw [Go.Sort.putRow_self id (Go.Sort.ahead w 1) g 0 F.toArray (Go.Sort.holds_ahead id w 1 g 0 F.toArray hH), List.map_id] at e
  rw [hW1, ← e]
  rfl
 have hH1 : Go.Sort.Holds id W1 g 0 (Go.Lib.lay F.toArray (i * 2) news) := by rw [hW1']; exact Go.Sort.holds_putRow id _ g 0 F.toArray _ (Go.Sort.holds_ahead id w 1 g 0 F.toArray hH) (Go.Lib.lay_size _ _ _)
 have hcl : ∀ ty c, (Builtin.clear_ #[91] ty #[.slice (some ⟨g, (i + (n - (i + 1))) * 2, none⟩) (n - (i + (n - (i + 1)))) c]).run Try.prog W1 = .ok (.tuple #[]) (W1.setCells g ((i + (n - (i + 1))) * 2) [.int .i64 0, .int .i64 0]) := by
  intro ty c
  rw [show n - (i + (n - (i + 1))) = 1 by omega]
  exact run_clear_span W1 ty g _ c (fun t ht => by
   have := hH1 ((i + (n - (i + 1))) * 2 + t) (by rw [Go.Lib.lay_size]; simp [hFl]; omega)
   rw [Nat.zero_add] at this
   rw [this.1]; rfl) (fun t ht => by
   have := hH1 ((i + (n - (i + 1))) * 2 + t) (by rw [Go.Lib.lay_size]; simp [hFl]; omega)
   rw [Nat.zero_add] at this
   exact this.2)
 have X : Aside0 (W1 = Go.Sort.putRow id (Go.Sort.ahead w 1) g 0 (Go.Lib.lay F.toArray (i * 2) news)) := ⟨hW1'⟩
 have hW : Hid (W1 = w.drew.setCells g (0 + i * 2) news) := hW1
 have hic : i ≤ cap := by omega
 have hjc : i + 1 ≤ cap := by omega
 have hijn : i + 1 ≤ n := hi
 have hz1 : (i : Int) + 1 ≤ (n : Int) := by omega
 have hz2 : (0 : Int) ≤ (i : Int) + 1 := by omega
 have mixed : Try.prog.follows Departure.mixedOrders = true := by kernel_rfl
 have HF := Aside0.mk hFl
 have HD := Aside0.mk hdrop
 have HE := Aside0.mk hel
 have HHH := Aside0.mk hh
 have H3 := Aside0.mk h3
 have H2 := Aside0.mk h2
 have H1 := Aside0.mk h1
 have HB := Aside0.mk hbase
 have HN := Aside0.mk hnews
 have HL := Aside0.mk hlen
 obtain ⟨i0, hi0, hz0⟩ := Option.map_eq_some_iff.1 (show (Try.prog.info? 93).map (fun i => (i.zero, i.size, i.bytes)) = some (some (.agg #[.int .i64 0, .int .i64 0]), 2, 16) from by kernel_rfl)
 simp only [Prod.mk.injEq] at hz0
 have HI := Aside0.mk hi0
 have HZ := Aside0.mk hz0.2.1
 clear hW1 hW1' hH1 hH hnews hlen hdrop hel hFl hh hone hF h4 hz0 hi0 h2 h3 hbase hn
 go_enter Try.func81, Try.ntmps81
 go_wp2_with fail
 go_region_law_o (refine step_append_room rfl (.tmp 22) (.tmp 25) 91 rfl 93 i0 2 Try.underlying91 HI.out HZ.out g 0 i cap (by simp [Act.eval, Act.put]) A (n - (i + 1)) (cap - (i + 1)) news (by simp [Act.eval, Act.put]) s1.out hsrc.out s2.out (by omega) s3.out ?_; rw [← hW.out])
 go_wp2
 go_ret
 have hn1 : i + (n - (i + 1)) = n - 1 := by omega
 have hw : W1.setCells g ((i + (n - (i + 1))) * 2) [.int .i64 0, .int .i64 0] = Go.Sort.grow (Go.Sort.putRow id (Go.Sort.ahead w 1) g 0 (F.take (i * 2) ++ F.drop ((i + 1) * 2) ++ List.replicate 2 (Value.int .i64 0)).toArray) #[] := by
  rw [Go.Sort.grow_empty, X.out]
  have hl := HL.out
  have hf := HF.out
  have e := Go.Lib.putRow_setCells id (Go.Sort.ahead w 1) g 0 [.int .i64 0, .int .i64 0] (Go.Lib.lay F.toArray (i * 2) news) ((i + (n - (i + 1))) * 2) (by rw [Go.Lib.lay_size]; simp [hf]; omega)
  rw [List.map_id, Nat.zero_add] at e
  rw [e]
  have d := Go.Lib.delete_arr F.toArray (i * 2) ((i + 1) * 2) (Value.int .i64 0) (by omega) (by simp [hf]; omega)
  rw [show (i + 1) * 2 - i * 2 = 2 by omega, show i * 2 + (F.toArray.size - (i + 1) * 2) = (i + (n - (i + 1))) * 2 by simp [hf]; omega] at d
  rw [← d, HN.out]
  rfl
 rw [hw]
 have hf := HF.out
 have hh := HHH.out
 have h3 := H3.out
 have hcs : n ≤ cap := H1.out
 refine ⟨by simp [hn1], ?_, flat_grownBy _⟩
 have hE := HE.out
 have hD := HD.out
 have hdl : (F.take (i * 2) ++ F.drop ((i + 1) * 2)).length = (n - 1) * 2 := by
  rw [List.length_append, List.length_take, List.length_drop, hf]
  omega
 unfold Spr
 rw [hE]
 exact flat_own HB.out hh (by rw [List.length_append, hdl, List.length_replicate, h3]; omega) (by omega) H2.out h3 hE (by rw [List.take_left' hdl, hD]) (by rw [List.length_append, hdl]; omega)
end Go.Proofs.Ytdlnhddpgopghaa.Q
namespace Go.Proofs.Ytdlnhddpgopghaa.Q
open Go.RowKit Go.Proofs.YtdlnhddpgopghaaW.PrintWords Go.Proofs.YtdlnhddpgopghaaW.PrintLast Go.Proofs.YtdlnhddpgopghaaW.PrintMore
attribute [local go_sem] max2_int min2_int max_two min_two max_three min_three max_four min_four   -- for this text's walks alone
set_option linter.unusedVariables false
set_option linter.unusedSimpArgs false
abbrev QEdfSp := Int × Int
def qedfAv (t h : Int) (s : QEdfSp) : Bool := decide (s.1 ≤ t ∧ s.2 = h)
def qedfCnt (W : List QEdfSp) (t h : Int) : Nat := W.countP (qedfAv t h)
def qedfOne : Nat → Int → List QEdfSp → Bool
 | 0, _, _ => true
 | n + 1, k, W => match W.findIdx? (fun s => decide (s.1 ≤ k)) with
  | none => false
  | some i => if (W.getD i (0, 0)).2 < k then false else qedfOne n (k + 1) (W.eraseIdx i)
theorem qedf_cnt_erase : ∀ (W : List QEdfSp) (i : Nat) (hi : i < W.length) (t h : Int), qedfCnt W t h = qedfCnt (W.eraseIdx i) t h + (if qedfAv t h W[i] then 1 else 0)
 | [], i, hi, _, _ => by simp at hi
 | s :: r, 0, _, t, h => by
  simp only [qedfCnt, List.eraseIdx_cons_zero, List.getElem_cons_zero, List.countP_cons]
 | s :: r, i + 1, hi, t, h => by
  have ih := qedf_cnt_erase r i (by simpa using hi) t h
  simp only [qedfCnt] at ih
  simp only [qedfCnt, List.eraseIdx_cons_succ, List.getElem_cons_succ, List.countP_cons]
  omega
structure QEdfStep (W : List QEdfSp) (k : Int) (s : QEdfSp) (W' : List QEdfSp) : Prop where
 opn : s.1 ≤ k
 has : 0 < qedfCnt W k s.2
 least : ∀ h, 0 < qedfCnt W k h → s.2 ≤ h
 rest : ∀ t h, k ≤ t → qedfCnt W t h = qedfCnt W' t h + (if h = s.2 then 1 else 0)
theorem qedf_step_mk {W : List QEdfSp} {k : Int} {i : Nat} (hi : i < W.length) (ho : W[i].1 ≤ k) (hl : ∀ x ∈ W, x.1 ≤ k → W[i].2 ≤ x.2) : QEdfStep W k W[i] (W.eraseIdx i) where
 opn := ho
 has := by
  rw [qedfCnt, List.countP_pos_iff]
  exact ⟨W[i], List.getElem_mem hi, by simp [qedfAv, ho]⟩
 least := by
  intro h hh
  rw [qedfCnt, List.countP_pos_iff] at hh
  obtain ⟨x, hx, ha⟩ := hh
  simp only [qedfAv, decide_eq_true_eq] at ha
  rw [← ha.2]
  exact hl x hx ha.1
 rest := by
  intro t h ht
  rw [qedf_cnt_erase W i hi t h]
  have : (qedfAv t h W[i] = true) ↔ h = W[i].2 := by
   simp only [qedfAv, decide_eq_true_eq]
   constructor
   ·rintro ⟨_, e⟩; exact e.symm
   ·intro e; exact ⟨by omega, e.symm⟩
  by_cases c : h = W[i].2
  ·rw [if_pos c, if_pos (this.2 c)]
  ·rw [if_neg c, if_neg (fun q => c (this.1 q))]
theorem qedf_step_same {W V W' V' : List QEdfSp} {k : Int} {s u : QEdfSp} (h : ∀ t e, k ≤ t → qedfCnt W t e = qedfCnt V t e) (a : QEdfStep W k s W') (b : QEdfStep V k u V') : s.2 = u.2 ∧ ∀ t e, k + 1 ≤ t → qedfCnt W' t e = qedfCnt V' t e := by
 have e1 := h k s.2 (Int.le_refl _)
 have e2 := h k u.2 (Int.le_refl _)
 have l1 := a.least u.2 (by rw [e2]; exact b.has)
 have l2 := b.least s.2 (by rw [← e1]; exact a.has)
 have e : s.2 = u.2 := by omega
 refine ⟨e, fun t x ht => ?_⟩
 have r1 := a.rest t x (by omega)
 have r2 := b.rest t x (by omega)
 have := h t x (by omega)
 rw [e] at r1
 omega
theorem qedf_none_of {W : List QEdfSp} {k : Int} (h : ∀ x ∈ W, ¬ x.1 ≤ k) (e : Int) : qedfCnt W k e = 0 := by
 rw [qedfCnt, List.countP_eq_zero]
 intro x hx
 simp [qedfAv, h x hx]
theorem qedf_one_step {W : List QEdfSp} (hs : W.Pairwise (fun a b => a.2 ≤ b.2)) (k : Int) : (W.findIdx? (fun s => decide (s.1 ≤ k)) = none ∧ ∀ e, qedfCnt W k e = 0) ∨ ∃ i, ∃ hi : i < W.length, W.findIdx? (fun s => decide (s.1 ≤ k)) = some i ∧ QEdfStep W k W[i] (W.eraseIdx i) := by
 cases hf : W.findIdx? (fun s => decide (s.1 ≤ k)) with
 | none =>
  refine .inl ⟨rfl, qedf_none_of (fun x hx => ?_)⟩
  have := List.findIdx?_eq_none_iff.1 hf x hx
  simpa using this
 | some i =>
  obtain ⟨hi, h1, h2⟩ := List.findIdx?_eq_some_iff_getElem.1 hf
  refine .inr ⟨i, hi, rfl, qedf_step_mk hi (by simpa using h1) (fun x hx ho => ?_)⟩
  obtain ⟨j, hj, rfl⟩ := List.getElem_of_mem hx
  rcases Nat.lt_trichotomy i j with c | c | c
  ·exact List.pairwise_iff_getElem.1 hs i j hi hj c
  ·subst c; exact Int.le_refl _
  ·have := h2 j c
   simp at this
   omega
theorem qedf_one_one : ∀ (n : Nat) (k : Int) (W V : List QEdfSp), W.Pairwise (fun a b => a.2 ≤ b.2) → V.Pairwise (fun a b => a.2 ≤ b.2) → (∀ t e, k ≤ t → qedfCnt W t e = qedfCnt V t e) → qedfOne n k W = qedfOne n k V
 | 0, _, _, _, _, _, _ => rfl
 | n + 1, k, W, V, hW, hV, h => by
  rw [qedfOne, qedfOne]
  rcases qedf_one_step hW k with ⟨a1, a2⟩ | ⟨i, hi, a1, a2⟩
  ·rcases qedf_one_step hV k with ⟨b1, b2⟩ | ⟨j, hj, b1, b2⟩
   ·rw [a1, b1]
   ·have := b2.has
    rw [← h k _ (Int.le_refl _), a2] at this
    omega
  ·rcases qedf_one_step hV k with ⟨b1, b2⟩ | ⟨j, hj, b1, b2⟩
   ·have := a2.has
    rw [h k _ (Int.le_refl _), b2] at this
    omega
   ·obtain ⟨e1, e2⟩ := qedf_step_same h a2 b2
    rw [a1, b1]
    simp only
    have hg : W.getD i (0, 0) = W[i] := by rw [List.getD_eq_getElem?_getD, List.getElem?_eq_getElem hi]; rfl
    have hg' : V.getD j (0, 0) = V[j] := by rw [List.getD_eq_getElem?_getD, List.getElem?_eq_getElem hj]; rfl
    rw [hg, hg', e1]
    by_cases c : V[j].2 < k
    ·rw [if_pos c, if_pos c]
    ·rw [if_neg c, if_neg c]
     exact qedf_one_one n (k + 1) _ _ (hW.sublist (List.eraseIdx_sublist _ _)) (hV.sublist (List.eraseIdx_sublist _ _)) e2
theorem qedf_cnt_perm {W V : List QEdfSp} (h : W.Perm V) (t e : Int) : qedfCnt W t e = qedfCnt V t e := h.countP_eq _
def spIns (s : Sp) : List Sp → List Sp
 | [] => [s]
 | t :: r => if t.2 < s.2 then t :: spIns s r else s :: t :: r
def spSort : List Sp → List Sp
 | [] => []
 | s :: r => spIns s (spSort r)
theorem spIns_perm (s : Sp) : ∀ xs, (spIns s xs).Perm (s :: xs)
 | [] => List.Perm.refl _
 | t :: r => by
  unfold spIns
  by_cases c : t.2 < s.2
  ·rw [if_pos c]
   exact ((spIns_perm s r).cons t).trans (List.Perm.swap s t r)
  ·rw [if_neg c]
theorem spSort_perm : ∀ xs, (spSort xs).Perm xs
 | [] => List.Perm.refl _
 | s :: r => (spIns_perm s (spSort r)).trans ((spSort_perm r).cons s)
theorem spIns_sorted (s : Sp) : ∀ xs : List Sp, xs.Pairwise (fun a b => a.2 ≤ b.2) → (spIns s xs).Pairwise (fun a b => a.2 ≤ b.2)
 | [], _ => List.pairwise_singleton _ _
 | t :: r, h => by
  obtain ⟨h1, h2⟩ := List.pairwise_cons.1 h
  unfold spIns
  by_cases c : t.2 < s.2
  ·rw [if_pos c]
   refine List.pairwise_cons.2 ⟨fun x hx => ?_, spIns_sorted s r h2⟩
   rcases List.mem_cons.1 ((spIns_perm s r).mem_iff.1 hx) with rfl | hx
   ·omega
   ·exact h1 x hx
  ·rw [if_neg c]
   refine List.pairwise_cons.2 ⟨fun x hx => ?_, h⟩
   rcases List.mem_cons.1 hx with rfl | hx
   ·omega
   ·have := h1 x hx; omega
theorem spSort_sorted : ∀ xs : List Sp, (spSort xs).Pairwise (fun a b => a.2 ≤ b.2)
 | [] => List.Pairwise.nil
 | s :: r => spIns_sorted s _ (spSort_sorted r)
theorem sp_any {W V : List Sp} (n : Nat) (k : Int) (h : W.Perm V) (hW : W.Pairwise (fun a b => a.2 ≤ b.2)) : qedfOne n k W = qedfOne n k (spSort V) :=
 qedf_one_one n k W (spSort V) hW (spSort_sorted V) (fun t e _ => qedf_cnt_perm (h.trans (spSort_perm V).symm) t e)
def impl_IsReachable.f (k : Nat) (l0 : List Int) (a1 : Int) : Option Bool := (impl_WindowsOf.f k l0 a1).bind fun t => if t.2.2 = true then (if t.1.flatten.length = t.2.1.flatten.length ∧ 0 < t.1.flatten.length ∧ t.1.flatten.length ≤ 1000000 then some (qedfOne t.1.flatten.length 1 (spSort (t.1.flatten.zip t.2.1.flatten))) else none) else some false
theorem impl_IsReachable.mono : ∀ a0 a1 k, LeO (impl_IsReachable.f k a0 a1) (impl_IsReachable.f (k + 1) a0 a1) := by
 intro a0 a1 k
 unfold impl_IsReachable.f
 exact LeO.bind (impl_WindowsOf.mono _ _ _) (fun t => LeO.refl _)
theorem spr_append {w0 W w1 : World} {base : Nat} {v v1 : Value} {xs : List Sp} (x : Sp) (h : w1.ownsRow base 93 2 v1 (xs.length + 1) (spf xs ++ [.int .i64 x.1, .int .i64 x.2])) : Spr w1 base v1 (xs ++ [x]) := by
 unfold Spr
 rw [List.length_append, List.length_singleton, spf_app]
 exact h
theorem step_append_span {ops : Array Oper} {o : Oper} {a : Act} {w0 W : World} {Kc : Act → World → Prop} {Q : Exit → Act → World → Prop} {E : Prop} (hg : o.guard = none) (s x : Operand) (hop : o.op = .call { callee := .builtin .append, args := #[s, x], argTypes := #[91, 91] })
  (base : Nat) (v : Value) (xs : List Sp) (y1 y2 : Int) (hs : a.eval s = v) (hx : a.eval x = .slice (some ⟨W.heap.size, 0, none⟩) 1 1) (HS : Spr W base v xs) (HB : Below base w0 W) (hbase : base ≤ W.heap.size) (hl : xs.length ≤ 1000000)
  (h : ∀ v1 w1, Spr w1 base v1 (xs ++ [(y1, y2)]) → Below base w0 w1 → W.grownBy w1 v.ownBlock → Kc (a.put o.dst v1) w1) :
  if Region.wanted o (yielded ops a.tmps) = true then Oper.wp Try.prog o a (W.alloc (.cells #[.int .i64 y1, .int .i64 y2] 93 (0, 0))).drew Kc Q else E := by
 replace HS : Spr W.drew base v xs := HS
 replace HB : Below base w0 W.drew := below_drew HB
 replace hbase : base ≤ W.drew.heap.size := hbase
 replace hx : a.eval x = .slice (some ⟨W.drew.heap.size, 0, none⟩) 1 1 := hx
 rw [show (W.alloc (.cells #[.int .i64 y1, .int .i64 y2] 93 (0, 0))).drew = W.drew.alloc (.cells #[.int .i64 y1, .int .i64 y2] 93 (0, 0)) from rfl]
 have hw : Region.wanted o (yielded ops a.tmps) = true := by simp [Region.wanted, hg]
 rw [if_pos hw]
 have key := step_append_cells (P := Try.prog) (K := Kc) (Q := Q) (w0 := w0) base hw s x 91 93 (.agg #[.int .i64 0, .int .i64 0]) 2 16 hop Try.underlying91 (by kernel_rfl) rfl (by decide) (by decide) v xs.length (spf xs) [.int .i64 y1, .int .i64 y2] hs hx rfl (by intro u hu; simp only [List.mem_cons, List.not_mem_nil, or_false] at hu; rcases hu with rfl | rfl <;> rfl) HS HB hbase (by omega) (fun v1 w1 hown hb hg _ => h v1 w1 (spr_append (w0 := w0) (W := W.drew) (v := v) (y1, y2) hown) hb ⟨hg.os, hg.tape, hg.output, hg.size, hg.block⟩)
 rw [if_pos hw] at key
 exact key
set_option maxHeartbeats 8000000 in
set_option maxRecDepth 100000 in
theorem impl_IsReachable.calls (k : Nat) (A0 : Option Addr) (c0 : Nat) (l0 : List Int) (a1 : Int) (r : Bool) (w : World) (hr0 : Kd.C (Kd.int .i64) w A0 l0.length l0) (hc0 : l0.length ≤ c0) (h : impl_IsReachable.f k l0 a1 = some r) :
  Calls Try.prog 36 #[.slice A0 l0.length c0, .int .i64 a1] w fun e w' => e = .returned (.bool r) ∧ Below w.heap.size w w' := by
 unfold impl_IsReachable.f at h
 obtain ⟨⟨E, L, ok⟩, hW, h⟩ := Option.bind_eq_some_iff.1 h
 simp only at h
 have HW := Aside0.mk hW
 have HR0 := Aside0.mk hr0
 have HC0 := Aside0.mk hc0
 clear hW hr0 hc0
 cases ok with
 | false =>
  rw [if_neg (by decide)] at h
  obtain rfl := Option.some.inj h
  clear h
  go_enter Try.func36, Try.ntmps36
  go_wp2_with (go_at_call 75; refine (impl_WindowsOf.calls k A0 c0 l0 a1 E L false _ HR0.out HC0.out HW.out).mono ?_; rintro e w1 ⟨v0, v1, rfl, hS0, hS1, hb1⟩; clear hS0 hS1; have HB1 := Aside0.mk hb1; clear hb1)
  go_ret
  exact ⟨rfl, HB1.out⟩
 | true =>
  rw [if_pos rfl] at h
  by_cases hc : E.flatten.length = L.flatten.length ∧ 0 < E.flatten.length ∧ E.flatten.length ≤ 1000000
  case neg => rw [if_neg hc] at h; cases h
  rw [if_pos hc] at h
  obtain rfl := Option.some.inj h
  clear h
  obtain ⟨q1, q2, q3⟩ := hc
  obtain ⟨first, hfirst⟩ : ∃ x, x = E.flatten := ⟨_, rfl⟩
  obtain ⟨last, hlast⟩ : ∃ x, x = L.flatten := ⟨_, rfl⟩
  rw [← hfirst, ← hlast] at q1
  rw [← hfirst] at q2 q3
  rw [← hfirst, ← hlast]
  have HF := Aside0.mk hfirst
  have HLA := Aside0.mk hlast
  have Q1 := Aside0.mk q1
  have Q2 := Aside0.mk q2
  have Q3 := Aside0.mk q3
  generalize hR0 : qedfOne first.length 1 (spSort (first.zip last)) = R
  have HR0' := Aside0.mk hR0
  clear hfirst hlast q1 q2 q3 hR0
  go_enter Try.func36, Try.ntmps36
  go_wp2_with (first
   | (go_at_call 75; refine (impl_WindowsOf.calls k A0 c0 l0 a1 E L true _ HR0.out HC0.out HW.out).mono ?_; rintro e w1 ⟨v0, v1, rfl, hS0, hS1, hb1⟩; obtain ⟨AE, cE, rfl, hlE, hE⟩ := Kd.S_reads hS0; obtain ⟨AL, cL, rfl, hlL, hL⟩ := Kd.S_reads hS1; have HE := Aside0.mk hE; have HL := Aside0.mk hL; have HB1 := Aside0.mk hb1; clear hb1 hS0 hS1 hlE hlL hE hL)
   | (go_at_call 70; (with_reducible refine (i64_concat AE cE E _ (Kd.C_below HE.out (below_alloc (Below.refl _ _) _)) (by have := HF.out; have := Q3.out; rw [← HF.out]; omega)).mono ?_); rintro e w2 ⟨v2, rfl, hr2, hb2⟩; rw [← HF.out] at hr2; obtain ⟨A1, c1, rfl, _⟩ := Kd.R_reads hr2; have HV := Aside0.mk hr2; have HB2 := Aside0.mk hb2; clear hr2 hb2)
   | (go_at_call 70; (with_reducible refine (i64_concat AL cL L _ (Kd.C_below HL.out (below_step (below_alloc (Below.refl _ _) _) HB2.out)) (by have := Q1.out; have := Q3.out; rw [← HLA.out]; omega)).mono ?_); rintro e w3 ⟨v3, rfl, hr3, hb3⟩; rw [← HLA.out] at hr3; obtain ⟨A2, c2, rfl, _⟩ := Kd.R_reads hr3; have HU := Aside0.mk hr3; have HB3 := Aside0.mk hb3; clear hr3 hb3))
  have HS0 : Aside0 (Spr w3 w.heap.size (.slice (some ⟨w1.heap.size, 0, none⟩) 0 0) []) := ⟨by
   have h1 := World.ownsRow_made (base := w.heap.size) (e := 93) (size := 2) w1 #[] 0 HB1.out.size (by decide) rfl
   exact own_move (own_move h1 fun k hk => HB2.out.block k (own_lt h1 k hk)) fun k hk => HB3.out.block k (by have := own_lt h1 k hk; have := HB2.out.size; omega)⟩
  have HB4 : Aside0 (Below w.heap.size w w3) := ⟨below_step (below_step (below_alloc HB1.out _) HB2.out) HB3.out⟩
  have HV4 : Aside0 (Kd.R (Kd.int .i64) 2 w3 w.heap.size (fun _ => True) (.slice A1 first.length c1) first) := ⟨Kd.R_lower (Kd.R_below HV.out HB3.out) (by have := HB1.out.size; simp; omega)⟩
  have HU4 : Aside0 (Kd.R (Kd.int .i64) 2 w3 w.heap.size (fun _ => True) (.slice A2 last.length c2) last) := ⟨Kd.R_lower HU.out (by have := HB1.out.size; have := HB2.out.size; simp at this; omega)⟩
  clear HB1 HB2 HB3 HV HU HE HL HW HR0 HC0
  generalize w1.heap.size = g0 at HS0 ⊢
  try clear w1 w2
  have hn1 := Q3.out
  go_wp2
  go_loopg [8, 11, 30] first.length (fun gg s8 _ s30 w' => ∃ kk : Nat, kk ≤ first.length ∧ first.length - kk ≤ gg ∧ s30 = .int .i64 kk ∧ Aside0 (Spr w' w.heap.size s8 ((first.zip last).take kk)) ∧ Aside0 (Below w.heap.size w w') ∧ Aside0 (Kd.R (Kd.int .i64) 2 w' w.heap.size (fun _ => True) (.slice A1 first.length c1) first) ∧ Aside0 (Kd.R (Kd.int .i64) 2 w' w.heap.size (fun _ => True) (.slice A2 last.length c2) last))
  case atStart => exact ⟨0, Nat.zero_le _, by omega, rfl, HS0, HB4, HV4, HU4⟩
  case round =>
   clear HS0 HB4 HV4 HU4
   obtain ⟨kk, hkk, hg, rfl, HS, HB, HV, HU⟩ := hrel
   by_cases hlt : kk < first.length
   ·have hltz : (kk : Int) < (first.length : Int) := by omega
    have hltl : (kk : Int) < (last.length : Int) := by have := Q1.out; omega
    have hz0 : (0 : Int) ≤ (kk : Int) := by omega
    obtain ⟨ad1, e1, hx1⟩ := Kd.at_int (Kd.R_reads' HV.out).2.2 (kk : Int) hz0 hltz
    obtain ⟨ad2, e2, hx2⟩ := Kd.at_int (Kd.R_reads' HU.out).2.2 (kk : Int) hz0 hltl
    subst e1
    subst e2
    rw [Int.toNat_natCast] at hx1 hx2
    generalize hy1 : rd first (kk : Int) = y1 at hx1
    generalize hy2 : rd last (kk : Int) = y2 at hx2
    have HY1 := Aside0.mk hy1
    have HY2 := Aside0.mk hy2
    clear hy1 hy2
    go_wp2
    have mixed : Try.prog.follows Departure.mixedOrders = true := by kernel_rfl
    go_region_law_o (refine step_append_span (w0 := w) rfl (.tmp 33) (.tmp 43) rfl w.heap.size u8 ((first.zip last).take kk) y1 y2 (by simp [Act.eval, Act.put]) (by simp [Act.eval, Act.put]) HS.out HB.out HB.out.size (by rw [List.length_take]; have := Q3.out; omega) ?_; intro v1 w4 hown hb4 hg4; have HO4 := Aside0.mk hown; have HB4 := Aside0.mk hb4; have HG4 := Aside0.mk hg4; clear hown hb4 hg4)
    all_goals
     have hel : (first.zip last).take (kk + 1) = (first.zip last).take kk ++ [(y1, y2)] := by
      have hz : kk < (first.zip last).length := by rw [List.length_zip]; omega
      rw [List.take_succ_eq_append_getElem hz]
      congr 2
      have h1 := HY1.out
      have h2 := HY2.out
      unfold rd at h1 h2
      rw [Int.toNat_natCast, List.getD_eq_getElem?_getD] at h1 h2
      rw [List.getElem?_eq_getElem hlt] at h1
      rw [List.getElem?_eq_getElem (by omega)] at h2
      rw [List.getElem_zip, ← h1, ← h2]
      rfl
     have HEL := Aside0.mk hel
     clear hel
     have HV5 : Aside0 (Kd.R (Kd.int .i64) 2 w4 w.heap.size (fun _ => True) (.slice (some ad1) first.length c1) first) := ⟨Kd.R_over' HV.out (fun k hk => own_typed HS.out k hk) (by simp [Kd.int, Kd.scalar]) HG4.out⟩
     have HU5 : Aside0 (Kd.R (Kd.int .i64) 2 w4 w.heap.size (fun _ => True) (.slice (some ad2) last.length c2) last) := ⟨Kd.R_over' HU.out (fun k hk => own_typed HS.out k hk) (by simp [Kd.int, Kd.scalar]) HG4.out⟩
     clear HV HU HS HG4 HB
     go_wp2
     go_roundg (first.length - (kk + 1))
     case measure => omega
     case rel => exact ⟨kk + 1, by omega, by omega, by go_num, ⟨by rw [HEL.out]; exact HO4.out⟩, HB4, HV5, HU5⟩
   ·have hke : kk = first.length := by omega
    subst hke
    have hzl : (first.zip last).length = first.length := by rw [List.length_zip]; have := Q1.out; omega
    have hS0 := HS.out
    rw [← hzl, List.take_length] at hS0
    have hR0 := HR0'.out
    rw [← hzl] at hR0
    clear HR0'
    have hQ2 := Q2.out
    have hQ3 := Q3.out
    rw [← hzl] at hQ2 hQ3
    generalize first.zip last = zs at hS0 hQ2 hQ3 hR0
    clear HS HV HU hzl
    obtain ⟨g, cap, cur, rfl, hgb, hgl, _⟩ := hS0.open hQ2
    have HS := Aside0.mk hS0
    have HQ2 := Aside0.mk hQ2
    have HQ3 := Aside0.mk hQ3
    have HGB := Aside0.mk hgb
    have HR0 := Aside0.mk hR0
    have hltz : ¬ ((first.length : Nat) : Int) < (first.length : Int) := by omega
    clear hS0 hQ2 hQ3 hgb hgl hR0
    go_wp2_with (go_at_call 76; refine (spr_sort w.heap.size g cap zs _ HS.out HQ2.out HQ3.out).mono ?_; rintro e w5 ⟨rfl, ys, hp, hso, hys, hgr⟩; have HP := Aside0.mk hp; have HSO := Aside0.mk hso; have HYS := Aside0.mk hys; have HGR := Aside0.mk hgr; clear hp hso hys hgr)
    have hyl := HP.out.length_eq
    have hRR : qedfOne ys.length 1 ys = R := by rw [← HR0.out, ← hyl]; exact sp_any _ _ HP.out HSO.out
    have hzy : zs.length = ys.length := hyl.symm
    have HRR := Aside0.mk hRR
    have HYL : Aside0 (ys.length ≤ 1000000) := ⟨by rw [hyl]; exact HQ3.out⟩
    have HB5 : Aside0 (Below w.heap.size w w5) := ⟨HB.out.grown HGR.out HB.out.size (fun k hk => by injection hk with hk; rw [← hk]; exact HGB.out)⟩
    rw [hzy]
    clear HR0 hRR hyl HP HSO HQ3 HQ2 HS HB HGR hzy
    go_loopg [8, 12, 13] ys.length (fun gg s8 s12 _ w' => ∃ (W : List Sp) (kz : Int) (gb : Nat), s8 = .slice (some ⟨g, 0, none⟩) W.length cap ∧ s12 = .pointer (some ⟨gb, 0, none⟩) ∧ W.length ≤ gg ∧ Aside0 (Spr w' w.heap.size (.slice (some ⟨g, 0, none⟩) W.length cap) W) ∧ Aside0 (w'.heap[gb]? = some (.cells #[.int .i64 kz] 2 (0, 0))) ∧ Aside0 (w.heap.size ≤ gb) ∧ Aside0 (Below w.heap.size w w') ∧ Aside0 (qedfOne W.length kz W = R) ∧ Aside0 (1 ≤ kz ∧ kz + W.length ≤ 1000001))
    case atStart => exact ⟨ys, 1, w5.heap.size, rfl, rfl, Nat.le_refl _, ⟨HYS.out.below (below_alloc (Below.refl _ _) _)⟩, ⟨blk_new _ _⟩, ⟨HB5.out.size⟩, ⟨below_alloc HB5.out _⟩, HRR, ⟨by omega, by have := HYL.out; omega⟩⟩
    case round =>
     clear HYS HRR HB5 HYL
     obtain ⟨W, kz, gb, rfl, rfl, hlen, HS, HK, HG, HB, HR, HZ⟩ := hrel
     by_cases hpos : 0 < W.length
     ·have hposz : (0 : Int) < (W.length : Int) := by omega
      obtain ⟨n, hn⟩ : ∃ n, W.length = n + 1 := ⟨W.length - 1, by omega⟩
      have hr := HR.out
      rw [hn, qedfOne] at hr
      have HN := Aside0.mk hn
      clear hn
      have hWl : W.length ≤ 1000000 := by have := HZ.out; omega
      have HWL := Aside0.mk hWl
      have HI := fun w1 (hb : Below wr.heap.size wr w1) => spr_ixf gb kz w.heap.size (some ⟨g, 0, none⟩) cap W w1 (HS.out.below hb) HWL.out (blk_below HK.out hb)
      cases hf : W.findIdx? (fun s => decide (s.1 ≤ kz)) with
      | none =>
       rw [hf] at hr
       simp only at hr
       subst hr
       have hix : spr_idxf (fun s : Sp => decide (s.1 ≤ kz)) W = -1 := by unfold spr_idxf; rw [hf]
       rw [hix] at HI
       have HI' := Aside0.mk HI
       clear HI hix hf hWl
       go_wp2_with (go_at_call 79; (with_reducible refine (HI'.out _ (by first | exact Below.refl _ _ | exact below_drew (Below.refl _ _) | exact pw_below_drewN (Below.refl _ _) _)).mono ?_); rintro e w6 ⟨rfl, hb6⟩; have HB6 := Aside0.mk hb6; clear hb6)
       go_region
       all_goals
        go_wp2
        go_ret
        exact ⟨rfl, by first | exact below_then HB.out HB.out.size HB6.out | exact below_drew (below_then HB.out HB.out.size HB6.out) | exact pw_below_drewN (below_then HB.out HB.out.size HB6.out) _⟩
      | some i =>
       rw [hf] at hr
       simp only at hr
       have hix : spr_idxf (fun s : Sp => decide (s.1 ≤ kz)) W = (i : Int) := by unfold spr_idxf; rw [hf]
       rw [hix] at HI
       have HI' := Aside0.mk HI
       obtain ⟨hi, hi1, _⟩ := List.findIdx?_eq_some_iff_getElem.1 hf
       have hgd : W.getD i (0, 0) = W[i] := by rw [List.getD_eq_getElem?_getD, List.getElem?_eq_getElem hi]; rfl
       rw [hgd] at hr
       have hhi := Aside0.mk hi
       have hin : ¬ (i : Int) < 0 := by omega
       have hiz : (i : Int) < (W.length : Int) := by omega
       have hi0 : (0 : Int) ≤ (i : Int) := by omega
       have HX := fun w1 (hb : Below wr.heap.size wr w1) => ((HS.out.below hb).cells i hi).2
       have HKC := fun w1 (hb : Below wr.heap.size wr w1) => (show w1.cell? ⟨gb, 0, none⟩ = some (.int .i64 kz) from (blk_cell (blk_below HK.out hb) 0).trans rfl)
       have HX' := Aside0.mk HX
       have HKC' := Aside0.mk HKC
       clear HI hix hf hWl hi1 hgd HX HKC
       by_cases hlate : W[i].2 < kz
       ·rw [if_pos hlate] at hr
        subst hr
        go_wp2_with (go_at_call 79; (with_reducible refine (HI'.out _ (by first | exact Below.refl _ _ | exact below_drew (Below.refl _ _) | exact pw_below_drewN (Below.refl _ _) _)).mono ?_); rintro e w6 ⟨rfl, hb6⟩; have HB6 := Aside0.mk hb6; have hx := HX'.out _ hb6; have hkc := HKC'.out _ hb6; clear hb6)
        go_region
        all_goals
         go_wp2
         go_ret
         exact ⟨rfl, by first | exact below_then HB.out HB.out.size HB6.out | exact below_drew (below_then HB.out HB.out.size HB6.out) | exact pw_below_drewN (below_then HB.out HB.out.size HB6.out) _⟩
       ·rw [if_neg hlate] at hr
        have HR2 := Aside0.mk hr
        have hel : (W.eraseIdx i).length = n := by rw [List.length_eraseIdx_of_lt hi, HN.out]; rfl
        have HEL := Aside0.mk hel
        have hz1 : kz + 1 ≤ 1000001 := by have := HZ.out; omega
        have hz2 : (1 : Int) ≤ kz := HZ.out.1
        have hwi : wrap64 ((i : Int) + 1) = ((i + 1 : Nat) : Int) := by have := HWL.out; unfold wrap64; omega
        have HDL := fun w1 (hb : Below wr.heap.size wr w1) => (show Calls Try.prog 81 #[.slice (some ⟨g, 0, none⟩) W.length cap, .int .i64 i, .int .i64 (wrap64 ((i : Int) + 1))] w1 _ from by rw [hwi]; exact spr_delete w.heap.size g cap i W w1 (HS.out.below hb) hi)
        have hne : some gb ≠ some g := by
         obtain ⟨g2, cap2, cur2, hv2, _, _, hh2, _⟩ := HS.out.open hpos
         injection hv2 with e1 _ _
         injection e1 with e1
         injection e1 with e1 _
         intro he
         injection he with he
         have h1 := HK.out
         rw [he, e1, hh2] at h1
         injection h1 with h1
         injection h1 with _ h1
         exact absurd h1 (by decide)
        have HNE := Aside0.mk hne
        clear hne hwi
        have HDL' := Aside0.mk HDL
        clear hr hel HDL
        go_wp2_with (go_at_call 79; (with_reducible refine (HI'.out _ (by first | exact Below.refl _ _ | exact below_drew (Below.refl _ _) | exact pw_below_drewN (Below.refl _ _) _)).mono ?_); rintro e w6 ⟨rfl, hb6⟩; have HB6 := Aside0.mk hb6; have hx := HX'.out _ hb6; have hkc := HKC'.out _ hb6; clear hb6)
        go_region
        all_goals
         go_wp2_with (go_at_call 81; (with_reducible refine (HDL'.out _ (by first | exact HB6.out | exact below_drew HB6.out | exact pw_below_drewN HB6.out _)).mono ?_); rintro e w7 ⟨rfl, hys, hgr⟩; have HYS := Aside0.mk hys; have HGR := Aside0.mk hgr; have HK7 : Aside0 (w7.heap[gb]? = some (.cells #[.int .i64 kz] 2 (0, 0))) := ⟨blk_grown (blk_below HK.out (by first | exact HB6.out | exact below_drew HB6.out | exact pw_below_drewN HB6.out _)) hgr HNE.out⟩; have HB7 : Aside0 (Below w.heap.size w w7) := ⟨(below_then HB.out HB.out.size (by first | exact HB6.out | exact below_drew HB6.out | exact pw_below_drewN HB6.out _)).grown hgr (below_then HB.out HB.out.size (by first | exact HB6.out | exact below_drew HB6.out | exact pw_below_drewN HB6.out _)).size (fun k hk => by injection hk with hk; rw [← hk]; exact HGB.out)⟩; have hk7 : w7.cell? ⟨gb, 0, none⟩ = some (.int .i64 kz) := ((blk_cell HK7.out 0).trans rfl); clear hys hgr)
         have hn := HN.out
         go_roundg n
         case measure => omega
         case rel => exact ⟨W.eraseIdx i, kz + 1, w7.heap.size, by rw [HEL.out, hn, Nat.add_sub_cancel], rfl, by rw [HEL.out]; exact Nat.le_refl _, ⟨by have h7 := HYS.out.below (below_alloc (Below.refl _ _) (.cells #[.int .i64 (kz + 1)] 2 (0, 0))); rw [hn, Nat.add_sub_cancel] at h7; rw [HEL.out]; exact h7⟩, ⟨blk_new _ _⟩, ⟨HB7.out.size⟩, ⟨below_alloc HB7.out _⟩, ⟨by rw [HEL.out]; exact HR2.out⟩, ⟨by omega, by rw [HEL.out]; have := HZ.out; omega⟩⟩
     ·have hW0 : W = [] := List.length_eq_zero_iff.1 (by omega)
      have hposz : ¬ (0 : Int) < (W.length : Int) := by omega
      have hr := HR.out
      rw [hW0] at hr
      have hr2 : true = R := hr
      subst hr2
      go_wp2
      go_ret
      exact ⟨rfl, by first | exact HB.out | exact pw_below_drewN HB.out _⟩
end Go.Proofs.Ytdlnhddpgopghaa.Q
namespace Go.Proofs.Ytdlnhddpgopghaa.Q
open Go.RowKit Go.Proofs.YtdlnhddpgopghaaW.PrintWords Go.Proofs.YtdlnhddpgopghaaW.PrintLast Go.Proofs.YtdlnhddpgopghaaW.PrintMore
attribute [local go_sem] max2_int min2_int max_two min_two max_three min_three max_four min_four   -- for this text's walks alone
set_option linter.unusedVariables false
set_option linter.unusedSimpArgs false
def laws_FnExactIsReachable.f (k : Nat) (l0 : List Int) (a1 : Int) : Option (Bool) := if (l0.length : Int) > 1048576 then (some true) else ((laws_toInt64S.f k l0).bind fun t542 => ((spec_IsReachable.f k t542 a1).bind fun t545 => ((laws_toInt64S.f k l0).bind fun t546 => ((impl_IsReachable.f k t546 a1).bind fun t549 => (if (t549 != t545) = true then (some false) else ((laws_toInt64S.f k l0).bind fun t550 => ((laws_eqInt64S.f k t546 t550).bind fun t553 => (if t553 = true then (some true) else (some false)))))))))
theorem laws_FnExactIsReachable.mono : ∀ a0 a1 k, LeO (laws_FnExactIsReachable.f k a0 a1) (laws_FnExactIsReachable.f (k + 1) a0 a1) := by
 intro a0 a1 k
 unfold laws_FnExactIsReachable.f
 repeat' first
   | (with_reducible exact impl_IsReachable.mono _ _ _)
   | (with_reducible exact laws_eqInt64S.mono _ _ _)
   | (with_reducible exact laws_toInt64S.mono _ _)
   | (with_reducible exact spec_IsReachable.mono _ _ _)
   | (with_reducible exact LeO.refl _)
   | (with_reducible exact LeO.none _)
   | (with_reducible refine LeO.ite ?_ ?_)
   | (with_reducible refine LeO.bind ?_ (fun _ => ?_))
   | exact impl_IsReachable.mono _ _ _
   | exact laws_eqInt64S.mono _ _ _
   | exact laws_toInt64S.mono _ _
   | exact spec_IsReachable.mono _ _ _
   | exact LeO.none _
   | refine LeO.ite ?_ ?_
   | refine LeO.bind ?_ (fun _ => ?_)
set_option maxHeartbeats 8000000 in
set_option maxRecDepth 100000 in
theorem laws_FnExactIsReachable.calls (k : Nat) (A0 : Option Addr) (c0 : Nat) (l0 : List Int) (a1 : Int) (r : Bool) (w : World) (hr0 : Kd.C (Kd.int .i64) w A0 l0.length l0) (hc0 : l0.length ≤ c0) (h : laws_FnExactIsReachable.f k l0 a1 = some r) :
  Calls Try.prog 7 #[.slice A0 l0.length c0, .int .i64 a1] w fun e w' => e = .returned (.bool r) ∧ Below w.heap.size w w' := by
 have HR0 := Aside0.mk hr0
 have HC0 := Aside0.mk hc0
 clear hr0 hc0
 have HB := Aside0.mk (Below.refl w.heap.size w)
 have H : (if (l0.length : Int) > 1048576 then (some true) else ((laws_toInt64S.f k l0).bind fun t542 => ((spec_IsReachable.f k t542 a1).bind fun t545 => ((laws_toInt64S.f k l0).bind fun t546 => ((impl_IsReachable.f k t546 a1).bind fun t549 => (if (t549 != t545) = true then (some false) else ((laws_toInt64S.f k l0).bind fun t550 => ((laws_eqInt64S.f k t546 t550).bind fun t553 => (if t553 = true then (some true) else (some false)))))))))) = some r := h
 clear h
 by_cases c3 : (l0.length : Int) > 1048576
 ·rw [if_pos c3] at H
  have c3b0 : decide (1048576 < (l0.length : Int)) = true := decide_eq_true c3
  have c3b1 : decide (1048576 < l0.length) = true := decide_eq_true (by omega)
  clear c3
  obtain rfl := Option.some.inj H
  go_enter Try.func7, Try.ntmps7
  go_wp2
  go_ret
  exact ⟨by first | rfl | (simp [errW_none, errW_some] <;> rfl) | (simp [*, errW_none, errW_some] <;> rfl), by repeat (first | (with_reducible first | exact HB.out | apply below_alloc | apply pw_below_drewN | apply below_drew1) | exact HB.out)⟩
 ·rw [if_neg c3] at H
  have c3b0 : decide (1048576 < (l0.length : Int)) = false := decide_eq_false c3
  have c3b1 : decide (1048576 < l0.length) = false := decide_eq_false (by omega)
  clear c3
  replace H := Option.bind_eq_some_iff.mp H
  obtain ⟨t542, A40, H⟩ := H
  replace H : ((spec_IsReachable.f k t542 a1).bind fun t545 => ((laws_toInt64S.f k l0).bind fun t546 => ((impl_IsReachable.f k t546 a1).bind fun t549 => (if (t549 != t545) = true then (some false) else ((laws_toInt64S.f k l0).bind fun t550 => ((laws_eqInt64S.f k t546 t550).bind fun t553 => (if t553 = true then (some true) else (some false)))))))) = some r := H
  have A4 := Aside0.mk A40
  clear A40
  replace H := Option.bind_eq_some_iff.mp H
  obtain ⟨t545, A50, H⟩ := H
  replace H : ((laws_toInt64S.f k l0).bind fun t546 => ((impl_IsReachable.f k t546 a1).bind fun t549 => (if (t549 != t545) = true then (some false) else ((laws_toInt64S.f k l0).bind fun t550 => ((laws_eqInt64S.f k t546 t550).bind fun t553 => (if t553 = true then (some true) else (some false))))))) = some r := H
  have A5 := Aside0.mk A50
  clear A50
  replace H := Option.bind_eq_some_iff.mp H
  obtain ⟨t546, A60, H⟩ := H
  replace H : ((impl_IsReachable.f k t546 a1).bind fun t549 => (if (t549 != t545) = true then (some false) else ((laws_toInt64S.f k l0).bind fun t550 => ((laws_eqInt64S.f k t546 t550).bind fun t553 => (if t553 = true then (some true) else (some false)))))) = some r := H
  have A6 := Aside0.mk A60
  clear A60
  replace H := Option.bind_eq_some_iff.mp H
  obtain ⟨t549, A70, H⟩ := H
  replace H : (if (t549 != t545) = true then (some false) else ((laws_toInt64S.f k l0).bind fun t550 => ((laws_eqInt64S.f k t546 t550).bind fun t553 => (if t553 = true then (some true) else (some false))))) = some r := H
  have A7 := Aside0.mk A70
  clear A70
  by_cases c8 : (t549 != t545) = true
  ·rw [if_pos c8] at H
   have c8b0 : (t549 != t545) = true := c8
   (try (have c8b1 : decide (t549 = t545) = false := by simpa using c8))
   (try (have c8b2 : (t549 == t545) = false := by simpa using c8))
   (try (have c8b3 : ¬ (t549 = t545) := by simpa using c8))
   clear c8
   obtain rfl := Option.some.inj H
   go_enter Try.func7, Try.ntmps7
   go_wp2_with (first | ((with_reducible refine gate_callee (f := 38) rfl ?_); refine goesL_ (some 12) rfl rfl Try.func38 (by kernel_rfl) rfl #[.slice A0 l0.length c0] rfl (by (try simp only [List.map_toArray, List.map_cons, List.map_nil]); first | done | rfl | (simp only [List.length_drop, List.length_take]; rfl) | (simp only [show ∀ (n_ : Nat) (b_ : Int), Int.tdiv (n_ : Int) b_ = (n_ : Int) / b_ from fun n_ b_ => Int.tdiv_eq_ediv_of_nonneg (Int.natCast_nonneg n_)]; rfl)) ?_; (with_reducible refine (laws_toInt64S.calls k _ _ l0 t542 _ ?side1 ?side2 A4.out).mono ?_); (case side1 => repeat (first | exact HR0.out | (with_reducible refine Kd.C_alloc ?_ _) | (with_reducible refine Kd.C_drewN ?_ _) | (with_reducible refine Kd.C_drew ?_))); (case side2 => exact HC0.out); rintro e w9 ⟨v543, rfl, ho0, hb⟩; refine ⟨_, rfl, ?_⟩; have n0_ := Aside0.mk (Kd.R_lower ho0 (below_size (by repeat (first | (with_reducible first | exact HB.out | apply below_alloc | apply pw_below_drewN | apply below_drew1) | exact HB.out)))); have n1_ := Aside0.mk (below_step (by repeat (first | (with_reducible first | exact HB.out | apply below_alloc | apply pw_below_drewN | apply below_drew1) | exact HB.out)) hb); clear HB; have HO544 := n0_; have HB := n1_; clear n0_ n1_; (try clear hb); (try clear hb2); (try clear hk); (try clear hi); (try clear ho0); obtain ⟨Ao10, co10, eo10⟩ := Kd.R_slice HO544.out; subst eo10) | ((with_reducible refine gate_callee (f := 40) rfl ?_); refine goesL_ (some 14) rfl rfl Try.func40 (by kernel_rfl) rfl #[.slice Ao10 t542.length co10, .int .i64 a1] rfl (by (try simp only [List.map_toArray, List.map_cons, List.map_nil]); first | done | rfl | (simp only [List.length_drop, List.length_take]; rfl) | (simp only [show ∀ (n_ : Nat) (b_ : Int), Int.tdiv (n_ : Int) b_ = (n_ : Int) / b_ from fun n_ b_ => Int.tdiv_eq_ediv_of_nonneg (Int.natCast_nonneg n_)]; rfl)) ?_; (with_reducible refine (spec_IsReachable.calls k _ _ t542 a1 t545 _ ?side1 ?side2 A5.out).mono ?_); (case side1 => repeat (first | exact (Kd.R_reads' HO544.out).2.2 | (with_reducible refine Kd.C_alloc ?_ _) | (with_reducible refine Kd.C_drewN ?_ _) | (with_reducible refine Kd.C_drew ?_))); (case side2 => exact (Kd.R_reads' HO544.out).2.1); rintro e w11 ⟨rfl, hb⟩; refine ⟨_, rfl, ?_⟩; have n0_ := Aside0.mk (Kd.R_below (by (with_reducible repeat (first | apply Kd.R_alloc | apply Kd.R_drewN | apply Kd.R_drew)); exact HO544.out) hb); have n1_ := Aside0.mk (below_step (by repeat (first | (with_reducible first | exact HB.out | apply below_alloc | apply pw_below_drewN | apply below_drew1) | exact HB.out)) hb); clear HO544; clear HB; have HO544 := n0_; have HB := n1_; clear n0_ n1_; (try clear hb); (try clear hb2); (try clear hk); (try clear hi)) | ((with_reducible refine gate_callee (f := 38) rfl ?_); refine goesL_ (some 16) rfl rfl Try.func38 (by kernel_rfl) rfl #[.slice A0 l0.length c0] rfl (by (try simp only [List.map_toArray, List.map_cons, List.map_nil]); first | done | rfl | (simp only [List.length_drop, List.length_take]; rfl) | (simp only [show ∀ (n_ : Nat) (b_ : Int), Int.tdiv (n_ : Int) b_ = (n_ : Int) / b_ from fun n_ b_ => Int.tdiv_eq_ediv_of_nonneg (Int.natCast_nonneg n_)]; rfl)) ?_; (with_reducible refine (laws_toInt64S.calls k _ _ l0 t546 _ ?side1 ?side2 A6.out).mono ?_); (case side1 => repeat (first | exact (Kd.C_below HR0.out HB.out) | (with_reducible refine Kd.C_alloc ?_ _) | (with_reducible refine Kd.C_drewN ?_ _) | (with_reducible refine Kd.C_drew ?_))); (case side2 => exact HC0.out); rintro e w12 ⟨v547, rfl, ho0, hb⟩; refine ⟨_, rfl, ?_⟩; have n0_ := Aside0.mk (Kd.R_elder' (by (with_reducible repeat (first | apply Kd.R_alloc | apply Kd.R_drewN | apply Kd.R_drew)); exact HO544.out) (Kd.R_base ho0) hb); have n1_ := Aside0.mk (Kd.R_lower (Kd.R_new' ho0 (Kd.R_lt (by (with_reducible repeat (first | apply Kd.R_alloc | apply Kd.R_drewN | apply Kd.R_drew)); exact HO544.out))) (below_size (by repeat (first | (with_reducible first | exact HB.out | apply below_alloc | apply pw_below_drewN | apply below_drew1) | exact HB.out)))); have n2_ := Aside0.mk (below_step (by repeat (first | (with_reducible first | exact HB.out | apply below_alloc | apply pw_below_drewN | apply below_drew1) | exact HB.out)) hb); clear HO544; clear HB; have HO544 := n0_; have HO548 := n1_; have HB := n2_; clear n0_ n1_ n2_; (try clear hb); (try clear hb2); (try clear hk); (try clear hi); (try clear ho0); obtain ⟨Ao13, co13, eo13⟩ := Kd.R_slice HO548.out; subst eo13) | ((with_reducible refine gate_callee (f := 36) rfl ?_); refine goesL_ (some 19) rfl rfl Try.func36 (by kernel_rfl) rfl #[.slice Ao13 t546.length co13, .int .i64 a1] rfl (by (try simp only [List.map_toArray, List.map_cons, List.map_nil]); first | done | rfl | (simp only [List.length_drop, List.length_take]; rfl) | (simp only [show ∀ (n_ : Nat) (b_ : Int), Int.tdiv (n_ : Int) b_ = (n_ : Int) / b_ from fun n_ b_ => Int.tdiv_eq_ediv_of_nonneg (Int.natCast_nonneg n_)]; rfl)) ?_; (with_reducible refine (impl_IsReachable.calls k _ _ t546 a1 t549 _ ?side1 ?side2 A7.out).mono ?_); (case side1 => repeat (first | exact (Kd.R_reads' HO548.out).2.2 | (with_reducible refine Kd.C_alloc ?_ _) | (with_reducible refine Kd.C_drewN ?_ _) | (with_reducible refine Kd.C_drew ?_))); (case side2 => exact (Kd.R_reads' HO548.out).2.1); rintro e w14 ⟨rfl, hb⟩; refine ⟨_, rfl, ?_⟩; have n0_ := Aside0.mk (Kd.R_below (by (with_reducible repeat (first | apply Kd.R_alloc | apply Kd.R_drewN | apply Kd.R_drew)); exact HO544.out) hb); have n1_ := Aside0.mk (Kd.R_below (by (with_reducible repeat (first | apply Kd.R_alloc | apply Kd.R_drewN | apply Kd.R_drew)); exact HO548.out) hb); have n2_ := Aside0.mk (below_step (by repeat (first | (with_reducible first | exact HB.out | apply below_alloc | apply pw_below_drewN | apply below_drew1) | exact HB.out)) hb); clear HO544; clear HO548; clear HB; have HO544 := n0_; have HO548 := n1_; have HB := n2_; clear n0_ n1_ n2_; (try clear hb); (try clear hb2); (try clear hk); (try clear hi)))
   go_ret
   exact ⟨by first | rfl | (simp [errW_none, errW_some] <;> rfl) | (simp [*, errW_none, errW_some] <;> rfl), by repeat (first | (with_reducible first | exact HB.out | apply below_alloc | apply pw_below_drewN | apply below_drew1) | exact HB.out)⟩
  ·rw [if_neg c8] at H
   have c8b0 : (t549 != t545) = false := by simpa using c8
   (try (have c8b1 : decide (t549 = t545) = true := by simpa using c8))
   (try (have c8b2 : (t549 == t545) = true := by simpa using c8))
   clear c8
   replace H := Option.bind_eq_some_iff.mp H
   obtain ⟨t550, A150, H⟩ := H
   replace H : ((laws_eqInt64S.f k t546 t550).bind fun t553 => (if t553 = true then (some true) else (some false))) = some r := H
   have A15 := Aside0.mk A150
   clear A150
   replace H := Option.bind_eq_some_iff.mp H
   obtain ⟨t553, A160, H⟩ := H
   replace H : (if t553 = true then (some true) else (some false)) = some r := H
   have A16 := Aside0.mk A160
   clear A160
   by_cases c17 : t553 = true
   ·subst c17
    have H1 : (some true) = some r := by rw [if_pos rfl] at H; exact H
    clear H
    have H := H1
    clear H1
    obtain rfl := Option.some.inj H
    go_enter Try.func7, Try.ntmps7
    go_wp2_with (first | ((with_reducible refine gate_callee (f := 38) rfl ?_); refine goesL_ (some 12) rfl rfl Try.func38 (by kernel_rfl) rfl #[.slice A0 l0.length c0] rfl (by (try simp only [List.map_toArray, List.map_cons, List.map_nil]); first | done | rfl | (simp only [List.length_drop, List.length_take]; rfl) | (simp only [show ∀ (n_ : Nat) (b_ : Int), Int.tdiv (n_ : Int) b_ = (n_ : Int) / b_ from fun n_ b_ => Int.tdiv_eq_ediv_of_nonneg (Int.natCast_nonneg n_)]; rfl)) ?_; (with_reducible refine (laws_toInt64S.calls k _ _ l0 t542 _ ?side1 ?side2 A4.out).mono ?_); (case side1 => repeat (first | exact HR0.out | (with_reducible refine Kd.C_alloc ?_ _) | (with_reducible refine Kd.C_drewN ?_ _) | (with_reducible refine Kd.C_drew ?_))); (case side2 => exact HC0.out); rintro e w18 ⟨v543, rfl, ho0, hb⟩; refine ⟨_, rfl, ?_⟩; have n0_ := Aside0.mk (Kd.R_lower ho0 (below_size (by repeat (first | (with_reducible first | exact HB.out | apply below_alloc | apply pw_below_drewN | apply below_drew1) | exact HB.out)))); have n1_ := Aside0.mk (below_step (by repeat (first | (with_reducible first | exact HB.out | apply below_alloc | apply pw_below_drewN | apply below_drew1) | exact HB.out)) hb); clear HB; have HO544 := n0_; have HB := n1_; clear n0_ n1_; (try clear hb); (try clear hb2); (try clear hk); (try clear hi); (try clear ho0); obtain ⟨Ao19, co19, eo19⟩ := Kd.R_slice HO544.out; subst eo19) | ((with_reducible refine gate_callee (f := 40) rfl ?_); refine goesL_ (some 14) rfl rfl Try.func40 (by kernel_rfl) rfl #[.slice Ao19 t542.length co19, .int .i64 a1] rfl (by (try simp only [List.map_toArray, List.map_cons, List.map_nil]); first | done | rfl | (simp only [List.length_drop, List.length_take]; rfl) | (simp only [show ∀ (n_ : Nat) (b_ : Int), Int.tdiv (n_ : Int) b_ = (n_ : Int) / b_ from fun n_ b_ => Int.tdiv_eq_ediv_of_nonneg (Int.natCast_nonneg n_)]; rfl)) ?_; (with_reducible refine (spec_IsReachable.calls k _ _ t542 a1 t545 _ ?side1 ?side2 A5.out).mono ?_); (case side1 => repeat (first | exact (Kd.R_reads' HO544.out).2.2 | (with_reducible refine Kd.C_alloc ?_ _) | (with_reducible refine Kd.C_drewN ?_ _) | (with_reducible refine Kd.C_drew ?_))); (case side2 => exact (Kd.R_reads' HO544.out).2.1); rintro e w20 ⟨rfl, hb⟩; refine ⟨_, rfl, ?_⟩; have n0_ := Aside0.mk (Kd.R_below (by (with_reducible repeat (first | apply Kd.R_alloc | apply Kd.R_drewN | apply Kd.R_drew)); exact HO544.out) hb); have n1_ := Aside0.mk (below_step (by repeat (first | (with_reducible first | exact HB.out | apply below_alloc | apply pw_below_drewN | apply below_drew1) | exact HB.out)) hb); clear HO544; clear HB; have HO544 := n0_; have HB := n1_; clear n0_ n1_; (try clear hb); (try clear hb2); (try clear hk); (try clear hi)) | ((with_reducible refine gate_callee (f := 38) rfl ?_); refine goesL_ (some 16) rfl rfl Try.func38 (by kernel_rfl) rfl #[.slice A0 l0.length c0] rfl (by (try simp only [List.map_toArray, List.map_cons, List.map_nil]); first | done | rfl | (simp only [List.length_drop, List.length_take]; rfl) | (simp only [show ∀ (n_ : Nat) (b_ : Int), Int.tdiv (n_ : Int) b_ = (n_ : Int) / b_ from fun n_ b_ => Int.tdiv_eq_ediv_of_nonneg (Int.natCast_nonneg n_)]; rfl)) ?_; (with_reducible refine (laws_toInt64S.calls k _ _ l0 t546 _ ?side1 ?side2 A6.out).mono ?_); (case side1 => repeat (first | exact (Kd.C_below HR0.out HB.out) | (with_reducible refine Kd.C_alloc ?_ _) | (with_reducible refine Kd.C_drewN ?_ _) | (with_reducible refine Kd.C_drew ?_))); (case side2 => exact HC0.out); rintro e w21 ⟨v547, rfl, ho0, hb⟩; refine ⟨_, rfl, ?_⟩; have n0_ := Aside0.mk (Kd.R_elder' (by (with_reducible repeat (first | apply Kd.R_alloc | apply Kd.R_drewN | apply Kd.R_drew)); exact HO544.out) (Kd.R_base ho0) hb); have n1_ := Aside0.mk (Kd.R_lower (Kd.R_new' ho0 (Kd.R_lt (by (with_reducible repeat (first | apply Kd.R_alloc | apply Kd.R_drewN | apply Kd.R_drew)); exact HO544.out))) (below_size (by repeat (first | (with_reducible first | exact HB.out | apply below_alloc | apply pw_below_drewN | apply below_drew1) | exact HB.out)))); have n2_ := Aside0.mk (below_step (by repeat (first | (with_reducible first | exact HB.out | apply below_alloc | apply pw_below_drewN | apply below_drew1) | exact HB.out)) hb); clear HO544; clear HB; have HO544 := n0_; have HO548 := n1_; have HB := n2_; clear n0_ n1_ n2_; (try clear hb); (try clear hb2); (try clear hk); (try clear hi); (try clear ho0); obtain ⟨Ao22, co22, eo22⟩ := Kd.R_slice HO548.out; subst eo22) | ((with_reducible refine gate_callee (f := 36) rfl ?_); refine goesL_ (some 19) rfl rfl Try.func36 (by kernel_rfl) rfl #[.slice Ao22 t546.length co22, .int .i64 a1] rfl (by (try simp only [List.map_toArray, List.map_cons, List.map_nil]); first | done | rfl | (simp only [List.length_drop, List.length_take]; rfl) | (simp only [show ∀ (n_ : Nat) (b_ : Int), Int.tdiv (n_ : Int) b_ = (n_ : Int) / b_ from fun n_ b_ => Int.tdiv_eq_ediv_of_nonneg (Int.natCast_nonneg n_)]; rfl)) ?_; (with_reducible refine (impl_IsReachable.calls k _ _ t546 a1 t549 _ ?side1 ?side2 A7.out).mono ?_); (case side1 => repeat (first | exact (Kd.R_reads' HO548.out).2.2 | (with_reducible refine Kd.C_alloc ?_ _) | (with_reducible refine Kd.C_drewN ?_ _) | (with_reducible refine Kd.C_drew ?_))); (case side2 => exact (Kd.R_reads' HO548.out).2.1); rintro e w23 ⟨rfl, hb⟩; refine ⟨_, rfl, ?_⟩; have n0_ := Aside0.mk (Kd.R_below (by (with_reducible repeat (first | apply Kd.R_alloc | apply Kd.R_drewN | apply Kd.R_drew)); exact HO544.out) hb); have n1_ := Aside0.mk (Kd.R_below (by (with_reducible repeat (first | apply Kd.R_alloc | apply Kd.R_drewN | apply Kd.R_drew)); exact HO548.out) hb); have n2_ := Aside0.mk (below_step (by repeat (first | (with_reducible first | exact HB.out | apply below_alloc | apply pw_below_drewN | apply below_drew1) | exact HB.out)) hb); clear HO544; clear HO548; clear HB; have HO544 := n0_; have HO548 := n1_; have HB := n2_; clear n0_ n1_ n2_; (try clear hb); (try clear hb2); (try clear hk); (try clear hi)) | ((with_reducible refine gate_callee (f := 38) rfl ?_); refine goesL_ (some 25) rfl rfl Try.func38 (by kernel_rfl) rfl #[.slice A0 l0.length c0] rfl (by (try simp only [List.map_toArray, List.map_cons, List.map_nil]); first | done | rfl | (simp only [List.length_drop, List.length_take]; rfl) | (simp only [show ∀ (n_ : Nat) (b_ : Int), Int.tdiv (n_ : Int) b_ = (n_ : Int) / b_ from fun n_ b_ => Int.tdiv_eq_ediv_of_nonneg (Int.natCast_nonneg n_)]; rfl)) ?_; (with_reducible refine (laws_toInt64S.calls k _ _ l0 t550 _ ?side1 ?side2 A15.out).mono ?_); (case side1 => repeat (first | exact (Kd.C_below HR0.out HB.out) | (with_reducible refine Kd.C_alloc ?_ _) | (with_reducible refine Kd.C_drewN ?_ _) | (with_reducible refine Kd.C_drew ?_))); (case side2 => exact HC0.out); rintro e w24 ⟨v551, rfl, ho0, hb⟩; refine ⟨_, rfl, ?_⟩; have n0_ := Aside0.mk (Kd.R_elder' (by (with_reducible repeat (first | apply Kd.R_alloc | apply Kd.R_drewN | apply Kd.R_drew)); exact HO544.out) (Kd.R_base ho0) hb); have n1_ := Aside0.mk (Kd.R_elder' (by (with_reducible repeat (first | apply Kd.R_alloc | apply Kd.R_drewN | apply Kd.R_drew)); exact HO548.out) (Kd.R_base ho0) hb); have n2_ := Aside0.mk (Kd.R_lower (Kd.R_new' (Kd.R_new' ho0 (Kd.R_lt (by (with_reducible repeat (first | apply Kd.R_alloc | apply Kd.R_drewN | apply Kd.R_drew)); exact HO544.out))) (Kd.R_lt (by (with_reducible repeat (first | apply Kd.R_alloc | apply Kd.R_drewN | apply Kd.R_drew)); exact HO548.out))) (below_size (by repeat (first | (with_reducible first | exact HB.out | apply below_alloc | apply pw_below_drewN | apply below_drew1) | exact HB.out)))); have n3_ := Aside0.mk (below_step (by repeat (first | (with_reducible first | exact HB.out | apply below_alloc | apply pw_below_drewN | apply below_drew1) | exact HB.out)) hb); clear HO544; clear HO548; clear HB; have HO544 := n0_; have HO548 := n1_; have HO552 := n2_; have HB := n3_; clear n0_ n1_ n2_ n3_; (try clear hb); (try clear hb2); (try clear hk); (try clear hi); (try clear ho0); obtain ⟨Ao25, co25, eo25⟩ := Kd.R_slice HO552.out; subst eo25) | ((with_reducible refine gate_callee (f := 14) rfl ?_); refine goesL_ (some 26) rfl rfl Try.func14 (by kernel_rfl) rfl #[.slice Ao22 t546.length co22, .slice Ao25 t550.length co25] rfl (by (try simp only [List.map_toArray, List.map_cons, List.map_nil]); first | done | rfl | (simp only [List.length_drop, List.length_take]; rfl) | (simp only [show ∀ (n_ : Nat) (b_ : Int), Int.tdiv (n_ : Int) b_ = (n_ : Int) / b_ from fun n_ b_ => Int.tdiv_eq_ediv_of_nonneg (Int.natCast_nonneg n_)]; rfl)) ?_; (with_reducible refine (laws_eqInt64S.calls k _ _ t546 _ _ t550 true _ ?side1 ?side2 ?side3 ?side4 A16.out).mono ?_); (case side1 => repeat (first | exact (Kd.R_reads' HO548.out).2.2 | (with_reducible refine Kd.C_alloc ?_ _) | (with_reducible refine Kd.C_drewN ?_ _) | (with_reducible refine Kd.C_drew ?_))); (case side2 => exact (Kd.R_reads' HO548.out).2.1); (case side3 => repeat (first | exact (Kd.R_reads' HO552.out).2.2 | (with_reducible refine Kd.C_alloc ?_ _) | (with_reducible refine Kd.C_drewN ?_ _) | (with_reducible refine Kd.C_drew ?_))); (case side4 => exact (Kd.R_reads' HO552.out).2.1); rintro e w' ⟨rfl, ⟨nd, rfl⟩⟩; refine ⟨_, rfl, ?_⟩))
    go_ret
    exact ⟨by first | rfl | (simp [errW_none, errW_some] <;> rfl) | (simp [*, errW_none, errW_some] <;> rfl), by repeat (first | (with_reducible first | exact HB.out | apply below_alloc | apply pw_below_drewN | apply below_drew1) | exact HB.out)⟩
   ·replace c17 := Bool.eq_false_iff.mpr c17
    subst c17
    have H1 : (some false) = some r := by rw [if_neg (show ¬ (false = true) by decide)] at H; exact H
    clear H
    have H := H1
    clear H1
    obtain rfl := Option.some.inj H
    go_enter Try.func7, Try.ntmps7
    go_wp2_with (first | ((with_reducible refine gate_callee (f := 38) rfl ?_); refine goesL_ (some 12) rfl rfl Try.func38 (by kernel_rfl) rfl #[.slice A0 l0.length c0] rfl (by (try simp only [List.map_toArray, List.map_cons, List.map_nil]); first | done | rfl | (simp only [List.length_drop, List.length_take]; rfl) | (simp only [show ∀ (n_ : Nat) (b_ : Int), Int.tdiv (n_ : Int) b_ = (n_ : Int) / b_ from fun n_ b_ => Int.tdiv_eq_ediv_of_nonneg (Int.natCast_nonneg n_)]; rfl)) ?_; (with_reducible refine (laws_toInt64S.calls k _ _ l0 t542 _ ?side1 ?side2 A4.out).mono ?_); (case side1 => repeat (first | exact HR0.out | (with_reducible refine Kd.C_alloc ?_ _) | (with_reducible refine Kd.C_drewN ?_ _) | (with_reducible refine Kd.C_drew ?_))); (case side2 => exact HC0.out); rintro e w26 ⟨v543, rfl, ho0, hb⟩; refine ⟨_, rfl, ?_⟩; have n0_ := Aside0.mk (Kd.R_lower ho0 (below_size (by repeat (first | (with_reducible first | exact HB.out | apply below_alloc | apply pw_below_drewN | apply below_drew1) | exact HB.out)))); have n1_ := Aside0.mk (below_step (by repeat (first | (with_reducible first | exact HB.out | apply below_alloc | apply pw_below_drewN | apply below_drew1) | exact HB.out)) hb); clear HB; have HO544 := n0_; have HB := n1_; clear n0_ n1_; (try clear hb); (try clear hb2); (try clear hk); (try clear hi); (try clear ho0); obtain ⟨Ao27, co27, eo27⟩ := Kd.R_slice HO544.out; subst eo27) | ((with_reducible refine gate_callee (f := 40) rfl ?_); refine goesL_ (some 14) rfl rfl Try.func40 (by kernel_rfl) rfl #[.slice Ao27 t542.length co27, .int .i64 a1] rfl (by (try simp only [List.map_toArray, List.map_cons, List.map_nil]); first | done | rfl | (simp only [List.length_drop, List.length_take]; rfl) | (simp only [show ∀ (n_ : Nat) (b_ : Int), Int.tdiv (n_ : Int) b_ = (n_ : Int) / b_ from fun n_ b_ => Int.tdiv_eq_ediv_of_nonneg (Int.natCast_nonneg n_)]; rfl)) ?_; (with_reducible refine (spec_IsReachable.calls k _ _ t542 a1 t545 _ ?side1 ?side2 A5.out).mono ?_); (case side1 => repeat (first | exact (Kd.R_reads' HO544.out).2.2 | (with_reducible refine Kd.C_alloc ?_ _) | (with_reducible refine Kd.C_drewN ?_ _) | (with_reducible refine Kd.C_drew ?_))); (case side2 => exact (Kd.R_reads' HO544.out).2.1); rintro e w28 ⟨rfl, hb⟩; refine ⟨_, rfl, ?_⟩; have n0_ := Aside0.mk (Kd.R_below (by (with_reducible repeat (first | apply Kd.R_alloc | apply Kd.R_drewN | apply Kd.R_drew)); exact HO544.out) hb); have n1_ := Aside0.mk (below_step (by repeat (first | (with_reducible first | exact HB.out | apply below_alloc | apply pw_below_drewN | apply below_drew1) | exact HB.out)) hb); clear HO544; clear HB; have HO544 := n0_; have HB := n1_; clear n0_ n1_; (try clear hb); (try clear hb2); (try clear hk); (try clear hi)) | ((with_reducible refine gate_callee (f := 38) rfl ?_); refine goesL_ (some 16) rfl rfl Try.func38 (by kernel_rfl) rfl #[.slice A0 l0.length c0] rfl (by (try simp only [List.map_toArray, List.map_cons, List.map_nil]); first | done | rfl | (simp only [List.length_drop, List.length_take]; rfl) | (simp only [show ∀ (n_ : Nat) (b_ : Int), Int.tdiv (n_ : Int) b_ = (n_ : Int) / b_ from fun n_ b_ => Int.tdiv_eq_ediv_of_nonneg (Int.natCast_nonneg n_)]; rfl)) ?_; (with_reducible refine (laws_toInt64S.calls k _ _ l0 t546 _ ?side1 ?side2 A6.out).mono ?_); (case side1 => repeat (first | exact (Kd.C_below HR0.out HB.out) | (with_reducible refine Kd.C_alloc ?_ _) | (with_reducible refine Kd.C_drewN ?_ _) | (with_reducible refine Kd.C_drew ?_))); (case side2 => exact HC0.out); rintro e w29 ⟨v547, rfl, ho0, hb⟩; refine ⟨_, rfl, ?_⟩; have n0_ := Aside0.mk (Kd.R_elder' (by (with_reducible repeat (first | apply Kd.R_alloc | apply Kd.R_drewN | apply Kd.R_drew)); exact HO544.out) (Kd.R_base ho0) hb); have n1_ := Aside0.mk (Kd.R_lower (Kd.R_new' ho0 (Kd.R_lt (by (with_reducible repeat (first | apply Kd.R_alloc | apply Kd.R_drewN | apply Kd.R_drew)); exact HO544.out))) (below_size (by repeat (first | (with_reducible first | exact HB.out | apply below_alloc | apply pw_below_drewN | apply below_drew1) | exact HB.out)))); have n2_ := Aside0.mk (below_step (by repeat (first | (with_reducible first | exact HB.out | apply below_alloc | apply pw_below_drewN | apply below_drew1) | exact HB.out)) hb); clear HO544; clear HB; have HO544 := n0_; have HO548 := n1_; have HB := n2_; clear n0_ n1_ n2_; (try clear hb); (try clear hb2); (try clear hk); (try clear hi); (try clear ho0); obtain ⟨Ao30, co30, eo30⟩ := Kd.R_slice HO548.out; subst eo30) | ((with_reducible refine gate_callee (f := 36) rfl ?_); refine goesL_ (some 19) rfl rfl Try.func36 (by kernel_rfl) rfl #[.slice Ao30 t546.length co30, .int .i64 a1] rfl (by (try simp only [List.map_toArray, List.map_cons, List.map_nil]); first | done | rfl | (simp only [List.length_drop, List.length_take]; rfl) | (simp only [show ∀ (n_ : Nat) (b_ : Int), Int.tdiv (n_ : Int) b_ = (n_ : Int) / b_ from fun n_ b_ => Int.tdiv_eq_ediv_of_nonneg (Int.natCast_nonneg n_)]; rfl)) ?_; (with_reducible refine (impl_IsReachable.calls k _ _ t546 a1 t549 _ ?side1 ?side2 A7.out).mono ?_); (case side1 => repeat (first | exact (Kd.R_reads' HO548.out).2.2 | (with_reducible refine Kd.C_alloc ?_ _) | (with_reducible refine Kd.C_drewN ?_ _) | (with_reducible refine Kd.C_drew ?_))); (case side2 => exact (Kd.R_reads' HO548.out).2.1); rintro e w31 ⟨rfl, hb⟩; refine ⟨_, rfl, ?_⟩; have n0_ := Aside0.mk (Kd.R_below (by (with_reducible repeat (first | apply Kd.R_alloc | apply Kd.R_drewN | apply Kd.R_drew)); exact HO544.out) hb); have n1_ := Aside0.mk (Kd.R_below (by (with_reducible repeat (first | apply Kd.R_alloc | apply Kd.R_drewN | apply Kd.R_drew)); exact HO548.out) hb); have n2_ := Aside0.mk (below_step (by repeat (first | (with_reducible first | exact HB.out | apply below_alloc | apply pw_below_drewN | apply below_drew1) | exact HB.out)) hb); clear HO544; clear HO548; clear HB; have HO544 := n0_; have HO548 := n1_; have HB := n2_; clear n0_ n1_ n2_; (try clear hb); (try clear hb2); (try clear hk); (try clear hi)) | ((with_reducible refine gate_callee (f := 38) rfl ?_); refine goesL_ (some 25) rfl rfl Try.func38 (by kernel_rfl) rfl #[.slice A0 l0.length c0] rfl (by (try simp only [List.map_toArray, List.map_cons, List.map_nil]); first | done | rfl | (simp only [List.length_drop, List.length_take]; rfl) | (simp only [show ∀ (n_ : Nat) (b_ : Int), Int.tdiv (n_ : Int) b_ = (n_ : Int) / b_ from fun n_ b_ => Int.tdiv_eq_ediv_of_nonneg (Int.natCast_nonneg n_)]; rfl)) ?_; (with_reducible refine (laws_toInt64S.calls k _ _ l0 t550 _ ?side1 ?side2 A15.out).mono ?_); (case side1 => repeat (first | exact (Kd.C_below HR0.out HB.out) | (with_reducible refine Kd.C_alloc ?_ _) | (with_reducible refine Kd.C_drewN ?_ _) | (with_reducible refine Kd.C_drew ?_))); (case side2 => exact HC0.out); rintro e w32 ⟨v551, rfl, ho0, hb⟩; refine ⟨_, rfl, ?_⟩; have n0_ := Aside0.mk (Kd.R_elder' (by (with_reducible repeat (first | apply Kd.R_alloc | apply Kd.R_drewN | apply Kd.R_drew)); exact HO544.out) (Kd.R_base ho0) hb); have n1_ := Aside0.mk (Kd.R_elder' (by (with_reducible repeat (first | apply Kd.R_alloc | apply Kd.R_drewN | apply Kd.R_drew)); exact HO548.out) (Kd.R_base ho0) hb); have n2_ := Aside0.mk (Kd.R_lower (Kd.R_new' (Kd.R_new' ho0 (Kd.R_lt (by (with_reducible repeat (first | apply Kd.R_alloc | apply Kd.R_drewN | apply Kd.R_drew)); exact HO544.out))) (Kd.R_lt (by (with_reducible repeat (first | apply Kd.R_alloc | apply Kd.R_drewN | apply Kd.R_drew)); exact HO548.out))) (below_size (by repeat (first | (with_reducible first | exact HB.out | apply below_alloc | apply pw_below_drewN | apply below_drew1) | exact HB.out)))); have n3_ := Aside0.mk (below_step (by repeat (first | (with_reducible first | exact HB.out | apply below_alloc | apply pw_below_drewN | apply below_drew1) | exact HB.out)) hb); clear HO544; clear HO548; clear HB; have HO544 := n0_; have HO548 := n1_; have HO552 := n2_; have HB := n3_; clear n0_ n1_ n2_ n3_; (try clear hb); (try clear hb2); (try clear hk); (try clear hi); (try clear ho0); obtain ⟨Ao33, co33, eo33⟩ := Kd.R_slice HO552.out; subst eo33) | ((with_reducible refine gate_callee (f := 14) rfl ?_); refine goesL_ (some 26) rfl rfl Try.func14 (by kernel_rfl) rfl #[.slice Ao30 t546.length co30, .slice Ao33 t550.length co33] rfl (by (try simp only [List.map_toArray, List.map_cons, List.map_nil]); first | done | rfl | (simp only [List.length_drop, List.length_take]; rfl) | (simp only [show ∀ (n_ : Nat) (b_ : Int), Int.tdiv (n_ : Int) b_ = (n_ : Int) / b_ from fun n_ b_ => Int.tdiv_eq_ediv_of_nonneg (Int.natCast_nonneg n_)]; rfl)) ?_; (with_reducible refine (laws_eqInt64S.calls k _ _ t546 _ _ t550 false _ ?side1 ?side2 ?side3 ?side4 A16.out).mono ?_); (case side1 => repeat (first | exact (Kd.R_reads' HO548.out).2.2 | (with_reducible refine Kd.C_alloc ?_ _) | (with_reducible refine Kd.C_drewN ?_ _) | (with_reducible refine Kd.C_drew ?_))); (case side2 => exact (Kd.R_reads' HO548.out).2.1); (case side3 => repeat (first | exact (Kd.R_reads' HO552.out).2.2 | (with_reducible refine Kd.C_alloc ?_ _) | (with_reducible refine Kd.C_drewN ?_ _) | (with_reducible refine Kd.C_drew ?_))); (case side4 => exact (Kd.R_reads' HO552.out).2.1); rintro e w' ⟨rfl, ⟨nd, rfl⟩⟩; refine ⟨_, rfl, ?_⟩))
    go_ret
    exact ⟨by first | rfl | (simp [errW_none, errW_some] <;> rfl) | (simp [*, errW_none, errW_some] <;> rfl), by repeat (first | (with_reducible first | exact HB.out | apply below_alloc | apply pw_below_drewN | apply below_drew1) | exact HB.out)⟩
def laws_FnExactIsReachable.Pure : Prop := ∀ (l0 : List Int) (a1 : Int), l0.length ≤ maxLen → l0.length * 8 ≤ 140737488351232 → (∀ x ∈ l0, (Lit.int .i64 x).wf = true) → (Lit.int .i64 a1).wf = true → ∃ k, laws_FnExactIsReachable.f k l0 a1 = some true
theorem laws_FnExactIsReachable.walk (P : laws_FnExactIsReachable.Pure) (a0 : Option Addr) (len0 cap0 : Nat) (z0 : List Int) (a1 : Int) (w : World) (w0 : (a0 = none ∧ len0 = 0 ∧ cap0 = 0 ∧ z0 = []) ∨ ∃ x, a0 = some x ∧ len0 ≤ cap0 ∧ cap0 ≤ maxLen ∧ z0.length = cap0 ∧ (∀ i, i < z0.length → w.cell? (x.add i) = some (.int .i64 (z0.getD i 0))) ∧ ∀ n ∈ z0, (Lit.int .i64 n).wf = true) (y0 : len0 * 8 ≤ 140737488351232) (w1 : (Lit.int .i64 a1).wf = true) :
  Calls Try.prog 7 #[.slice a0 len0 cap0, .int .i64 a1] w fun e w' => e = .returned (.bool true) ∧ Below w.heap.size w w' := by
 obtain ⟨l0, rfl, hr0, hm0, hw0, hc0⟩ := ReadsInt.ofRowC w0
 obtain ⟨k, h⟩ := P l0 a1 hm0 y0 hw0 w1
 refine (laws_FnExactIsReachable.calls k _ _ l0 a1 true w (Kd.C_of_reads (d := (0 : Int)) (h1 := fun _ => rfl) hr0) hc0 h).mono ?_
 rintro e w' ⟨rfl, hd⟩
 exact ⟨rfl, hd⟩
end Go.Proofs.Ytdlnhddpgopghaa.Q
namespace Go.Proofs.Ytdlnhddpgopghaa.Com
open Go.RowKit Go.Proofs.YtdlnhddpgopghaaW.PrintWords
theorem w64 {x : Int} (h1 : -9223372036854775808 ≤ x) (h2 : x ≤ 9223372036854775807) : wrap64 x = x := by
 unfold wrap64
 omega
theorem ev_of {α : Type} {g : Nat → Option α} {r : α} (h : Ev g r) : ∃ k, g k = some r := h.rounds
theorem ev_bind' {α β : Type} {o : Option α} {f : Nat → α → Option β} {a : α} {r : β} (h : o = some a) (k : Ev (fun n => f n a) r) : Ev (fun n => o.bind (f n)) r := by
 subst h
 exact k
end Go.Proofs.Ytdlnhddpgopghaa.Com
namespace Go.Proofs.Ytdlnhddpgopghaa.Com
set_option linter.unusedSimpArgs false
set_option linter.unusedVariables false
open Go.RowKit Go.Proofs.YtdlnhddpgopghaaW.PrintWords
theorem ev_fold {α σ ρ : Type} (xs : List α) (g : Nat → σ → Nat → Option ρ) (F : List α → σ → ρ) (Inv : Nat → σ → Prop)
  (h0 : ∀ s, Inv xs.length s → Ev (g xs.length s) (F [] s))
  (hs : ∀ m (h : m < xs.length) s, Inv m s → (∀ s', Inv (m + 1) s' → Ev (g (m + 1) s') (F (xs.drop (m + 1)) s')) → Ev (g m s) (F (xs[m] :: xs.drop (m + 1)) s)) :
  ∀ m s, m ≤ xs.length → Inv m s → Ev (g m s) (F (xs.drop m) s) := by
 have key : ∀ d m s, m + d = xs.length → Inv m s → Ev (g m s) (F (xs.drop m) s) := by
  intro d
  induction d with
  | zero =>
   intro m s e hi
   obtain rfl : m = xs.length := by omega
   rw [List.drop_length]
   exact h0 s hi
  | succ d ih =>
   intro m s e hi
   have h : m < xs.length := by omega
   rw [List.drop_eq_getElem_cons h]
   exact hs m h s hi (fun s' hi' => ih (m + 1) s' (by omega) hi')
 intro m s hm hi
 exact key (xs.length - m) m s (by omega) hi
theorem ev_list {α ρ : Type} (xs : List α) (g : Nat → Nat → Option ρ) (F : List α → ρ) (h0 : Ev (g xs.length) (F []))
  (hs : ∀ m (h : m < xs.length), Ev (g (m + 1)) (F (xs.drop (m + 1))) → Ev (g m) (F (xs[m] :: xs.drop (m + 1)))) (m : Nat) (hm : m ≤ xs.length) : Ev (g m) (F (xs.drop m)) :=
 ev_fold xs (fun m (_ : Unit) => g m) (fun l _ => F l) (fun _ _ => True) (fun _ _ => h0) (fun m h _ _ ih => hs m h (ih () trivial)) m () hm trivial
theorem ev_count {σ ρ : Type} (n : Nat) (g : Nat → σ → Nat → Option ρ) (r : ρ) (Inv : Nat → σ → Prop) (h0 : ∀ s, Inv n s → Ev (g n s) r)
  (hs : ∀ m s, m < n → Inv m s → ∃ s', Inv (m + 1) s' ∧ (Ev (g (m + 1) s') r → Ev (g m s) r)) : ∀ m s, m ≤ n → Inv m s → Ev (g m s) r := by
 have key : ∀ d m s, m + d = n → Inv m s → Ev (g m s) r := by
  intro d
  induction d with
  | zero =>
   intro m s e hi
   obtain rfl : m = n := by omega
   exact h0 s hi
  | succ d ih =>
   intro m s e hi
   obtain ⟨s', hi', k⟩ := hs m s (by omega) hi
   exact k (ih (m + 1) s' (by omega) hi')
 intro m s hm hi
 exact key (n - m) m s (by omega) hi
theorem rd_nat {xs : List Int} {m : Nat} (h : m < xs.length) : rd xs (m : Int) = xs[m] := by
 unfold rd
 rw [Int.toNat_natCast, List.getD_eq_getElem?_getD, List.getElem?_eq_getElem h]
 rfl
theorem w_succ {m : Nat} (h : m < 9223372036854775807) : wrap64 ((m : Int) + 1) = ((m + 1 : Nat) : Int) := by
 rw [w64 (by omega) (by omega)]
 omega
end Go.Proofs.Ytdlnhddpgopghaa.Com
namespace Go.Proofs.Ytdlnhddpgopghaa.Com
set_option linter.unusedSimpArgs false
set_option linter.unusedVariables false
open Go.RowKit Go.Proofs.YtdlnhddpgopghaaW.PrintWords Go.Proofs.Ytdlnhddpgopghaa.Q
theorem within_tells (x a b : Int) : impl_within.f x a b = some (decide (a ≤ x ∧ x ≤ b)) := by
 unfold impl_within.f
 split <;> simp [*]
theorem in_tells (x a b : Int) : spec_l00In.f x a b = some (decide (a ≤ x ∧ x ≤ b)) := by
 unfold spec_l00In.f
 by_cases h : x ≥ a
 ·have h' : a ≤ x := h
  simp [h, h']
 ·have h' : ¬ a ≤ x := h
  simp [h, h']
end Go.Proofs.Ytdlnhddpgopghaa.Com
namespace Go.Proofs.Ytdlnhddpgopghaa.Com
abbrev EdfSp := Int × Int
def edfAv (t h : Int) (s : EdfSp) : Bool := decide (s.1 ≤ t ∧ s.2 = h)
def edfCnt (W : List EdfSp) (t h : Int) : Nat := W.countP (edfAv t h)
def edfOne : Nat → Int → List EdfSp → Bool
 | 0, _, _ => true
 | n + 1, k, W => match W.findIdx? (fun s => decide (s.1 ≤ k)) with
  | none => false
  | some i => if (W.getD i (0, 0)).2 < k then false else edfOne n (k + 1) (W.eraseIdx i)
theorem edf_cnt_erase : ∀ (W : List EdfSp) (i : Nat) (hi : i < W.length) (t h : Int), edfCnt W t h = edfCnt (W.eraseIdx i) t h + (if edfAv t h W[i] then 1 else 0)
 | [], i, hi, _, _ => by simp at hi
 | s :: r, 0, _, t, h => by
  simp only [edfCnt, List.eraseIdx_cons_zero, List.getElem_cons_zero, List.countP_cons]
 | s :: r, i + 1, hi, t, h => by
  have ih := edf_cnt_erase r i (by simpa using hi) t h
  simp only [edfCnt] at ih
  simp only [edfCnt, List.eraseIdx_cons_succ, List.getElem_cons_succ, List.countP_cons]
  omega
structure EdfStep (W : List EdfSp) (k : Int) (s : EdfSp) (W' : List EdfSp) : Prop where
 opn : s.1 ≤ k
 has : 0 < edfCnt W k s.2
 least : ∀ h, 0 < edfCnt W k h → s.2 ≤ h
 rest : ∀ t h, k ≤ t → edfCnt W t h = edfCnt W' t h + (if h = s.2 then 1 else 0)
theorem edf_step_mk {W : List EdfSp} {k : Int} {i : Nat} (hi : i < W.length) (ho : W[i].1 ≤ k) (hl : ∀ x ∈ W, x.1 ≤ k → W[i].2 ≤ x.2) : EdfStep W k W[i] (W.eraseIdx i) where
 opn := ho
 has := by
  rw [edfCnt, List.countP_pos_iff]
  exact ⟨W[i], List.getElem_mem hi, by simp [edfAv, ho]⟩
 least := by
  intro h hh
  rw [edfCnt, List.countP_pos_iff] at hh
  obtain ⟨x, hx, ha⟩ := hh
  simp only [edfAv, decide_eq_true_eq] at ha
  rw [← ha.2]
  exact hl x hx ha.1
 rest := by
  intro t h ht
  rw [edf_cnt_erase W i hi t h]
  have : (edfAv t h W[i] = true) ↔ h = W[i].2 := by
   simp only [edfAv, decide_eq_true_eq]
   constructor
   ·rintro ⟨_, e⟩; exact e.symm
   ·intro e; exact ⟨by omega, e.symm⟩
  by_cases c : h = W[i].2
  ·rw [if_pos c, if_pos (this.2 c)]
  ·rw [if_neg c, if_neg (fun q => c (this.1 q))]
theorem edf_step_same {W V W' V' : List EdfSp} {k : Int} {s u : EdfSp} (h : ∀ t e, k ≤ t → edfCnt W t e = edfCnt V t e) (a : EdfStep W k s W') (b : EdfStep V k u V') : s.2 = u.2 ∧ ∀ t e, k + 1 ≤ t → edfCnt W' t e = edfCnt V' t e := by
 have e1 := h k s.2 (Int.le_refl _)
 have e2 := h k u.2 (Int.le_refl _)
 have l1 := a.least u.2 (by rw [e2]; exact b.has)
 have l2 := b.least s.2 (by rw [← e1]; exact a.has)
 have e : s.2 = u.2 := by omega
 refine ⟨e, fun t x ht => ?_⟩
 have r1 := a.rest t x (by omega)
 have r2 := b.rest t x (by omega)
 have := h t x (by omega)
 rw [e] at r1
 omega
theorem edf_none_of {W : List EdfSp} {k : Int} (h : ∀ x ∈ W, ¬ x.1 ≤ k) (e : Int) : edfCnt W k e = 0 := by
 rw [edfCnt, List.countP_eq_zero]
 intro x hx
 simp [edfAv, h x hx]
theorem edf_one_step {W : List EdfSp} (hs : W.Pairwise (fun a b => a.2 ≤ b.2)) (k : Int) : (W.findIdx? (fun s => decide (s.1 ≤ k)) = none ∧ ∀ e, edfCnt W k e = 0) ∨ ∃ i, ∃ hi : i < W.length, W.findIdx? (fun s => decide (s.1 ≤ k)) = some i ∧ EdfStep W k W[i] (W.eraseIdx i) := by
 cases hf : W.findIdx? (fun s => decide (s.1 ≤ k)) with
 | none =>
  refine .inl ⟨rfl, edf_none_of (fun x hx => ?_)⟩
  have := List.findIdx?_eq_none_iff.1 hf x hx
  simpa using this
 | some i =>
  obtain ⟨hi, h1, h2⟩ := List.findIdx?_eq_some_iff_getElem.1 hf
  refine .inr ⟨i, hi, rfl, edf_step_mk hi (by simpa using h1) (fun x hx ho => ?_)⟩
  obtain ⟨j, hj, rfl⟩ := List.getElem_of_mem hx
  rcases Nat.lt_trichotomy i j with c | c | c
  ·exact List.pairwise_iff_getElem.1 hs i j hi hj c
  ·subst c; exact Int.le_refl _
  ·have := h2 j c
   simp at this
   omega
def edfBst (k : Int) (P : List (List EdfSp)) : Nat → Option (Nat × Int)
 | 0 => none
 | m + 1 => match P.getD m [] with
  | [] => edfBst k P m
  | s :: _ => match edfBst k P m with
   | none => if s.1 ≤ k then some (m, s.2) else none
   | some (j, l) => if s.1 ≤ k ∧ s.2 < l then some (m, s.2) else some (j, l)
def edfTwo : Nat → Int → List (List EdfSp) → Bool
 | 0, _, _ => true
 | n + 1, k, P => match edfBst k P P.length with
  | none => false
  | some (j, l) => if l < k then false else edfTwo n (k + 1) (P.set j (P.getD j []).tail)
theorem edf_bst_spec (k : Int) (P : List (List EdfSp)) : ∀ m, (edfBst k P m = none ∧ ∀ i, i < m → ∀ s r, P.getD i [] = s :: r → ¬ s.1 ≤ k) ∨
  ∃ j s r, edfBst k P m = some (j, s.2) ∧ j < m ∧ P.getD j [] = s :: r ∧ s.1 ≤ k ∧ ∀ i, i < m → ∀ s' r', P.getD i [] = s' :: r' → s'.1 ≤ k → s.2 ≤ s'.2
 | 0 => .inl ⟨rfl, fun i hi => by omega⟩
 | m + 1 => by
  have ih := edf_bst_spec k P m
  have at' : ∀ i, i < m + 1 → i < m ∨ i = m := fun i h => by omega
  cases hm : P.getD m [] with
  | nil =>
   have e : edfBst k P (m + 1) = edfBst k P m := by rw [edfBst, hm]
   rw [e]
   rcases ih with ⟨h1, h2⟩ | ⟨j, s, r, h1, h2, h3, h4, h5⟩
   ·refine .inl ⟨h1, fun i hi s r hs => ?_⟩
    rcases at' i hi with c | rfl
    ·exact h2 i c s r hs
    ·rw [hm] at hs; cases hs
   ·refine .inr ⟨j, s, r, h1, by omega, h3, h4, fun i hi s' r' hs => ?_⟩
    rcases at' i hi with c | rfl
    ·exact h5 i c s' r' hs
    ·rw [hm] at hs; cases hs
  | cons x y =>
   rcases ih with ⟨h1, h2⟩ | ⟨j, s, r, h1, h2, h3, h4, h5⟩
   ·have e : edfBst k P (m + 1) = if x.1 ≤ k then some (m, x.2) else none := by rw [edfBst, hm]; simp only; rw [h1]
    rw [e]
    by_cases c : x.1 ≤ k
    ·refine .inr ⟨m, x, y, by rw [if_pos c], by omega, hm, c, fun i hi s' r' hs ho => ?_⟩
     rcases at' i hi with d | rfl
     ·exact absurd ho (h2 i d s' r' hs)
     ·rw [hm] at hs; injection hs with e1 _; rw [e1]; exact Int.le_refl _
    ·refine .inl ⟨by rw [if_neg c], fun i hi s r hs => ?_⟩
     rcases at' i hi with d | rfl
     ·exact h2 i d s r hs
     ·rw [hm] at hs; injection hs with e1 _; rw [← e1]; exact c
   ·have e : edfBst k P (m + 1) = if x.1 ≤ k ∧ x.2 < s.2 then some (m, x.2) else some (j, s.2) := by rw [edfBst, hm]; simp only; rw [h1]
    rw [e]
    by_cases c : x.1 ≤ k ∧ x.2 < s.2
    ·refine .inr ⟨m, x, y, by rw [if_pos c], by omega, hm, c.1, fun i hi s' r' hs ho => ?_⟩
     rcases at' i hi with d | rfl
     ·have := h5 i d s' r' hs ho; omega
     ·rw [hm] at hs; injection hs with e1 _; rw [e1]; exact Int.le_refl _
    ·refine .inr ⟨j, s, r, by rw [if_neg c], by omega, h3, h4, fun i hi s' r' hs ho => ?_⟩
     rcases at' i hi with d | rfl
     ·exact h5 i d s' r' hs ho
     ·rw [hm] at hs; injection hs with e1 _; rw [← e1] at ho ⊢; omega
theorem edf_cnt_app (a b : List EdfSp) (t h : Int) : edfCnt (a ++ b) t h = edfCnt a t h + edfCnt b t h := List.countP_append
theorem edf_cnt_set (t h : Int) : ∀ (P : List (List EdfSp)) (j : Nat) (s : EdfSp) (r : List EdfSp), P.getD j [] = s :: r → edfCnt P.flatten t h = edfCnt (P.set j r).flatten t h + (if edfAv t h s then 1 else 0)
 | [], j, s, r, e => by simp at e
 | l :: P, 0, s, r, e => by
  have e : l = s :: r := by simpa using e
  subst e
  simp only [List.set_cons_zero, List.flatten_cons, edf_cnt_app]
  have : edfCnt (s :: r) t h = edfCnt r t h + (if edfAv t h s then 1 else 0) := by simp only [edfCnt, List.countP_cons]
  omega
 | l :: P, j + 1, s, r, e => by
  have ih := edf_cnt_set t h P j s r (by simpa using e)
  simp only [List.set_cons_succ, List.flatten_cons, edf_cnt_app]
  omega
def EdfOrd (l : List EdfSp) : Prop := l.Pairwise (fun a b => a.1 ≤ b.1 ∧ a.2 ≤ b.2)
theorem edf_getD_mem {P : List (List EdfSp)} {j : Nat} {s : EdfSp} {r : List EdfSp} (h : P.getD j [] = s :: r) : j < P.length ∧ (s :: r) ∈ P := by
 rw [List.getD_eq_getElem?_getD] at h
 cases e : P[j]? with
 | none => rw [e] at h; cases h
 | some x =>
  rw [e] at h
  have h : x = s :: r := h
  subst h
  obtain ⟨h1, h2⟩ := List.getElem?_eq_some_iff.1 e
  exact ⟨h1, List.mem_of_getElem? e⟩
theorem edf_two_step {P : List (List EdfSp)} (hP : ∀ l ∈ P, EdfOrd l) (k : Int) : (edfBst k P P.length = none ∧ ∀ e, edfCnt P.flatten k e = 0) ∨
  ∃ j s r, edfBst k P P.length = some (j, s.2) ∧ P.getD j [] = s :: r ∧ EdfStep P.flatten k s (P.set j r).flatten := by
 have heads : ∀ x ∈ P.flatten, x.1 ≤ k → ∃ i, i < P.length ∧ ∃ s' r', P.getD i [] = s' :: r' ∧ s'.1 ≤ k ∧ s'.2 ≤ x.2 := by
  intro x hx ho
  obtain ⟨l, hl, hxl⟩ := List.mem_flatten.1 hx
  obtain ⟨i, hi, rfl⟩ := List.getElem_of_mem hl
  cases e : P[i] with
  | nil => rw [e] at hxl; simp at hxl
  | cons s' r' =>
   have hg : P.getD i [] = s' :: r' := by rw [List.getD_eq_getElem?_getD, List.getElem?_eq_getElem hi, e]; rfl
   refine ⟨i, hi, s', r', hg, ?_⟩
   have ho' := hP _ (List.getElem_mem hi)
   rw [e] at ho' hxl
   rcases List.mem_cons.1 hxl with rfl | hx'
   ·exact ⟨ho, Int.le_refl _⟩
   ·have := (List.pairwise_cons.1 ho').1 x hx'
    exact ⟨by omega, this.2⟩
 rcases edf_bst_spec k P P.length with ⟨h1, h2⟩ | ⟨j, s, r, h1, h2, h3, h4, h5⟩
 ·refine .inl ⟨h1, edf_none_of (fun x hx ho => ?_)⟩
  obtain ⟨i, hi, s', r', hg, ho', _⟩ := heads x hx ho
  exact h2 i hi s' r' hg ho'
 ·have hmem : s ∈ P.flatten := List.mem_flatten.2 ⟨s :: r, (edf_getD_mem h3).2, by simp⟩
  refine .inr ⟨j, s, r, h1, h3, ⟨h4, ?_, ?_, ?_⟩⟩
  ·rw [edfCnt, List.countP_pos_iff]
   exact ⟨s, hmem, by simp [edfAv, h4]⟩
  ·intro e he
   rw [edfCnt, List.countP_pos_iff] at he
   obtain ⟨x, hx, ha⟩ := he
   simp only [edfAv, decide_eq_true_eq] at ha
   obtain ⟨i, hi, s', r', hg, ho', hd⟩ := heads x hx ha.1
   have := h5 i hi s' r' hg ho'
   omega
  ·intro t e ht
   rw [edf_cnt_set t e P j s r h3]
   by_cases c : e = s.2
   ·rw [if_pos c, if_pos (by simp only [edfAv, decide_eq_true_eq]; exact ⟨by omega, c.symm⟩)]
   ·rw [if_neg c, if_neg (by simp only [edfAv, decide_eq_true_eq]; rintro ⟨_, q⟩; exact c q.symm)]
theorem edf_same : ∀ (n : Nat) (k : Int) (W : List EdfSp) (P : List (List EdfSp)), W.Pairwise (fun a b => a.2 ≤ b.2) → (∀ l ∈ P, EdfOrd l) → (∀ t e, k ≤ t → edfCnt W t e = edfCnt P.flatten t e) → edfOne n k W = edfTwo n k P
 | 0, _, _, _, _, _, _ => rfl
 | n + 1, k, W, P, hW, hP, h => by
  rw [edfOne, edfTwo]
  rcases edf_one_step hW k with ⟨a1, a2⟩ | ⟨i, hi, a1, a2⟩
  ·rcases edf_two_step hP k with ⟨b1, b2⟩ | ⟨j, s, r, b1, b2, b3⟩
   ·rw [a1, b1]
   ·have := b3.has
    rw [← h k s.2 (Int.le_refl _), a2] at this
    omega
  ·rcases edf_two_step hP k with ⟨b1, b2⟩ | ⟨j, s, r, b1, b2, b3⟩
   ·have := a2.has
    rw [h k _ (Int.le_refl _), b2] at this
    omega
   ·obtain ⟨e1, e2⟩ := edf_step_same h a2 b3
    rw [a1, b1]
    simp only
    have hg : W.getD i (0, 0) = W[i] := by rw [List.getD_eq_getElem?_getD, List.getElem?_eq_getElem hi]; rfl
    rw [hg, e1, b2, List.tail_cons]
    by_cases c : s.2 < k
    ·rw [if_pos c, if_pos c]
    ·rw [if_neg c, if_neg c]
     refine edf_same n (k + 1) _ _ (hW.sublist (List.eraseIdx_sublist _ _)) (fun l hl => ?_) e2
     rcases List.mem_or_eq_of_mem_set hl with q | rfl
     ·exact hP l q
     ·exact (List.pairwise_cons.1 (hP _ (edf_getD_mem b2).2)).2
theorem edf_cnt_perm {W V : List EdfSp} (h : W.Perm V) (t e : Int) : edfCnt W t e = edfCnt V t e := h.countP_eq _
end Go.Proofs.Ytdlnhddpgopghaa.Com
namespace Go.Proofs.Ytdlnhddpgopghaa.Com
set_option linter.unusedSimpArgs false
set_option linter.unusedVariables false
set_option linter.unusedSectionVars false
open Go.RowKit Go.Proofs.YtdlnhddpgopghaaW.PrintWords Go.Proofs.YtdlnhddpgopghaaW.PrintMore Go.Proofs.Ytdlnhddpgopghaa.Q
def edfRow (E L : List (List Int)) (D : List Int) (i : Nat) : List EdfSp := ((E.getD i []).zip (L.getD i [])).drop (D.getD i 0).toNat
def edfP (n : Nat) (E L : List (List Int)) (D : List Int) : List (List EdfSp) := (List.range n).map (edfRow E L D)
theorem edfP_get (n : Nat) (E L : List (List Int)) (D : List Int) (i : Nat) (h : i < n) : (edfP n E L D).getD i [] = edfRow E L D i := by
 unfold edfP
 rw [List.getD_eq_getElem?_getD, List.getElem?_map, List.getElem?_range h]
 rfl
structure EdfIn (dem : List Int) (E L : List (List Int)) (D : List Int) : Prop where
 small : dem.length ≤ 6
 lE : E.length = dem.length
 lL : L.length = dem.length
 lD : D.length = dem.length
 done : ∀ i, i < dem.length → 0 ≤ D.getD i 0 ∧ D.getD i 0 ≤ dem.getD i 0
 rows : ∀ i, i < dem.length → ((E.getD i []).length : Int) = dem.getD i 0 ∧ ((L.getD i []).length : Int) = dem.getD i 0
theorem edfRow_head {dem : List Int} {E L : List (List Int)} {D : List Int} (h : EdfIn dem E L D) (i : Nat) (hi : i < dem.length) :
  (D.getD i 0 < dem.getD i 0 ∧ edfRow E L D i = ((E.getD i []).getD (D.getD i 0).toNat 0, (L.getD i []).getD (D.getD i 0).toNat 0) :: ((E.getD i []).zip (L.getD i [])).drop ((D.getD i 0).toNat + 1)) ∨ (¬ D.getD i 0 < dem.getD i 0 ∧ edfRow E L D i = []) := by
 obtain ⟨h1, h2⟩ := h.done i hi
 obtain ⟨r1, r2⟩ := h.rows i hi
 have hl : ((E.getD i []).zip (L.getD i [])).length = (E.getD i []).length := by rw [List.length_zip]; omega
 by_cases c : D.getD i 0 < dem.getD i 0
 ·refine .inl ⟨c, ?_⟩
  have hlt : (D.getD i 0).toNat < ((E.getD i []).zip (L.getD i [])).length := by omega
  unfold edfRow
  rw [List.drop_eq_getElem_cons hlt, List.getElem_zip]
  rw [List.getD_eq_getElem?_getD (l := E.getD i []), List.getElem?_eq_getElem (by omega), List.getD_eq_getElem?_getD (l := L.getD i []), List.getElem?_eq_getElem (by omega)]
  rfl
 ·refine .inr ⟨c, ?_⟩
  unfold edfRow
  exact List.drop_eq_nil_of_le (by omega)
def edfMatch (x9 : Int) : Option (Nat × Int) → Prop
 | none => x9 = -1
 | some (j, _) => x9 = (j : Int)
theorem rdg (xs : List Int) (m : Nat) : rd xs (m : Int) = xs.getD m 0 := by
 unfold rd
 rw [Int.toNat_natCast]
theorem rdz (xs : List Int) (z : Int) : rd xs z = xs.getD z.toNat 0 := rfl
theorem rdLg (xs : List (List Int)) (m : Nat) : rd_L2 xs (m : Int) = xs.getD m [] := by
 unfold rd_L2
 rw [Int.toNat_natCast]
theorem edf_best_is {dem : List Int} {E L : List (List Int)} {D : List Int} (h : EdfIn dem E L D) (k : Int) (m : Nat) (hm : m ≤ dem.length) (j : Nat) (l : Int) (hb : edfBst k (edfP dem.length E L D) m = some (j, l)) :
  j < m ∧ D.getD j 0 < dem.getD j 0 ∧ l = (L.getD j []).getD (D.getD j 0).toNat 0 := by
 rcases edf_bst_spec k (edfP dem.length E L D) m with ⟨a, _⟩ | ⟨j', s, r, a1, a2, a3, _, _⟩
 ·rw [a] at hb; cases hb
 ·rw [a1] at hb
  injection hb with hb
  injection hb with e1 e2
  subst e1 e2
  rw [edfP_get _ _ _ _ _ (by omega)] at a3
  rcases edfRow_head h j' (by omega) with ⟨c1, c2⟩ | ⟨_, c2⟩
  ·rw [c2] at a3
   injection a3 with a4 _
   exact ⟨a2, c1, by rw [← a4]⟩
  ·rw [c2] at a3; cases a3
theorem edf_specInner {dem : List Int} {E L : List (List Int)} {D : List Int} (h : EdfIn dem E L D) (k : Int) (R : Bool)
  (fin0 : edfBst k (edfP dem.length E L D) dem.length = none → R = false)
  (fin1 : ∀ j l, edfBst k (edfP dem.length E L D) dem.length = some (j, l) → l < k → R = false)
  (fin2 : ∀ j l, edfBst k (edfP dem.length E L D) dem.length = some (j, l) → ¬ l < k → Ev (fun f => spec_IsReachable.l0 f dem E L (D.set j (wrap64 (D.getD j 0 + 1))) (wrap64 (k + 1))) R) :
  ∀ d i x9, i + d = dem.length → edfMatch x9 (edfBst k (edfP dem.length E L D) i) → Ev (fun f => spec_IsReachable.l1 f dem E L D k x9 (i : Int)) R
 | 0, i, x9, hi, hmt => by
  obtain rfl : i = dem.length := by omega
  have h6 := h.small
  have lE := h.lE
  have lL := h.lL
  have lD := h.lD
  refine Ev.step (fun f => by rw [spec_IsReachable.l1]) ?_
  simp only [if_neg (show ¬ (dem.length : Int) < (dem.length : Int) by omega)]
  cases hb : edfBst k (edfP dem.length E L D) dem.length with
  | none =>
   rw [hb] at hmt
   have e : x9 = -1 := hmt
   subst e
   simp only [if_pos (show (-1 : Int) < 0 by omega), fin0 hb]
   exact Ev.now _
  | some q =>
   obtain ⟨j, l⟩ := q
   rw [hb] at hmt
   have e : x9 = (j : Int) := hmt
   subst e
   obtain ⟨b1, b2, b3⟩ := edf_best_is h k dem.length (Nat.le_refl _) j l hb
   obtain ⟨d0, d1⟩ := h.done j b1
   obtain ⟨r1, r2⟩ := h.rows j b1
   simp only [if_neg (show ¬ (j : Int) < 0 by omega), if_pos (show 0 ≤ (j : Int) by omega), if_pos (show (j : Int) < (L.length : Int) by omega), if_pos (show (j : Int) < (D.length : Int) by omega), rdg D j, rdLg L j, rdz (L.getD j []), ← b3, if_pos d0, if_pos (show D.getD j 0 < ((L.getD j []).length : Int) by omega), Int.toNat_natCast]
   by_cases c : l < k
   ·simp only [if_pos c, fin1 j l hb c]
    exact Ev.now _
   ·simp only [if_neg c]
    exact fin2 j l hb c
 | d + 1, i, x9, hi, hmt => by
  have ih := edf_specInner h k R fin0 fin1 fin2 d (i + 1)
  have h6 := h.small
  have lE := h.lE
  have lL := h.lL
  have lD := h.lD
  have hin : i < dem.length := by omega
  obtain ⟨d0, d1⟩ := h.done i hin
  obtain ⟨r1, r2⟩ := h.rows i hin
  have hg := edfP_get dem.length E L D i hin
  refine Ev.step (fun f => by rw [spec_IsReachable.l1]) ?_
  simp only [if_pos (show (i : Int) < (dem.length : Int) by omega), if_pos (show 0 ≤ (i : Int) by omega), if_pos (show (i : Int) < (D.length : Int) by omega), if_pos (show (i : Int) < (E.length : Int) by omega), if_pos (show (i : Int) < (L.length : Int) by omega), rdg D i, rdg dem i, rdLg E i, rdLg L i, rdz (L.getD i []), rdz (E.getD i []), w_succ (m := i) (by omega)]
  have hbs : edfBst k (edfP dem.length E L D) (i + 1) = match edfRow E L D i with
    | [] => edfBst k (edfP dem.length E L D) i
    | s :: _ => match edfBst k (edfP dem.length E L D) i with
     | none => if s.1 ≤ k then some (i, s.2) else none
     | some (j, l) => if s.1 ≤ k ∧ s.2 < l then some (i, s.2) else some (j, l) := by
   rw [edfBst, hg]
   try (cases edfRow E L D i with
    | nil => rfl
    | cons s r => cases edfBst k (edfP dem.length E L D) i <;> rfl)
  rcases edfRow_head h i hin with ⟨c1, c2⟩ | ⟨c1, c2⟩
  ·rw [c2] at hbs
   simp only at hbs
   simp only [if_pos c1, if_pos d0, if_pos (show D.getD i 0 < ((E.getD i []).length : Int) by omega), if_pos (show D.getD i 0 < ((L.getD i []).length : Int) by omega)]
   cases hb : edfBst k (edfP dem.length E L D) i with
   | none =>
    rw [hb] at hmt hbs
    have e : x9 = -1 := hmt
    subst e
    simp only at hbs
    by_cases c3 : (E.getD i []).getD (D.getD i 0).toNat 0 ≤ k
    ·rw [if_pos c3] at hbs
     simp only [if_pos c3, if_pos (show (-1 : Int) < 0 by omega)]
     exact ih (i : Int) (by omega) (by rw [hbs]; rfl)
    ·rw [if_neg c3] at hbs
     simp only [if_neg c3]
     exact ih (-1) (by omega) (by rw [hbs]; rfl)
   | some q =>
    obtain ⟨j, l⟩ := q
    rw [hb] at hmt hbs
    have e : x9 = (j : Int) := hmt
    subst e
    simp only at hbs
    obtain ⟨b1, b2, b3⟩ := edf_best_is h k i (by omega) j l hb
    obtain ⟨e0, e1⟩ := h.done j (by omega)
    obtain ⟨s1, s2⟩ := h.rows j (by omega)
    by_cases c3 : (E.getD i []).getD (D.getD i 0).toNat 0 ≤ k
    ·simp only [if_pos c3, if_neg (show ¬ (j : Int) < 0 by omega), if_pos (show 0 ≤ (j : Int) by omega), if_pos (show (j : Int) < (L.length : Int) by omega), if_pos (show (j : Int) < (D.length : Int) by omega), rdg D j, rdLg L j, rdz (L.getD j []), ← b3, if_pos e0, if_pos (show D.getD j 0 < ((L.getD j []).length : Int) by omega)]
     by_cases c4 : (L.getD i []).getD (D.getD i 0).toNat 0 < l
     ·rw [if_pos ⟨c3, c4⟩] at hbs
      simp only [if_pos c4]
      exact ih (i : Int) (by omega) (by rw [hbs]; rfl)
     ·rw [if_neg (fun q => c4 q.2)] at hbs
      simp only [if_neg c4]
      exact ih (j : Int) (by omega) (by rw [hbs]; rfl)
    ·rw [if_neg (fun q => c3 q.1)] at hbs
     simp only [if_neg c3]
     exact ih (j : Int) (by omega) (by rw [hbs]; rfl)
  ·rw [c2] at hbs
   simp only at hbs
   simp only [if_neg c1]
   exact ih x9 (by omega) (by rw [hbs]; exact hmt)
theorem edfP_len (n : Nat) (E L : List (List Int)) (D : List Int) : (edfP n E L D).length = n := by
 unfold edfP
 rw [List.length_map, List.length_range]
theorem edf_set {dem : List Int} {E L : List (List Int)} {D : List Int} (h : EdfIn dem E L D) (j : Nat) (hj : j < dem.length) :
  edfP dem.length E L (D.set j (D.getD j 0 + 1)) = (edfP dem.length E L D).set j ((edfP dem.length E L D).getD j []).tail := by
 have lD := h.lD
 have hd := (h.done j hj).1
 have key : ∀ i, i < dem.length → edfRow E L (D.set j (D.getD j 0 + 1)) i = if i = j then (edfRow E L D j).tail else edfRow E L D i := by
  intro i hi
  by_cases c : i = j
  ·subst c
   rw [if_pos rfl]
   unfold edfRow
   have e : (D.set i (D.getD i 0 + 1)).getD i 0 = D.getD i 0 + 1 := by
    rw [List.getD_eq_getElem?_getD, List.getElem?_set_self (by omega)]
    rfl
   rw [e, List.tail_drop, show (D.getD i 0 + 1).toNat = (D.getD i 0).toNat + 1 by omega]
  ·rw [if_neg c]
   unfold edfRow
   have e : (D.set j (D.getD j 0 + 1)).getD i 0 = D.getD i 0 := by
    rw [List.getD_eq_getElem?_getD, List.getElem?_set_ne (Ne.symm c), ← List.getD_eq_getElem?_getD]
   rw [e]
 rw [edfP_get _ _ _ _ _ hj]
 refine List.ext_getElem (by rw [List.length_set, edfP_len, edfP_len]) (fun i h1 h2 => ?_)
 rw [edfP_len] at h1
 rw [List.getElem_set]
 have e1 : (edfP dem.length E L (D.set j (D.getD j 0 + 1)))[i] = edfRow E L (D.set j (D.getD j 0 + 1)) i := by simp [edfP]
 rw [e1, key i h1]
 by_cases c : j = i
 ·subst c; simp
 ·rw [if_neg (Ne.symm c), if_neg c]; simp [edfP]
theorem edf_in_set {dem : List Int} {E L : List (List Int)} {D : List Int} (h : EdfIn dem E L D) (j : Nat) (hj : j < dem.length) (hlt : D.getD j 0 < dem.getD j 0) : EdfIn dem E L (D.set j (D.getD j 0 + 1)) where
 small := h.small
 lE := h.lE
 lL := h.lL
 lD := by rw [List.length_set]; exact h.lD
 done := by
  intro i hi
  have lD := h.lD
  by_cases c : j = i
  ·subst c
   rw [List.getD_eq_getElem?_getD, List.getElem?_set_self (by omega)]
   have := (h.done j hi).1
   show 0 ≤ D.getD j 0 + 1 ∧ D.getD j 0 + 1 ≤ dem.getD j 0
   omega
  ·rw [List.getD_eq_getElem?_getD, List.getElem?_set_ne c, ← List.getD_eq_getElem?_getD]
   exact h.done i hi
 rows := h.rows
theorem edf_specOuter {dem : List Int} {E L : List (List Int)} (T : Nat) (hT : T ≤ 1000) (hd : ∀ i, i < dem.length → dem.getD i 0 ≤ 1000) (hsum : Ev (fun f => spec_l01Sum.f f dem) (T : Int)) : ∀ (n : Nat) (k : Nat) (D : List Int), EdfIn dem E L D → n + k = T + 1 → 1 ≤ k →
  Ev (fun f => spec_IsReachable.l0 f dem E L D (k : Int)) (edfTwo n (k : Int) (edfP dem.length E L D))
 | 0, k, D, h, hn, hk => by
  refine Ev.step (fun f => by rw [spec_IsReachable.l0]) ?_
  refine Ev.bind hsum ?_
  simp only [if_neg (show ¬ (k : Int) ≤ (T : Int) by omega)]
  exact Ev.now _
 | n + 1, k, D, h, hn, hk => by
  refine Ev.step (fun f => by rw [spec_IsReachable.l0]) ?_
  refine Ev.bind hsum ?_
  simp only [if_pos (show (k : Int) ≤ (T : Int) by omega)]
  have e2 : edfTwo (n + 1) (k : Int) (edfP dem.length E L D) = match edfBst (k : Int) (edfP dem.length E L D) dem.length with
    | none => false
    | some (j, l) => if l < (k : Int) then false else edfTwo n ((k : Int) + 1) ((edfP dem.length E L D).set j ((edfP dem.length E L D).getD j []).tail) := by
   rw [edfTwo, edfP_len]
   try (cases edfBst (k : Int) (edfP dem.length E L D) dem.length <;> rfl)
  refine edf_specInner h (k : Int) _ (fun hb => by rw [e2, hb]) (fun j l hb c => by rw [e2, hb]; simp only; rw [if_pos c]) (fun j l hb c => ?_) dem.length 0 (-1) (by omega) rfl
  obtain ⟨b1, b2, b3⟩ := edf_best_is h (k : Int) dem.length (Nat.le_refl _) j l hb
  have hb1 := h.done j b1
  have hb2 := hd j b1
  rw [e2, hb]
  simp only
  rw [if_neg c, ← edf_set h j b1, w_succ (m := k) (by omega), w64 (x := D.getD j 0 + 1) (by omega) (by omega)]
  have := edf_specOuter T hT hd hsum n (k + 1) _ (edf_in_set h j b1 b2) (by omega) (by omega)
  rw [show ((k + 1 : Nat) : Int) = (k : Int) + 1 by omega] at this ⊢
  exact this
end Go.Proofs.Ytdlnhddpgopghaa.Com
namespace Go.Proofs.Ytdlnhddpgopghaa.Com
set_option linter.unusedSimpArgs false
set_option linter.unusedVariables false
set_option linter.unusedSectionVars false
open Go.RowKit Go.Proofs.YtdlnhddpgopghaaW.PrintWords Go.Proofs.YtdlnhddpgopghaaW.PrintMore Go.Proofs.Ytdlnhddpgopghaa.Q
def fv (b x : Int) : Int := if Int.tmod x b < 0 then Int.tdiv x b - 1 else Int.tdiv x b
theorem tdiv_bd (x b : Int) (hx : -1000000 ≤ x ∧ x ≤ 1000000) : -1000000 ≤ Int.tdiv x b ∧ Int.tdiv x b ≤ 1000000 := by
 have h : (Int.tdiv x b).natAbs ≤ x.natAbs := by rw [Int.natAbs_tdiv]; exact Nat.div_le_self _ _
 omega
theorem fv_bd (b x : Int) (hx : -1000000 ≤ x ∧ x ≤ 1000000) : -1000001 ≤ fv b x ∧ fv b x ≤ 1000000 := by
 have := tdiv_bd x b hx
 unfold fv
 split <;> omega
theorem implFloor_tells (b x : Int) (hb : 1 ≤ b ∧ b ≤ 1000) (hx : -1000000 ≤ x ∧ x ≤ 1000000) : impl_floor.f x b = some (fv b x) := by
 have t := tdiv_bd x b hx
 unfold impl_floor.f fv
 rw [if_neg (by omega), w64 (x := Int.tdiv x b) (by omega) (by omega), w64 (x := Int.tdiv x b - 1) (by omega) (by omega)]
 split <;> rfl
theorem specFloor_tells (b x : Int) (hb : 1 ≤ b ∧ b ≤ 1000) (hx : -1000000 ≤ x ∧ x ≤ 1000000) : spec_l01Floor.f x b = some (fv b x) := by
 have t := tdiv_bd x b hx
 have e := Int.mul_tdiv_add_tmod x b
 have m : b * Int.tdiv x b = Int.tdiv x b * b := Int.mul_comm _ _
 have ml : Int.tmod x b < b := Int.tmod_lt_of_pos x (by omega)
 have mg : -b < Int.tmod x b := by
  have h : (Int.tmod x b).natAbs < b.natAbs := by rw [Int.natAbs_tmod]; exact Nat.mod_lt _ (by omega)
  omega
 unfold spec_l01Floor.f fv
 rw [if_neg (by omega), w64 (x := Int.tdiv x b) (by omega) (by omega), w64 (x := Int.tdiv x b * b) (by omega) (by omega), w64 (x := Int.tdiv x b - 1) (by omega) (by omega)]
 by_cases c : Int.tmod x b < 0
 ·rw [if_pos c, if_pos (by omega)]
 ·rw [if_neg c, if_neg (by omega)]
def cv (b x : Int) : Int := -fv b (-x)
theorem implCeil_tells (b x : Int) (hb : 1 ≤ b ∧ b ≤ 1000) (hx : -1000000 ≤ x ∧ x ≤ 1000000) : impl_ceiling.f x b = some (cv b x) := by
 have t := fv_bd b (-x) (by omega)
 unfold impl_ceiling.f cv
 rw [w64 (x := -x) (by omega) (by omega), implFloor_tells b (-x) hb (by omega), Option.bind_some, w64 (by omega) (by omega)]
theorem specCeil_tells (b x : Int) (hb : 1 ≤ b ∧ b ≤ 1000) (hx : -1000000 ≤ x ∧ x ≤ 1000000) : spec_l01Ceil.f x b = some (cv b x) := by
 have t := fv_bd b (-x) (by omega)
 unfold spec_l01Ceil.f cv
 rw [w64 (x := -x) (by omega) (by omega), specFloor_tells b (-x) hb (by omega), Option.bind_some, w64 (by omega) (by omega)]
end Go.Proofs.Ytdlnhddpgopghaa.Com
namespace Go.Proofs.Ytdlnhddpgopghaa.Com
set_option linter.unusedSimpArgs false
set_option linter.unusedVariables false
set_option linter.unusedSectionVars false
open Go.RowKit Go.Proofs.YtdlnhddpgopghaaW.PrintWords Go.Proofs.YtdlnhddpgopghaaW.PrintMore Go.Proofs.Ytdlnhddpgopghaa.Q
theorem fv_char2 (b x : Int) (hb : 1 ≤ b) : 0 ≤ x - b * fv b x ∧ x - b * fv b x < b := by
 have h := Int.mul_tdiv_add_tmod x b
 have h1 := Int.tmod_lt_of_pos x (show 0 < b by omega)
 have h2 := Int.lt_tmod_of_pos x (show 0 < b by omega)
 unfold fv
 by_cases c : Int.tmod x b < 0
 ·rw [if_pos c, Int.mul_sub, Int.mul_one]
  omega
 ·rw [if_neg c]
  omega
theorem fv_mono (b x y : Int) (hb : 1 ≤ b) (h : x ≤ y) : fv b x ≤ fv b y := by
 have h1 := fv_char2 b x hb
 have h2 := fv_char2 b y hb
 rcases Int.lt_or_le (fv b y) (fv b x) with c | c
 ·have : b * (fv b y + 1) ≤ b * fv b x := Int.mul_le_mul_of_nonneg_left (by omega) (by omega)
  rw [Int.mul_add, Int.mul_one] at this
  omega
 ·exact c
theorem cv_mono (b x y : Int) (hb : 1 ≤ b) (h : x ≤ y) : cv b x ≤ cv b y := by
 unfold cv
 have := fv_mono b (-y) (-x) hb (by omega)
 omega
def winE (T b d : Int) (j : Nat) : Int := mx 1 (cv d (T * ((j : Int) + 1) - b))
def winL (T b d : Int) (j : Nat) : Int := mn T (fv d (b + T * (j : Int)) + 1)
def rowE (T b d : Int) : List Int := (List.range d.toNat).map (winE T b d)
def rowL (T b d : Int) : List Int := (List.range d.toNat).map (winL T b d)
theorem rows_ord (T b d : Int) (hT : 0 ≤ T) (hd : 1 ≤ d) : EdfOrd ((rowE T b d).zip (rowL T b d)) := by
 have e : (rowE T b d).zip (rowL T b d) = (List.range d.toNat).map (fun j => (winE T b d j, winL T b d j)) := by
  unfold rowE rowL
  rw [List.zip_map']
 rw [e]
 unfold EdfOrd
 rw [List.pairwise_map]
 refine List.Pairwise.imp ?_ List.pairwise_lt_range
 intro i j hij
 have m1 : T * ((i : Int) + 1) ≤ T * ((j : Int) + 1) := Int.mul_le_mul_of_nonneg_left (by omega) hT
 have m2 : T * (i : Int) ≤ T * (j : Int) := Int.mul_le_mul_of_nonneg_left (by omega) hT
 have c1 := cv_mono d (T * ((i : Int) + 1) - b) (T * ((j : Int) + 1) - b) hd (by omega)
 have c2 := fv_mono d (b + T * (i : Int)) (b + T * (j : Int)) hd (by omega)
 refine ⟨?_, ?_⟩
 ·show mx 1 (cv d (T * ((i : Int) + 1) - b)) ≤ mx 1 (cv d (T * ((j : Int) + 1) - b))
  unfold mx
  (repeat' split) <;> omega
 ·show mn T (fv d (b + T * (i : Int)) + 1) ≤ mn T (fv d (b + T * (j : Int)) + 1)
  unfold mn
  (repeat' split) <;> omega
theorem range_map_succ {α : Type} (f : Nat → α) (c : Nat) : (List.range (c + 1)).map f = (List.range c).map f ++ [f c] := by
 rw [List.range_succ, List.map_append]
 rfl
section
variable {dem : List Int} {b : Int} {T : Nat} (h6 : dem.length ≤ 6) (hd : ∀ i, i < dem.length → 1 ≤ dem.getD i 0 ∧ dem.getD i 0 ≤ 40) (hT : T ≤ 240) (hb : 0 ≤ b ∧ b ≤ 57600)
include h6 hd hT hb
theorem specWin_row (X : List (List Int) × List (List Int)) (i : Nat) (hi : i < dem.length) (x7 x8 : List (List Int)) (l7 : x7.length ≤ 6) (l8 : x8.length ≤ 6) (rest : Ev (fun k => spec_l08Windows.l0 k dem b (T : Int) (x7 ++ [rowE (T : Int) b (dem.getD i 0)]) (x8 ++ [rowL (T : Int) b (dem.getD i 0)]) ((i + 1 : Nat) : Int)) X) :
  ∀ n c : Nat, c + n = (dem.getD i 0).toNat → Ev (fun k => spec_l08Windows.l1 k dem b (T : Int) x7 x8 (i : Int) ((List.range c).map (winE (T : Int) b (dem.getD i 0))) ((List.range c).map (winL (T : Int) b (dem.getD i 0))) ((c + 1 : Nat) : Int)) X
 | 0, c, hc => by
  obtain ⟨d1, d2⟩ := hd i hi
  have hg : rd dem (i : Int) = dem.getD i 0 := by unfold rd; rw [Int.toNat_natCast]
  refine Ev.step (fun k => by rw [spec_l08Windows.l1]) ?_
  simp only [if_pos (show 0 ≤ (i : Int) by omega), if_pos (show (i : Int) < (dem.length : Int) by omega), hg, if_neg (show ¬ ((c + 1 : Nat) : Int) ≤ dem.getD i 0 by omega), if_pos (show x7.length < 5864062014805 by omega), if_pos (show x8.length < 5864062014805 by omega), w_succ (m := i) (by omega)]
  have e : c = (dem.getD i 0).toNat := by omega
  rw [e]
  exact rest
 | n + 1, c, hc => by
  obtain ⟨d1, d2⟩ := hd i hi
  have ih := specWin_row X i hi x7 x8 l7 l8 rest n (c + 1) (by omega)
  have hg : rd dem (i : Int) = dem.getD i 0 := by unfold rd; rw [Int.toNat_natCast]
  have mx1 : ∀ x y : Int, spec_l00Max.f x y = some (mx x y) := fun x y => by unfold spec_l00Max.f mx; split <;> split <;> first | rfl | (congr 1; omega)
  have mn1 : ∀ x y : Int, spec_l00Min.f x y = some (mn x y) := fun x y => by unfold spec_l00Min.f mn; split <;> split <;> first | rfl | (congr 1; omega)
  have p1 : (T : Int) * ((c + 1 : Nat) : Int) ≤ 240 * 40 := Int.mul_le_mul (by omega) (by omega) (by omega) (by omega)
  have p0 : 0 ≤ (T : Int) * ((c + 1 : Nat) : Int) := Int.mul_nonneg (by omega) (by omega)
  have q1 : (T : Int) * (c : Int) ≤ 240 * 40 := Int.mul_le_mul (by omega) (by omega) (by omega) (by omega)
  have q0 : 0 ≤ (T : Int) * (c : Int) := Int.mul_nonneg (by omega) (by omega)
  have f1 := fv_bd (dem.getD i 0) (b + (T : Int) * (c : Int)) (by omega)
  refine Ev.step (fun k => by rw [spec_l08Windows.l1]) ?_
  simp only [if_pos (show 0 ≤ (i : Int) by omega), if_pos (show (i : Int) < (dem.length : Int) by omega), hg, if_pos (show ((c + 1 : Nat) : Int) ≤ dem.getD i 0 by omega), List.length_map, List.length_range, if_pos (show c < 17592186044416 by omega)]
  rw [w64 (x := (T : Int) * ((c + 1 : Nat) : Int)) (by omega) (by omega), w64 (x := (T : Int) * ((c + 1 : Nat) : Int) - b) (by omega) (by omega), w64 (x := ((c + 1 : Nat) : Int) - 1) (by omega) (by omega), show ((c + 1 : Nat) : Int) - 1 = (c : Int) by omega, w64 (x := (T : Int) * (c : Int)) (by omega) (by omega), w64 (x := b + (T : Int) * (c : Int)) (by omega) (by omega), w_succ (m := c + 1) (by omega)]
  refine ev_bind' (specCeil_tells _ _ (by omega) (by omega)) (ev_bind' (mx1 _ _) (ev_bind' (specFloor_tells _ _ (by omega) (by omega)) ?_))
  rw [w64 (x := fv (dem.getD i 0) (b + (T : Int) * (c : Int)) + 1) (by omega) (by omega)]
  refine ev_bind' (mn1 _ _) ?_
  rw [range_map_succ, range_map_succ] at ih
  have e1 : winE (T : Int) b (dem.getD i 0) c = mx 1 (cv (dem.getD i 0) ((T : Int) * ((c + 1 : Nat) : Int) - b)) := by unfold winE; rw [show (c : Int) + 1 = ((c + 1 : Nat) : Int) by omega]
  have e2 : winL (T : Int) b (dem.getD i 0) c = mn (T : Int) (fv (dem.getD i 0) (b + (T : Int) * (c : Int)) + 1) := rfl
  rw [e1, e2] at ih
  exact ih
theorem specWin_all : ∀ n i : Nat, i + n = dem.length → Ev (fun k => spec_l08Windows.l0 k dem b (T : Int) ((List.range i).map fun q => rowE (T : Int) b (dem.getD q 0)) ((List.range i).map fun q => rowL (T : Int) b (dem.getD q 0)) (i : Int)) ((List.range dem.length).map (fun q => rowE (T : Int) b (dem.getD q 0)), (List.range dem.length).map (fun q => rowL (T : Int) b (dem.getD q 0)))
 | 0, i, hi => by
  obtain rfl : i = dem.length := by omega
  refine Ev.step (fun k => by rw [spec_l08Windows.l0]) ?_
  simp only [if_neg (show ¬ (dem.length : Int) < (dem.length : Int) by omega)]
  exact Ev.now _
 | n + 1, i, hi => by
  have ih := specWin_all n (i + 1) (by omega)
  rw [range_map_succ, range_map_succ] at ih
  refine Ev.step (fun k => by rw [spec_l08Windows.l0]) ?_
  simp only [if_pos (show (i : Int) < (dem.length : Int) by omega)]
  exact specWin_row h6 hd hT hb _ i (by omega) _ _ (by simp; omega) (by simp; omega) ih (dem.getD i 0).toNat 0 (by omega)
end
section
variable {dem : List Int} {b : Int} {T : Nat} (h6 : dem.length ≤ 6) (hd : ∀ i, i < dem.length → 1 ≤ dem.getD i 0 ∧ dem.getD i 0 ≤ 40) (hT : T ≤ 240) (hb : 0 ≤ b ∧ b ≤ 57600)
include h6 hd hT hb
theorem implWin_row (X : List (List Int) × List (List Int) × Bool) (i : Nat) (hi : i < dem.length) (x7 x8 : List (List Int)) (l7 : x7.length ≤ 6) (l8 : x8.length ≤ 6) (rest : Ev (fun k => impl_WindowsOf.l0 k b (T : Int) (x7 ++ [rowE (T : Int) b (dem.getD i 0)]) (x8 ++ [rowL (T : Int) b (dem.getD i 0)]) dem (dem.length : Int) ((i + 1 : Nat) : Int)) X) :
  ∀ n c : Nat, c + n = (dem.getD i 0).toNat → Ev (fun k => impl_WindowsOf.l1 k b (T : Int) x7 x8 (dem.getD i 0) ((List.range c).map (winE (T : Int) b (dem.getD i 0))) ((List.range c).map (winL (T : Int) b (dem.getD i 0))) ((c + 1 : Nat) : Int) dem (dem.length : Int) (i : Int)) X
 | 0, c, hc => by
  obtain ⟨d1, d2⟩ := hd i hi
  refine Ev.step (fun k => by rw [impl_WindowsOf.l1]) ?_
  simp only [if_neg (show ¬ ((c + 1 : Nat) : Int) ≤ dem.getD i 0 by omega), if_pos (show x7.length < 5864062014805 by omega), if_pos (show x8.length < 5864062014805 by omega), w_succ (m := i) (by omega)]
  have e : c = (dem.getD i 0).toNat := by omega
  rw [e]
  exact rest
 | n + 1, c, hc => by
  obtain ⟨d1, d2⟩ := hd i hi
  have ih := implWin_row X i hi x7 x8 l7 l8 rest n (c + 1) (by omega)
  have p1 : (T : Int) * ((c + 1 : Nat) : Int) ≤ 240 * 40 := Int.mul_le_mul (by omega) (by omega) (by omega) (by omega)
  have p0 : 0 ≤ (T : Int) * ((c + 1 : Nat) : Int) := Int.mul_nonneg (by omega) (by omega)
  have q1 : (T : Int) * (c : Int) ≤ 240 * 40 := Int.mul_le_mul (by omega) (by omega) (by omega) (by omega)
  have q0 : 0 ≤ (T : Int) * (c : Int) := Int.mul_nonneg (by omega) (by omega)
  have f1 := fv_bd (dem.getD i 0) (b + (T : Int) * (c : Int)) (by omega)
  refine Ev.step (fun k => by rw [impl_WindowsOf.l1]) ?_
  simp only [if_pos (show ((c + 1 : Nat) : Int) ≤ dem.getD i 0 by omega), List.length_map, List.length_range, if_pos (show c < 17592186044416 by omega)]
  rw [w64 (x := (T : Int) * ((c + 1 : Nat) : Int)) (by omega) (by omega), w64 (x := (T : Int) * ((c + 1 : Nat) : Int) - b) (by omega) (by omega), w64 (x := ((c + 1 : Nat) : Int) - 1) (by omega) (by omega), show ((c + 1 : Nat) : Int) - 1 = (c : Int) by omega, w64 (x := (T : Int) * (c : Int)) (by omega) (by omega), w64 (x := b + (T : Int) * (c : Int)) (by omega) (by omega), w_succ (m := c + 1) (by omega)]
  refine ev_bind' (implCeil_tells _ _ (by omega) (by omega)) (ev_bind' (implFloor_tells _ _ (by omega) (by omega)) ?_)
  rw [w64 (x := fv (dem.getD i 0) (b + (T : Int) * (c : Int)) + 1) (by omega) (by omega)]
  rw [range_map_succ, range_map_succ] at ih
  have e1 : winE (T : Int) b (dem.getD i 0) c = mx 1 (cv (dem.getD i 0) ((T : Int) * ((c + 1 : Nat) : Int) - b)) := by unfold winE; rw [show (c : Int) + 1 = ((c + 1 : Nat) : Int) by omega]
  have e2 : winL (T : Int) b (dem.getD i 0) c = mn (T : Int) (fv (dem.getD i 0) (b + (T : Int) * (c : Int)) + 1) := rfl
  rw [e1, e2] at ih
  exact ih
theorem implWin_all : ∀ n i : Nat, i + n = dem.length → Ev (fun k => impl_WindowsOf.l0 k b (T : Int) ((List.range i).map fun q => rowE (T : Int) b (dem.getD q 0)) ((List.range i).map fun q => rowL (T : Int) b (dem.getD q 0)) dem (dem.length : Int) (i : Int)) ((List.range dem.length).map (fun q => rowE (T : Int) b (dem.getD q 0)), (List.range dem.length).map (fun q => rowL (T : Int) b (dem.getD q 0)), true)
 | 0, i, hi => by
  obtain rfl : i = dem.length := by omega
  refine Ev.step (fun k => by rw [impl_WindowsOf.l0]) ?_
  simp only [if_neg (show ¬ (dem.length : Int) < (dem.length : Int) by omega)]
  exact Ev.now _
 | n + 1, i, hi => by
  have ih := implWin_all n (i + 1) (by omega)
  rw [range_map_succ, range_map_succ] at ih
  have hg : rd dem (i : Int) = dem.getD i 0 := by unfold rd; rw [Int.toNat_natCast]
  refine Ev.step (fun k => by rw [impl_WindowsOf.l0]) ?_
  simp only [if_pos (show (i : Int) < (dem.length : Int) by omega), if_pos (show 0 ≤ (i : Int) by omega), hg]
  exact implWin_row h6 hd hT hb _ i (by omega) _ _ (by simp; omega) (by simp; omega) ih (dem.getD i 0).toNat 0 (by omega)
end
end Go.Proofs.Ytdlnhddpgopghaa.Com
namespace Go.Proofs.Ytdlnhddpgopghaa.Com
set_option linter.unusedSimpArgs false
set_option linter.unusedVariables false
open Go.RowKit Go.Proofs.Ytdlnhddpgopghaa.Q Go.Proofs.YtdlnhddpgopghaaW.PrintWords Go.Proofs.YtdlnhddpgopghaaW.PrintLast
def prd : Int → List Int → Int
 | a, [] => a
 | a, d :: r => prd (a * (d + 1)) r
def inD (d : Int) : Bool := decide (1 ≤ d ∧ d ≤ 40)
def demOk (l : List Int) : Bool := decide (1 ≤ (l.length : Int) ∧ (l.length : Int) ≤ 6) && (l.all inD && decide (prd 1 l ≤ 5000))
theorem pow41 (m : Nat) (h : m ≤ 6) : (41 : Int) ^ m ≤ 4750104241 := by
 have : ∀ m : Fin 7, (41 : Int) ^ m.val ≤ 4750104241 := by decide
 exact this ⟨m, by omega⟩
theorem inD_at {l : List Int} (h : l.all inD = true) (m : Nat) (hm : m < l.length) : 1 ≤ l[m] ∧ l[m] ≤ 40 := by
 have := List.all_eq_true.1 h l[m] (List.getElem_mem hm)
 simpa [inD] using this
theorem implProd_ev (l : List Int) (h6 : l.length ≤ 6) (hd : l.all inD = true) : Ev (fun k => impl_ValidDemands.l0 k 1 l (l.length : Int) 0) (decide (prd 1 l ≤ 5000)) := by
 have key := ev_fold l (fun m a k => impl_ValidDemands.l0 k a l (l.length : Int) (m : Int)) (fun r a => decide (prd a r ≤ 5000)) (fun m a => 1 ≤ a ∧ a ≤ 41 ^ m)
  (fun s hs => by
   refine Ev.step (fun k => by rw [impl_ValidDemands.l0]) ?_
   simp only [if_neg (show ¬ (l.length : Int) < (l.length : Int) by omega)]
   exact Ev.now _)
  (fun m hm s hs ih => by
   have d := inD_at hd m hm
   have hp := pow41 (m + 1) (by omega)
   have h1 : s * (l[m] + 1) ≤ 41 ^ (m + 1) := by
    rw [Int.pow_succ]
    exact Int.mul_le_mul hs.2 (by omega) (by omega) (by omega)
   have h0 : 1 * 1 ≤ s * (l[m] + 1) := Int.mul_le_mul hs.1 (by omega) (by omega) (by omega)
   have := ih (s * (l[m] + 1)) ⟨by omega, h1⟩
   refine Ev.step (fun k => by rw [impl_ValidDemands.l0]) ?_
   simp only [if_pos (show (m : Int) < (l.length : Int) by omega), if_pos (show 0 ≤ (m : Int) by omega), rd_nat hm]
   rw [w64 (x := l[m] + 1) (by omega) (by omega), w64 (x := s * (l[m] + 1)) (by omega) (by omega), w_succ (by omega)]
   exact this) 0 1 (Nat.zero_le _) ⟨by omega, by simp⟩
 simpa using key
theorem implValid_ev (l : List Int) : Ev (fun k => impl_ValidDemands.f k l) (demOk l) := by
 unfold impl_ValidDemands.f demOk
 refine ev_bind' (show impl_size_int64.f l = some (l.length : Int) from by first | rfl | (unfold impl_size_int64.f; rfl)) ?_
 refine ev_bind' (within_tells _ _ _) ?_
 by_cases c : 1 ≤ (l.length : Int) ∧ (l.length : Int) ≤ 6
 ·rw [decide_eq_true c]
  simp only [if_true, Bool.true_and]
  refine ev_bind' (show impl_areWithin.f l 1 40 = some (l.all inD) from rfl) ?_
  refine Ev.step (fun k => by rw [impl_ValidDemands.j0]) ?_
  by_cases d : l.all inD = true
  ·rw [d]
   simp only [Bool.not_true, Bool.false_eq_true, if_false, Bool.true_and]
   exact implProd_ev l (by omega) d
  ·rw [Bool.eq_false_iff.2 d]
   simp only [Bool.not_false, if_true, Bool.false_and]
   exact Ev.now _
 ·rw [decide_eq_false c]
  simp only [Bool.false_eq_true, if_false, Bool.false_and]
  refine Ev.step (fun k => by rw [impl_ValidDemands.j0]) ?_
  simp only [if_true]
  exact Ev.now _
def prdm : Int → List Int → Int
 | a, [] => a
 | a, d :: r => prdm (mn (a * (d + 1)) 5001) r
theorem prdm_is : ∀ (l : List Int) (a : Int), l.all inD = true → 1 ≤ a → (prdm (mn a 5001) l ≤ 5000 ↔ prd a l ≤ 5000) := by
 have ge : ∀ (l : List Int) (a : Int), l.all inD = true → 1 ≤ a → a ≤ prd a l := by
  intro l
  induction l with
  | nil => intro a _ _; exact Int.le_refl _
  | cons d r ih =>
   intro a h ha
   rw [List.all_cons, Bool.and_eq_true] at h
   have hd : 1 ≤ d ∧ d ≤ 40 := by simpa [inD] using h.1
   have h1 : a * 1 ≤ a * (d + 1) := Int.mul_le_mul_of_nonneg_left (by omega) (by omega)
   have := ih (a * (d + 1)) h.2 (by omega)
   unfold prd
   omega
 intro l
 induction l with
 | nil => intro a _ ha; unfold prdm prd mn; split <;> omega
 | cons d r ih =>
  intro a h ha
  have h' := h
  rw [List.all_cons, Bool.and_eq_true] at h
  have hd : 1 ≤ d ∧ d ≤ 40 := by simpa [inD] using h.1
  have h1 : a * 1 ≤ a * (d + 1) := Int.mul_le_mul_of_nonneg_left (by omega) (by omega)
  have e : mn (mn a 5001 * (d + 1)) 5001 = mn (a * (d + 1)) 5001 := by
   by_cases c : a < 5001
   ·have : mn a 5001 = a := by unfold mn; split <;> omega
    rw [this]
   ·have : mn a 5001 = 5001 := by unfold mn; split <;> omega
    rw [this]
    have h2 : (5001 : Int) * 1 ≤ 5001 * (d + 1) := Int.mul_le_mul_of_nonneg_left (by omega) (by omega)
    unfold mn
    split <;> split <;> omega
  unfold prdm prd
  rw [e]
  exact ih (a * (d + 1)) h.2 (by omega)
theorem specMin_is (x y : Int) : spec_l00Min.f x y = some (mn x y) := by
 unfold spec_l00Min.f mn
 split <;> split <;> first | rfl | (congr 1; omega)
theorem specProd_ev (l : List Int) (h6 : l.length ≤ 6) : Ev (fun k => spec_l08Is.l0 k l 1 0) (l.all inD && decide (prdm 1 l ≤ 5000)) := by
 have key := ev_fold l (fun m a k => spec_l08Is.l0 k l a (m : Int)) (fun r a => r.all inD && decide (prdm a r ≤ 5000)) (fun m a => 1 ≤ a ∧ a ≤ 5001)
  (fun s hs => by
   refine Ev.step (fun k => by rw [spec_l08Is.l0]) ?_
   simp only [if_neg (show ¬ (l.length : Int) < (l.length : Int) by omega)]
   exact Ev.now _)
  (fun m hm s hs ih => by
   refine Ev.step (fun k => by rw [spec_l08Is.l0]) ?_
   simp only [if_pos (show (m : Int) < (l.length : Int) by omega), if_pos (show 0 ≤ (m : Int) by omega), rd_nat hm]
   refine ev_bind' (in_tells _ _ _) ?_
   by_cases d : 1 ≤ l[m] ∧ l[m] ≤ 40
   ·have h1 : s * (l[m] + 1) ≤ 5001 * 41 := Int.mul_le_mul hs.2 (by omega) (by omega) (by omega)
    have h0 : 1 * 1 ≤ s * (l[m] + 1) := Int.mul_le_mul hs.1 (by omega) (by omega) (by omega)
    have := ih (mn (s * (l[m] + 1)) 5001) (by unfold mn; split <;> omega)
    rw [decide_eq_true d]
    simp only [if_true]
    rw [w64 (x := l[m] + 1) (by omega) (by omega), w64 (x := s * (l[m] + 1)) (by omega) (by omega), w_succ (by omega)]
    refine ev_bind' (specMin_is _ _) ?_
    simp only [List.all_cons, prdm]
    have hi : inD l[m] = true := by simp [inD, d]
    rw [hi, Bool.true_and]
    exact this
   ·rw [decide_eq_false d]
    have hi : inD l[m] = false := by simp [inD]; omega
    simp only [Bool.false_eq_true, if_false, List.all_cons, hi, Bool.false_and]
    exact Ev.now _) 0 1 (Nat.zero_le _) ⟨by omega, by omega⟩
 simpa using key
theorem specValid_ev (l : List Int) : Ev (fun k => spec_l08Is.f k l) (demOk l) := by
 unfold spec_l08Is.f demOk
 refine ev_bind' (in_tells _ _ _) ?_
 by_cases c : 1 ≤ (l.length : Int) ∧ (l.length : Int) ≤ 6
 ·rw [decide_eq_true c]
  simp only [if_true, Bool.true_and]
  have h := specProd_ev l (by omega)
  have e : (l.all inD && decide (prdm 1 l ≤ 5000)) = (l.all inD && decide (prd 1 l ≤ 5000)) := by
   by_cases d : l.all inD = true
   ·have := prdm_is l 1 d (by omega)
    rw [show mn 1 5001 = 1 from rfl] at this
    rw [d, Bool.true_and, Bool.true_and]
    exact decide_eq_decide.2 this
   ·rw [Bool.eq_false_iff.2 d, Bool.false_and, Bool.false_and]
  rw [← e]
  exact h
 ·rw [decide_eq_false c]
  simp only [Bool.false_eq_true, if_false, Bool.false_and]
  exact Ev.now _
def wsum : Int → List Int → Int
 | a, [] => a
 | a, d :: r => wsum (wrap64 (a + d)) r
theorem implSum_ev (l : List Int) (hl : l.length ≤ 1048576) : Ev (fun k => impl_sum.f k l) (wsum 0 l) := by
 unfold impl_sum.f
 have key := ev_fold l (fun m a k => impl_sum.l0 k a l (l.length : Int) (m : Int)) (fun r a => wsum a r) (fun _ _ => True)
  (fun s hs => by
   refine Ev.step (fun k => by rw [impl_sum.l0]) ?_
   simp only [if_neg (show ¬ (l.length : Int) < (l.length : Int) by omega)]
   exact Ev.now _)
  (fun m hm s hs ih => by
   refine Ev.step (fun k => by rw [impl_sum.l0]) ?_
   simp only [if_pos (show (m : Int) < (l.length : Int) by omega), if_pos (show 0 ≤ (m : Int) by omega), rd_nat hm]
   rw [w_succ (by omega)]
   exact ih _ trivial) 0 0 (Nat.zero_le _) trivial
 simpa using key
theorem specSum_ev (l : List Int) (hl : l.length ≤ 1048576) : Ev (fun k => spec_l01Sum.f k l) (wsum 0 l) := by
 unfold spec_l01Sum.f
 have key := ev_fold l (fun m a k => spec_l01Sum.l0 k l a (m : Int)) (fun r a => wsum a r) (fun _ _ => True)
  (fun s hs => by
   refine Ev.step (fun k => by rw [spec_l01Sum.l0]) ?_
   simp only [if_neg (show ¬ (l.length : Int) < (l.length : Int) by omega)]
   exact Ev.now _)
  (fun m hm s hs ih => by
   refine Ev.step (fun k => by rw [spec_l01Sum.l0]) ?_
   simp only [if_pos (show (m : Int) < (l.length : Int) by omega), if_pos (show 0 ≤ (m : Int) by omega), rd_nat hm]
   rw [w_succ (by omega)]
   exact ih _ trivial) 0 0 (Nat.zero_le _) trivial
 simpa using key
def dsum (l : List Int) : Nat := (l.map Int.toNat).sum
theorem wsum_is : ∀ (l : List Int) (a : Nat), l.all inD = true → a + 40 * l.length ≤ 1000000 → wsum (a : Int) l = ((a + dsum l : Nat) : Int) ∧ l.length ≤ dsum l ∧ dsum l ≤ 40 * l.length
 | [], a, _, _ => by simp [wsum, dsum]
 | d :: r, a, h, hb => by
  rw [List.all_cons, Bool.and_eq_true] at h
  have hd : 1 ≤ d ∧ d ≤ 40 := by simpa [inD] using h.1
  rw [List.length_cons] at hb ⊢
  have ih := wsum_is r (a + d.toNat) h.2 (by omega)
  have e : wrap64 ((a : Int) + d) = ((a + d.toNat : Nat) : Int) := by rw [w64 (by omega) (by omega)]; omega
  have es : dsum (d :: r) = d.toNat + dsum r := by simp [dsum]
  unfold wsum
  rw [e, ih.1, es]
  exact ⟨by congr 1; omega, by omega, by omega⟩
end Go.Proofs.Ytdlnhddpgopghaa.Com
namespace Go.Proofs.Ytdlnhddpgopghaa.Com
set_option linter.unusedSimpArgs false
set_option linter.unusedVariables false
open Go.RowKit Go.Proofs.Ytdlnhddpgopghaa.Q Go.Proofs.YtdlnhddpgopghaaW.PrintWords Go.Proofs.YtdlnhddpgopghaaW.PrintLast
theorem q_edf : ∀ (n : Nat) (k : Int) (W : List EdfSp), qedfOne n k W = edfOne n k W
 | 0, _, _ => rfl
 | n + 1, k, W => by
  unfold qedfOne edfOne
  cases W.findIdx? (fun s => decide (s.1 ≤ k)) with
  | none => rfl
  | some i => simp only [q_edf n]
theorem zip_rows {α : Type} (f g : Nat → List α) (h : ∀ q, (f q).length = (g q).length) : ∀ l : List Nat, (l.map f).flatten.zip (l.map g).flatten = (l.map fun q => (f q).zip (g q)).flatten
 | [] => rfl
 | q :: r => by
  simp only [List.map_cons, List.flatten_cons]
  rw [List.zip_append (h q), zip_rows f g h r]
theorem flat_len (dem : List Int) (F : Int → List Int) (hF : ∀ d, (F d).length = d.toNat) : ((List.range dem.length).map (fun q => F (dem.getD q 0))).flatten.length = dsum dem := by
 have e : (List.range dem.length).map (fun q => F (dem.getD q 0)) = dem.map F := by
  apply List.ext_getElem
  ·simp
  ·intro i h1 h2
   have hi : i < dem.length := by simpa using h1
   simp [List.getD_eq_getElem?_getD, List.getElem?_eq_getElem hi]
 rw [e, List.length_flatten, List.map_map]
 unfold dsum
 congr 1
 apply List.map_congr_left
 intro d _
 exact hF d
def reachB (dem : List Int) (b : Int) : Bool :=
 if demOk dem = true ∧ 0 ≤ b ∧ b ≤ (dsum dem : Int) * dsum dem - 1 then edfTwo (dsum dem) 1 (edfP dem.length ((List.range dem.length).map fun q => rowE (dsum dem : Int) b (dem.getD q 0)) ((List.range dem.length).map fun q => rowL (dsum dem : Int) b (dem.getD q 0)) (List.replicate dem.length 0)) else false
structure DemIs (dem : List Int) : Prop where
 l1 : 1 ≤ dem.length
 l6 : dem.length ≤ 6
 ins : ∀ i, i < dem.length → 1 ≤ dem.getD i 0 ∧ dem.getD i 0 ≤ 40
 s1 : 1 ≤ dsum dem
 s2 : dsum dem ≤ 240
 sum : wsum 0 dem = (dsum dem : Int)
theorem dem_is {dem : List Int} (h : demOk dem = true) : DemIs dem := by
 unfold demOk at h
 simp only [Bool.and_eq_true, decide_eq_true_eq] at h
 obtain ⟨⟨a, b⟩, c, _⟩ := h
 have hw := wsum_is dem 0 c (by omega)
 refine ⟨by omega, by omega, fun i hi => ?_, by omega, by omega, ?_⟩
 ·rw [List.getD_eq_getElem?_getD, List.getElem?_eq_getElem hi]
  exact inD_at c i hi
 ·have := hw.1
  simpa using this
theorem specBound_ev (dem : List Int) (b : Int) (hl : dem.length ≤ 1048576) : Ev (fun k => spec_l08Bound.f k dem b) (decide (demOk dem = true ∧ 0 ≤ b ∧ b ≤ (dsum dem : Int) * dsum dem - 1)) := by
 unfold spec_l08Bound.f
 refine Ev.bind (specValid_ev dem) ?_
 by_cases c : demOk dem = true
 ·have d := dem_is c
  have m1 : (dsum dem : Int) * dsum dem ≤ 240 * 240 := Int.mul_le_mul (by have := d.s2; omega) (by have := d.s2; omega) (by omega) (by omega)
  have m0 : 0 ≤ (dsum dem : Int) * dsum dem := Int.mul_nonneg (by omega) (by omega)
  rw [c]
  simp only [if_true]
  refine Ev.bind (specSum_ev dem hl) (Ev.bind (specSum_ev dem hl) ?_)
  rw [d.sum, w64 (x := (dsum dem : Int) * dsum dem) (by omega) (by omega), w64 (x := (dsum dem : Int) * dsum dem - 1) (by omega) (by omega)]
  refine ev_bind' (in_tells _ _ _) ?_
  simp only [true_and]
  exact Ev.now _
 ·rw [Bool.eq_false_iff.2 c]
  simp only [Bool.false_eq_true, if_false, false_and, decide_false]
  exact Ev.now _
theorem rowE_len (T b d : Int) : (rowE T b d).length = d.toNat := by unfold rowE; simp
theorem rowL_len (T b d : Int) : (rowL T b d).length = d.toNat := by unfold rowL; simp
theorem rows_at (F : Int → List Int) (dem : List Int) (i : Nat) (hi : i < dem.length) : ((List.range dem.length).map fun q => F (dem.getD q 0)).getD i [] = F (dem.getD i 0) := by
 rw [List.getD_eq_getElem?_getD, List.getElem?_map, List.getElem?_range hi]
 rfl
theorem edfIn_start (dem : List Int) (b : Int) (d : DemIs dem) : EdfIn dem ((List.range dem.length).map fun q => rowE (dsum dem : Int) b (dem.getD q 0)) ((List.range dem.length).map fun q => rowL (dsum dem : Int) b (dem.getD q 0)) (List.replicate dem.length 0) where
 small := by have := d.l6; omega
 lE := by simp
 lL := by simp
 lD := by simp
 done := fun i hi => by
  have h0 : (List.replicate dem.length (0 : Int)).getD i 0 = 0 := by
   rw [List.getD_eq_getElem?_getD, List.getElem?_replicate]
   split <;> rfl
  have := d.ins i hi
  rw [h0]
  exact ⟨by omega, by omega⟩
 rows := fun i hi => by
  have := d.ins i hi
  rw [rows_at (fun d => rowE (dsum dem : Int) b d) dem i hi, rows_at (fun d => rowL (dsum dem : Int) b d) dem i hi, rowE_len, rowL_len]
  exact ⟨by omega, by omega⟩
theorem specReach_ev (dem : List Int) (b : Int) (hl : dem.length ≤ 1048576) : Ev (fun k => spec_IsReachable.f k dem b) (reachB dem b) := by
 unfold spec_IsReachable.f reachB
 refine Ev.bind (specBound_ev dem b hl) ?_
 by_cases c : demOk dem = true ∧ 0 ≤ b ∧ b ≤ (dsum dem : Int) * dsum dem - 1
 ·have d := dem_is c.1
  have m1 : (dsum dem : Int) * dsum dem ≤ 240 * 240 := Int.mul_le_mul (by have := d.s2; omega) (by have := d.s2; omega) (by omega) (by omega)
  rw [decide_eq_true c, if_pos c]
  simp only [if_true]
  have hw : Ev (fun k => spec_l08Windows.f k dem b) ((List.range dem.length).map (fun q => rowE (dsum dem : Int) b (dem.getD q 0)), (List.range dem.length).map (fun q => rowL (dsum dem : Int) b (dem.getD q 0))) := by
   unfold spec_l08Windows.f
   refine Ev.bind (specSum_ev dem hl) ?_
   rw [d.sum]
   exact specWin_all (dem := dem) (b := b) (T := dsum dem) d.l6 d.ins d.s2 (by omega) dem.length 0 (by omega)
  refine Ev.bind hw ?_
  simp only [if_pos (show 0 ≤ (dem.length : Int) by omega), Int.toNat_natCast, if_pos (show dem.length ≤ 35184372088832 by omega)]
  exact edf_specOuter (dsum dem) (by have := d.s2; omega) (fun i hi => by have := d.ins i hi; omega) (by have := specSum_ev dem hl; rw [d.sum] at this; exact this) (dsum dem) 1 _ (edfIn_start dem b d) (by omega) (by omega)
 ·rw [decide_eq_false c, if_neg c]
  simp only [Bool.false_eq_true, if_false]
  exact Ev.now _
theorem edf_both (dem : List Int) (b : Int) (d : DemIs dem) :
  qedfOne (dsum dem) 1 (spSort ((((List.range dem.length).map fun q => rowE (dsum dem : Int) b (dem.getD q 0)).flatten).zip (((List.range dem.length).map fun q => rowL (dsum dem : Int) b (dem.getD q 0)).flatten))) =
  edfTwo (dsum dem) 1 (edfP dem.length ((List.range dem.length).map fun q => rowE (dsum dem : Int) b (dem.getD q 0)) ((List.range dem.length).map fun q => rowL (dsum dem : Int) b (dem.getD q 0)) (List.replicate dem.length 0)) := by
 have hP : edfP dem.length ((List.range dem.length).map fun q => rowE (dsum dem : Int) b (dem.getD q 0)) ((List.range dem.length).map fun q => rowL (dsum dem : Int) b (dem.getD q 0)) (List.replicate dem.length 0) = (List.range dem.length).map fun q => (rowE (dsum dem : Int) b (dem.getD q 0)).zip (rowL (dsum dem : Int) b (dem.getD q 0)) := by
  unfold edfP
  apply List.map_congr_left
  intro i hi
  have hi' : i < dem.length := by simpa using hi
  have h0 : (List.replicate dem.length (0 : Int)).getD i 0 = 0 := by
   rw [List.getD_eq_getElem?_getD, List.getElem?_replicate]
   split <;> rfl
  unfold edfRow
  rw [rows_at (fun d => rowE (dsum dem : Int) b d) dem i hi', rows_at (fun d => rowL (dsum dem : Int) b d) dem i hi', h0]
  rfl
 rw [q_edf, hP]
 refine edf_same _ _ _ _ (spSort_sorted _) (fun l hl => ?_) (fun t e _ => ?_)
 ·rw [List.mem_map] at hl
  obtain ⟨q, hq, rfl⟩ := hl
  have hq' : q < dem.length := by simpa using hq
  exact rows_ord _ _ _ (by omega) (d.ins q hq').1
 ·rw [edf_cnt_perm (spSort_perm _), zip_rows (fun q => rowE (dsum dem : Int) b (dem.getD q 0)) (fun q => rowL (dsum dem : Int) b (dem.getD q 0)) (fun q => by rw [rowE_len, rowL_len])]
theorem implWindows_ev (dem : List Int) (b : Int) (hl : dem.length ≤ 1048576) : Ev (fun k => impl_WindowsOf.f k dem b) (if demOk dem = true ∧ 0 ≤ b ∧ b ≤ (dsum dem : Int) * dsum dem - 1 then ((List.range dem.length).map (fun q => rowE (dsum dem : Int) b (dem.getD q 0)), (List.range dem.length).map (fun q => rowL (dsum dem : Int) b (dem.getD q 0)), true) else ([], [], false)) := by
 unfold impl_WindowsOf.f
 refine Ev.bind (implSum_ev dem hl) (Ev.bind (implValid_ev dem) ?_)
 by_cases c : demOk dem = true
 ·have d := dem_is c
  have m1 : (dsum dem : Int) * dsum dem ≤ 240 * 240 := Int.mul_le_mul (by have := d.s2; omega) (by have := d.s2; omega) (by omega) (by omega)
  have m0 : 0 ≤ (dsum dem : Int) * dsum dem := Int.mul_nonneg (by omega) (by omega)
  rw [c]
  simp only [if_true, true_and]
  rw [d.sum, w64 (x := (dsum dem : Int) * dsum dem) (by omega) (by omega), w64 (x := (dsum dem : Int) * dsum dem - 1) (by omega) (by omega)]
  refine ev_bind' (within_tells _ _ _) ?_
  refine Ev.step (fun k => by rw [impl_WindowsOf.j0]) ?_
  by_cases e : 0 ≤ b ∧ b ≤ (dsum dem : Int) * dsum dem - 1
  ·rw [decide_eq_true e, if_pos e]
   simp only [Bool.not_true, Bool.false_eq_true, if_false]
   exact implWin_all (dem := dem) (b := b) (T := dsum dem) d.l6 d.ins d.s2 (by omega) dem.length 0 (by omega)
  ·rw [decide_eq_false e, if_neg e]
   simp only [Bool.not_false, if_true]
   exact Ev.now _
 ·rw [Bool.eq_false_iff.2 c]
  simp only [Bool.false_eq_true, if_false, false_and]
  refine Ev.step (fun k => by rw [impl_WindowsOf.j0]) ?_
  simp only [if_true]
  exact Ev.now _
theorem implReach_ev (dem : List Int) (b : Int) (hl : dem.length ≤ 1048576) : Ev (fun k => impl_IsReachable.f k dem b) (reachB dem b) := by
 unfold impl_IsReachable.f reachB
 refine Ev.bind (implWindows_ev dem b hl) ?_
 by_cases c : demOk dem = true ∧ 0 ≤ b ∧ b ≤ (dsum dem : Int) * dsum dem - 1
 ·have d := dem_is c.1
  rw [if_pos c, if_pos c]
  simp only [if_true]
  rw [flat_len dem (fun x => rowE (dsum dem : Int) b x) (rowE_len _ _), flat_len dem (fun x => rowL (dsum dem : Int) b x) (rowL_len _ _), if_pos ⟨rfl, by have := d.s1; omega, by have := d.s2; omega⟩, edf_both dem b d]
  exact Ev.now _
 ·rw [if_neg c, if_neg c]
  simp only [Bool.false_eq_true, if_false]
  exact Ev.now _
end Go.Proofs.Ytdlnhddpgopghaa.Com
namespace Go.Proofs.Ytdlnhddpgopghaa.Com
set_option linter.unusedSimpArgs false
set_option linter.unusedVariables false
open Go.RowKit Go.Proofs.YtdlnhddpgopghaaW.PrintWords Go.Proofs.Ytdlnhddpgopghaa.Q
theorem set_take (xs : List Int) (m : Nat) (h : m < xs.length) : (xs.take m ++ List.replicate (xs.length - m) 0).set m xs[m] = xs.take (m + 1) ++ List.replicate (xs.length - (m + 1)) 0 := by
 have hl : (xs.take m).length = m := by rw [List.length_take]; omega
 rw [List.set_append_right _ _ (by omega), hl, Nat.sub_self]
 obtain ⟨q, hq⟩ : ∃ q, xs.length - m = q + 1 := ⟨xs.length - m - 1, by omega⟩
 rw [hq, List.replicate_succ, List.set_cons_zero, show xs.length - (m + 1) = q by omega, List.take_succ_eq_append_getElem h, List.append_assoc]
 rfl
theorem toInt64S_ev (xs : List Int) (hx : xs.length ≤ 1048576) : Ev (fun k => laws_toInt64S.f k xs) xs := by
 unfold laws_toInt64S.f
 simp only [if_pos (show 0 ≤ (xs.length : Int) by omega), if_pos (show ((xs.length : Int)).toNat ≤ 35184372088832 by omega)]
 have := ev_count xs.length (fun m s k => laws_toInt64S.l0 k xs s (m : Int)) xs (fun m s => s = xs.take m ++ List.replicate (xs.length - m) 0) (fun s hs => ?_) (fun m s hm hs => ⟨xs.take (m + 1) ++ List.replicate (xs.length - (m + 1)) 0, rfl, fun ih => ?_⟩) 0 (List.replicate xs.length 0) (by omega) (by simp)
 ·simpa using this
 ·refine Ev.step (fun k => by rw [laws_toInt64S.l0]) ?_
  simp only [if_neg (show ¬ (xs.length : Int) < (xs.length : Int) by omega)]
  subst hs
  simp
  exact Ev.now _
 ·refine Ev.step (fun k => by rw [laws_toInt64S.l0]) ?_
  subst hs
  have hl : (xs.take m ++ List.replicate (xs.length - m) 0).length = xs.length := by simp; omega
  simp only [if_pos (show (m : Int) < (xs.length : Int) by omega), if_pos (show 0 ≤ (m : Int) by omega), hl, rd_nat hm, Int.toNat_natCast, set_take xs m hm, w_succ (m := m) (by omega)]
  exact ih
theorem eqInt64S_ev (xs ys : List Int) (hx : xs.length ≤ 1048576) : Ev (fun k => laws_eqInt64S.f k xs ys) (decide (xs = ys)) := by
 unfold laws_eqInt64S.f
 by_cases hl : (xs.length : Int) = (ys.length : Int)
 ·simp only [if_pos hl]
  have key : ∀ m, m ≤ xs.length → Ev (fun k => laws_eqInt64S.l0 k xs ys (m : Int)) (decide (xs.drop m = ys.drop m)) := by
   have gen := ev_list xs (fun m k => laws_eqInt64S.l0 k xs ys (m : Int)) (fun l => decide (l = ys.drop (xs.length - l.length))) ?_ ?_
   ·intro m hm
    have := gen m hm
    rwa [List.length_drop, show xs.length - (xs.length - m) = m by omega] at this
   ·refine Ev.step (fun k => by rw [laws_eqInt64S.l0]) ?_
    simp only [if_neg (show ¬ (xs.length : Int) < (xs.length : Int) by omega)]
    have : ys.drop (xs.length - ([] : List Int).length) = [] := by simp; omega
    rw [this]
    exact Ev.now _
   ·intro m hm ih
    refine Ev.step (fun k => by rw [laws_eqInt64S.l0]) ?_
    have hy : m < ys.length := by omega
    simp only [if_pos (show (m : Int) < (xs.length : Int) by omega), if_pos (show 0 ≤ (m : Int) by omega), if_pos (show (m : Int) < (ys.length : Int) by omega), rd_nat hm, rd_nat hy, w_succ (m := m) (by omega)]
    rw [List.length_drop, show xs.length - (xs.length - (m + 1)) = m + 1 by omega] at ih
    have e : xs.length - (xs[m] :: xs.drop (m + 1)).length = m := by simp; omega
    rw [e, List.drop_eq_getElem_cons hy]
    by_cases c : xs[m] = ys[m]
    ·simp only [if_pos c]
     rw [show decide (xs[m] :: xs.drop (m + 1) = ys[m] :: ys.drop (m + 1)) = decide (xs.drop (m + 1) = ys.drop (m + 1)) from decide_eq_decide.2 (by rw [c]; exact ⟨fun h => (List.cons.inj h).2, fun h => by rw [h]⟩)]
     exact ih
    ·simp only [if_neg c]
     rw [decide_eq_false (show ¬ xs[m] :: xs.drop (m + 1) = ys[m] :: ys.drop (m + 1) from fun h => c (List.cons.inj h).1)]
     exact Ev.now _
  have := key 0 (by omega)
  simpa using this
 ·simp only [if_neg hl]
  have : xs ≠ ys := fun e => hl (by rw [e])
  rw [decide_eq_false this]
  exact Ev.now _
end Go.Proofs.Ytdlnhddpgopghaa.Com
namespace Go.Proofs.Ytdlnhddpgopghaa.Pure
set_option linter.unusedSimpArgs false
set_option linter.unusedVariables false
open Go.RowKit Go.Proofs.Ytdlnhddpgopghaa.Q Go.Proofs.YtdlnhddpgopghaaW.PrintWords Go.Proofs.YtdlnhddpgopghaaW.PrintLast Go.Proofs.Ytdlnhddpgopghaa.Com
theorem FnExactIsReachable : laws_FnExactIsReachable.Pure := by
 intro l b _ _ _ _
 apply ev_of
 unfold laws_FnExactIsReachable.f
 by_cases c : (l.length : Int) > 1048576
 ·simp only [if_pos c]
  exact Ev.now _
 ·simp only [if_neg c]
  have hl : l.length ≤ 1048576 := by omega
  refine Ev.bind (toInt64S_ev l hl) (Ev.bind (specReach_ev l b hl) (Ev.bind (toInt64S_ev l hl) (Ev.bind (implReach_ev l b hl) ?_)))
  simp only [bne_self_eq_false, Bool.false_eq_true, if_false]
  refine Ev.bind (toInt64S_ev l hl) (Ev.bind (eqInt64S_ev l l hl) ?_)
  simp only [decide_true, if_true]
  exact Ev.now _
end Go.Proofs.Ytdlnhddpgopghaa.Pure
