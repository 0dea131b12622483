/- The statement FnJournal, with all that its proof stands on: functions of the program as plain functions, the program's walks, and the plain law. Conditions: none beyond the statement's own. -/
import Derived.ArgAppend
import Derived.Below
import Derived.BigQuiet
import Derived.BigRegion
import Derived.Deep.AppendLies
import Derived.Deep.CutBlock
import Derived.Deep.DeepCutAuto
import Derived.Deep.Draws
import Derived.Deep.LoopGhost
import Derived.Deep.OwnRows
import Derived.Deep.QuietTactic
import Derived.Deep.RegionHeld3
import Derived.KernelRfl
import Derived.Laws.BitsLemmas
import Derived.Laws.BytesArg
import Derived.Laws.IdiomCopy
import Derived.Laws.MakeOwn
import Derived.Laws.OwnMore
import Derived.Laws.Rows
import Derived.Laws.Slices
import Derived.Lib.AppendIntMem
import Derived.Lib.AppendStr
import Derived.Lib.ConvBytes
import Derived.Maps.AppendAt
import Derived.OrdersHeld
import Derived.OwnWalk
import Derived.ProofKit
import Derived.RowKit
import Derived.RowKit3
import Derived.Shelf.LaysM
import Derived.Shelf.RegionOpenPlain
import Derived.Shelf.Small.Strs
import Derived.Shelf.Small.Utf8
import Derived.Shelf.Strconv.Itoa0
import Derived.Shelf.Strconv.Itoa1
import Derived.Shelf.Strconv.Itoa2
import Derived.Shelf.Strconv.Itoa3
import Derived.Shelf.Strconv.Itoa4
import Derived.Shelf.Strings.AsciiSet
import Derived.Shelf.Strings.Builder1
import Derived.Shelf.Strings.Cut
import Derived.Shelf.Strings.Prefix
import Derived.Shelf.Strings.Runes
import Derived.Shelf.Strings.Search1
import Derived.Shelf.Strings.Search2
import Derived.Shelf.Strings.Search3
import Derived.Shelf.Strings.Shaped
import Derived.Shelf.Strings.SlTrimAscii
import Derived.Shelf.Strings.Trim
import Derived.Shelf.Unicode.Decode
import Derived.Shelf.Unicode.DecodeAny
import Derived.Shelf.Unicode.DecodeLast
import Derived.Shelf.Unicode.DecodeSlow
import Derived.Sort.OwnSortedInts
import Derived.Tactics
import Derived.Test.YtcnbhfefhmmgjaaDoorProg
import Derived.WalkKit
import Derived.WalkSmall
import Derived.WideLaws
import Derived.Test.YtcnbhfefhmmgjaaDoorBFnJournal2
import Derived.Test.YtcnbhfefhmmgjaaDoorBFnJournal5
import Derived.Test.YtcnbhfefhmmgjaaDoorBFnJournal6
import Derived.Test.YtcnbhfefhmmgjaaDoorBFnJournal7
import Derived.Test.YtcnbhfefhmmgjaaDoorBFnJournal10
import Derived.Test.YtcnbhfefhmmgjaaDoorBFnJournal11
set_option linter.unusedVariables false
set_option linter.unusedSimpArgs false
namespace Go.Proofs.YtcnbhfefhmmgjaaDoor.Q
open Go.RowKit Go.Proofs.YtcnbhfefhmmgjaaDoorW.PrintWords Go.Proofs.YtcnbhfefhmmgjaaDoorW.PrintLast Go.Proofs.YtcnbhfefhmmgjaaDoorW.PrintMore
attribute [local go_sem] max2_int min2_int max_two min_two max_three min_three max_four min_four   -- for this text's walks alone
set_option linter.unusedVariables false
set_option linter.unusedSimpArgs false
def dkIns (name : ByteArray) : List ByteArray → List ByteArray
 | [] => [name]
 | n :: r => if Op.bytesLess n.toList name.toList then n :: dkIns name r else name :: n :: r
def dkSet (ns : List ByteArray) (name : ByteArray) : List ByteArray := if ns.any (fun n => n.toList == name.toList) then ns else dkIns name ns
def dkNames : List ByteArray := [⟨#[97]⟩, ⟨#[98]⟩, ⟨#[118, 111, 116, 101, 115]⟩, ⟨#[120]⟩, ⟨#[122, 101, 97, 108]⟩]
def spec_B10Desk.l0 : Nat → List ByteArray → Int → List Int → Int → Int → Option (List ByteArray)
 | 0, _, _, _, _, _ => none
 | k + 1, ns, c, s0, s1, s2 => if c > 0 then ((spec_l00Src_text.f s0 s1 s2 dkNames).bind fun t => ((spec_l01DrawOk.f k s0 t.2.1 t.2.2).bind fun v => ((spec_IsName.f k t.1).bind fun b => (if b = true ∧ ns.length ≤ 5 then spec_B10Desk.l0 k (dkSet ns t.1) (wrap64 (c - 1)) s0 v.2.2.1 v.2.2.2 else none)))) else some ns
def spec_B10Desk.f (k : Nat) (l0 : List Int) : Option (List ByteArray × List S77) := (spec_l00From.f l0).bind fun b => ((spec_l00Src_pick.f b.1 b.2.1 b.2.2 4).bind fun c => ((spec_B10Desk.l0 k [] c.1 b.1 c.2.1 c.2.2).bind fun ns => some (ns, List.replicate ns.length (⟨0, []⟩ : S77))))
theorem spec_B10Desk.mono_l : ∀ k ns c s0 s1 s2, LeO (spec_B10Desk.l0 k ns c s0 s1 s2) (spec_B10Desk.l0 (k + 1) ns c s0 s1 s2)
 | 0, _, _, _, _, _ => fun r h => by simp [spec_B10Desk.l0] at h
 | k + 1, ns, c, s0, s1, s2 => by
  rw [spec_B10Desk.l0, spec_B10Desk.l0]
  refine LeO.ite (LeO.bind (LeO.refl _) (fun t => LeO.bind (spec_l01DrawOk.mono _ _ _ _) (fun v => LeO.bind (spec_IsName.mono _ _) (fun b => LeO.ite (spec_B10Desk.mono_l k _ _ _ _ _) (LeO.refl _))))) (LeO.refl _)
theorem spec_B10Desk.mono : ∀ a0 k, LeO (spec_B10Desk.f k a0) (spec_B10Desk.f (k + 1) a0) := by
 intro a0 k
 unfold spec_B10Desk.f
 exact LeO.bind (LeO.refl _) (fun b => LeO.bind (LeO.refl _) (fun c => LeO.bind (spec_B10Desk.mono_l _ _ _ _ _ _) (fun ns => LeO.refl _)))
def dkFind (ns : List ByteArray) (nm : ByteArray) : Int := match ns.findIdx? (fun n => n.toList == nm.toList) with | some i => (i : Int) | none => -1
theorem dk_find (ns : List ByteArray) (ls : List S77) (nm : ByteArray) (hl : ns.length ≤ 1000) : ∃ k, spec_l11Find.f k ns ls nm = some (dkFind ns nm) := by
 have key : ∀ n i : Nat, i + n = ns.length → (∀ j (hj : j < ns.length), j < i → (ns[j].toList == nm.toList) = false) → ∃ k, spec_l11Find.l0 k nm (i : Int) ns ls = some (dkFind ns nm) := by
  intro n
  induction n with
  | zero =>
   intro i hi hno
   refine ⟨1, ?_⟩
   rw [spec_l11Find.l0, if_neg (by omega)]
   unfold dkFind
   have : ns.findIdx? (fun n => n.toList == nm.toList) = none := List.findIdx?_eq_none_iff.2 (fun x hx => by obtain ⟨j, hj, rfl⟩ := List.getElem_of_mem hx; exact hno j hj (by omega))
   rw [this]
  | succ n ih =>
   intro i hi hno
   have hlt : i < ns.length := by omega
   have hrd : rdOf ByteArray.empty ns (i : Int) = ns[i] := by
    unfold rdOf
    rw [Int.toNat_natCast, List.getD_eq_getElem?_getD, List.getElem?_eq_getElem hlt]; rfl
   by_cases c : ns[i].toList = nm.toList
   ·refine ⟨1, ?_⟩
    rw [spec_l11Find.l0, if_pos (by omega), if_pos (by omega), hrd, if_pos c]
    unfold dkFind
    have : ns.findIdx? (fun n => n.toList == nm.toList) = some i := List.findIdx?_eq_some_iff_getElem.2 ⟨hlt, by simpa using c, fun j hj => by simp [hno j (by omega) hj]⟩
    rw [this]
   ·obtain ⟨k, hk⟩ := ih (i + 1) (by omega) (fun j hj hji => by
     by_cases e : j = i
     ·subst e; simpa using c
     ·exact hno j hj (by omega))
    refine ⟨k + 1, ?_⟩
    have hw : wrap64 ((i : Int) + 1) = ((i + 1 : Nat) : Int) := by unfold wrap64; omega
    rw [spec_l11Find.l0, if_pos (by omega), if_pos (by omega), hrd, if_neg c, hw]
    exact hk
 exact key ns.length 0 (by omega) (fun j hj h => by omega)
def dkPos (ns : List ByteArray) (nm : ByteArray) : Nat := (ns.takeWhile (fun n => Op.bytesLess n.toList nm.toList)).length
theorem dkPos_le (ns : List ByteArray) (nm : ByteArray) : dkPos ns nm ≤ ns.length := (List.takeWhile_prefix _).length_le
theorem dkIns_eq (nm : ByteArray) : ∀ ns : List ByteArray, dkIns nm ns = ns.take (dkPos ns nm) ++ [nm] ++ ns.drop (dkPos ns nm)
 | [] => rfl
 | n :: r => by
  unfold dkIns dkPos
  cases c : Op.bytesLess n.toList nm.toList with
  | true =>
   rw [List.takeWhile_cons, if_pos c, if_pos rfl, dkIns_eq nm r]
   rfl
  | false =>
   simp [List.takeWhile_cons, c]
theorem dkPos_lt (nm : ByteArray) : ∀ (ns : List ByteArray) (j : Nat) (hj : j < ns.length), j < dkPos ns nm → Op.bytesLess ns[j].toList nm.toList = true
 | [], j, hj, _ => by simp at hj
 | n :: r, j, hj, h => by
  unfold dkPos at h
  cases c : Op.bytesLess n.toList nm.toList with
  | true =>
   cases j with
   | zero => exact c
   | succ j =>
    rw [List.takeWhile_cons, if_pos c, List.length_cons] at h
    exact dkPos_lt nm r j (by simpa using hj) (by unfold dkPos; omega)
  | false =>
   rw [List.takeWhile_cons, if_neg (by simp [c])] at h
   simp at h
theorem dkPos_at (nm : ByteArray) : ∀ (ns : List ByteArray) (hj : dkPos ns nm < ns.length), Op.bytesLess ns[dkPos ns nm].toList nm.toList = false
 | [], hj => by simp at hj
 | n :: r, hj => by
  cases c : Op.bytesLess n.toList nm.toList with
  | true =>
   have e : dkPos (n :: r) nm = dkPos r nm + 1 := by unfold dkPos; rw [List.takeWhile_cons, if_pos c]; rfl
   have ih := dkPos_at nm r (by rw [e] at hj; simpa using hj)
   simp only [e, List.getElem_cons_succ]
   exact ih
  | false =>
   have e : dkPos (n :: r) nm = 0 := by unfold dkPos; rw [List.takeWhile_cons, if_neg (by simp [c])]; rfl
   simp only [e, List.getElem_cons_zero]
   exact c
theorem dkFind_is (ns : List ByteArray) (nm : ByteArray) : (dkFind ns nm = -1 ∧ ns.any (fun n => n.toList == nm.toList) = false) ∨ ∃ i, i < ns.length ∧ dkFind ns nm = (i : Int) ∧ ns.any (fun n => n.toList == nm.toList) = true := by
 unfold dkFind
 cases h : ns.findIdx? (fun n => n.toList == nm.toList) with
 | none =>
  refine .inl ⟨rfl, ?_⟩
  rw [List.any_eq_false]
  intro x hx
  simp [List.findIdx?_eq_none_iff.1 h x hx]
 | some i =>
  obtain ⟨hi, h1, _⟩ := List.findIdx?_eq_some_iff_getElem.1 h
  exact .inr ⟨i, hi, rfl, List.any_eq_true.2 ⟨ns[i], List.getElem_mem hi, h1⟩⟩
theorem kT_to {w : World} {base : Nat} {ok : Nat → Prop} {v : Value} {ls : List S77} (h : Kd.R kT77 77 w base ok v ls) (hp : 0 < ls.length) :
  ∃ g cap cur, v = .slice (some ⟨g, 0, none⟩) ls.length cap ∧ base ≤ g ∧ w.heap[g]? = some (.cells cur 77 (0, 0)) ∧ ls.length ≤ cap ∧ cap ≤ maxLen ∧ cur.size = cap * 2 ∧ ok g ∧ ∀ u ∈ cur.toList.take (ls.length * 2), u.oneCell' = true := by
 obtain ⟨h0, inner, ⟨hl, hr⟩, hreps⟩ := h
 rcases hr with ⟨_, hn⟩ | ⟨g, cap, cur, rfl, hb, hh, h1, h2, h3, h4⟩
 ·omega
 ·refine ⟨g, cap, cur, rfl, hb, hh, h1, h2, h3, h0 g rfl, fun u hu => ?_⟩
  replace h4 : cur.toList.take (ls.length * 2) = inner := h4
  rw [h4] at hu
  obtain ⟨j, hj, rfl⟩ := List.getElem_of_mem hu
  have hl2 : inner.length = ls.length * 2 := hl
  have hjl : j / 2 < ls.length := by omega
  have hk := (hreps.2 (j / 2) _ (List.getElem?_eq_getElem hjl)).2
  apply hk
  replace hk : (inner.drop (j / 2 * 2)).take 2 = (inner.drop (j / 2 * 2)).take 2 := rfl
  show inner[j] ∈ (inner.drop (j / 2 * 2)).take 2
  rw [List.mem_take_iff_getElem]
  refine ⟨j % 2, by rw [List.length_drop]; omega, ?_⟩
  rw [List.getElem_drop]
  congr 1
  omega
theorem kT_of {w : World} {base g cap : Nat} {ok : Nat → Prop} {cur : Array Value} (ls : List S77) (hb : base ≤ g) (hh : w.heap[g]? = some (.cells cur 77 (0, 0))) (h1 : ls.length ≤ cap) (h2 : cap ≤ maxLen) (h3 : cur.size = cap * 2) (ho : ok g) (hc : ∀ u ∈ cur.toList.take (ls.length * 2), u.oneCell' = true) :
  Kd.R kT77 77 w base ok (.slice (some ⟨g, 0, none⟩) ls.length cap) ls := by
 have hl : (cur.toList.take (ls.length * 2)).length = ls.length * 2 := by
  have : cur.toList.length = cur.size := by simp
  rw [List.length_take]; omega
 refine ⟨fun k hk => ?_, cur.toList.take (ls.length * 2), ⟨hl, .inr ⟨g, cap, cur, rfl, hb, hh, h1, h2, h3, rfl⟩⟩, ?_⟩
 ·have : g = k := by simpa [Value.ownBlock] using hk
  exact this ▸ ho
 ·refine ⟨by rw [hl]; rfl, fun j p hj => ?_⟩
  have hjl := (List.getElem?_eq_some_iff.1 hj).1
  refine ⟨?_, fun u hu => hc u (List.mem_of_mem_drop (List.mem_of_mem_take hu))⟩
  show ((cur.toList.take (ls.length * 2)).drop (j * 2) |>.take 2).length = 2
  rw [List.length_take, List.length_drop, hl]
  omega
theorem kT_store {w : World} {base g n cap : Nat} {ok : Nat → Prop} {ls : List S77} (h : Kd.R kT77 77 w base ok (.slice (some ⟨g, 0, none⟩) n cap) ls) (j : Nat) (u : Value) (hu : u.oneCell' = true) : Kd.R kT77 77 (w.setCell ⟨g, j, none⟩ u) base ok (.slice (some ⟨g, 0, none⟩) n cap) ls := by
 obtain ⟨rfl, _⟩ := Kd.R_reads' h
 by_cases hp : 0 < ls.length
 ·obtain ⟨g', cap', cur, hv, hb, hh, h1, h2, h3, ho, hc⟩ := kT_to h hp
  injection hv with e1 e2 e3
  injection e1 with e1
  injection e1 with e1 _
  subst e1
  subst e3
  refine kT_of (cur := cur.setIfInBounds j u) ls hb (blk_put hh j u rfl) h1 h2 (by simp [h3]) ho (fun x hx => ?_)
  have hx2 : x ∈ (cur.toList.set j u).take (ls.length * 2) := by simpa using hx
  rw [List.take_set] at hx2
  rcases List.mem_or_eq_of_mem_set hx2 with hm | rfl
  ·exact hc x hm
  ·exact hu
 ·have h0 : ls.length = 0 := by omega
  obtain ⟨a0, inner, ⟨hl, hr⟩, hreps⟩ := h
  rcases hr with ⟨hv, _⟩ | ⟨g', cap', cur, hv, hb, hh, h1, h2, h3, h4⟩
  ·cases hv
  ·injection hv with e1 e2 e3
   injection e1 with e1
   injection e1 with e1 _
   subst e1
   subst e3
   replace h3 : cur.size = cap * 2 := h3
   have := kT_of (cur := cur.setIfInBounds j u) (ok := ok) ls hb (blk_put hh j u rfl) h1 h2 (by simp [h3]) (a0 g rfl) (fun x hx => by rw [h0] at hx; simp at hx)
   exact this
theorem blk_at_new {w : World} {o : Obj} {k : Nat} (h : k = w.heap.size) : (w.alloc o).heap[k]? = some o := by rw [h]; exact blk_new w o
theorem kT_empty {W : World} {base g : Nat} (hh : W.heap[g]? = some (.cells #[] 77 (0, 0))) (hb : base ≤ g) : Kd.R kT77 77 W base (fun _ => True) (.slice (some ⟨g, 0, none⟩) 0 0) [] :=
 kT_of (ls := ([] : List S77)) hb hh (Nat.le_refl _) (by decide) rfl trivial (fun u hu => by simp at hu)
theorem kT_one {W : World} {g : Nat} {x : Int} {A : Option Addr} {n c : Nat} (d : S77) (hh : W.heap[g]? = some (.cells #[.int .i64 x, .slice A n c] 77 (0, 0))) : Kd.C kT77 W (some ⟨g, 0, none⟩) 1 [d] := by
 have h := kT_of (w := W) (base := 0) (ok := fun _ => True) (cap := 1) [d] (Nat.zero_le _) hh (Nat.le_refl _) (by decide) rfl trivial (fun u hu => by
  have hu2 : u ∈ [Value.int .i64 x, Value.slice A n c] := by simpa using hu
  simp only [List.mem_cons, List.not_mem_nil, or_false] at hu2
  rcases hu2 with rfl | rfl <;> rfl)
 exact (Kd.R_reads' h).2.2
theorem step_append_T {ops : Array Oper} {o : Oper} {a : Act} {w0 W : World} {Kc : Act → World → Prop} {Q : Exit → Act → World → Prop} {E : Prop} (hg : o.guard = none) (s x : Operand) (hop : o.op = .call { callee := .builtin .append, args := #[s, x], argTypes := #[37, 37] })
  (base : Nat) (v : Value) (xs ys : List S77) (A : Option Addr) (m c : Nat) (hs : a.eval s = v) (hx : a.eval x = .slice A m c) (HO : Kd.R kT77 77 W base (fun _ => True) v xs) (HR : Kd.C kT77 W A m ys) (HB : Below base w0 W) (hbase : base ≤ W.heap.size) (hl : xs.length + m ≤ 1000000)
  (h : ∀ v1 w1, Kd.R kT77 77 w1 base (fun _ => True) v1 (xs ++ ys) → Below base w0 w1 → W.grownBy w1 v.ownBlock → Kc (a.put o.dst v1) w1) :
  if Region.wanted o (yielded ops a.tmps) = true then Oper.wp Tryd.prog o a W Kc Q else E := by
 have hw : Region.wanted o (yielded ops a.tmps) = true := by simp [Region.wanted, hg]
 rw [if_pos hw]
 have key := Kd.R_append_rows_step (P := Tryd.prog) (Kc := Kc) (Q := Q) kT77 (Rr := fun _ cs => cs.length = 2 ∧ ∀ u ∈ cs, u.oneCell' = true) (w0 := w0) (W := W) base hw s x 37 77 (.agg #[.int .i64 0, .slice none 0 0]) 32 hop Tryd.underlying37 (by kernel_rfl) rfl (by decide) (by decide) v xs ys A m c (fun _ => True) (fun k => some k ≠ v.ownBlock) hs hx HO HR (fun _ _ q => q) (fun k hk => ⟨trivial, hk⟩) (fun _ _ => trivial) HB hbase (by omega) (fun v1 w1 hr hb hg _ => h v1 w1 hr hb hg)
 rw [if_pos hw] at key
 exact key
structure DkSt (w0 w : World) (gd : Nat) (ns : List ByteArray) (vN vL : Value) : Prop where
 box : w.heap[gd]? = some (.cells #[vN, vL] 39 (0, 0))
 ge : w0.heap.size ≤ gd
 nms : Kd.R Kd.string 9 w w0.heap.size (fun _ => True) vN ns
 lst : ∃ ls : List S77, ls.length = ns.length ∧ Kd.R kT77 77 w w0.heap.size (fun _ => True) vL ls
def DkKeep (gd : Nat) (vL : Value) (w w' : World) : Prop := w.heap.size ≤ w'.heap.size ∧ ∀ k, k < w.heap.size → k ≠ gd → some k ≠ vL.ownBlock → w'.heap[k]? = w.heap[k]?
set_option maxHeartbeats 8000000 in
set_option maxRecDepth 100000 in
theorem dk_set (kn : Nat) (w0 : World) (gd : Nat) (vN vL : Value) (ns : List ByteArray) (nm : ByteArray) (xv : Int) (AV : Option Addr) (nV cV : Nat) (w : World) (hB : Below w0.heap.size w0 w) (hD : DkSt w0 w gd ns vN vL) (h5 : ns.length ≤ 5) (hnm : spec_IsName.f kn nm = some true) :
  Calls Tryd.prog 77 #[.pointer (some ⟨gd, 0, none⟩), .string nm, .agg #[.int .i64 xv, .slice AV nV cV]] w fun e w' => (∃ q : Bool, e = .returned (.bool q)) ∧ ∃ vN' vL', DkSt w0 w' gd (dkSet ns nm) vN' vL' ∧ Below w0.heap.size w0 w' ∧ DkKeep gd vL w w' := by
 obtain ⟨ls, hll, hL⟩ := hD.lst
 obtain ⟨A0, c0, rfl, hc0, hr0⟩ := Kd.R_reads hD.nms
 obtain ⟨A1, c1, rfl, hc1, hr1⟩ := Kd.R_reads hL
 obtain ⟨kf, hf⟩ := dk_find ns ls nm (by omega)
 have HF := Aside0.mk hf
 have hgl : gd < w.heap.size := blk_lt hD.box
 rcases dkFind_is ns nm with ⟨hq, hany⟩ | ⟨i, hi, hq, hany⟩
 ·have hset : dkSet ns nm = ns.take (dkPos ns nm) ++ [nm] ++ ns.drop (dkPos ns nm) := by unfold dkSet; rw [if_neg (by simp [hany]), dkIns_eq]
  rw [hset]
  rw [hq] at HF
  have HD := Aside0.mk hD
  have HL := Aside0.mk hL
  have HB := Aside0.mk hB
  have HR0 := Aside0.mk hr0
  have HR1 := Aside0.mk hr1
  have HC0 := Aside0.mk hc0
  have HC1 := Aside0.mk hc1
  have HLL := Aside0.mk hll
  have HNM := Aside0.mk hnm
  have hp := dkPos_le ns nm
  obtain ⟨P, hP⟩ : ∃ P, P = dkPos ns nm := ⟨_, rfl⟩
  rw [← hP] at hp ⊢
  have HP := Aside0.mk hP
  have h6 : ¬ (6 : Int) ≤ (ns.length : Int) := by omega
  clear hD hL hB hr0 hr1 hc0 hc1 hf hnm hany hset hP hll
  go_enter Tryd.func77, Tryd.ntmps77
  go_wp2_with (first
   | (go_at_call 97; refine (spec_l11Find.calls kf gd A0 c0 ns _ _ ls nm _ _ (Kd.C_below HR0.out (below_alloc (Below.refl _ _) _)) HC0.out (Kd.C_below HR1.out (below_alloc (Below.refl _ _) _)) HC1.out (blk_alloc HD.out.box _) HF.out).mono ?_; rintro e w1 ⟨rfl, hb1⟩; have HB1 := Aside0.mk hb1; have hk0 : w1.cell? ⟨gd, 0, none⟩ = some (.slice A0 ns.length c0) := ((blk_cell (blk_below (blk_alloc HD.out.box _) hb1) 0).trans rfl); clear hb1)
   | (go_at_call 61; refine (spec_IsName.calls kn nm true _ HNM.out).mono ?_; rintro e w2 ⟨rfl, ⟨nd, rfl⟩⟩))
  go_loopg [8] P (fun gg s8 w' => ∃ m : Nat, m ≤ P ∧ P - m ≤ gg ∧ s8 = .int .i64 m ∧ Aside0 (Below w1.heap.size w1 w'))
  case atStart => exact ⟨0, Nat.zero_le _, by omega, rfl, ⟨by first | exact Below.refl _ _ | exact pw_below_drewN (Below.refl _ _) _⟩⟩
  case round =>
   obtain ⟨m, hm, hg, rfl, HX⟩ := hrel
   have hk0r : wr.cell? ⟨gd, 0, none⟩ = some (.slice A0 ns.length c0) := pw_cell_below HX.out hk0
   by_cases hlt : m < P
   ·have hmn : m < ns.length := by omega
    have hmz : (m : Int) < (ns.length : Int) := by omega
    have hm0 : (0 : Int) ≤ (m : Int) := by omega
    have hl := dkPos_lt nm ns m hmn (by rw [← HP.out]; exact hlt)
    have hbw1 : Below w.heap.size w wr := below_step (below_step (below_alloc (Below.refl _ _) _) HB1.out) HX.out
    obtain ⟨ad, e1, hx⟩ := Kd.at_string (Kd.C_below HR0.out hbw1) (m : Int) hm0 hmz
    subst e1
    have hrd : rdOf ByteArray.empty ns (m : Int) = ns[m] := by
     unfold rdOf
     rw [Int.toNat_natCast, List.getD_eq_getElem?_getD, List.getElem?_eq_getElem hmn]; rfl
    rw [hrd, Int.toNat_natCast] at hx
    generalize ns[m] = y at hx hl
    clear hrd hbw1
    go_wp2
    go_roundg (P - (m + 1))
    case measure => omega
    case rel => exact ⟨m + 1, by omega, by omega, by go_num, HX⟩
   ·have hme : m = P := by omega
    subst hme
    have HBX : Aside0 (Below w.heap.size w wr) := ⟨below_step (below_step (below_alloc (Below.refl _ _) _) HB1.out) HX.out⟩
    have HBOX : Aside0 (wr.heap[w.heap.size]? = some (.cells #[.int .i64 xv, .slice AV nV cV] 77 (0, 0))) := ⟨blk_below (blk_new w _) (below_step HB1.out HX.out)⟩
    have hlw : w.heap.size < wr.heap.size := blk_lt HBOX.out
    have hk1r : wr.cell? ⟨gd, 1, none⟩ = some (.slice A1 ls.length c1) := pw_cell_below HBX.out ((blk_cell HD.out.box 1).trans rfl)
    have hcs := (show (Tryd.prog.info? 9).map (fun i => (i.zero, i.size, i.bytes)) = some (some (.string ByteArray.empty), 1, 16) from by kernel_rfl)
    have HCS := Aside0.mk hcs
    obtain ⟨is0, his, his2⟩ := Option.map_eq_some_iff.1 hcs
    simp only [Prod.mk.injEq] at his2
    have HIS := Aside0.mk his
    have HIS2 := Aside0.mk his2.2.1
    have hct := (show (Tryd.prog.info? 77).map (fun i => (i.zero, i.size, i.bytes)) = some (some (.agg #[.int .i64 0, .slice none 0 0]), 2, 32) from by kernel_rfl)
    have HCT := Aside0.mk hct
    obtain ⟨it0, hit, hit2⟩ := Option.map_eq_some_iff.1 hct
    simp only [Prod.mk.injEq] at hit2
    have HIT := Aside0.mk hit
    have HIT2 := Aside0.mk hit2.2.1
    have hml : m ≤ ls.length := by have := HLL.out; omega
    have hll5 : ls.length ≤ 5 := by have := HLL.out; omega
    have hcut2 := cut_to (P := Tryd.prog) 37 77 .i64 Tryd.underlying37 HIT.out A1 ls.length c1 (m : Int) (by omega) (by omega) HC1.out
    have hcf := cut_from (P := Tryd.prog) 22 9 .i64 Tryd.underlying22 HIS.out 1 HIS2.out A0 ns.length c0 (m : Int) (by omega) (by omega)
    have hcf2 := cut_from (P := Tryd.prog) 37 77 .i64 Tryd.underlying37 HIT.out 2 HIT2.out A1 ls.length c1 (m : Int) (by omega) (by omega)
    have HT2 : Aside0 (Kd.C kT77 w A1 m (ls.take m)) := ⟨by have h := Kd.C_take HR1.out hml; rwa [List.length_take, Nat.min_eq_left hml] at h⟩
    have HDR : ∀ W, Below w.heap.size w W → Kd.C Kd.string W (if c0 = m then A0 else A0.map (·.add (m * 1))) (ns.length - m) (ns.drop m) := fun W hW => by have h := Kd.C_below (Kd.C_drop HR0.out hp HC0.out) hW; rwa [List.length_drop] at h
    have HDL : ∀ W (hW : Kd.C kT77 W A1 ls.length ls), Kd.C kT77 W (if c1 = m then A1 else A1.map (·.add (m * 2))) (ls.length - m) (ls.drop m) := fun W hW => by have h := Kd.C_drop hW hml HC1.out; rwa [List.length_drop] at h
    simp only [Int.toNat_natCast] at hcf hcf2
    generalize (if c0 = m then A0 else A0.map (·.add (m * 1))) = AD at hcf HDR
    generalize (if c1 = m then A1 else A1.map (·.add (m * 2))) = ALD at hcf2 HDL
    replace HDR := Aside0.mk HDR
    replace HDL := Aside0.mk HDL
    have HK0 : Aside0 (∀ W, Below wr.heap.size wr W → W.cell? ⟨gd, 0, none⟩ = some (.slice A0 ns.length c0)) := ⟨fun W hW => pw_cell_below hW hk0r⟩
    have HK1 : Aside0 (∀ W, Below wr.heap.size wr W → W.heap[gd]? = some (.cells #[.slice A0 ns.length c0, .slice A1 ls.length c1] 39 (0, 0))) := ⟨fun W hW => blk_below (blk_below HD.out.box HBX.out) hW⟩
    have HTL2 : Aside0 ((ls.take m).length ≤ 5) := ⟨by rw [List.length_take]; omega⟩
    clear hcs his his2 hct hit hit2
    have hmz : (m : Int) ≤ (ns.length : Int) := by omega
    have hm0 : (0 : Int) ≤ (m : Int) := by omega
    have hc00 := HC0.out
    have hcut := cut_to (P := Tryd.prog) 22 9 .i64 Tryd.underlying22 HIS.out A0 ns.length c0 (m : Int) (by omega) (by omega) hc00
    have hk0a : (wr.alloc (.cells #[] 9 (0, 0))).cell? ⟨gd, 0, none⟩ = some (.slice A0 ns.length c0) := pw_cell_below (below_alloc (Below.refl _ _) _) hk0r
    have HT : Aside0 (Kd.C Kd.string w A0 m (ns.take m)) := ⟨by have h := Kd.C_take HR0.out hp; rwa [List.length_take, Nat.min_eq_left hp] at h⟩
    have HTL : Aside0 ((ns.take m).length ≤ 5) := ⟨by rw [List.length_take]; omega⟩
    have hm5 : m ≤ 5 := by omega
    have hcase : (∃ hmn : m < ns.length, Op.bytesLess ns[m].toList nm.toList = false) ∨ m = ns.length := by
     rcases Nat.lt_or_ge m ns.length with h | h
     ·refine .inl ⟨h, ?_⟩
      have hp2 := HP.out
      subst hp2
      exact dkPos_at nm ns h
     ·exact .inr (by omega)
    rcases hcase with ⟨hmn, hbl⟩ | hmn
    have hmz2 : (m : Int) < (ns.length : Int) := by omega
    obtain ⟨ad, e1, hx⟩ := Kd.at_string (Kd.C_below HR0.out HBX.out) (m : Int) hm0 hmz2
    have hrd : rdOf ByteArray.empty ns (m : Int) = ns[m] := by
     unfold rdOf
     rw [Int.toNat_natCast, List.getD_eq_getElem?_getD, List.getElem?_eq_getElem hmn]; rfl
    rw [hrd, Int.toNat_natCast] at hx
    generalize ns[m] = y at hx hbl
    subst e1
    clear hrd
    rotate_left
    have hmz2 : ¬ (m : Int) < (ns.length : Int) := by omega
    clear hmn
    rotate_left
    all_goals
     go_wp2_with (first
      | ((with_reducible refine gate_dst (N := 61) rfl ?_); refine Kd.R_append_rows Kd.string (Rr := fun x cs => cs = [.string x]) (w0 := wr) wr.heap.size ?hg (.tmp 54) (.tmp 60) 22 9 (.string ByteArray.empty) 16 ?ho Tryd.underlying22 HCS.out rfl (by decide) (by decide) (.slice (some ⟨wr.heap.size, 0, none⟩) 0 0) [] (ns.take m) _ m c0 (fun _ => True) (fun _ => False) ?hs ?hx (Kd.R_of_own (World.ownsRow_made wr #[] 0 (Nat.le_refl _) (by decide) rfl) (fun _ _ => trivial)) (Kd.C_below HT.out (below_step HBX.out (below_alloc (Below.refl _ _) _))) (fun x cs h => h) (fun k h => h.elim) (fun _ _ => trivial) (below_alloc (Below.refl _ _) _) (below_alloc (Below.refl _ _) _).size ?hl ?_; (case hg => rfl); (case ho => rfl); (case hs => rfl); (case hx => rfl); (case hl => (simp; omega)); intro v5 w5 hr5 hb5 hg5 _; have HN5 := Aside0.mk hr5; have HB5 := Aside0.mk hb5; have HG5 := Aside0.mk hg5; clear hr5 hb5 hg5)
      | ((with_reducible refine gate_dst (N := 64) rfl ?_); refine Kd.R_append Kd.string (w0 := wr) wr.heap.size ?hg (.tmp 61) (.tmp 63) 22 9 (.string ByteArray.empty) 16 ?ho Tryd.underlying22 HCS.out rfl (by decide) (by decide) v5 (ns.take m) nm [.string nm] (fun _ => True) (fun _ => False) ?hs ?hx rfl (fun k h => h.elim) (fun _ _ => trivial) HN5.out HB5.out HB5.out.size ?hl ?_; (case hg => rfl); (case ho => rfl); (case hs => rfl); (case hx => rfl); (case hl => (have := HTL.out; omega)); intro v6 w6 hr6 hb6 hg6 _; have HN6 := Aside0.mk hr6; have HB6 := Aside0.mk hb6; clear hr6 hb6 hg6))
     have hlw6 : w.heap.size < w6.heap.size := Nat.lt_of_lt_of_le hlw HB6.out.size
     have hk1a : w6.cell? ⟨gd, 1, none⟩ = some (.slice A1 ls.length c1) := pw_cell_below HB6.out hk1r
     have HBOX6 : Aside0 (w6.heap[w.heap.size]? = some (.cells #[.int .i64 xv, .slice AV nV cV] 77 (0, 0))) := ⟨blk_below HBOX.out HB6.out⟩
     have hbx0 : w6.cell? ⟨w.heap.size, 0, none⟩ = some (.int .i64 xv) := (blk_cell HBOX6.out 0).trans rfl
     have hbx1 : w6.cell? ⟨w.heap.size, 1, none⟩ = some (.slice AV nV cV) := (blk_cell HBOX6.out 1).trans rfl
     have hbw6 : Aside0 (Below w.heap.size w w6) := ⟨below_step HBX.out HB6.out⟩
     have mixed : Tryd.prog.follows Departure.mixedOrders = true := by kernel_rfl
     have hk1b : ∀ o, (w6.alloc o).cell? ⟨gd, 1, none⟩ = some (.slice A1 ls.length c1) := fun o => pw_cell_below (below_alloc (Below.refl _ _) o) hk1a
     have hk1c : ∀ o o', ((w6.alloc o).alloc o').cell? ⟨gd, 1, none⟩ = some (.slice A1 ls.length c1) := fun o o' => pw_cell_below (below_alloc (Below.refl _ _) o') (hk1b o)
     have hbx0b : ∀ o, (w6.alloc o).cell? ⟨w.heap.size, 0, none⟩ = some (.int .i64 xv) := fun o => pw_cell_below (below_alloc (Below.refl _ _) o) hbx0
     have hbx1b : ∀ o, (w6.alloc o).cell? ⟨w.heap.size, 1, none⟩ = some (.slice AV nV cV) := fun o => pw_cell_below (below_alloc (Below.refl _ _) o) hbx1
     have hsz1 : Aside0 (∀ o, w6.heap.size + 1 = (w6.alloc o).heap.size) := ⟨fun o => by simp⟩
     go_region_law_o (first
      | (refine step_append_T (w0 := w6) rfl (.tmp 65) (.tmp 71) rfl w6.heap.size (.slice (some ⟨w6.heap.size, 0, none⟩) 0 0) [] (ls.take m) _ m c1 (by simp [Act.eval, Act.put]) (by simp [Act.eval, Act.put]) (kT_empty (by first | exact blk_new w6 _ | exact blk_alloc (blk_new w6 _) _) (Nat.le_refl _)) (Kd.C_below HT2.out (below_step hbw6.out (by repeat (first | exact Below.refl _ _ | apply below_drew1 | apply below_alloc)))) (by repeat (first | exact Below.refl _ _ | apply below_drew1 | apply below_alloc)) (by simp <;> omega) (by simp; omega) ?_; intro v7 w7 hr7 hb7 hg7; have HN7 := Aside0.mk hr7; have HB7 := Aside0.mk hb7; have hby0 : w7.cell? ⟨w.heap.size, 0, none⟩ = some (.int .i64 xv) := pw_cell_below HB7.out hbx0; have hby1 : w7.cell? ⟨w.heap.size, 1, none⟩ = some (.slice AV nV cV) := pw_cell_below HB7.out hbx1; (try (have hvv : w7.heap[w6.heap.size + 1]? = some (.cells #[.int .i64 xv, .slice AV nV cV] 77 (0, 0)) := blk_grown (w := ((w6.alloc (.cells #[] 77 (0, 0))).alloc (.cells #[.int .i64 xv, .slice AV nV cV] 77 (0, 0))).drew) (show ((w6.alloc (.cells #[] 77 (0, 0))).alloc (.cells #[.int .i64 xv, .slice AV nV cV] 77 (0, 0))).heap[w6.heap.size + 1]? = some (.cells #[.int .i64 xv, .slice AV nV cV] 77 (0, 0)) from blk_at_new (hsz1.out _)) hg7 (by simp [Value.ownBlock]); have HVV := Aside0.mk hvv; clear hvv)); clear hr7 hb7 hg7)
      | (refine step_append_T (w0 := w6) rfl (.tmp 65) (.tmp 71) rfl w6.heap.size (.slice (some ⟨w6.heap.size + 1, 0, none⟩) 0 0) [] (ls.take m) _ m c1 (by simp [Act.eval, Act.put]) (by simp [Act.eval, Act.put]) (kT_empty (by exact blk_at_new (hsz1.out _)) (Nat.le_succ _)) (Kd.C_below HT2.out (below_step hbw6.out (by repeat (first | exact Below.refl _ _ | apply below_drew1 | apply below_alloc)))) (by repeat (first | exact Below.refl _ _ | apply below_drew1 | apply below_alloc)) (by simp <;> omega) (by simp; omega) ?_; intro v7 w7 hr7 hb7 hg7; have HN7 := Aside0.mk hr7; have HB7 := Aside0.mk hb7; have HVV : Aside0 (w7.heap[w6.heap.size]? = some (.cells #[.int .i64 xv, .slice AV nV cV] 77 (0, 0))) := ⟨blk_grown (w := ((w6.alloc (.cells #[.int .i64 xv, .slice AV nV cV] 77 (0, 0))).alloc (.cells #[] 77 (0, 0))).drew) (show ((w6.alloc (.cells #[.int .i64 xv, .slice AV nV cV] 77 (0, 0))).alloc (.cells #[] 77 (0, 0))).heap[w6.heap.size]? = some (.cells #[.int .i64 xv, .slice AV nV cV] 77 (0, 0)) from blk_alloc (blk_new w6 _) _) hg7 (by simp [Value.ownBlock])⟩; clear hr7 hb7 hg7)
      | (refine step_append_T (w0 := w6) rfl (.tmp 72) (.tmp 74) rfl w6.heap.size v7 ([] ++ ls.take m) [⟨0, []⟩] (some ⟨w7.heap.size, 0, none⟩) 1 1 (by simp [Act.eval, Act.put]) (by simp [Act.eval, Act.put]) (Kd.R_below HN7.out (below_alloc (Below.refl _ _) _)) (kT_one _ (blk_new w7 _)) (below_step HB7.out (below_alloc (Below.refl _ _) _)) (below_step HB7.out (below_alloc (Below.refl _ _) _)).size (by have := HTL2.out; simp; omega) ?_; intro v8 w8 hr8 hb8 hg8; have HN8 := Aside0.mk hr8; have HB8 := Aside0.mk hb8; clear hr8 hb8 hg8)
      | (refine step_append_T (w0 := w6) rfl (.tmp 72) (.tmp 74) rfl w6.heap.size v7 ([] ++ ls.take m) [⟨0, []⟩] (some ⟨w6.heap.size + 1, 0, none⟩) 1 1 (by simp [Act.eval, Act.put]) (by simp [Act.eval, Act.put]) HN7.out (kT_one _ HVV.out) HB7.out HB7.out.size (by have := HTL2.out; simp; omega) ?_; intro v8 w8 hr8 hb8 hg8; have HN8 := Aside0.mk hr8; have HB8 := Aside0.mk hb8; clear hr8 hb8 hg8)
      | (refine step_append_T (w0 := w6) rfl (.tmp 72) (.tmp 74) rfl w6.heap.size v7 ([] ++ ls.take m) [⟨0, []⟩] (some ⟨w6.heap.size, 0, none⟩) 1 1 (by simp [Act.eval, Act.put]) (by simp [Act.eval, Act.put]) HN7.out (kT_one _ HVV.out) HB7.out HB7.out.size (by have := HTL2.out; simp; omega) ?_; intro v8 w8 hr8 hb8 hg8; have HN8 := Aside0.mk hr8; have HB8 := Aside0.mk hb8; clear hr8 hb8 hg8))
     all_goals
      clear hk1b hk1c hbx0b hbx1b hk1a hbx0 hbx1 hk0a hk1r hk0r hcut hcut2
      have hb8 := below_step HB6.out HB8.out
      have hk0e := HK0.out _ hb8
      have HK8 := Aside0.mk (HK1.out _ hb8)
      go_wp2_with (first
       | ((with_reducible refine gate_dst (N := 84) rfl ?_); refine Kd.R_append_rows Kd.string (Rr := fun x cs => cs = [.string x]) (w0 := wr) wr.heap.size ?hg (.tmp 77) (.tmp 83) 22 9 (.string ByteArray.empty) 16 ?ho Tryd.underlying22 HCS.out rfl (by decide) (by decide) v6 (ns.take m ++ [nm]) (ns.drop m) AD (ns.length - m) (c0 - m) (fun _ => True) (fun _ => False) ?hs ?hx (Kd.R_below HN6.out HB8.out) (HDR.out _ (below_step hbw6.out HB8.out)) (fun x cs h => h) (fun k h => h.elim) (fun _ _ => trivial) hb8 hb8.size ?hl ?_; (case hg => rfl); (case ho => rfl); (case hs => rfl); (case hx => rfl); (case hl => (simp; omega)); intro v9 w9 hr9 hb9 hg9 _; have HG9 := Aside0.mk hg9; have HK9 := Aside0.mk (HK1.out _ hb9); have hk9 := HK0.out _ hb9; have hk9b := (blk_cell HK9.out 1).trans rfl; have hf9 := blk_frozen HK9.out 0; obtain ⟨A9, c9, e9⟩ := Kd.R_slice hr9; generalize hL9 : (ns.take m ++ [nm] ++ ns.drop m).length = L9 at e9; subst e9; have HL9 := Aside0.mk hL9; have HN9 := Aside0.mk hr9; have HN10 := Aside0.mk (Kd.R_set (Kd.R_over' HN8.out (Kd.R_typed (Kd.R_below HN6.out HB8.out)) (by simp [kT77]) hg9) HK9.out (by simp [kT77]) 0 (.slice A9 L9 c9)); have HC10 := Aside0.mk (HDL.out _ (Kd.R_reads' (Kd.R_set (Kd.R_below HL.out (below_step HBX.out hb9)) HK9.out (by simp [kT77]) 0 (.slice A9 L9 c9))).2.2); have HG10 : Aside0 ((w9.setCell ⟨gd, 0, none⟩ (.slice A9 L9 c9)).heap[gd]? = some (.cells #[.slice A9 L9 c9, .slice A1 ls.length c1] 39 (0, 0))) := ⟨blk_put HK9.out 0 _ rfl⟩; have HB9 := Aside0.mk hb9; clear hr9 hb9 hg9 hL9)
       | ((with_reducible refine gate_dst (N := 95) rfl ?_); refine Kd.R_append_rows kT77 (Rr := fun _ cs => cs.length = 2 ∧ ∀ u ∈ cs, u.oneCell' = true) (w0 := w9.setCell ⟨gd, 0, none⟩ (.slice A9 L9 c9)) w6.heap.size ?hg (.tmp 88) (.tmp 94) 37 77 (.agg #[.int .i64 0, .slice none 0 0]) 32 ?ho Tryd.underlying37 HCT.out rfl (by decide) (by decide) v8 ([] ++ ls.take m ++ [⟨0, []⟩]) (ls.drop m) ALD (ls.length - m) (c1 - m) (fun _ => True) (fun k => some k ≠ v8.ownBlock) ?hs ?hx HN10.out HC10.out (fun _ _ q => q) (fun k hk => ⟨trivial, hk⟩) (fun _ _ => trivial) (Below.refl _ _) ?hbase ?hl ?_; (case hg => rfl); (case ho => rfl); (case hs => rfl); (case hx => rfl); (case hbase => (have h1 := HB8.out.size; have h2 := HG9.out.size; simp; omega)); (case hl => (simp; omega)); intro v11 w11 hr11 hb11 hg11 _; obtain ⟨A11, c11, e11⟩ := Kd.R_slice hr11; generalize hL11 : ([] ++ ls.take m ++ [(⟨0, []⟩ : S77)] ++ ls.drop m).length = L11 at e11; subst e11; have HL11 := Aside0.mk hL11; have HN11 := Aside0.mk hr11; have HB11 := Aside0.mk hb11; have HG11 := Aside0.mk hg11; have HK11 : Aside0 (w11.heap[gd]? = some (.cells #[.slice A9 L9 c9, .slice A1 ls.length c1] 39 (0, 0))) := ⟨(hb11.block gd (Nat.lt_trans hgl hlw6)).trans HG10.out⟩; have hk11 := (blk_cell HK11.out 1).trans rfl; have hf11 := blk_frozen HK11.out 1; clear hr11 hb11 hg11 hL11))
      go_ret
      have z1 := HB.out.size
      have z2 := HBX.out.size
      have z3 := HB6.out.size
      have b9 := below_then HB.out HB.out.size (below_step HBX.out HB9.out)
      have b10 := b9.setCell (p := ⟨gd, 0, none⟩) HD.out.ge (.slice A9 L9 c9)
      have b11 := b10.grown HG11.out b10.size (fun k hk => Nat.le_trans (by omega) (Kd.R_base HN10.out k hk))
      refine ⟨⟨_, rfl⟩, .slice A9 L9 c9, .slice A11 L11 c11, ⟨blk_put HK11.out 1 _ rfl, HD.out.ge, Kd.R_lower (Kd.R_set (Kd.R_over' (Kd.R_set HN9.out HK9.out (by simp [Kd.string, Kd.scalar]) 0 _) (Kd.R_typed HN10.out) (by simp [Kd.string, Kd.scalar]) HG11.out) HK11.out (by simp [Kd.string, Kd.scalar]) 1 _) (by omega), [] ++ ls.take m ++ [⟨0, []⟩] ++ ls.drop m, by have := HLL.out; simp; omega, Kd.R_lower (Kd.R_set HN11.out HK11.out (by simp [kT77]) 1 _) (by omega)⟩, b11.setCell (p := ⟨gd, 1, none⟩) HD.out.ge _, ?_, fun k hk h1 _ => ?_⟩
      ·have q1 := HB11.out.size
       have q2 := (below_step HBX.out HB9.out).size
       simp at q1 ⊢
       have q3 := HG11.out.size
       simp at q3
       omega
      ·exact (Below.heap_setCell w11 ⟨gd, 1, none⟩ _ k h1).trans ((HB11.out.block k (by omega)).trans ((Below.heap_setCell w9 ⟨gd, 0, none⟩ _ k h1).trans ((below_step HBX.out HB9.out).block k hk)))
 ·have hset : dkSet ns nm = ns := by unfold dkSet; rw [if_pos hany]
  rw [hset]
  rw [hq] at HF
  obtain ⟨gl, cap, cur, hv, hbl, hhl, h1, h2, h3, _, h4⟩ := kT_to hL (by omega)
  injection hv with e1 _ e3
  subst e1
  subst e3
  have HD := Aside0.mk hD
  have HL := Aside0.mk hL
  have HB := Aside0.mk hB
  have HR0 := Aside0.mk hr0
  have HR1 := Aside0.mk hr1
  have HC0 := Aside0.mk hc0
  have HC1 := Aside0.mk hc1
  have HLL := Aside0.mk hll
  have hiz : (i : Int) < (ls.length : Int) := by omega
  have hi0 : (0 : Int) ≤ (i : Int) := by omega
  have hcl : cur.toList.length = cur.size := by simp
  obtain ⟨u0, hu0⟩ : ∃ u, cur[i * 2]? = some u := ⟨_, Array.getElem?_eq_getElem (by omega)⟩
  obtain ⟨u1, hu1⟩ : ∃ u, cur[i * 2 + 1]? = some u := ⟨_, Array.getElem?_eq_getElem (by omega)⟩
  have HH := Aside0.mk hhl
  have HU0 := Aside0.mk hu0
  have HU1 := Aside0.mk hu1
  clear hD hL hB hr0 hr1 hc0 hc1 hf hnm hany hset hhl hu0 hu1 hcl h3 h4
  go_enter Tryd.func77, Tryd.ntmps77
  go_wp2_with (go_at_call 97; refine (spec_l11Find.calls kf gd A0 c0 ns _ _ ls nm _ _ (Kd.C_below HR0.out (below_alloc (Below.refl _ _) _)) HC0.out (Kd.C_below HR1.out (below_alloc (Below.refl _ _) _)) HC1.out (blk_alloc HD.out.box _) HF.out).mono ?_; rintro e w1 ⟨rfl, hb1⟩; have HB1 := Aside0.mk hb1; have hk1 : w1.cell? ⟨gd, 1, none⟩ = some (.slice (some ⟨gl, 0, none⟩) ls.length c1) := ((blk_cell (blk_below (blk_alloc HD.out.box _) hb1) 1).trans rfl); have hba : w1.cell? ⟨w.heap.size, 0, none⟩ = some (.int .i64 xv) := ((blk_cell (blk_below (blk_new w _) hb1) 0).trans rfl); have hbb : w1.cell? ⟨w.heap.size, 1, none⟩ = some (.slice AV nV cV) := ((blk_cell (blk_below (blk_new w _) hb1) 1).trans rfl); have ht0 : w1.cell? ⟨gl, i * 2, none⟩ = some u0 := ((blk_cell (blk_below (blk_alloc HH.out _) hb1) (i * 2)).trans HU0.out); have ht1 : w1.cell? ⟨gl, i * 2 + 1, none⟩ = some u1 := ((blk_cell (blk_below (blk_alloc HH.out _) hb1) (i * 2 + 1)).trans HU1.out); have hf0 := blk_frozen (blk_below (blk_alloc HH.out _) hb1) (i * 2); have hf1 := blk_frozen (blk_below (blk_alloc HH.out _) hb1) (i * 2 + 1); clear hb1)
  go_region
  all_goals
   go_wp2
   go_ret
   have hw1 : Below w.heap.size w w1 := below_step (below_alloc (Below.refl _ _) _) HB1.out
   have hne : gd ≠ gl := fun e => by
    have h1 := HD.out.box
    rw [e, HH.out] at h1
    injection h1 with h1
    injection h1 with _ h1
    exact absurd h1 (by decide)
   have hgl1 := blk_below HH.out hw1
   have hgl2 := blk_put hgl1 (i * 2) (.int .i64 xv) rfl
   refine ⟨⟨_, rfl⟩, .slice A0 ns.length c0, .slice (some ⟨gl, 0, none⟩) ls.length c1, ⟨blk_far (blk_far (blk_below HD.out.box hw1) hne _) hne _, HD.out.ge, Kd.R_set (Kd.R_set (Kd.R_below HD.out.nms hw1) hgl1 (by simp [Kd.string, Kd.scalar]) _ _) hgl2 (by simp [Kd.string, Kd.scalar]) _ _, ls, HLL.out, kT_store (kT_store (Kd.R_below HL.out hw1) _ _ rfl) _ _ rfl⟩, by (first | apply below_drew | skip); exact ((below_step HB.out hw1).setCell (p := ⟨gl, _, none⟩) hbl _).setCell (p := ⟨gl, _, none⟩) hbl _, by simpa using hw1.size, fun k hk h1 h2 => ?_⟩
   have hk2 : k ≠ gl := fun e => h2 (by rw [e]; rfl)
   exact (Below.heap_setCell _ ⟨gl, _, none⟩ _ k hk2).trans ((Below.heap_setCell _ ⟨gl, _, none⟩ _ k hk2).trans (hw1.block k hk))
theorem IsS100.mv {w0 W W1 : World} {g : Nat} {f0 : List Int} {f1 f2 : Int} (h : IsS100 w0 W g f0 f1 f2) (hm : W1.heap[g]? = W.heap[g]?) : IsS100 w0 W1 g f0 f1 f2 := by
 obtain ⟨A0, c0, hb, hg, hr0⟩ := h
 exact ⟨A0, c0, hm.trans hb, hg, hr0⟩
theorem DkSt.keep {w0 w w' : World} {gd : Nat} {ns : List ByteArray} {vN vL : Value} {g : Nat} {f0 : List Int} {f1 f2 : Int} (h : DkSt w0 w gd ns vN vL) (hI : IsS100 w0 w g f0 f1 f2) (hk : KeepBut w w' g none) : DkSt w0 w' gd ns vN vL := by
 have hne : g ≠ gd := IsS100.ne_blk hI h.box (by decide)
 obtain ⟨A, c, hb, _, _⟩ := hI
 obtain ⟨ls, hl, hL⟩ := h.lst
 exact ⟨(hk.2 gd (blk_lt h.box) (Ne.symm hne) (by simp)).trans h.box, h.ge, Kd.R_mono (Kd.R_keep (Kd.R_types h.nms hb (by simp [Kd.string, Kd.scalar])) hk (fun k q => q.2)) (fun k q => q.1), ls, hl, Kd.R_mono (Kd.R_keep (Kd.R_types hL hb (by simp [kT77])) hk (fun k q => q.2)) (fun k q => q.1)⟩
theorem DkSt.below {w0 w w' : World} {gd : Nat} {ns : List ByteArray} {vN vL : Value} (h : DkSt w0 w gd ns vN vL) (hb : Below w.heap.size w w') : DkSt w0 w' gd ns vN vL := by
 obtain ⟨ls, hl, hL⟩ := h.lst
 exact ⟨blk_below h.box hb, h.ge, Kd.R_below h.nms hb, ls, hl, Kd.R_below hL hb⟩
theorem dk_lit {W : World} {g : Nat} (hh : W.heap[g]? = some (.cells #[.string ⟨#[97]⟩, .string ⟨#[98]⟩, .string ⟨#[118, 111, 116, 101, 115]⟩, .string ⟨#[120]⟩, .string ⟨#[122, 101, 97, 108]⟩] 9 (0, 0))) : Kd.C Kd.string W (some ⟨g, 0, none⟩) 5 dkNames := by
 have h : Kd.R Kd.string 9 W 0 (fun _ => True) (.slice (some ⟨g, 0, none⟩) 5 5) dkNames := Kd.R_of_own (enc := Value.string) (h1 := fun _ => rfl) ⟨rfl, .inr ⟨g, 5, _, rfl, Nat.zero_le _, hh, Nat.le_refl _, by decide, rfl, rfl⟩⟩ (fun _ _ => trivial)
 exact (Kd.R_reads' h).2.2
theorem blk_dk {w w' : World} {gd gr : Nat} {vL : Value} {o : Obj} (h : w.heap[gr]? = some o) (hk : DkKeep gd vL w w') (h1 : gr ≠ gd) (h2 : some gr ≠ vL.ownBlock) : w'.heap[gr]? = some o := (hk.2 gr (blk_lt h) h1 h2).trans h
set_option maxHeartbeats 8000000 in
set_option maxRecDepth 100000 in
theorem dk_draw (kq : Nat) (w0 : World) (g : Nat) (s0 : List Int) (s1 s2 c s1' s2' : Int) (R : List ByteArray) (w : World) (hp : spec_l00Src_pick.f s0 s1 s2 4 = some (c, s1', s2')) (hl : spec_B10Desk.l0 kq [] c s0 s1' s2' = some R) (hI : IsS100 w0 w g s0 s1 s2) (hB : Below w0.heap.size w0 w) (gx : Nat) (cs : Array Value) (hx : w.heap[gx]? = some (.cells cs 39 (0, 0))) :
  Calls Tryd.prog 51 #[.pointer (some ⟨g, 0, none⟩)] w fun e w' => ∃ vN vL : Value, e = .returned (.agg #[vN, vL]) ∧ Kd.R Kd.string 9 w' w0.heap.size (fun _ => True) vN R ∧ (∃ ls : List S77, ls.length = R.length ∧ Kd.R kT77 77 w' w0.heap.size (fun _ => True) vL ls) ∧ Below w0.heap.size w0 w' ∧ w'.heap[gx]? = some (.cells cs 39 (0, 0)) := by
 have HP := Aside0.mk hp
 have HL := Aside0.mk hl
 have HI := Aside0.mk hI
 have HB := Aside0.mk hB
 have hgs := IsS100.lt hI
 have hxl := blk_lt hx
 have hxg : gx ≠ g := Ne.symm (IsS100.ne_blk hI hx (by decide))
 have HX0 := Aside0.mk hx
 clear hx
 clear hp hl hI hB
 go_enter Tryd.func51, Tryd.ntmps51
 go_wp2_with (first
  | (go_at_call 49; refine (spec_l00Src_pick.calls g s0 s1 s2 4 c s1' s2' w0 _ (IsS100.alloc (IsS100.alloc HI.out _) _) (below_alloc (below_alloc HB.out _) _) HP.out).mono ?_; rintro e w1 ⟨rfl, hI1, hB1, hk1⟩; have HI1 := Aside0.mk hI1; have HB1 := Aside0.mk hB1; have HK1 := Aside0.mk hk1; clear hI1 hB1 hk1))
 have z0 := HB.out.size
 have HD1 : Aside0 (DkSt w0 w1 (w.heap.size + 1) [] (.slice none 0 0) (.slice none 0 0)) := ⟨DkSt.keep (w := (w.alloc (.cells #[.slice none 0 0, .slice none 0 0] 39 (0, 0))).alloc (.cells #[.slice none 0 0, .slice none 0 0] 39 (0, 0))) ⟨blk_at_new (by simp), by omega, Kd.R_nil _ _ _ _ _, [], rfl, Kd.R_nil _ _ _ _ _⟩ (IsS100.alloc (IsS100.alloc HI.out _) _) HK1.out⟩
 have HRB : Aside0 (w1.heap[w.heap.size]? = some (.cells #[.slice none 0 0, .slice none 0 0] 39 (0, 0))) := ⟨(HK1.out.2 w.heap.size (by simp; omega) (by omega) (by simp)).trans (blk_alloc (blk_new w _) _)⟩
 have HX1 : Aside0 (w1.heap[gx]? = some (.cells cs 39 (0, 0))) := ⟨(HK1.out.2 gx (by simp; omega) hxg (by simp)).trans (blk_alloc (blk_alloc HX0.out _) _)⟩
 have hxgd : gx ≠ w.heap.size + 1 := by omega
 have hxgr : gx ≠ w.heap.size := by omega
 clear HK1 HP HI HX0
 have hgrd : w.heap.size ≠ w.heap.size + 1 := by omega
 have hgr0 : w0.heap.size ≤ w.heap.size := z0
 have hgdg : g ≠ w.heap.size + 1 := by omega
 have hgrg : w.heap.size ≠ g := by omega
 generalize w.heap.size + 1 = gd at HD1 hgrd hgdg hxgd ⊢
 generalize w.heap.size = gr at HRB hgrd hgr0 hgrg hxgr ⊢
 go_loopg [4, 5] kq (fun kk s4 _ w' => ∃ (ns : List ByteArray) (cc q1 q2 : Int) (vN vL : Value), s4 = .int .i64 cc ∧ kk ≤ kq ∧ Aside0 (spec_B10Desk.l0 kk ns cc s0 q1 q2 = some R) ∧ Aside0 (DkSt w0 w' gd ns vN vL) ∧ Aside0 (IsS100 w0 w' g s0 q1 q2) ∧ Aside0 (Below w0.heap.size w0 w') ∧ Aside0 (w'.heap[gr]? = some (.cells #[.slice none 0 0, .slice none 0 0] 39 (0, 0))) ∧ Aside0 (w'.heap[gx]? = some (.cells cs 39 (0, 0))))
 case atStart => exact ⟨[], c, s1', s2', _, _, rfl, Nat.le_refl _, HL, HD1, HI1, HB1, HRB, HX1⟩
 case round =>
  clear HL HD1 HI1 HB1 HRB HX1
  obtain ⟨ns, cc, q1, q2, vN, vL, rfl, hkk, HL, HD, HI, HB, HRB, HX⟩ := hrel
  cases gk with
  | zero => exact absurd HL.out (by simp [spec_B10Desk.l0])
  | succ k1 =>
   have H := HL.out
   rw [spec_B10Desk.l0] at H
   clear HL
   by_cases hc : cc > 0
   ·rw [if_pos hc] at H
    obtain ⟨⟨nm, t1, t2⟩, ht, H⟩ := Option.bind_eq_some_iff.1 H
    obtain ⟨⟨xv, ys, d1, d2⟩, hv, H⟩ := Option.bind_eq_some_iff.1 H
    obtain ⟨b, hb, H⟩ := Option.bind_eq_some_iff.1 H
    simp only at hv hb H
    by_cases hbb : b = true ∧ ns.length ≤ 5
    case neg => rw [if_neg hbb] at H; cases H
    rw [if_pos hbb] at H
    obtain ⟨rfl, h5⟩ := hbb
    have HT := Aside0.mk ht
    have HV := Aside0.mk hv
    have HNB := Aside0.mk hb
    have HH := Aside0.mk H
    have H5 := Aside0.mk h5
    clear ht hv hb H h5
    have hcz : (0 : Int) < cc := hc
    go_wp2_with (first
     | (go_at_call 70; refine (spec_l00Src_text.calls g s0 q1 q2 _ 5 dkNames nm t1 t2 w0 _ (IsS100.alloc HI.out _) (below_alloc HB.out _) (dk_lit (blk_new wr _)) (by decide) (fun ad e _ => by injection e with e; rw [← e]; exact IsS100.fresh HI.out _ (Nat.le_refl _)) HT.out).mono ?_; rintro e w2 ⟨rfl, hI2, hB2, hk2⟩; have HI2 := Aside0.mk hI2; have HB2 := Aside0.mk hB2; have HD2 := Aside0.mk (DkSt.keep (DkSt.below HD.out (below_alloc (Below.refl _ _) _)) (IsS100.alloc HI.out _) hk2); have HRB2 := Aside0.mk ((hk2.2 gr (blk_lt (blk_alloc HRB.out _)) hgrg (by simp)).trans (blk_alloc HRB.out _)); have HX2 := Aside0.mk ((hk2.2 gx (blk_lt (blk_alloc HX.out _)) hxg (by simp)).trans (blk_alloc HX.out _)); clear hI2 hB2 hk2)
     | (go_at_call 72; refine (spec_l01DrawOk.calls k1 g s0 t1 t2 xv ys d1 d2 w0 _ HI2.out HB2.out HV.out).mono ?_; rintro e w3 ⟨v3, rfl, hr3, hI3, hB3, hk3⟩; obtain ⟨A3, c3, rfl⟩ := Kd.R_slice hr3; have HI3 := Aside0.mk hI3; have HB3 := Aside0.mk hB3; have HD3 := Aside0.mk (DkSt.keep HD2.out HI2.out hk3); have HRB3 := Aside0.mk ((hk3.2 gr (blk_lt HRB2.out) hgrg (by simp)).trans HRB2.out); have HX3 := Aside0.mk ((hk3.2 gx (blk_lt HX2.out) hxg (by simp)).trans HX2.out); clear hI3 hB3 hk3 hr3)
     | (go_at_call 77; refine (dk_set k1 w0 gd vN vL ns nm xv A3 ys.length c3 _ HB3.out HD3.out H5.out HNB.out).mono ?_; rintro e w4 ⟨⟨bq, rfl⟩, vN', vL', hD4, hB4, hk4⟩; have HD4 := Aside0.mk hD4; have HB4 := Aside0.mk hB4; have HK4 := Aside0.mk hk4; clear hD4 hB4 hk4))
    obtain ⟨ls3, hll3, hL3⟩ := HD3.out.lst
    have HI4 := Aside0.mk (HI3.out.mv (HK4.out.2 g (IsS100.lt HI3.out) hgdg (IsS100.own_ne HI3.out hL3 (by decide))))
    have HRB4 := Aside0.mk (blk_dk HRB3.out HK4.out hgrd (Kd.R_ne hL3 HRB3.out (by decide)))
    have HX4 := Aside0.mk (blk_dk HX3.out HK4.out hxgd (Kd.R_ne hL3 HX3.out (by decide)))
    clear hL3 hll3
    go_roundg k1
    case measure => omega
    case rel => exact ⟨dkSet ns nm, wrap64 (cc - 1), d1, d2, vN', vL', rfl, by omega, HH, HD4, HI4, HB4, HRB4, HX4⟩
   ·rw [if_neg hc] at H
    obtain rfl := Option.some.inj H
    have hcz : ¬ (0 : Int) < cc := hc
    obtain ⟨ls, hll, hL⟩ := HD.out.lst
    obtain ⟨AN, cN, rfl⟩ := Kd.R_slice HD.out.nms
    obtain ⟨AL, cL, rfl⟩ := Kd.R_slice hL
    have HLs := Aside0.mk hL
    have HLL := Aside0.mk hll
    have k0 : wr.cell? ⟨gd, 0, none⟩ = some (.slice AN ns.length cN) := (blk_cell HD.out.box 0).trans rfl
    have k1' : wr.cell? ⟨gd, 1, none⟩ = some (.slice AL ls.length cL) := (blk_cell HD.out.box 1).trans rfl
    have m0 : wr.cell? ⟨gr, 0, none⟩ = some (.slice none 0 0) := (blk_cell HRB.out 0).trans rfl
    have m1 : wr.cell? ⟨gr, 1, none⟩ = some (.slice none 0 0) := (blk_cell HRB.out 1).trans rfl
    have f0 := blk_frozen HRB.out 0
    have f1 := blk_frozen HRB.out 1
    clear hL hll H
    go_wp2
    refine bodyPost_ret (results_cell_row rfl _ _ gr 39 #[.slice AN ns.length cN, .slice AL ls.length cL] (0, 0) _ rfl (by exact blk_put (cs := #[.slice AN ns.length cN, .slice none 0 0]) (blk_put (cs := #[.slice none 0 0, .slice none 0 0]) HRB.out 0 _ rfl) 1 _ rfl) Tryd.underlying39 rfl (by kernel_rfl)) rfl ?_
    exact ⟨.slice AN ns.length cN, .slice AL ls.length cL, rfl, Kd.R_set (Kd.R_set HD.out.nms HRB.out (by simp [Kd.string, Kd.scalar]) 0 _) (blk_put HRB.out 0 _ rfl) (by simp [Kd.string, Kd.scalar]) 1 _, ⟨ls, HLL.out, Kd.R_set (Kd.R_set HLs.out HRB.out (by simp [kT77]) 0 _) (blk_put HRB.out 0 _ rfl) (by simp [kT77]) 1 _⟩, (HB.out.setCell (p := ⟨gr, 0, none⟩) hgr0 _).setCell (p := ⟨gr, 1, none⟩) hgr0 _, blk_far (blk_far HX.out hxgr _) hxgr _⟩
theorem kT_xs {w : World} {base : Nat} {ok : Nat → Prop} {v : Value} {ls ks : List S77} (h : Kd.R kT77 77 w base ok v ls) (hl : ks.length = ls.length) : Kd.R kT77 77 w base ok v ks := by
 obtain ⟨h0, inner, ho, hr⟩ := h
 refine ⟨h0, inner, by rw [hl]; exact ho, by rw [hr.1, hl], fun j p hj => ?_⟩
 have hjl : j < ls.length := by have := (List.getElem?_eq_some_iff.1 hj).1; omega
 exact hr.2 j ls[j] (List.getElem?_eq_getElem hjl)
theorem kT_S {w : World} {base : Nat} {ok : Nat → Prop} {v : Value} {ls : List S77} (h : Kd.R kT77 77 w base ok v ls) : Kd.S kT77 77 w base ok v ls := Kd.S_bare (d := kT77) h
set_option maxHeartbeats 8000000 in
set_option maxRecDepth 100000 in
theorem spec_B10Desk.calls (k : Nat) (A0 : Option Addr) (c0 : Nat) (l0 : List Int) (r1 : List ByteArray) (r2 : List S77) (w : World) (hr0 : Kd.C (Kd.int .u8) w A0 l0.length l0) (hc0 : l0.length ≤ c0) (h : spec_B10Desk.f k l0 = some (r1, r2)) :
  Calls Tryd.prog 23 #[.slice A0 l0.length c0] w fun e w' => ∃ v0_ v1_ : Value, e = .returned (.agg #[v0_, v1_]) ∧ Kd.R Kd.string 9 w' w.heap.size (fun _ => True) v0_ r1 ∧ Kd.S kT77 77 w' w.heap.size (fun _ => True) v1_ r2 ∧ Below w.heap.size w w' := by
 unfold spec_B10Desk.f at h
 obtain ⟨⟨b1, b2, b3⟩, hb, h⟩ := Option.bind_eq_some_iff.1 h
 obtain ⟨⟨c1, c2, c3⟩, hc, h⟩ := Option.bind_eq_some_iff.1 h
 obtain ⟨ns, hn, h⟩ := Option.bind_eq_some_iff.1 h
 simp only at hc hn
 obtain ⟨rfl, rfl⟩ := Prod.mk.inj (Option.some.inj h)
 clear h
 have HR := Aside0.mk hr0
 have HC := Aside0.mk hc0
 have HB0 := Aside0.mk hb
 have HCC := Aside0.mk hc
 have HN := Aside0.mk hn
 clear hr0 hc0 hb hc hn
 obtain ⟨gr, hgr⟩ : ∃ gr, gr = w.heap.size := ⟨_, rfl⟩
 have HGR := Aside0.mk hgr
 clear hgr
 go_enter Tryd.func23, Tryd.ntmps23
 go_wp2_with (first
  | (go_at_call 48; refine (spec_l00From.calls A0 c0 l0 b1 b2 b3 w _ (below_alloc (Below.refl _ _) _) HR.out HC.out HB0.out).mono ?_; rintro e w1 ⟨g, rfl, hI, hB, hB1⟩; have HI := Aside0.mk hI; have HB := Aside0.mk hB; have HB1 := Aside0.mk hB1; clear hI hB hB1)
  | (go_at_call 51; refine (dk_draw k w g b1 b2 b3 c1 c2 c3 ns _ HCC.out HN.out HI.out HB.out w.heap.size #[.slice none 0 0, .slice none 0 0] (blk_below (blk_new w _) HB1.out)).mono ?_; rintro e w2 ⟨vN, vL, rfl, hrN, ⟨ls, hll, hrL⟩, hB2, hx2⟩; obtain ⟨AN, cN, rfl⟩ := Kd.R_slice hrN; obtain ⟨AL, cL, rfl⟩ := Kd.R_slice hrL; have HX2 := Aside0.mk hx2; have m0 : w2.cell? ⟨w.heap.size, 0, none⟩ = some (.slice none 0 0) := (blk_cell hx2 0).trans rfl; have m1 : w2.cell? ⟨w.heap.size, 1, none⟩ = some (.slice none 0 0) := (blk_cell hx2 1).trans rfl; have f0 := blk_frozen hx2 0; have f1 := blk_frozen hx2 1; clear hx2; have HRN := Aside0.mk hrN; have HRL := Aside0.mk hrL; have HLL := Aside0.mk hll; have HB2 := Aside0.mk hB2; clear hrN hrL hll hB2))
 go_wp2
 refine bodyPost_ret (results_cell_row rfl _ _ w.heap.size 39 #[.slice AN ns.length cN, .slice AL ls.length cL] (0, 0) _ rfl (by exact blk_put (cs := #[.slice AN ns.length cN, .slice none 0 0]) (blk_put (cs := #[.slice none 0 0, .slice none 0 0]) HX2.out 0 _ rfl) 1 _ rfl) Tryd.underlying39 rfl (by kernel_rfl)) rfl ?_
 exact ⟨.slice AN ns.length cN, .slice AL ls.length cL, rfl, Kd.R_set (Kd.R_set HRN.out HX2.out (by simp [Kd.string, Kd.scalar]) 0 _) (blk_put HX2.out 0 _ rfl) (by simp [Kd.string, Kd.scalar]) 1 _, kT_S (kT_xs (Kd.R_set (Kd.R_set HRL.out HX2.out (by simp [kT77]) 0 _) (blk_put HX2.out 0 _ rfl) (by simp [kT77]) 1 _) (by rw [HLL.out]; simp)), (HB2.out.setCell (p := ⟨w.heap.size, 0, none⟩) (Nat.le_refl _) _).setCell (p := ⟨w.heap.size, 1, none⟩) (Nat.le_refl _) _⟩
end Go.Proofs.YtcnbhfefhmmgjaaDoor.Q
