/- The statement FnJournal, with all that its proof stands on: functions of the program as plain functions, the program's walks, and the plain law. Conditions: none beyond the statement's own. -/
import Derived.Lib.IndexLaws
import Derived.LoopIn
import Derived.LoopNIn
import Derived.OwnWalkIn
import Derived.RangeFuncBound
import Derived.RangeFuncCalls
import Derived.RangeFuncFrom
import Derived.RangeFuncLeaves
import Derived.RangeFuncNested
import Derived.RangeFuncWrites
import Derived.Shelf.Abstract
import Derived.Shelf.LaysM
import Derived.Shelf.RegionOpen
import Derived.Shelf.Small.Strs
import Derived.Shelf.Small.Utf8
import Derived.Shelf.Strconv.Itoa0
import Derived.Shelf.Strconv.Itoa1
import Derived.Shelf.Strconv.Itoa2
import Derived.Shelf.Strconv.Itoa3
import Derived.Shelf.Strconv.Itoa4
import Derived.Shelf.Strings.AsciiSet
import Derived.Shelf.Strings.Builder1
import Derived.Shelf.Strings.Cut
import Derived.Shelf.Strings.Prefix
import Derived.Shelf.Strings.Runes
import Derived.Shelf.Strings.Search1
import Derived.Shelf.Strings.Search2
import Derived.Shelf.Strings.Search3
import Derived.Shelf.Strings.Shaped
import Derived.Shelf.Strings.Trim
import Derived.Shelf.Unicode.Decode
import Derived.Shelf.Unicode.DecodeAny
import Derived.Shelf.Unicode.DecodeLast
import Derived.Shelf.Unicode.DecodeSlow
import Derived.TacticsInMore
import Derived.Test.YtcnbhfefhmmgjaaDoorProg
import Derived.WalkKit
import Derived.Test.YtcnbhfefhmmgjaaDoorBFnJournal0
import Derived.Test.YtcnbhfefhmmgjaaDoorBFnJournal5
set_option linter.unusedVariables false
set_option linter.unusedSimpArgs false
namespace Go.Proofs.YtcnbhfefhmmgjaaDoor.Box
open Go Go.RowKit Go.Shelf Go.Proofs
attribute [local go_sem] Oper.semAt_some
def lines : List UInt8 → List (List UInt8)
 | [] => []
 | b :: r => if b = 10 then [b] :: lines r else match lines r with | [] => [[b]] | l :: ls => (b :: l) :: ls
theorem lines_take : ∀ (l : List UInt8) (o : Nat), l[o]? = some 10 → (∀ k : Nat, k < o → l[k]? ≠ some 10) → lines l = l.take (o + 1) :: lines (l.drop (o + 1))
 | [], o, h, _ => by simp at h
 | b :: r, 0, h, _ => by
  obtain rfl : b = 10 := by simpa using h
  simp [lines]
 | b :: r, o + 1, h, hn => by
  have hb : b ≠ 10 := fun e => hn 0 (by omega) (by simp [e])
  have ih := lines_take r o (by simpa using h) (fun k hk => by have := hn (k + 1) (by omega); simpa using this)
  simp only [lines, if_neg hb, ih, List.take_succ_cons, List.drop_succ_cons]
theorem lines_last : ∀ (l : List UInt8), l ≠ [] → (∀ k : Nat, l[k]? ≠ some 10) → lines l = [l]
 | [], h, _ => absurd rfl h
 | [b], _, hn => by
  have hb : b ≠ 10 := fun e => hn 0 (by simp [e])
  simp [lines, if_neg hb]
 | b :: c :: r, _, hn => by
  have hb : b ≠ 10 := fun e => hn 0 (by simp [e])
  have ih := lines_last (c :: r) (by simp) (fun k => by have := hn (k + 1); simpa using this)
  rw [lines, if_neg hb, ih]
theorem lines_flat : ∀ (l : List UInt8), (lines l).flatten = l
 | [] => rfl
 | b :: r => by
  have ih := lines_flat r
  rw [lines]
  split
  ·simp [ih]
  ·split
   ·rename_i h; rw [h] at ih; simp at ih; simp [← ih]
   ·rename_i l ls h; rw [h] at ih; simp at ih; simp [← ih]
theorem lines_pos : ∀ (l : List UInt8), ∀ x ∈ lines l, 0 < x.length
 | [], x, h => by simp [lines] at h
 | b :: r, x, h => by
  have ih := lines_pos r
  rw [lines] at h
  split at h
  ·rcases List.mem_cons.1 h with rfl | h
   ·simp
   ·exact ih _ h
  ·split at h
   ·obtain rfl := List.mem_singleton.1 h
    simp
   ·rename_i l ls e
    rcases List.mem_cons.1 h with rfl | h
    ·simp
    ·exact ih _ (by rw [e]; exact List.mem_cons_of_mem _ h)
theorem flat_count : ∀ (ls : List (List UInt8)), (∀ x ∈ ls, 0 < x.length) → ls.length ≤ ls.flatten.length
 | [], _ => by simp
 | x :: ls, h => by
  have ih := flat_count ls (fun y hy => h y (List.mem_cons_of_mem _ hy))
  have := h x (by simp)
  simp only [List.length_cons, List.flatten_cons, List.length_append]
  omega
theorem flat_mem : ∀ (ls : List (List UInt8)) (x : List UInt8), x ∈ ls → x.length ≤ ls.flatten.length
 | [], x, h => by simp at h
 | y :: ls, x, h => by
  simp only [List.flatten_cons, List.length_append]
  rcases List.mem_cons.1 h with rfl | h
  ·omega
  ·have := flat_mem ls x h
   omega
def blines (s : ByteArray) : List ByteArray := (lines s.data.toList).map fun l => ⟨l.toArray⟩
theorem blines_size {s x : ByteArray} (h : x ∈ blines s) : x.size ≤ s.size := by
 obtain ⟨l, hl, rfl⟩ := List.mem_map.1 h
 have := flat_mem _ _ hl
 rw [lines_flat] at this
 show l.toArray.size ≤ s.data.size
 simpa using this
theorem blines_count (s : ByteArray) : (blines s).length ≤ s.size := by
 have := flat_count _ (lines_pos s.data.toList)
 rw [lines_flat] at this
 simpa [blines] using this
def boxLen (b : Nat) (W : World) : Nat := match W.cell? ⟨b, 0, none⟩ with | some (.string s) => s.size | _ => 0
theorem boxLen_eq {b : Nat} {W : World} {s : ByteArray} (h : W.cell? ⟨b, 0, none⟩ = some (.string s)) : boxLen b W = s.size := by rw [boxLen, h]
set_option maxRecDepth 100000 in
set_option maxHeartbeats 4000000 in
theorem lines1_in (n : Nat) (hn : 1 ≤ n) (b : Nat) (s : ByteArray) (w : World) (hc : w.cell? ⟨b, 0, none⟩ = some (.string s)) (hf : w.frozen? ⟨b, 0, none⟩ = false) (hb : b < w.heap.size) (hsz : s.size ≤ 1073741824) :
  SeqBox Fence.wide n Tryd.prog 55 #[.pointer (some ⟨b, 0, none⟩)] (fun x : ByteArray => #[.string x]) b (· = blines s) (fun p => p <+: blines s) w := by
 intro l J Jx W hW hJn hJb hJxn hY h0
 have hc0 : W.cell? ⟨b, 0, none⟩ = some (.string s) := (hW.cell (p := ⟨b, 0, none⟩) hb).trans hc
 have hf0 : W.frozen? ⟨b, 0, none⟩ = false := (hW.frozen (p := ⟨b, 0, none⟩) hb).trans hf
 refine callsIn_of_wp Tryd.func55 rfl trivial ?_ rfl
 simp only [Tryd.ntmps55, List.size_toArray, List.length_cons, List.length_nil, Nat.reduceAdd, Nat.reduceSub, Array.replicate_succ, Array.replicate_zero, List.push_toArray, List.append_toArray, List.nil_append, List.cons_append]
 gi_wp2
 gi_loopw [] (fun wr => ∃ (pre : List ByteArray) (t : ByteArray), wr.cell? ⟨b, 0, none⟩ = some (.string t) ∧ wr.frozen? ⟨b, 0, none⟩ = false ∧ t.size ≤ 1073741824 ∧ blines s = pre ++ blines t ∧ J pre wr)
  (fun wr => boxLen b wr)
 case atStart =>
  exact ⟨[], s, hc0, hf0, hsz, by simp, h0⟩
 case round =>
  obtain ⟨pre, t, hct, hft, htz, hx, hJp⟩ := hrel
  gi_wp2
  rotate_left
  ·have ht : t.size = 0 := by omega
   have hl : t.data.toList = [] := List.eq_nil_of_length_eq_zero (by simpa using ht)
   go_end0
   refine ⟨⟨_, rfl⟩, .inl ⟨pre, ?_, hJp⟩⟩
   rw [hx, blines, hl]
   simp [lines]
  ·obtain ⟨i, hi⟩ : ∃ i, Lib.indexByte t.data.toList 10 = i := ⟨_, rfl⟩
   refine ⟨trivial, (callsIn_wide.2 (Tryd.strings_IndexByte t 10 wr)).mono ?_⟩
   rintro e w' ⟨rfl, rfl⟩
   rw [show Lib.indexByte t.data.toList (10 : Int).toNat.toUInt8 = i from hi]
   have hg := Lib.indexByte_ge t.data.toList 10
   rw [hi] at hg
   by_cases h0i : 0 ≤ i
   ·obtain ⟨o, rfl⟩ : ∃ o : Nat, i = o := ⟨i.toNat, by omega⟩
    obtain ⟨hat, hno⟩ := Lib.indexByte_some hi
    have hol : o < t.data.toList.length := (List.getElem?_eq_some_iff.1 hat).1
    have hot : o < t.size := by simpa using hol
    have hbt : blines t = t.extract 0 (o + 1) :: blines (t.extract (o + 1) t.size) := by
     rw [blines, lines_take _ o hat hno, List.map_cons, blines]
     refine congr (congrArg List.cons ?_) (congrArg (List.map _) (congrArg lines ?_))
     ·exact ByteArray.ext (Array.toList_inj.1 (by rw [ByteArray.data_extract, Array.toList_extract]; simp))
     ·rw [ByteArray.data_extract, Array.toList_extract, List.extract_eq_take_drop, List.take_of_length_le (by simp)]
    have hr : J pre (w'.setCell ⟨b, 0, none⟩ (.string (t.extract (o + 1) t.size))).drew := hJn _ _ _ (hJb _ _ _ hJp) (Below.refl _ _).drew
    obtain ⟨fn, tmps, assign, body, hy, hR⟩ := hY pre (t.extract 0 (o + 1)) _ hr ⟨blines (t.extract (o + 1) t.size), by rw [hx, hbt]; simp⟩
    gi_wp2
    gi_region_both
    gi_wp2
    refine hR.mono ?_
    rintro e W3 (⟨rfl, hJ3, hk3⟩ | ⟨rfl, hJx3⟩)
    ·have hc3 : W3.cell? ⟨b, 0, none⟩ = some (.string (t.extract (o + 1) t.size)) ∧ W3.frozen? ⟨b, 0, none⟩ = false := by
      have h := hk3 (.string (t.extract (o + 1) t.size)) (World.cell?_setCell_same' _ _ _ (by rw [hct]; rfl))
      exact ⟨h.1, h.2.trans (by rw [World.frozen?_drew, World.frozen?_setCell]; exact hft)⟩
     gi_wp2
     go_roundw
     case rel => exact ⟨pre ++ [t.extract 0 (o + 1)], _, hc3.1, hc3.2, by simp; omega, by rw [hx, hbt]; simp, hJ3⟩
     case measure => rw [boxLen_eq hc3.1, boxLen_eq hct]; simp; omega
    ·gi_wp2
     refine bodyPost_ret (results_none rfl _ _ _) rfl ?_
     exact ⟨⟨_, rfl⟩, .inr ⟨pre ++ [t.extract 0 (o + 1)], ⟨blines (t.extract (o + 1) t.size), by rw [hx, hbt]; simp⟩, hJx3⟩⟩
   ·obtain rfl : i = -1 := by omega
    have h0t : 0 < t.size := by assumption
    have hl0 : t.data.toList ≠ [] := fun e => by
     have e1 := congrArg List.length e
     have e2 : t.size = 0 := by simpa using e1
     omega
    have hbt : blines t = [t] := by
     rw [blines, lines_last _ hl0 (Lib.indexByte_none hi)]
     simp
    have hr : J pre (w'.setCell ⟨b, 0, none⟩ (.string { data := #[] })) := hJb _ _ _ hJp
    obtain ⟨fn, tmps, assign, body, hy, hR⟩ := hY pre t _ hr ⟨[], by rw [hx, hbt]; simp⟩
    gi_wp2
    refine hR.mono ?_
    rintro e W3 (⟨rfl, hJ3, hk3⟩ | ⟨rfl, hJx3⟩)
    ·have hc3 : W3.cell? ⟨b, 0, none⟩ = some (.string { data := #[] }) ∧ W3.frozen? ⟨b, 0, none⟩ = false := by
      have h := hk3 _ (World.cell?_setCell_same' _ _ _ (by rw [hct]; rfl))
      exact ⟨h.1, h.2.trans (by rw [World.frozen?_setCell]; exact hft)⟩
     gi_wp2
     go_roundw
     case rel => exact ⟨pre ++ [t], _, hc3.1, hc3.2, Nat.zero_le _, by rw [hx, hbt]; simp [blines, lines], hJ3⟩
     case measure => rw [boxLen_eq hc3.1, boxLen_eq hct]; exact h0t
    ·gi_wp2
     refine bodyPost_ret (results_none rfl _ _ _) rfl ?_
     exact ⟨⟨_, rfl⟩, .inr ⟨pre ++ [t], ⟨[], by rw [hx, hbt]; simp⟩, hJx3⟩⟩
theorem lines_in (n : Nat) (s : ByteArray) (w : World) :
  CallsIn Fence.wide n Tryd.prog 35 #[.string s] w fun e w' => e = .returned (.func (.func 55) #[] #[.pointer (some ⟨w.heap.size, 0, none⟩)]) ∧ w' = w.alloc (.cells #[.string s] 9) := by
 refine callsIn_of_wp Tryd.func35 rfl trivial ?_ rfl
 simp only [Tryd.ntmps35, List.size_toArray, List.length_cons, List.length_nil, Nat.reduceAdd, Nat.reduceSub, Array.replicate_succ, Array.replicate_zero, List.push_toArray, List.append_toArray, List.nil_append, List.cons_append]
 gi_wp2
 exact bodyPost_ret (results_tmp rfl _ _ _) rfl ⟨rfl, rfl⟩
end Go.Proofs.YtcnbhfefhmmgjaaDoor.Box
