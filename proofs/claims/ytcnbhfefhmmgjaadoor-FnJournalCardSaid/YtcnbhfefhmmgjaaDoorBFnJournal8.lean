/- The statement FnJournal, with all that its proof stands on: functions of the program as plain functions, the program's walks, and the plain law. Conditions: none beyond the statement's own. -/
import Derived.Lib.IndexLaws
import Derived.LoopIn
import Derived.LoopNIn
import Derived.OwnWalkIn
import Derived.RangeFuncBound
import Derived.RangeFuncCalls
import Derived.RangeFuncLeaves
import Derived.RangeFuncNested
import Derived.Shelf.Abstract
import Derived.Shelf.LaysM
import Derived.Shelf.RegionOpen
import Derived.Shelf.Small.Strs
import Derived.Shelf.Small.Utf8
import Derived.Shelf.Strconv.Itoa0
import Derived.Shelf.Strconv.Itoa1
import Derived.Shelf.Strconv.Itoa2
import Derived.Shelf.Strconv.Itoa3
import Derived.Shelf.Strconv.Itoa4
import Derived.Shelf.Strings.AsciiSet
import Derived.Shelf.Strings.Builder1
import Derived.Shelf.Strings.Cut
import Derived.Shelf.Strings.Prefix
import Derived.Shelf.Strings.Runes
import Derived.Shelf.Strings.Search1
import Derived.Shelf.Strings.Search2
import Derived.Shelf.Strings.Search3
import Derived.Shelf.Strings.Shaped
import Derived.Shelf.Strings.Trim
import Derived.Shelf.Unicode.Decode
import Derived.Shelf.Unicode.DecodeAny
import Derived.Shelf.Unicode.DecodeLast
import Derived.Shelf.Unicode.DecodeSlow
import Derived.TacticsInMore
import Derived.Test.YtcnbhfefhmmgjaaDoorProg
import Derived.WalkKit
import Derived.Test.YtcnbhfefhmmgjaaDoorBFnJournal5
set_option linter.unusedVariables false
set_option linter.unusedSimpArgs false
namespace Go.Proofs.YtcnbhfefhmmgjaaDoor.Box
open Go Go.RowKit Go.Shelf Go.Proofs
def bcut (s : ByteArray) (c : UInt8) : ByteArray × ByteArray × Bool :=
 if 0 ≤ Lib.indexByte s.data.toList c then (s.extract 0 (Lib.indexByte s.data.toList c).toNat, s.extract ((Lib.indexByte s.data.toList c).toNat + 1) s.size, true) else (s, ⟨#[]⟩, false)
set_option maxRecDepth 100000 in
set_option maxHeartbeats 4000000 in
theorem slcut_one (n : Nat) (hn : 1 ≤ n) (s : ByteArray) (c : UInt8) (w : World) (hs : s.size ≤ 1073741824) :
  CallsIn Fence.wide n Tryd.prog 57 #[.string s, .string ⟨#[c]⟩] w fun e w' => e = .returned (.tuple #[.string (bcut s c).1, .string (bcut s c).2.1, .bool (bcut s c).2.2]) ∧ ∃ m, w' = w.drewN m := by
 refine callsIn_of_wp Tryd.func57 rfl trivial ?_ rfl
 simp only [Tryd.ntmps57, List.size_toArray, List.length_cons, List.length_nil, Nat.reduceAdd, Nat.reduceSub, Array.replicate_succ, Array.replicate_zero, List.push_toArray, List.append_toArray, List.nil_append, List.cons_append]
 obtain ⟨i, hi⟩ : ∃ i, Lib.indexByte s.data.toList c = i := ⟨_, rfl⟩
 have hx := Tryd.stringslite_Index_one s c w
 rw [hi] at hx
 have hg := Lib.indexByte_ge s.data.toList c
 rw [hi] at hg
 by_cases h0 : 0 ≤ i
 ·obtain ⟨o, rfl⟩ : ∃ o : Nat, i = o := ⟨i.toNat, by omega⟩
  have hol : o < s.data.toList.length := (List.getElem?_eq_some_iff.1 (Lib.indexByte_some hi).1).1
  have hot : o < s.size := by simpa using hol
  have hz : (⟨#[c]⟩ : ByteArray).size = 1 := rfl
  gi_wp2_with (refine ⟨trivial, ?_⟩; gi_at_call 80; refine (callsIn_wide.2 hx).mono ?_; rintro e w' ⟨rfl, rfl⟩)
  gi_region_both
  gi_wp2
  refine bodyPost_ret (results_tmp3 rfl _ _ _) rfl ⟨?_, 1, rfl⟩
  simp [bcut, hi]
 ·obtain rfl : i = -1 := by omega
  gi_wp2_with (refine ⟨trivial, ?_⟩; gi_at_call 80; refine (callsIn_wide.2 hx).mono ?_; rintro e w' ⟨rfl, rfl⟩)
  refine bodyPost_ret (results_tmp3 rfl _ _ _) rfl ⟨?_, 0, rfl⟩
  simp [bcut, hi]
set_option maxRecDepth 100000 in
set_option maxHeartbeats 4000000 in
theorem cut_one (n : Nat) (hn : 2 ≤ n) (s : ByteArray) (c : UInt8) (w : World) (hs : s.size ≤ 1073741824) :
  CallsIn Fence.wide n Tryd.prog 36 #[.string s, .string ⟨#[c]⟩] w fun e w' => e = .returned (.tuple #[.string (bcut s c).1, .string (bcut s c).2.1, .bool (bcut s c).2.2]) ∧ ∃ m, w' = w.drewN m := by
 refine callsIn_of_wp Tryd.func36 rfl trivial ?_ rfl
 simp only [Tryd.ntmps36, List.size_toArray, List.length_cons, List.length_nil, Nat.reduceAdd, Nat.reduceSub, Array.replicate_succ, Array.replicate_zero, List.push_toArray, List.append_toArray, List.nil_append, List.cons_append]
 have h1 : 1 ≤ n := by omega
 have hx := slcut_one (n - 1) (by omega) s c w hs
 gi_wp2_with (refine ⟨trivial, ?_⟩; gi_at_call 57; refine hx.mono ?_; rintro e w' ⟨rfl, m, rfl⟩)
 exact bodyPost_ret (results_tmp3 rfl _ _ _) rfl ⟨rfl, m, rfl⟩
end Go.Proofs.YtcnbhfefhmmgjaaDoor.Box
