/- The statement FnJournal, with all that its proof stands on: functions of the program as plain functions, the program's walks, and the plain law. Conditions: none beyond the statement's own. -/
import Derived.ArgAppend
import Derived.Below
import Derived.BigQuiet
import Derived.BigRegion
import Derived.CallsIn
import Derived.ControlIn
import Derived.Deep.AppendLies
import Derived.Deep.CutBlock
import Derived.Deep.DeepCutAuto
import Derived.Deep.Draws
import Derived.Deep.LoopGhost
import Derived.Deep.OwnRows
import Derived.Deep.QuietTactic
import Derived.Deep.RegionHeld3
import Derived.KernelRfl
import Derived.Laws.BitsLemmas
import Derived.Laws.BytesArg
import Derived.Laws.IdiomCopy
import Derived.Laws.MakeOwn
import Derived.Laws.OwnMore
import Derived.Laws.Rows
import Derived.Laws.Slices
import Derived.Lib.AppendIntMem
import Derived.Lib.AppendStr
import Derived.Lib.ConvBytes
import Derived.Lib.IndexLaws
import Derived.LoopIn
import Derived.LoopNIn
import Derived.Maps.AppendAt
import Derived.OrdersHeld
import Derived.OrdersIn
import Derived.OwnWalk
import Derived.OwnWalkIn
import Derived.ProofKit
import Derived.RangeFuncBound
import Derived.RangeFuncBox
import Derived.RangeFuncCalls
import Derived.RangeFuncFrom
import Derived.RangeFuncKeeps
import Derived.RangeFuncLeaves
import Derived.RangeFuncNested
import Derived.RangeFuncWrites
import Derived.RowKit
import Derived.RowKit3
import Derived.Shelf.Abstract
import Derived.Shelf.LaysM
import Derived.Shelf.RegionOpen
import Derived.Shelf.RegionOpenPlain
import Derived.Shelf.Small.Strs
import Derived.Shelf.Small.Utf8
import Derived.Shelf.Strconv.Itoa0
import Derived.Shelf.Strconv.Itoa1
import Derived.Shelf.Strconv.Itoa2
import Derived.Shelf.Strconv.Itoa3
import Derived.Shelf.Strconv.Itoa4
import Derived.Shelf.Strings.AsciiSet
import Derived.Shelf.Strings.Builder1
import Derived.Shelf.Strings.Cut
import Derived.Shelf.Strings.Prefix
import Derived.Shelf.Strings.Runes
import Derived.Shelf.Strings.Search1
import Derived.Shelf.Strings.Search2
import Derived.Shelf.Strings.Search3
import Derived.Shelf.Strings.Shaped
import Derived.Shelf.Strings.SlTrimAscii
import Derived.Shelf.Strings.Trim
import Derived.Shelf.Unicode.Decode
import Derived.Shelf.Unicode.DecodeAny
import Derived.Shelf.Unicode.DecodeLast
import Derived.Shelf.Unicode.DecodeSlow
import Derived.Sort.OwnSortedInts
import Derived.Tactics
import Derived.TacticsIn
import Derived.TacticsInMore
import Derived.Test.YtcnbhfefhmmgjaaDoorProg
import Derived.WalkKit
import Derived.WalkSmall
import Derived.WideLaws
import Derived.Test.YtcnbhfefhmmgjaaDoorBFnJournal0
import Derived.Test.YtcnbhfefhmmgjaaDoorBFnJournal2
import Derived.Test.YtcnbhfefhmmgjaaDoorBFnJournal3
import Derived.Test.YtcnbhfefhmmgjaaDoorBFnJournal4
import Derived.Test.YtcnbhfefhmmgjaaDoorBFnJournal5
import Derived.Test.YtcnbhfefhmmgjaaDoorBFnJournal6
import Derived.Test.YtcnbhfefhmmgjaaDoorBFnJournal7
import Derived.Test.YtcnbhfefhmmgjaaDoorBFnJournal8
import Derived.Test.YtcnbhfefhmmgjaaDoorBFnJournal9
import Derived.Test.YtcnbhfefhmmgjaaDoorBFnJournal10
import Derived.Test.YtcnbhfefhmmgjaaDoorBFnJournal11
import Derived.Test.YtcnbhfefhmmgjaaDoorBFnJournal12
import Derived.Test.YtcnbhfefhmmgjaaDoorBFnJournal13
import Derived.Test.YtcnbhfefhmmgjaaDoorBFnJournal14
set_option linter.unusedVariables false
set_option linter.unusedSimpArgs false
namespace Go.Proofs.YtcnbhfefhmmgjaaDoor.Com
open Go.RowKit Go.Proofs.YtcnbhfefhmmgjaaDoorW.PrintWords
theorem w64 {x : Int} (h1 : -9223372036854775808 ≤ x) (h2 : x ≤ 9223372036854775807) : wrap64 x = x := by
 unfold wrap64
 omega
theorem ev_of {α : Type} {g : Nat → Option α} {r : α} (h : Ev g r) : ∃ k, g k = some r := h.rounds
theorem ev_bind' {α β : Type} {o : Option α} {f : Nat → α → Option β} {a : α} {r : β} (h : o = some a) (k : Ev (fun n => f n a) r) : Ev (fun n => o.bind (f n)) r := by
 subst h
 exact k
theorem tmod_nn {a b : Int} (h : 0 ≤ a) : Int.tmod a b = a % b := Int.tmod_eq_emod_of_nonneg h
end Go.Proofs.YtcnbhfefhmmgjaaDoor.Com
namespace Go.Proofs.YtcnbhfefhmmgjaaDoor.Com
set_option linter.unusedSimpArgs false
set_option linter.unusedVariables false
open Go.RowKit Go.Proofs.YtcnbhfefhmmgjaaDoorW.PrintWords
theorem ev_fold {α σ ρ : Type} (xs : List α) (g : Nat → σ → Nat → Option ρ) (F : List α → σ → ρ) (Inv : Nat → σ → Prop)
  (h0 : ∀ s, Inv xs.length s → Ev (g xs.length s) (F [] s))
  (hs : ∀ m (h : m < xs.length) s, Inv m s → (∀ s', Inv (m + 1) s' → Ev (g (m + 1) s') (F (xs.drop (m + 1)) s')) → Ev (g m s) (F (xs[m] :: xs.drop (m + 1)) s)) :
  ∀ m s, m ≤ xs.length → Inv m s → Ev (g m s) (F (xs.drop m) s) := by
 have key : ∀ d m s, m + d = xs.length → Inv m s → Ev (g m s) (F (xs.drop m) s) := by
  intro d
  induction d with
  | zero =>
   intro m s e hi
   obtain rfl : m = xs.length := by omega
   rw [List.drop_length]
   exact h0 s hi
  | succ d ih =>
   intro m s e hi
   have h : m < xs.length := by omega
   rw [List.drop_eq_getElem_cons h]
   exact hs m h s hi (fun s' hi' => ih (m + 1) s' (by omega) hi')
 intro m s hm hi
 exact key (xs.length - m) m s (by omega) hi
theorem rd_nat {xs : List Int} {m : Nat} (h : m < xs.length) : rd xs (m : Int) = xs[m] := by
 unfold rd
 rw [Int.toNat_natCast, List.getD_eq_getElem?_getD, List.getElem?_eq_getElem h]
 rfl
theorem w_succ {m : Nat} (h : m < 9223372036854775807) : wrap64 ((m : Int) + 1) = ((m + 1 : Nat) : Int) := by
 rw [w64 (by omega) (by omega)]
 omega
end Go.Proofs.YtcnbhfefhmmgjaaDoor.Com
namespace Go.Proofs.YtcnbhfefhmmgjaaDoor.Com
set_option linter.unusedSimpArgs false
set_option linter.unusedVariables false
open Go.RowKit Go.Proofs.YtcnbhfefhmmgjaaDoorW.PrintWords Go.Proofs.YtcnbhfefhmmgjaaDoorW.PrintMore Go.Proofs.YtcnbhfefhmmgjaaDoor.Q
theorem rds_nat {xs : List ByteArray} {m : Nat} (h : m < xs.length) : rdOf ByteArray.empty xs (m : Int) = xs[m] := by
 unfold rdOf
 rw [Int.toNat_natCast, List.getD_eq_getElem?_getD, List.getElem?_eq_getElem h]
 rfl
end Go.Proofs.YtcnbhfefhmmgjaaDoor.Com
namespace Go.Proofs.YtcnbhfefhmmgjaaDoor.Com
set_option linter.unusedSimpArgs false
set_option linter.unusedVariables false
open Go.RowKit Go.Proofs.YtcnbhfefhmmgjaaDoorW.PrintWords Go.Proofs.YtcnbhfefhmmgjaaDoorW.PrintMore Go.Proofs.YtcnbhfefhmmgjaaDoor.Q
def bytesOf (s : List Int) : List UInt8 := s.map fun n => UInt8.ofNat n.toNat
theorem str_bytes (s : List Int) : strOfNums s = ⟨(bytesOf s).toArray⟩ := by
 apply ByteArray.ext
 simp [strOfNums, bytesOf]
def digs (n : Nat) : List Int := if h : n < 10 then [48 + (n : Int)] else digs (n / 10) ++ [48 + ((n % 10 : Nat) : Int)]
termination_by n
decreasing_by omega
theorem digs_lt {n : Nat} (h : n < 10) : digs n = [48 + (n : Int)] := by rw [digs, dif_pos h]
theorem digs_ge {n : Nat} (h : ¬ n < 10) : digs n = digs (n / 10) ++ [48 + ((n % 10 : Nat) : Int)] := by rw [digs, dif_neg h]
theorem digs_len (d : Nat) : ∀ n, n < 10 ^ (d + 1) → (digs n).length ≤ d + 1 := by
 induction d with
 | zero => intro n h; rw [digs_lt (by simpa using h)]; simp
 | succ d ih =>
  intro n h
  by_cases q : n < 10
  ·rw [digs_lt q]; simp
  ·rw [digs_ge q, List.length_append, List.length_singleton]
   have := ih (n / 10) (by rw [Nat.pow_succ] at h; omega)
   omega
theorem digs_pos (n : Nat) : 1 ≤ (digs n).length := by
 by_cases q : n < 10
 ·rw [digs_lt q]; simp
 ·rw [digs_ge q]; simp
theorem digs_bytes (n : Nat) : Go.Lib.decDigits n = bytesOf (digs n) := by
 induction n using Nat.strongRecOn with
 | _ n ih =>
  rw [Go.Lib.decDigits]
  by_cases q : n < 10
  ·rw [dif_pos q, digs_lt q]
   show [UInt8.ofNat (48 + n)] = [UInt8.ofNat (48 + (n : Int)).toNat]
   rw [show (48 + (n : Int)).toNat = 48 + n by omega]
  ·rw [dif_neg q, digs_ge q, ih (n / 10) (by omega)]
   unfold bytesOf
   rw [List.map_append]
   show _ ++ [UInt8.ofNat (48 + n % 10)] = _ ++ [UInt8.ofNat (48 + ((n % 10 : Nat) : Int)).toNat]
   rw [show (48 + ((n % 10 : Nat) : Int)).toNat = 48 + n % 10 by omega]
end Go.Proofs.YtcnbhfefhmmgjaaDoor.Com
namespace Go.Proofs.YtcnbhfefhmmgjaaDoor.Com
set_option linter.unusedSimpArgs false
set_option linter.unusedVariables false
set_option linter.unusedSectionVars false
open Go.RowKit Go.Proofs.YtcnbhfefhmmgjaaDoorW.PrintWords Go.Proofs.YtcnbhfefhmmgjaaDoorW.PrintMore Go.Proofs.YtcnbhfefhmmgjaaDoor.Q
theorem bt_nat (s : ByteArray) (m : Nat) (h : m < s.data.toList.length) : bt s (m : Int) = ((s.data.toList[m]).toNat : Int) := by
 have h' : m < s.size := by simpa using h
 unfold bt
 rw [dif_pos (by rw [Int.toNat_natCast]; exact h')]
 simp [ByteArray.getElem_eq_getElem_data]
def chk (line : ByteArray) : List Nat → Int → Int
 | [], c => c
 | m :: r, c => chk line r (Int.tmod (263 * c + bt line (m : Int) + 7) 65521)
theorem chk_bd (line : ByteArray) (l : List Nat) : ∀ c, 0 ≤ c ∧ c < 65521 → 0 ≤ chk line l c ∧ chk line l c < 65521 := by
 induction l with
 | nil => intro c h; exact h
 | cons m r ih =>
  intro c h
  have hb := bt_range line (m : Int)
  unfold chk
  refine ih _ ?_
  rw [tmod_nn (by omega)]
  omega
def chkOf (line : ByteArray) (c : Int) : Int := chk line (List.range line.size) c
theorem chkOf_bd {line : ByteArray} {c : Int} (h : 0 ≤ c ∧ c < 65521) : 0 ≤ chkOf line c ∧ chkOf line c < 65521 := chk_bd _ _ _ h
theorem implCheck_ev (line : ByteArray) (c : Int) (hc : 0 ≤ c ∧ c < 65521) (hs : line.size ≤ 1048576) : Ev (fun k => impl_checkOf.f k c line) (chkOf line c) := by
 unfold impl_checkOf.f chkOf
 refine ev_fold (List.range line.size) (fun m (s : Int) k => impl_checkOf.l0 k s line (line.size : Int) (m : Int)) (fun d s => chk line d s) (fun m s => 0 ≤ s ∧ s < 65521) ?_ ?_ 0 c (by omega) hc
 ·intro s _
  refine Ev.step (fun k => by rw [impl_checkOf.l0]) ?_
  simp only [List.length_range, if_neg (show ¬ (line.size : Int) < (line.size : Int) by omega), chk]
  exact Ev.now _
 ·intro m hm s hs' ih
  have hm' : m < line.size := by simpa using hm
  have hb := bt_range line (m : Int)
  refine Ev.step (fun k => by rw [impl_checkOf.l0]) ?_
  rw [List.getElem_range]
  simp only [if_pos (show (m : Int) < (line.size : Int) by omega), if_pos (show 0 ≤ (m : Int) by omega), w_succ (m := m) (by omega)]
  rw [w64 (x := 263 * s) (by omega) (by omega), w64 (x := bt line (m : Int)) (by omega) (by omega), w64 (x := 263 * s + bt line (m : Int)) (by omega) (by omega), w64 (x := 263 * s + bt line (m : Int) + 7) (by omega) (by omega)]
  refine ih _ ?_
  rw [tmod_nn (by omega)]
  omega
def nl (line : ByteArray) : Bool := line.data.toList.any (· == 10)
theorem index_any (l : List UInt8) (c : UInt8) : decide (0 ≤ Go.Lib.indexByte l c) = l.any (· == c) := by
 induction l with
 | nil => rfl
 | cons b r ih =>
  have hg := Go.Lib.indexByte_ge r c
  unfold Go.Lib.indexByte
  rw [List.any_cons]
  by_cases q : (b == c) = true
  ·rw [if_pos q, q, Bool.true_or]
   rfl
  ·rw [if_neg q]
   have q0 : (b == c) = false := by simpa using q
   rw [q0, Bool.false_or, ← ih]
   by_cases z : Go.Lib.indexByte r c = -1
   ·rw [if_pos (by simpa using z), z]
   ·rw [if_neg (by simpa using z)]
    rw [decide_eq_true (show 0 ≤ Go.Lib.indexByte r c by omega), decide_eq_true (show 0 ≤ Go.Lib.indexByte r c + 1 by omega)]
theorem nl_index (line : ByteArray) : decide (0 ≤ Go.Lib.indexByte line.data.toList 10) = nl line := index_any _ _
theorem itoa_len {c : Int} (h : 0 ≤ c ∧ c < 65521) : 1 ≤ (Go.Lib.itoa c).length ∧ (Go.Lib.itoa c).length ≤ 5 := by
 unfold Go.Lib.itoa
 rw [if_neg (by omega), digs_bytes]
 unfold bytesOf
 rw [List.length_map]
 exact ⟨digs_pos _, digs_len 4 _ (by omega)⟩
def pieceOf (line : ByteArray) (c : Int) : List UInt8 := (jPiece ⟨(Go.Lib.itoa c).toArray⟩ line).data.toList
theorem piece_len (line : ByteArray) {c : Int} (h : 0 ≤ c ∧ c < 65521) : line.size + 3 ≤ (pieceOf line c).length ∧ (pieceOf line c).length ≤ line.size + 7 := by
 have := itoa_len h
 unfold pieceOf jPiece
 simp [ByteArray.data_append]
 omega
def jtext : List ByteArray → Int → List UInt8
 | [], _ => []
 | x :: r, c => pieceOf x (chkOf x c) ++ jtext r (chkOf x c)
def bad : ByteArray × Bool := ((⟨#[]⟩ : ByteArray), false)
def jres (l : List ByteArray) : ByteArray × Bool := if l.any nl = false ∧ ((jtext l 0).length : Int) ≤ 4000 then (⟨(jtext l 0).toArray⟩, true) else bad
section
variable {l : List ByteArray} (hl : l.length ≤ 1048576) (hr : ∀ x ∈ l, x.size ≤ 1048576)
include hl hr
theorem implJour_ev : Ev (fun k => impl_JournalOf.f k l) (jres l) := by
 unfold impl_JournalOf.f
 have gen := ev_fold l (fun m (s : Int × List UInt8) k => impl_JournalOf.l0 k l s.1 s.2 (m : Int)) (fun d s => if d.any nl = false ∧ ((s.2 ++ jtext d s.1).length : Int) ≤ 4000 then ((⟨(s.2 ++ jtext d s.1).toArray⟩ : ByteArray), true) else bad) (fun m s => (0 ≤ s.1 ∧ s.1 < 65521) ∧ (s.2.length : Int) ≤ 4000) ?_ ?_ 0 (0, []) (by omega) ⟨by simp, by simp⟩
 ·have := gen
  unfold jres
  simpa using this
 ·rintro ⟨c, out⟩ ⟨hc, ho⟩
  simp only at hc ho
  refine Ev.step (fun k => by rw [impl_JournalOf.l0]) ?_
  simp only [if_neg (show ¬ (l.length : Int) < (l.length : Int) by omega), jtext, List.append_nil, List.any_nil, true_and, if_pos ho]
  exact Ev.now _
 ·rintro m hm ⟨c, out⟩ ⟨hc, ho⟩ ih
  simp only at hc ho
  have hs := hr _ (List.getElem_mem hm)
  refine Ev.step (fun k => by rw [impl_JournalOf.l0]) ?_
  simp only [if_pos (show (m : Int) < (l.length : Int) by omega), if_pos (show 0 ≤ (m : Int) by omega), rds_nat hm, w_succ (m := m) (by omega)]
  refine Ev.bind (implCheck_ev l[m] c hc hs) ?_
  have hb := chkOf_bd (line := l[m]) hc
  have hi := itoa_len hb
  have hp := piece_len l[m] hb
  simp only [if_pos (show -9223372036854775808 ≤ chkOf l[m] c ∧ chkOf l[m] c ≤ 9223372036854775807 ∧ l[m].size ≤ 20000000 ∧ out.length ≤ 20000000 ∧ (Go.Lib.itoa (chkOf l[m] c)).length ≤ 1000 from ⟨by omega, by omega, by omega, by omega, by omega⟩), nl_index]
  rw [List.any_cons]
  unfold jtext
  change Ev (fun k => if nl l[m] = true then some bad else if ((out ++ pieceOf l[m] (chkOf l[m] c)).length : Int) > 4000 then some bad else impl_JournalOf.l0 k l (chkOf l[m] c) (out ++ pieceOf l[m] (chkOf l[m] c)) ((m + 1 : Nat) : Int)) _
  cases hn : nl l[m] with
  | true =>
   simp only [if_true, Bool.true_or, Bool.true_eq_false, false_and, if_false]
   exact Ev.now _
  | false =>
   simp only [Bool.false_eq_true, if_false, Bool.false_or]
   by_cases q : ((out ++ pieceOf l[m] (chkOf l[m] c)).length : Int) > 4000
   ·simp only [if_pos q]
    rw [if_neg (fun h => by have := h.2; rw [← List.append_assoc, List.length_append] at this; omega)]
    exact Ev.now _
   ·simp only [if_neg q]
    have := ih (chkOf l[m] c, out ++ pieceOf l[m] (chkOf l[m] c)) ⟨hb, by simp only; omega⟩
    simp only [List.append_assoc] at this ⊢
    exact this
end
end Go.Proofs.YtcnbhfefhmmgjaaDoor.Com
namespace Go.Proofs.YtcnbhfefhmmgjaaDoor.Com
set_option linter.unusedSimpArgs false
set_option linter.unusedVariables false
set_option linter.unusedSectionVars false
open Go.RowKit Go.Proofs.YtcnbhfefhmmgjaaDoorW.PrintWords Go.Proofs.YtcnbhfefhmmgjaaDoorW.PrintMore Go.Proofs.YtcnbhfefhmmgjaaDoor.Q Go.Proofs.YtcnbhfefhmmgjaaDoor.Box
def mk (l : List UInt8) : ByteArray := ⟨l.toArray⟩
theorem mk_data (l : List UInt8) : (mk l).data.toList = l := by simp [mk]
theorem mk_size (l : List UInt8) : (mk l).size = l.length := by show l.toArray.size = _; simp
theorem mk_ext {a : ByteArray} {l : List UInt8} (h : a.data.toList = l) : a = mk l := ByteArray.ext (Array.toList_inj.1 (by rw [h]; simp [mk]))
def splitL : List UInt8 → List (List UInt8) × List UInt8
 | [] => ([], [])
 | b :: r => if b = 10 then ([] :: (splitL r).1, (splitL r).2) else match splitL r with
  | ([], rem) => ([], b :: rem)
  | (l :: ls, rem) => ((b :: l) :: ls, rem)
theorem splitL_no : ∀ l : List UInt8, (∀ b ∈ l, b ≠ 10) → splitL l = ([], l)
 | [], _ => rfl
 | b :: r, h => by
  rw [splitL, if_neg (h b (by simp)), splitL_no r (fun x hx => h x (List.mem_cons_of_mem _ hx))]
theorem splitL_app : ∀ (u d : List UInt8), (∀ b ∈ u, b ≠ 10) → splitL (u ++ 10 :: d) = (u :: (splitL d).1, (splitL d).2)
 | [], d, _ => by simp [splitL]
 | b :: u, d, h => by
  rw [List.cons_append, splitL, if_neg (h b (by simp)), splitL_app u d (fun x hx => h x (List.mem_cons_of_mem _ hx))]
theorem splitL_lines : ∀ l : List UInt8, lines l = (splitL l).1.map (· ++ [10]) ++ (if (splitL l).2 = [] then [] else [(splitL l).2])
 | [] => by simp [lines, splitL]
 | b :: r => by
  have ih := splitL_lines r
  rw [lines, splitL]
  by_cases hb : b = 10
  ·rw [if_pos hb, if_pos hb, ih, hb]
   simp
  ·rw [if_neg hb, if_neg hb, ih]
   rcases hs : splitL r with ⟨_ | ⟨l, ls⟩, rem⟩
   ·by_cases hr : rem = []
    ·simp [hr]
    ·simp [hr]
   ·simp
theorem splitL_clean : ∀ l : List UInt8, (∀ x ∈ (splitL l).1, ∀ b ∈ x, b ≠ 10) ∧ ∀ b ∈ (splitL l).2, b ≠ 10
 | [] => by simp [splitL]
 | b :: r => by
  obtain ⟨i1, i2⟩ := splitL_clean r
  rw [splitL]
  by_cases hb : b = 10
  ·rw [if_pos hb]
   refine ⟨fun x hx => ?_, i2⟩
   rcases List.mem_cons.1 hx with rfl | hx
   ·simp
   ·exact i1 x hx
  ·rw [if_neg hb]
   rcases hs : splitL r with ⟨_ | ⟨l, ls⟩, rem⟩
   ·rw [hs] at i2
    refine ⟨by simp, fun y hy => ?_⟩
    rcases List.mem_cons.1 hy with rfl | hy
    ·exact hb
    ·exact i2 y hy
   ·rw [hs] at i1 i2
    refine ⟨fun x hx => ?_, i2⟩
    rcases List.mem_cons.1 hx with rfl | hx
    ·intro y hy
     rcases List.mem_cons.1 hy with rfl | hy
     ·exact hb
     ·exact i1 l (by simp) y hy
    ·exact i1 x (List.mem_cons_of_mem _ hx)
theorem splitL_count : ∀ l : List UInt8, (splitL l).1.length ≤ l.length
 | [] => by simp [splitL]
 | b :: r => by
  have ih := splitL_count r
  rw [splitL]
  by_cases hb : b = 10
  ·rw [if_pos hb]; simpa using ih
  ·rw [if_neg hb]
   rcases hs : splitL r with ⟨_ | ⟨l, ls⟩, rem⟩
   ·simp
   ·rw [hs] at ih; simp at ih ⊢; omega
theorem splitL_long : ∀ l : List UInt8, (∀ x ∈ (splitL l).1, x.length ≤ l.length) ∧ (splitL l).2.length ≤ l.length
 | [] => by simp [splitL]
 | b :: r => by
  obtain ⟨i1, i2⟩ := splitL_long r
  rw [splitL]
  by_cases hb : b = 10
  ·rw [if_pos hb]
   refine ⟨fun x hx => ?_, by simp; omega⟩
   rcases List.mem_cons.1 hx with rfl | hx
   ·simp
   ·have := i1 x hx; simp; omega
  ·rw [if_neg hb]
   rcases hs : splitL r with ⟨_ | ⟨l, ls⟩, rem⟩
   ·rw [hs] at i2
    exact ⟨by simp, by simpa using i2⟩
   ·rw [hs] at i1 i2
    refine ⟨fun x hx => ?_, by simp at i2 ⊢; omega⟩
    rcases List.mem_cons.1 hx with rfl | hx
    ·have := i1 l (by simp); simpa using this
    ·have := i1 x (List.mem_cons_of_mem _ hx); simp; omega
theorem ext_nat (s : ByteArray) (a b : Nat) : s.extract a b = mk ((s.data.toList.drop a).take (b - a)) := mk_ext (by rw [ByteArray.data_extract, Array.toList_extract, List.extract_eq_take_drop])
def spAt (l : List UInt8) : Nat := (l.takeWhile (· != 32)).length
theorem spAt_le (l : List UInt8) : spAt l ≤ l.length := (List.takeWhile_prefix _).length_le
theorem spAt_eq : ∀ (l : List UInt8) (h : spAt l < l.length), l[spAt l] = 32
 | [], h => by simp [spAt] at h
 | b :: r, h => by
  by_cases hb : (b != 32) = true
  ·have e : spAt (b :: r) = spAt r + 1 := by unfold spAt; rw [List.takeWhile_cons, if_pos hb]; simp
   simp only [e, List.getElem_cons_succ]
   exact spAt_eq r (by rw [e] at h; simpa using h)
  ·have e : spAt (b :: r) = 0 := by unfold spAt; rw [List.takeWhile_cons, if_neg hb]; rfl
   simp only [e, List.getElem_cons_zero]
   simpa using hb
theorem index_sp : ∀ l : List UInt8, Go.Lib.indexByte l 32 = if spAt l < l.length then (spAt l : Int) else -1
 | [] => by simp [Go.Lib.indexByte, spAt]
 | b :: r => by
  have ih := index_sp r
  have hle := spAt_le r
  unfold Go.Lib.indexByte
  by_cases hb : b = 32
  ·have e : spAt (b :: r) = 0 := by unfold spAt; rw [List.takeWhile_cons, if_neg (by simp [hb])]; rfl
   rw [if_pos (by simp [hb]), e]
   simp
  ·have e : spAt (b :: r) = spAt r + 1 := by unfold spAt; rw [List.takeWhile_cons, if_pos (by simp [hb])]; simp
   rw [if_neg (by simp [hb]), ih, e]
   by_cases q : spAt r < r.length
   ·rw [if_pos q, if_neg (by simp), if_pos (by simpa using q)]
    omega
   ·rw [if_neg q, if_pos (by simp), if_neg (by simpa using q)]
def stepR (ln : ByteArray) (c : Int) : Option (ByteArray × Int) :=
 if spAt ln.data.toList < ln.size then (if ln.extract 0 (spAt ln.data.toList) = mk (Go.Lib.itoa (chkOf (ln.extract (spAt ln.data.toList + 1) ln.size) c)) then some (ln.extract (spAt ln.data.toList + 1) ln.size, chkOf (ln.extract (spAt ln.data.toList + 1) ln.size) c) else none) else none
def recF : List ByteArray → List ByteArray → Int → Int → List ByteArray × Int
 | [], out, _, n => (out, n)
 | ln :: r, out, c, n => match stepR ln c with
  | none => (out, n)
  | some (tx, c') => recF r (out ++ [tx]) c' (n + (ln.size + 1))
theorem ext_size_le (s : ByteArray) (a b : Nat) : (s.extract a b).size ≤ s.size := by rw [ByteArray.size_extract]; omega
theorem stepR_bd {ln tx : ByteArray} {c c' : Int} (h : stepR ln c = some (tx, c')) (hc : 0 ≤ c ∧ c < 65521) : 0 ≤ c' ∧ c' < 65521 := by
 unfold stepR at h
 split at h
 ·split at h
  ·obtain ⟨rfl, rfl⟩ := Prod.mk.inj (Option.some.inj h)
   exact chkOf_bd hc
  ·cases h
 ·cases h
theorem bcut_sp (ln : ByteArray) : bcut ln 32 = if spAt ln.data.toList < ln.size then (ln.extract 0 (spAt ln.data.toList), ln.extract (spAt ln.data.toList + 1) ln.size, true) else (ln, ⟨#[]⟩, false) := by
 have hz : ln.data.toList.length = ln.size := by simp
 unfold bcut
 rw [index_sp, hz]
 by_cases h : spAt ln.data.toList < ln.size
 ·simp [h]
 ·simp [h]
theorem trimNl_line (l : List UInt8) : trimNl (mk (l ++ [10])) = mk l := by
 unfold trimNl Go.Lib.trimSuffix Go.Lib.hasSuffix
 rw [mk_data]
 have h : ([10] : List UInt8).isSuffixOf (l ++ [10]) = true := by simp
 rw [if_pos h]
 simp [mk]
theorem endsNl_line (l : List UInt8) : endsNl (mk (l ++ [10])) = true := by
 unfold endsNl Go.Lib.hasSuffix
 rw [mk_data]
 simp
theorem endsNl_rem (l : List UInt8) (h : ∀ b ∈ l, b ≠ 10) : endsNl (mk l) = false := by
 unfold endsNl Go.Lib.hasSuffix
 rw [mk_data]
 cases e : ([10] : List UInt8).isSuffixOf l with
 | false => rfl
 | true =>
  have h1 : ([10] : List UInt8) <:+ l := List.isSuffixOf_iff_suffix.1 e
  exact absurd rfl (h 10 (h1.subset (by simp)))
theorem progGo_ev (rem : List UInt8) (hrem : ∀ b ∈ rem, b ≠ 10) (hrl : rem.length ≤ 4000) : ∀ (ls : List (List UInt8)) (out : List ByteArray) (c n : Int), (∀ x ∈ ls, x.length ≤ 4000) → (0 ≤ c ∧ c < 65521) → 0 ≤ n → n + 5000 * ls.length ≤ 100000000 →
  Ev (fun k => impl_RecoverJournal.go k (ls.map (fun l => mk (l ++ [10])) ++ (if rem = [] then [] else [mk rem])) out c n) (recF (ls.map mk) out c n)
 | [], out, c, n, _, hc, _, _ => by
  rw [List.map_nil, List.map_nil, List.nil_append, recF]
  by_cases hr : rem = []
  ·rw [if_pos hr]
   simp only [impl_RecoverJournal.go]
   exact Ev.now _
  ·rw [if_neg hr]
   simp only [impl_RecoverJournal.go]
   have hsz : (bcut (trimNl (mk rem)) 32).2.1.size ≤ 1048576 := by
    have h1 := trimNl_size (mk rem)
    rw [mk_size] at h1
    rw [bcut_sp]
    split
    ·have := ext_size_le (trimNl (mk rem)) (spAt (trimNl (mk rem)).data.toList + 1) (trimNl (mk rem)).size
     simp only
     omega
    ·exact Nat.zero_le _
   refine Ev.bind (implCheck_ev _ c hc hsz) ?_
   have hb := chkOf_bd (line := (bcut (trimNl (mk rem)) 32).2.1) hc
   simp only [if_pos (show -9223372036854775808 ≤ chkOf (bcut (trimNl (mk rem)) 32).2.1 c ∧ chkOf (bcut (trimNl (mk rem)) 32).2.1 c ≤ 9223372036854775807 from ⟨by omega, by omega⟩), endsNl_rem rem hrem, Bool.false_eq_true, false_and, and_false, if_false]
   exact Ev.now _
 | l :: ls, out, c, n, hl, hc, hn, hbd => by
  have hll := hl l (by simp)
  simp only [List.map_cons, List.cons_append, impl_RecoverJournal.go, trimNl_line, endsNl_line]
  rw [recF]
  simp only [List.length_cons] at hbd
  have hsz := mk_size l
  have hz1 : (mk (l ++ [10])).size = l.length + 1 := by rw [mk_size]; simp
  have hext := ext_size_le (mk l) (spAt (mk l).data.toList + 1) (mk l).size
  have hcs := bcut_sp (mk l)
  by_cases hsp : spAt (mk l).data.toList < (mk l).size
  ·rw [if_pos hsp] at hcs
   simp only [hcs]
   refine Ev.bind (implCheck_ev _ c hc (by omega)) ?_
   have hb := chkOf_bd (line := (mk l).extract (spAt (mk l).data.toList + 1) (mk l).size) hc
   have hst : stepR (mk l) c = if (mk l).extract 0 (spAt (mk l).data.toList) = mk (Go.Lib.itoa (chkOf ((mk l).extract (spAt (mk l).data.toList + 1) (mk l).size) c)) then some ((mk l).extract (spAt (mk l).data.toList + 1) (mk l).size, chkOf ((mk l).extract (spAt (mk l).data.toList + 1) (mk l).size) c) else none := by
    unfold stepR
    rw [if_pos hsp]
   rw [hst]
   simp only [if_pos (show -9223372036854775808 ≤ chkOf ((mk l).extract (spAt (mk l).data.toList + 1) (mk l).size) c ∧ chkOf ((mk l).extract (spAt (mk l).data.toList + 1) (mk l).size) c ≤ 9223372036854775807 from ⟨by omega, by omega⟩), true_and]
   change Ev (fun k => if (mk l).extract 0 (spAt (mk l).data.toList) = mk (Go.Lib.itoa (chkOf ((mk l).extract (spAt (mk l).data.toList + 1) (mk l).size) c)) then _ else _) _
   by_cases he : (mk l).extract 0 (spAt (mk l).data.toList) = mk (Go.Lib.itoa (chkOf ((mk l).extract (spAt (mk l).data.toList + 1) (mk l).size) c))
   ·simp only [if_pos he]
    rw [w64 (x := n + ((mk (l ++ [10])).size : Int)) (by omega) (by omega), show n + ((mk (l ++ [10])).size : Int) = n + ((mk l).size + 1) by omega]
    exact progGo_ev rem hrem hrl ls _ _ _ (fun x hx => hl x (List.mem_cons_of_mem _ hx)) hb (by omega) (by omega)
   ·simp only [if_neg he]
    exact Ev.now _
  ·rw [if_neg hsp] at hcs
   simp only [hcs]
   refine Ev.bind (implCheck_ev _ c hc (Nat.zero_le _)) ?_
   have hb := chkOf_bd (line := (⟨#[]⟩ : ByteArray)) hc
   have hst : stepR (mk l) c = none := by unfold stepR; rw [if_neg hsp]
   rw [hst]
   simp only [if_pos (show -9223372036854775808 ≤ chkOf (⟨#[]⟩ : ByteArray) c ∧ chkOf (⟨#[]⟩ : ByteArray) c ≤ 9223372036854775807 from ⟨by omega, by omega⟩), Bool.false_eq_true, false_and, if_false]
   exact Ev.now _
end Go.Proofs.YtcnbhfefhmmgjaaDoor.Com
namespace Go.Proofs.YtcnbhfefhmmgjaaDoor.Com
set_option linter.unusedSimpArgs false
set_option linter.unusedVariables false
open Go.RowKit Go.Proofs.YtcnbhfefhmmgjaaDoorW.PrintWords Go.Proofs.YtcnbhfefhmmgjaaDoorW.PrintMore Go.Proofs.YtcnbhfefhmmgjaaDoor.Q Go.Proofs.YtcnbhfefhmmgjaaDoor.Box
def Cln (l : List UInt8) : Prop := ∀ b ∈ l, b ≠ 10
theorem nl_cln (x : ByteArray) : nl x = false ↔ Cln x.data.toList := by
 unfold nl Cln
 rw [List.any_eq_false]
 constructor
 ·intro h b hb e
  have := h b hb
  simp [e] at this
 ·intro h b hb
  simpa using h b hb
theorem digs_ge48 (n : Nat) : ∀ x ∈ digs n, 48 ≤ x ∧ x ≤ 57 := by
 induction n using Nat.strongRecOn with
 | ind n ih =>
  intro x hx
  by_cases h : n < 10
  ·rw [digs_lt h] at hx
   simp at hx
   omega
  ·rw [digs_ge h] at hx
   rcases List.mem_append.1 hx with hx | hx
   ·exact ih (n / 10) (by omega) x hx
   ·simp at hx
    omega
theorem itoa_digit {c : Int} (h : 0 ≤ c) : ∀ b ∈ Go.Lib.itoa c, 48 ≤ b.toNat ∧ b.toNat ≤ 57 := by
 intro b hb
 unfold Go.Lib.itoa at hb
 rw [if_neg (by omega), digs_bytes] at hb
 unfold bytesOf at hb
 obtain ⟨x, hx, rfl⟩ := List.mem_map.1 hb
 have := digs_ge48 _ x hx
 rw [UInt8.toNat_ofNat']
 omega
theorem itoa_ne {c : Int} (h : 0 ≤ c) (b : UInt8) (hb : b ∈ Go.Lib.itoa c) : b ≠ 10 ∧ b ≠ 32 := by
 have := itoa_digit h b hb
 refine ⟨?_, ?_⟩ <;> rintro rfl <;> simp at this
def uOf (x : ByteArray) (c : Int) : List UInt8 := Go.Lib.itoa c ++ 32 :: x.data.toList
theorem piece_u (x : ByteArray) (c : Int) : pieceOf x c = uOf x c ++ [10] := by
 unfold pieceOf jPiece uOf
 simp [ByteArray.data_append]
theorem u_cln {x : ByteArray} {c : Int} (hc : 0 ≤ c) (hx : Cln x.data.toList) : Cln (uOf x c) := by
 intro b hb
 unfold uOf at hb
 rcases List.mem_append.1 hb with hb | hb
 ·exact (itoa_ne hc b hb).1
 ·rcases List.mem_cons.1 hb with rfl | hb
  ·decide
  ·exact hx b hb
theorem spAt_app : ∀ (u d : List UInt8), (∀ b ∈ u, b ≠ 32) → spAt (u ++ 32 :: d) = u.length
 | [], d, _ => by simp [spAt]
 | b :: u, d, h => by
  have ih := spAt_app u d (fun x hx => h x (List.mem_cons_of_mem _ hx))
  unfold spAt at ih ⊢
  rw [List.cons_append, List.takeWhile_cons, if_pos (by simpa using h b (by simp)), List.length_cons, ih, List.length_cons]
theorem step_u {x : ByteArray} {c : Int} (hc : 0 ≤ c ∧ c < 65521) : stepR (mk (uOf x (chkOf x c))) c = some (x, chkOf x c) := by
 have hb := chkOf_bd (line := x) hc
 have hs : spAt (uOf x (chkOf x c)) = (Go.Lib.itoa (chkOf x c)).length := spAt_app _ _ (fun b hb2 => (itoa_ne hb.1 b hb2).2)
 unfold stepR
 rw [mk_data, hs, mk_size]
 have hl : (uOf x (chkOf x c)).length = (Go.Lib.itoa (chkOf x c)).length + 1 + x.data.toList.length := by unfold uOf; simp; omega
 rw [if_pos (by omega)]
 have e1 : (mk (uOf x (chkOf x c))).extract ((Go.Lib.itoa (chkOf x c)).length + 1) (uOf x (chkOf x c)).length = x := by
  rw [ext_nat, mk_data]
  symm
  apply mk_ext
  unfold uOf
  rw [show (Go.Lib.itoa (chkOf x c)).length + 1 = (Go.Lib.itoa (chkOf x c) ++ [32]).length by simp, show Go.Lib.itoa (chkOf x c) ++ 32 :: x.data.toList = (Go.Lib.itoa (chkOf x c) ++ [32]) ++ x.data.toList by simp, List.drop_left', List.take_of_length_le]
  ·simp; omega
  ·rfl
 have e2 : (mk (uOf x (chkOf x c))).extract 0 (Go.Lib.itoa (chkOf x c)).length = mk (Go.Lib.itoa (chkOf x c)) := by
  rw [ext_nat, mk_data]
  congr 1
  unfold uOf
  rw [List.drop_zero, Nat.sub_zero, List.take_left']
  rfl
 rw [e1, e2, if_pos rfl]
def cEnd : List ByteArray → Int → Int
 | [], c => c
 | x :: r, c => cEnd r (chkOf x c)
theorem cEnd_bd : ∀ (l : List ByteArray) (c : Int), 0 ≤ c ∧ c < 65521 → 0 ≤ cEnd l c ∧ cEnd l c < 65521
 | [], c, h => h
 | x :: r, c, h => cEnd_bd r _ (chkOf_bd h)
theorem recF_prefix : ∀ (l : List ByteArray) (c : Int) (D : List UInt8) (out : List ByteArray) (n : Int), (0 ≤ c ∧ c < 65521) → (∀ x ∈ l, Cln x.data.toList) →
  recF ((splitL (jtext l c ++ D)).1.map mk) out c n = recF ((splitL D).1.map mk) (out ++ l) (cEnd l c) (n + ((jtext l c).length : Int))
 | [], c, D, out, n, _, _ => by simp [jtext, cEnd]
 | x :: r, c, D, out, n, hc, hl => by
  have hb := chkOf_bd (line := x) hc
  have hx := hl x (by simp)
  have e : jtext (x :: r) c ++ D = uOf x (chkOf x c) ++ 10 :: (jtext r (chkOf x c) ++ D) := by
   rw [jtext, piece_u]
   simp
  rw [e, splitL_app _ _ (u_cln hb.1 hx), List.map_cons, recF, step_u hc]
  simp only
  rw [recF_prefix r (chkOf x c) D (out ++ [x]) _ hb (fun y hy => hl y (List.mem_cons_of_mem _ hy))]
  have hlen : ((jtext (x :: r) c).length : Int) = ((mk (uOf x (chkOf x c))).size : Int) + 1 + ((jtext r (chkOf x c)).length : Int) := by
   rw [jtext, piece_u, mk_size]
   simp; omega
  rw [hlen, cEnd, List.append_assoc]
  congr 1
  omega
theorem take_dec : ∀ (l : List ByteArray) (c : Int) (a : Nat), (0 ≤ c ∧ c < 65521) → (∀ x ∈ l, Cln x.data.toList) → ∃ j, j ≤ l.length ∧ ∃ D, (jtext l c).take a = jtext (l.take j) c ++ D ∧ Cln D
 | [], c, a, _, _ => ⟨0, Nat.le_refl _, [], by simp [jtext], fun b hb => by simp at hb⟩
 | x :: r, c, a, hc, hl => by
  have hb := chkOf_bd (line := x) hc
  have hx := hl x (by simp)
  by_cases h : a < (pieceOf x (chkOf x c)).length
  ·refine ⟨0, Nat.zero_le _, (jtext (x :: r) c).take a, by simp [jtext], ?_⟩
   intro b hb2
   rw [jtext, List.take_append_of_le_length (by omega), piece_u] at hb2
   rw [piece_u, List.length_append, List.length_singleton] at h
   rw [List.take_append_of_le_length (by omega)] at hb2
   exact u_cln hb.1 hx b (List.mem_of_mem_take hb2)
  ·obtain ⟨j, hj, D, e, hD⟩ := take_dec r (chkOf x c) (a - (pieceOf x (chkOf x c)).length) hb (fun y hy => hl y (List.mem_cons_of_mem _ hy))
   refine ⟨j + 1, by simpa using hj, D, ?_, hD⟩
   rw [jtext, List.take_append, List.take_of_length_le (by omega), e, List.take_succ_cons, jtext, List.append_assoc]
def nls (l : List UInt8) : Nat := l.countP (· == 10)
theorem nls_cln {l : List UInt8} (h : Cln l) : nls l = 0 := by
 unfold nls
 rw [List.countP_eq_zero]
 intro b hb
 simpa using h b hb
theorem nls_jtext : ∀ (l : List ByteArray) (c : Int), (0 ≤ c ∧ c < 65521) → (∀ x ∈ l, Cln x.data.toList) → nls (jtext l c) = l.length
 | [], c, _, _ => rfl
 | x :: r, c, hc, hl => by
  have hb := chkOf_bd (line := x) hc
  have ih := nls_jtext r (chkOf x c) hb (fun y hy => hl y (List.mem_cons_of_mem _ hy))
  have h1 := nls_cln (u_cln hb.1 (hl x (by simp)))
  unfold nls at ih h1 ⊢
  rw [jtext, piece_u, List.countP_append, List.countP_append, ih, h1]
  simp
  omega
theorem recF_spec : ∀ (ls : List (List UInt8)) (out : List ByteArray) (c n : Int), (0 ≤ c ∧ c < 65521) → (∀ l ∈ ls, Cln l) →
  ∃ (new : List ByteArray) (m : Nat), recF (ls.map mk) out c n = (out ++ new, n + m) ∧ jtext new c = (ls.map (· ++ [10])).flatten.take m ∧ m ≤ (ls.map (· ++ [10])).flatten.length ∧ (∀ x ∈ new, Cln x.data.toList) ∧ new.length ≤ ls.length
 | [], out, c, n, _, _ => ⟨[], 0, by simp [recF], by simp [jtext], by simp, fun x hx => by simp at hx, Nat.le_refl _⟩
 | l :: ls, out, c, n, hc, hl => by
  rw [List.map_cons, recF]
  cases hs : stepR (mk l) c with
  | none => exact ⟨[], 0, by simp, by simp [jtext], by simp, fun x hx => by simp at hx, Nat.zero_le _⟩
  | some p =>
   obtain ⟨tx, c'⟩ := p
   have hb := stepR_bd hs hc
   obtain ⟨new, m, e1, e2, e3, e4, e5⟩ := recF_spec ls (out ++ [tx]) c' (n + ((mk l).size + 1)) hb (fun y hy => hl y (List.mem_cons_of_mem _ hy))
   have hu : l = uOf tx c' ∧ c' = chkOf tx c := by
    unfold stepR at hs
    rw [mk_data, mk_size] at hs
    by_cases hsp : spAt l < l.length
    ·rw [if_pos hsp] at hs
     by_cases he : (mk l).extract 0 (spAt l) = mk (Go.Lib.itoa (chkOf ((mk l).extract (spAt l + 1) l.length) c))
     ·rw [if_pos he] at hs
      obtain ⟨h1, h2⟩ := Prod.mk.inj (Option.some.inj hs)
      rw [h1] at h2 he
      refine ⟨?_, h2.symm⟩
      have h3 := congrArg (fun z : ByteArray => z.data.toList) h1
      have h4 := congrArg (fun z : ByteArray => z.data.toList) he
      simp only [ext_nat, mk_data, List.drop_zero, Nat.sub_zero] at h3 h4
      rw [h2] at h4
      rw [List.take_of_length_le (by rw [List.length_drop]; exact Nat.le_refl _)] at h3
      have h5 := spAt_eq l hsp
      unfold uOf
      rw [← h3, ← h4]
      have h6 := List.take_append_drop (spAt l) l
      rw [List.drop_eq_getElem_cons hsp, h5] at h6
      exact h6.symm
     ·rw [if_neg he] at hs; cases hs
    ·rw [if_neg hsp] at hs; cases hs
   obtain ⟨hu1, hu2⟩ := hu
   have hlen : (mk l).size = l.length := mk_size l
   refine ⟨tx :: new, m + (l.length + 1), ?_, ?_, ?_, ?_, by simpa using e5⟩
   ·simp only
    rw [e1, hlen]
    simp
    omega
   ·rw [jtext, ← hu2, piece_u, ← hu1, e2, List.map_cons, List.flatten_cons]
    generalize (ls.map (· ++ [10])).flatten = F
    have h10 : (l ++ [10]).length = l.length + 1 := by simp
    have key : ((l ++ [10]) ++ F).take (m + (l.length + 1)) = (l ++ [10]) ++ F.take m := by
     rw [List.take_append, List.take_of_length_le (by rw [h10]; omega), h10, Nat.add_sub_cancel]
    exact key.symm
   ·rw [List.map_cons, List.flatten_cons, List.length_append, List.length_append, List.length_singleton]
    omega
   ·intro x hx
    rcases List.mem_cons.1 hx with rfl | hx
    ·intro b hb2
     refine hl l (by simp) b ?_
     rw [hu1]
     unfold uOf
     simp [hb2]
    ·exact e4 x hx
theorem split_flat : ∀ l : List UInt8, ((splitL l).1.map (· ++ [10])).flatten ++ (splitL l).2 = l
 | [] => rfl
 | b :: r => by
  have ih := split_flat r
  unfold splitL
  by_cases h : b = 10
  ·rw [if_pos h]
   simp only [List.map_cons, List.flatten_cons, List.nil_append, List.append_assoc]
   rw [ih, h]
   rfl
  ·rw [if_neg h]
   revert ih
   cases hs : splitL r with
   | mk ls rem =>
    cases ls with
    | nil => intro ih; simp at ih ⊢; exact ih
    | cons u us => intro ih; simp at ih ⊢; exact ih
theorem implRec_ev (s : ByteArray) (hs : s.size ≤ 4000) : Ev (fun k => impl_RecoverJournal.f k s) ((recF ((splitL s.data.toList).1.map mk) [] 0 0).1, (recF ((splitL s.data.toList).1.map mk) [] 0 0).2, true) := by
 unfold impl_RecoverJournal.f
 simp only [if_neg (show ¬ (s.size : Int) > 4000 by omega)]
 have hz : s.data.toList.length = s.size := by simp
 have hc := splitL_clean s.data.toList
 have hn := splitL_count s.data.toList
 have hg := splitL_long s.data.toList
 have hbl : blines s = (splitL s.data.toList).1.map (fun l => mk (l ++ [10])) ++ (if (splitL s.data.toList).2 = [] then [] else [mk (splitL s.data.toList).2]) := by
  unfold blines
  rw [splitL_lines, List.map_append, List.map_map]
  congr 1
  split <;> rfl
 have h2 := progGo_ev (splitL s.data.toList).2 hc.2 (by have := hg.2; omega) (splitL s.data.toList).1 [] 0 0 (fun x hx => by have := hg.1 x hx; omega) (by omega) (by omega) (by omega)
 rw [← hbl] at h2
 exact Ev.bind h2 (Ev.now _)
end Go.Proofs.YtcnbhfefhmmgjaaDoor.Com
namespace Go.Proofs.YtcnbhfefhmmgjaaDoor.Com
set_option linter.unusedSimpArgs false
set_option linter.unusedVariables false
open Go.RowKit Go.Proofs.YtcnbhfefhmmgjaaDoorW.PrintWords Go.Proofs.YtcnbhfefhmmgjaaDoorW.PrintMore Go.Proofs.YtcnbhfefhmmgjaaDoor.Q
theorem and_255 (x : Nat) (h : x < 18446744073709551616) : ∃ r : Nat, Go.bits .and .u64 (x : Int) 255 = (r : Int) ∧ r ≤ 255 :=
 ⟨x &&& 255, (Go.bits_nat .u64 64 (by decide) (fun n h0 h1 => by simp [IntKind.wrap, IntKind.bits, IntKind.signed]; omega) x 255 h (by decide)).1, Nat.and_le_right⟩
theorem u64_bd (n : Int) : 0 ≤ IntKind.u64.wrap n ∧ IntKind.u64.wrap n < 18446744073709551616 := by
 simp [IntKind.wrap, IntKind.bits, IntKind.signed]
 omega
theorem u8_bd {x : Int} (h : (Lit.int .u8 x).wf = true) : 0 ≤ x ∧ x ≤ 255 := by
 simp [Lit.wf, IntKind.min, IntKind.max, IntKind.signed, IntKind.bits] at h
 omega
theorem next_tells (l : List Int) (hl : ∀ x ∈ l, (Lit.int .u8 x).wf = true) (a s : Int) (ha : 0 ≤ a ∧ a ≤ 1000) : ∃ v s', spec_l00Src_next.f l a s = some (v, a + 1, s') ∧ 0 ≤ v ∧ v ≤ 255 := by
 unfold spec_l00Src_next.f
 rw [w64 (x := a + 1) (by omega) (by omega)]
 have big : ∀ y : Int, ∃ r : Nat, Go.bits .and .u64 (IntKind.u64.wrap y / 1099511627776) 255 = (r : Int) ∧ r ≤ 255 := by
  intro y
  have b := u64_bd y
  obtain ⟨n, hn⟩ := Int.eq_ofNat_of_zero_le (show 0 ≤ IntKind.u64.wrap y / 1099511627776 by omega)
  rw [hn]
  exact and_255 n (by omega)
 by_cases h : a < (l.length : Int)
 ·rw [if_pos h, if_pos ha.1, if_pos (by omega)]
  have hlt : a.toNat < l.length := by omega
  have hv : rd l a = l[a.toNat] := by
   have := rd_nat hlt
   rwa [Int.toNat_of_nonneg ha.1] at this
  have b := u8_bd (hl _ (List.getElem_mem hlt))
  rw [hv, w64 (x := l[a.toNat]) (by omega) (by omega)]
  exact ⟨_, _, rfl, b.1, b.2⟩
 ·rw [if_neg h]
  split
  ·exact ⟨_, _, rfl, by omega, by omega⟩
  ·obtain ⟨r, hr, hr'⟩ := big (IntKind.u64.wrap (IntKind.u64.wrap (s * 6364136223846793005)) + 1442695040888963407)
   rw [hr, w64 (x := (r : Int)) (by omega) (by omega)]
   exact ⟨_, _, rfl, by omega, by omega⟩
theorem pick2_tells (l : List Int) (hl : ∀ x ∈ l, (Lit.int .u8 x).wf = true) (a s n : Int) (ha : 0 ≤ a ∧ a ≤ 999) (hn : 1 ≤ n ∧ n ≤ 1000) : ∃ v a' s', spec_l00Src_pick.f l a s n = some (v, a', s') ∧ 0 ≤ v ∧ v < n ∧ 0 ≤ a' ∧ a' ≤ a + 2 := by
 unfold spec_l00Src_pick.f
 by_cases h : n ≤ 1
 ·rw [if_pos h]
  exact ⟨_, _, _, rfl, by omega, by omega, by omega, by omega⟩
 ·obtain ⟨v, s', e, h0, h1⟩ := next_tells l hl a s (by omega)
  rw [if_neg h, e, Option.bind_some]
  by_cases h2 : n > 200
  ·obtain ⟨v2, s2, e2, g0, g1⟩ := next_tells l hl (a + 1) s' (by omega)
   rw [if_pos h2]
   simp only
   rw [e2, Option.bind_some, if_neg (by omega)]
   simp only
   rw [w64 (x := v * 256) (by omega) (by omega), w64 (x := v * 256 + v2) (by omega) (by omega), tmod_nn (by omega)]
   have := Int.emod_nonneg (v * 256 + v2) (show n ≠ 0 by omega)
   have := Int.emod_lt_of_pos (v * 256 + v2) (show 0 < n by omega)
   exact ⟨(v * 256 + v2) % n, a + 1 + 1, s2, rfl, by omega, by omega, by omega, by omega⟩
  ·rw [if_neg h2, if_neg (by omega), tmod_nn h0]
   have := Int.emod_nonneg v (show n ≠ 0 by omega)
   have := Int.emod_lt_of_pos v (show 0 < n by omega)
   exact ⟨v % n, a + 1, s', rfl, by omega, by omega, by omega, by omega⟩
end Go.Proofs.YtcnbhfefhmmgjaaDoor.Com
namespace Go.Proofs.YtcnbhfefhmmgjaaDoor.Com
set_option linter.unusedSimpArgs false
set_option linter.unusedVariables false
set_option linter.unusedSectionVars false
open Go.RowKit Go.Proofs.YtcnbhfefhmmgjaaDoorW.PrintWords Go.Proofs.YtcnbhfefhmmgjaaDoorW.PrintMore Go.Proofs.YtcnbhfefhmmgjaaDoor.Q
def Gd (r : ByteArray) (n : Nat) : Prop := Cln r.data.toList ∧ r.size ≤ n
theorem Gd.app {a b : ByteArray} {n m : Nat} (h : Gd a n) (g : Gd b m) : Gd (a ++ b) (n + m) := by
 refine ⟨fun x hx => ?_, by rw [ByteArray.size_append]; have := h.2; have := g.2; omega⟩
 rw [ByteArray.data_append, Array.toList_append] at hx
 rcases List.mem_append.1 hx with hx | hx
 ·exact h.1 x hx
 ·exact g.1 x hx
theorem Gd.le {a : ByteArray} {n m : Nat} (h : Gd a n) (e : n ≤ m) : Gd a m := ⟨h.1, Nat.le_trans h.2 e⟩
theorem Gd.lit (xs : Array UInt8) (n : Nat) (h : (xs.toList.all (fun b => b != 10) && decide (xs.size ≤ n)) = true) : Gd ⟨xs⟩ n := by
 rw [Bool.and_eq_true, List.all_eq_true, decide_eq_true_eq] at h
 exact ⟨fun b hb => by have := h.1 b hb; simpa using this, h.2⟩
theorem gd_char (j : Int) (h : 0 ≤ j ∧ j ≤ 9) : Gd (strOfNums [(wrap64 (48 + j)) % 256]) 1 := by
 rw [w64 (by omega) (by omega), str_bytes]
 refine ⟨fun b hb => ?_, by simp [bytesOf, ByteArray.size]⟩
 simp only [bytesOf, List.map_cons, List.map_nil, List.mem_singleton] at hb
 rw [hb]
 rintro e
 have := congrArg UInt8.toNat e
 rw [UInt8.toNat_ofNat'] at this
 simp at this
 omega
theorem tmod_sign (x : Int) : (0 ≤ x → 0 ≤ Int.tmod x 10) ∧ (x ≤ 0 → Int.tmod x 10 ≤ 0) := by
 refine ⟨fun h => Int.tmod_nonneg 10 h, fun h => ?_⟩
 have h1 := Int.tmod_nonneg 10 (show 0 ≤ -x by omega)
 rw [Int.neg_tmod] at h1
 omega
theorem dec_gd : ∀ (d : Nat) (x4 x0 : Int) (s : ByteArray) (m : Nat), -(10 ^ (d + 1) : Int) < x4 → x4 < (10 ^ (d + 1) : Int) → d ≤ 5 → Gd s m → m + d ≤ 100 → ∃ r, Ev (fun k => spec_l01Dec.l0 k x0 s x4) r ∧ Gd r (m + d + 2) := by
 intro d
 induction d with
 | zero =>
  intro x4 x0 s m h1 h2 hd hs hm
  have h1' : -10 < x4 := by simpa using h1
  have h2' : x4 < 10 := by simpa using h2
  have q1 := Int.tmod_lt_of_pos x4 (show (0 : Int) < 10 by omega)
  have q2 := Int.lt_tmod_of_pos x4 (show (0 : Int) < 10 by omega)
  have q3 := Int.mul_tdiv_add_tmod x4 10
  have q4 := tmod_sign x4
  have hz : wrap64 (Int.tdiv x4 10) = 0 := by rw [w64 (by omega) (by omega)]; omega
  have hss := hs.2
  by_cases c : Int.tmod x4 10 < 0
  ·have hc := gd_char (-(Int.tmod x4 10)) (by omega)
   have hcs := (hc.app hs).2
   rw [ByteArray.size_append] at hcs
   have hw : wrap64 (-(Int.tmod x4 10)) = -(Int.tmod x4 10) := w64 (by omega) (by omega)
   by_cases n : x0 < 0
   ·refine ⟨_, Ev.step (fun k => by rw [spec_l01Dec.l0]) ?_, ((Gd.lit #[45] 1 (by decide)).app (hc.app hs)).le (by omega)⟩
    simp only [if_pos c, Option.bind_some, hw, if_pos (show (strOfNums [wrap64 (48 + -Int.tmod x4 10) % 256]).size + s.size ≤ 9223372036854775807 by omega), if_pos hz, if_pos n, if_pos (show 1 + (strOfNums [wrap64 (48 + -Int.tmod x4 10) % 256] ++ s).size ≤ 9223372036854775807 by rw [ByteArray.size_append]; omega)]
    exact Ev.now _
   ·refine ⟨_, Ev.step (fun k => by rw [spec_l01Dec.l0]) ?_, (hc.app hs).le (by omega)⟩
    simp only [if_pos c, Option.bind_some, hw, if_pos (show (strOfNums [wrap64 (48 + -Int.tmod x4 10) % 256]).size + s.size ≤ 9223372036854775807 by omega), if_pos hz, if_neg n]
    exact Ev.now _
  ·have hc := gd_char (Int.tmod x4 10) (by omega)
   have hcs := (hc.app hs).2
   rw [ByteArray.size_append] at hcs
   by_cases n : x0 < 0
   ·refine ⟨_, Ev.step (fun k => by rw [spec_l01Dec.l0]) ?_, ((Gd.lit #[45] 1 (by decide)).app (hc.app hs)).le (by omega)⟩
    simp only [if_neg c, Option.bind_some, if_pos (show (strOfNums [wrap64 (48 + Int.tmod x4 10) % 256]).size + s.size ≤ 9223372036854775807 by omega), if_pos hz, if_pos n, if_pos (show 1 + (strOfNums [wrap64 (48 + Int.tmod x4 10) % 256] ++ s).size ≤ 9223372036854775807 by rw [ByteArray.size_append]; omega)]
    exact Ev.now _
   ·refine ⟨_, Ev.step (fun k => by rw [spec_l01Dec.l0]) ?_, (hc.app hs).le (by omega)⟩
    simp only [if_neg c, Option.bind_some, if_pos (show (strOfNums [wrap64 (48 + Int.tmod x4 10) % 256]).size + s.size ≤ 9223372036854775807 by omega), if_pos hz, if_neg n]
    exact Ev.now _
 | succ d ih =>
  intro x4 x0 s m h1 h2 hd hs hm
  by_cases small : -(10 ^ (d + 1) : Int) < x4 ∧ x4 < (10 ^ (d + 1) : Int)
  ·obtain ⟨r, e, g⟩ := ih x4 x0 s m small.1 small.2 (by omega) hs (by omega)
   exact ⟨r, e, g.le (by omega)⟩
  have hP : (10 ^ (d + 1 + 1) : Int) = 10 * 10 ^ (d + 1) := by rw [Int.pow_succ, Int.mul_comm]
  have hP0 : (10 : Int) ≤ 10 ^ (d + 1) := by
   have : (1 : Int) ≤ 10 ^ d := Int.pow_pos (by omega)
   rw [Int.pow_succ]
   omega
  have hP1 : (10 ^ (d + 1) : Int) ≤ 1000000 := by
   have : ∀ q : Fin 6, (10 ^ (q.val + 1) : Int) ≤ 1000000 := by decide
   exact this ⟨d, by omega⟩
  rw [hP] at h1 h2
  generalize (10 ^ (d + 1) : Int) = P at *
  have q1 := Int.tmod_lt_of_pos x4 (show (0 : Int) < 10 by omega)
  have q2 := Int.lt_tmod_of_pos x4 (show (0 : Int) < 10 by omega)
  have q3 := Int.mul_tdiv_add_tmod x4 10
  have q4 := tmod_sign x4
  have hw0 : wrap64 (Int.tdiv x4 10) = Int.tdiv x4 10 := w64 (by omega) (by omega)
  have hz : ¬ Int.tdiv x4 10 = 0 := by omega
  have hss := hs.2
  by_cases c : Int.tmod x4 10 < 0
  ·have hc := gd_char (-(Int.tmod x4 10)) (by omega)
   have hcs := (hc.app hs).2
   rw [ByteArray.size_append] at hcs
   have hw : wrap64 (-(Int.tmod x4 10)) = -(Int.tmod x4 10) := w64 (by omega) (by omega)
   obtain ⟨r, e, g⟩ := ih (Int.tdiv x4 10) x0 _ (1 + m) (by omega) (by omega) (by omega) (hc.app hs) (by omega)
   refine ⟨r, Ev.step (fun k => by rw [spec_l01Dec.l0]) ?_, g.le (by omega)⟩
   simp only [if_pos c, Option.bind_some, hw, if_pos (show (strOfNums [wrap64 (48 + -Int.tmod x4 10) % 256]).size + s.size ≤ 9223372036854775807 by omega), hw0, if_neg hz]
   exact e
  ·have hc := gd_char (Int.tmod x4 10) (by omega)
   have hcs := (hc.app hs).2
   rw [ByteArray.size_append] at hcs
   obtain ⟨r, e, g⟩ := ih (Int.tdiv x4 10) x0 _ (1 + m) (by omega) (by omega) (by omega) (hc.app hs) (by omega)
   refine ⟨r, Ev.step (fun k => by rw [spec_l01Dec.l0]) ?_, g.le (by omega)⟩
   simp only [if_neg c, Option.bind_some, if_pos (show (strOfNums [wrap64 (48 + Int.tmod x4 10) % 256]).size + s.size ≤ 9223372036854775807 by omega), hw0, if_neg hz]
   exact e
theorem dec4 (x : Int) (h : -9999 ≤ x ∧ x ≤ 9999) : ∃ r, Ev (fun k => spec_l01Dec.f k x) r ∧ Gd r 5 := by
 obtain ⟨r, e, g⟩ := dec_gd 3 x x (⟨#[]⟩ : ByteArray) 0 (by simp; omega) (by simp; omega) (by omega) ⟨fun b hb => by simp at hb, Nat.le_refl _⟩ (by omega)
 exact ⟨r, e, g⟩
theorem text_loop (xs : List Int) (hx : ∀ x ∈ xs, -9999 ≤ x ∧ x ≤ 9999) (hxl : xs.length ≤ 50) : ∀ (n i : Nat) (s : ByteArray) (m : Nat), i + n = xs.length → Gd s m → m + 6 * n ≤ 2000 → ∃ r, Ev (fun k => spec_l01Text.l0 k xs s (i : Int)) r ∧ Gd r (m + 6 * n)
 | 0, i, s, m, hi, hs, hm => by
  refine ⟨s, Ev.step (fun k => by rw [spec_l01Text.l0]) ?_, hs⟩
  simp only [if_neg (show ¬ (i : Int) < (xs.length : Int) by omega)]
  exact Ev.now _
 | n + 1, i, s, m, hi, hs, hm => by
  have hlt : i < xs.length := by omega
  obtain ⟨t, e, g⟩ := dec4 xs[i] (hx _ (List.getElem_mem hlt))
  have g1 := (Gd.lit #[44] 1 (by decide)).app g
  obtain ⟨r, e2, g2⟩ := text_loop xs hx hxl n (i + 1) (s ++ ((⟨#[44]⟩ : ByteArray) ++ t)) (m + 6) (by omega) (hs.app g1) (by omega)
  refine ⟨r, Ev.step (fun k => by rw [spec_l01Text.l0]) ?_, g2.le (by omega)⟩
  simp only [if_pos (show (i : Int) < (xs.length : Int) by omega), if_pos (show 0 ≤ (i : Int) by omega), rd_nat hlt]
  refine Ev.bind e ?_
  have h1 := g.2
  have h2 := g1.2
  have h3 := hs.2
  simp only [if_pos (show 1 + t.size ≤ 9223372036854775807 by omega), if_pos (show s.size + ((⟨#[44]⟩ : ByteArray) ++ t).size ≤ 9223372036854775807 by omega), w_succ (m := i) (by omega)]
  exact e2
theorem text_gd (xs : List Int) (hx : ∀ x ∈ xs, -9999 ≤ x ∧ x ≤ 9999) (hl : xs.length ≤ 50) : ∃ r, Ev (fun k => spec_l01Text.f k xs) r ∧ Gd r (6 * xs.length + 1) := by
 unfold spec_l01Text.f
 by_cases h0 : xs.length = 0
 ·simp only [if_pos (show (xs.length : Int) = 0 by omega)]
  exact ⟨_, Ev.now _, (Gd.lit #[45] 1 (by decide)).le (by omega)⟩
 ·simp only [if_neg (show ¬ (xs.length : Int) = 0 by omega), if_pos (show 0 < (xs.length : Int) by omega)]
  have hlt : 0 < xs.length := by omega
  obtain ⟨t, e, g⟩ := dec4 xs[0] (hx _ (List.getElem_mem hlt))
  obtain ⟨r, e2, g2⟩ := text_loop xs hx hl (xs.length - 1) 1 t 5 (by omega) g (by omega)
  refine ⟨r, Ev.bind (show Ev (fun k => spec_l01Dec.f k (rd xs 0)) t by have h := rd_nat (xs := xs) (m := 0) hlt; simp only [Int.natCast_zero] at h; rw [show (0 : Int) = ((0 : Nat) : Int) from rfl, rd_nat hlt]; exact e) e2, g2.le (by omega)⟩
theorem vtext_gd (d : Int) (xs : List Int) (hd : -9999 ≤ d ∧ d ≤ 9999) (hx : ∀ x ∈ xs, -9999 ≤ x ∧ x ≤ 9999) (hl : xs.length ≤ 50) : ∃ r, Ev (fun k => spec_l01VText.f k d xs) r ∧ Gd r (6 * xs.length + 7) := by
 unfold spec_l01VText.f
 obtain ⟨t, e, g⟩ := dec4 d hd
 obtain ⟨u, e2, g2⟩ := text_gd xs hx hl
 have h1 := g.2
 have h2 := g2.2
 have g3 := g.app (Gd.lit #[58] 1 (by decide))
 have h3 := g3.2
 refine ⟨_, Ev.bind e ?_, (g3.app g2).le (by omega)⟩
 simp only [if_pos (show t.size + 1 ≤ 9223372036854775807 by omega)]
 refine Ev.bind e2 ?_
 simp only [if_pos (show (t ++ (⟨#[58]⟩ : ByteArray)).size + u.size ≤ 9223372036854775807 by omega)]
 exact Ev.now _
section
variable (l : List Int) (hl : ∀ x ∈ l, (Lit.int .u8 x).wf = true)
include hl
theorem one3 (a s n : Int) (ha : 0 ≤ a ∧ a ≤ 999) (hn : 1 ≤ n ∧ n ≤ 1000) : ∃ v a' s', spec_l00Src_one.f l a s n = some (v, a', s') ∧ 0 ≤ a' ∧ a' ≤ a + 2 := by
 obtain ⟨v, a', s', e, _, _, h1, h2⟩ := pick2_tells l hl a s n ha hn
 unfold spec_l00Src_one.f
 rw [e]
 exact ⟨_, _, _, rfl, h1, h2⟩
theorem text3 (a s : Int) (xs : List ByteArray) (ha : 0 ≤ a ∧ a ≤ 999) (hn : 1 ≤ xs.length ∧ xs.length ≤ 1000) : ∃ v a' s', spec_l00Src_text.f l a s xs = some (v, a', s') ∧ v ∈ xs ∧ 0 ≤ a' ∧ a' ≤ a + 2 := by
 obtain ⟨v, a', s', e, v0, v1, h1, h2⟩ := pick2_tells l hl a s (xs.length : Int) ha (by omega)
 unfold spec_l00Src_text.f
 rw [e]
 simp only [Option.bind_some, if_pos v0, if_pos v1]
 refine ⟨_, _, _, rfl, ?_, h1, h2⟩
 unfold rdOf
 rw [List.getD_eq_getElem?_getD, List.getElem?_eq_getElem (show v.toNat < xs.length by omega)]
 exact List.getElem_mem _
theorem among3 (a s : Int) (xs : List Int) (ha : 0 ≤ a ∧ a ≤ 999) (hn : 1 ≤ xs.length ∧ xs.length ≤ 1000) : ∃ v a' s', spec_l00Src_among.f l a s xs = some (v, a', s') ∧ v ∈ xs ∧ 0 ≤ a' ∧ a' ≤ a + 2 := by
 obtain ⟨v, a', s', e, v0, v1, h1, h2⟩ := pick2_tells l hl a s (xs.length : Int) ha (by omega)
 unfold spec_l00Src_among.f
 rw [e]
 simp only [Option.bind_some, if_pos v0, if_pos v1]
 refine ⟨_, _, _, rfl, ?_, h1, h2⟩
 unfold rd
 rw [List.getD_eq_getElem?_getD, List.getElem?_eq_getElem (show v.toNat < xs.length by omega)]
 exact List.getElem_mem _
theorem drawV_loop (low : Int) (hlow : 0 ≤ low ∧ low ≤ 20) (d : Int) : ∀ (n : Nat) (a s : Int) (ys : List Int), (0 ≤ a ∧ a + 2 * n ≤ 990) → ys.length + n ≤ 40 → (∀ y ∈ ys, -9999 ≤ y ∧ y ≤ 9999) →
  ∃ zs a' s', Ev (fun k => spec_l01DrawOk.l0 k low (n : Int) l a s d ys) (d, zs, a', s') ∧ zs.length ≤ 40 ∧ (∀ y ∈ zs, -9999 ≤ y ∧ y ≤ 9999) ∧ 0 ≤ a' ∧ a' ≤ a + 2 * n
 | 0, a, s, ys, ha, hy, hv => by
  refine ⟨ys, a, s, Ev.step (fun k => by rw [spec_l01DrawOk.l0]) ?_, by omega, hv, by omega, by omega⟩
  simp only [if_neg (show ¬ ((0 : Nat) : Int) > 0 by omega)]
  exact Ev.now _
 | n + 1, a, s, ys, ha, hy, hv => by
  obtain ⟨v, a1, s1, e, v0, v1, h1, h2⟩ := pick2_tells l hl a s 40 (by omega) (by omega)
  obtain ⟨zs, a', s', e2, z1, z2, z3, z4⟩ := drawV_loop low hlow d n a1 s1 (ys ++ [v - low]) (by omega) (by simp; omega) (fun y hy => by
   rcases List.mem_append.1 hy with hy | hy
   ·exact hv y hy
   ·rw [List.mem_singleton.1 hy]; omega)
  refine ⟨zs, a', s', Ev.step (fun k => by rw [spec_l01DrawOk.l0]) ?_, z1, z2, z3, by omega⟩
  simp only [if_pos (show ((n + 1 : Nat) : Int) > 0 by omega)]
  refine ev_bind' e ?_
  simp only [if_pos (show ys.length < 17592186044416 by omega)]
  rw [w64 (x := v - low) (by omega) (by omega), w64 (x := ((n + 1 : Nat) : Int) - 1) (by omega) (by omega), show ((n + 1 : Nat) : Int) - 1 = (n : Int) by omega]
  exact e2
theorem drawV (a s : Int) (ha : 0 ≤ a ∧ a ≤ 800) : ∃ d zs a' s', Ev (fun k => spec_l01DrawOk.f k l a s) (d, zs, a', s') ∧ (1 ≤ d ∧ d ≤ 12) ∧ zs.length ≤ 40 ∧ (∀ y ∈ zs, -9999 ≤ y ∧ y ≤ 9999) ∧ 0 ≤ a' ∧ a' ≤ a + 88 := by
 obtain ⟨v, a1, s1, e1, v0, v1, h1, h2⟩ := pick2_tells l hl a s 12 (by omega) (by omega)
 obtain ⟨b, a2, s2, e2, h3, h4⟩ := one3 l hl a1 s1 6 (by omega) (by omega)
 have tail : ∀ low : Int, (0 ≤ low ∧ low ≤ 20) → ∃ zs a' s', Ev (fun k => spec_l01DrawOk.j0 k low l a2 s2 (1 + v) []) (1 + v, zs, a', s') ∧ zs.length ≤ 40 ∧ (∀ y ∈ zs, -9999 ≤ y ∧ y ≤ 9999) ∧ 0 ≤ a' ∧ a' ≤ a2 + 84 := by
  intro low hlow
  obtain ⟨w, a3, s3, e3, w0, w1, h5, h6⟩ := pick2_tells l hl a2 s2 8 (by omega) (by omega)
  obtain ⟨c, a4, s4, e4, h7, h8⟩ := one3 l hl a3 s3 24 (by omega) (by omega)
  have fin : ∀ n : Nat, n ≤ 40 → ∃ zs a' s', Ev (fun k => spec_l01DrawOk.j1 k low (n : Int) l a4 s4 (1 + v) []) (1 + v, zs, a', s') ∧ zs.length ≤ 40 ∧ (∀ y ∈ zs, -9999 ≤ y ∧ y ≤ 9999) ∧ 0 ≤ a' ∧ a' ≤ a4 + 80 := by
   intro n hn
   obtain ⟨zs, a', s', e, z1, z2, z3, z4⟩ := drawV_loop l hl low hlow (1 + v) n a4 s4 [] (by omega) (by simp; omega) (fun y hy => by simp at hy)
   exact ⟨zs, a', s', Ev.step (fun k => by rw [spec_l01DrawOk.j1]) e, z1, z2, z3, by omega⟩
  cases c with
  | true =>
   obtain ⟨zs, a', s', e, z1, z2, z3, z4⟩ := fin 40 (by omega)
   refine ⟨zs, a', s', Ev.step (fun k => by rw [spec_l01DrawOk.j0]) (ev_bind' e3 (ev_bind' e4 ?_)), z1, z2, z3, by omega⟩
   simp only [if_true]
   exact e
  | false =>
   obtain ⟨zs, a', s', e, z1, z2, z3, z4⟩ := fin w.toNat (by omega)
   refine ⟨zs, a', s', Ev.step (fun k => by rw [spec_l01DrawOk.j0]) (ev_bind' e3 (ev_bind' e4 ?_)), z1, z2, z3, by omega⟩
   simp only [Bool.false_eq_true, if_false]
   rw [show ((w.toNat : Nat) : Int) = w by omega] at e
   exact e
 unfold spec_l01DrawOk.f
 cases b with
 | true =>
  obtain ⟨zs, a', s', e, z1, z2, z3, z4⟩ := tail 20 (by omega)
  refine ⟨1 + v, zs, a', s', ev_bind' e1 (ev_bind' rfl (ev_bind' e2 ?_)), by omega, z1, z2, z3, by omega⟩
  simp only [if_true]
  rw [w64 (x := 1 + v) (by omega) (by omega)]
  exact e
 | false =>
  obtain ⟨zs, a', s', e, z1, z2, z3, z4⟩ := tail 0 (by omega)
  refine ⟨1 + v, zs, a', s', ev_bind' e1 (ev_bind' rfl (ev_bind' e2 ?_)), by omega, z1, z2, z3, by omega⟩
  simp only [Bool.false_eq_true, if_false]
  rw [w64 (x := 1 + v) (by omega) (by omega)]
  exact e
end
end Go.Proofs.YtcnbhfefhmmgjaaDoor.Com
namespace Go.Proofs.YtcnbhfefhmmgjaaDoor.Com
set_option linter.unusedSimpArgs false
set_option linter.unusedVariables false
set_option linter.unusedSectionVars false
open Go.RowKit Go.Proofs.YtcnbhfefhmmgjaaDoorW.PrintWords Go.Proofs.YtcnbhfefhmmgjaaDoorW.PrintMore Go.Proofs.YtcnbhfefhmmgjaaDoor.Q
def Tb (T : List (List Int)) : Prop := T.length ≤ 5 ∧ ∀ r ∈ T, r.length ≤ 5 ∧ ∀ y ∈ r, -9999 ≤ y ∧ y ≤ 9999
theorem tb_text (T : List (List Int)) (hT : Tb T) (d : Int) : ∀ (n i : Nat) (s : ByteArray) (m : Nat), i + n = T.length → Gd s m → m + 32 * n ≤ 2000 → ∃ r, Ev (fun k => spec_l05Text.l0 k s (i : Int) d T) r ∧ Gd r (m + 32 * n)
 | 0, i, s, m, hi, hs, hm => by
  refine ⟨s, Ev.step (fun k => by rw [spec_l05Text.l0]) ?_, hs⟩
  simp only [if_neg (show ¬ (i : Int) < (T.length : Int) by omega)]
  exact Ev.now _
 | n + 1, i, s, m, hi, hs, hm => by
  have hlt : i < T.length := by omega
  have hT1 := hT.1
  obtain ⟨r1, r2⟩ := hT.2 T[i] (List.getElem_mem hlt)
  obtain ⟨t, e, g⟩ := text_gd T[i] r2 (by omega)
  have hrd : rd_L3 T (i : Int) = T[i] := by
   unfold rd_L3
   rw [Int.toNat_natCast, List.getD_eq_getElem?_getD, List.getElem?_eq_getElem hlt]; rfl
  have h1 := g.2
  have h3 := hs.2
  by_cases h0 : (i : Int) > 0
  ·have gs := hs.app (Gd.lit #[47] 1 (by decide))
   have h4 := gs.2
   obtain ⟨r, e2, g2⟩ := tb_text T hT d n (i + 1) ((s ++ (⟨#[47]⟩ : ByteArray)) ++ t) (m + 32) (by omega) ((gs.app g).le (by omega)) (by omega)
   refine ⟨r, Ev.step (fun k => by rw [spec_l05Text.l0]) ?_, g2.le (by omega)⟩
   simp only [if_pos (show (i : Int) < (T.length : Int) by omega), if_pos h0, if_pos (show s.size + 1 ≤ 9223372036854775807 by omega), if_pos (show 0 ≤ (i : Int) by omega), hrd]
   refine Ev.bind e ?_
   simp only [if_pos (show (s ++ (⟨#[47]⟩ : ByteArray)).size + t.size ≤ 9223372036854775807 by omega), w_succ (m := i) (by omega)]
   exact e2
  ·obtain ⟨r, e2, g2⟩ := tb_text T hT d n (i + 1) (s ++ t) (m + 32) (by omega) ((hs.app g).le (by omega)) (by omega)
   refine ⟨r, Ev.step (fun k => by rw [spec_l05Text.l0]) ?_, g2.le (by omega)⟩
   simp only [if_pos (show (i : Int) < (T.length : Int) by omega), if_neg h0, if_pos (show 0 ≤ (i : Int) by omega), hrd]
   refine Ev.bind e ?_
   simp only [if_pos (show s.size + t.size ≤ 9223372036854775807 by omega), w_succ (m := i) (by omega)]
   exact e2
theorem tb_whole (T : List (List Int)) (hT : Tb T) (d : Int) (hd : -9999 ≤ d ∧ d ≤ 9999) : ∃ r, Ev (fun k => spec_l05Text.f k d T) r ∧ Gd r 200 := by
 unfold spec_l05Text.f
 obtain ⟨t, e, g⟩ := dec4 d hd
 have h1 := g.2
 have hT1 := hT.1
 obtain ⟨r, e2, g2⟩ := tb_text T hT d T.length 0 (t ++ (⟨#[58]⟩ : ByteArray)) 6 (by omega) (g.app (Gd.lit #[58] 1 (by decide))) (by omega)
 refine ⟨r, Ev.bind e ?_, g2.le (by omega)⟩
 simp only [if_pos (show t.size + 1 ≤ 9223372036854775807 by omega)]
 exact e2
section
variable (l : List Int) (hl : ∀ x ∈ l, (Lit.int .u8 x).wf = true)
include hl
theorem tb_row (nn mm : Nat) (hm : mm ≤ 5) (d i : Int) (T : List (List Int)) (G : Int × List (List Int) × Int × Int → Prop)
  (rest : ∀ (r : List Int) (a s : Int), r.length ≤ 5 → (∀ y ∈ r, -9999 ≤ y ∧ y ≤ 9999) → (0 ≤ a ∧ a ≤ 980) → True) : ∀ (c j : Nat) (a s : Int) (r : List Int), j + c = mm → r.length = j → (∀ y ∈ r, -9999 ≤ y ∧ y ≤ 9999) → (0 ≤ a ∧ a + 2 * c ≤ 900) → T.length ≤ 5 →
  ∃ r' a' s', r'.length ≤ 5 ∧ (∀ y ∈ r', -9999 ≤ y ∧ y ≤ 9999) ∧ (0 ≤ a' ∧ a' ≤ a + 2 * c) ∧ ∀ X, Ev (fun k => spec_l05DrawOk.l0 k (nn : Int) (mm : Int) (wrap64 (i + 1)) l a' s' d (T ++ [r'])) X → Ev (fun k => spec_l05DrawOk.l1 k (nn : Int) (mm : Int) i r (j : Int) l a s d T) X
 | 0, j, a, s, r, hj, hr, hv, ha, hT => by
  refine ⟨r, a, s, by omega, hv, by omega, fun X h => Ev.step (fun k => by rw [spec_l05DrawOk.l1]) ?_⟩
  simp only [if_neg (show ¬ (j : Int) < (mm : Int) by omega), if_pos (show T.length < 5864062014805 by omega)]
  exact h
 | c + 1, j, a, s, r, hj, hr, hv, ha, hT => by
  obtain ⟨v, a1, s1, e, v0, v1, h1, h2⟩ := pick2_tells l hl a s 20 (by omega) (by omega)
  obtain ⟨r', a', s', x1, x2, x3, x4⟩ := tb_row nn mm hm d i T G rest c (j + 1) a1 s1 (r ++ [v]) (by omega) (by simp; omega) (fun y hy => by
   rcases List.mem_append.1 hy with hy | hy
   ·exact hv y hy
   ·rw [List.mem_singleton.1 hy]; omega) (by omega) hT
  refine ⟨r', a', s', x1, x2, by omega, fun X h => Ev.step (fun k => by rw [spec_l05DrawOk.l1]) ?_⟩
  simp only [if_pos (show (j : Int) < (mm : Int) by omega)]
  refine ev_bind' e ?_
  simp only [if_pos (show r.length < 17592186044416 by omega), w_succ (m := j) (by omega)]
  exact x4 X h
theorem tb_rows (mm : Nat) (hm : mm ≤ 5) (d : Int) (nn : Nat) (hn : nn ≤ 5) : ∀ (c i : Nat) (a s : Int) (T : List (List Int)), i + c = nn → T.length = i → Tb T → (0 ≤ a ∧ a + 10 * c ≤ 900) →
  ∃ T' a' s', Tb T' ∧ (0 ≤ a' ∧ a' ≤ a + 10 * c) ∧ Ev (fun k => spec_l05DrawOk.l0 k (nn : Int) (mm : Int) (i : Int) l a s d T) (d, T', a', s')
 | 0, i, a, s, T, hi, hT, hb, ha => by
  refine ⟨T, a, s, hb, by omega, Ev.step (fun k => by rw [spec_l05DrawOk.l0]) ?_⟩
  simp only [if_neg (show ¬ (i : Int) < (nn : Int) by omega)]
  exact Ev.now _
 | c + 1, i, a, s, T, hi, hT, hb, ha => by
  obtain ⟨r', a1, s1, x1, x2, x3, x4⟩ := tb_row l hl nn mm hm d (i : Int) T (fun _ => True) (fun _ _ _ _ _ _ => trivial) mm 0 a s [] (by omega) rfl (fun y hy => by simp at hy) (by omega) (by omega)
  obtain ⟨T', a', s', y1, y2, y3⟩ := tb_rows mm hm d nn hn c (i + 1) a1 s1 (T ++ [r']) (by omega) (by simp; omega) ⟨by simp; omega, fun r hr => by
   rcases List.mem_append.1 hr with hr | hr
   ·exact hb.2 r hr
   ·rw [List.mem_singleton.1 hr]; exact ⟨x1, x2⟩⟩ (by omega)
  refine ⟨T', a', s', y1, by omega, Ev.step (fun k => by rw [spec_l05DrawOk.l0]) ?_⟩
  simp only [if_pos (show (i : Int) < (nn : Int) by omega)]
  refine x4 _ ?_
  rw [w_succ (m := i) (by omega)]
  exact y3
theorem drawT (a s : Int) (ha : 0 ≤ a ∧ a ≤ 800) : ∃ d T a' s', Ev (fun k => spec_l05DrawOk.f k l a s) (d, T, a', s') ∧ (1 ≤ d ∧ d ≤ 12) ∧ Tb T ∧ 0 ≤ a' ∧ a' ≤ a + 60 := by
 obtain ⟨v, a1, s1, e1, v0, v1, h1, h2⟩ := pick2_tells l hl a s 6 (by omega) (by omega)
 obtain ⟨w, a2, s2, e2, w0, w1, h3, h4⟩ := pick2_tells l hl a1 s1 3 (by omega) (by omega)
 obtain ⟨x, a3, s3, e3, x0, x1, h5, h6⟩ := pick2_tells l hl a2 s2 3 (by omega) (by omega)
 obtain ⟨b, a4, s4, e4, h7, h8⟩ := one3 l hl a3 s3 10 (by omega) (by omega)
 have fin : ∀ (nn mm : Nat) (a s : Int), nn ≤ 5 → mm ≤ 5 → (0 ≤ a ∧ a ≤ 830) → ∃ T a' s', Tb T ∧ (0 ≤ a' ∧ a' ≤ a + 50) ∧ Ev (fun k => spec_l05DrawOk.j0 k (nn : Int) (mm : Int) l a s (2 + v)) (2 + v, T, a', s') := by
  intro nn mm a s hn hm ha
  obtain ⟨T, a', s', y1, y2, y3⟩ := tb_rows l hl mm hm (2 + v) nn hn nn 0 a s [] (by omega) rfl ⟨by simp, fun r hr => by simp at hr⟩ (by omega)
  exact ⟨T, a', s', y1, by omega, Ev.step (fun k => by rw [spec_l05DrawOk.j0]; rfl) y3⟩
 unfold spec_l05DrawOk.f
 have hw : wrap64 (2 + v) = 2 + v := w64 (by omega) (by omega)
 cases b with
 | true =>
  obtain ⟨y, a5, s5, e5, y0, y1, h9, h10⟩ := pick2_tells l hl a4 s4 5 (by omega) (by omega)
  obtain ⟨T, a', s', z1, z2, z3⟩ := fin 5 (1 + y).toNat a5 s5 (by omega) (by omega) (by omega)
  refine ⟨2 + v, T, a', s', ev_bind' e1 (ev_bind' e2 (ev_bind' e3 (ev_bind' e4 ?_))), by omega, z1, z2.1, by omega⟩
  simp only [if_true]
  refine ev_bind' e5 ?_
  rw [hw, w64 (x := 1 + y) (by omega) (by omega)]
  rw [show (((1 + y).toNat : Nat) : Int) = 1 + y by omega] at z3
  exact z3
 | false =>
  obtain ⟨T, a', s', z1, z2, z3⟩ := fin (1 + w).toNat (1 + x).toNat a4 s4 (by omega) (by omega) (by omega)
  refine ⟨2 + v, T, a', s', ev_bind' e1 (ev_bind' e2 (ev_bind' e3 (ev_bind' e4 ?_))), by omega, z1, z2.1, by omega⟩
  simp only [Bool.false_eq_true, if_false]
  rw [hw, w64 (x := 1 + w) (by omega) (by omega), w64 (x := 1 + x) (by omega) (by omega)]
  rw [show (((1 + w).toNat : Nat) : Int) = 1 + w by omega, show (((1 + x).toNat : Nat) : Int) = 1 + x by omega] at z3
  exact z3
theorem drawLv (a s : Int) (ha : 0 ≤ a ∧ a ≤ 900) : ∃ x y a' s', Ev (fun k => spec_l03DrawLevels.f k l a s) (x, y, a', s') ∧ (-9999 ≤ x ∧ x ≤ 9999) ∧ (-9999 ≤ y ∧ y ≤ 9999) ∧ 0 ≤ a' ∧ a' ≤ a + 12 := by
 obtain ⟨v, a1, s1, e1, v0, v1, h1, h2⟩ := pick2_tells l hl a s 4 (by omega) (by omega)
 obtain ⟨w, a2, s2, e2, w0, w1, h3, h4⟩ := pick2_tells l hl a1 s1 6 (by omega) (by omega)
 obtain ⟨b, a3, s3, e3, h5, h6⟩ := one3 l hl a2 s2 3 (by omega) (by omega)
 have tail : ∀ p q : Int, (-100 ≤ p ∧ p ≤ 100) → (-100 ≤ q ∧ q ≤ 100) → ∃ x y a' s', Ev (fun k => spec_l03DrawLevels.j0 k p q l a3 s3) (x, y, a', s') ∧ (-9999 ≤ x ∧ x ≤ 9999) ∧ (-9999 ≤ y ∧ y ≤ 9999) ∧ 0 ≤ a' ∧ a' ≤ a3 + 6 := by
  intro p q hp hq
  obtain ⟨c, a4, s4, e4, h7, h8⟩ := one3 l hl a3 s3 20 (by omega) (by omega)
  cases c with
  | true =>
   obtain ⟨x, a5, s5, e5, m1, h9, h10⟩ := among3 l hl a4 s4 [(-1001), 5, (-1000)] (by omega) (by simp)
   obtain ⟨y, a6, s6, e6, m2, h11, h12⟩ := among3 l hl a5 s5 [1000, 1001, 4] (by omega) (by simp)
   simp only [List.mem_cons, List.not_mem_nil, or_false] at m1 m2
   refine ⟨x, y, a6, s6, Ev.step (fun k => by rw [spec_l03DrawLevels.j0]) (ev_bind' e4 ?_), by omega, by omega, by omega, by omega⟩
   simp only [if_true]
   exact ev_bind' e5 (ev_bind' e6 (Ev.now _))
  | false =>
   refine ⟨p, q, a4, s4, Ev.step (fun k => by rw [spec_l03DrawLevels.j0]) (ev_bind' e4 ?_), by omega, by omega, by omega, by omega⟩
   simp only [Bool.false_eq_true, if_false]
   exact Ev.now _
 unfold spec_l03DrawLevels.f
 cases b with
 | true =>
  obtain ⟨x, y, a', s', e, z1, z2, z3, z4⟩ := tail 0 1 (by omega) (by omega)
  refine ⟨x, y, a', s', ev_bind' e1 (ev_bind' e2 (ev_bind' e3 ?_)), z1, z2, z3, by omega⟩
  simp only [if_true]
  exact e
 | false =>
  obtain ⟨x, y, a', s', e, z1, z2, z3, z4⟩ := tail (v - 2) (v - 2 + w) (by omega) (by omega)
  refine ⟨x, y, a', s', ev_bind' e1 (ev_bind' e2 (ev_bind' e3 ?_)), z1, z2, z3, by omega⟩
  simp only [Bool.false_eq_true, if_false]
  rw [w64 (x := v - 2) (by omega) (by omega), w64 (x := v - 2 + w) (by omega) (by omega)]
  exact e
abbrev LineOk (L : ByteArray) : Prop := Gd L 400
theorem line_j1 (nm : ByteArray) (hn : Gd nm 10) (a s : Int) (ha : 0 ≤ a ∧ a ≤ 700) : ∃ r a' s', Ev (fun k => spec_l11DrawLine.j1 k nm l a s) (r, a', s') ∧ LineOk r ∧ 0 ≤ a' ∧ a' ≤ a + 95 := by
 have hnn := hn.2
 obtain ⟨fr, a1, s1, e1, m1, h1, h2⟩ := text3 l hl a s [(⟨#[97]⟩ : ByteArray), (⟨#[98]⟩ : ByteArray), (⟨#[110, 101, 119]⟩ : ByteArray), (⟨#[120]⟩ : ByteArray), (⟨#[118, 111, 116, 101, 115]⟩ : ByteArray), (⟨#[81]⟩ : ByteArray)] (by omega) (by simp)
 have hf : Gd fr 5 := by
  simp only [List.mem_cons, List.not_mem_nil, or_false] at m1
  rcases m1 with rfl | rfl | rfl | rfl | rfl | rfl <;> exact Gd.lit _ _ (by decide)
 have hff := hf.2
 obtain ⟨p, a2, s2, e2, p0, p1, h3, h4⟩ := pick2_tells l hl a1 s1 7 (by omega) (by omega)
 by_cases c0 : p = 0
 ·obtain ⟨t, a3, s3, e3, m3, h5, h6⟩ := text3 l hl a2 s2 [(⟨#[]⟩ : ByteArray), (⟨#[119, 104, 97, 116]⟩ : ByteArray), (⟨#[115, 101, 116]⟩ : ByteArray), (⟨#[115, 101, 116, 32, 97]⟩ : ByteArray), (⟨#[115, 101, 116, 32, 97, 32, 52, 58]⟩ : ByteArray), (⟨#[116, 97, 98, 108, 101]⟩ : ByteArray), (⟨#[116, 97, 98, 108, 101, 32, 50, 58]⟩ : ByteArray), (⟨#[119, 111, 114, 100, 32, 49, 32, 50]⟩ : ByteArray), (⟨#[119, 111, 114, 100, 32, 51, 32, 50, 32, 53]⟩ : ByteArray), (⟨#[108, 101, 97, 112, 115, 32, 50, 32, 120]⟩ : ByteArray), (⟨#[102, 101, 101, 100, 32, 97, 32, 49, 32, 48]⟩ : ByteArray), (⟨#[110, 101, 97, 114, 32, 32, 97]⟩ : ByteArray), (⟨#[98, 101, 115, 116]⟩ : ByteArray), (⟨#[100, 114, 111, 112]⟩ : ByteArray)] (by omega) (by simp)
  have ht : Gd t 400 := by
   simp only [List.mem_cons, List.not_mem_nil, or_false] at m3
   rcases m3 with rfl | rfl | rfl | rfl | rfl | rfl | rfl | rfl | rfl | rfl | rfl | rfl | rfl | rfl <;> exact Gd.lit _ _ (by decide)
  refine ⟨t, a3, s3, Ev.step (fun k => by rw [spec_l11DrawLine.j1]) (ev_bind' e1 (ev_bind' e2 ?_)), ht, by omega, by omega⟩
  simp only [if_pos c0]
  exact ev_bind' e3 (Ev.now _)
 by_cases c1 : p = 1
 ·obtain ⟨d, zs, a3, s3, e3, d1, z1, z2, h5, h6⟩ := drawV l hl a2 s2 (by omega)
  obtain ⟨t, e4, g4⟩ := vtext_gd d zs (by omega) z2 (by omega)
  have w1 := (Gd.lit #[115, 101, 116, 32] 4 (by decide)).app hf
  have w2 := w1.app (Gd.lit #[32] 1 (by decide))
  have k1 := w1.2
  have k2 := w2.2
  have k3 := g4.2
  refine ⟨_, a3, s3, Ev.step (fun k => by rw [spec_l11DrawLine.j1]) (ev_bind' e1 (ev_bind' e2 ?_)), (w2.app g4).le (by omega), by omega, by omega⟩
  simp only [if_neg c0, if_pos c1]
  refine Ev.bind e3 ?_
  simp only [if_pos (show 4 + fr.size ≤ 9223372036854775807 by omega), if_pos (show ((⟨#[115, 101, 116, 32]⟩ : ByteArray) ++ fr).size + 1 ≤ 9223372036854775807 by omega)]
  refine Ev.bind e4 ?_
  simp only [if_pos (show (((⟨#[115, 101, 116, 32]⟩ : ByteArray) ++ fr) ++ (⟨#[32]⟩ : ByteArray)).size + t.size ≤ 9223372036854775807 by omega)]
  exact Ev.now _
 by_cases c2 : p = 2
 ·obtain ⟨d, T, a3, s3, e3, d1, hT, h5, h6⟩ := drawT l hl a2 s2 (by omega)
  obtain ⟨t, e4, g4⟩ := tb_whole T hT d (by omega)
  have k3 := g4.2
  refine ⟨_, a3, s3, Ev.step (fun k => by rw [spec_l11DrawLine.j1]) (ev_bind' e1 (ev_bind' e2 ?_)), ((Gd.lit #[116, 97, 98, 108, 101, 32] 6 (by decide)).app g4).le (by omega), by omega, by omega⟩
  simp only [if_neg c0, if_neg c1, if_pos c2]
  refine Ev.bind e3 (Ev.bind e4 ?_)
  simp only [if_pos (show 6 + t.size ≤ 9223372036854775807 by omega)]
  exact Ev.now _
 by_cases c3 : p = 3
 ·obtain ⟨x, a3, s3, e3, x0, x1, h5, h6⟩ := pick2_tells l hl a2 s2 9 (by omega) (by omega)
  obtain ⟨y, a4, s4, e4, y0, y1, h7, h8⟩ := pick2_tells l hl a3 s3 (1 + x + 1) (by omega) (by omega)
  obtain ⟨t, e5, g5⟩ := dec4 y (by omega)
  obtain ⟨u, e6, g6⟩ := dec4 (1 + x) (by omega)
  obtain ⟨z, a5, s5, e7, z0, z1, h9, h10⟩ := pick2_tells l hl a4 s4 20 (by omega) (by omega)
  obtain ⟨v, e8, g8⟩ := dec4 z (by omega)
  have w1 := (Gd.lit #[119, 111, 114, 100, 32] 5 (by decide)).app g5
  have w2 := w1.app (Gd.lit #[32] 1 (by decide))
  have w3 := w2.app g6
  have w4 := w3.app (Gd.lit #[32] 1 (by decide))
  have k0 := g5.2
  have k1 := w1.2
  have k2 := w2.2
  have k3 := w3.2
  have k4 := w4.2
  have k5 := g6.2
  have k6 := g8.2
  refine ⟨_, a5, s5, Ev.step (fun k => by rw [spec_l11DrawLine.j1]) (ev_bind' e1 (ev_bind' e2 ?_)), (w4.app g8).le (by omega), by omega, by omega⟩
  simp only [if_neg c0, if_neg c1, if_neg c2, if_pos c3]
  refine ev_bind' e3 ?_
  simp only [w64 (x := 1 + x) (by omega) (by omega), w64 (x := 1 + x + 1) (by omega) (by omega)]
  refine ev_bind' e4 (Ev.bind e5 ?_)
  simp only [if_pos (show 5 + t.size ≤ 9223372036854775807 by omega), if_pos (show ((⟨#[119, 111, 114, 100, 32]⟩ : ByteArray) ++ t).size + 1 ≤ 9223372036854775807 by omega)]
  refine Ev.bind e6 ?_
  simp only [if_pos (show (((⟨#[119, 111, 114, 100, 32]⟩ : ByteArray) ++ t) ++ (⟨#[32]⟩ : ByteArray)).size + u.size ≤ 9223372036854775807 by omega), if_pos (show ((((⟨#[119, 111, 114, 100, 32]⟩ : ByteArray) ++ t) ++ (⟨#[32]⟩ : ByteArray)) ++ u).size + 1 ≤ 9223372036854775807 by omega)]
  refine ev_bind' e7 (Ev.bind e8 ?_)
  simp only [if_pos (show (((((⟨#[119, 111, 114, 100, 32]⟩ : ByteArray) ++ t) ++ (⟨#[32]⟩ : ByteArray)) ++ u) ++ (⟨#[32]⟩ : ByteArray)).size + v.size ≤ 9223372036854775807 by omega)]
  exact Ev.now _
 by_cases c4 : p = 4
 ·obtain ⟨x, a3, s3, e3, x0, x1, h5, h6⟩ := pick2_tells l hl a2 s2 40 (by omega) (by omega)
  obtain ⟨y, a4, s4, e4, y0, y1, h7, h8⟩ := pick2_tells l hl a3 s3 (1 + x + 1) (by omega) (by omega)
  obtain ⟨t, e5, g5⟩ := dec4 y (by omega)
  obtain ⟨u, e6, g6⟩ := dec4 (1 + x) (by omega)
  have w1 := (Gd.lit #[108, 101, 97, 112, 115, 32] 6 (by decide)).app g5
  have w2 := w1.app (Gd.lit #[32] 1 (by decide))
  have k0 := g5.2
  have k1 := w1.2
  have k2 := w2.2
  have k5 := g6.2
  refine ⟨_, a4, s4, Ev.step (fun k => by rw [spec_l11DrawLine.j1]) (ev_bind' e1 (ev_bind' e2 ?_)), (w2.app g6).le (by omega), by omega, by omega⟩
  simp only [if_neg c0, if_neg c1, if_neg c2, if_neg c3, if_pos c4]
  refine ev_bind' e3 ?_
  simp only [w64 (x := 1 + x) (by omega) (by omega), w64 (x := 1 + x + 1) (by omega) (by omega)]
  refine ev_bind' e4 (Ev.bind e5 ?_)
  simp only [if_pos (show 6 + t.size ≤ 9223372036854775807 by omega), if_pos (show ((⟨#[108, 101, 97, 112, 115, 32]⟩ : ByteArray) ++ t).size + 1 ≤ 9223372036854775807 by omega)]
  refine Ev.bind e6 ?_
  simp only [if_pos (show (((⟨#[108, 101, 97, 112, 115, 32]⟩ : ByteArray) ++ t) ++ (⟨#[32]⟩ : ByteArray)).size + u.size ≤ 9223372036854775807 by omega)]
  exact Ev.now _
 by_cases c5 : p = 5
 ·obtain ⟨x, y, a3, s3, e3, x0, y0, h5, h6⟩ := drawLv l hl a2 s2 (by omega)
  obtain ⟨t, e5, g5⟩ := dec4 x x0
  obtain ⟨u, e6, g6⟩ := dec4 y y0
  have w1 := (Gd.lit #[102, 101, 101, 100, 32] 5 (by decide)).app hn
  have w2 := w1.app (Gd.lit #[32] 1 (by decide))
  have w3 := w2.app g5
  have w4 := w3.app (Gd.lit #[32] 1 (by decide))
  have k0 := g5.2
  have k1 := w1.2
  have k2 := w2.2
  have k3 := w3.2
  have k4 := w4.2
  have k5 := g6.2
  refine ⟨_, a3, s3, Ev.step (fun k => by rw [spec_l11DrawLine.j1]) (ev_bind' e1 (ev_bind' e2 ?_)), (w4.app g6).le (by omega), by omega, by omega⟩
  simp only [if_neg c0, if_neg c1, if_neg c2, if_neg c3, if_neg c4, if_pos c5]
  refine Ev.bind e3 ?_
  simp only [if_pos (show 5 + nm.size ≤ 9223372036854775807 by omega), if_pos (show ((⟨#[102, 101, 101, 100, 32]⟩ : ByteArray) ++ nm).size + 1 ≤ 9223372036854775807 by omega)]
  refine Ev.bind e5 ?_
  simp only [if_pos (show (((⟨#[102, 101, 101, 100, 32]⟩ : ByteArray) ++ nm) ++ (⟨#[32]⟩ : ByteArray)).size + t.size ≤ 9223372036854775807 by omega), if_pos (show ((((⟨#[102, 101, 101, 100, 32]⟩ : ByteArray) ++ nm) ++ (⟨#[32]⟩ : ByteArray)) ++ t).size + 1 ≤ 9223372036854775807 by omega)]
  refine Ev.bind e6 ?_
  simp only [if_pos (show (((((⟨#[102, 101, 101, 100, 32]⟩ : ByteArray) ++ nm) ++ (⟨#[32]⟩ : ByteArray)) ++ t) ++ (⟨#[32]⟩ : ByteArray)).size + u.size ≤ 9223372036854775807 by omega)]
  exact Ev.now _
 obtain ⟨t, a3, s3, e3, m3, h5, h6⟩ := text3 l hl a2 s2 [(⟨#[115, 104, 111, 119, 32]⟩ : ByteArray), (⟨#[110, 101, 97, 114, 32]⟩ : ByteArray), (⟨#[114, 117, 110, 32]⟩ : ByteArray), (⟨#[98, 101, 115, 116, 32]⟩ : ByteArray), (⟨#[100, 114, 111, 112, 32]⟩ : ByteArray), (⟨#[114, 117, 110, 32]⟩ : ByteArray), (⟨#[98, 101, 115, 116, 32]⟩ : ByteArray)] (by omega) (by simp)
 have ht : Gd t 5 := by
  simp only [List.mem_cons, List.not_mem_nil, or_false] at m3
  rcases m3 with rfl | rfl | rfl | rfl | rfl | rfl | rfl <;> exact Gd.lit _ _ (by decide)
 have k0 := ht.2
 refine ⟨_, a3, s3, Ev.step (fun k => by rw [spec_l11DrawLine.j1]) (ev_bind' e1 (ev_bind' e2 ?_)), (ht.app hn).le (by omega), by omega, by omega⟩
 simp only [if_neg c0, if_neg c1, if_neg c2, if_neg c3, if_neg c4, if_neg c5]
 refine ev_bind' e3 ?_
 simp only [if_pos (show t.size + nm.size ≤ 9223372036854775807 by omega)]
 exact Ev.now _
theorem line_ev (ns : List ByteArray) (hns : ∀ x ∈ ns, Gd x 10) (hnl : ns.length ≤ 1000) (K : List S77) (a s : Int) (ha : 0 ≤ a ∧ a ≤ 690) : ∃ r a' s', Ev (fun k => spec_l11DrawLine.f k l a s ns K) (r, a', s') ∧ LineOk r ∧ 0 ≤ a' ∧ a' ≤ a + 101 := by
 obtain ⟨fr, a1, s1, e1, m1, h1, h2⟩ := text3 l hl a s [(⟨#[97]⟩ : ByteArray), (⟨#[98]⟩ : ByteArray), (⟨#[110, 105, 120]⟩ : ByteArray), (⟨#[]⟩ : ByteArray)] (by omega) (by simp)
 have hf : Gd fr 10 := by
  simp only [List.mem_cons, List.not_mem_nil, or_false] at m1
  rcases m1 with rfl | rfl | rfl | rfl <;> exact Gd.lit _ _ (by decide)
 unfold spec_l11DrawLine.f
 by_cases h0 : (ns.length : Int) > 0
 ·obtain ⟨b, a2, s2, e2, h3, h4⟩ := one3 l hl a1 s1 6 (by omega) (by omega)
  cases b with
  | true =>
   obtain ⟨r, a', s', e, g, x1, x2⟩ := line_j1 l hl fr hf a2 s2 (by omega)
   refine ⟨r, a', s', ev_bind' e1 ?_, g, x1, by omega⟩
   simp only [if_pos h0]
   refine ev_bind' e2 (Ev.step (fun k => by rw [spec_l11DrawLine.j0]) ?_)
   simp only [Bool.not_true, Bool.false_eq_true, if_false]
   exact e
  | false =>
   obtain ⟨nm, a3, s3, e3, m3, h5, h6⟩ := text3 l hl a2 s2 ns (by omega) (by omega)
   obtain ⟨r, a', s', e, g, x1, x2⟩ := line_j1 l hl nm (hns nm m3) a3 s3 (by omega)
   refine ⟨r, a', s', ev_bind' e1 ?_, g, x1, by omega⟩
   simp only [if_pos h0]
   refine ev_bind' e2 (Ev.step (fun k => by rw [spec_l11DrawLine.j0]) ?_)
   simp only [Bool.not_false, if_true]
   exact ev_bind' e3 e
 ·obtain ⟨r, a', s', e, g, x1, x2⟩ := line_j1 l hl fr hf a1 s1 (by omega)
  refine ⟨r, a', s', ev_bind' e1 ?_, g, x1, by omega⟩
  simp only [if_neg h0]
  refine Ev.step (fun k => by rw [spec_l11DrawLine.j0]) ?_
  simp only [Bool.false_eq_true, if_false]
  exact e
theorem lines_loop (ns : List ByteArray) (hns : ∀ x ∈ ns, Gd x 10) (hnl : ns.length ≤ 1000) (K : List S77) : ∀ (n : Nat) (out : List ByteArray) (a s : Int), out.length + n ≤ 6 → (∀ x ∈ out, LineOk x) → (0 ≤ a ∧ a + 101 * n ≤ 700) →
  ∃ ls, Ev (fun k => spec_B10Lines.l0 k out (n : Int) ns K l a s) ls ∧ ls.length ≤ 6 ∧ ∀ x ∈ ls, LineOk x
 | 0, out, a, s, ho, hx, ha => by
  refine ⟨out, Ev.step (fun k => by rw [spec_B10Lines.l0]) ?_, by omega, hx⟩
  simp only [if_neg (show ¬ ((0 : Nat) : Int) > 0 by omega)]
  exact Ev.now _
 | n + 1, out, a, s, ho, hx, ha => by
  obtain ⟨r, a1, s1, e, g, x1, x2⟩ := line_ev l hl ns hns hnl K a s (by omega)
  obtain ⟨ls, e2, y1, y2⟩ := lines_loop ns hns hnl K n (out ++ [r]) a1 s1 (by simp; omega) (fun x hx2 => by
   rcases List.mem_append.1 hx2 with hx2 | hx2
   ·exact hx x hx2
   ·rw [List.mem_singleton.1 hx2]; exact g) (by omega)
  refine ⟨ls, Ev.step (fun k => by rw [spec_B10Lines.l0]) ?_, y1, y2⟩
  simp only [if_pos (show ((n + 1 : Nat) : Int) > 0 by omega)]
  refine Ev.bind e ?_
  simp only [if_pos (show out.length < 8796093022208 by omega)]
  rw [w64 (x := ((n + 1 : Nat) : Int) - 1) (by omega) (by omega), show ((n + 1 : Nat) : Int) - 1 = (n : Int) by omega]
  exact e2
theorem b10Lines_ev (ns : List ByteArray) (hns : ∀ x ∈ ns, Gd x 10) (hnl : ns.length ≤ 1000) (K : List S77) : ∃ ls, Ev (fun k => spec_B10Lines.f k l ns K) ls ∧ ls.length ≤ 6 ∧ ∀ x ∈ ls, LineOk x := by
 unfold spec_B10Lines.f
 obtain ⟨v, a1, s1, e1, v0, v1, h1, h2⟩ := pick2_tells l hl 0 0 7 (by omega) (by omega)
 obtain ⟨ls, e, y1, y2⟩ := lines_loop l hl ns hns hnl K v.toNat [] a1 s1 (by simp; omega) (fun x hx => by simp at hx) (by omega)
 rw [show ((v.toNat : Nat) : Int) = v by omega] at e
 refine ⟨ls, ev_bind' (show spec_l00From.f l = some (l, 0, 0) from rfl) (ev_bind' e1 e), y1, y2⟩
theorem isName_ev (nm : ByteArray) (h : nm ∈ dkNames) : Ev (fun k => spec_IsName.f k nm) true := by
 have hk : spec_IsName.f 12 nm = some true := by
  simp only [dkNames, List.mem_cons, List.not_mem_nil, or_false] at h
  rcases h with rfl | rfl | rfl | rfl | rfl <;> decide +kernel
 refine ⟨12, fun k hk2 => ?_⟩
 obtain ⟨d, rfl⟩ : ∃ d, k = 12 + d := ⟨k - 12, by omega⟩
 clear hk2
 induction d with
 | zero => exact hk
 | succ d ih => exact spec_IsName.mono nm (12 + d) _ ih
theorem dkSet_in {ns : List ByteArray} {nm : ByteArray} (h : ∀ x ∈ ns, x ∈ dkNames) (hn : nm ∈ dkNames) : (∀ x ∈ dkSet ns nm, x ∈ dkNames) ∧ (dkSet ns nm).length ≤ ns.length + 1 := by
 unfold dkSet
 split
 ·exact ⟨h, by omega⟩
 ·rw [dkIns_eq]
  refine ⟨fun x hx => ?_, by simp; omega⟩
  rcases List.mem_append.1 hx with hx | hx
  ·rcases List.mem_append.1 hx with hx | hx
   ·exact h x (List.mem_of_mem_take hx)
   ·rw [List.mem_singleton.1 hx]; exact hn
  ·exact h x (List.mem_of_mem_drop hx)
theorem desk_loop : ∀ (n : Nat) (ns : List ByteArray) (a s : Int), ns.length + n ≤ 4 → (∀ x ∈ ns, x ∈ dkNames) → (0 ≤ a ∧ a + 92 * n ≤ 700) → ∃ r, Ev (fun k => spec_B10Desk.l0 k ns (n : Int) l a s) r ∧ r.length ≤ 4 ∧ ∀ x ∈ r, x ∈ dkNames
 | 0, ns, a, s, hl2, hx, ha => by
  refine ⟨ns, Ev.step (fun k => by rw [spec_B10Desk.l0]) ?_, by omega, hx⟩
  simp only [if_neg (show ¬ ((0 : Nat) : Int) > 0 by omega)]
  exact Ev.now _
 | n + 1, ns, a, s, hl2, hx, ha => by
  obtain ⟨nm, a1, s1, e1, m1, h1, h2⟩ := text3 l hl a s dkNames (by omega) (by decide)
  obtain ⟨d, zs, a2, s2, e2, d1, z1, z2, h3, h4⟩ := drawV l hl a1 s1 (by omega)
  obtain ⟨i1, i2⟩ := dkSet_in l hl hx m1
  obtain ⟨r, e3, r1, r2⟩ := desk_loop n (dkSet ns nm) a2 s2 (by omega) i1 (by omega)
  refine ⟨r, Ev.step (fun k => by rw [spec_B10Desk.l0]) ?_, r1, r2⟩
  simp only [if_pos (show ((n + 1 : Nat) : Int) > 0 by omega)]
  refine ev_bind' e1 (Ev.bind e2 (Ev.bind (isName_ev l hl nm m1) ?_))
  simp only [true_and, if_pos (show ns.length ≤ 5 by omega)]
  rw [w64 (x := ((n + 1 : Nat) : Int) - 1) (by omega) (by omega), show ((n + 1 : Nat) : Int) - 1 = (n : Int) by omega]
  exact e3
theorem b10Desk_ev : ∃ ns K, Ev (fun k => spec_B10Desk.f k l) (ns, K) ∧ ns.length ≤ 4 ∧ ∀ x ∈ ns, Gd x 10 := by
 unfold spec_B10Desk.f
 obtain ⟨v, a1, s1, e1, v0, v1, h1, h2⟩ := pick2_tells l hl 0 0 4 (by omega) (by omega)
 obtain ⟨ns, e, y1, y2⟩ := desk_loop l hl v.toNat [] a1 s1 (by simp; omega) (fun x hx => by simp at hx) (by omega)
 rw [show ((v.toNat : Nat) : Int) = v by omega] at e
 refine ⟨ns, _, ev_bind' (show spec_l00From.f l = some (l, 0, 0) from rfl) (ev_bind' e1 (Ev.bind e (Ev.now _))), y1, fun x hx => ?_⟩
 have := y2 x hx
 simp only [dkNames, List.mem_cons, List.not_mem_nil, or_false] at this
 rcases this with rfl | rfl | rfl | rfl | rfl <;> exact Gd.lit _ _ (by decide)
end
end Go.Proofs.YtcnbhfefhmmgjaaDoor.Com
namespace Go.Proofs.YtcnbhfefhmmgjaaDoor.Pure
set_option linter.unusedSimpArgs false
set_option linter.unusedVariables false
set_option linter.unusedSectionVars false
open Go.RowKit Go.Proofs.YtcnbhfefhmmgjaaDoor.Q Go.Proofs.YtcnbhfefhmmgjaaDoorW.PrintWords Go.Proofs.YtcnbhfefhmmgjaaDoorW.PrintMore Go.Proofs.YtcnbhfefhmmgjaaDoor.Com Go.Proofs.YtcnbhfefhmmgjaaDoor.Box
theorem jtext_app : ∀ (a b : List ByteArray) (c : Int), jtext (a ++ b) c = jtext a c ++ jtext b (cEnd a c)
 | [], b, c => rfl
 | x :: r, b, c => by rw [List.cons_append, jtext, jtext, jtext_app r b, cEnd, List.append_assoc]
theorem jtext_le : ∀ (l : List ByteArray) (c : Int), (0 ≤ c ∧ c < 65521) → (∀ x ∈ l, x.size ≤ 400) → (jtext l c).length ≤ 407 * l.length
 | [], c, _, _ => by simp [jtext]
 | x :: r, c, hc, hl => by
  have hb := chkOf_bd (line := x) hc
  have h1 := (piece_len x hb).2
  have h2 := hl x (by simp)
  have ih := jtext_le r (chkOf x c) hb (fun y hy => hl y (List.mem_cons_of_mem _ hy))
  rw [jtext, List.length_append, List.length_cons]
  omega
theorem jtext_mem : ∀ (l : List ByteArray) (c : Int), (0 ≤ c ∧ c < 65521) → l.length ≤ (jtext l c).length ∧ ∀ x ∈ l, x.size ≤ (jtext l c).length
 | [], c, _ => ⟨Nat.zero_le _, fun x hx => by simp at hx⟩
 | x :: r, c, hc => by
  have hb := chkOf_bd (line := x) hc
  have h1 := (piece_len x hb).1
  obtain ⟨i1, i2⟩ := jtext_mem r (chkOf x c) hb
  rw [jtext, List.length_append, List.length_cons]
  refine ⟨by omega, fun y hy => ?_⟩
  rcases List.mem_cons.1 hy with rfl | hy
  ·omega
  ·have := i2 y hy; omega
theorem any_nl {l : List ByteArray} (h : ∀ x ∈ l, Cln x.data.toList) : l.any nl = false := by
 rw [List.any_eq_false]
 intro x hx
 rw [(nl_cln x).2 (h x hx)]
 decide
theorem jour_ok (l : List ByteArray) (h : ∀ x ∈ l, Cln x.data.toList) (hz : (jtext l 0).length ≤ 4000) : Ev (fun k => impl_JournalOf.f k l) (mk (jtext l 0), true) := by
 obtain ⟨m1, m2⟩ := jtext_mem l 0 (by omega)
 have e := implJour_ev (l := l) (by omega) (fun x hx => by have := m2 x hx; omega)
 unfold jres at e
 rw [if_pos ⟨any_nl h, by omega⟩] at e
 exact e
theorem at_tells (l : List Int) (hl : ∀ x ∈ l, (Lit.int .u8 x).wf = true) (i : Nat) (hi : i ≤ 2) : ∃ v, laws_b10At.f l (i : Int) 256 = some v ∧ 0 ≤ v ∧ v < 256 := by
 unfold laws_b10At.f
 rw [if_neg (by omega)]
 by_cases h : (i : Int) < (l.length : Int)
 ·have hm : i < l.length := by omega
  have hb := u8_bd (hl _ (List.getElem_mem hm))
  rw [if_pos h, if_pos (by omega), if_neg (by omega), rd_nat hm, w64 (by omega) (by omega), tmod_nn (by omega)]
  exact ⟨_, rfl, by omega, by omega⟩
 ·rw [if_neg h, if_neg (by omega), w64 (x := (i : Int) * 37) (by omega) (by omega), w64 (x := (i : Int) * 37 + 11) (by omega) (by omega), tmod_nn (by omega)]
  exact ⟨_, rfl, by omega, by omega⟩
section
variable (l1 : List Int) (hl : ∀ x ∈ l1, (Lit.int .u8 x).wf = true) (ls : List ByteArray) (hcl : ∀ x ∈ ls, Cln x.data.toList) (T : List UInt8) (hT : T = jtext ls 0) (hz : T.length ≤ 4000) (A : Nat) (hA : A < T.length) (j : Nat) (hj : j ≤ ls.length) (D : List UInt8) (hD : T.take A = jtext (ls.take j) 0 ++ D) (hDc : Cln D)
include hl hcl hT hz hA hj hD hDc
theorem bent_ev : Ev (fun k => laws_FnJournal.l1 k l1 ls (mk T) (A : Int) (ls.take j) ((jtext (ls.take j) 0).length : Int) (j : Int) (j : Int)) true := by
 obtain ⟨v, ev, v0, v1⟩ := at_tells l1 hl 2 (by omega)
 have hP : (jtext (ls.take j) 0).length ≤ A := by
  have h1 := congrArg List.length hD
  rw [List.length_take, List.length_append] at h1
  omega
 generalize hPd : jtext (ls.take j) 0 = P at *
 have hb1 : (strOfNums [v % 256]).size = 1 := by rw [str_bytes]; simp [Com.bytesOf, ByteArray.size]
 have hbd : (strOfNums [v % 256]).data.toList = [UInt8.ofNat (v % 256).toNat] := by rw [str_bytes]; simp [Com.bytesOf]
 have hts : (mk T).size = T.length := mk_size T
 have hx1 : (mk T).extract 0 (A : Int).toNat = mk (T.take A) := by rw [ext_nat, mk_data, Int.toNat_natCast, List.drop_zero, Nat.sub_zero]
 have hx2 : (mk T).extract ((A + 1 : Nat) : Int).toNat (mk T).size = mk (T.drop (A + 1)) := by rw [ext_nat, mk_data, Int.toNat_natCast, hts, List.take_of_length_le (by rw [List.length_drop]; omega)]
 have hs1 : (mk (T.take A)).size = A := by rw [mk_size, List.length_take]; omega
 have hs2 : (mk (T.drop (A + 1))).size = T.length - (A + 1) := by rw [mk_size, List.length_drop]
 obtain ⟨D2, hD2⟩ : ∃ D2, D2 = D ++ (UInt8.ofNat (v % 256).toNat :: T.drop (A + 1)) := ⟨_, rfl⟩
 have hB : (mk (T.take A) ++ strOfNums [v % 256]) ++ mk (T.drop (A + 1)) = mk (P ++ D2) := by
  apply mk_ext
  rw [ByteArray.data_append, Array.toList_append, ByteArray.data_append, Array.toList_append, mk_data, mk_data, hbd, hD, hD2]
  simp
 have hBl : (P ++ D2).length = T.length := by
  have h1 := congrArg ByteArray.size hB
  rw [mk_size, ByteArray.size_append, ByteArray.size_append, hs1, hs2, hb1] at h1
  omega
 have hc2 : ∀ x ∈ ls.take j, Cln x.data.toList := fun x hx => hcl x (List.mem_of_mem_take hx)
 have e1 := implRec_ev (mk (P ++ D2)) (by rw [mk_size]; omega)
 rw [mk_data] at e1
 have hpre := recF_prefix (ls.take j) 0 D2 [] 0 (by omega) hc2
 rw [hPd] at hpre
 have hce := cEnd_bd (ls.take j) 0 (by omega)
 obtain ⟨new, m, n1, n2, n3, n4, n5⟩ := recF_spec (splitL D2).1 ([] ++ ls.take j) (cEnd (ls.take j) 0) (0 + (P.length : Int)) hce (splitL_clean D2).1
 have hsf := split_flat D2
 rw [hpre, n1] at e1
 simp only [List.nil_append, Int.zero_add] at e1
 have hju : jtext (ls.take j ++ new) 0 = (P ++ D2).take (P.length + m) := by
  have key : (P ++ D2).take (P.length + m) = P ++ D2.take m := by rw [List.take_append, List.take_of_length_le (Nat.le_add_right _ _), Nat.add_sub_cancel_left]
  have key2 : D2.take m = (((splitL D2).1.map (· ++ [10])).flatten).take m := by
   have h1 := congrArg (List.take m) hsf
   rw [List.take_append_of_le_length n3] at h1
   exact h1.symm
  rw [jtext_app, hPd, n2, key, key2]
 have hml : P.length + m ≤ (P ++ D2).length := by
  rw [List.length_append]
  have h1 := congrArg List.length hsf
  rw [List.length_append] at h1
  omega
 have e2 := jour_ok (ls.take j ++ new) (fun x hx => by
  rcases List.mem_append.1 hx with hx | hx
  ·exact hc2 x hx
  ·exact n4 x hx) (by rw [hju, List.length_take]; omega)
 rw [hju] at e2
 have hx3 : (mk (P ++ D2)).extract 0 ((P.length : Int) + (m : Int)).toNat = mk ((P ++ D2).take (P.length + m)) := by
  rw [ext_nat, mk_data, show ((P.length : Int) + (m : Int)).toNat = P.length + m by omega, List.drop_zero, Nat.sub_zero]
 have hbs : (mk (P ++ D2)).size = T.length := by rw [mk_size]; exact hBl
 refine Ev.step (fun k => by rw [laws_FnJournal.l1]) ?_
 simp only [if_neg (show ¬ (j : Int) < (j : Int) by omega), if_pos (show 0 ≤ (A : Int) by omega), hts, if_pos (show (A : Int) ≤ (T.length : Int) by omega)]
 refine ev_bind' ev ?_
 simp only [Option.bind_some, hx1, hs1, hb1, if_pos (show A + 1 ≤ 9223372036854775807 by omega), w_succ (m := A) (by omega), if_pos (show (0 : Int) ≤ ((A + 1 : Nat) : Int) by omega), if_pos (show ((A + 1 : Nat) : Int) ≤ (T.length : Int) by omega)]
 rw [show (mk T).extract ((A + 1 : Nat) : Int).toNat T.length = mk (T.drop (A + 1)) by rw [← hx2, hts]]
 simp only [ByteArray.size_append, hs1, hb1, hs2, if_pos (show A + 1 + (T.length - (A + 1)) ≤ 9223372036854775807 by omega), hB]
 refine Ev.bind e1 (Ev.bind e2 ?_)
 simp only [if_true, if_pos (show (P.length : Int) + (m : Int) ≥ (P.length : Int) by omega), show A + 1 + (T.length - (A + 1)) = T.length by omega, hbs, if_pos (show (P.length : Int) + (m : Int) ≤ (T.length : Int) by omega), if_pos (show 0 ≤ (P.length : Int) + (m : Int) by omega), hx3, beq_self_eq_true]
 exact Ev.now _
theorem same_ev : ∀ (n i : Nat), i + n = j → Ev (fun k => laws_FnJournal.l1 k l1 ls (mk T) (A : Int) (ls.take j) ((jtext (ls.take j) 0).length : Int) (j : Int) (i : Int)) true
 | 0, i, hi => by
  obtain rfl : i = j := by omega
  exact bent_ev l1 hl ls hcl T hT hz A hA i hj D hD hDc
 | n + 1, i, hi => by
  have ih := same_ev n (i + 1) (by omega)
  have h1 : i < (ls.take j).length := by rw [List.length_take]; omega
  have h2 : i < ls.length := by omega
  have h3 := (jtext_mem (ls.take j) 0 (by omega)).1
  have h4 := congrArg List.length hD
  rw [List.length_take, List.length_append] at h4
  refine Ev.step (fun k => by rw [laws_FnJournal.l1]) ?_
  simp only [if_pos (show (i : Int) < (j : Int) by omega), if_pos (show 0 ≤ (i : Int) by omega), if_pos (show (i : Int) < ((ls.take j).length : Int) by omega), if_pos (show (i : Int) < (ls.length : Int) by omega), rds_nat h1, rds_nat h2, List.getElem_take, if_true, w_succ (m := i) (by omega)]
  exact ih
theorem count_ev : ∀ (n i : Nat), i + n = A → Ev (fun k => laws_FnJournal.l0 k l1 ls (mk T) (A : Int) (ls.take j) ((jtext (ls.take j) 0).length : Int) true (mk (jtext (ls.take j) 0)) true ((nls (T.take i) : Nat) : Int) (i : Int)) true
 | 0, i, hi => by
  obtain rfl : i = A := by omega
  have hc2 : ∀ x ∈ ls.take j, Cln x.data.toList := fun x hx => hcl x (List.mem_of_mem_take hx)
  have hn : nls (T.take i) = j := by
   have h1 := nls_jtext (ls.take j) 0 (by omega) hc2
   have h2 := nls_cln hDc
   unfold nls at h1 h2 ⊢
   rw [hD, List.countP_append, h1, h2, List.length_take]
   omega
  have hPl : (jtext (ls.take j) 0).length ≤ i := by
   have h1 := congrArg List.length hD
   rw [List.length_take, List.length_append] at h1
   omega
  have hPt : T.take (jtext (ls.take j) 0).length = jtext (ls.take j) 0 := by
   have h1 := congrArg (List.take (jtext (ls.take j) 0).length) hD
   rw [List.take_take, Nat.min_eq_left hPl, List.take_left'] at h1
   ·exact h1
   ·rfl
  have hx : (mk T).extract 0 ((jtext (ls.take j) 0).length : Int).toNat = mk (jtext (ls.take j) 0) := by
   rw [ext_nat, mk_data, Int.toNat_natCast, List.drop_zero, Nat.sub_zero, hPt]
  have hts : (mk T).size = T.length := mk_size T
  have hll : ((ls.take j).length : Int) = (j : Int) := by rw [List.length_take]; omega
  refine Ev.step (fun k => by rw [laws_FnJournal.l0]) ?_
  rw [hn]
  simp only [if_neg (show ¬ (i : Int) < (i : Int) by omega), if_true, hll, if_neg (show ¬ ((jtext (ls.take j) 0).length : Int) < 0 by omega), if_neg (show ¬ ((jtext (ls.take j) 0).length : Int) > (i : Int) by omega), if_pos (show 0 ≤ ((jtext (ls.take j) 0).length : Int) by omega), hts, if_pos (show ((jtext (ls.take j) 0).length : Int) ≤ (T.length : Int) by omega), hx, bne_self_eq_false]
  refine Ev.step (fun k => by rw [laws_FnJournal.j1]) ?_
  simp only [Bool.false_eq_true, if_false]
  exact same_ev l1 hl ls hcl T hT hz i hA j hj D hD hDc j 0 (by omega)
 | n + 1, i, hi => by
  have ih := count_ev n (i + 1) (by omega)
  have hlt : i < T.length := by omega
  have hts : (mk T).size = T.length := mk_size T
  have hbt : bt (mk T) (i : Int) = (T[i].toNat : Int) := by
   rw [bt_nat (mk T) i (by rw [mk_data]; exact hlt)]
   simp only [mk_data]
  have hn : nls (T.take (i + 1)) = nls (T.take i) + (if T[i] = 10 then 1 else 0) := by
   unfold nls
   rw [List.take_succ_eq_append_getElem hlt, List.countP_append]
   simp [List.countP_cons]
  have hnb : nls (T.take i) ≤ i := by
   unfold nls
   refine Nat.le_trans List.countP_le_length ?_
   rw [List.length_take]; omega
  refine Ev.step (fun k => by rw [laws_FnJournal.l0]) ?_
  simp only [if_pos (show (i : Int) < (A : Int) by omega), if_pos (show 0 ≤ (i : Int) by omega), hts, if_pos (show (i : Int) < (T.length : Int) by omega), hbt, w_succ (m := i) (by omega)]
  by_cases c : T[i] = 10
  ·rw [hn, if_pos c] at ih
   simp only [if_pos (show (T[i].toNat : Int) = 10 by rw [c]; rfl)]
   rw [w_succ (m := nls (T.take i)) (by omega)]
   exact ih
  ·rw [hn, if_neg c, Nat.add_zero] at ih
   have hne : ¬ (T[i].toNat : Int) = 10 := by
    intro e
    apply c
    apply UInt8.toNat_inj.1
    show T[i].toNat = 10
    omega
   simp only [if_neg hne]
   exact ih
end
theorem FnJournal : laws_FnJournal.Pure := by
 intro l0 l1 _ _ h0 _ _ h1
 apply ev_of
 unfold laws_FnJournal.f
 by_cases hlong : laws_b10Long.f l0 l1 = some true
 ·refine ev_bind' hlong ?_
  simp only [if_true]
  exact Ev.now _
 have hl2 : laws_b10Long.f l0 l1 = some false := by
  unfold laws_b10Long.f at hlong ⊢
  split at hlong
  ·exact absurd rfl hlong
  ·rename_i q
   rw [if_neg q]
   cases hd : decide ((l1.length : Int) > 1048576) with
   | true => rw [hd] at hlong; exact absurd rfl hlong
   | false => rfl
 refine ev_bind' hl2 ?_
 simp only [Bool.false_eq_true, if_false]
 obtain ⟨ns, K, ed, d1, d2⟩ := b10Desk_ev l1 h1
 obtain ⟨ls, el, n1, n2⟩ := b10Lines_ev l0 h0 ns d2 (by omega) K
 have hcl : ∀ x ∈ ls, Cln x.data.toList := fun x hx => (n2 x hx).1
 have hz := jtext_le ls 0 (by omega) (fun x hx => (n2 x hx).2)
 have hz2 : (jtext ls 0).length ≤ 4000 := by omega
 refine Ev.bind ed (Ev.bind el (Ev.bind (jour_ok ls hcl hz2) ?_))
 obtain ⟨T, hT⟩ : ∃ T, T = jtext ls 0 := ⟨_, rfl⟩
 rw [← hT] at hz2 ⊢
 simp only [if_true, mk_size]
 by_cases hT0 : (T.length : Int) = 0
 ·simp only [if_pos hT0]
  have hm := (jtext_mem ls 0 (by omega)).1
  rw [← hT] at hm
  have : (ls.length : Int) = 0 := by omega
  rw [this]
  exact Ev.now _
 ·simp only [if_neg hT0]
  obtain ⟨v, ev, v0, v1⟩ := at_tells l1 h1 0 (by omega)
  obtain ⟨w, ew, w0, w1⟩ := at_tells l1 h1 1 (by omega)
  refine ev_bind' ev (ev_bind' ew ?_)
  obtain ⟨A, hA, hA2⟩ : ∃ A : Nat, Int.tmod (wrap64 (wrap64 (v * 256) + w)) (T.length : Int) = (A : Int) ∧ A < T.length := by
   rw [w64 (x := v * 256) (by omega) (by omega), w64 (x := v * 256 + w) (by omega) (by omega), tmod_nn (by omega)]
   have m1 := Int.emod_nonneg (v * 256 + w) hT0
   have m2 := Int.emod_lt_of_pos (v * 256 + w) (show 0 < (T.length : Int) by omega)
   exact ⟨((v * 256 + w) % (T.length : Int)).toNat, by omega, by omega⟩
  simp only [hA, if_pos (show 0 ≤ (A : Int) by omega), if_pos (show (A : Int) ≤ (T.length : Int) by omega)]
  obtain ⟨j, hj, D, hD, hDc⟩ := take_dec ls 0 A (by omega) hcl
  rw [← hT] at hD
  have hc2 : ∀ x ∈ ls.take j, Cln x.data.toList := fun x hx => hcl x (List.mem_of_mem_take hx)
  have hx1 : (mk T).extract 0 (A : Int).toNat = mk (jtext (ls.take j) 0 ++ D) := by rw [ext_nat, mk_data, Int.toNat_natCast, List.drop_zero, Nat.sub_zero, hD]
  have hPl : (jtext (ls.take j) 0 ++ D).length = A := by rw [← hD, List.length_take]; omega
  have e1 := implRec_ev (mk (jtext (ls.take j) 0 ++ D)) (by rw [mk_size]; omega)
  rw [mk_data, recF_prefix (ls.take j) 0 D [] 0 (by omega) hc2, splitL_no D hDc] at e1
  simp only [List.map_nil, recF, List.nil_append, Int.zero_add] at e1
  rw [hx1]
  rw [List.length_append] at hPl
  refine Ev.bind e1 (Ev.bind (jour_ok (ls.take j) hc2 (by omega)) ?_)
  have h := count_ev l1 h1 ls hcl T hT hz2 A hA2 j hj D hD hDc A 0 (by omega)
  exact h
end Go.Proofs.YtcnbhfefhmmgjaaDoor.Pure
