/-
  No cell of these rows narrows 'for every input' (looked for: loops, veiled, ifaces, maps, wideKeys, modest, calm, conditions, laid).
  DERIVED. THE GIVEN ROWS OF THIS SEAT. 12 by the template 'for every input the law returns true; each argument reads behind the call as it read before'; 0 by the template 'total and deterministic' (their statements: YtoebllbpoinifaaTotals.lean).
  GIVEN WITH THE SEED: the statements are not yours to turn. If you find one false, say at which input.
  Laid BY PROGRAM, IN A SANDBOX (cutbox-rows.mjs): the forced cells as the released guide's own fill.sh prints them over the translation 3aa85a7f2842c2f7… (all of the seat's roots in one cut). By AI agents, Wed Nov 11 2026. No macro, syntax, notation, axiom, sorry.
-/
import Derived.Test.YtoebllbpoinifaaChecked
import GoSem.Claim
import GoSem.ClaimJoined
import GoSem.ClaimMapViews
import Derived.JoinedTies
import Derived.KernelRfl
namespace Go.Proofs.Ytoebllbpoinifaa
/- THE CELL 'sum', in the pinned program and in every row, IS THE sha256 OF THE DUMP (.gsa) THAT YtoebllbpoinifaaProg.lean LOADS. Nothing in Lean hashes anything: it is a label: what it is worth is what the hold of that sum in a sandbox is worth. -/
noncomputable def Try.pinned : Pinned := { name := "ytoebllbpoinifaa", sum := "3aa85a7f2842c2f75374647b325b8319972af63dceb60024816e967a5d75b3bd", checked := Try.checked }
namespace Rows
def none {H : Type} : Left H := { results := [], args := [] }

/-- 'laws.FnCalendars': WHATEVER THE INPUT: true; the input reads as it did. -/
def fnCalendarsSpec : ChangeSpec := { name := "fnCalendars", fn := fun _ => fun
  | [d1, d2] => { results := [.lit (.bool true)], args := [d1, d2] }
  | _ => none }
def fnCalendarsRow : OpenClaim := { program := "ytoebllbpoinifaa", sum := "3aa85a7f2842c2f75374647b325b8319972af63dceb60024816e967a5d75b3bd", func := "loop.example/g01129/laws.FnCalendars", spec := "fnCalendars", plainKeys := false, apart := false }
def FnCalendarsSaid : Prop := fnCalendarsRow.holds Try.pinned (OpenSpec.ofChange fnCalendarsSpec)

/-- ITS FALSE NEIGHBOUR: 'it returns false'. Refute it at one input. -/
def fnCalendarsWrong : ChangeSpec := { name := "fnCalendars", fn := fun _ => fun
  | [d1, d2] => { results := [.lit (.bool false)], args := [d1, d2] }
  | _ => none }
def FnCalendarsWrongFalsely : Prop := fnCalendarsRow.holds Try.pinned (OpenSpec.ofChange fnCalendarsWrong)

/-- 'laws.FnJustInTime': WHATEVER THE INPUT: true; the input reads as it did. -/
def fnJustInTimeSpec : ChangeSpec := { name := "fnJustInTime", fn := fun _ => fun
  | [d1, d2] => { results := [.lit (.bool true)], args := [d1, d2] }
  | _ => none }
def fnJustInTimeRow : OpenClaim := { program := "ytoebllbpoinifaa", sum := "3aa85a7f2842c2f75374647b325b8319972af63dceb60024816e967a5d75b3bd", func := "loop.example/g01129/laws.FnJustInTime", spec := "fnJustInTime", unfollowed := true, recurses := true, plainKeys := false, apart := false }
def FnJustInTimeSaid : Prop := fnJustInTimeRow.holds Try.pinned (OpenSpec.ofChange fnJustInTimeSpec)

/-- ITS FALSE NEIGHBOUR: 'it returns false'. Refute it at one input. -/
def fnJustInTimeWrong : ChangeSpec := { name := "fnJustInTime", fn := fun _ => fun
  | [d1, d2] => { results := [.lit (.bool false)], args := [d1, d2] }
  | _ => none }
def FnJustInTimeWrongFalsely : Prop := fnJustInTimeRow.holds Try.pinned (OpenSpec.ofChange fnJustInTimeWrong)

/-- 'laws.FnExactLeastSquares': WHATEVER THE INPUT: true; the input reads as it did. -/
def fnExactLeastSquaresSpec : ChangeSpec := { name := "fnExactLeastSquares", fn := fun _ => fun
  | [d] => { results := [.lit (.bool true)], args := [d] }
  | _ => none }
def fnExactLeastSquaresRow : OpenClaim := { program := "ytoebllbpoinifaa", sum := "3aa85a7f2842c2f75374647b325b8319972af63dceb60024816e967a5d75b3bd", func := "loop.example/g01129/laws.FnExactLeastSquares", spec := "fnExactLeastSquares", unfollowed := true, recurses := true, plainKeys := false, apart := false }
def FnExactLeastSquaresSaid : Prop := fnExactLeastSquaresRow.holds Try.pinned (OpenSpec.ofChange fnExactLeastSquaresSpec)

/-- ITS FALSE NEIGHBOUR: 'it returns false'. Refute it at one input. -/
def fnExactLeastSquaresWrong : ChangeSpec := { name := "fnExactLeastSquares", fn := fun _ => fun
  | [d] => { results := [.lit (.bool false)], args := [d] }
  | _ => none }
def FnExactLeastSquaresWrongFalsely : Prop := fnExactLeastSquaresRow.holds Try.pinned (OpenSpec.ofChange fnExactLeastSquaresWrong)

/-- 'laws.FnExactSetErrors': WHATEVER THE INPUT: true; the input reads as it did. -/
def fnExactSetErrorsSpec : ChangeSpec := { name := "fnExactSetErrors", fn := fun _ => fun
  | [d1, d2, d3] => { results := [.lit (.bool true)], args := [d1, d2, d3] }
  | _ => none }
def fnExactSetErrorsRow : OpenClaim := { program := "ytoebllbpoinifaa", sum := "3aa85a7f2842c2f75374647b325b8319972af63dceb60024816e967a5d75b3bd", func := "loop.example/g01129/laws.FnExactSetErrors", spec := "fnExactSetErrors", unfollowed := true, recurses := true, plainKeys := false, apart := false }
def FnExactSetErrorsSaid : Prop := fnExactSetErrorsRow.holds Try.pinned (OpenSpec.ofChange fnExactSetErrorsSpec)

/-- ITS FALSE NEIGHBOUR: 'it returns false'. Refute it at one input. -/
def fnExactSetErrorsWrong : ChangeSpec := { name := "fnExactSetErrors", fn := fun _ => fun
  | [d1, d2, d3] => { results := [.lit (.bool false)], args := [d1, d2, d3] }
  | _ => none }
def FnExactSetErrorsWrongFalsely : Prop := fnExactSetErrorsRow.holds Try.pinned (OpenSpec.ofChange fnExactSetErrorsWrong)

/-- 'laws.FnSystemRounded': WHATEVER THE INPUT: true; the input reads as it did. -/
def fnSystemRoundedSpec : ChangeSpec := { name := "fnSystemRounded", fn := fun _ => fun
  | [d1, d2] => { results := [.lit (.bool true)], args := [d1, d2] }
  | _ => none }
def fnSystemRoundedRow : OpenClaim := { program := "ytoebllbpoinifaa", sum := "3aa85a7f2842c2f75374647b325b8319972af63dceb60024816e967a5d75b3bd", func := "loop.example/g01129/laws.FnSystemRounded", spec := "fnSystemRounded", unfollowed := true, recurses := true, plainKeys := false, apart := false }
def FnSystemRoundedSaid : Prop := fnSystemRoundedRow.holds Try.pinned (OpenSpec.ofChange fnSystemRoundedSpec)

/-- ITS FALSE NEIGHBOUR: 'it returns false'. Refute it at one input. -/
def fnSystemRoundedWrong : ChangeSpec := { name := "fnSystemRounded", fn := fun _ => fun
  | [d1, d2] => { results := [.lit (.bool false)], args := [d1, d2] }
  | _ => none }
def FnSystemRoundedWrongFalsely : Prop := fnSystemRoundedRow.holds Try.pinned (OpenSpec.ofChange fnSystemRoundedWrong)

/-- 'laws.FnExactSystemRounding': WHATEVER THE INPUT: true; the input reads as it did. -/
def fnExactSystemRoundingSpec : ChangeSpec := { name := "fnExactSystemRounding", fn := fun _ => fun
  | [d1, d2] => { results := [.lit (.bool true)], args := [d1, d2] }
  | _ => none }
def fnExactSystemRoundingRow : OpenClaim := { program := "ytoebllbpoinifaa", sum := "3aa85a7f2842c2f75374647b325b8319972af63dceb60024816e967a5d75b3bd", func := "loop.example/g01129/laws.FnExactSystemRounding", spec := "fnExactSystemRounding", unfollowed := true, recurses := true, plainKeys := false, apart := false }
def FnExactSystemRoundingSaid : Prop := fnExactSystemRoundingRow.holds Try.pinned (OpenSpec.ofChange fnExactSystemRoundingSpec)

/-- ITS FALSE NEIGHBOUR: 'it returns false'. Refute it at one input. -/
def fnExactSystemRoundingWrong : ChangeSpec := { name := "fnExactSystemRounding", fn := fun _ => fun
  | [d1, d2] => { results := [.lit (.bool false)], args := [d1, d2] }
  | _ => none }
def FnExactSystemRoundingWrongFalsely : Prop := fnExactSystemRoundingRow.holds Try.pinned (OpenSpec.ofChange fnExactSystemRoundingWrong)

/-- 'laws.FnDiffused': WHATEVER THE INPUT: true; the input reads as it did. -/
def fnDiffusedSpec : ChangeSpec := { name := "fnDiffused", fn := fun _ => fun
  | [d1, d2] => { results := [.lit (.bool true)], args := [d1, d2] }
  | _ => none }
def fnDiffusedRow : OpenClaim := { program := "ytoebllbpoinifaa", sum := "3aa85a7f2842c2f75374647b325b8319972af63dceb60024816e967a5d75b3bd", func := "loop.example/g01129/laws.FnDiffused", spec := "fnDiffused", inPlace := ["internal/bytealg.IndexByteString"], unfollowed := true, recurses := true, plainKeys := false, apart := false }
def FnDiffusedSaid : Prop := fnDiffusedRow.holds Try.pinned (OpenSpec.ofChange fnDiffusedSpec)

/-- ITS FALSE NEIGHBOUR: 'it returns false'. Refute it at one input. -/
def fnDiffusedWrong : ChangeSpec := { name := "fnDiffused", fn := fun _ => fun
  | [d1, d2] => { results := [.lit (.bool false)], args := [d1, d2] }
  | _ => none }
def FnDiffusedWrongFalsely : Prop := fnDiffusedRow.holds Try.pinned (OpenSpec.ofChange fnDiffusedWrong)

/-- 'laws.FnExactDiffuseDither': WHATEVER THE INPUT: true; the input reads as it did. -/
def fnExactDiffuseDitherSpec : ChangeSpec := { name := "fnExactDiffuseDither", fn := fun _ => fun
  | [d1, d2, d3] => { results := [.lit (.bool true)], args := [d1, d2, d3] }
  | _ => none }
def fnExactDiffuseDitherRow : OpenClaim := { program := "ytoebllbpoinifaa", sum := "3aa85a7f2842c2f75374647b325b8319972af63dceb60024816e967a5d75b3bd", func := "loop.example/g01129/laws.FnExactDiffuseDither", spec := "fnExactDiffuseDither", unfollowed := true, recurses := true, plainKeys := false, apart := false }
def FnExactDiffuseDitherSaid : Prop := fnExactDiffuseDitherRow.holds Try.pinned (OpenSpec.ofChange fnExactDiffuseDitherSpec)

/-- ITS FALSE NEIGHBOUR: 'it returns false'. Refute it at one input. -/
def fnExactDiffuseDitherWrong : ChangeSpec := { name := "fnExactDiffuseDither", fn := fun _ => fun
  | [d1, d2, d3] => { results := [.lit (.bool false)], args := [d1, d2, d3] }
  | _ => none }
def FnExactDiffuseDitherWrongFalsely : Prop := fnExactDiffuseDitherRow.holds Try.pinned (OpenSpec.ofChange fnExactDiffuseDitherWrong)

/-- 'laws.FnSpread': WHATEVER THE INPUT: true; the input reads as it did. -/
def fnSpreadSpec : ChangeSpec := { name := "fnSpread", fn := fun _ => fun
  | [d1, d2] => { results := [.lit (.bool true)], args := [d1, d2] }
  | _ => none }
def fnSpreadRow : OpenClaim := { program := "ytoebllbpoinifaa", sum := "3aa85a7f2842c2f75374647b325b8319972af63dceb60024816e967a5d75b3bd", func := "loop.example/g01129/laws.FnSpread", spec := "fnSpread", unfollowed := true, recurses := true, plainKeys := false, apart := false }
def FnSpreadSaid : Prop := fnSpreadRow.holds Try.pinned (OpenSpec.ofChange fnSpreadSpec)

/-- ITS FALSE NEIGHBOUR: 'it returns false'. Refute it at one input. -/
def fnSpreadWrong : ChangeSpec := { name := "fnSpread", fn := fun _ => fun
  | [d1, d2] => { results := [.lit (.bool false)], args := [d1, d2] }
  | _ => none }
def FnSpreadWrongFalsely : Prop := fnSpreadRow.holds Try.pinned (OpenSpec.ofChange fnSpreadWrong)

/-- 'laws.FnMasks': WHATEVER THE INPUT: true; the input reads as it did. -/
def fnMasksSpec : ChangeSpec := { name := "fnMasks", fn := fun _ => fun
  | [d1, d2] => { results := [.lit (.bool true)], args := [d1, d2] }
  | _ => none }
def fnMasksRow : OpenClaim := { program := "ytoebllbpoinifaa", sum := "3aa85a7f2842c2f75374647b325b8319972af63dceb60024816e967a5d75b3bd", func := "loop.example/g01129/laws.FnMasks", spec := "fnMasks", unfollowed := true, recurses := true, plainKeys := false, apart := false }
def FnMasksSaid : Prop := fnMasksRow.holds Try.pinned (OpenSpec.ofChange fnMasksSpec)

/-- ITS FALSE NEIGHBOUR: 'it returns false'. Refute it at one input. -/
def fnMasksWrong : ChangeSpec := { name := "fnMasks", fn := fun _ => fun
  | [d1, d2] => { results := [.lit (.bool false)], args := [d1, d2] }
  | _ => none }
def FnMasksWrongFalsely : Prop := fnMasksRow.holds Try.pinned (OpenSpec.ofChange fnMasksWrong)

/-- 'laws.FnExactIsMask': WHATEVER THE INPUT: true; the input reads as it did. -/
def fnExactIsMaskSpec : ChangeSpec := { name := "fnExactIsMask", fn := fun _ => fun
  | [d] => { results := [.lit (.bool true)], args := [d] }
  | _ => none }
def fnExactIsMaskRow : OpenClaim := { program := "ytoebllbpoinifaa", sum := "3aa85a7f2842c2f75374647b325b8319972af63dceb60024816e967a5d75b3bd", func := "loop.example/g01129/laws.FnExactIsMask", spec := "fnExactIsMask", unfollowed := true, recurses := true, plainKeys := false, apart := false }
def FnExactIsMaskSaid : Prop := fnExactIsMaskRow.holds Try.pinned (OpenSpec.ofChange fnExactIsMaskSpec)

/-- ITS FALSE NEIGHBOUR: 'it returns false'. Refute it at one input. -/
def fnExactIsMaskWrong : ChangeSpec := { name := "fnExactIsMask", fn := fun _ => fun
  | [d] => { results := [.lit (.bool false)], args := [d] }
  | _ => none }
def FnExactIsMaskWrongFalsely : Prop := fnExactIsMaskRow.holds Try.pinned (OpenSpec.ofChange fnExactIsMaskWrong)

/-- 'laws.FnExactSpreadOf': WHATEVER THE INPUT: true; the input reads as it did. -/
def fnExactSpreadOfSpec : ChangeSpec := { name := "fnExactSpreadOf", fn := fun _ => fun
  | [d1, d2] => { results := [.lit (.bool true)], args := [d1, d2] }
  | _ => none }
def fnExactSpreadOfRow : OpenClaim := { program := "ytoebllbpoinifaa", sum := "3aa85a7f2842c2f75374647b325b8319972af63dceb60024816e967a5d75b3bd", func := "loop.example/g01129/laws.FnExactSpreadOf", spec := "fnExactSpreadOf", unfollowed := true, recurses := true, plainKeys := false, apart := false }
def FnExactSpreadOfSaid : Prop := fnExactSpreadOfRow.holds Try.pinned (OpenSpec.ofChange fnExactSpreadOfSpec)

/-- ITS FALSE NEIGHBOUR: 'it returns false'. Refute it at one input. -/
def fnExactSpreadOfWrong : ChangeSpec := { name := "fnExactSpreadOf", fn := fun _ => fun
  | [d1, d2] => { results := [.lit (.bool false)], args := [d1, d2] }
  | _ => none }
def FnExactSpreadOfWrongFalsely : Prop := fnExactSpreadOfRow.holds Try.pinned (OpenSpec.ofChange fnExactSpreadOfWrong)

/- THE SECOND FORM. 'bulk': how many values and letters a reading holds, each counted each time it is reached (what is shared counts as often as it is met; a slice's spare places count too). A statement '..UptoSaid' is the law's where the arguments, and the package variables that the reading takes, are together of bulk at most 1048576: NARROWER than '..Said'. Prove '..Said' where nothing that the law and all that it calls make is longer than what came in: it says more and counts as full. Else prove '..UptoSaid'. A law counts once. -/
mutual
def uptoBulk {H : Type} : DataW H → Nat
  | .lit (.string bytes) => bytes.length + 1
  | .lit _ => 1
  | .nil => 1
  | .ptr d => uptoBulk d + 1
  | .slice elems spare => uptoBulkAll elems + uptoBulkAll spare + 1
  | .agg parts => uptoBulkAll parts + 1
  | .iface _ d => uptoBulk d + 1
  | .map entries => uptoBulkEntries entries + 1
  | .held _ => 1
def uptoBulkAll {H : Type} : List (DataW H) → Nat
  | [] => 0
  | d :: r => uptoBulk d + uptoBulkAll r
def uptoBulkEntries {H : Type} : List (Lit × DataW H) → Nat
  | [] => 0
  | x :: r => uptoBulkEntry x + uptoBulkEntries r
def uptoBulkEntry {H : Type} : Lit × DataW H → Nat
  | (.string bytes, d) => bytes.length + uptoBulk d + 1
  | (_, d) => uptoBulk d + 1
 end
def uptoSmall : (H : Type) → List (DataW H) → Bool := fun _ ds => decide (uptoBulkAll ds ≤ 1048576)
def OpenSpec.upto (s : _root_.Go.ChangeSpec) : _root_.Go.OpenSpec := { _root_.Go.OpenSpec.ofChange s with cond := some uptoSmall }

/-- 'laws.FnCalendars', WHERE WHAT IT READS IS OF BULK AT MOST 1048576: true; the input reads as it did. -/
def fnCalendarsUptoRow : OpenClaim := { program := "ytoebllbpoinifaa", sum := "3aa85a7f2842c2f75374647b325b8319972af63dceb60024816e967a5d75b3bd", func := "loop.example/g01129/laws.FnCalendars", spec := "fnCalendars", plainKeys := false, apart := false, narrowed := true }
def FnCalendarsUptoSaid : Prop := fnCalendarsUptoRow.holds Try.pinned (OpenSpec.upto fnCalendarsSpec)

/-- 'laws.FnJustInTime', WHERE WHAT IT READS IS OF BULK AT MOST 1048576: true; the input reads as it did. -/
def fnJustInTimeUptoRow : OpenClaim := { program := "ytoebllbpoinifaa", sum := "3aa85a7f2842c2f75374647b325b8319972af63dceb60024816e967a5d75b3bd", func := "loop.example/g01129/laws.FnJustInTime", spec := "fnJustInTime", unfollowed := true, recurses := true, plainKeys := false, apart := false, narrowed := true }
def FnJustInTimeUptoSaid : Prop := fnJustInTimeUptoRow.holds Try.pinned (OpenSpec.upto fnJustInTimeSpec)

/-- 'laws.FnExactLeastSquares', WHERE WHAT IT READS IS OF BULK AT MOST 1048576: true; the input reads as it did. -/
def fnExactLeastSquaresUptoRow : OpenClaim := { program := "ytoebllbpoinifaa", sum := "3aa85a7f2842c2f75374647b325b8319972af63dceb60024816e967a5d75b3bd", func := "loop.example/g01129/laws.FnExactLeastSquares", spec := "fnExactLeastSquares", unfollowed := true, recurses := true, plainKeys := false, apart := false, narrowed := true }
def FnExactLeastSquaresUptoSaid : Prop := fnExactLeastSquaresUptoRow.holds Try.pinned (OpenSpec.upto fnExactLeastSquaresSpec)

/-- 'laws.FnExactSetErrors', WHERE WHAT IT READS IS OF BULK AT MOST 1048576: true; the input reads as it did. -/
def fnExactSetErrorsUptoRow : OpenClaim := { program := "ytoebllbpoinifaa", sum := "3aa85a7f2842c2f75374647b325b8319972af63dceb60024816e967a5d75b3bd", func := "loop.example/g01129/laws.FnExactSetErrors", spec := "fnExactSetErrors", unfollowed := true, recurses := true, plainKeys := false, apart := false, narrowed := true }
def FnExactSetErrorsUptoSaid : Prop := fnExactSetErrorsUptoRow.holds Try.pinned (OpenSpec.upto fnExactSetErrorsSpec)

/-- 'laws.FnSystemRounded', WHERE WHAT IT READS IS OF BULK AT MOST 1048576: true; the input reads as it did. -/
def fnSystemRoundedUptoRow : OpenClaim := { program := "ytoebllbpoinifaa", sum := "3aa85a7f2842c2f75374647b325b8319972af63dceb60024816e967a5d75b3bd", func := "loop.example/g01129/laws.FnSystemRounded", spec := "fnSystemRounded", unfollowed := true, recurses := true, plainKeys := false, apart := false, narrowed := true }
def FnSystemRoundedUptoSaid : Prop := fnSystemRoundedUptoRow.holds Try.pinned (OpenSpec.upto fnSystemRoundedSpec)

/-- 'laws.FnExactSystemRounding', WHERE WHAT IT READS IS OF BULK AT MOST 1048576: true; the input reads as it did. -/
def fnExactSystemRoundingUptoRow : OpenClaim := { program := "ytoebllbpoinifaa", sum := "3aa85a7f2842c2f75374647b325b8319972af63dceb60024816e967a5d75b3bd", func := "loop.example/g01129/laws.FnExactSystemRounding", spec := "fnExactSystemRounding", unfollowed := true, recurses := true, plainKeys := false, apart := false, narrowed := true }
def FnExactSystemRoundingUptoSaid : Prop := fnExactSystemRoundingUptoRow.holds Try.pinned (OpenSpec.upto fnExactSystemRoundingSpec)

/-- 'laws.FnDiffused', WHERE WHAT IT READS IS OF BULK AT MOST 1048576: true; the input reads as it did. -/
def fnDiffusedUptoRow : OpenClaim := { program := "ytoebllbpoinifaa", sum := "3aa85a7f2842c2f75374647b325b8319972af63dceb60024816e967a5d75b3bd", func := "loop.example/g01129/laws.FnDiffused", spec := "fnDiffused", inPlace := ["internal/bytealg.IndexByteString"], unfollowed := true, recurses := true, plainKeys := false, apart := false, narrowed := true }
def FnDiffusedUptoSaid : Prop := fnDiffusedUptoRow.holds Try.pinned (OpenSpec.upto fnDiffusedSpec)

/-- 'laws.FnExactDiffuseDither', WHERE WHAT IT READS IS OF BULK AT MOST 1048576: true; the input reads as it did. -/
def fnExactDiffuseDitherUptoRow : OpenClaim := { program := "ytoebllbpoinifaa", sum := "3aa85a7f2842c2f75374647b325b8319972af63dceb60024816e967a5d75b3bd", func := "loop.example/g01129/laws.FnExactDiffuseDither", spec := "fnExactDiffuseDither", unfollowed := true, recurses := true, plainKeys := false, apart := false, narrowed := true }
def FnExactDiffuseDitherUptoSaid : Prop := fnExactDiffuseDitherUptoRow.holds Try.pinned (OpenSpec.upto fnExactDiffuseDitherSpec)

/-- 'laws.FnSpread', WHERE WHAT IT READS IS OF BULK AT MOST 1048576: true; the input reads as it did. -/
def fnSpreadUptoRow : OpenClaim := { program := "ytoebllbpoinifaa", sum := "3aa85a7f2842c2f75374647b325b8319972af63dceb60024816e967a5d75b3bd", func := "loop.example/g01129/laws.FnSpread", spec := "fnSpread", unfollowed := true, recurses := true, plainKeys := false, apart := false, narrowed := true }
def FnSpreadUptoSaid : Prop := fnSpreadUptoRow.holds Try.pinned (OpenSpec.upto fnSpreadSpec)

/-- 'laws.FnMasks', WHERE WHAT IT READS IS OF BULK AT MOST 1048576: true; the input reads as it did. -/
def fnMasksUptoRow : OpenClaim := { program := "ytoebllbpoinifaa", sum := "3aa85a7f2842c2f75374647b325b8319972af63dceb60024816e967a5d75b3bd", func := "loop.example/g01129/laws.FnMasks", spec := "fnMasks", unfollowed := true, recurses := true, plainKeys := false, apart := false, narrowed := true }
def FnMasksUptoSaid : Prop := fnMasksUptoRow.holds Try.pinned (OpenSpec.upto fnMasksSpec)

/-- 'laws.FnExactIsMask', WHERE WHAT IT READS IS OF BULK AT MOST 1048576: true; the input reads as it did. -/
def fnExactIsMaskUptoRow : OpenClaim := { program := "ytoebllbpoinifaa", sum := "3aa85a7f2842c2f75374647b325b8319972af63dceb60024816e967a5d75b3bd", func := "loop.example/g01129/laws.FnExactIsMask", spec := "fnExactIsMask", unfollowed := true, recurses := true, plainKeys := false, apart := false, narrowed := true }
def FnExactIsMaskUptoSaid : Prop := fnExactIsMaskUptoRow.holds Try.pinned (OpenSpec.upto fnExactIsMaskSpec)

/-- 'laws.FnExactSpreadOf', WHERE WHAT IT READS IS OF BULK AT MOST 1048576: true; the input reads as it did. -/
def fnExactSpreadOfUptoRow : OpenClaim := { program := "ytoebllbpoinifaa", sum := "3aa85a7f2842c2f75374647b325b8319972af63dceb60024816e967a5d75b3bd", func := "loop.example/g01129/laws.FnExactSpreadOf", spec := "fnExactSpreadOf", unfollowed := true, recurses := true, plainKeys := false, apart := false, narrowed := true }
def FnExactSpreadOfUptoSaid : Prop := fnExactSpreadOfUptoRow.holds Try.pinned (OpenSpec.upto fnExactSpreadOfSpec)

end Rows
end Go.Proofs.Ytoebllbpoinifaa
