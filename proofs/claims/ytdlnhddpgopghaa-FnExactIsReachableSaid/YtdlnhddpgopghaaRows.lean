/-
  No cell of these rows narrows 'for every input' (looked for: loops, veiled, ifaces, maps, wideKeys, modest, calm, conditions, laid).
  DERIVED. THE GIVEN ROWS OF THIS SEAT. 5 by the template 'for every input the law returns true; each argument reads behind the call as it read before'; 0 by the template 'total and deterministic' (their statements: YtdlnhddpgopghaaTotals.lean).
  GIVEN WITH THE SEED: the statements are not yours to turn. If you find one false, say at which input.
  Laid BY PROGRAM, IN A SANDBOX (cutbox-rows.mjs): the forced cells as the released guide's own fill.sh prints them over the translation 830025b493de588e… (all of the seat's roots in one cut). By AI agents, Wed Nov 11 2026. No macro, syntax, notation, axiom, sorry.
-/
import Derived.Test.YtdlnhddpgopghaaChecked
import GoSem.Claim
import GoSem.ClaimJoined
import GoSem.ClaimMapViews
import Derived.JoinedTies
import Derived.KernelRfl
namespace Go.Proofs.Ytdlnhddpgopghaa
/- THE CELL 'sum', in the pinned program and in every row, IS THE sha256 OF THE DUMP (.gsa) THAT YtdlnhddpgopghaaProg.lean LOADS. Nothing in Lean hashes anything: it is a label: what it is worth is what the hold of that sum in a sandbox is worth. -/
noncomputable def Try.pinned : Pinned := { name := "ytdlnhddpgopghaa", sum := "830025b493de588ef2d37150718383252414f70041f25d2bce8a50899a4e217a", checked := Try.checked }
namespace Rows
def none {H : Type} : Left H := { results := [], args := [] }

/-- 'laws.FnExactSystemRounding': WHATEVER THE INPUT: true; the input reads as it did. -/
def fnExactSystemRoundingSpec : ChangeSpec := { name := "fnExactSystemRounding", fn := fun _ => fun
  | [d1, d2] => { results := [.lit (.bool true)], args := [d1, d2] }
  | _ => none }
def fnExactSystemRoundingRow : OpenClaim := { program := "ytdlnhddpgopghaa", sum := "830025b493de588ef2d37150718383252414f70041f25d2bce8a50899a4e217a", func := "loop.example/g01129/laws.FnExactSystemRounding", spec := "fnExactSystemRounding", unfollowed := true, recurses := true, plainKeys := false, apart := false }
def FnExactSystemRoundingSaid : Prop := fnExactSystemRoundingRow.holds Try.pinned (OpenSpec.ofChange fnExactSystemRoundingSpec)

/-- ITS FALSE NEIGHBOUR: 'it returns false'. Refute it at one input. -/
def fnExactSystemRoundingWrong : ChangeSpec := { name := "fnExactSystemRounding", fn := fun _ => fun
  | [d1, d2] => { results := [.lit (.bool false)], args := [d1, d2] }
  | _ => none }
def FnExactSystemRoundingWrongFalsely : Prop := fnExactSystemRoundingRow.holds Try.pinned (OpenSpec.ofChange fnExactSystemRoundingWrong)

/-- 'laws.FnSystemRounded': WHATEVER THE INPUT: true; the input reads as it did. -/
def fnSystemRoundedSpec : ChangeSpec := { name := "fnSystemRounded", fn := fun _ => fun
  | [d1, d2] => { results := [.lit (.bool true)], args := [d1, d2] }
  | _ => none }
def fnSystemRoundedRow : OpenClaim := { program := "ytdlnhddpgopghaa", sum := "830025b493de588ef2d37150718383252414f70041f25d2bce8a50899a4e217a", func := "loop.example/g01129/laws.FnSystemRounded", spec := "fnSystemRounded", unfollowed := true, recurses := true, plainKeys := false, apart := false }
def FnSystemRoundedSaid : Prop := fnSystemRoundedRow.holds Try.pinned (OpenSpec.ofChange fnSystemRoundedSpec)

/-- ITS FALSE NEIGHBOUR: 'it returns false'. Refute it at one input. -/
def fnSystemRoundedWrong : ChangeSpec := { name := "fnSystemRounded", fn := fun _ => fun
  | [d1, d2] => { results := [.lit (.bool false)], args := [d1, d2] }
  | _ => none }
def FnSystemRoundedWrongFalsely : Prop := fnSystemRoundedRow.holds Try.pinned (OpenSpec.ofChange fnSystemRoundedWrong)

/-- 'laws.FnJustInTime': WHATEVER THE INPUT: true; the input reads as it did. -/
def fnJustInTimeSpec : ChangeSpec := { name := "fnJustInTime", fn := fun _ => fun
  | [d1, d2] => { results := [.lit (.bool true)], args := [d1, d2] }
  | _ => none }
def fnJustInTimeRow : OpenClaim := { program := "ytdlnhddpgopghaa", sum := "830025b493de588ef2d37150718383252414f70041f25d2bce8a50899a4e217a", func := "loop.example/g01129/laws.FnJustInTime", spec := "fnJustInTime", unfollowed := true, recurses := true, plainKeys := false, apart := false }
def FnJustInTimeSaid : Prop := fnJustInTimeRow.holds Try.pinned (OpenSpec.ofChange fnJustInTimeSpec)

/-- ITS FALSE NEIGHBOUR: 'it returns false'. Refute it at one input. -/
def fnJustInTimeWrong : ChangeSpec := { name := "fnJustInTime", fn := fun _ => fun
  | [d1, d2] => { results := [.lit (.bool false)], args := [d1, d2] }
  | _ => none }
def FnJustInTimeWrongFalsely : Prop := fnJustInTimeRow.holds Try.pinned (OpenSpec.ofChange fnJustInTimeWrong)

/-- 'laws.FnExactLeastSquares': WHATEVER THE INPUT: true; the input reads as it did. -/
def fnExactLeastSquaresSpec : ChangeSpec := { name := "fnExactLeastSquares", fn := fun _ => fun
  | [d] => { results := [.lit (.bool true)], args := [d] }
  | _ => none }
def fnExactLeastSquaresRow : OpenClaim := { program := "ytdlnhddpgopghaa", sum := "830025b493de588ef2d37150718383252414f70041f25d2bce8a50899a4e217a", func := "loop.example/g01129/laws.FnExactLeastSquares", spec := "fnExactLeastSquares", unfollowed := true, recurses := true, plainKeys := false, apart := false }
def FnExactLeastSquaresSaid : Prop := fnExactLeastSquaresRow.holds Try.pinned (OpenSpec.ofChange fnExactLeastSquaresSpec)

/-- ITS FALSE NEIGHBOUR: 'it returns false'. Refute it at one input. -/
def fnExactLeastSquaresWrong : ChangeSpec := { name := "fnExactLeastSquares", fn := fun _ => fun
  | [d] => { results := [.lit (.bool false)], args := [d] }
  | _ => none }
def FnExactLeastSquaresWrongFalsely : Prop := fnExactLeastSquaresRow.holds Try.pinned (OpenSpec.ofChange fnExactLeastSquaresWrong)

/-- 'laws.FnExactIsReachable': WHATEVER THE INPUT: true; the input reads as it did. -/
def fnExactIsReachableSpec : ChangeSpec := { name := "fnExactIsReachable", fn := fun _ => fun
  | [d1, d2] => { results := [.lit (.bool true)], args := [d1, d2] }
  | _ => none }
def fnExactIsReachableRow : OpenClaim := { program := "ytdlnhddpgopghaa", sum := "830025b493de588ef2d37150718383252414f70041f25d2bce8a50899a4e217a", func := "loop.example/g01129/laws.FnExactIsReachable", spec := "fnExactIsReachable", unfollowed := true, recurses := true, plainKeys := false, apart := false }
def FnExactIsReachableSaid : Prop := fnExactIsReachableRow.holds Try.pinned (OpenSpec.ofChange fnExactIsReachableSpec)

/-- ITS FALSE NEIGHBOUR: 'it returns false'. Refute it at one input. -/
def fnExactIsReachableWrong : ChangeSpec := { name := "fnExactIsReachable", fn := fun _ => fun
  | [d1, d2] => { results := [.lit (.bool false)], args := [d1, d2] }
  | _ => none }
def FnExactIsReachableWrongFalsely : Prop := fnExactIsReachableRow.holds Try.pinned (OpenSpec.ofChange fnExactIsReachableWrong)

/- THE SECOND FORM. 'bulk': how many values and letters a reading holds, each counted each time it is reached (what is shared counts as often as it is met; a slice's spare places count too). A statement '..UptoSaid' is the law's where the arguments, and the package variables that the reading takes, are together of bulk at most 1048576: NARROWER than '..Said'. Prove '..Said' where nothing that the law and all that it calls make is longer than what came in: it says more and counts as full. Else prove '..UptoSaid'. A law counts once. -/
mutual
def uptoBulk {H : Type} : DataW H → Nat
  | .lit (.string bytes) => bytes.length + 1
  | .lit _ => 1
  | .nil => 1
  | .ptr d => uptoBulk d + 1
  | .slice elems spare => uptoBulkAll elems + uptoBulkAll spare + 1
  | .agg parts => uptoBulkAll parts + 1
  | .iface _ d => uptoBulk d + 1
  | .map entries => uptoBulkEntries entries + 1
  | .held _ => 1
def uptoBulkAll {H : Type} : List (DataW H) → Nat
  | [] => 0
  | d :: r => uptoBulk d + uptoBulkAll r
def uptoBulkEntries {H : Type} : List (Lit × DataW H) → Nat
  | [] => 0
  | x :: r => uptoBulkEntry x + uptoBulkEntries r
def uptoBulkEntry {H : Type} : Lit × DataW H → Nat
  | (.string bytes, d) => bytes.length + uptoBulk d + 1
  | (_, d) => uptoBulk d + 1
 end
def uptoSmall : (H : Type) → List (DataW H) → Bool := fun _ ds => decide (uptoBulkAll ds ≤ 1048576)
def OpenSpec.upto (s : _root_.Go.ChangeSpec) : _root_.Go.OpenSpec := { _root_.Go.OpenSpec.ofChange s with cond := some uptoSmall }

/-- 'laws.FnExactSystemRounding', WHERE WHAT IT READS IS OF BULK AT MOST 1048576: true; the input reads as it did. -/
def fnExactSystemRoundingUptoRow : OpenClaim := { program := "ytdlnhddpgopghaa", sum := "830025b493de588ef2d37150718383252414f70041f25d2bce8a50899a4e217a", func := "loop.example/g01129/laws.FnExactSystemRounding", spec := "fnExactSystemRounding", unfollowed := true, recurses := true, plainKeys := false, apart := false, narrowed := true }
def FnExactSystemRoundingUptoSaid : Prop := fnExactSystemRoundingUptoRow.holds Try.pinned (OpenSpec.upto fnExactSystemRoundingSpec)

/-- 'laws.FnSystemRounded', WHERE WHAT IT READS IS OF BULK AT MOST 1048576: true; the input reads as it did. -/
def fnSystemRoundedUptoRow : OpenClaim := { program := "ytdlnhddpgopghaa", sum := "830025b493de588ef2d37150718383252414f70041f25d2bce8a50899a4e217a", func := "loop.example/g01129/laws.FnSystemRounded", spec := "fnSystemRounded", unfollowed := true, recurses := true, plainKeys := false, apart := false, narrowed := true }
def FnSystemRoundedUptoSaid : Prop := fnSystemRoundedUptoRow.holds Try.pinned (OpenSpec.upto fnSystemRoundedSpec)

/-- 'laws.FnJustInTime', WHERE WHAT IT READS IS OF BULK AT MOST 1048576: true; the input reads as it did. -/
def fnJustInTimeUptoRow : OpenClaim := { program := "ytdlnhddpgopghaa", sum := "830025b493de588ef2d37150718383252414f70041f25d2bce8a50899a4e217a", func := "loop.example/g01129/laws.FnJustInTime", spec := "fnJustInTime", unfollowed := true, recurses := true, plainKeys := false, apart := false, narrowed := true }
def FnJustInTimeUptoSaid : Prop := fnJustInTimeUptoRow.holds Try.pinned (OpenSpec.upto fnJustInTimeSpec)

/-- 'laws.FnExactLeastSquares', WHERE WHAT IT READS IS OF BULK AT MOST 1048576: true; the input reads as it did. -/
def fnExactLeastSquaresUptoRow : OpenClaim := { program := "ytdlnhddpgopghaa", sum := "830025b493de588ef2d37150718383252414f70041f25d2bce8a50899a4e217a", func := "loop.example/g01129/laws.FnExactLeastSquares", spec := "fnExactLeastSquares", unfollowed := true, recurses := true, plainKeys := false, apart := false, narrowed := true }
def FnExactLeastSquaresUptoSaid : Prop := fnExactLeastSquaresUptoRow.holds Try.pinned (OpenSpec.upto fnExactLeastSquaresSpec)

/-- 'laws.FnExactIsReachable', WHERE WHAT IT READS IS OF BULK AT MOST 1048576: true; the input reads as it did. -/
def fnExactIsReachableUptoRow : OpenClaim := { program := "ytdlnhddpgopghaa", sum := "830025b493de588ef2d37150718383252414f70041f25d2bce8a50899a4e217a", func := "loop.example/g01129/laws.FnExactIsReachable", spec := "fnExactIsReachable", unfollowed := true, recurses := true, plainKeys := false, apart := false, narrowed := true }
def FnExactIsReachableUptoSaid : Prop := fnExactIsReachableUptoRow.holds Try.pinned (OpenSpec.upto fnExactIsReachableSpec)

end Rows
end Go.Proofs.Ytdlnhddpgopghaa
