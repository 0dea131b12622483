/-
  No cell of these rows narrows 'for every input' (looked for: loops, veiled, ifaces, maps, wideKeys, modest, calm, conditions, laid).
  DERIVED. THE GIVEN ROWS OF THIS SEAT. 12 by the template 'for every input the law returns true; each argument reads behind the call as it read before'; 0 by the template 'total and deterministic' (their statements: YtplgfchiaapmfaaTotals.lean).
  GIVEN WITH THE SEED: the statements are not yours to turn. If you find one false, say at which input.
  Laid BY PROGRAM, IN A SANDBOX (cutbox-rows.mjs): the forced cells as the released guide's own fill.sh prints them over the translation 08b11f29ac0cf619… (all of the seat's roots in one cut). By AI agents, Wed Nov 11 2026. No macro, syntax, notation, axiom, sorry.
-/
import Derived.Test.YtplgfchiaapmfaaChecked
import GoSem.Claim
import GoSem.ClaimJoined
import GoSem.ClaimMapViews
import Derived.JoinedTies
import Derived.KernelRfl
namespace Go.Proofs.Ytplgfchiaapmfaa
/- THE CELL 'sum', in the pinned program and in every row, IS THE sha256 OF THE DUMP (.gsa) THAT YtplgfchiaapmfaaProg.lean LOADS. Nothing in Lean hashes anything: it is a label: what it is worth is what the hold of that sum in a sandbox is worth. -/
noncomputable def Try.pinned : Pinned := { name := "ytplgfchiaapmfaa", sum := "08b11f29ac0cf61980cf505b74f8f933f3343bef6fd69c03e4d025293fa4456d", checked := Try.checked }
namespace Rows
def none {H : Type} : Left H := { results := [], args := [] }

/-- 'laws.FnExactValidSystem': WHATEVER THE INPUT: true; the input reads as it did. -/
def fnExactValidSystemSpec : ChangeSpec := { name := "fnExactValidSystem", fn := fun _ => fun
  | [d] => { results := [.lit (.bool true)], args := [d] }
  | _ => none }
def fnExactValidSystemRow : OpenClaim := { program := "ytplgfchiaapmfaa", sum := "08b11f29ac0cf61980cf505b74f8f933f3343bef6fd69c03e4d025293fa4456d", func := "loop.example/g01129/laws.FnExactValidSystem", spec := "fnExactValidSystem", unfollowed := true, recurses := true, apart := false }
def FnExactValidSystemSaid : Prop := fnExactValidSystemRow.holds Try.pinned (OpenSpec.ofChange fnExactValidSystemSpec)

/-- ITS FALSE NEIGHBOUR: 'it returns false'. Refute it at one input. -/
def fnExactValidSystemWrong : ChangeSpec := { name := "fnExactValidSystem", fn := fun _ => fun
  | [d] => { results := [.lit (.bool false)], args := [d] }
  | _ => none }
def FnExactValidSystemWrongFalsely : Prop := fnExactValidSystemRow.holds Try.pinned (OpenSpec.ofChange fnExactValidSystemWrong)

/-- 'laws.FnExactDegreeOf': WHATEVER THE INPUT: true; the input reads as it did. -/
def fnExactDegreeOfSpec : ChangeSpec := { name := "fnExactDegreeOf", fn := fun _ => fun
  | [d] => { results := [.lit (.bool true)], args := [d] }
  | _ => none }
def fnExactDegreeOfRow : OpenClaim := { program := "ytplgfchiaapmfaa", sum := "08b11f29ac0cf61980cf505b74f8f933f3343bef6fd69c03e4d025293fa4456d", func := "loop.example/g01129/laws.FnExactDegreeOf", spec := "fnExactDegreeOf", unfollowed := true, recurses := true, apart := false }
def FnExactDegreeOfSaid : Prop := fnExactDegreeOfRow.holds Try.pinned (OpenSpec.ofChange fnExactDegreeOfSpec)

/-- ITS FALSE NEIGHBOUR: 'it returns false'. Refute it at one input. -/
def fnExactDegreeOfWrong : ChangeSpec := { name := "fnExactDegreeOf", fn := fun _ => fun
  | [d] => { results := [.lit (.bool false)], args := [d] }
  | _ => none }
def FnExactDegreeOfWrongFalsely : Prop := fnExactDegreeOfRow.holds Try.pinned (OpenSpec.ofChange fnExactDegreeOfWrong)

/-- 'laws.FnExactHadamardSystem': WHATEVER THE INPUT: true; the input reads as it did. -/
def fnExactHadamardSystemSpec : ChangeSpec := { name := "fnExactHadamardSystem", fn := fun _ => fun
  | [d] => { results := [.lit (.bool true)], args := [d] }
  | _ => none }
def fnExactHadamardSystemRow : OpenClaim := { program := "ytplgfchiaapmfaa", sum := "08b11f29ac0cf61980cf505b74f8f933f3343bef6fd69c03e4d025293fa4456d", func := "loop.example/g01129/laws.FnExactHadamardSystem", spec := "fnExactHadamardSystem", apart := false }
def FnExactHadamardSystemSaid : Prop := fnExactHadamardSystemRow.holds Try.pinned (OpenSpec.ofChange fnExactHadamardSystemSpec)

/-- ITS FALSE NEIGHBOUR: 'it returns false'. Refute it at one input. -/
def fnExactHadamardSystemWrong : ChangeSpec := { name := "fnExactHadamardSystem", fn := fun _ => fun
  | [d] => { results := [.lit (.bool false)], args := [d] }
  | _ => none }
def FnExactHadamardSystemWrongFalsely : Prop := fnExactHadamardSystemRow.holds Try.pinned (OpenSpec.ofChange fnExactHadamardSystemWrong)

/-- 'laws.FnExactIntervalSystem': WHATEVER THE INPUT: true; the input reads as it did. -/
def fnExactIntervalSystemSpec : ChangeSpec := { name := "fnExactIntervalSystem", fn := fun _ => fun
  | [d1, d2] => { results := [.lit (.bool true)], args := [d1, d2] }
  | _ => none }
def fnExactIntervalSystemRow : OpenClaim := { program := "ytplgfchiaapmfaa", sum := "08b11f29ac0cf61980cf505b74f8f933f3343bef6fd69c03e4d025293fa4456d", func := "loop.example/g01129/laws.FnExactIntervalSystem", spec := "fnExactIntervalSystem", unfollowed := true, recurses := true, apart := false }
def FnExactIntervalSystemSaid : Prop := fnExactIntervalSystemRow.holds Try.pinned (OpenSpec.ofChange fnExactIntervalSystemSpec)

/-- ITS FALSE NEIGHBOUR: 'it returns false'. Refute it at one input. -/
def fnExactIntervalSystemWrong : ChangeSpec := { name := "fnExactIntervalSystem", fn := fun _ => fun
  | [d1, d2] => { results := [.lit (.bool false)], args := [d1, d2] }
  | _ => none }
def FnExactIntervalSystemWrongFalsely : Prop := fnExactIntervalSystemRow.holds Try.pinned (OpenSpec.ofChange fnExactIntervalSystemWrong)

/-- 'laws.FnExactAverageImbalance': WHATEVER THE INPUT: true; the input reads as it did. -/
def fnExactAverageImbalanceSpec : ChangeSpec := { name := "fnExactAverageImbalance", fn := fun _ => fun
  | [d] => { results := [.lit (.bool true)], args := [d] }
  | _ => none }
def fnExactAverageImbalanceRow : OpenClaim := { program := "ytplgfchiaapmfaa", sum := "08b11f29ac0cf61980cf505b74f8f933f3343bef6fd69c03e4d025293fa4456d", func := "loop.example/g01129/laws.FnExactAverageImbalance", spec := "fnExactAverageImbalance", unfollowed := true, recurses := true, apart := false }
def FnExactAverageImbalanceSaid : Prop := fnExactAverageImbalanceRow.holds Try.pinned (OpenSpec.ofChange fnExactAverageImbalanceSpec)

/-- ITS FALSE NEIGHBOUR: 'it returns false'. Refute it at one input. -/
def fnExactAverageImbalanceWrong : ChangeSpec := { name := "fnExactAverageImbalance", fn := fun _ => fun
  | [d] => { results := [.lit (.bool false)], args := [d] }
  | _ => none }
def FnExactAverageImbalanceWrongFalsely : Prop := fnExactAverageImbalanceRow.holds Try.pinned (OpenSpec.ofChange fnExactAverageImbalanceWrong)

/-- 'laws.FnColoured': WHATEVER THE INPUT: true; the input reads as it did. -/
def fnColouredSpec : ChangeSpec := { name := "fnColoured", fn := fun _ => fun
  | [d1, d2] => { results := [.lit (.bool true)], args := [d1, d2] }
  | _ => none }
def fnColouredRow : OpenClaim := { program := "ytplgfchiaapmfaa", sum := "08b11f29ac0cf61980cf505b74f8f933f3343bef6fd69c03e4d025293fa4456d", func := "loop.example/g01129/laws.FnColoured", spec := "fnColoured", unfollowed := true, recurses := true, apart := false }
def FnColouredSaid : Prop := fnColouredRow.holds Try.pinned (OpenSpec.ofChange fnColouredSpec)

/-- ITS FALSE NEIGHBOUR: 'it returns false'. Refute it at one input. -/
def fnColouredWrong : ChangeSpec := { name := "fnColoured", fn := fun _ => fun
  | [d1, d2] => { results := [.lit (.bool false)], args := [d1, d2] }
  | _ => none }
def FnColouredWrongFalsely : Prop := fnColouredRow.holds Try.pinned (OpenSpec.ofChange fnColouredWrong)

/-- 'laws.FnExactImbalancesOf': WHATEVER THE INPUT: true; the input reads as it did. -/
def fnExactImbalancesOfSpec : ChangeSpec := { name := "fnExactImbalancesOf", fn := fun _ => fun
  | [d1, d2] => { results := [.lit (.bool true)], args := [d1, d2] }
  | _ => none }
def fnExactImbalancesOfRow : OpenClaim := { program := "ytplgfchiaapmfaa", sum := "08b11f29ac0cf61980cf505b74f8f933f3343bef6fd69c03e4d025293fa4456d", func := "loop.example/g01129/laws.FnExactImbalancesOf", spec := "fnExactImbalancesOf", unfollowed := true, recurses := true, apart := false }
def FnExactImbalancesOfSaid : Prop := fnExactImbalancesOfRow.holds Try.pinned (OpenSpec.ofChange fnExactImbalancesOfSpec)

/-- ITS FALSE NEIGHBOUR: 'it returns false'. Refute it at one input. -/
def fnExactImbalancesOfWrong : ChangeSpec := { name := "fnExactImbalancesOf", fn := fun _ => fun
  | [d1, d2] => { results := [.lit (.bool false)], args := [d1, d2] }
  | _ => none }
def FnExactImbalancesOfWrongFalsely : Prop := fnExactImbalancesOfRow.holds Try.pinned (OpenSpec.ofChange fnExactImbalancesOfWrong)

/-- 'laws.FnHereditary': WHATEVER THE INPUT: true; the input reads as it did. -/
def fnHereditarySpec : ChangeSpec := { name := "fnHereditary", fn := fun _ => fun
  | [d1, d2] => { results := [.lit (.bool true)], args := [d1, d2] }
  | _ => none }
def fnHereditaryRow : OpenClaim := { program := "ytplgfchiaapmfaa", sum := "08b11f29ac0cf61980cf505b74f8f933f3343bef6fd69c03e4d025293fa4456d", func := "loop.example/g01129/laws.FnHereditary", spec := "fnHereditary", unfollowed := true, recurses := true, apart := false }
def FnHereditarySaid : Prop := fnHereditaryRow.holds Try.pinned (OpenSpec.ofChange fnHereditarySpec)

/-- ITS FALSE NEIGHBOUR: 'it returns false'. Refute it at one input. -/
def fnHereditaryWrong : ChangeSpec := { name := "fnHereditary", fn := fun _ => fun
  | [d1, d2] => { results := [.lit (.bool false)], args := [d1, d2] }
  | _ => none }
def FnHereditaryWrongFalsely : Prop := fnHereditaryRow.holds Try.pinned (OpenSpec.ofChange fnHereditaryWrong)

/-- 'laws.FnExactRestrictSystem': WHATEVER THE INPUT: true; the input reads as it did. -/
def fnExactRestrictSystemSpec : ChangeSpec := { name := "fnExactRestrictSystem", fn := fun _ => fun
  | [d1, d2] => { results := [.lit (.bool true)], args := [d1, d2] }
  | _ => none }
def fnExactRestrictSystemRow : OpenClaim := { program := "ytplgfchiaapmfaa", sum := "08b11f29ac0cf61980cf505b74f8f933f3343bef6fd69c03e4d025293fa4456d", func := "loop.example/g01129/laws.FnExactRestrictSystem", spec := "fnExactRestrictSystem", unfollowed := true, recurses := true, apart := false }
def FnExactRestrictSystemSaid : Prop := fnExactRestrictSystemRow.holds Try.pinned (OpenSpec.ofChange fnExactRestrictSystemSpec)

/-- ITS FALSE NEIGHBOUR: 'it returns false'. Refute it at one input. -/
def fnExactRestrictSystemWrong : ChangeSpec := { name := "fnExactRestrictSystem", fn := fun _ => fun
  | [d1, d2] => { results := [.lit (.bool false)], args := [d1, d2] }
  | _ => none }
def FnExactRestrictSystemWrongFalsely : Prop := fnExactRestrictSystemRow.holds Try.pinned (OpenSpec.ofChange fnExactRestrictSystemWrong)

/-- 'laws.FnExactDiscrepancyOf': WHATEVER THE INPUT: true; the input reads as it did. -/
def fnExactDiscrepancyOfSpec : ChangeSpec := { name := "fnExactDiscrepancyOf", fn := fun _ => fun
  | [d] => { results := [.lit (.bool true)], args := [d] }
  | _ => none }
def fnExactDiscrepancyOfRow : OpenClaim := { program := "ytplgfchiaapmfaa", sum := "08b11f29ac0cf61980cf505b74f8f933f3343bef6fd69c03e4d025293fa4456d", func := "loop.example/g01129/laws.FnExactDiscrepancyOf", spec := "fnExactDiscrepancyOf", unfollowed := true, recurses := true, apart := false }
def FnExactDiscrepancyOfSaid : Prop := fnExactDiscrepancyOfRow.holds Try.pinned (OpenSpec.ofChange fnExactDiscrepancyOfSpec)

/-- ITS FALSE NEIGHBOUR: 'it returns false'. Refute it at one input. -/
def fnExactDiscrepancyOfWrong : ChangeSpec := { name := "fnExactDiscrepancyOf", fn := fun _ => fun
  | [d] => { results := [.lit (.bool false)], args := [d] }
  | _ => none }
def FnExactDiscrepancyOfWrongFalsely : Prop := fnExactDiscrepancyOfRow.holds Try.pinned (OpenSpec.ofChange fnExactDiscrepancyOfWrong)

/-- 'laws.FnExactHereditaryOf': WHATEVER THE INPUT: true; the input reads as it did. -/
def fnExactHereditaryOfSpec : ChangeSpec := { name := "fnExactHereditaryOf", fn := fun _ => fun
  | [d] => { results := [.lit (.bool true)], args := [d] }
  | _ => none }
def fnExactHereditaryOfRow : OpenClaim := { program := "ytplgfchiaapmfaa", sum := "08b11f29ac0cf61980cf505b74f8f933f3343bef6fd69c03e4d025293fa4456d", func := "loop.example/g01129/laws.FnExactHereditaryOf", spec := "fnExactHereditaryOf", unfollowed := true, recurses := true, apart := false }
def FnExactHereditaryOfSaid : Prop := fnExactHereditaryOfRow.holds Try.pinned (OpenSpec.ofChange fnExactHereditaryOfSpec)

/-- ITS FALSE NEIGHBOUR: 'it returns false'. Refute it at one input. -/
def fnExactHereditaryOfWrong : ChangeSpec := { name := "fnExactHereditaryOf", fn := fun _ => fun
  | [d] => { results := [.lit (.bool false)], args := [d] }
  | _ => none }
def FnExactHereditaryOfWrongFalsely : Prop := fnExactHereditaryOfRow.holds Try.pinned (OpenSpec.ofChange fnExactHereditaryOfWrong)

/-- 'laws.FnExactIsUnimodular': WHATEVER THE INPUT: true; the input reads as it did. -/
def fnExactIsUnimodularSpec : ChangeSpec := { name := "fnExactIsUnimodular", fn := fun _ => fun
  | [d] => { results := [.lit (.bool true)], args := [d] }
  | _ => none }
def fnExactIsUnimodularRow : OpenClaim := { program := "ytplgfchiaapmfaa", sum := "08b11f29ac0cf61980cf505b74f8f933f3343bef6fd69c03e4d025293fa4456d", func := "loop.example/g01129/laws.FnExactIsUnimodular", spec := "fnExactIsUnimodular", unfollowed := true, recurses := true, apart := false }
def FnExactIsUnimodularSaid : Prop := fnExactIsUnimodularRow.holds Try.pinned (OpenSpec.ofChange fnExactIsUnimodularSpec)

/-- ITS FALSE NEIGHBOUR: 'it returns false'. Refute it at one input. -/
def fnExactIsUnimodularWrong : ChangeSpec := { name := "fnExactIsUnimodular", fn := fun _ => fun
  | [d] => { results := [.lit (.bool false)], args := [d] }
  | _ => none }
def FnExactIsUnimodularWrongFalsely : Prop := fnExactIsUnimodularRow.holds Try.pinned (OpenSpec.ofChange fnExactIsUnimodularWrong)

/- THE SECOND FORM. 'bulk': how many values and letters a reading holds, each counted each time it is reached (what is shared counts as often as it is met; a slice's spare places count too). A statement '..UptoSaid' is the law's where the arguments, and the package variables that the reading takes, are together of bulk at most 1048576: NARROWER than '..Said'. Prove '..Said' where nothing that the law and all that it calls make is longer than what came in: it says more and counts as full. Else prove '..UptoSaid'. A law counts once. -/
mutual
def uptoBulk {H : Type} : DataW H → Nat
  | .lit (.string bytes) => bytes.length + 1
  | .lit _ => 1
  | .nil => 1
  | .ptr d => uptoBulk d + 1
  | .slice elems spare => uptoBulkAll elems + uptoBulkAll spare + 1
  | .agg parts => uptoBulkAll parts + 1
  | .iface _ d => uptoBulk d + 1
  | .map entries => uptoBulkEntries entries + 1
  | .held _ => 1
def uptoBulkAll {H : Type} : List (DataW H) → Nat
  | [] => 0
  | d :: r => uptoBulk d + uptoBulkAll r
def uptoBulkEntries {H : Type} : List (Lit × DataW H) → Nat
  | [] => 0
  | x :: r => uptoBulkEntry x + uptoBulkEntries r
def uptoBulkEntry {H : Type} : Lit × DataW H → Nat
  | (.string bytes, d) => bytes.length + uptoBulk d + 1
  | (_, d) => uptoBulk d + 1
 end
def uptoSmall : (H : Type) → List (DataW H) → Bool := fun _ ds => decide (uptoBulkAll ds ≤ 1048576)
def OpenSpec.upto (s : _root_.Go.ChangeSpec) : _root_.Go.OpenSpec := { _root_.Go.OpenSpec.ofChange s with cond := some uptoSmall }

/-- 'laws.FnExactValidSystem', WHERE WHAT IT READS IS OF BULK AT MOST 1048576: true; the input reads as it did. -/
def fnExactValidSystemUptoRow : OpenClaim := { program := "ytplgfchiaapmfaa", sum := "08b11f29ac0cf61980cf505b74f8f933f3343bef6fd69c03e4d025293fa4456d", func := "loop.example/g01129/laws.FnExactValidSystem", spec := "fnExactValidSystem", unfollowed := true, recurses := true, apart := false, narrowed := true }
def FnExactValidSystemUptoSaid : Prop := fnExactValidSystemUptoRow.holds Try.pinned (OpenSpec.upto fnExactValidSystemSpec)

/-- 'laws.FnExactDegreeOf', WHERE WHAT IT READS IS OF BULK AT MOST 1048576: true; the input reads as it did. -/
def fnExactDegreeOfUptoRow : OpenClaim := { program := "ytplgfchiaapmfaa", sum := "08b11f29ac0cf61980cf505b74f8f933f3343bef6fd69c03e4d025293fa4456d", func := "loop.example/g01129/laws.FnExactDegreeOf", spec := "fnExactDegreeOf", unfollowed := true, recurses := true, apart := false, narrowed := true }
def FnExactDegreeOfUptoSaid : Prop := fnExactDegreeOfUptoRow.holds Try.pinned (OpenSpec.upto fnExactDegreeOfSpec)

/-- 'laws.FnExactHadamardSystem', WHERE WHAT IT READS IS OF BULK AT MOST 1048576: true; the input reads as it did. -/
def fnExactHadamardSystemUptoRow : OpenClaim := { program := "ytplgfchiaapmfaa", sum := "08b11f29ac0cf61980cf505b74f8f933f3343bef6fd69c03e4d025293fa4456d", func := "loop.example/g01129/laws.FnExactHadamardSystem", spec := "fnExactHadamardSystem", apart := false, narrowed := true }
def FnExactHadamardSystemUptoSaid : Prop := fnExactHadamardSystemUptoRow.holds Try.pinned (OpenSpec.upto fnExactHadamardSystemSpec)

/-- 'laws.FnExactIntervalSystem', WHERE WHAT IT READS IS OF BULK AT MOST 1048576: true; the input reads as it did. -/
def fnExactIntervalSystemUptoRow : OpenClaim := { program := "ytplgfchiaapmfaa", sum := "08b11f29ac0cf61980cf505b74f8f933f3343bef6fd69c03e4d025293fa4456d", func := "loop.example/g01129/laws.FnExactIntervalSystem", spec := "fnExactIntervalSystem", unfollowed := true, recurses := true, apart := false, narrowed := true }
def FnExactIntervalSystemUptoSaid : Prop := fnExactIntervalSystemUptoRow.holds Try.pinned (OpenSpec.upto fnExactIntervalSystemSpec)

/-- 'laws.FnExactAverageImbalance', WHERE WHAT IT READS IS OF BULK AT MOST 1048576: true; the input reads as it did. -/
def fnExactAverageImbalanceUptoRow : OpenClaim := { program := "ytplgfchiaapmfaa", sum := "08b11f29ac0cf61980cf505b74f8f933f3343bef6fd69c03e4d025293fa4456d", func := "loop.example/g01129/laws.FnExactAverageImbalance", spec := "fnExactAverageImbalance", unfollowed := true, recurses := true, apart := false, narrowed := true }
def FnExactAverageImbalanceUptoSaid : Prop := fnExactAverageImbalanceUptoRow.holds Try.pinned (OpenSpec.upto fnExactAverageImbalanceSpec)

/-- 'laws.FnColoured', WHERE WHAT IT READS IS OF BULK AT MOST 1048576: true; the input reads as it did. -/
def fnColouredUptoRow : OpenClaim := { program := "ytplgfchiaapmfaa", sum := "08b11f29ac0cf61980cf505b74f8f933f3343bef6fd69c03e4d025293fa4456d", func := "loop.example/g01129/laws.FnColoured", spec := "fnColoured", unfollowed := true, recurses := true, apart := false, narrowed := true }
def FnColouredUptoSaid : Prop := fnColouredUptoRow.holds Try.pinned (OpenSpec.upto fnColouredSpec)

/-- 'laws.FnExactImbalancesOf', WHERE WHAT IT READS IS OF BULK AT MOST 1048576: true; the input reads as it did. -/
def fnExactImbalancesOfUptoRow : OpenClaim := { program := "ytplgfchiaapmfaa", sum := "08b11f29ac0cf61980cf505b74f8f933f3343bef6fd69c03e4d025293fa4456d", func := "loop.example/g01129/laws.FnExactImbalancesOf", spec := "fnExactImbalancesOf", unfollowed := true, recurses := true, apart := false, narrowed := true }
def FnExactImbalancesOfUptoSaid : Prop := fnExactImbalancesOfUptoRow.holds Try.pinned (OpenSpec.upto fnExactImbalancesOfSpec)

/-- 'laws.FnHereditary', WHERE WHAT IT READS IS OF BULK AT MOST 1048576: true; the input reads as it did. -/
def fnHereditaryUptoRow : OpenClaim := { program := "ytplgfchiaapmfaa", sum := "08b11f29ac0cf61980cf505b74f8f933f3343bef6fd69c03e4d025293fa4456d", func := "loop.example/g01129/laws.FnHereditary", spec := "fnHereditary", unfollowed := true, recurses := true, apart := false, narrowed := true }
def FnHereditaryUptoSaid : Prop := fnHereditaryUptoRow.holds Try.pinned (OpenSpec.upto fnHereditarySpec)

/-- 'laws.FnExactRestrictSystem', WHERE WHAT IT READS IS OF BULK AT MOST 1048576: true; the input reads as it did. -/
def fnExactRestrictSystemUptoRow : OpenClaim := { program := "ytplgfchiaapmfaa", sum := "08b11f29ac0cf61980cf505b74f8f933f3343bef6fd69c03e4d025293fa4456d", func := "loop.example/g01129/laws.FnExactRestrictSystem", spec := "fnExactRestrictSystem", unfollowed := true, recurses := true, apart := false, narrowed := true }
def FnExactRestrictSystemUptoSaid : Prop := fnExactRestrictSystemUptoRow.holds Try.pinned (OpenSpec.upto fnExactRestrictSystemSpec)

/-- 'laws.FnExactDiscrepancyOf', WHERE WHAT IT READS IS OF BULK AT MOST 1048576: true; the input reads as it did. -/
def fnExactDiscrepancyOfUptoRow : OpenClaim := { program := "ytplgfchiaapmfaa", sum := "08b11f29ac0cf61980cf505b74f8f933f3343bef6fd69c03e4d025293fa4456d", func := "loop.example/g01129/laws.FnExactDiscrepancyOf", spec := "fnExactDiscrepancyOf", unfollowed := true, recurses := true, apart := false, narrowed := true }
def FnExactDiscrepancyOfUptoSaid : Prop := fnExactDiscrepancyOfUptoRow.holds Try.pinned (OpenSpec.upto fnExactDiscrepancyOfSpec)

/-- 'laws.FnExactHereditaryOf', WHERE WHAT IT READS IS OF BULK AT MOST 1048576: true; the input reads as it did. -/
def fnExactHereditaryOfUptoRow : OpenClaim := { program := "ytplgfchiaapmfaa", sum := "08b11f29ac0cf61980cf505b74f8f933f3343bef6fd69c03e4d025293fa4456d", func := "loop.example/g01129/laws.FnExactHereditaryOf", spec := "fnExactHereditaryOf", unfollowed := true, recurses := true, apart := false, narrowed := true }
def FnExactHereditaryOfUptoSaid : Prop := fnExactHereditaryOfUptoRow.holds Try.pinned (OpenSpec.upto fnExactHereditaryOfSpec)

/-- 'laws.FnExactIsUnimodular', WHERE WHAT IT READS IS OF BULK AT MOST 1048576: true; the input reads as it did. -/
def fnExactIsUnimodularUptoRow : OpenClaim := { program := "ytplgfchiaapmfaa", sum := "08b11f29ac0cf61980cf505b74f8f933f3343bef6fd69c03e4d025293fa4456d", func := "loop.example/g01129/laws.FnExactIsUnimodular", spec := "fnExactIsUnimodular", unfollowed := true, recurses := true, apart := false, narrowed := true }
def FnExactIsUnimodularUptoSaid : Prop := fnExactIsUnimodularUptoRow.holds Try.pinned (OpenSpec.upto fnExactIsUnimodularSpec)

end Rows
end Go.Proofs.Ytplgfchiaapmfaa
