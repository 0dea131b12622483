/-
  No cell of these rows narrows 'for every input' (looked for: loops, veiled, ifaces, maps, wideKeys, modest, calm, conditions, laid).
  DERIVED. THE GIVEN ROWS OF THIS SEAT. 12 by the template 'for every input the law returns true; each argument reads behind the call as it read before'; 0 by the template 'total and deterministic' (their statements: YtjeidmbggdgggaaTotals.lean).
  GIVEN WITH THE SEED: the statements are not yours to turn. If you find one false, say at which input.
  Laid BY PROGRAM, IN A SANDBOX (cutbox-rows.mjs): the forced cells as the released guide's own fill.sh prints them over the translation 7ed7916081d2ef10… (all of the seat's roots in one cut). By AI agents, Wed Nov 11 2026. No macro, syntax, notation, axiom, sorry.
-/
import Derived.Test.YtjeidmbggdgggaaChecked
import GoSem.Claim
import GoSem.ClaimJoined
import GoSem.ClaimMapViews
import Derived.JoinedTies
import Derived.KernelRfl
namespace Go.Proofs.Ytjeidmbggdgggaa
/- THE CELL 'sum', in the pinned program and in every row, IS THE sha256 OF THE DUMP (.gsa) THAT YtjeidmbggdgggaaProg.lean LOADS. Nothing in Lean hashes anything: it is a label: what it is worth is what the hold of that sum in a sandbox is worth. -/
noncomputable def Try.pinned : Pinned := { name := "ytjeidmbggdgggaa", sum := "7ed7916081d2ef102b9a76438fb797bb790f8bb46923eeec0ad0321bf4d04140", checked := Try.checked }
namespace Rows
def none {H : Type} : Left H := { results := [], args := [] }

/-- 'laws.FnBestCycle': WHATEVER THE INPUT: true; the input reads as it did. -/
def fnBestCycleSpec : ChangeSpec := { name := "fnBestCycle", fn := fun _ => fun
  | [d1, d2] => { results := [.lit (.bool true)], args := [d1, d2] }
  | _ => none }
def fnBestCycleRow : OpenClaim := { program := "ytjeidmbggdgggaa", sum := "7ed7916081d2ef102b9a76438fb797bb790f8bb46923eeec0ad0321bf4d04140", func := "loop.example/g01129/laws.FnBestCycle", spec := "fnBestCycle", apart := false }
def FnBestCycleSaid : Prop := fnBestCycleRow.holds Try.pinned (OpenSpec.ofChange fnBestCycleSpec)

/-- ITS FALSE NEIGHBOUR: 'it returns false'. Refute it at one input. -/
def fnBestCycleWrong : ChangeSpec := { name := "fnBestCycle", fn := fun _ => fun
  | [d1, d2] => { results := [.lit (.bool false)], args := [d1, d2] }
  | _ => none }
def FnBestCycleWrongFalsely : Prop := fnBestCycleRow.holds Try.pinned (OpenSpec.ofChange fnBestCycleWrong)

/-- 'laws.FnExactBestCycle': WHATEVER THE INPUT: true; the input reads as it did. -/
def fnExactBestCycleSpec : ChangeSpec := { name := "fnExactBestCycle", fn := fun _ => fun
  | [d1, d2, d3] => { results := [.lit (.bool true)], args := [d1, d2, d3] }
  | _ => none }
def fnExactBestCycleRow : OpenClaim := { program := "ytjeidmbggdgggaa", sum := "7ed7916081d2ef102b9a76438fb797bb790f8bb46923eeec0ad0321bf4d04140", func := "loop.example/g01129/laws.FnExactBestCycle", spec := "fnExactBestCycle", apart := false }
def FnExactBestCycleSaid : Prop := fnExactBestCycleRow.holds Try.pinned (OpenSpec.ofChange fnExactBestCycleSpec)

/-- ITS FALSE NEIGHBOUR: 'it returns false'. Refute it at one input. -/
def fnExactBestCycleWrong : ChangeSpec := { name := "fnExactBestCycle", fn := fun _ => fun
  | [d1, d2, d3] => { results := [.lit (.bool false)], args := [d1, d2, d3] }
  | _ => none }
def FnExactBestCycleWrongFalsely : Prop := fnExactBestCycleRow.holds Try.pinned (OpenSpec.ofChange fnExactBestCycleWrong)

/-- 'laws.FnExactValidCalendar': WHATEVER THE INPUT: true; the input reads as it did. -/
def fnExactValidCalendarSpec : ChangeSpec := { name := "fnExactValidCalendar", fn := fun _ => fun
  | [d] => { results := [.lit (.bool true)], args := [d] }
  | _ => none }
def fnExactValidCalendarRow : OpenClaim := { program := "ytjeidmbggdgggaa", sum := "7ed7916081d2ef102b9a76438fb797bb790f8bb46923eeec0ad0321bf4d04140", func := "loop.example/g01129/laws.FnExactValidCalendar", spec := "fnExactValidCalendar", apart := false }
def FnExactValidCalendarSaid : Prop := fnExactValidCalendarRow.holds Try.pinned (OpenSpec.ofChange fnExactValidCalendarSpec)

/-- ITS FALSE NEIGHBOUR: 'it returns false'. Refute it at one input. -/
def fnExactValidCalendarWrong : ChangeSpec := { name := "fnExactValidCalendar", fn := fun _ => fun
  | [d] => { results := [.lit (.bool false)], args := [d] }
  | _ => none }
def FnExactValidCalendarWrongFalsely : Prop := fnExactValidCalendarRow.holds Try.pinned (OpenSpec.ofChange fnExactValidCalendarWrong)

/-- 'laws.FnEven': WHATEVER THE INPUT: true; the input reads as it did. -/
def fnEvenSpec : ChangeSpec := { name := "fnEven", fn := fun _ => fun
  | [d1, d2] => { results := [.lit (.bool true)], args := [d1, d2] }
  | _ => none }
def fnEvenRow : OpenClaim := { program := "ytjeidmbggdgggaa", sum := "7ed7916081d2ef102b9a76438fb797bb790f8bb46923eeec0ad0321bf4d04140", func := "loop.example/g01129/laws.FnEven", spec := "fnEven", apart := false }
def FnEvenSaid : Prop := fnEvenRow.holds Try.pinned (OpenSpec.ofChange fnEvenSpec)

/-- ITS FALSE NEIGHBOUR: 'it returns false'. Refute it at one input. -/
def fnEvenWrong : ChangeSpec := { name := "fnEven", fn := fun _ => fun
  | [d1, d2] => { results := [.lit (.bool false)], args := [d1, d2] }
  | _ => none }
def FnEvenWrongFalsely : Prop := fnEvenRow.holds Try.pinned (OpenSpec.ofChange fnEvenWrong)

/-- 'laws.FnRules': WHATEVER THE INPUT: true; the input reads as it did. -/
def fnRulesSpec : ChangeSpec := { name := "fnRules", fn := fun _ => fun
  | [d1, d2] => { results := [.lit (.bool true)], args := [d1, d2] }
  | _ => none }
def fnRulesRow : OpenClaim := { program := "ytjeidmbggdgggaa", sum := "7ed7916081d2ef102b9a76438fb797bb790f8bb46923eeec0ad0321bf4d04140", func := "loop.example/g01129/laws.FnRules", spec := "fnRules", unfollowed := true, recurses := true, apart := false }
def FnRulesSaid : Prop := fnRulesRow.holds Try.pinned (OpenSpec.ofChange fnRulesSpec)

/-- ITS FALSE NEIGHBOUR: 'it returns false'. Refute it at one input. -/
def fnRulesWrong : ChangeSpec := { name := "fnRules", fn := fun _ => fun
  | [d1, d2] => { results := [.lit (.bool false)], args := [d1, d2] }
  | _ => none }
def FnRulesWrongFalsely : Prop := fnRulesRow.holds Try.pinned (OpenSpec.ofChange fnRulesWrong)

/-- 'laws.FnExactIsLeap': WHATEVER THE INPUT: true; the input reads as it did. -/
def fnExactIsLeapSpec : ChangeSpec := { name := "fnExactIsLeap", fn := fun _ => fun
  | [d1, d2] => { results := [.lit (.bool true)], args := [d1, d2] }
  | _ => none }
def fnExactIsLeapRow : OpenClaim := { program := "ytjeidmbggdgggaa", sum := "7ed7916081d2ef102b9a76438fb797bb790f8bb46923eeec0ad0321bf4d04140", func := "loop.example/g01129/laws.FnExactIsLeap", spec := "fnExactIsLeap", apart := false }
def FnExactIsLeapSaid : Prop := fnExactIsLeapRow.holds Try.pinned (OpenSpec.ofChange fnExactIsLeapSpec)

/-- ITS FALSE NEIGHBOUR: 'it returns false'. Refute it at one input. -/
def fnExactIsLeapWrong : ChangeSpec := { name := "fnExactIsLeap", fn := fun _ => fun
  | [d1, d2] => { results := [.lit (.bool false)], args := [d1, d2] }
  | _ => none }
def FnExactIsLeapWrongFalsely : Prop := fnExactIsLeapRow.holds Try.pinned (OpenSpec.ofChange fnExactIsLeapWrong)

/-- 'laws.FnExactDaysBefore': WHATEVER THE INPUT: true; the input reads as it did. -/
def fnExactDaysBeforeSpec : ChangeSpec := { name := "fnExactDaysBefore", fn := fun _ => fun
  | [d1, d2] => { results := [.lit (.bool true)], args := [d1, d2] }
  | _ => none }
def fnExactDaysBeforeRow : OpenClaim := { program := "ytjeidmbggdgggaa", sum := "7ed7916081d2ef102b9a76438fb797bb790f8bb46923eeec0ad0321bf4d04140", func := "loop.example/g01129/laws.FnExactDaysBefore", spec := "fnExactDaysBefore", apart := false }
def FnExactDaysBeforeSaid : Prop := fnExactDaysBeforeRow.holds Try.pinned (OpenSpec.ofChange fnExactDaysBeforeSpec)

/-- ITS FALSE NEIGHBOUR: 'it returns false'. Refute it at one input. -/
def fnExactDaysBeforeWrong : ChangeSpec := { name := "fnExactDaysBefore", fn := fun _ => fun
  | [d1, d2] => { results := [.lit (.bool false)], args := [d1, d2] }
  | _ => none }
def FnExactDaysBeforeWrongFalsely : Prop := fnExactDaysBeforeRow.holds Try.pinned (OpenSpec.ofChange fnExactDaysBeforeWrong)

/-- 'laws.FnExactEvenCalendar': WHATEVER THE INPUT: true; the input reads as it did. -/
def fnExactEvenCalendarSpec : ChangeSpec := { name := "fnExactEvenCalendar", fn := fun _ => fun
  | [d1, d2, d3, d4] => { results := [.lit (.bool true)], args := [d1, d2, d3, d4] }
  | _ => none }
def fnExactEvenCalendarRow : OpenClaim := { program := "ytjeidmbggdgggaa", sum := "7ed7916081d2ef102b9a76438fb797bb790f8bb46923eeec0ad0321bf4d04140", func := "loop.example/g01129/laws.FnExactEvenCalendar", spec := "fnExactEvenCalendar", apart := false }
def FnExactEvenCalendarSaid : Prop := fnExactEvenCalendarRow.holds Try.pinned (OpenSpec.ofChange fnExactEvenCalendarSpec)

/-- ITS FALSE NEIGHBOUR: 'it returns false'. Refute it at one input. -/
def fnExactEvenCalendarWrong : ChangeSpec := { name := "fnExactEvenCalendar", fn := fun _ => fun
  | [d1, d2, d3, d4] => { results := [.lit (.bool false)], args := [d1, d2, d3, d4] }
  | _ => none }
def FnExactEvenCalendarWrongFalsely : Prop := fnExactEvenCalendarRow.holds Try.pinned (OpenSpec.ofChange fnExactEvenCalendarWrong)

/-- 'laws.FnExactRuleCalendar': WHATEVER THE INPUT: true; the input reads as it did. -/
def fnExactRuleCalendarSpec : ChangeSpec := { name := "fnExactRuleCalendar", fn := fun _ => fun
  | [d1, d2] => { results := [.lit (.bool true)], args := [d1, d2] }
  | _ => none }
def fnExactRuleCalendarRow : OpenClaim := { program := "ytjeidmbggdgggaa", sum := "7ed7916081d2ef102b9a76438fb797bb790f8bb46923eeec0ad0321bf4d04140", func := "loop.example/g01129/laws.FnExactRuleCalendar", spec := "fnExactRuleCalendar", unfollowed := true, recurses := true, apart := false }
def FnExactRuleCalendarSaid : Prop := fnExactRuleCalendarRow.holds Try.pinned (OpenSpec.ofChange fnExactRuleCalendarSpec)

/-- ITS FALSE NEIGHBOUR: 'it returns false'. Refute it at one input. -/
def fnExactRuleCalendarWrong : ChangeSpec := { name := "fnExactRuleCalendar", fn := fun _ => fun
  | [d1, d2] => { results := [.lit (.bool false)], args := [d1, d2] }
  | _ => none }
def FnExactRuleCalendarWrongFalsely : Prop := fnExactRuleCalendarRow.holds Try.pinned (OpenSpec.ofChange fnExactRuleCalendarWrong)

/-- 'laws.FnExactYearOf': WHATEVER THE INPUT: true; the input reads as it did. -/
def fnExactYearOfSpec : ChangeSpec := { name := "fnExactYearOf", fn := fun _ => fun
  | [d1, d2] => { results := [.lit (.bool true)], args := [d1, d2] }
  | _ => none }
def fnExactYearOfRow : OpenClaim := { program := "ytjeidmbggdgggaa", sum := "7ed7916081d2ef102b9a76438fb797bb790f8bb46923eeec0ad0321bf4d04140", func := "loop.example/g01129/laws.FnExactYearOf", spec := "fnExactYearOf", apart := false }
def FnExactYearOfSaid : Prop := fnExactYearOfRow.holds Try.pinned (OpenSpec.ofChange fnExactYearOfSpec)

/-- ITS FALSE NEIGHBOUR: 'it returns false'. Refute it at one input. -/
def fnExactYearOfWrong : ChangeSpec := { name := "fnExactYearOf", fn := fun _ => fun
  | [d1, d2] => { results := [.lit (.bool false)], args := [d1, d2] }
  | _ => none }
def FnExactYearOfWrongFalsely : Prop := fnExactYearOfRow.holds Try.pinned (OpenSpec.ofChange fnExactYearOfWrong)

/-- 'laws.FnExactMeanYear': WHATEVER THE INPUT: true; the input reads as it did. -/
def fnExactMeanYearSpec : ChangeSpec := { name := "fnExactMeanYear", fn := fun _ => fun
  | [d] => { results := [.lit (.bool true)], args := [d] }
  | _ => none }
def fnExactMeanYearRow : OpenClaim := { program := "ytjeidmbggdgggaa", sum := "7ed7916081d2ef102b9a76438fb797bb790f8bb46923eeec0ad0321bf4d04140", func := "loop.example/g01129/laws.FnExactMeanYear", spec := "fnExactMeanYear", apart := false }
def FnExactMeanYearSaid : Prop := fnExactMeanYearRow.holds Try.pinned (OpenSpec.ofChange fnExactMeanYearSpec)

/-- ITS FALSE NEIGHBOUR: 'it returns false'. Refute it at one input. -/
def fnExactMeanYearWrong : ChangeSpec := { name := "fnExactMeanYear", fn := fun _ => fun
  | [d] => { results := [.lit (.bool false)], args := [d] }
  | _ => none }
def FnExactMeanYearWrongFalsely : Prop := fnExactMeanYearRow.holds Try.pinned (OpenSpec.ofChange fnExactMeanYearWrong)

/-- 'laws.FnExactDriftOf': WHATEVER THE INPUT: true; the input reads as it did. -/
def fnExactDriftOfSpec : ChangeSpec := { name := "fnExactDriftOf", fn := fun _ => fun
  | [d1, d2, d3] => { results := [.lit (.bool true)], args := [d1, d2, d3] }
  | _ => none }
def fnExactDriftOfRow : OpenClaim := { program := "ytjeidmbggdgggaa", sum := "7ed7916081d2ef102b9a76438fb797bb790f8bb46923eeec0ad0321bf4d04140", func := "loop.example/g01129/laws.FnExactDriftOf", spec := "fnExactDriftOf", apart := false }
def FnExactDriftOfSaid : Prop := fnExactDriftOfRow.holds Try.pinned (OpenSpec.ofChange fnExactDriftOfSpec)

/-- ITS FALSE NEIGHBOUR: 'it returns false'. Refute it at one input. -/
def fnExactDriftOfWrong : ChangeSpec := { name := "fnExactDriftOf", fn := fun _ => fun
  | [d1, d2, d3] => { results := [.lit (.bool false)], args := [d1, d2, d3] }
  | _ => none }
def FnExactDriftOfWrongFalsely : Prop := fnExactDriftOfRow.holds Try.pinned (OpenSpec.ofChange fnExactDriftOfWrong)

/- THE SECOND FORM. 'bulk': how many values and letters a reading holds, each counted each time it is reached (what is shared counts as often as it is met; a slice's spare places count too). A statement '..UptoSaid' is the law's where the arguments, and the package variables that the reading takes, are together of bulk at most 1048576: NARROWER than '..Said'. Prove '..Said' where nothing that the law and all that it calls make is longer than what came in: it says more and counts as full. Else prove '..UptoSaid'. A law counts once. -/
mutual
def uptoBulk {H : Type} : DataW H → Nat
  | .lit (.string bytes) => bytes.length + 1
  | .lit _ => 1
  | .nil => 1
  | .ptr d => uptoBulk d + 1
  | .slice elems spare => uptoBulkAll elems + uptoBulkAll spare + 1
  | .agg parts => uptoBulkAll parts + 1
  | .iface _ d => uptoBulk d + 1
  | .map entries => uptoBulkEntries entries + 1
  | .held _ => 1
def uptoBulkAll {H : Type} : List (DataW H) → Nat
  | [] => 0
  | d :: r => uptoBulk d + uptoBulkAll r
def uptoBulkEntries {H : Type} : List (Lit × DataW H) → Nat
  | [] => 0
  | x :: r => uptoBulkEntry x + uptoBulkEntries r
def uptoBulkEntry {H : Type} : Lit × DataW H → Nat
  | (.string bytes, d) => bytes.length + uptoBulk d + 1
  | (_, d) => uptoBulk d + 1
 end
def uptoSmall : (H : Type) → List (DataW H) → Bool := fun _ ds => decide (uptoBulkAll ds ≤ 1048576)
def OpenSpec.upto (s : _root_.Go.ChangeSpec) : _root_.Go.OpenSpec := { _root_.Go.OpenSpec.ofChange s with cond := some uptoSmall }

/-- 'laws.FnBestCycle', WHERE WHAT IT READS IS OF BULK AT MOST 1048576: true; the input reads as it did. -/
def fnBestCycleUptoRow : OpenClaim := { program := "ytjeidmbggdgggaa", sum := "7ed7916081d2ef102b9a76438fb797bb790f8bb46923eeec0ad0321bf4d04140", func := "loop.example/g01129/laws.FnBestCycle", spec := "fnBestCycle", apart := false, narrowed := true }
def FnBestCycleUptoSaid : Prop := fnBestCycleUptoRow.holds Try.pinned (OpenSpec.upto fnBestCycleSpec)

/-- 'laws.FnExactBestCycle', WHERE WHAT IT READS IS OF BULK AT MOST 1048576: true; the input reads as it did. -/
def fnExactBestCycleUptoRow : OpenClaim := { program := "ytjeidmbggdgggaa", sum := "7ed7916081d2ef102b9a76438fb797bb790f8bb46923eeec0ad0321bf4d04140", func := "loop.example/g01129/laws.FnExactBestCycle", spec := "fnExactBestCycle", apart := false, narrowed := true }
def FnExactBestCycleUptoSaid : Prop := fnExactBestCycleUptoRow.holds Try.pinned (OpenSpec.upto fnExactBestCycleSpec)

/-- 'laws.FnExactValidCalendar', WHERE WHAT IT READS IS OF BULK AT MOST 1048576: true; the input reads as it did. -/
def fnExactValidCalendarUptoRow : OpenClaim := { program := "ytjeidmbggdgggaa", sum := "7ed7916081d2ef102b9a76438fb797bb790f8bb46923eeec0ad0321bf4d04140", func := "loop.example/g01129/laws.FnExactValidCalendar", spec := "fnExactValidCalendar", apart := false, narrowed := true }
def FnExactValidCalendarUptoSaid : Prop := fnExactValidCalendarUptoRow.holds Try.pinned (OpenSpec.upto fnExactValidCalendarSpec)

/-- 'laws.FnEven', WHERE WHAT IT READS IS OF BULK AT MOST 1048576: true; the input reads as it did. -/
def fnEvenUptoRow : OpenClaim := { program := "ytjeidmbggdgggaa", sum := "7ed7916081d2ef102b9a76438fb797bb790f8bb46923eeec0ad0321bf4d04140", func := "loop.example/g01129/laws.FnEven", spec := "fnEven", apart := false, narrowed := true }
def FnEvenUptoSaid : Prop := fnEvenUptoRow.holds Try.pinned (OpenSpec.upto fnEvenSpec)

/-- 'laws.FnRules', WHERE WHAT IT READS IS OF BULK AT MOST 1048576: true; the input reads as it did. -/
def fnRulesUptoRow : OpenClaim := { program := "ytjeidmbggdgggaa", sum := "7ed7916081d2ef102b9a76438fb797bb790f8bb46923eeec0ad0321bf4d04140", func := "loop.example/g01129/laws.FnRules", spec := "fnRules", unfollowed := true, recurses := true, apart := false, narrowed := true }
def FnRulesUptoSaid : Prop := fnRulesUptoRow.holds Try.pinned (OpenSpec.upto fnRulesSpec)

/-- 'laws.FnExactIsLeap', WHERE WHAT IT READS IS OF BULK AT MOST 1048576: true; the input reads as it did. -/
def fnExactIsLeapUptoRow : OpenClaim := { program := "ytjeidmbggdgggaa", sum := "7ed7916081d2ef102b9a76438fb797bb790f8bb46923eeec0ad0321bf4d04140", func := "loop.example/g01129/laws.FnExactIsLeap", spec := "fnExactIsLeap", apart := false, narrowed := true }
def FnExactIsLeapUptoSaid : Prop := fnExactIsLeapUptoRow.holds Try.pinned (OpenSpec.upto fnExactIsLeapSpec)

/-- 'laws.FnExactDaysBefore', WHERE WHAT IT READS IS OF BULK AT MOST 1048576: true; the input reads as it did. -/
def fnExactDaysBeforeUptoRow : OpenClaim := { program := "ytjeidmbggdgggaa", sum := "7ed7916081d2ef102b9a76438fb797bb790f8bb46923eeec0ad0321bf4d04140", func := "loop.example/g01129/laws.FnExactDaysBefore", spec := "fnExactDaysBefore", apart := false, narrowed := true }
def FnExactDaysBeforeUptoSaid : Prop := fnExactDaysBeforeUptoRow.holds Try.pinned (OpenSpec.upto fnExactDaysBeforeSpec)

/-- 'laws.FnExactEvenCalendar', WHERE WHAT IT READS IS OF BULK AT MOST 1048576: true; the input reads as it did. -/
def fnExactEvenCalendarUptoRow : OpenClaim := { program := "ytjeidmbggdgggaa", sum := "7ed7916081d2ef102b9a76438fb797bb790f8bb46923eeec0ad0321bf4d04140", func := "loop.example/g01129/laws.FnExactEvenCalendar", spec := "fnExactEvenCalendar", apart := false, narrowed := true }
def FnExactEvenCalendarUptoSaid : Prop := fnExactEvenCalendarUptoRow.holds Try.pinned (OpenSpec.upto fnExactEvenCalendarSpec)

/-- 'laws.FnExactRuleCalendar', WHERE WHAT IT READS IS OF BULK AT MOST 1048576: true; the input reads as it did. -/
def fnExactRuleCalendarUptoRow : OpenClaim := { program := "ytjeidmbggdgggaa", sum := "7ed7916081d2ef102b9a76438fb797bb790f8bb46923eeec0ad0321bf4d04140", func := "loop.example/g01129/laws.FnExactRuleCalendar", spec := "fnExactRuleCalendar", unfollowed := true, recurses := true, apart := false, narrowed := true }
def FnExactRuleCalendarUptoSaid : Prop := fnExactRuleCalendarUptoRow.holds Try.pinned (OpenSpec.upto fnExactRuleCalendarSpec)

/-- 'laws.FnExactYearOf', WHERE WHAT IT READS IS OF BULK AT MOST 1048576: true; the input reads as it did. -/
def fnExactYearOfUptoRow : OpenClaim := { program := "ytjeidmbggdgggaa", sum := "7ed7916081d2ef102b9a76438fb797bb790f8bb46923eeec0ad0321bf4d04140", func := "loop.example/g01129/laws.FnExactYearOf", spec := "fnExactYearOf", apart := false, narrowed := true }
def FnExactYearOfUptoSaid : Prop := fnExactYearOfUptoRow.holds Try.pinned (OpenSpec.upto fnExactYearOfSpec)

/-- 'laws.FnExactMeanYear', WHERE WHAT IT READS IS OF BULK AT MOST 1048576: true; the input reads as it did. -/
def fnExactMeanYearUptoRow : OpenClaim := { program := "ytjeidmbggdgggaa", sum := "7ed7916081d2ef102b9a76438fb797bb790f8bb46923eeec0ad0321bf4d04140", func := "loop.example/g01129/laws.FnExactMeanYear", spec := "fnExactMeanYear", apart := false, narrowed := true }
def FnExactMeanYearUptoSaid : Prop := fnExactMeanYearUptoRow.holds Try.pinned (OpenSpec.upto fnExactMeanYearSpec)

/-- 'laws.FnExactDriftOf', WHERE WHAT IT READS IS OF BULK AT MOST 1048576: true; the input reads as it did. -/
def fnExactDriftOfUptoRow : OpenClaim := { program := "ytjeidmbggdgggaa", sum := "7ed7916081d2ef102b9a76438fb797bb790f8bb46923eeec0ad0321bf4d04140", func := "loop.example/g01129/laws.FnExactDriftOf", spec := "fnExactDriftOf", apart := false, narrowed := true }
def FnExactDriftOfUptoSaid : Prop := fnExactDriftOfUptoRow.holds Try.pinned (OpenSpec.upto fnExactDriftOfSpec)

end Rows
end Go.Proofs.Ytjeidmbggdgggaa
