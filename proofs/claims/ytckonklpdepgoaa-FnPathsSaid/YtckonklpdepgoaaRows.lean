/-
  No cell of these rows narrows 'for every input' (looked for: loops, veiled, ifaces, maps, wideKeys, modest, calm, conditions, laid).
  DERIVED. THE GIVEN ROWS OF THIS SEAT. 12 by the template 'for every input the law returns true; each argument reads behind the call as it read before'; 0 by the template 'total and deterministic' (their statements: YtckonklpdepgoaaTotals.lean).
  GIVEN WITH THE SEED: the statements are not yours to turn. If you find one false, say at which input.
  Laid BY PROGRAM, IN A SANDBOX (cutbox-rows.mjs): the forced cells as the released guide's own fill.sh prints them over the translation 815d418331a6f115… (all of the seat's roots in one cut). By AI agents, Wed Nov 11 2026. No macro, syntax, notation, axiom, sorry.
-/
import Derived.Test.YtckonklpdepgoaaChecked
import GoSem.Claim
import GoSem.ClaimJoined
import GoSem.ClaimMapViews
import Derived.JoinedTies
import Derived.KernelRfl
namespace Go.Proofs.Ytckonklpdepgoaa
/- THE CELL 'sum', in the pinned program and in every row, IS THE sha256 OF THE DUMP (.gsa) THAT YtckonklpdepgoaaProg.lean LOADS. Nothing in Lean hashes anything: it is a label: what it is worth is what the hold of that sum in a sandbox is worth. -/
noncomputable def Try.pinned : Pinned := { name := "ytckonklpdepgoaa", sum := "815d418331a6f115ee24a526a065dfb6779ce20f4a190f84f6bef5adc3fd9e98", checked := Try.checked }
namespace Rows
def none {H : Type} : Left H := { results := [], args := [] }

/-- 'laws.FnExactDoublingMask': WHATEVER THE INPUT: true; the input reads as it did. -/
def fnExactDoublingMaskSpec : ChangeSpec := { name := "fnExactDoublingMask", fn := fun _ => fun
  | [d] => { results := [.lit (.bool true)], args := [d] }
  | _ => none }
def fnExactDoublingMaskRow : OpenClaim := { program := "ytckonklpdepgoaa", sum := "815d418331a6f115ee24a526a065dfb6779ce20f4a190f84f6bef5adc3fd9e98", func := "loop.example/g01129/laws.FnExactDoublingMask", spec := "fnExactDoublingMask", apart := false }
def FnExactDoublingMaskSaid : Prop := fnExactDoublingMaskRow.holds Try.pinned (OpenSpec.ofChange fnExactDoublingMaskSpec)

/-- ITS FALSE NEIGHBOUR: 'it returns false'. Refute it at one input. -/
def fnExactDoublingMaskWrong : ChangeSpec := { name := "fnExactDoublingMask", fn := fun _ => fun
  | [d] => { results := [.lit (.bool false)], args := [d] }
  | _ => none }
def FnExactDoublingMaskWrongFalsely : Prop := fnExactDoublingMaskRow.holds Try.pinned (OpenSpec.ofChange fnExactDoublingMaskWrong)

/-- 'laws.FnExactHilbertPath': WHATEVER THE INPUT: true; the input reads as it did. -/
def fnExactHilbertPathSpec : ChangeSpec := { name := "fnExactHilbertPath", fn := fun _ => fun
  | [d] => { results := [.lit (.bool true)], args := [d] }
  | _ => none }
def fnExactHilbertPathRow : OpenClaim := { program := "ytckonklpdepgoaa", sum := "815d418331a6f115ee24a526a065dfb6779ce20f4a190f84f6bef5adc3fd9e98", func := "loop.example/g01129/laws.FnExactHilbertPath", spec := "fnExactHilbertPath", apart := false }
def FnExactHilbertPathSaid : Prop := fnExactHilbertPathRow.holds Try.pinned (OpenSpec.ofChange fnExactHilbertPathSpec)

/-- ITS FALSE NEIGHBOUR: 'it returns false'. Refute it at one input. -/
def fnExactHilbertPathWrong : ChangeSpec := { name := "fnExactHilbertPath", fn := fun _ => fun
  | [d] => { results := [.lit (.bool false)], args := [d] }
  | _ => none }
def FnExactHilbertPathWrongFalsely : Prop := fnExactHilbertPathRow.holds Try.pinned (OpenSpec.ofChange fnExactHilbertPathWrong)

/-- 'laws.FnPaths': WHATEVER THE INPUT: true; the input reads as it did. -/
def fnPathsSpec : ChangeSpec := { name := "fnPaths", fn := fun _ => fun
  | [d1, d2] => { results := [.lit (.bool true)], args := [d1, d2] }
  | _ => none }
def fnPathsRow : OpenClaim := { program := "ytckonklpdepgoaa", sum := "815d418331a6f115ee24a526a065dfb6779ce20f4a190f84f6bef5adc3fd9e98", func := "loop.example/g01129/laws.FnPaths", spec := "fnPaths", unfollowed := true, recurses := true, apart := false }
def FnPathsSaid : Prop := fnPathsRow.holds Try.pinned (OpenSpec.ofChange fnPathsSpec)

/-- ITS FALSE NEIGHBOUR: 'it returns false'. Refute it at one input. -/
def fnPathsWrong : ChangeSpec := { name := "fnPaths", fn := fun _ => fun
  | [d1, d2] => { results := [.lit (.bool false)], args := [d1, d2] }
  | _ => none }
def FnPathsWrongFalsely : Prop := fnPathsRow.holds Try.pinned (OpenSpec.ofChange fnPathsWrong)

/-- 'laws.FnExactReadDots': WHATEVER THE INPUT: true; the input reads as it did. -/
def fnExactReadDotsSpec : ChangeSpec := { name := "fnExactReadDots", fn := fun _ => fun
  | [d] => { results := [.lit (.bool true)], args := [d] }
  | _ => none }
def fnExactReadDotsRow : OpenClaim := { program := "ytckonklpdepgoaa", sum := "815d418331a6f115ee24a526a065dfb6779ce20f4a190f84f6bef5adc3fd9e98", func := "loop.example/g01129/laws.FnExactReadDots", spec := "fnExactReadDots", inPlace := ["internal/bytealg.IndexByteString"], unfollowed := true, recurses := true, apart := false }
def FnExactReadDotsSaid : Prop := fnExactReadDotsRow.holds Try.pinned (OpenSpec.ofChange fnExactReadDotsSpec)

/-- ITS FALSE NEIGHBOUR: 'it returns false'. Refute it at one input. -/
def fnExactReadDotsWrong : ChangeSpec := { name := "fnExactReadDots", fn := fun _ => fun
  | [d] => { results := [.lit (.bool false)], args := [d] }
  | _ => none }
def FnExactReadDotsWrongFalsely : Prop := fnExactReadDotsRow.holds Try.pinned (OpenSpec.ofChange fnExactReadDotsWrong)

/-- 'laws.FnExactIsMask': WHATEVER THE INPUT: true; the input reads as it did. -/
def fnExactIsMaskSpec : ChangeSpec := { name := "fnExactIsMask", fn := fun _ => fun
  | [d] => { results := [.lit (.bool true)], args := [d] }
  | _ => none }
def fnExactIsMaskRow : OpenClaim := { program := "ytckonklpdepgoaa", sum := "815d418331a6f115ee24a526a065dfb6779ce20f4a190f84f6bef5adc3fd9e98", func := "loop.example/g01129/laws.FnExactIsMask", spec := "fnExactIsMask", unfollowed := true, recurses := true, apart := false }
def FnExactIsMaskSaid : Prop := fnExactIsMaskRow.holds Try.pinned (OpenSpec.ofChange fnExactIsMaskSpec)

/-- ITS FALSE NEIGHBOUR: 'it returns false'. Refute it at one input. -/
def fnExactIsMaskWrong : ChangeSpec := { name := "fnExactIsMask", fn := fun _ => fun
  | [d] => { results := [.lit (.bool false)], args := [d] }
  | _ => none }
def FnExactIsMaskWrongFalsely : Prop := fnExactIsMaskRow.holds Try.pinned (OpenSpec.ofChange fnExactIsMaskWrong)

/-- 'laws.FnExactSpreadOf': WHATEVER THE INPUT: true; the input reads as it did. -/
def fnExactSpreadOfSpec : ChangeSpec := { name := "fnExactSpreadOf", fn := fun _ => fun
  | [d1, d2] => { results := [.lit (.bool true)], args := [d1, d2] }
  | _ => none }
def fnExactSpreadOfRow : OpenClaim := { program := "ytckonklpdepgoaa", sum := "815d418331a6f115ee24a526a065dfb6779ce20f4a190f84f6bef5adc3fd9e98", func := "loop.example/g01129/laws.FnExactSpreadOf", spec := "fnExactSpreadOf", unfollowed := true, recurses := true, apart := false }
def FnExactSpreadOfSaid : Prop := fnExactSpreadOfRow.holds Try.pinned (OpenSpec.ofChange fnExactSpreadOfSpec)

/-- ITS FALSE NEIGHBOUR: 'it returns false'. Refute it at one input. -/
def fnExactSpreadOfWrong : ChangeSpec := { name := "fnExactSpreadOf", fn := fun _ => fun
  | [d1, d2] => { results := [.lit (.bool false)], args := [d1, d2] }
  | _ => none }
def FnExactSpreadOfWrongFalsely : Prop := fnExactSpreadOfRow.holds Try.pinned (OpenSpec.ofChange fnExactSpreadOfWrong)

/-- 'laws.FnExactMaskDither': WHATEVER THE INPUT: true; the input reads as it did. -/
def fnExactMaskDitherSpec : ChangeSpec := { name := "fnExactMaskDither", fn := fun _ => fun
  | [d1, d2] => { results := [.lit (.bool true)], args := [d1, d2] }
  | _ => none }
def fnExactMaskDitherRow : OpenClaim := { program := "ytckonklpdepgoaa", sum := "815d418331a6f115ee24a526a065dfb6779ce20f4a190f84f6bef5adc3fd9e98", func := "loop.example/g01129/laws.FnExactMaskDither", spec := "fnExactMaskDither", unfollowed := true, recurses := true, apart := false }
def FnExactMaskDitherSaid : Prop := fnExactMaskDitherRow.holds Try.pinned (OpenSpec.ofChange fnExactMaskDitherSpec)

/-- ITS FALSE NEIGHBOUR: 'it returns false'. Refute it at one input. -/
def fnExactMaskDitherWrong : ChangeSpec := { name := "fnExactMaskDither", fn := fun _ => fun
  | [d1, d2] => { results := [.lit (.bool false)], args := [d1, d2] }
  | _ => none }
def FnExactMaskDitherWrongFalsely : Prop := fnExactMaskDitherRow.holds Try.pinned (OpenSpec.ofChange fnExactMaskDitherWrong)

/-- 'laws.FnMasks': WHATEVER THE INPUT: true; the input reads as it did. -/
def fnMasksSpec : ChangeSpec := { name := "fnMasks", fn := fun _ => fun
  | [d1, d2] => { results := [.lit (.bool true)], args := [d1, d2] }
  | _ => none }
def fnMasksRow : OpenClaim := { program := "ytckonklpdepgoaa", sum := "815d418331a6f115ee24a526a065dfb6779ce20f4a190f84f6bef5adc3fd9e98", func := "loop.example/g01129/laws.FnMasks", spec := "fnMasks", unfollowed := true, recurses := true, apart := false }
def FnMasksSaid : Prop := fnMasksRow.holds Try.pinned (OpenSpec.ofChange fnMasksSpec)

/-- ITS FALSE NEIGHBOUR: 'it returns false'. Refute it at one input. -/
def fnMasksWrong : ChangeSpec := { name := "fnMasks", fn := fun _ => fun
  | [d1, d2] => { results := [.lit (.bool false)], args := [d1, d2] }
  | _ => none }
def FnMasksWrongFalsely : Prop := fnMasksRow.holds Try.pinned (OpenSpec.ofChange fnMasksWrong)

/-- 'laws.FnSpread': WHATEVER THE INPUT: true; the input reads as it did. -/
def fnSpreadSpec : ChangeSpec := { name := "fnSpread", fn := fun _ => fun
  | [d1, d2] => { results := [.lit (.bool true)], args := [d1, d2] }
  | _ => none }
def fnSpreadRow : OpenClaim := { program := "ytckonklpdepgoaa", sum := "815d418331a6f115ee24a526a065dfb6779ce20f4a190f84f6bef5adc3fd9e98", func := "loop.example/g01129/laws.FnSpread", spec := "fnSpread", unfollowed := true, recurses := true, apart := false }
def FnSpreadSaid : Prop := fnSpreadRow.holds Try.pinned (OpenSpec.ofChange fnSpreadSpec)

/-- ITS FALSE NEIGHBOUR: 'it returns false'. Refute it at one input. -/
def fnSpreadWrong : ChangeSpec := { name := "fnSpread", fn := fun _ => fun
  | [d1, d2] => { results := [.lit (.bool false)], args := [d1, d2] }
  | _ => none }
def FnSpreadWrongFalsely : Prop := fnSpreadRow.holds Try.pinned (OpenSpec.ofChange fnSpreadWrong)

/-- 'laws.FnBlocks': WHATEVER THE INPUT: true; the input reads as it did. -/
def fnBlocksSpec : ChangeSpec := { name := "fnBlocks", fn := fun _ => fun
  | [d1, d2] => { results := [.lit (.bool true)], args := [d1, d2] }
  | _ => none }
def fnBlocksRow : OpenClaim := { program := "ytckonklpdepgoaa", sum := "815d418331a6f115ee24a526a065dfb6779ce20f4a190f84f6bef5adc3fd9e98", func := "loop.example/g01129/laws.FnBlocks", spec := "fnBlocks", unfollowed := true, recurses := true, apart := false }
def FnBlocksSaid : Prop := fnBlocksRow.holds Try.pinned (OpenSpec.ofChange fnBlocksSpec)

/-- ITS FALSE NEIGHBOUR: 'it returns false'. Refute it at one input. -/
def fnBlocksWrong : ChangeSpec := { name := "fnBlocks", fn := fun _ => fun
  | [d1, d2] => { results := [.lit (.bool false)], args := [d1, d2] }
  | _ => none }
def FnBlocksWrongFalsely : Prop := fnBlocksRow.holds Try.pinned (OpenSpec.ofChange fnBlocksWrong)

/-- 'laws.FnExactDiffuseDither': WHATEVER THE INPUT: true; the input reads as it did. -/
def fnExactDiffuseDitherSpec : ChangeSpec := { name := "fnExactDiffuseDither", fn := fun _ => fun
  | [d1, d2, d3] => { results := [.lit (.bool true)], args := [d1, d2, d3] }
  | _ => none }
def fnExactDiffuseDitherRow : OpenClaim := { program := "ytckonklpdepgoaa", sum := "815d418331a6f115ee24a526a065dfb6779ce20f4a190f84f6bef5adc3fd9e98", func := "loop.example/g01129/laws.FnExactDiffuseDither", spec := "fnExactDiffuseDither", unfollowed := true, recurses := true, apart := false }
def FnExactDiffuseDitherSaid : Prop := fnExactDiffuseDitherRow.holds Try.pinned (OpenSpec.ofChange fnExactDiffuseDitherSpec)

/-- ITS FALSE NEIGHBOUR: 'it returns false'. Refute it at one input. -/
def fnExactDiffuseDitherWrong : ChangeSpec := { name := "fnExactDiffuseDither", fn := fun _ => fun
  | [d1, d2, d3] => { results := [.lit (.bool false)], args := [d1, d2, d3] }
  | _ => none }
def FnExactDiffuseDitherWrongFalsely : Prop := fnExactDiffuseDitherRow.holds Try.pinned (OpenSpec.ofChange fnExactDiffuseDitherWrong)

/-- 'laws.FnDiffused': WHATEVER THE INPUT: true; the input reads as it did. -/
def fnDiffusedSpec : ChangeSpec := { name := "fnDiffused", fn := fun _ => fun
  | [d1, d2] => { results := [.lit (.bool true)], args := [d1, d2] }
  | _ => none }
def fnDiffusedRow : OpenClaim := { program := "ytckonklpdepgoaa", sum := "815d418331a6f115ee24a526a065dfb6779ce20f4a190f84f6bef5adc3fd9e98", func := "loop.example/g01129/laws.FnDiffused", spec := "fnDiffused", inPlace := ["internal/bytealg.IndexByteString"], unfollowed := true, recurses := true, apart := false }
def FnDiffusedSaid : Prop := fnDiffusedRow.holds Try.pinned (OpenSpec.ofChange fnDiffusedSpec)

/-- ITS FALSE NEIGHBOUR: 'it returns false'. Refute it at one input. -/
def fnDiffusedWrong : ChangeSpec := { name := "fnDiffused", fn := fun _ => fun
  | [d1, d2] => { results := [.lit (.bool false)], args := [d1, d2] }
  | _ => none }
def FnDiffusedWrongFalsely : Prop := fnDiffusedRow.holds Try.pinned (OpenSpec.ofChange fnDiffusedWrong)

/- THE SECOND FORM. 'bulk': how many values and letters a reading holds, each counted each time it is reached (what is shared counts as often as it is met; a slice's spare places count too). A statement '..UptoSaid' is the law's where the arguments, and the package variables that the reading takes, are together of bulk at most 1048576: NARROWER than '..Said'. Prove '..Said' where nothing that the law and all that it calls make is longer than what came in: it says more and counts as full. Else prove '..UptoSaid'. A law counts once. -/
mutual
def uptoBulk {H : Type} : DataW H → Nat
  | .lit (.string bytes) => bytes.length + 1
  | .lit _ => 1
  | .nil => 1
  | .ptr d => uptoBulk d + 1
  | .slice elems spare => uptoBulkAll elems + uptoBulkAll spare + 1
  | .agg parts => uptoBulkAll parts + 1
  | .iface _ d => uptoBulk d + 1
  | .map entries => uptoBulkEntries entries + 1
  | .held _ => 1
def uptoBulkAll {H : Type} : List (DataW H) → Nat
  | [] => 0
  | d :: r => uptoBulk d + uptoBulkAll r
def uptoBulkEntries {H : Type} : List (Lit × DataW H) → Nat
  | [] => 0
  | x :: r => uptoBulkEntry x + uptoBulkEntries r
def uptoBulkEntry {H : Type} : Lit × DataW H → Nat
  | (.string bytes, d) => bytes.length + uptoBulk d + 1
  | (_, d) => uptoBulk d + 1
 end
def uptoSmall : (H : Type) → List (DataW H) → Bool := fun _ ds => decide (uptoBulkAll ds ≤ 1048576)
def OpenSpec.upto (s : _root_.Go.ChangeSpec) : _root_.Go.OpenSpec := { _root_.Go.OpenSpec.ofChange s with cond := some uptoSmall }

/-- 'laws.FnExactDoublingMask', WHERE WHAT IT READS IS OF BULK AT MOST 1048576: true; the input reads as it did. -/
def fnExactDoublingMaskUptoRow : OpenClaim := { program := "ytckonklpdepgoaa", sum := "815d418331a6f115ee24a526a065dfb6779ce20f4a190f84f6bef5adc3fd9e98", func := "loop.example/g01129/laws.FnExactDoublingMask", spec := "fnExactDoublingMask", apart := false, narrowed := true }
def FnExactDoublingMaskUptoSaid : Prop := fnExactDoublingMaskUptoRow.holds Try.pinned (OpenSpec.upto fnExactDoublingMaskSpec)

/-- 'laws.FnExactHilbertPath', WHERE WHAT IT READS IS OF BULK AT MOST 1048576: true; the input reads as it did. -/
def fnExactHilbertPathUptoRow : OpenClaim := { program := "ytckonklpdepgoaa", sum := "815d418331a6f115ee24a526a065dfb6779ce20f4a190f84f6bef5adc3fd9e98", func := "loop.example/g01129/laws.FnExactHilbertPath", spec := "fnExactHilbertPath", apart := false, narrowed := true }
def FnExactHilbertPathUptoSaid : Prop := fnExactHilbertPathUptoRow.holds Try.pinned (OpenSpec.upto fnExactHilbertPathSpec)

/-- 'laws.FnPaths', WHERE WHAT IT READS IS OF BULK AT MOST 1048576: true; the input reads as it did. -/
def fnPathsUptoRow : OpenClaim := { program := "ytckonklpdepgoaa", sum := "815d418331a6f115ee24a526a065dfb6779ce20f4a190f84f6bef5adc3fd9e98", func := "loop.example/g01129/laws.FnPaths", spec := "fnPaths", unfollowed := true, recurses := true, apart := false, narrowed := true }
def FnPathsUptoSaid : Prop := fnPathsUptoRow.holds Try.pinned (OpenSpec.upto fnPathsSpec)

/-- 'laws.FnExactReadDots', WHERE WHAT IT READS IS OF BULK AT MOST 1048576: true; the input reads as it did. -/
def fnExactReadDotsUptoRow : OpenClaim := { program := "ytckonklpdepgoaa", sum := "815d418331a6f115ee24a526a065dfb6779ce20f4a190f84f6bef5adc3fd9e98", func := "loop.example/g01129/laws.FnExactReadDots", spec := "fnExactReadDots", inPlace := ["internal/bytealg.IndexByteString"], unfollowed := true, recurses := true, apart := false, narrowed := true }
def FnExactReadDotsUptoSaid : Prop := fnExactReadDotsUptoRow.holds Try.pinned (OpenSpec.upto fnExactReadDotsSpec)

/-- 'laws.FnExactIsMask', WHERE WHAT IT READS IS OF BULK AT MOST 1048576: true; the input reads as it did. -/
def fnExactIsMaskUptoRow : OpenClaim := { program := "ytckonklpdepgoaa", sum := "815d418331a6f115ee24a526a065dfb6779ce20f4a190f84f6bef5adc3fd9e98", func := "loop.example/g01129/laws.FnExactIsMask", spec := "fnExactIsMask", unfollowed := true, recurses := true, apart := false, narrowed := true }
def FnExactIsMaskUptoSaid : Prop := fnExactIsMaskUptoRow.holds Try.pinned (OpenSpec.upto fnExactIsMaskSpec)

/-- 'laws.FnExactSpreadOf', WHERE WHAT IT READS IS OF BULK AT MOST 1048576: true; the input reads as it did. -/
def fnExactSpreadOfUptoRow : OpenClaim := { program := "ytckonklpdepgoaa", sum := "815d418331a6f115ee24a526a065dfb6779ce20f4a190f84f6bef5adc3fd9e98", func := "loop.example/g01129/laws.FnExactSpreadOf", spec := "fnExactSpreadOf", unfollowed := true, recurses := true, apart := false, narrowed := true }
def FnExactSpreadOfUptoSaid : Prop := fnExactSpreadOfUptoRow.holds Try.pinned (OpenSpec.upto fnExactSpreadOfSpec)

/-- 'laws.FnExactMaskDither', WHERE WHAT IT READS IS OF BULK AT MOST 1048576: true; the input reads as it did. -/
def fnExactMaskDitherUptoRow : OpenClaim := { program := "ytckonklpdepgoaa", sum := "815d418331a6f115ee24a526a065dfb6779ce20f4a190f84f6bef5adc3fd9e98", func := "loop.example/g01129/laws.FnExactMaskDither", spec := "fnExactMaskDither", unfollowed := true, recurses := true, apart := false, narrowed := true }
def FnExactMaskDitherUptoSaid : Prop := fnExactMaskDitherUptoRow.holds Try.pinned (OpenSpec.upto fnExactMaskDitherSpec)

/-- 'laws.FnMasks', WHERE WHAT IT READS IS OF BULK AT MOST 1048576: true; the input reads as it did. -/
def fnMasksUptoRow : OpenClaim := { program := "ytckonklpdepgoaa", sum := "815d418331a6f115ee24a526a065dfb6779ce20f4a190f84f6bef5adc3fd9e98", func := "loop.example/g01129/laws.FnMasks", spec := "fnMasks", unfollowed := true, recurses := true, apart := false, narrowed := true }
def FnMasksUptoSaid : Prop := fnMasksUptoRow.holds Try.pinned (OpenSpec.upto fnMasksSpec)

/-- 'laws.FnSpread', WHERE WHAT IT READS IS OF BULK AT MOST 1048576: true; the input reads as it did. -/
def fnSpreadUptoRow : OpenClaim := { program := "ytckonklpdepgoaa", sum := "815d418331a6f115ee24a526a065dfb6779ce20f4a190f84f6bef5adc3fd9e98", func := "loop.example/g01129/laws.FnSpread", spec := "fnSpread", unfollowed := true, recurses := true, apart := false, narrowed := true }
def FnSpreadUptoSaid : Prop := fnSpreadUptoRow.holds Try.pinned (OpenSpec.upto fnSpreadSpec)

/-- 'laws.FnBlocks', WHERE WHAT IT READS IS OF BULK AT MOST 1048576: true; the input reads as it did. -/
def fnBlocksUptoRow : OpenClaim := { program := "ytckonklpdepgoaa", sum := "815d418331a6f115ee24a526a065dfb6779ce20f4a190f84f6bef5adc3fd9e98", func := "loop.example/g01129/laws.FnBlocks", spec := "fnBlocks", unfollowed := true, recurses := true, apart := false, narrowed := true }
def FnBlocksUptoSaid : Prop := fnBlocksUptoRow.holds Try.pinned (OpenSpec.upto fnBlocksSpec)

/-- 'laws.FnExactDiffuseDither', WHERE WHAT IT READS IS OF BULK AT MOST 1048576: true; the input reads as it did. -/
def fnExactDiffuseDitherUptoRow : OpenClaim := { program := "ytckonklpdepgoaa", sum := "815d418331a6f115ee24a526a065dfb6779ce20f4a190f84f6bef5adc3fd9e98", func := "loop.example/g01129/laws.FnExactDiffuseDither", spec := "fnExactDiffuseDither", unfollowed := true, recurses := true, apart := false, narrowed := true }
def FnExactDiffuseDitherUptoSaid : Prop := fnExactDiffuseDitherUptoRow.holds Try.pinned (OpenSpec.upto fnExactDiffuseDitherSpec)

/-- 'laws.FnDiffused', WHERE WHAT IT READS IS OF BULK AT MOST 1048576: true; the input reads as it did. -/
def fnDiffusedUptoRow : OpenClaim := { program := "ytckonklpdepgoaa", sum := "815d418331a6f115ee24a526a065dfb6779ce20f4a190f84f6bef5adc3fd9e98", func := "loop.example/g01129/laws.FnDiffused", spec := "fnDiffused", inPlace := ["internal/bytealg.IndexByteString"], unfollowed := true, recurses := true, apart := false, narrowed := true }
def FnDiffusedUptoSaid : Prop := fnDiffusedUptoRow.holds Try.pinned (OpenSpec.upto fnDiffusedSpec)

end Rows
end Go.Proofs.Ytckonklpdepgoaa
