/-
  No cell of these rows narrows 'for every input' (looked for: loops, veiled, ifaces, maps, wideKeys, modest, calm, conditions, laid).
  DERIVED. THE GIVEN ROWS OF THIS SEAT. 3 by the template 'for every input the law returns true; each argument reads behind the call as it read before'; 0 by the template 'total and deterministic' (their statements: YtpdkknfooblplaaTotals.lean).
  GIVEN WITH THE SEED: the statements are not yours to turn. If you find one false, say at which input.
  Laid BY PROGRAM, IN A SANDBOX (cutbox-rows.mjs): the forced cells as the released guide's own fill.sh prints them over the translation e7721df82673bc21… (all of the seat's roots in one cut). By AI agents, Wed Nov 11 2026. No macro, syntax, notation, axiom, sorry.
-/
import Derived.Test.YtpdkknfooblplaaChecked
import GoSem.Claim
import GoSem.ClaimJoined
import GoSem.ClaimMapViews
import Derived.JoinedTies
import Derived.KernelRfl
namespace Go.Proofs.Ytpdkknfooblplaa
/- THE CELL 'sum', in the pinned program and in every row, IS THE sha256 OF THE DUMP (.gsa) THAT YtpdkknfooblplaaProg.lean LOADS. Nothing in Lean hashes anything: it is a label: what it is worth is what the hold of that sum in a sandbox is worth. -/
noncomputable def Try.pinned : Pinned := { name := "ytpdkknfooblplaa", sum := "e7721df82673bc21022681d35c322762a0a3fc3da3aa658832ac648107c4b9ab", checked := Try.checked }
namespace Rows
def none {H : Type} : Left H := { results := [], args := [] }

/-- 'laws.FnExactReadDots': WHATEVER THE INPUT: true; the input reads as it did. -/
def fnExactReadDotsSpec : ChangeSpec := { name := "fnExactReadDots", fn := fun _ => fun
  | [d] => { results := [.lit (.bool true)], args := [d] }
  | _ => none }
def fnExactReadDotsRow : OpenClaim := { program := "ytpdkknfooblplaa", sum := "e7721df82673bc21022681d35c322762a0a3fc3da3aa658832ac648107c4b9ab", func := "loop.example/g01129/laws.FnExactReadDots", spec := "fnExactReadDots", inPlace := ["internal/bytealg.IndexByteString"], unfollowed := true, recurses := true, apart := false }
def FnExactReadDotsSaid : Prop := fnExactReadDotsRow.holds Try.pinned (OpenSpec.ofChange fnExactReadDotsSpec)

/-- ITS FALSE NEIGHBOUR: 'it returns false'. Refute it at one input. -/
def fnExactReadDotsWrong : ChangeSpec := { name := "fnExactReadDots", fn := fun _ => fun
  | [d] => { results := [.lit (.bool false)], args := [d] }
  | _ => none }
def FnExactReadDotsWrongFalsely : Prop := fnExactReadDotsRow.holds Try.pinned (OpenSpec.ofChange fnExactReadDotsWrong)

/-- 'laws.FnExactDiffuseDither': WHATEVER THE INPUT: true; the input reads as it did. -/
def fnExactDiffuseDitherSpec : ChangeSpec := { name := "fnExactDiffuseDither", fn := fun _ => fun
  | [d1, d2, d3] => { results := [.lit (.bool true)], args := [d1, d2, d3] }
  | _ => none }
def fnExactDiffuseDitherRow : OpenClaim := { program := "ytpdkknfooblplaa", sum := "e7721df82673bc21022681d35c322762a0a3fc3da3aa658832ac648107c4b9ab", func := "loop.example/g01129/laws.FnExactDiffuseDither", spec := "fnExactDiffuseDither", unfollowed := true, recurses := true, apart := false }
def FnExactDiffuseDitherSaid : Prop := fnExactDiffuseDitherRow.holds Try.pinned (OpenSpec.ofChange fnExactDiffuseDitherSpec)

/-- ITS FALSE NEIGHBOUR: 'it returns false'. Refute it at one input. -/
def fnExactDiffuseDitherWrong : ChangeSpec := { name := "fnExactDiffuseDither", fn := fun _ => fun
  | [d1, d2, d3] => { results := [.lit (.bool false)], args := [d1, d2, d3] }
  | _ => none }
def FnExactDiffuseDitherWrongFalsely : Prop := fnExactDiffuseDitherRow.holds Try.pinned (OpenSpec.ofChange fnExactDiffuseDitherWrong)

/-- 'laws.FnDiffused': WHATEVER THE INPUT: true; the input reads as it did. -/
def fnDiffusedSpec : ChangeSpec := { name := "fnDiffused", fn := fun _ => fun
  | [d1, d2] => { results := [.lit (.bool true)], args := [d1, d2] }
  | _ => none }
def fnDiffusedRow : OpenClaim := { program := "ytpdkknfooblplaa", sum := "e7721df82673bc21022681d35c322762a0a3fc3da3aa658832ac648107c4b9ab", func := "loop.example/g01129/laws.FnDiffused", spec := "fnDiffused", inPlace := ["internal/bytealg.IndexByteString"], unfollowed := true, recurses := true, apart := false }
def FnDiffusedSaid : Prop := fnDiffusedRow.holds Try.pinned (OpenSpec.ofChange fnDiffusedSpec)

/-- ITS FALSE NEIGHBOUR: 'it returns false'. Refute it at one input. -/
def fnDiffusedWrong : ChangeSpec := { name := "fnDiffused", fn := fun _ => fun
  | [d1, d2] => { results := [.lit (.bool false)], args := [d1, d2] }
  | _ => none }
def FnDiffusedWrongFalsely : Prop := fnDiffusedRow.holds Try.pinned (OpenSpec.ofChange fnDiffusedWrong)

/- THE SECOND FORM. 'bulk': how many values and letters a reading holds, each counted each time it is reached (what is shared counts as often as it is met; a slice's spare places count too). A statement '..UptoSaid' is the law's where the arguments, and the package variables that the reading takes, are together of bulk at most 1048576: NARROWER than '..Said'. Prove '..Said' where nothing that the law and all that it calls make is longer than what came in: it says more and counts as full. Else prove '..UptoSaid'. A law counts once. -/
mutual
def uptoBulk {H : Type} : DataW H → Nat
  | .lit (.string bytes) => bytes.length + 1
  | .lit _ => 1
  | .nil => 1
  | .ptr d => uptoBulk d + 1
  | .slice elems spare => uptoBulkAll elems + uptoBulkAll spare + 1
  | .agg parts => uptoBulkAll parts + 1
  | .iface _ d => uptoBulk d + 1
  | .map entries => uptoBulkEntries entries + 1
  | .held _ => 1
def uptoBulkAll {H : Type} : List (DataW H) → Nat
  | [] => 0
  | d :: r => uptoBulk d + uptoBulkAll r
def uptoBulkEntries {H : Type} : List (Lit × DataW H) → Nat
  | [] => 0
  | x :: r => uptoBulkEntry x + uptoBulkEntries r
def uptoBulkEntry {H : Type} : Lit × DataW H → Nat
  | (.string bytes, d) => bytes.length + uptoBulk d + 1
  | (_, d) => uptoBulk d + 1
 end
def uptoSmall : (H : Type) → List (DataW H) → Bool := fun _ ds => decide (uptoBulkAll ds ≤ 1048576)
def OpenSpec.upto (s : _root_.Go.ChangeSpec) : _root_.Go.OpenSpec := { _root_.Go.OpenSpec.ofChange s with cond := some uptoSmall }

/-- 'laws.FnExactReadDots', WHERE WHAT IT READS IS OF BULK AT MOST 1048576: true; the input reads as it did. -/
def fnExactReadDotsUptoRow : OpenClaim := { program := "ytpdkknfooblplaa", sum := "e7721df82673bc21022681d35c322762a0a3fc3da3aa658832ac648107c4b9ab", func := "loop.example/g01129/laws.FnExactReadDots", spec := "fnExactReadDots", inPlace := ["internal/bytealg.IndexByteString"], unfollowed := true, recurses := true, apart := false, narrowed := true }
def FnExactReadDotsUptoSaid : Prop := fnExactReadDotsUptoRow.holds Try.pinned (OpenSpec.upto fnExactReadDotsSpec)

/-- 'laws.FnExactDiffuseDither', WHERE WHAT IT READS IS OF BULK AT MOST 1048576: true; the input reads as it did. -/
def fnExactDiffuseDitherUptoRow : OpenClaim := { program := "ytpdkknfooblplaa", sum := "e7721df82673bc21022681d35c322762a0a3fc3da3aa658832ac648107c4b9ab", func := "loop.example/g01129/laws.FnExactDiffuseDither", spec := "fnExactDiffuseDither", unfollowed := true, recurses := true, apart := false, narrowed := true }
def FnExactDiffuseDitherUptoSaid : Prop := fnExactDiffuseDitherUptoRow.holds Try.pinned (OpenSpec.upto fnExactDiffuseDitherSpec)

/-- 'laws.FnDiffused', WHERE WHAT IT READS IS OF BULK AT MOST 1048576: true; the input reads as it did. -/
def fnDiffusedUptoRow : OpenClaim := { program := "ytpdkknfooblplaa", sum := "e7721df82673bc21022681d35c322762a0a3fc3da3aa658832ac648107c4b9ab", func := "loop.example/g01129/laws.FnDiffused", spec := "fnDiffused", inPlace := ["internal/bytealg.IndexByteString"], unfollowed := true, recurses := true, apart := false, narrowed := true }
def FnDiffusedUptoSaid : Prop := fnDiffusedUptoRow.holds Try.pinned (OpenSpec.upto fnDiffusedSpec)

end Rows
end Go.Proofs.Ytpdkknfooblplaa
