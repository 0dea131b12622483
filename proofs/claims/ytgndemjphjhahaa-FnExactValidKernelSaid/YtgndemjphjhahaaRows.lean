/-
  No cell of these rows narrows 'for every input' (looked for: loops, veiled, ifaces, maps, wideKeys, modest, calm, conditions, laid).
  DERIVED. THE GIVEN ROWS OF THIS SEAT. 12 by the template 'for every input the law returns true; each argument reads behind the call as it read before'; 0 by the template 'total and deterministic' (their statements: YtgndemjphjhahaaTotals.lean).
  GIVEN WITH THE SEED: the statements are not yours to turn. If you find one false, say at which input.
  Laid BY PROGRAM, IN A SANDBOX (cutbox-rows.mjs): the forced cells as the released guide's own fill.sh prints them over the translation 394cc87b5752d378… (all of the seat's roots in one cut). By AI agents, Wed Nov 11 2026. No macro, syntax, notation, axiom, sorry.
-/
import Derived.Test.YtgndemjphjhahaaChecked
import GoSem.Claim
import GoSem.ClaimJoined
import GoSem.ClaimMapViews
import Derived.JoinedTies
import Derived.KernelRfl
namespace Go.Proofs.Ytgndemjphjhahaa
/- THE CELL 'sum', in the pinned program and in every row, IS THE sha256 OF THE DUMP (.gsa) THAT YtgndemjphjhahaaProg.lean LOADS. Nothing in Lean hashes anything: it is a label: what it is worth is what the hold of that sum in a sandbox is worth. -/
noncomputable def Try.pinned : Pinned := { name := "ytgndemjphjhahaa", sum := "394cc87b5752d378a216633835a50ab9a388a0a38739f03db799b8e752bc4399", checked := Try.checked }
namespace Rows
def none {H : Type} : Left H := { results := [], args := [] }

/-- 'laws.FnExactKernelOf': WHATEVER THE INPUT: true; the input reads as it did. -/
def fnExactKernelOfSpec : ChangeSpec := { name := "fnExactKernelOf", fn := fun _ => fun
  | [d] => { results := [.lit (.bool true)], args := [d] }
  | _ => none }
def fnExactKernelOfRow : OpenClaim := { program := "ytgndemjphjhahaa", sum := "394cc87b5752d378a216633835a50ab9a388a0a38739f03db799b8e752bc4399", func := "loop.example/g01129/laws.FnExactKernelOf", spec := "fnExactKernelOf", apart := false }
def FnExactKernelOfSaid : Prop := fnExactKernelOfRow.holds Try.pinned (OpenSpec.ofChange fnExactKernelOfSpec)

/-- ITS FALSE NEIGHBOUR: 'it returns false'. Refute it at one input. -/
def fnExactKernelOfWrong : ChangeSpec := { name := "fnExactKernelOf", fn := fun _ => fun
  | [d] => { results := [.lit (.bool false)], args := [d] }
  | _ => none }
def FnExactKernelOfWrongFalsely : Prop := fnExactKernelOfRow.holds Try.pinned (OpenSpec.ofChange fnExactKernelOfWrong)

/-- 'laws.FnExactValidKernel': WHATEVER THE INPUT: true; the input reads as it did. -/
def fnExactValidKernelSpec : ChangeSpec := { name := "fnExactValidKernel", fn := fun _ => fun
  | [d] => { results := [.lit (.bool true)], args := [d] }
  | _ => none }
def fnExactValidKernelRow : OpenClaim := { program := "ytgndemjphjhahaa", sum := "394cc87b5752d378a216633835a50ab9a388a0a38739f03db799b8e752bc4399", func := "loop.example/g01129/laws.FnExactValidKernel", spec := "fnExactValidKernel", unfollowed := true, recurses := true, apart := false }
def FnExactValidKernelSaid : Prop := fnExactValidKernelRow.holds Try.pinned (OpenSpec.ofChange fnExactValidKernelSpec)

/-- ITS FALSE NEIGHBOUR: 'it returns false'. Refute it at one input. -/
def fnExactValidKernelWrong : ChangeSpec := { name := "fnExactValidKernel", fn := fun _ => fun
  | [d] => { results := [.lit (.bool false)], args := [d] }
  | _ => none }
def FnExactValidKernelWrongFalsely : Prop := fnExactValidKernelRow.holds Try.pinned (OpenSpec.ofChange fnExactValidKernelWrong)

/-- 'laws.FnExactDoublingMask': WHATEVER THE INPUT: true; the input reads as it did. -/
def fnExactDoublingMaskSpec : ChangeSpec := { name := "fnExactDoublingMask", fn := fun _ => fun
  | [d] => { results := [.lit (.bool true)], args := [d] }
  | _ => none }
def fnExactDoublingMaskRow : OpenClaim := { program := "ytgndemjphjhahaa", sum := "394cc87b5752d378a216633835a50ab9a388a0a38739f03db799b8e752bc4399", func := "loop.example/g01129/laws.FnExactDoublingMask", spec := "fnExactDoublingMask", apart := false }
def FnExactDoublingMaskSaid : Prop := fnExactDoublingMaskRow.holds Try.pinned (OpenSpec.ofChange fnExactDoublingMaskSpec)

/-- ITS FALSE NEIGHBOUR: 'it returns false'. Refute it at one input. -/
def fnExactDoublingMaskWrong : ChangeSpec := { name := "fnExactDoublingMask", fn := fun _ => fun
  | [d] => { results := [.lit (.bool false)], args := [d] }
  | _ => none }
def FnExactDoublingMaskWrongFalsely : Prop := fnExactDoublingMaskRow.holds Try.pinned (OpenSpec.ofChange fnExactDoublingMaskWrong)

/-- 'laws.FnExactValidPicture': WHATEVER THE INPUT: true; the input reads as it did. -/
def fnExactValidPictureSpec : ChangeSpec := { name := "fnExactValidPicture", fn := fun _ => fun
  | [d] => { results := [.lit (.bool true)], args := [d] }
  | _ => none }
def fnExactValidPictureRow : OpenClaim := { program := "ytgndemjphjhahaa", sum := "394cc87b5752d378a216633835a50ab9a388a0a38739f03db799b8e752bc4399", func := "loop.example/g01129/laws.FnExactValidPicture", spec := "fnExactValidPicture", unfollowed := true, recurses := true, apart := false }
def FnExactValidPictureSaid : Prop := fnExactValidPictureRow.holds Try.pinned (OpenSpec.ofChange fnExactValidPictureSpec)

/-- ITS FALSE NEIGHBOUR: 'it returns false'. Refute it at one input. -/
def fnExactValidPictureWrong : ChangeSpec := { name := "fnExactValidPicture", fn := fun _ => fun
  | [d] => { results := [.lit (.bool false)], args := [d] }
  | _ => none }
def FnExactValidPictureWrongFalsely : Prop := fnExactValidPictureRow.holds Try.pinned (OpenSpec.ofChange fnExactValidPictureWrong)

/-- 'laws.FnExactDotsText': WHATEVER THE INPUT: true; the input reads as it did. -/
def fnExactDotsTextSpec : ChangeSpec := { name := "fnExactDotsText", fn := fun _ => fun
  | [d] => { results := [.lit (.bool true)], args := [d] }
  | _ => none }
def fnExactDotsTextRow : OpenClaim := { program := "ytgndemjphjhahaa", sum := "394cc87b5752d378a216633835a50ab9a388a0a38739f03db799b8e752bc4399", func := "loop.example/g01129/laws.FnExactDotsText", spec := "fnExactDotsText", unfollowed := true, recurses := true, apart := false }
def FnExactDotsTextSaid : Prop := fnExactDotsTextRow.holds Try.pinned (OpenSpec.ofChange fnExactDotsTextSpec)

/-- ITS FALSE NEIGHBOUR: 'it returns false'. Refute it at one input. -/
def fnExactDotsTextWrong : ChangeSpec := { name := "fnExactDotsText", fn := fun _ => fun
  | [d] => { results := [.lit (.bool false)], args := [d] }
  | _ => none }
def FnExactDotsTextWrongFalsely : Prop := fnExactDotsTextRow.holds Try.pinned (OpenSpec.ofChange fnExactDotsTextWrong)

/-- 'laws.FnExactHilbertPath': WHATEVER THE INPUT: true; the input reads as it did. -/
def fnExactHilbertPathSpec : ChangeSpec := { name := "fnExactHilbertPath", fn := fun _ => fun
  | [d] => { results := [.lit (.bool true)], args := [d] }
  | _ => none }
def fnExactHilbertPathRow : OpenClaim := { program := "ytgndemjphjhahaa", sum := "394cc87b5752d378a216633835a50ab9a388a0a38739f03db799b8e752bc4399", func := "loop.example/g01129/laws.FnExactHilbertPath", spec := "fnExactHilbertPath", apart := false }
def FnExactHilbertPathSaid : Prop := fnExactHilbertPathRow.holds Try.pinned (OpenSpec.ofChange fnExactHilbertPathSpec)

/-- ITS FALSE NEIGHBOUR: 'it returns false'. Refute it at one input. -/
def fnExactHilbertPathWrong : ChangeSpec := { name := "fnExactHilbertPath", fn := fun _ => fun
  | [d] => { results := [.lit (.bool false)], args := [d] }
  | _ => none }
def FnExactHilbertPathWrongFalsely : Prop := fnExactHilbertPathRow.holds Try.pinned (OpenSpec.ofChange fnExactHilbertPathWrong)

/-- 'laws.FnExactIsPath': WHATEVER THE INPUT: true; the input reads as it did. -/
def fnExactIsPathSpec : ChangeSpec := { name := "fnExactIsPath", fn := fun _ => fun
  | [d1, d2] => { results := [.lit (.bool true)], args := [d1, d2] }
  | _ => none }
def fnExactIsPathRow : OpenClaim := { program := "ytgndemjphjhahaa", sum := "394cc87b5752d378a216633835a50ab9a388a0a38739f03db799b8e752bc4399", func := "loop.example/g01129/laws.FnExactIsPath", spec := "fnExactIsPath", unfollowed := true, recurses := true, apart := false }
def FnExactIsPathSaid : Prop := fnExactIsPathRow.holds Try.pinned (OpenSpec.ofChange fnExactIsPathSpec)

/-- ITS FALSE NEIGHBOUR: 'it returns false'. Refute it at one input. -/
def fnExactIsPathWrong : ChangeSpec := { name := "fnExactIsPath", fn := fun _ => fun
  | [d1, d2] => { results := [.lit (.bool false)], args := [d1, d2] }
  | _ => none }
def FnExactIsPathWrongFalsely : Prop := fnExactIsPathRow.holds Try.pinned (OpenSpec.ofChange fnExactIsPathWrong)

/-- 'laws.FnExactReadDots': WHATEVER THE INPUT: true; the input reads as it did. -/
def fnExactReadDotsSpec : ChangeSpec := { name := "fnExactReadDots", fn := fun _ => fun
  | [d] => { results := [.lit (.bool true)], args := [d] }
  | _ => none }
def fnExactReadDotsRow : OpenClaim := { program := "ytgndemjphjhahaa", sum := "394cc87b5752d378a216633835a50ab9a388a0a38739f03db799b8e752bc4399", func := "loop.example/g01129/laws.FnExactReadDots", spec := "fnExactReadDots", inPlace := ["internal/bytealg.IndexByteString"], unfollowed := true, recurses := true, apart := false }
def FnExactReadDotsSaid : Prop := fnExactReadDotsRow.holds Try.pinned (OpenSpec.ofChange fnExactReadDotsSpec)

/-- ITS FALSE NEIGHBOUR: 'it returns false'. Refute it at one input. -/
def fnExactReadDotsWrong : ChangeSpec := { name := "fnExactReadDots", fn := fun _ => fun
  | [d] => { results := [.lit (.bool false)], args := [d] }
  | _ => none }
def FnExactReadDotsWrongFalsely : Prop := fnExactReadDotsRow.holds Try.pinned (OpenSpec.ofChange fnExactReadDotsWrong)

/-- 'laws.FnExactBlockErrors': WHATEVER THE INPUT: true; the input reads as it did. -/
def fnExactBlockErrorsSpec : ChangeSpec := { name := "fnExactBlockErrors", fn := fun _ => fun
  | [d1, d2, d3] => { results := [.lit (.bool true)], args := [d1, d2, d3] }
  | _ => none }
def fnExactBlockErrorsRow : OpenClaim := { program := "ytgndemjphjhahaa", sum := "394cc87b5752d378a216633835a50ab9a388a0a38739f03db799b8e752bc4399", func := "loop.example/g01129/laws.FnExactBlockErrors", spec := "fnExactBlockErrors", unfollowed := true, recurses := true, apart := false }
def FnExactBlockErrorsSaid : Prop := fnExactBlockErrorsRow.holds Try.pinned (OpenSpec.ofChange fnExactBlockErrorsSpec)

/-- ITS FALSE NEIGHBOUR: 'it returns false'. Refute it at one input. -/
def fnExactBlockErrorsWrong : ChangeSpec := { name := "fnExactBlockErrors", fn := fun _ => fun
  | [d1, d2, d3] => { results := [.lit (.bool false)], args := [d1, d2, d3] }
  | _ => none }
def FnExactBlockErrorsWrongFalsely : Prop := fnExactBlockErrorsRow.holds Try.pinned (OpenSpec.ofChange fnExactBlockErrorsWrong)

/-- 'laws.FnPaths': WHATEVER THE INPUT: true; the input reads as it did. -/
def fnPathsSpec : ChangeSpec := { name := "fnPaths", fn := fun _ => fun
  | [d1, d2] => { results := [.lit (.bool true)], args := [d1, d2] }
  | _ => none }
def fnPathsRow : OpenClaim := { program := "ytgndemjphjhahaa", sum := "394cc87b5752d378a216633835a50ab9a388a0a38739f03db799b8e752bc4399", func := "loop.example/g01129/laws.FnPaths", spec := "fnPaths", unfollowed := true, recurses := true, apart := false }
def FnPathsSaid : Prop := fnPathsRow.holds Try.pinned (OpenSpec.ofChange fnPathsSpec)

/-- ITS FALSE NEIGHBOUR: 'it returns false'. Refute it at one input. -/
def fnPathsWrong : ChangeSpec := { name := "fnPaths", fn := fun _ => fun
  | [d1, d2] => { results := [.lit (.bool false)], args := [d1, d2] }
  | _ => none }
def FnPathsWrongFalsely : Prop := fnPathsRow.holds Try.pinned (OpenSpec.ofChange fnPathsWrong)

/-- 'laws.FnExactPathDither': WHATEVER THE INPUT: true; the input reads as it did. -/
def fnExactPathDitherSpec : ChangeSpec := { name := "fnExactPathDither", fn := fun _ => fun
  | [d1, d2] => { results := [.lit (.bool true)], args := [d1, d2] }
  | _ => none }
def fnExactPathDitherRow : OpenClaim := { program := "ytgndemjphjhahaa", sum := "394cc87b5752d378a216633835a50ab9a388a0a38739f03db799b8e752bc4399", func := "loop.example/g01129/laws.FnExactPathDither", spec := "fnExactPathDither", unfollowed := true, recurses := true, apart := false }
def FnExactPathDitherSaid : Prop := fnExactPathDitherRow.holds Try.pinned (OpenSpec.ofChange fnExactPathDitherSpec)

/-- ITS FALSE NEIGHBOUR: 'it returns false'. Refute it at one input. -/
def fnExactPathDitherWrong : ChangeSpec := { name := "fnExactPathDither", fn := fun _ => fun
  | [d1, d2] => { results := [.lit (.bool false)], args := [d1, d2] }
  | _ => none }
def FnExactPathDitherWrongFalsely : Prop := fnExactPathDitherRow.holds Try.pinned (OpenSpec.ofChange fnExactPathDitherWrong)

/-- 'laws.FnBlocks': WHATEVER THE INPUT: true; the input reads as it did. -/
def fnBlocksSpec : ChangeSpec := { name := "fnBlocks", fn := fun _ => fun
  | [d1, d2] => { results := [.lit (.bool true)], args := [d1, d2] }
  | _ => none }
def fnBlocksRow : OpenClaim := { program := "ytgndemjphjhahaa", sum := "394cc87b5752d378a216633835a50ab9a388a0a38739f03db799b8e752bc4399", func := "loop.example/g01129/laws.FnBlocks", spec := "fnBlocks", unfollowed := true, recurses := true, apart := false }
def FnBlocksSaid : Prop := fnBlocksRow.holds Try.pinned (OpenSpec.ofChange fnBlocksSpec)

/-- ITS FALSE NEIGHBOUR: 'it returns false'. Refute it at one input. -/
def fnBlocksWrong : ChangeSpec := { name := "fnBlocks", fn := fun _ => fun
  | [d1, d2] => { results := [.lit (.bool false)], args := [d1, d2] }
  | _ => none }
def FnBlocksWrongFalsely : Prop := fnBlocksRow.holds Try.pinned (OpenSpec.ofChange fnBlocksWrong)

/- THE SECOND FORM. 'bulk': how many values and letters a reading holds, each counted each time it is reached (what is shared counts as often as it is met; a slice's spare places count too). A statement '..UptoSaid' is the law's where the arguments, and the package variables that the reading takes, are together of bulk at most 1048576: NARROWER than '..Said'. Prove '..Said' where nothing that the law and all that it calls make is longer than what came in: it says more and counts as full. Else prove '..UptoSaid'. A law counts once. -/
mutual
def uptoBulk {H : Type} : DataW H → Nat
  | .lit (.string bytes) => bytes.length + 1
  | .lit _ => 1
  | .nil => 1
  | .ptr d => uptoBulk d + 1
  | .slice elems spare => uptoBulkAll elems + uptoBulkAll spare + 1
  | .agg parts => uptoBulkAll parts + 1
  | .iface _ d => uptoBulk d + 1
  | .map entries => uptoBulkEntries entries + 1
  | .held _ => 1
def uptoBulkAll {H : Type} : List (DataW H) → Nat
  | [] => 0
  | d :: r => uptoBulk d + uptoBulkAll r
def uptoBulkEntries {H : Type} : List (Lit × DataW H) → Nat
  | [] => 0
  | x :: r => uptoBulkEntry x + uptoBulkEntries r
def uptoBulkEntry {H : Type} : Lit × DataW H → Nat
  | (.string bytes, d) => bytes.length + uptoBulk d + 1
  | (_, d) => uptoBulk d + 1
 end
def uptoSmall : (H : Type) → List (DataW H) → Bool := fun _ ds => decide (uptoBulkAll ds ≤ 1048576)
def OpenSpec.upto (s : _root_.Go.ChangeSpec) : _root_.Go.OpenSpec := { _root_.Go.OpenSpec.ofChange s with cond := some uptoSmall }

/-- 'laws.FnExactKernelOf', WHERE WHAT IT READS IS OF BULK AT MOST 1048576: true; the input reads as it did. -/
def fnExactKernelOfUptoRow : OpenClaim := { program := "ytgndemjphjhahaa", sum := "394cc87b5752d378a216633835a50ab9a388a0a38739f03db799b8e752bc4399", func := "loop.example/g01129/laws.FnExactKernelOf", spec := "fnExactKernelOf", apart := false, narrowed := true }
def FnExactKernelOfUptoSaid : Prop := fnExactKernelOfUptoRow.holds Try.pinned (OpenSpec.upto fnExactKernelOfSpec)

/-- 'laws.FnExactValidKernel', WHERE WHAT IT READS IS OF BULK AT MOST 1048576: true; the input reads as it did. -/
def fnExactValidKernelUptoRow : OpenClaim := { program := "ytgndemjphjhahaa", sum := "394cc87b5752d378a216633835a50ab9a388a0a38739f03db799b8e752bc4399", func := "loop.example/g01129/laws.FnExactValidKernel", spec := "fnExactValidKernel", unfollowed := true, recurses := true, apart := false, narrowed := true }
def FnExactValidKernelUptoSaid : Prop := fnExactValidKernelUptoRow.holds Try.pinned (OpenSpec.upto fnExactValidKernelSpec)

/-- 'laws.FnExactDoublingMask', WHERE WHAT IT READS IS OF BULK AT MOST 1048576: true; the input reads as it did. -/
def fnExactDoublingMaskUptoRow : OpenClaim := { program := "ytgndemjphjhahaa", sum := "394cc87b5752d378a216633835a50ab9a388a0a38739f03db799b8e752bc4399", func := "loop.example/g01129/laws.FnExactDoublingMask", spec := "fnExactDoublingMask", apart := false, narrowed := true }
def FnExactDoublingMaskUptoSaid : Prop := fnExactDoublingMaskUptoRow.holds Try.pinned (OpenSpec.upto fnExactDoublingMaskSpec)

/-- 'laws.FnExactValidPicture', WHERE WHAT IT READS IS OF BULK AT MOST 1048576: true; the input reads as it did. -/
def fnExactValidPictureUptoRow : OpenClaim := { program := "ytgndemjphjhahaa", sum := "394cc87b5752d378a216633835a50ab9a388a0a38739f03db799b8e752bc4399", func := "loop.example/g01129/laws.FnExactValidPicture", spec := "fnExactValidPicture", unfollowed := true, recurses := true, apart := false, narrowed := true }
def FnExactValidPictureUptoSaid : Prop := fnExactValidPictureUptoRow.holds Try.pinned (OpenSpec.upto fnExactValidPictureSpec)

/-- 'laws.FnExactDotsText', WHERE WHAT IT READS IS OF BULK AT MOST 1048576: true; the input reads as it did. -/
def fnExactDotsTextUptoRow : OpenClaim := { program := "ytgndemjphjhahaa", sum := "394cc87b5752d378a216633835a50ab9a388a0a38739f03db799b8e752bc4399", func := "loop.example/g01129/laws.FnExactDotsText", spec := "fnExactDotsText", unfollowed := true, recurses := true, apart := false, narrowed := true }
def FnExactDotsTextUptoSaid : Prop := fnExactDotsTextUptoRow.holds Try.pinned (OpenSpec.upto fnExactDotsTextSpec)

/-- 'laws.FnExactHilbertPath', WHERE WHAT IT READS IS OF BULK AT MOST 1048576: true; the input reads as it did. -/
def fnExactHilbertPathUptoRow : OpenClaim := { program := "ytgndemjphjhahaa", sum := "394cc87b5752d378a216633835a50ab9a388a0a38739f03db799b8e752bc4399", func := "loop.example/g01129/laws.FnExactHilbertPath", spec := "fnExactHilbertPath", apart := false, narrowed := true }
def FnExactHilbertPathUptoSaid : Prop := fnExactHilbertPathUptoRow.holds Try.pinned (OpenSpec.upto fnExactHilbertPathSpec)

/-- 'laws.FnExactIsPath', WHERE WHAT IT READS IS OF BULK AT MOST 1048576: true; the input reads as it did. -/
def fnExactIsPathUptoRow : OpenClaim := { program := "ytgndemjphjhahaa", sum := "394cc87b5752d378a216633835a50ab9a388a0a38739f03db799b8e752bc4399", func := "loop.example/g01129/laws.FnExactIsPath", spec := "fnExactIsPath", unfollowed := true, recurses := true, apart := false, narrowed := true }
def FnExactIsPathUptoSaid : Prop := fnExactIsPathUptoRow.holds Try.pinned (OpenSpec.upto fnExactIsPathSpec)

/-- 'laws.FnExactReadDots', WHERE WHAT IT READS IS OF BULK AT MOST 1048576: true; the input reads as it did. -/
def fnExactReadDotsUptoRow : OpenClaim := { program := "ytgndemjphjhahaa", sum := "394cc87b5752d378a216633835a50ab9a388a0a38739f03db799b8e752bc4399", func := "loop.example/g01129/laws.FnExactReadDots", spec := "fnExactReadDots", inPlace := ["internal/bytealg.IndexByteString"], unfollowed := true, recurses := true, apart := false, narrowed := true }
def FnExactReadDotsUptoSaid : Prop := fnExactReadDotsUptoRow.holds Try.pinned (OpenSpec.upto fnExactReadDotsSpec)

/-- 'laws.FnExactBlockErrors', WHERE WHAT IT READS IS OF BULK AT MOST 1048576: true; the input reads as it did. -/
def fnExactBlockErrorsUptoRow : OpenClaim := { program := "ytgndemjphjhahaa", sum := "394cc87b5752d378a216633835a50ab9a388a0a38739f03db799b8e752bc4399", func := "loop.example/g01129/laws.FnExactBlockErrors", spec := "fnExactBlockErrors", unfollowed := true, recurses := true, apart := false, narrowed := true }
def FnExactBlockErrorsUptoSaid : Prop := fnExactBlockErrorsUptoRow.holds Try.pinned (OpenSpec.upto fnExactBlockErrorsSpec)

/-- 'laws.FnPaths', WHERE WHAT IT READS IS OF BULK AT MOST 1048576: true; the input reads as it did. -/
def fnPathsUptoRow : OpenClaim := { program := "ytgndemjphjhahaa", sum := "394cc87b5752d378a216633835a50ab9a388a0a38739f03db799b8e752bc4399", func := "loop.example/g01129/laws.FnPaths", spec := "fnPaths", unfollowed := true, recurses := true, apart := false, narrowed := true }
def FnPathsUptoSaid : Prop := fnPathsUptoRow.holds Try.pinned (OpenSpec.upto fnPathsSpec)

/-- 'laws.FnExactPathDither', WHERE WHAT IT READS IS OF BULK AT MOST 1048576: true; the input reads as it did. -/
def fnExactPathDitherUptoRow : OpenClaim := { program := "ytgndemjphjhahaa", sum := "394cc87b5752d378a216633835a50ab9a388a0a38739f03db799b8e752bc4399", func := "loop.example/g01129/laws.FnExactPathDither", spec := "fnExactPathDither", unfollowed := true, recurses := true, apart := false, narrowed := true }
def FnExactPathDitherUptoSaid : Prop := fnExactPathDitherUptoRow.holds Try.pinned (OpenSpec.upto fnExactPathDitherSpec)

/-- 'laws.FnBlocks', WHERE WHAT IT READS IS OF BULK AT MOST 1048576: true; the input reads as it did. -/
def fnBlocksUptoRow : OpenClaim := { program := "ytgndemjphjhahaa", sum := "394cc87b5752d378a216633835a50ab9a388a0a38739f03db799b8e752bc4399", func := "loop.example/g01129/laws.FnBlocks", spec := "fnBlocks", unfollowed := true, recurses := true, apart := false, narrowed := true }
def FnBlocksUptoSaid : Prop := fnBlocksUptoRow.holds Try.pinned (OpenSpec.upto fnBlocksSpec)

end Rows
end Go.Proofs.Ytgndemjphjhahaa
