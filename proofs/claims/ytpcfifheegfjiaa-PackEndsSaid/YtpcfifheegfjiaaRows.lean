/-
  No cell of these rows narrows 'for every input' (looked for: loops, veiled, ifaces, maps, wideKeys, modest, calm, conditions, laid).
  DERIVED. THE GIVEN ROWS OF THIS SEAT. 12 by the template 'for every input the law returns true; each argument reads behind the call as it read before'; 0 by the template 'total and deterministic' (their statements: YtpcfifheegfjiaaTotals.lean).
  GIVEN WITH THE SEED: the statements are not yours to turn. If you find one false, say at which input.
  Laid BY PROGRAM, IN A SANDBOX (cutbox-rows.mjs): the forced cells as the released guide's own fill.sh prints them over the translation 2e8a17a01ed117f7… (all of the seat's roots in one cut). By AI agents, Wed Nov 11 2026. No macro, syntax, notation, axiom, sorry.
-/
import Derived.Test.YtpcfifheegfjiaaChecked
import GoSem.Claim
import GoSem.ClaimJoined
import GoSem.ClaimMapViews
import Derived.JoinedTies
import Derived.KernelRfl
namespace Go.Proofs.Ytpcfifheegfjiaa
/- THE CELL 'sum', in the pinned program and in every row, IS THE sha256 OF THE DUMP (.gsa) THAT YtpcfifheegfjiaaProg.lean LOADS. Nothing in Lean hashes anything: it is a label: what it is worth is what the hold of that sum in a sandbox is worth. -/
noncomputable def Try.pinned : Pinned := { name := "ytpcfifheegfjiaa", sum := "2e8a17a01ed117f7728f4ea592044cda5df784ba8044dbbddff4bc5dcee81119", checked := Try.checked }
namespace Rows
def none {H : Type} : Left H := { results := [], args := [] }

/-- 'hourglasslaw07.SumParts': WHATEVER THE INPUT: true; the input reads as it did. -/
def sumPartsSpec : ChangeSpec := { name := "sumParts", fn := fun _ => fun
  | [d1, d2, d3, d4] => { results := [.lit (.bool true)], args := [d1, d2, d3, d4] }
  | _ => none }
def sumPartsRow : OpenClaim := { program := "ytpcfifheegfjiaa", sum := "2e8a17a01ed117f7728f4ea592044cda5df784ba8044dbbddff4bc5dcee81119", func := "hourglass/hourglasslaw07.SumParts", spec := "sumParts", apart := false }
def SumPartsSaid : Prop := sumPartsRow.holds Try.pinned (OpenSpec.ofChange sumPartsSpec)

/-- ITS FALSE NEIGHBOUR: 'it returns false'. Refute it at one input. -/
def sumPartsWrong : ChangeSpec := { name := "sumParts", fn := fun _ => fun
  | [d1, d2, d3, d4] => { results := [.lit (.bool false)], args := [d1, d2, d3, d4] }
  | _ => none }
def SumPartsWrongFalsely : Prop := sumPartsRow.holds Try.pinned (OpenSpec.ofChange sumPartsWrong)

/-- 'hourglasslaw23.FixedParts': WHATEVER THE INPUT: true; the input reads as it did. -/
def fixedPartsSpec : ChangeSpec := { name := "fixedParts", fn := fun _ => fun
  | [d1, d2] => { results := [.lit (.bool true)], args := [d1, d2] }
  | _ => none }
def fixedPartsRow : OpenClaim := { program := "ytpcfifheegfjiaa", sum := "2e8a17a01ed117f7728f4ea592044cda5df784ba8044dbbddff4bc5dcee81119", func := "hourglass/hourglasslaw23.FixedParts", spec := "fixedParts", unfollowed := true, recurses := true, apart := false }
def FixedPartsSaid : Prop := fixedPartsRow.holds Try.pinned (OpenSpec.ofChange fixedPartsSpec)

/-- ITS FALSE NEIGHBOUR: 'it returns false'. Refute it at one input. -/
def fixedPartsWrong : ChangeSpec := { name := "fixedParts", fn := fun _ => fun
  | [d1, d2] => { results := [.lit (.bool false)], args := [d1, d2] }
  | _ => none }
def FixedPartsWrongFalsely : Prop := fixedPartsRow.holds Try.pinned (OpenSpec.ofChange fixedPartsWrong)

/-- 'hourglasslaw23.FixedBlends': WHATEVER THE INPUT: true; the input reads as it did. -/
def fixedBlendsSpec : ChangeSpec := { name := "fixedBlends", fn := fun _ => fun
  | [d1, d2, d3, d4] => { results := [.lit (.bool true)], args := [d1, d2, d3, d4] }
  | _ => none }
def fixedBlendsRow : OpenClaim := { program := "ytpcfifheegfjiaa", sum := "2e8a17a01ed117f7728f4ea592044cda5df784ba8044dbbddff4bc5dcee81119", func := "hourglass/hourglasslaw23.FixedBlends", spec := "fixedBlends", unfollowed := true, recurses := true, apart := false }
def FixedBlendsSaid : Prop := fixedBlendsRow.holds Try.pinned (OpenSpec.ofChange fixedBlendsSpec)

/-- ITS FALSE NEIGHBOUR: 'it returns false'. Refute it at one input. -/
def fixedBlendsWrong : ChangeSpec := { name := "fixedBlends", fn := fun _ => fun
  | [d1, d2, d3, d4] => { results := [.lit (.bool false)], args := [d1, d2, d3, d4] }
  | _ => none }
def FixedBlendsWrongFalsely : Prop := fixedBlendsRow.holds Try.pinned (OpenSpec.ofChange fixedBlendsWrong)

/-- 'hourglasslaw11.SizeMore': WHATEVER THE INPUT: true; the input reads as it did. -/
def sizeMoreSpec : ChangeSpec := { name := "sizeMore", fn := fun _ => fun
  | [d1, d2, d3, d4, d5, d6] => { results := [.lit (.bool true)], args := [d1, d2, d3, d4, d5, d6] }
  | _ => none }
def sizeMoreRow : OpenClaim := { program := "ytpcfifheegfjiaa", sum := "2e8a17a01ed117f7728f4ea592044cda5df784ba8044dbbddff4bc5dcee81119", func := "hourglass/hourglasslaw11.SizeMore", spec := "sizeMore", unfollowed := true, recurses := true, apart := false }
def SizeMoreSaid : Prop := sizeMoreRow.holds Try.pinned (OpenSpec.ofChange sizeMoreSpec)

/-- ITS FALSE NEIGHBOUR: 'it returns false'. Refute it at one input. -/
def sizeMoreWrong : ChangeSpec := { name := "sizeMore", fn := fun _ => fun
  | [d1, d2, d3, d4, d5, d6] => { results := [.lit (.bool false)], args := [d1, d2, d3, d4, d5, d6] }
  | _ => none }
def SizeMoreWrongFalsely : Prop := sizeMoreRow.holds Try.pinned (OpenSpec.ofChange sizeMoreWrong)

/-- 'hourglasslaw23.FixedRows': WHATEVER THE INPUT: true; the input reads as it did. -/
def fixedRowsSpec : ChangeSpec := { name := "fixedRows", fn := fun _ => fun
  | [d1, d2] => { results := [.lit (.bool true)], args := [d1, d2] }
  | _ => none }
def fixedRowsRow : OpenClaim := { program := "ytpcfifheegfjiaa", sum := "2e8a17a01ed117f7728f4ea592044cda5df784ba8044dbbddff4bc5dcee81119", func := "hourglass/hourglasslaw23.FixedRows", spec := "fixedRows", unfollowed := true, recurses := true, apart := false }
def FixedRowsSaid : Prop := fixedRowsRow.holds Try.pinned (OpenSpec.ofChange fixedRowsSpec)

/-- ITS FALSE NEIGHBOUR: 'it returns false'. Refute it at one input. -/
def fixedRowsWrong : ChangeSpec := { name := "fixedRows", fn := fun _ => fun
  | [d1, d2] => { results := [.lit (.bool false)], args := [d1, d2] }
  | _ => none }
def FixedRowsWrongFalsely : Prop := fixedRowsRow.holds Try.pinned (OpenSpec.ofChange fixedRowsWrong)

/-- 'hourglasslaw23.FixedEnds': WHATEVER THE INPUT: true; the input reads as it did. -/
def fixedEndsSpec : ChangeSpec := { name := "fixedEnds", fn := fun _ => fun
  | [] => { results := [.lit (.bool true)], args := [] }
  | _ => none }
def fixedEndsRow : OpenClaim := { program := "ytpcfifheegfjiaa", sum := "2e8a17a01ed117f7728f4ea592044cda5df784ba8044dbbddff4bc5dcee81119", func := "hourglass/hourglasslaw23.FixedEnds", spec := "fixedEnds", unfollowed := true, recurses := true, apart := false }
def FixedEndsSaid : Prop := fixedEndsRow.holds Try.pinned (OpenSpec.ofChange fixedEndsSpec)

/-- ITS FALSE NEIGHBOUR: 'it returns false'. Refute it at one input. -/
def fixedEndsWrong : ChangeSpec := { name := "fixedEnds", fn := fun _ => fun
  | [] => { results := [.lit (.bool false)], args := [] }
  | _ => none }
def FixedEndsWrongFalsely : Prop := fixedEndsRow.holds Try.pinned (OpenSpec.ofChange fixedEndsWrong)

/-- 'hourglasslaw23.FixedSums': WHATEVER THE INPUT: true; the input reads as it did. -/
def fixedSumsSpec : ChangeSpec := { name := "fixedSums", fn := fun _ => fun
  | [d1, d2] => { results := [.lit (.bool true)], args := [d1, d2] }
  | _ => none }
def fixedSumsRow : OpenClaim := { program := "ytpcfifheegfjiaa", sum := "2e8a17a01ed117f7728f4ea592044cda5df784ba8044dbbddff4bc5dcee81119", func := "hourglass/hourglasslaw23.FixedSums", spec := "fixedSums", unfollowed := true, recurses := true, apart := false }
def FixedSumsSaid : Prop := fixedSumsRow.holds Try.pinned (OpenSpec.ofChange fixedSumsSpec)

/-- ITS FALSE NEIGHBOUR: 'it returns false'. Refute it at one input. -/
def fixedSumsWrong : ChangeSpec := { name := "fixedSums", fn := fun _ => fun
  | [d1, d2] => { results := [.lit (.bool false)], args := [d1, d2] }
  | _ => none }
def FixedSumsWrongFalsely : Prop := fixedSumsRow.holds Try.pinned (OpenSpec.ofChange fixedSumsWrong)

/-- 'hourglasslaw08.PackReads': WHATEVER THE INPUT: true; the input reads as it did. -/
def packReadsSpec : ChangeSpec := { name := "packReads", fn := fun _ => fun
  | [d1, d2] => { results := [.lit (.bool true)], args := [d1, d2] }
  | _ => none }
def packReadsRow : OpenClaim := { program := "ytpcfifheegfjiaa", sum := "2e8a17a01ed117f7728f4ea592044cda5df784ba8044dbbddff4bc5dcee81119", func := "hourglass/hourglasslaw08.PackReads", spec := "packReads", apart := false }
def PackReadsSaid : Prop := packReadsRow.holds Try.pinned (OpenSpec.ofChange packReadsSpec)

/-- ITS FALSE NEIGHBOUR: 'it returns false'. Refute it at one input. -/
def packReadsWrong : ChangeSpec := { name := "packReads", fn := fun _ => fun
  | [d1, d2] => { results := [.lit (.bool false)], args := [d1, d2] }
  | _ => none }
def PackReadsWrongFalsely : Prop := packReadsRow.holds Try.pinned (OpenSpec.ofChange packReadsWrong)

/-- 'hourglasslaw08.PackOne': WHATEVER THE INPUT: true; the input reads as it did. -/
def packOneSpec : ChangeSpec := { name := "packOne", fn := fun _ => fun
  | [d1, d2, d3] => { results := [.lit (.bool true)], args := [d1, d2, d3] }
  | _ => none }
def packOneRow : OpenClaim := { program := "ytpcfifheegfjiaa", sum := "2e8a17a01ed117f7728f4ea592044cda5df784ba8044dbbddff4bc5dcee81119", func := "hourglass/hourglasslaw08.PackOne", spec := "packOne", apart := false }
def PackOneSaid : Prop := packOneRow.holds Try.pinned (OpenSpec.ofChange packOneSpec)

/-- ITS FALSE NEIGHBOUR: 'it returns false'. Refute it at one input. -/
def packOneWrong : ChangeSpec := { name := "packOne", fn := fun _ => fun
  | [d1, d2, d3] => { results := [.lit (.bool false)], args := [d1, d2, d3] }
  | _ => none }
def PackOneWrongFalsely : Prop := packOneRow.holds Try.pinned (OpenSpec.ofChange packOneWrong)

/-- 'hourglasslaw08.PackWrites': WHATEVER THE INPUT: true; the input reads as it did. -/
def packWritesSpec : ChangeSpec := { name := "packWrites", fn := fun _ => fun
  | [d] => { results := [.lit (.bool true)], args := [d] }
  | _ => none }
def packWritesRow : OpenClaim := { program := "ytpcfifheegfjiaa", sum := "2e8a17a01ed117f7728f4ea592044cda5df784ba8044dbbddff4bc5dcee81119", func := "hourglass/hourglasslaw08.PackWrites", spec := "packWrites", apart := false }
def PackWritesSaid : Prop := packWritesRow.holds Try.pinned (OpenSpec.ofChange packWritesSpec)

/-- ITS FALSE NEIGHBOUR: 'it returns false'. Refute it at one input. -/
def packWritesWrong : ChangeSpec := { name := "packWrites", fn := fun _ => fun
  | [d] => { results := [.lit (.bool false)], args := [d] }
  | _ => none }
def PackWritesWrongFalsely : Prop := packWritesRow.holds Try.pinned (OpenSpec.ofChange packWritesWrong)

/-- 'hourglasslaw08.PackEnds': WHATEVER THE INPUT: true; the input reads as it did. -/
def packEndsSpec : ChangeSpec := { name := "packEnds", fn := fun _ => fun
  | [] => { results := [.lit (.bool true)], args := [] }
  | _ => none }
def packEndsRow : OpenClaim := { program := "ytpcfifheegfjiaa", sum := "2e8a17a01ed117f7728f4ea592044cda5df784ba8044dbbddff4bc5dcee81119", func := "hourglass/hourglasslaw08.PackEnds", spec := "packEnds", apart := false }
def PackEndsSaid : Prop := packEndsRow.holds Try.pinned (OpenSpec.ofChange packEndsSpec)

/-- ITS FALSE NEIGHBOUR: 'it returns false'. Refute it at one input. -/
def packEndsWrong : ChangeSpec := { name := "packEnds", fn := fun _ => fun
  | [] => { results := [.lit (.bool false)], args := [] }
  | _ => none }
def PackEndsWrongFalsely : Prop := packEndsRow.holds Try.pinned (OpenSpec.ofChange packEndsWrong)

/-- 'hourglasslaw08.PackBack': WHATEVER THE INPUT: true; the input reads as it did. -/
def packBackSpec : ChangeSpec := { name := "packBack", fn := fun _ => fun
  | [d1, d2] => { results := [.lit (.bool true)], args := [d1, d2] }
  | _ => none }
def packBackRow : OpenClaim := { program := "ytpcfifheegfjiaa", sum := "2e8a17a01ed117f7728f4ea592044cda5df784ba8044dbbddff4bc5dcee81119", func := "hourglass/hourglasslaw08.PackBack", spec := "packBack", apart := false }
def PackBackSaid : Prop := packBackRow.holds Try.pinned (OpenSpec.ofChange packBackSpec)

/-- ITS FALSE NEIGHBOUR: 'it returns false'. Refute it at one input. -/
def packBackWrong : ChangeSpec := { name := "packBack", fn := fun _ => fun
  | [d1, d2] => { results := [.lit (.bool false)], args := [d1, d2] }
  | _ => none }
def PackBackWrongFalsely : Prop := packBackRow.holds Try.pinned (OpenSpec.ofChange packBackWrong)

/- THE SECOND FORM. 'bulk': how many values and letters a reading holds, each counted each time it is reached (what is shared counts as often as it is met; a slice's spare places count too). A statement '..UptoSaid' is the law's where the arguments, and the package variables that the reading takes, are together of bulk at most 1048576: NARROWER than '..Said'. Prove '..Said' where nothing that the law and all that it calls make is longer than what came in: it says more and counts as full. Else prove '..UptoSaid'. A law counts once. -/
mutual
def uptoBulk {H : Type} : DataW H → Nat
  | .lit (.string bytes) => bytes.length + 1
  | .lit _ => 1
  | .nil => 1
  | .ptr d => uptoBulk d + 1
  | .slice elems spare => uptoBulkAll elems + uptoBulkAll spare + 1
  | .agg parts => uptoBulkAll parts + 1
  | .iface _ d => uptoBulk d + 1
  | .map entries => uptoBulkEntries entries + 1
  | .held _ => 1
def uptoBulkAll {H : Type} : List (DataW H) → Nat
  | [] => 0
  | d :: r => uptoBulk d + uptoBulkAll r
def uptoBulkEntries {H : Type} : List (Lit × DataW H) → Nat
  | [] => 0
  | x :: r => uptoBulkEntry x + uptoBulkEntries r
def uptoBulkEntry {H : Type} : Lit × DataW H → Nat
  | (.string bytes, d) => bytes.length + uptoBulk d + 1
  | (_, d) => uptoBulk d + 1
 end
def uptoSmall : (H : Type) → List (DataW H) → Bool := fun _ ds => decide (uptoBulkAll ds ≤ 1048576)
def OpenSpec.upto (s : _root_.Go.ChangeSpec) : _root_.Go.OpenSpec := { _root_.Go.OpenSpec.ofChange s with cond := some uptoSmall }

/-- 'hourglasslaw07.SumParts', WHERE WHAT IT READS IS OF BULK AT MOST 1048576: true; the input reads as it did. -/
def sumPartsUptoRow : OpenClaim := { program := "ytpcfifheegfjiaa", sum := "2e8a17a01ed117f7728f4ea592044cda5df784ba8044dbbddff4bc5dcee81119", func := "hourglass/hourglasslaw07.SumParts", spec := "sumParts", apart := false, narrowed := true }
def SumPartsUptoSaid : Prop := sumPartsUptoRow.holds Try.pinned (OpenSpec.upto sumPartsSpec)

/-- 'hourglasslaw23.FixedParts', WHERE WHAT IT READS IS OF BULK AT MOST 1048576: true; the input reads as it did. -/
def fixedPartsUptoRow : OpenClaim := { program := "ytpcfifheegfjiaa", sum := "2e8a17a01ed117f7728f4ea592044cda5df784ba8044dbbddff4bc5dcee81119", func := "hourglass/hourglasslaw23.FixedParts", spec := "fixedParts", unfollowed := true, recurses := true, apart := false, narrowed := true }
def FixedPartsUptoSaid : Prop := fixedPartsUptoRow.holds Try.pinned (OpenSpec.upto fixedPartsSpec)

/-- 'hourglasslaw23.FixedBlends', WHERE WHAT IT READS IS OF BULK AT MOST 1048576: true; the input reads as it did. -/
def fixedBlendsUptoRow : OpenClaim := { program := "ytpcfifheegfjiaa", sum := "2e8a17a01ed117f7728f4ea592044cda5df784ba8044dbbddff4bc5dcee81119", func := "hourglass/hourglasslaw23.FixedBlends", spec := "fixedBlends", unfollowed := true, recurses := true, apart := false, narrowed := true }
def FixedBlendsUptoSaid : Prop := fixedBlendsUptoRow.holds Try.pinned (OpenSpec.upto fixedBlendsSpec)

/-- 'hourglasslaw11.SizeMore', WHERE WHAT IT READS IS OF BULK AT MOST 1048576: true; the input reads as it did. -/
def sizeMoreUptoRow : OpenClaim := { program := "ytpcfifheegfjiaa", sum := "2e8a17a01ed117f7728f4ea592044cda5df784ba8044dbbddff4bc5dcee81119", func := "hourglass/hourglasslaw11.SizeMore", spec := "sizeMore", unfollowed := true, recurses := true, apart := false, narrowed := true }
def SizeMoreUptoSaid : Prop := sizeMoreUptoRow.holds Try.pinned (OpenSpec.upto sizeMoreSpec)

/-- 'hourglasslaw23.FixedRows', WHERE WHAT IT READS IS OF BULK AT MOST 1048576: true; the input reads as it did. -/
def fixedRowsUptoRow : OpenClaim := { program := "ytpcfifheegfjiaa", sum := "2e8a17a01ed117f7728f4ea592044cda5df784ba8044dbbddff4bc5dcee81119", func := "hourglass/hourglasslaw23.FixedRows", spec := "fixedRows", unfollowed := true, recurses := true, apart := false, narrowed := true }
def FixedRowsUptoSaid : Prop := fixedRowsUptoRow.holds Try.pinned (OpenSpec.upto fixedRowsSpec)

/-- 'hourglasslaw23.FixedEnds', WHERE WHAT IT READS IS OF BULK AT MOST 1048576: true; the input reads as it did. -/
def fixedEndsUptoRow : OpenClaim := { program := "ytpcfifheegfjiaa", sum := "2e8a17a01ed117f7728f4ea592044cda5df784ba8044dbbddff4bc5dcee81119", func := "hourglass/hourglasslaw23.FixedEnds", spec := "fixedEnds", unfollowed := true, recurses := true, apart := false, narrowed := true }
def FixedEndsUptoSaid : Prop := fixedEndsUptoRow.holds Try.pinned (OpenSpec.upto fixedEndsSpec)

/-- 'hourglasslaw23.FixedSums', WHERE WHAT IT READS IS OF BULK AT MOST 1048576: true; the input reads as it did. -/
def fixedSumsUptoRow : OpenClaim := { program := "ytpcfifheegfjiaa", sum := "2e8a17a01ed117f7728f4ea592044cda5df784ba8044dbbddff4bc5dcee81119", func := "hourglass/hourglasslaw23.FixedSums", spec := "fixedSums", unfollowed := true, recurses := true, apart := false, narrowed := true }
def FixedSumsUptoSaid : Prop := fixedSumsUptoRow.holds Try.pinned (OpenSpec.upto fixedSumsSpec)

/-- 'hourglasslaw08.PackReads', WHERE WHAT IT READS IS OF BULK AT MOST 1048576: true; the input reads as it did. -/
def packReadsUptoRow : OpenClaim := { program := "ytpcfifheegfjiaa", sum := "2e8a17a01ed117f7728f4ea592044cda5df784ba8044dbbddff4bc5dcee81119", func := "hourglass/hourglasslaw08.PackReads", spec := "packReads", apart := false, narrowed := true }
def PackReadsUptoSaid : Prop := packReadsUptoRow.holds Try.pinned (OpenSpec.upto packReadsSpec)

/-- 'hourglasslaw08.PackOne', WHERE WHAT IT READS IS OF BULK AT MOST 1048576: true; the input reads as it did. -/
def packOneUptoRow : OpenClaim := { program := "ytpcfifheegfjiaa", sum := "2e8a17a01ed117f7728f4ea592044cda5df784ba8044dbbddff4bc5dcee81119", func := "hourglass/hourglasslaw08.PackOne", spec := "packOne", apart := false, narrowed := true }
def PackOneUptoSaid : Prop := packOneUptoRow.holds Try.pinned (OpenSpec.upto packOneSpec)

/-- 'hourglasslaw08.PackWrites', WHERE WHAT IT READS IS OF BULK AT MOST 1048576: true; the input reads as it did. -/
def packWritesUptoRow : OpenClaim := { program := "ytpcfifheegfjiaa", sum := "2e8a17a01ed117f7728f4ea592044cda5df784ba8044dbbddff4bc5dcee81119", func := "hourglass/hourglasslaw08.PackWrites", spec := "packWrites", apart := false, narrowed := true }
def PackWritesUptoSaid : Prop := packWritesUptoRow.holds Try.pinned (OpenSpec.upto packWritesSpec)

/-- 'hourglasslaw08.PackEnds', WHERE WHAT IT READS IS OF BULK AT MOST 1048576: true; the input reads as it did. -/
def packEndsUptoRow : OpenClaim := { program := "ytpcfifheegfjiaa", sum := "2e8a17a01ed117f7728f4ea592044cda5df784ba8044dbbddff4bc5dcee81119", func := "hourglass/hourglasslaw08.PackEnds", spec := "packEnds", apart := false, narrowed := true }
def PackEndsUptoSaid : Prop := packEndsUptoRow.holds Try.pinned (OpenSpec.upto packEndsSpec)

/-- 'hourglasslaw08.PackBack', WHERE WHAT IT READS IS OF BULK AT MOST 1048576: true; the input reads as it did. -/
def packBackUptoRow : OpenClaim := { program := "ytpcfifheegfjiaa", sum := "2e8a17a01ed117f7728f4ea592044cda5df784ba8044dbbddff4bc5dcee81119", func := "hourglass/hourglasslaw08.PackBack", spec := "packBack", apart := false, narrowed := true }
def PackBackUptoSaid : Prop := packBackUptoRow.holds Try.pinned (OpenSpec.upto packBackSpec)

end Rows
end Go.Proofs.Ytpcfifheegfjiaa
