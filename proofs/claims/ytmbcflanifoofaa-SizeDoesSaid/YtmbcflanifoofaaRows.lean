/-
  No cell of these rows narrows 'for every input' (looked for: loops, veiled, ifaces, maps, wideKeys, modest, calm, conditions, laid).
  DERIVED. THE GIVEN ROWS OF THIS SEAT. 12 by the template 'for every input the law returns true; each argument reads behind the call as it read before'; 0 by the template 'total and deterministic' (their statements: YtmbcflanifoofaaTotals.lean).
  GIVEN WITH THE SEED: the statements are not yours to turn. If you find one false, say at which input.
  Laid BY PROGRAM, IN A SANDBOX (cutbox-rows.mjs): the forced cells as the released guide's own fill.sh prints them over the translation 51b4652b35e337b8… (all of the seat's roots in one cut). By AI agents, Wed Nov 11 2026. No macro, syntax, notation, axiom, sorry.
-/
import Derived.Test.YtmbcflanifoofaaChecked
import GoSem.Claim
import GoSem.ClaimJoined
import GoSem.ClaimMapViews
import Derived.JoinedTies
import Derived.KernelRfl
namespace Go.Proofs.Ytmbcflanifoofaa
/- THE CELL 'sum', in the pinned program and in every row, IS THE sha256 OF THE DUMP (.gsa) THAT YtmbcflanifoofaaProg.lean LOADS. Nothing in Lean hashes anything: it is a label: what it is worth is what the hold of that sum in a sandbox is worth. -/
noncomputable def Try.pinned : Pinned := { name := "ytmbcflanifoofaa", sum := "51b4652b35e337b82471090bf7950acfbbe4a3ac12f44da7401f4fd936e01093", checked := Try.checked }
namespace Rows
def none {H : Type} : Left H := { results := [], args := [] }

/-- 'hourglasslaw09.StripLess': WHATEVER THE INPUT: true; the input reads as it did. -/
def stripLessSpec : ChangeSpec := { name := "stripLess", fn := fun _ => fun
  | [d1, d2, d3, d4] => { results := [.lit (.bool true)], args := [d1, d2, d3, d4] }
  | _ => none }
def stripLessRow : OpenClaim := { program := "ytmbcflanifoofaa", sum := "51b4652b35e337b82471090bf7950acfbbe4a3ac12f44da7401f4fd936e01093", func := "hourglass/hourglasslaw09.StripLess", spec := "stripLess", unfollowed := true, recurses := true, apart := false }
def StripLessSaid : Prop := stripLessRow.holds Try.pinned (OpenSpec.ofChange stripLessSpec)

/-- ITS FALSE NEIGHBOUR: 'it returns false'. Refute it at one input. -/
def stripLessWrong : ChangeSpec := { name := "stripLess", fn := fun _ => fun
  | [d1, d2, d3, d4] => { results := [.lit (.bool false)], args := [d1, d2, d3, d4] }
  | _ => none }
def StripLessWrongFalsely : Prop := stripLessRow.holds Try.pinned (OpenSpec.ofChange stripLessWrong)

/-- 'hourglasslaw12.WeighOrder': WHATEVER THE INPUT: true; the input reads as it did. -/
def weighOrderSpec : ChangeSpec := { name := "weighOrder", fn := fun _ => fun
  | [d1, d2, d3, d4, d5] => { results := [.lit (.bool true)], args := [d1, d2, d3, d4, d5] }
  | _ => none }
def weighOrderRow : OpenClaim := { program := "ytmbcflanifoofaa", sum := "51b4652b35e337b82471090bf7950acfbbe4a3ac12f44da7401f4fd936e01093", func := "hourglass/hourglasslaw12.WeighOrder", spec := "weighOrder", unfollowed := true, recurses := true, apart := false }
def WeighOrderSaid : Prop := weighOrderRow.holds Try.pinned (OpenSpec.ofChange weighOrderSpec)

/-- ITS FALSE NEIGHBOUR: 'it returns false'. Refute it at one input. -/
def weighOrderWrong : ChangeSpec := { name := "weighOrder", fn := fun _ => fun
  | [d1, d2, d3, d4, d5] => { results := [.lit (.bool false)], args := [d1, d2, d3, d4, d5] }
  | _ => none }
def WeighOrderWrongFalsely : Prop := weighOrderRow.holds Try.pinned (OpenSpec.ofChange weighOrderWrong)

/-- 'hourglasslaw09.StripDoes': WHATEVER THE INPUT: true; the input reads as it did. -/
def stripDoesSpec : ChangeSpec := { name := "stripDoes", fn := fun _ => fun
  | [d1, d2, d3, d4] => { results := [.lit (.bool true)], args := [d1, d2, d3, d4] }
  | _ => none }
def stripDoesRow : OpenClaim := { program := "ytmbcflanifoofaa", sum := "51b4652b35e337b82471090bf7950acfbbe4a3ac12f44da7401f4fd936e01093", func := "hourglass/hourglasslaw09.StripDoes", spec := "stripDoes", unfollowed := true, recurses := true, apart := false }
def StripDoesSaid : Prop := stripDoesRow.holds Try.pinned (OpenSpec.ofChange stripDoesSpec)

/-- ITS FALSE NEIGHBOUR: 'it returns false'. Refute it at one input. -/
def stripDoesWrong : ChangeSpec := { name := "stripDoes", fn := fun _ => fun
  | [d1, d2, d3, d4] => { results := [.lit (.bool false)], args := [d1, d2, d3, d4] }
  | _ => none }
def StripDoesWrongFalsely : Prop := stripDoesRow.holds Try.pinned (OpenSpec.ofChange stripDoesWrong)

/-- 'hourglasslaw09.StripEnds': WHATEVER THE INPUT: true; the input reads as it did. -/
def stripEndsSpec : ChangeSpec := { name := "stripEnds", fn := fun _ => fun
  | [] => { results := [.lit (.bool true)], args := [] }
  | _ => none }
def stripEndsRow : OpenClaim := { program := "ytmbcflanifoofaa", sum := "51b4652b35e337b82471090bf7950acfbbe4a3ac12f44da7401f4fd936e01093", func := "hourglass/hourglasslaw09.StripEnds", spec := "stripEnds", unfollowed := true, recurses := true, apart := false }
def StripEndsSaid : Prop := stripEndsRow.holds Try.pinned (OpenSpec.ofChange stripEndsSpec)

/-- ITS FALSE NEIGHBOUR: 'it returns false'. Refute it at one input. -/
def stripEndsWrong : ChangeSpec := { name := "stripEnds", fn := fun _ => fun
  | [] => { results := [.lit (.bool false)], args := [] }
  | _ => none }
def StripEndsWrongFalsely : Prop := stripEndsRow.holds Try.pinned (OpenSpec.ofChange stripEndsWrong)

/-- 'hourglasslaw09.StripBack': WHATEVER THE INPUT: true; the input reads as it did. -/
def stripBackSpec : ChangeSpec := { name := "stripBack", fn := fun _ => fun
  | [d1, d2, d3, d4] => { results := [.lit (.bool true)], args := [d1, d2, d3, d4] }
  | _ => none }
def stripBackRow : OpenClaim := { program := "ytmbcflanifoofaa", sum := "51b4652b35e337b82471090bf7950acfbbe4a3ac12f44da7401f4fd936e01093", func := "hourglass/hourglasslaw09.StripBack", spec := "stripBack", unfollowed := true, recurses := true, apart := false }
def StripBackSaid : Prop := stripBackRow.holds Try.pinned (OpenSpec.ofChange stripBackSpec)

/-- ITS FALSE NEIGHBOUR: 'it returns false'. Refute it at one input. -/
def stripBackWrong : ChangeSpec := { name := "stripBack", fn := fun _ => fun
  | [d1, d2, d3, d4] => { results := [.lit (.bool false)], args := [d1, d2, d3, d4] }
  | _ => none }
def StripBackWrongFalsely : Prop := stripBackRow.holds Try.pinned (OpenSpec.ofChange stripBackWrong)

/-- 'hourglasslaw07.SumDoes': WHATEVER THE INPUT: true; the input reads as it did. -/
def sumDoesSpec : ChangeSpec := { name := "sumDoes", fn := fun _ => fun
  | [d1, d2, d3] => { results := [.lit (.bool true)], args := [d1, d2, d3] }
  | _ => none }
def sumDoesRow : OpenClaim := { program := "ytmbcflanifoofaa", sum := "51b4652b35e337b82471090bf7950acfbbe4a3ac12f44da7401f4fd936e01093", func := "hourglass/hourglasslaw07.SumDoes", spec := "sumDoes", apart := false }
def SumDoesSaid : Prop := sumDoesRow.holds Try.pinned (OpenSpec.ofChange sumDoesSpec)

/-- ITS FALSE NEIGHBOUR: 'it returns false'. Refute it at one input. -/
def sumDoesWrong : ChangeSpec := { name := "sumDoes", fn := fun _ => fun
  | [d1, d2, d3] => { results := [.lit (.bool false)], args := [d1, d2, d3] }
  | _ => none }
def SumDoesWrongFalsely : Prop := sumDoesRow.holds Try.pinned (OpenSpec.ofChange sumDoesWrong)

/-- 'hourglasslaw07.SumEnds': WHATEVER THE INPUT: true; the input reads as it did. -/
def sumEndsSpec : ChangeSpec := { name := "sumEnds", fn := fun _ => fun
  | [] => { results := [.lit (.bool true)], args := [] }
  | _ => none }
def sumEndsRow : OpenClaim := { program := "ytmbcflanifoofaa", sum := "51b4652b35e337b82471090bf7950acfbbe4a3ac12f44da7401f4fd936e01093", func := "hourglass/hourglasslaw07.SumEnds", spec := "sumEnds", apart := false }
def SumEndsSaid : Prop := sumEndsRow.holds Try.pinned (OpenSpec.ofChange sumEndsSpec)

/-- ITS FALSE NEIGHBOUR: 'it returns false'. Refute it at one input. -/
def sumEndsWrong : ChangeSpec := { name := "sumEnds", fn := fun _ => fun
  | [] => { results := [.lit (.bool false)], args := [] }
  | _ => none }
def SumEndsWrongFalsely : Prop := sumEndsRow.holds Try.pinned (OpenSpec.ofChange sumEndsWrong)

/-- 'hourglasslaw07.SumSeals': WHATEVER THE INPUT: true; the input reads as it did. -/
def sumSealsSpec : ChangeSpec := { name := "sumSeals", fn := fun _ => fun
  | [d1, d2, d3] => { results := [.lit (.bool true)], args := [d1, d2, d3] }
  | _ => none }
def sumSealsRow : OpenClaim := { program := "ytmbcflanifoofaa", sum := "51b4652b35e337b82471090bf7950acfbbe4a3ac12f44da7401f4fd936e01093", func := "hourglass/hourglasslaw07.SumSeals", spec := "sumSeals", apart := false }
def SumSealsSaid : Prop := sumSealsRow.holds Try.pinned (OpenSpec.ofChange sumSealsSpec)

/-- ITS FALSE NEIGHBOUR: 'it returns false'. Refute it at one input. -/
def sumSealsWrong : ChangeSpec := { name := "sumSeals", fn := fun _ => fun
  | [d1, d2, d3] => { results := [.lit (.bool false)], args := [d1, d2, d3] }
  | _ => none }
def SumSealsWrongFalsely : Prop := sumSealsRow.holds Try.pinned (OpenSpec.ofChange sumSealsWrong)

/-- 'hourglasslaw11.SizeDoes': WHATEVER THE INPUT: true; the input reads as it did. -/
def sizeDoesSpec : ChangeSpec := { name := "sizeDoes", fn := fun _ => fun
  | [d1, d2, d3, d4, d5, d6] => { results := [.lit (.bool true)], args := [d1, d2, d3, d4, d5, d6] }
  | _ => none }
def sizeDoesRow : OpenClaim := { program := "ytmbcflanifoofaa", sum := "51b4652b35e337b82471090bf7950acfbbe4a3ac12f44da7401f4fd936e01093", func := "hourglass/hourglasslaw11.SizeDoes", spec := "sizeDoes", unfollowed := true, recurses := true, apart := false }
def SizeDoesSaid : Prop := sizeDoesRow.holds Try.pinned (OpenSpec.ofChange sizeDoesSpec)

/-- ITS FALSE NEIGHBOUR: 'it returns false'. Refute it at one input. -/
def sizeDoesWrong : ChangeSpec := { name := "sizeDoes", fn := fun _ => fun
  | [d1, d2, d3, d4, d5, d6] => { results := [.lit (.bool false)], args := [d1, d2, d3, d4, d5, d6] }
  | _ => none }
def SizeDoesWrongFalsely : Prop := sizeDoesRow.holds Try.pinned (OpenSpec.ofChange sizeDoesWrong)

/-- 'hourglasslaw12.WeighLess': WHATEVER THE INPUT: true; the input reads as it did. -/
def weighLessSpec : ChangeSpec := { name := "weighLess", fn := fun _ => fun
  | [d1, d2, d3, d4, d5] => { results := [.lit (.bool true)], args := [d1, d2, d3, d4, d5] }
  | _ => none }
def weighLessRow : OpenClaim := { program := "ytmbcflanifoofaa", sum := "51b4652b35e337b82471090bf7950acfbbe4a3ac12f44da7401f4fd936e01093", func := "hourglass/hourglasslaw12.WeighLess", spec := "weighLess", unfollowed := true, recurses := true, apart := false }
def WeighLessSaid : Prop := weighLessRow.holds Try.pinned (OpenSpec.ofChange weighLessSpec)

/-- ITS FALSE NEIGHBOUR: 'it returns false'. Refute it at one input. -/
def weighLessWrong : ChangeSpec := { name := "weighLess", fn := fun _ => fun
  | [d1, d2, d3, d4, d5] => { results := [.lit (.bool false)], args := [d1, d2, d3, d4, d5] }
  | _ => none }
def WeighLessWrongFalsely : Prop := weighLessRow.holds Try.pinned (OpenSpec.ofChange weighLessWrong)

/-- 'hourglasslaw12.WeighDoes': WHATEVER THE INPUT: true; the input reads as it did. -/
def weighDoesSpec : ChangeSpec := { name := "weighDoes", fn := fun _ => fun
  | [d1, d2, d3, d4, d5] => { results := [.lit (.bool true)], args := [d1, d2, d3, d4, d5] }
  | _ => none }
def weighDoesRow : OpenClaim := { program := "ytmbcflanifoofaa", sum := "51b4652b35e337b82471090bf7950acfbbe4a3ac12f44da7401f4fd936e01093", func := "hourglass/hourglasslaw12.WeighDoes", spec := "weighDoes", unfollowed := true, recurses := true, apart := false }
def WeighDoesSaid : Prop := weighDoesRow.holds Try.pinned (OpenSpec.ofChange weighDoesSpec)

/-- ITS FALSE NEIGHBOUR: 'it returns false'. Refute it at one input. -/
def weighDoesWrong : ChangeSpec := { name := "weighDoes", fn := fun _ => fun
  | [d1, d2, d3, d4, d5] => { results := [.lit (.bool false)], args := [d1, d2, d3, d4, d5] }
  | _ => none }
def WeighDoesWrongFalsely : Prop := weighDoesRow.holds Try.pinned (OpenSpec.ofChange weighDoesWrong)

/-- 'hourglasslaw12.WeighEnds': WHATEVER THE INPUT: true; the input reads as it did. -/
def weighEndsSpec : ChangeSpec := { name := "weighEnds", fn := fun _ => fun
  | [] => { results := [.lit (.bool true)], args := [] }
  | _ => none }
def weighEndsRow : OpenClaim := { program := "ytmbcflanifoofaa", sum := "51b4652b35e337b82471090bf7950acfbbe4a3ac12f44da7401f4fd936e01093", func := "hourglass/hourglasslaw12.WeighEnds", spec := "weighEnds", unfollowed := true, recurses := true, apart := false }
def WeighEndsSaid : Prop := weighEndsRow.holds Try.pinned (OpenSpec.ofChange weighEndsSpec)

/-- ITS FALSE NEIGHBOUR: 'it returns false'. Refute it at one input. -/
def weighEndsWrong : ChangeSpec := { name := "weighEnds", fn := fun _ => fun
  | [] => { results := [.lit (.bool false)], args := [] }
  | _ => none }
def WeighEndsWrongFalsely : Prop := weighEndsRow.holds Try.pinned (OpenSpec.ofChange weighEndsWrong)

/- THE SECOND FORM. 'bulk': how many values and letters a reading holds, each counted each time it is reached (what is shared counts as often as it is met; a slice's spare places count too). A statement '..UptoSaid' is the law's where the arguments, and the package variables that the reading takes, are together of bulk at most 1048576: NARROWER than '..Said'. Prove '..Said' where nothing that the law and all that it calls make is longer than what came in: it says more and counts as full. Else prove '..UptoSaid'. A law counts once. -/
mutual
def uptoBulk {H : Type} : DataW H → Nat
  | .lit (.string bytes) => bytes.length + 1
  | .lit _ => 1
  | .nil => 1
  | .ptr d => uptoBulk d + 1
  | .slice elems spare => uptoBulkAll elems + uptoBulkAll spare + 1
  | .agg parts => uptoBulkAll parts + 1
  | .iface _ d => uptoBulk d + 1
  | .map entries => uptoBulkEntries entries + 1
  | .held _ => 1
def uptoBulkAll {H : Type} : List (DataW H) → Nat
  | [] => 0
  | d :: r => uptoBulk d + uptoBulkAll r
def uptoBulkEntries {H : Type} : List (Lit × DataW H) → Nat
  | [] => 0
  | x :: r => uptoBulkEntry x + uptoBulkEntries r
def uptoBulkEntry {H : Type} : Lit × DataW H → Nat
  | (.string bytes, d) => bytes.length + uptoBulk d + 1
  | (_, d) => uptoBulk d + 1
 end
def uptoSmall : (H : Type) → List (DataW H) → Bool := fun _ ds => decide (uptoBulkAll ds ≤ 1048576)
def OpenSpec.upto (s : _root_.Go.ChangeSpec) : _root_.Go.OpenSpec := { _root_.Go.OpenSpec.ofChange s with cond := some uptoSmall }

/-- 'hourglasslaw09.StripLess', WHERE WHAT IT READS IS OF BULK AT MOST 1048576: true; the input reads as it did. -/
def stripLessUptoRow : OpenClaim := { program := "ytmbcflanifoofaa", sum := "51b4652b35e337b82471090bf7950acfbbe4a3ac12f44da7401f4fd936e01093", func := "hourglass/hourglasslaw09.StripLess", spec := "stripLess", unfollowed := true, recurses := true, apart := false, narrowed := true }
def StripLessUptoSaid : Prop := stripLessUptoRow.holds Try.pinned (OpenSpec.upto stripLessSpec)

/-- 'hourglasslaw12.WeighOrder', WHERE WHAT IT READS IS OF BULK AT MOST 1048576: true; the input reads as it did. -/
def weighOrderUptoRow : OpenClaim := { program := "ytmbcflanifoofaa", sum := "51b4652b35e337b82471090bf7950acfbbe4a3ac12f44da7401f4fd936e01093", func := "hourglass/hourglasslaw12.WeighOrder", spec := "weighOrder", unfollowed := true, recurses := true, apart := false, narrowed := true }
def WeighOrderUptoSaid : Prop := weighOrderUptoRow.holds Try.pinned (OpenSpec.upto weighOrderSpec)

/-- 'hourglasslaw09.StripDoes', WHERE WHAT IT READS IS OF BULK AT MOST 1048576: true; the input reads as it did. -/
def stripDoesUptoRow : OpenClaim := { program := "ytmbcflanifoofaa", sum := "51b4652b35e337b82471090bf7950acfbbe4a3ac12f44da7401f4fd936e01093", func := "hourglass/hourglasslaw09.StripDoes", spec := "stripDoes", unfollowed := true, recurses := true, apart := false, narrowed := true }
def StripDoesUptoSaid : Prop := stripDoesUptoRow.holds Try.pinned (OpenSpec.upto stripDoesSpec)

/-- 'hourglasslaw09.StripEnds', WHERE WHAT IT READS IS OF BULK AT MOST 1048576: true; the input reads as it did. -/
def stripEndsUptoRow : OpenClaim := { program := "ytmbcflanifoofaa", sum := "51b4652b35e337b82471090bf7950acfbbe4a3ac12f44da7401f4fd936e01093", func := "hourglass/hourglasslaw09.StripEnds", spec := "stripEnds", unfollowed := true, recurses := true, apart := false, narrowed := true }
def StripEndsUptoSaid : Prop := stripEndsUptoRow.holds Try.pinned (OpenSpec.upto stripEndsSpec)

/-- 'hourglasslaw09.StripBack', WHERE WHAT IT READS IS OF BULK AT MOST 1048576: true; the input reads as it did. -/
def stripBackUptoRow : OpenClaim := { program := "ytmbcflanifoofaa", sum := "51b4652b35e337b82471090bf7950acfbbe4a3ac12f44da7401f4fd936e01093", func := "hourglass/hourglasslaw09.StripBack", spec := "stripBack", unfollowed := true, recurses := true, apart := false, narrowed := true }
def StripBackUptoSaid : Prop := stripBackUptoRow.holds Try.pinned (OpenSpec.upto stripBackSpec)

/-- 'hourglasslaw07.SumDoes', WHERE WHAT IT READS IS OF BULK AT MOST 1048576: true; the input reads as it did. -/
def sumDoesUptoRow : OpenClaim := { program := "ytmbcflanifoofaa", sum := "51b4652b35e337b82471090bf7950acfbbe4a3ac12f44da7401f4fd936e01093", func := "hourglass/hourglasslaw07.SumDoes", spec := "sumDoes", apart := false, narrowed := true }
def SumDoesUptoSaid : Prop := sumDoesUptoRow.holds Try.pinned (OpenSpec.upto sumDoesSpec)

/-- 'hourglasslaw07.SumEnds', WHERE WHAT IT READS IS OF BULK AT MOST 1048576: true; the input reads as it did. -/
def sumEndsUptoRow : OpenClaim := { program := "ytmbcflanifoofaa", sum := "51b4652b35e337b82471090bf7950acfbbe4a3ac12f44da7401f4fd936e01093", func := "hourglass/hourglasslaw07.SumEnds", spec := "sumEnds", apart := false, narrowed := true }
def SumEndsUptoSaid : Prop := sumEndsUptoRow.holds Try.pinned (OpenSpec.upto sumEndsSpec)

/-- 'hourglasslaw07.SumSeals', WHERE WHAT IT READS IS OF BULK AT MOST 1048576: true; the input reads as it did. -/
def sumSealsUptoRow : OpenClaim := { program := "ytmbcflanifoofaa", sum := "51b4652b35e337b82471090bf7950acfbbe4a3ac12f44da7401f4fd936e01093", func := "hourglass/hourglasslaw07.SumSeals", spec := "sumSeals", apart := false, narrowed := true }
def SumSealsUptoSaid : Prop := sumSealsUptoRow.holds Try.pinned (OpenSpec.upto sumSealsSpec)

/-- 'hourglasslaw11.SizeDoes', WHERE WHAT IT READS IS OF BULK AT MOST 1048576: true; the input reads as it did. -/
def sizeDoesUptoRow : OpenClaim := { program := "ytmbcflanifoofaa", sum := "51b4652b35e337b82471090bf7950acfbbe4a3ac12f44da7401f4fd936e01093", func := "hourglass/hourglasslaw11.SizeDoes", spec := "sizeDoes", unfollowed := true, recurses := true, apart := false, narrowed := true }
def SizeDoesUptoSaid : Prop := sizeDoesUptoRow.holds Try.pinned (OpenSpec.upto sizeDoesSpec)

/-- 'hourglasslaw12.WeighLess', WHERE WHAT IT READS IS OF BULK AT MOST 1048576: true; the input reads as it did. -/
def weighLessUptoRow : OpenClaim := { program := "ytmbcflanifoofaa", sum := "51b4652b35e337b82471090bf7950acfbbe4a3ac12f44da7401f4fd936e01093", func := "hourglass/hourglasslaw12.WeighLess", spec := "weighLess", unfollowed := true, recurses := true, apart := false, narrowed := true }
def WeighLessUptoSaid : Prop := weighLessUptoRow.holds Try.pinned (OpenSpec.upto weighLessSpec)

/-- 'hourglasslaw12.WeighDoes', WHERE WHAT IT READS IS OF BULK AT MOST 1048576: true; the input reads as it did. -/
def weighDoesUptoRow : OpenClaim := { program := "ytmbcflanifoofaa", sum := "51b4652b35e337b82471090bf7950acfbbe4a3ac12f44da7401f4fd936e01093", func := "hourglass/hourglasslaw12.WeighDoes", spec := "weighDoes", unfollowed := true, recurses := true, apart := false, narrowed := true }
def WeighDoesUptoSaid : Prop := weighDoesUptoRow.holds Try.pinned (OpenSpec.upto weighDoesSpec)

/-- 'hourglasslaw12.WeighEnds', WHERE WHAT IT READS IS OF BULK AT MOST 1048576: true; the input reads as it did. -/
def weighEndsUptoRow : OpenClaim := { program := "ytmbcflanifoofaa", sum := "51b4652b35e337b82471090bf7950acfbbe4a3ac12f44da7401f4fd936e01093", func := "hourglass/hourglasslaw12.WeighEnds", spec := "weighEnds", unfollowed := true, recurses := true, apart := false, narrowed := true }
def WeighEndsUptoSaid : Prop := weighEndsUptoRow.holds Try.pinned (OpenSpec.upto weighEndsSpec)

end Rows
end Go.Proofs.Ytmbcflanifoofaa
