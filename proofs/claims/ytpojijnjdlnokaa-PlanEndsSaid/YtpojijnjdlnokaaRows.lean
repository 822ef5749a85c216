/-
  No cell of these rows narrows 'for every input' (looked for: loops, veiled, ifaces, maps, wideKeys, modest, calm, conditions, laid).
  DERIVED. THE GIVEN ROWS OF THIS SEAT. 7 by the template 'for every input the law returns true; each argument reads behind the call as it read before'; 0 by the template 'total and deterministic' (their statements: YtpojijnjdlnokaaTotals.lean).
  GIVEN WITH THE SEED: the statements are not yours to turn. If you find one false, say at which input.
  Laid BY PROGRAM, IN A SANDBOX (cutbox-rows.mjs): the forced cells as the released guide's own fill.sh prints them over the translation 3af55c0336387d59… (all of the seat's roots in one cut). By AI agents, Wed Nov 11 2026. No macro, syntax, notation, axiom, sorry.
-/
import Derived.Test.YtpojijnjdlnokaaChecked
import GoSem.Claim
import GoSem.ClaimJoined
import GoSem.ClaimMapViews
import Derived.JoinedTies
import Derived.KernelRfl
namespace Go.Proofs.Ytpojijnjdlnokaa
/- THE CELL 'sum', in the pinned program and in every row, IS THE sha256 OF THE DUMP (.gsa) THAT YtpojijnjdlnokaaProg.lean LOADS. Nothing in Lean hashes anything: it is a label: what it is worth is what the hold of that sum in a sandbox is worth. -/
noncomputable def Try.pinned : Pinned := { name := "ytpojijnjdlnokaa", sum := "3af55c0336387d59e49e04d7dcb1616c4f9c1e530849218fc6baf10d090a4edf", checked := Try.checked }
namespace Rows
def none {H : Type} : Left H := { results := [], args := [] }

/-- 'hourglasslaw09.StripDoes': WHATEVER THE INPUT: true; the input reads as it did. -/
def stripDoesSpec : ChangeSpec := { name := "stripDoes", fn := fun _ => fun
  | [d1, d2, d3, d4] => { results := [.lit (.bool true)], args := [d1, d2, d3, d4] }
  | _ => none }
def stripDoesRow : OpenClaim := { program := "ytpojijnjdlnokaa", sum := "3af55c0336387d59e49e04d7dcb1616c4f9c1e530849218fc6baf10d090a4edf", func := "hourglass/hourglasslaw09.StripDoes", spec := "stripDoes", unfollowed := true, recurses := true, apart := false }
def StripDoesSaid : Prop := stripDoesRow.holds Try.pinned (OpenSpec.ofChange stripDoesSpec)

/-- ITS FALSE NEIGHBOUR: 'it returns false'. Refute it at one input. -/
def stripDoesWrong : ChangeSpec := { name := "stripDoes", fn := fun _ => fun
  | [d1, d2, d3, d4] => { results := [.lit (.bool false)], args := [d1, d2, d3, d4] }
  | _ => none }
def StripDoesWrongFalsely : Prop := stripDoesRow.holds Try.pinned (OpenSpec.ofChange stripDoesWrong)

/-- 'hourglasslaw09.StripEnds': WHATEVER THE INPUT: true; the input reads as it did. -/
def stripEndsSpec : ChangeSpec := { name := "stripEnds", fn := fun _ => fun
  | [] => { results := [.lit (.bool true)], args := [] }
  | _ => none }
def stripEndsRow : OpenClaim := { program := "ytpojijnjdlnokaa", sum := "3af55c0336387d59e49e04d7dcb1616c4f9c1e530849218fc6baf10d090a4edf", func := "hourglass/hourglasslaw09.StripEnds", spec := "stripEnds", unfollowed := true, recurses := true, apart := false }
def StripEndsSaid : Prop := stripEndsRow.holds Try.pinned (OpenSpec.ofChange stripEndsSpec)

/-- ITS FALSE NEIGHBOUR: 'it returns false'. Refute it at one input. -/
def stripEndsWrong : ChangeSpec := { name := "stripEnds", fn := fun _ => fun
  | [] => { results := [.lit (.bool false)], args := [] }
  | _ => none }
def StripEndsWrongFalsely : Prop := stripEndsRow.holds Try.pinned (OpenSpec.ofChange stripEndsWrong)

/-- 'hourglasslaw13.PlanBest': WHATEVER THE INPUT: true; the input reads as it did. -/
def planBestSpec : ChangeSpec := { name := "planBest", fn := fun _ => fun
  | [d] => { results := [.lit (.bool true)], args := [d] }
  | _ => none }
def planBestRow : OpenClaim := { program := "ytpojijnjdlnokaa", sum := "3af55c0336387d59e49e04d7dcb1616c4f9c1e530849218fc6baf10d090a4edf", func := "hourglass/hourglasslaw13.PlanBest", spec := "planBest", unfollowed := true, recurses := true, apart := false }
def PlanBestSaid : Prop := planBestRow.holds Try.pinned (OpenSpec.ofChange planBestSpec)

/-- ITS FALSE NEIGHBOUR: 'it returns false'. Refute it at one input. -/
def planBestWrong : ChangeSpec := { name := "planBest", fn := fun _ => fun
  | [d] => { results := [.lit (.bool false)], args := [d] }
  | _ => none }
def PlanBestWrongFalsely : Prop := planBestRow.holds Try.pinned (OpenSpec.ofChange planBestWrong)

/-- 'hourglasslaw13.PlanEnds': WHATEVER THE INPUT: true; the input reads as it did. -/
def planEndsSpec : ChangeSpec := { name := "planEnds", fn := fun _ => fun
  | [] => { results := [.lit (.bool true)], args := [] }
  | _ => none }
def planEndsRow : OpenClaim := { program := "ytpojijnjdlnokaa", sum := "3af55c0336387d59e49e04d7dcb1616c4f9c1e530849218fc6baf10d090a4edf", func := "hourglass/hourglasslaw13.PlanEnds", spec := "planEnds", unfollowed := true, recurses := true, apart := false }
def PlanEndsSaid : Prop := planEndsRow.holds Try.pinned (OpenSpec.ofChange planEndsSpec)

/-- ITS FALSE NEIGHBOUR: 'it returns false'. Refute it at one input. -/
def planEndsWrong : ChangeSpec := { name := "planEnds", fn := fun _ => fun
  | [] => { results := [.lit (.bool false)], args := [] }
  | _ => none }
def PlanEndsWrongFalsely : Prop := planEndsRow.holds Try.pinned (OpenSpec.ofChange planEndsWrong)

/-- 'hourglasslaw14.HeadEnds': WHATEVER THE INPUT: true; the input reads as it did. -/
def headEndsSpec : ChangeSpec := { name := "headEnds", fn := fun _ => fun
  | [] => { results := [.lit (.bool true)], args := [] }
  | _ => none }
def headEndsRow : OpenClaim := { program := "ytpojijnjdlnokaa", sum := "3af55c0336387d59e49e04d7dcb1616c4f9c1e530849218fc6baf10d090a4edf", func := "hourglass/hourglasslaw14.HeadEnds", spec := "headEnds", unfollowed := true, recurses := true, apart := false }
def HeadEndsSaid : Prop := headEndsRow.holds Try.pinned (OpenSpec.ofChange headEndsSpec)

/-- ITS FALSE NEIGHBOUR: 'it returns false'. Refute it at one input. -/
def headEndsWrong : ChangeSpec := { name := "headEnds", fn := fun _ => fun
  | [] => { results := [.lit (.bool false)], args := [] }
  | _ => none }
def HeadEndsWrongFalsely : Prop := headEndsRow.holds Try.pinned (OpenSpec.ofChange headEndsWrong)

/-- 'hourglasslaw13.PlanNone': WHATEVER THE INPUT: true; the input reads as it did. -/
def planNoneSpec : ChangeSpec := { name := "planNone", fn := fun _ => fun
  | [d1, d2] => { results := [.lit (.bool true)], args := [d1, d2] }
  | _ => none }
def planNoneRow : OpenClaim := { program := "ytpojijnjdlnokaa", sum := "3af55c0336387d59e49e04d7dcb1616c4f9c1e530849218fc6baf10d090a4edf", func := "hourglass/hourglasslaw13.PlanNone", spec := "planNone", unfollowed := true, recurses := true, apart := false }
def PlanNoneSaid : Prop := planNoneRow.holds Try.pinned (OpenSpec.ofChange planNoneSpec)

/-- ITS FALSE NEIGHBOUR: 'it returns false'. Refute it at one input. -/
def planNoneWrong : ChangeSpec := { name := "planNone", fn := fun _ => fun
  | [d1, d2] => { results := [.lit (.bool false)], args := [d1, d2] }
  | _ => none }
def PlanNoneWrongFalsely : Prop := planNoneRow.holds Try.pinned (OpenSpec.ofChange planNoneWrong)

/-- 'hourglasslaw13.PlanMore': WHATEVER THE INPUT: true; the input reads as it did. -/
def planMoreSpec : ChangeSpec := { name := "planMore", fn := fun _ => fun
  | [d1, d2, d3] => { results := [.lit (.bool true)], args := [d1, d2, d3] }
  | _ => none }
def planMoreRow : OpenClaim := { program := "ytpojijnjdlnokaa", sum := "3af55c0336387d59e49e04d7dcb1616c4f9c1e530849218fc6baf10d090a4edf", func := "hourglass/hourglasslaw13.PlanMore", spec := "planMore", unfollowed := true, recurses := true, apart := false }
def PlanMoreSaid : Prop := planMoreRow.holds Try.pinned (OpenSpec.ofChange planMoreSpec)

/-- ITS FALSE NEIGHBOUR: 'it returns false'. Refute it at one input. -/
def planMoreWrong : ChangeSpec := { name := "planMore", fn := fun _ => fun
  | [d1, d2, d3] => { results := [.lit (.bool false)], args := [d1, d2, d3] }
  | _ => none }
def PlanMoreWrongFalsely : Prop := planMoreRow.holds Try.pinned (OpenSpec.ofChange planMoreWrong)

/- THE SECOND FORM. 'bulk': how many values and letters a reading holds, each counted each time it is reached (what is shared counts as often as it is met; a slice's spare places count too). A statement '..UptoSaid' is the law's where the arguments, and the package variables that the reading takes, are together of bulk at most 1048576: NARROWER than '..Said'. Prove '..Said' where nothing that the law and all that it calls make is longer than what came in: it says more and counts as full. Else prove '..UptoSaid'. A law counts once. -/
mutual
def uptoBulk {H : Type} : DataW H → Nat
  | .lit (.string bytes) => bytes.length + 1
  | .lit _ => 1
  | .nil => 1
  | .ptr d => uptoBulk d + 1
  | .slice elems spare => uptoBulkAll elems + uptoBulkAll spare + 1
  | .agg parts => uptoBulkAll parts + 1
  | .iface _ d => uptoBulk d + 1
  | .map entries => uptoBulkEntries entries + 1
  | .held _ => 1
def uptoBulkAll {H : Type} : List (DataW H) → Nat
  | [] => 0
  | d :: r => uptoBulk d + uptoBulkAll r
def uptoBulkEntries {H : Type} : List (Lit × DataW H) → Nat
  | [] => 0
  | x :: r => uptoBulkEntry x + uptoBulkEntries r
def uptoBulkEntry {H : Type} : Lit × DataW H → Nat
  | (.string bytes, d) => bytes.length + uptoBulk d + 1
  | (_, d) => uptoBulk d + 1
 end
def uptoSmall : (H : Type) → List (DataW H) → Bool := fun _ ds => decide (uptoBulkAll ds ≤ 1048576)
def OpenSpec.upto (s : _root_.Go.ChangeSpec) : _root_.Go.OpenSpec := { _root_.Go.OpenSpec.ofChange s with cond := some uptoSmall }

/-- 'hourglasslaw09.StripDoes', WHERE WHAT IT READS IS OF BULK AT MOST 1048576: true; the input reads as it did. -/
def stripDoesUptoRow : OpenClaim := { program := "ytpojijnjdlnokaa", sum := "3af55c0336387d59e49e04d7dcb1616c4f9c1e530849218fc6baf10d090a4edf", func := "hourglass/hourglasslaw09.StripDoes", spec := "stripDoes", unfollowed := true, recurses := true, apart := false, narrowed := true }
def StripDoesUptoSaid : Prop := stripDoesUptoRow.holds Try.pinned (OpenSpec.upto stripDoesSpec)

/-- 'hourglasslaw09.StripEnds', WHERE WHAT IT READS IS OF BULK AT MOST 1048576: true; the input reads as it did. -/
def stripEndsUptoRow : OpenClaim := { program := "ytpojijnjdlnokaa", sum := "3af55c0336387d59e49e04d7dcb1616c4f9c1e530849218fc6baf10d090a4edf", func := "hourglass/hourglasslaw09.StripEnds", spec := "stripEnds", unfollowed := true, recurses := true, apart := false, narrowed := true }
def StripEndsUptoSaid : Prop := stripEndsUptoRow.holds Try.pinned (OpenSpec.upto stripEndsSpec)

/-- 'hourglasslaw13.PlanBest', WHERE WHAT IT READS IS OF BULK AT MOST 1048576: true; the input reads as it did. -/
def planBestUptoRow : OpenClaim := { program := "ytpojijnjdlnokaa", sum := "3af55c0336387d59e49e04d7dcb1616c4f9c1e530849218fc6baf10d090a4edf", func := "hourglass/hourglasslaw13.PlanBest", spec := "planBest", unfollowed := true, recurses := true, apart := false, narrowed := true }
def PlanBestUptoSaid : Prop := planBestUptoRow.holds Try.pinned (OpenSpec.upto planBestSpec)

/-- 'hourglasslaw13.PlanEnds', WHERE WHAT IT READS IS OF BULK AT MOST 1048576: true; the input reads as it did. -/
def planEndsUptoRow : OpenClaim := { program := "ytpojijnjdlnokaa", sum := "3af55c0336387d59e49e04d7dcb1616c4f9c1e530849218fc6baf10d090a4edf", func := "hourglass/hourglasslaw13.PlanEnds", spec := "planEnds", unfollowed := true, recurses := true, apart := false, narrowed := true }
def PlanEndsUptoSaid : Prop := planEndsUptoRow.holds Try.pinned (OpenSpec.upto planEndsSpec)

/-- 'hourglasslaw14.HeadEnds', WHERE WHAT IT READS IS OF BULK AT MOST 1048576: true; the input reads as it did. -/
def headEndsUptoRow : OpenClaim := { program := "ytpojijnjdlnokaa", sum := "3af55c0336387d59e49e04d7dcb1616c4f9c1e530849218fc6baf10d090a4edf", func := "hourglass/hourglasslaw14.HeadEnds", spec := "headEnds", unfollowed := true, recurses := true, apart := false, narrowed := true }
def HeadEndsUptoSaid : Prop := headEndsUptoRow.holds Try.pinned (OpenSpec.upto headEndsSpec)

/-- 'hourglasslaw13.PlanNone', WHERE WHAT IT READS IS OF BULK AT MOST 1048576: true; the input reads as it did. -/
def planNoneUptoRow : OpenClaim := { program := "ytpojijnjdlnokaa", sum := "3af55c0336387d59e49e04d7dcb1616c4f9c1e530849218fc6baf10d090a4edf", func := "hourglass/hourglasslaw13.PlanNone", spec := "planNone", unfollowed := true, recurses := true, apart := false, narrowed := true }
def PlanNoneUptoSaid : Prop := planNoneUptoRow.holds Try.pinned (OpenSpec.upto planNoneSpec)

/-- 'hourglasslaw13.PlanMore', WHERE WHAT IT READS IS OF BULK AT MOST 1048576: true; the input reads as it did. -/
def planMoreUptoRow : OpenClaim := { program := "ytpojijnjdlnokaa", sum := "3af55c0336387d59e49e04d7dcb1616c4f9c1e530849218fc6baf10d090a4edf", func := "hourglass/hourglasslaw13.PlanMore", spec := "planMore", unfollowed := true, recurses := true, apart := false, narrowed := true }
def PlanMoreUptoSaid : Prop := planMoreUptoRow.holds Try.pinned (OpenSpec.upto planMoreSpec)

end Rows
end Go.Proofs.Ytpojijnjdlnokaa
