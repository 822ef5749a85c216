/-
  No cell of these rows narrows 'for every input' (looked for: loops, veiled, ifaces, maps, wideKeys, modest, calm, conditions, laid).
  DERIVED. THE GIVEN ROWS OF THIS SEAT. 7 by the template 'for every input the law returns true; each argument reads behind the call as it read before'; 0 by the template 'total and deterministic' (their statements: YthaifamjgcfkaaaTotals.lean).
  GIVEN WITH THE SEED: the statements are not yours to turn. If you find one false, say at which input.
  Laid BY PROGRAM, IN A SANDBOX (cutbox-rows.mjs): the forced cells as the released guide's own fill.sh prints them over the translation fdcfc8be7c74b3f6… (all of the seat's roots in one cut). By AI agents, Wed Nov 11 2026. No macro, syntax, notation, axiom, sorry.
-/
import Derived.Test.YthaifamjgcfkaaaChecked
import GoSem.Claim
import GoSem.ClaimJoined
import GoSem.ClaimMapViews
import Derived.JoinedTies
import Derived.KernelRfl
namespace Go.Proofs.Ythaifamjgcfkaaa
/- THE CELL 'sum', in the pinned program and in every row, IS THE sha256 OF THE DUMP (.gsa) THAT YthaifamjgcfkaaaProg.lean LOADS. Nothing in Lean hashes anything: it is a label: what it is worth is what the hold of that sum in a sandbox is worth. -/
noncomputable def Try.pinned : Pinned := { name := "ythaifamjgcfkaaa", sum := "fdcfc8be7c74b3f69a28e0baa9d1a70be8733d0f9b4e0522938974abaa5668e2", checked := Try.checked }
namespace Rows
def none {H : Type} : Left H := { results := [], args := [] }

/-- 'hourglasslaw15.NoteParses': WHATEVER THE INPUT: true; the input reads as it did. -/
def noteParsesSpec : ChangeSpec := { name := "noteParses", fn := fun _ => fun
  | [d] => { results := [.lit (.bool true)], args := [d] }
  | _ => none }
def noteParsesRow : OpenClaim := { program := "ythaifamjgcfkaaa", sum := "fdcfc8be7c74b3f69a28e0baa9d1a70be8733d0f9b4e0522938974abaa5668e2", func := "hourglass/hourglasslaw15.NoteParses", spec := "noteParses", unfollowed := true, recurses := true, apart := false }
def NoteParsesSaid : Prop := noteParsesRow.holds Try.pinned (OpenSpec.ofChange noteParsesSpec)

/-- ITS FALSE NEIGHBOUR: 'it returns false'. Refute it at one input. -/
def noteParsesWrong : ChangeSpec := { name := "noteParses", fn := fun _ => fun
  | [d] => { results := [.lit (.bool false)], args := [d] }
  | _ => none }
def NoteParsesWrongFalsely : Prop := noteParsesRow.holds Try.pinned (OpenSpec.ofChange noteParsesWrong)

/-- 'hourglasslaw15.NoteBack': WHATEVER THE INPUT: true; the input reads as it did. -/
def noteBackSpec : ChangeSpec := { name := "noteBack", fn := fun _ => fun
  | [d1, d2, d3] => { results := [.lit (.bool true)], args := [d1, d2, d3] }
  | _ => none }
def noteBackRow : OpenClaim := { program := "ythaifamjgcfkaaa", sum := "fdcfc8be7c74b3f69a28e0baa9d1a70be8733d0f9b4e0522938974abaa5668e2", func := "hourglass/hourglasslaw15.NoteBack", spec := "noteBack", unfollowed := true, recurses := true, apart := false }
def NoteBackSaid : Prop := noteBackRow.holds Try.pinned (OpenSpec.ofChange noteBackSpec)

/-- ITS FALSE NEIGHBOUR: 'it returns false'. Refute it at one input. -/
def noteBackWrong : ChangeSpec := { name := "noteBack", fn := fun _ => fun
  | [d1, d2, d3] => { results := [.lit (.bool false)], args := [d1, d2, d3] }
  | _ => none }
def NoteBackWrongFalsely : Prop := noteBackRow.holds Try.pinned (OpenSpec.ofChange noteBackWrong)

/-- 'hourglasslaw15.NoteSums': WHATEVER THE INPUT: true; the input reads as it did. -/
def noteSumsSpec : ChangeSpec := { name := "noteSums", fn := fun _ => fun
  | [d1, d2] => { results := [.lit (.bool true)], args := [d1, d2] }
  | _ => none }
def noteSumsRow : OpenClaim := { program := "ythaifamjgcfkaaa", sum := "fdcfc8be7c74b3f69a28e0baa9d1a70be8733d0f9b4e0522938974abaa5668e2", func := "hourglass/hourglasslaw15.NoteSums", spec := "noteSums", unfollowed := true, recurses := true, apart := false }
def NoteSumsSaid : Prop := noteSumsRow.holds Try.pinned (OpenSpec.ofChange noteSumsSpec)

/-- ITS FALSE NEIGHBOUR: 'it returns false'. Refute it at one input. -/
def noteSumsWrong : ChangeSpec := { name := "noteSums", fn := fun _ => fun
  | [d1, d2] => { results := [.lit (.bool false)], args := [d1, d2] }
  | _ => none }
def NoteSumsWrongFalsely : Prop := noteSumsRow.holds Try.pinned (OpenSpec.ofChange noteSumsWrong)

/-- 'hourglasslaw13.PlanBest': WHATEVER THE INPUT: true; the input reads as it did. -/
def planBestSpec : ChangeSpec := { name := "planBest", fn := fun _ => fun
  | [d] => { results := [.lit (.bool true)], args := [d] }
  | _ => none }
def planBestRow : OpenClaim := { program := "ythaifamjgcfkaaa", sum := "fdcfc8be7c74b3f69a28e0baa9d1a70be8733d0f9b4e0522938974abaa5668e2", func := "hourglass/hourglasslaw13.PlanBest", spec := "planBest", unfollowed := true, recurses := true, apart := false }
def PlanBestSaid : Prop := planBestRow.holds Try.pinned (OpenSpec.ofChange planBestSpec)

/-- ITS FALSE NEIGHBOUR: 'it returns false'. Refute it at one input. -/
def planBestWrong : ChangeSpec := { name := "planBest", fn := fun _ => fun
  | [d] => { results := [.lit (.bool false)], args := [d] }
  | _ => none }
def PlanBestWrongFalsely : Prop := planBestRow.holds Try.pinned (OpenSpec.ofChange planBestWrong)

/-- 'hourglasslaw13.PlanEnds': WHATEVER THE INPUT: true; the input reads as it did. -/
def planEndsSpec : ChangeSpec := { name := "planEnds", fn := fun _ => fun
  | [] => { results := [.lit (.bool true)], args := [] }
  | _ => none }
def planEndsRow : OpenClaim := { program := "ythaifamjgcfkaaa", sum := "fdcfc8be7c74b3f69a28e0baa9d1a70be8733d0f9b4e0522938974abaa5668e2", func := "hourglass/hourglasslaw13.PlanEnds", spec := "planEnds", unfollowed := true, recurses := true, apart := false }
def PlanEndsSaid : Prop := planEndsRow.holds Try.pinned (OpenSpec.ofChange planEndsSpec)

/-- ITS FALSE NEIGHBOUR: 'it returns false'. Refute it at one input. -/
def planEndsWrong : ChangeSpec := { name := "planEnds", fn := fun _ => fun
  | [] => { results := [.lit (.bool false)], args := [] }
  | _ => none }
def PlanEndsWrongFalsely : Prop := planEndsRow.holds Try.pinned (OpenSpec.ofChange planEndsWrong)

/-- 'hourglasslaw13.PlanNone': WHATEVER THE INPUT: true; the input reads as it did. -/
def planNoneSpec : ChangeSpec := { name := "planNone", fn := fun _ => fun
  | [d1, d2] => { results := [.lit (.bool true)], args := [d1, d2] }
  | _ => none }
def planNoneRow : OpenClaim := { program := "ythaifamjgcfkaaa", sum := "fdcfc8be7c74b3f69a28e0baa9d1a70be8733d0f9b4e0522938974abaa5668e2", func := "hourglass/hourglasslaw13.PlanNone", spec := "planNone", unfollowed := true, recurses := true, apart := false }
def PlanNoneSaid : Prop := planNoneRow.holds Try.pinned (OpenSpec.ofChange planNoneSpec)

/-- ITS FALSE NEIGHBOUR: 'it returns false'. Refute it at one input. -/
def planNoneWrong : ChangeSpec := { name := "planNone", fn := fun _ => fun
  | [d1, d2] => { results := [.lit (.bool false)], args := [d1, d2] }
  | _ => none }
def PlanNoneWrongFalsely : Prop := planNoneRow.holds Try.pinned (OpenSpec.ofChange planNoneWrong)

/-- 'hourglasslaw13.PlanMore': WHATEVER THE INPUT: true; the input reads as it did. -/
def planMoreSpec : ChangeSpec := { name := "planMore", fn := fun _ => fun
  | [d1, d2, d3] => { results := [.lit (.bool true)], args := [d1, d2, d3] }
  | _ => none }
def planMoreRow : OpenClaim := { program := "ythaifamjgcfkaaa", sum := "fdcfc8be7c74b3f69a28e0baa9d1a70be8733d0f9b4e0522938974abaa5668e2", func := "hourglass/hourglasslaw13.PlanMore", spec := "planMore", unfollowed := true, recurses := true, apart := false }
def PlanMoreSaid : Prop := planMoreRow.holds Try.pinned (OpenSpec.ofChange planMoreSpec)

/-- ITS FALSE NEIGHBOUR: 'it returns false'. Refute it at one input. -/
def planMoreWrong : ChangeSpec := { name := "planMore", fn := fun _ => fun
  | [d1, d2, d3] => { results := [.lit (.bool false)], args := [d1, d2, d3] }
  | _ => none }
def PlanMoreWrongFalsely : Prop := planMoreRow.holds Try.pinned (OpenSpec.ofChange planMoreWrong)

/- THE SECOND FORM. 'bulk': how many values and letters a reading holds, each counted each time it is reached (what is shared counts as often as it is met; a slice's spare places count too). A statement '..UptoSaid' is the law's where the arguments, and the package variables that the reading takes, are together of bulk at most 1048576: NARROWER than '..Said'. Prove '..Said' where nothing that the law and all that it calls make is longer than what came in: it says more and counts as full. Else prove '..UptoSaid'. A law counts once. -/
mutual
def uptoBulk {H : Type} : DataW H → Nat
  | .lit (.string bytes) => bytes.length + 1
  | .lit _ => 1
  | .nil => 1
  | .ptr d => uptoBulk d + 1
  | .slice elems spare => uptoBulkAll elems + uptoBulkAll spare + 1
  | .agg parts => uptoBulkAll parts + 1
  | .iface _ d => uptoBulk d + 1
  | .map entries => uptoBulkEntries entries + 1
  | .held _ => 1
def uptoBulkAll {H : Type} : List (DataW H) → Nat
  | [] => 0
  | d :: r => uptoBulk d + uptoBulkAll r
def uptoBulkEntries {H : Type} : List (Lit × DataW H) → Nat
  | [] => 0
  | x :: r => uptoBulkEntry x + uptoBulkEntries r
def uptoBulkEntry {H : Type} : Lit × DataW H → Nat
  | (.string bytes, d) => bytes.length + uptoBulk d + 1
  | (_, d) => uptoBulk d + 1
 end
def uptoSmall : (H : Type) → List (DataW H) → Bool := fun _ ds => decide (uptoBulkAll ds ≤ 1048576)
def OpenSpec.upto (s : _root_.Go.ChangeSpec) : _root_.Go.OpenSpec := { _root_.Go.OpenSpec.ofChange s with cond := some uptoSmall }

/-- 'hourglasslaw15.NoteParses', WHERE WHAT IT READS IS OF BULK AT MOST 1048576: true; the input reads as it did. -/
def noteParsesUptoRow : OpenClaim := { program := "ythaifamjgcfkaaa", sum := "fdcfc8be7c74b3f69a28e0baa9d1a70be8733d0f9b4e0522938974abaa5668e2", func := "hourglass/hourglasslaw15.NoteParses", spec := "noteParses", unfollowed := true, recurses := true, apart := false, narrowed := true }
def NoteParsesUptoSaid : Prop := noteParsesUptoRow.holds Try.pinned (OpenSpec.upto noteParsesSpec)

/-- 'hourglasslaw15.NoteBack', WHERE WHAT IT READS IS OF BULK AT MOST 1048576: true; the input reads as it did. -/
def noteBackUptoRow : OpenClaim := { program := "ythaifamjgcfkaaa", sum := "fdcfc8be7c74b3f69a28e0baa9d1a70be8733d0f9b4e0522938974abaa5668e2", func := "hourglass/hourglasslaw15.NoteBack", spec := "noteBack", unfollowed := true, recurses := true, apart := false, narrowed := true }
def NoteBackUptoSaid : Prop := noteBackUptoRow.holds Try.pinned (OpenSpec.upto noteBackSpec)

/-- 'hourglasslaw15.NoteSums', WHERE WHAT IT READS IS OF BULK AT MOST 1048576: true; the input reads as it did. -/
def noteSumsUptoRow : OpenClaim := { program := "ythaifamjgcfkaaa", sum := "fdcfc8be7c74b3f69a28e0baa9d1a70be8733d0f9b4e0522938974abaa5668e2", func := "hourglass/hourglasslaw15.NoteSums", spec := "noteSums", unfollowed := true, recurses := true, apart := false, narrowed := true }
def NoteSumsUptoSaid : Prop := noteSumsUptoRow.holds Try.pinned (OpenSpec.upto noteSumsSpec)

/-- 'hourglasslaw13.PlanBest', WHERE WHAT IT READS IS OF BULK AT MOST 1048576: true; the input reads as it did. -/
def planBestUptoRow : OpenClaim := { program := "ythaifamjgcfkaaa", sum := "fdcfc8be7c74b3f69a28e0baa9d1a70be8733d0f9b4e0522938974abaa5668e2", func := "hourglass/hourglasslaw13.PlanBest", spec := "planBest", unfollowed := true, recurses := true, apart := false, narrowed := true }
def PlanBestUptoSaid : Prop := planBestUptoRow.holds Try.pinned (OpenSpec.upto planBestSpec)

/-- 'hourglasslaw13.PlanEnds', WHERE WHAT IT READS IS OF BULK AT MOST 1048576: true; the input reads as it did. -/
def planEndsUptoRow : OpenClaim := { program := "ythaifamjgcfkaaa", sum := "fdcfc8be7c74b3f69a28e0baa9d1a70be8733d0f9b4e0522938974abaa5668e2", func := "hourglass/hourglasslaw13.PlanEnds", spec := "planEnds", unfollowed := true, recurses := true, apart := false, narrowed := true }
def PlanEndsUptoSaid : Prop := planEndsUptoRow.holds Try.pinned (OpenSpec.upto planEndsSpec)

/-- 'hourglasslaw13.PlanNone', WHERE WHAT IT READS IS OF BULK AT MOST 1048576: true; the input reads as it did. -/
def planNoneUptoRow : OpenClaim := { program := "ythaifamjgcfkaaa", sum := "fdcfc8be7c74b3f69a28e0baa9d1a70be8733d0f9b4e0522938974abaa5668e2", func := "hourglass/hourglasslaw13.PlanNone", spec := "planNone", unfollowed := true, recurses := true, apart := false, narrowed := true }
def PlanNoneUptoSaid : Prop := planNoneUptoRow.holds Try.pinned (OpenSpec.upto planNoneSpec)

/-- 'hourglasslaw13.PlanMore', WHERE WHAT IT READS IS OF BULK AT MOST 1048576: true; the input reads as it did. -/
def planMoreUptoRow : OpenClaim := { program := "ythaifamjgcfkaaa", sum := "fdcfc8be7c74b3f69a28e0baa9d1a70be8733d0f9b4e0522938974abaa5668e2", func := "hourglass/hourglasslaw13.PlanMore", spec := "planMore", unfollowed := true, recurses := true, apart := false, narrowed := true }
def PlanMoreUptoSaid : Prop := planMoreUptoRow.holds Try.pinned (OpenSpec.upto planMoreSpec)

end Rows
end Go.Proofs.Ythaifamjgcfkaaa
