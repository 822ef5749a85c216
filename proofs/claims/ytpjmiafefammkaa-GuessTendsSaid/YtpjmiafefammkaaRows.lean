/-
  No cell of these rows narrows 'for every input' (looked for: loops, veiled, ifaces, maps, wideKeys, modest, calm, conditions, laid).
  DERIVED. THE GIVEN ROWS OF THIS SEAT. 11 by the template 'for every input the law returns true; each argument reads behind the call as it read before'; 0 by the template 'total and deterministic' (their statements: YtpjmiafefammkaaTotals.lean).
  GIVEN WITH THE SEED: the statements are not yours to turn. If you find one false, say at which input.
  Laid BY PROGRAM, IN A SANDBOX (cutbox-rows.mjs): the forced cells as the released guide's own fill.sh prints them over the translation 5003093af49dcf46… (all of the seat's roots in one cut). By AI agents, Wed Nov 11 2026. No macro, syntax, notation, axiom, sorry.
-/
import Derived.Test.YtpjmiafefammkaaChecked
import GoSem.Claim
import GoSem.ClaimJoined
import GoSem.ClaimMapViews
import Derived.JoinedTies
import Derived.KernelRfl
namespace Go.Proofs.Ytpjmiafefammkaa
/- THE CELL 'sum', in the pinned program and in every row, IS THE sha256 OF THE DUMP (.gsa) THAT YtpjmiafefammkaaProg.lean LOADS. Nothing in Lean hashes anything: it is a label: what it is worth is what the hold of that sum in a sandbox is worth. -/
noncomputable def Try.pinned : Pinned := { name := "ytpjmiafefammkaa", sum := "5003093af49dcf461825768f8996bbcfa016461ee4959c319ef46288380de9b7", checked := Try.checked }
namespace Rows
def none {H : Type} : Left H := { results := [], args := [] }

/-- 'hourglasslaw24.GuessHears': WHATEVER THE INPUT: true; the input reads as it did. -/
def guessHearsSpec : ChangeSpec := { name := "guessHears", fn := fun _ => fun
  | [d1, d2, d3] => { results := [.lit (.bool true)], args := [d1, d2, d3] }
  | _ => none }
def guessHearsRow : OpenClaim := { program := "ytpjmiafefammkaa", sum := "5003093af49dcf461825768f8996bbcfa016461ee4959c319ef46288380de9b7", func := "hourglass/hourglasslaw24.GuessHears", spec := "guessHears", unfollowed := true, recurses := true, apart := false }
def GuessHearsSaid : Prop := guessHearsRow.holds Try.pinned (OpenSpec.ofChange guessHearsSpec)

/-- ITS FALSE NEIGHBOUR: 'it returns false'. Refute it at one input. -/
def guessHearsWrong : ChangeSpec := { name := "guessHears", fn := fun _ => fun
  | [d1, d2, d3] => { results := [.lit (.bool false)], args := [d1, d2, d3] }
  | _ => none }
def GuessHearsWrongFalsely : Prop := guessHearsRow.holds Try.pinned (OpenSpec.ofChange guessHearsWrong)

/-- 'hourglasslaw24.GuessSmall': WHATEVER THE INPUT: true; the input reads as it did. -/
def guessSmallSpec : ChangeSpec := { name := "guessSmall", fn := fun _ => fun
  | [] => { results := [.lit (.bool true)], args := [] }
  | _ => none }
def guessSmallRow : OpenClaim := { program := "ytpjmiafefammkaa", sum := "5003093af49dcf461825768f8996bbcfa016461ee4959c319ef46288380de9b7", func := "hourglass/hourglasslaw24.GuessSmall", spec := "guessSmall", unfollowed := true, recurses := true, apart := false }
def GuessSmallSaid : Prop := guessSmallRow.holds Try.pinned (OpenSpec.ofChange guessSmallSpec)

/-- ITS FALSE NEIGHBOUR: 'it returns false'. Refute it at one input. -/
def guessSmallWrong : ChangeSpec := { name := "guessSmall", fn := fun _ => fun
  | [] => { results := [.lit (.bool false)], args := [] }
  | _ => none }
def GuessSmallWrongFalsely : Prop := guessSmallRow.holds Try.pinned (OpenSpec.ofChange guessSmallWrong)

/-- 'hourglasslaw24.GuessFolds': WHATEVER THE INPUT: true; the input reads as it did. -/
def guessFoldsSpec : ChangeSpec := { name := "guessFolds", fn := fun _ => fun
  | [d1, d2] => { results := [.lit (.bool true)], args := [d1, d2] }
  | _ => none }
def guessFoldsRow : OpenClaim := { program := "ytpjmiafefammkaa", sum := "5003093af49dcf461825768f8996bbcfa016461ee4959c319ef46288380de9b7", func := "hourglass/hourglasslaw24.GuessFolds", spec := "guessFolds", unfollowed := true, recurses := true, apart := false }
def GuessFoldsSaid : Prop := guessFoldsRow.holds Try.pinned (OpenSpec.ofChange guessFoldsSpec)

/-- ITS FALSE NEIGHBOUR: 'it returns false'. Refute it at one input. -/
def guessFoldsWrong : ChangeSpec := { name := "guessFolds", fn := fun _ => fun
  | [d1, d2] => { results := [.lit (.bool false)], args := [d1, d2] }
  | _ => none }
def GuessFoldsWrongFalsely : Prop := guessFoldsRow.holds Try.pinned (OpenSpec.ofChange guessFoldsWrong)

/-- 'hourglasslaw24.GuessTends': WHATEVER THE INPUT: true; the input reads as it did. -/
def guessTendsSpec : ChangeSpec := { name := "guessTends", fn := fun _ => fun
  | [d1, d2, d3] => { results := [.lit (.bool true)], args := [d1, d2, d3] }
  | _ => none }
def guessTendsRow : OpenClaim := { program := "ytpjmiafefammkaa", sum := "5003093af49dcf461825768f8996bbcfa016461ee4959c319ef46288380de9b7", func := "hourglass/hourglasslaw24.GuessTends", spec := "guessTends", unfollowed := true, recurses := true, apart := false }
def GuessTendsSaid : Prop := guessTendsRow.holds Try.pinned (OpenSpec.ofChange guessTendsSpec)

/-- ITS FALSE NEIGHBOUR: 'it returns false'. Refute it at one input. -/
def guessTendsWrong : ChangeSpec := { name := "guessTends", fn := fun _ => fun
  | [d1, d2, d3] => { results := [.lit (.bool false)], args := [d1, d2, d3] }
  | _ => none }
def GuessTendsWrongFalsely : Prop := guessTendsRow.holds Try.pinned (OpenSpec.ofChange guessTendsWrong)

/-- 'hourglasslaw25.HopeLess': WHATEVER THE INPUT: true; the input reads as it did. -/
def hopeLessSpec : ChangeSpec := { name := "hopeLess", fn := fun _ => fun
  | [d1, d2, d3, d4] => { results := [.lit (.bool true)], args := [d1, d2, d3, d4] }
  | _ => none }
def hopeLessRow : OpenClaim := { program := "ytpjmiafefammkaa", sum := "5003093af49dcf461825768f8996bbcfa016461ee4959c319ef46288380de9b7", func := "hourglass/hourglasslaw25.HopeLess", spec := "hopeLess", unfollowed := true, recurses := true, apart := false }
def HopeLessSaid : Prop := hopeLessRow.holds Try.pinned (OpenSpec.ofChange hopeLessSpec)

/-- ITS FALSE NEIGHBOUR: 'it returns false'. Refute it at one input. -/
def hopeLessWrong : ChangeSpec := { name := "hopeLess", fn := fun _ => fun
  | [d1, d2, d3, d4] => { results := [.lit (.bool false)], args := [d1, d2, d3, d4] }
  | _ => none }
def HopeLessWrongFalsely : Prop := hopeLessRow.holds Try.pinned (OpenSpec.ofChange hopeLessWrong)

/-- 'hourglasslaw25.HopeTells': WHATEVER THE INPUT: true; the input reads as it did. -/
def hopeTellsSpec : ChangeSpec := { name := "hopeTells", fn := fun _ => fun
  | [d1, d2, d3, d4] => { results := [.lit (.bool true)], args := [d1, d2, d3, d4] }
  | _ => none }
def hopeTellsRow : OpenClaim := { program := "ytpjmiafefammkaa", sum := "5003093af49dcf461825768f8996bbcfa016461ee4959c319ef46288380de9b7", func := "hourglass/hourglasslaw25.HopeTells", spec := "hopeTells", unfollowed := true, recurses := true, apart := false }
def HopeTellsSaid : Prop := hopeTellsRow.holds Try.pinned (OpenSpec.ofChange hopeTellsSpec)

/-- ITS FALSE NEIGHBOUR: 'it returns false'. Refute it at one input. -/
def hopeTellsWrong : ChangeSpec := { name := "hopeTells", fn := fun _ => fun
  | [d1, d2, d3, d4] => { results := [.lit (.bool false)], args := [d1, d2, d3, d4] }
  | _ => none }
def HopeTellsWrongFalsely : Prop := hopeTellsRow.holds Try.pinned (OpenSpec.ofChange hopeTellsWrong)

/-- 'hourglasslaw25.HopeMeans': WHATEVER THE INPUT: true; the input reads as it did. -/
def hopeMeansSpec : ChangeSpec := { name := "hopeMeans", fn := fun _ => fun
  | [d1, d2, d3] => { results := [.lit (.bool true)], args := [d1, d2, d3] }
  | _ => none }
def hopeMeansRow : OpenClaim := { program := "ytpjmiafefammkaa", sum := "5003093af49dcf461825768f8996bbcfa016461ee4959c319ef46288380de9b7", func := "hourglass/hourglasslaw25.HopeMeans", spec := "hopeMeans", unfollowed := true, recurses := true, apart := false }
def HopeMeansSaid : Prop := hopeMeansRow.holds Try.pinned (OpenSpec.ofChange hopeMeansSpec)

/-- ITS FALSE NEIGHBOUR: 'it returns false'. Refute it at one input. -/
def hopeMeansWrong : ChangeSpec := { name := "hopeMeans", fn := fun _ => fun
  | [d1, d2, d3] => { results := [.lit (.bool false)], args := [d1, d2, d3] }
  | _ => none }
def HopeMeansWrongFalsely : Prop := hopeMeansRow.holds Try.pinned (OpenSpec.ofChange hopeMeansWrong)

/-- 'hourglasslaw25.HopeSmall': WHATEVER THE INPUT: true; the input reads as it did. -/
def hopeSmallSpec : ChangeSpec := { name := "hopeSmall", fn := fun _ => fun
  | [] => { results := [.lit (.bool true)], args := [] }
  | _ => none }
def hopeSmallRow : OpenClaim := { program := "ytpjmiafefammkaa", sum := "5003093af49dcf461825768f8996bbcfa016461ee4959c319ef46288380de9b7", func := "hourglass/hourglasslaw25.HopeSmall", spec := "hopeSmall", unfollowed := true, recurses := true, apart := false }
def HopeSmallSaid : Prop := hopeSmallRow.holds Try.pinned (OpenSpec.ofChange hopeSmallSpec)

/-- ITS FALSE NEIGHBOUR: 'it returns false'. Refute it at one input. -/
def hopeSmallWrong : ChangeSpec := { name := "hopeSmall", fn := fun _ => fun
  | [] => { results := [.lit (.bool false)], args := [] }
  | _ => none }
def HopeSmallWrongFalsely : Prop := hopeSmallRow.holds Try.pinned (OpenSpec.ofChange hopeSmallWrong)

/-- 'hourglasslaw25.HopeHears': WHATEVER THE INPUT: true; the input reads as it did. -/
def hopeHearsSpec : ChangeSpec := { name := "hopeHears", fn := fun _ => fun
  | [d1, d2] => { results := [.lit (.bool true)], args := [d1, d2] }
  | _ => none }
def hopeHearsRow : OpenClaim := { program := "ytpjmiafefammkaa", sum := "5003093af49dcf461825768f8996bbcfa016461ee4959c319ef46288380de9b7", func := "hourglass/hourglasslaw25.HopeHears", spec := "hopeHears", unfollowed := true, recurses := true, apart := false }
def HopeHearsSaid : Prop := hopeHearsRow.holds Try.pinned (OpenSpec.ofChange hopeHearsSpec)

/-- ITS FALSE NEIGHBOUR: 'it returns false'. Refute it at one input. -/
def hopeHearsWrong : ChangeSpec := { name := "hopeHears", fn := fun _ => fun
  | [d1, d2] => { results := [.lit (.bool false)], args := [d1, d2] }
  | _ => none }
def HopeHearsWrongFalsely : Prop := hopeHearsRow.holds Try.pinned (OpenSpec.ofChange hopeHearsWrong)

/-- 'hourglasslaw11.SizeEnds': WHATEVER THE INPUT: true; the input reads as it did. -/
def sizeEndsSpec : ChangeSpec := { name := "sizeEnds", fn := fun _ => fun
  | [] => { results := [.lit (.bool true)], args := [] }
  | _ => none }
def sizeEndsRow : OpenClaim := { program := "ytpjmiafefammkaa", sum := "5003093af49dcf461825768f8996bbcfa016461ee4959c319ef46288380de9b7", func := "hourglass/hourglasslaw11.SizeEnds", spec := "sizeEnds", unfollowed := true, recurses := true, apart := false }
def SizeEndsSaid : Prop := sizeEndsRow.holds Try.pinned (OpenSpec.ofChange sizeEndsSpec)

/-- ITS FALSE NEIGHBOUR: 'it returns false'. Refute it at one input. -/
def sizeEndsWrong : ChangeSpec := { name := "sizeEnds", fn := fun _ => fun
  | [] => { results := [.lit (.bool false)], args := [] }
  | _ => none }
def SizeEndsWrongFalsely : Prop := sizeEndsRow.holds Try.pinned (OpenSpec.ofChange sizeEndsWrong)

/-- 'hourglasslaw11.SizeGreatest': WHATEVER THE INPUT: true; the input reads as it did. -/
def sizeGreatestSpec : ChangeSpec := { name := "sizeGreatest", fn := fun _ => fun
  | [d1, d2, d3] => { results := [.lit (.bool true)], args := [d1, d2, d3] }
  | _ => none }
def sizeGreatestRow : OpenClaim := { program := "ytpjmiafefammkaa", sum := "5003093af49dcf461825768f8996bbcfa016461ee4959c319ef46288380de9b7", func := "hourglass/hourglasslaw11.SizeGreatest", spec := "sizeGreatest", unfollowed := true, recurses := true, apart := false }
def SizeGreatestSaid : Prop := sizeGreatestRow.holds Try.pinned (OpenSpec.ofChange sizeGreatestSpec)

/-- ITS FALSE NEIGHBOUR: 'it returns false'. Refute it at one input. -/
def sizeGreatestWrong : ChangeSpec := { name := "sizeGreatest", fn := fun _ => fun
  | [d1, d2, d3] => { results := [.lit (.bool false)], args := [d1, d2, d3] }
  | _ => none }
def SizeGreatestWrongFalsely : Prop := sizeGreatestRow.holds Try.pinned (OpenSpec.ofChange sizeGreatestWrong)

/- THE SECOND FORM. 'bulk': how many values and letters a reading holds, each counted each time it is reached (what is shared counts as often as it is met; a slice's spare places count too). A statement '..UptoSaid' is the law's where the arguments, and the package variables that the reading takes, are together of bulk at most 1048576: NARROWER than '..Said'. Prove '..Said' where nothing that the law and all that it calls make is longer than what came in: it says more and counts as full. Else prove '..UptoSaid'. A law counts once. -/
mutual
def uptoBulk {H : Type} : DataW H → Nat
  | .lit (.string bytes) => bytes.length + 1
  | .lit _ => 1
  | .nil => 1
  | .ptr d => uptoBulk d + 1
  | .slice elems spare => uptoBulkAll elems + uptoBulkAll spare + 1
  | .agg parts => uptoBulkAll parts + 1
  | .iface _ d => uptoBulk d + 1
  | .map entries => uptoBulkEntries entries + 1
  | .held _ => 1
def uptoBulkAll {H : Type} : List (DataW H) → Nat
  | [] => 0
  | d :: r => uptoBulk d + uptoBulkAll r
def uptoBulkEntries {H : Type} : List (Lit × DataW H) → Nat
  | [] => 0
  | x :: r => uptoBulkEntry x + uptoBulkEntries r
def uptoBulkEntry {H : Type} : Lit × DataW H → Nat
  | (.string bytes, d) => bytes.length + uptoBulk d + 1
  | (_, d) => uptoBulk d + 1
 end
def uptoSmall : (H : Type) → List (DataW H) → Bool := fun _ ds => decide (uptoBulkAll ds ≤ 1048576)
def OpenSpec.upto (s : _root_.Go.ChangeSpec) : _root_.Go.OpenSpec := { _root_.Go.OpenSpec.ofChange s with cond := some uptoSmall }

/-- 'hourglasslaw24.GuessHears', WHERE WHAT IT READS IS OF BULK AT MOST 1048576: true; the input reads as it did. -/
def guessHearsUptoRow : OpenClaim := { program := "ytpjmiafefammkaa", sum := "5003093af49dcf461825768f8996bbcfa016461ee4959c319ef46288380de9b7", func := "hourglass/hourglasslaw24.GuessHears", spec := "guessHears", unfollowed := true, recurses := true, apart := false, narrowed := true }
def GuessHearsUptoSaid : Prop := guessHearsUptoRow.holds Try.pinned (OpenSpec.upto guessHearsSpec)

/-- 'hourglasslaw24.GuessSmall', WHERE WHAT IT READS IS OF BULK AT MOST 1048576: true; the input reads as it did. -/
def guessSmallUptoRow : OpenClaim := { program := "ytpjmiafefammkaa", sum := "5003093af49dcf461825768f8996bbcfa016461ee4959c319ef46288380de9b7", func := "hourglass/hourglasslaw24.GuessSmall", spec := "guessSmall", unfollowed := true, recurses := true, apart := false, narrowed := true }
def GuessSmallUptoSaid : Prop := guessSmallUptoRow.holds Try.pinned (OpenSpec.upto guessSmallSpec)

/-- 'hourglasslaw24.GuessFolds', WHERE WHAT IT READS IS OF BULK AT MOST 1048576: true; the input reads as it did. -/
def guessFoldsUptoRow : OpenClaim := { program := "ytpjmiafefammkaa", sum := "5003093af49dcf461825768f8996bbcfa016461ee4959c319ef46288380de9b7", func := "hourglass/hourglasslaw24.GuessFolds", spec := "guessFolds", unfollowed := true, recurses := true, apart := false, narrowed := true }
def GuessFoldsUptoSaid : Prop := guessFoldsUptoRow.holds Try.pinned (OpenSpec.upto guessFoldsSpec)

/-- 'hourglasslaw24.GuessTends', WHERE WHAT IT READS IS OF BULK AT MOST 1048576: true; the input reads as it did. -/
def guessTendsUptoRow : OpenClaim := { program := "ytpjmiafefammkaa", sum := "5003093af49dcf461825768f8996bbcfa016461ee4959c319ef46288380de9b7", func := "hourglass/hourglasslaw24.GuessTends", spec := "guessTends", unfollowed := true, recurses := true, apart := false, narrowed := true }
def GuessTendsUptoSaid : Prop := guessTendsUptoRow.holds Try.pinned (OpenSpec.upto guessTendsSpec)

/-- 'hourglasslaw25.HopeLess', WHERE WHAT IT READS IS OF BULK AT MOST 1048576: true; the input reads as it did. -/
def hopeLessUptoRow : OpenClaim := { program := "ytpjmiafefammkaa", sum := "5003093af49dcf461825768f8996bbcfa016461ee4959c319ef46288380de9b7", func := "hourglass/hourglasslaw25.HopeLess", spec := "hopeLess", unfollowed := true, recurses := true, apart := false, narrowed := true }
def HopeLessUptoSaid : Prop := hopeLessUptoRow.holds Try.pinned (OpenSpec.upto hopeLessSpec)

/-- 'hourglasslaw25.HopeTells', WHERE WHAT IT READS IS OF BULK AT MOST 1048576: true; the input reads as it did. -/
def hopeTellsUptoRow : OpenClaim := { program := "ytpjmiafefammkaa", sum := "5003093af49dcf461825768f8996bbcfa016461ee4959c319ef46288380de9b7", func := "hourglass/hourglasslaw25.HopeTells", spec := "hopeTells", unfollowed := true, recurses := true, apart := false, narrowed := true }
def HopeTellsUptoSaid : Prop := hopeTellsUptoRow.holds Try.pinned (OpenSpec.upto hopeTellsSpec)

/-- 'hourglasslaw25.HopeMeans', WHERE WHAT IT READS IS OF BULK AT MOST 1048576: true; the input reads as it did. -/
def hopeMeansUptoRow : OpenClaim := { program := "ytpjmiafefammkaa", sum := "5003093af49dcf461825768f8996bbcfa016461ee4959c319ef46288380de9b7", func := "hourglass/hourglasslaw25.HopeMeans", spec := "hopeMeans", unfollowed := true, recurses := true, apart := false, narrowed := true }
def HopeMeansUptoSaid : Prop := hopeMeansUptoRow.holds Try.pinned (OpenSpec.upto hopeMeansSpec)

/-- 'hourglasslaw25.HopeSmall', WHERE WHAT IT READS IS OF BULK AT MOST 1048576: true; the input reads as it did. -/
def hopeSmallUptoRow : OpenClaim := { program := "ytpjmiafefammkaa", sum := "5003093af49dcf461825768f8996bbcfa016461ee4959c319ef46288380de9b7", func := "hourglass/hourglasslaw25.HopeSmall", spec := "hopeSmall", unfollowed := true, recurses := true, apart := false, narrowed := true }
def HopeSmallUptoSaid : Prop := hopeSmallUptoRow.holds Try.pinned (OpenSpec.upto hopeSmallSpec)

/-- 'hourglasslaw25.HopeHears', WHERE WHAT IT READS IS OF BULK AT MOST 1048576: true; the input reads as it did. -/
def hopeHearsUptoRow : OpenClaim := { program := "ytpjmiafefammkaa", sum := "5003093af49dcf461825768f8996bbcfa016461ee4959c319ef46288380de9b7", func := "hourglass/hourglasslaw25.HopeHears", spec := "hopeHears", unfollowed := true, recurses := true, apart := false, narrowed := true }
def HopeHearsUptoSaid : Prop := hopeHearsUptoRow.holds Try.pinned (OpenSpec.upto hopeHearsSpec)

/-- 'hourglasslaw11.SizeEnds', WHERE WHAT IT READS IS OF BULK AT MOST 1048576: true; the input reads as it did. -/
def sizeEndsUptoRow : OpenClaim := { program := "ytpjmiafefammkaa", sum := "5003093af49dcf461825768f8996bbcfa016461ee4959c319ef46288380de9b7", func := "hourglass/hourglasslaw11.SizeEnds", spec := "sizeEnds", unfollowed := true, recurses := true, apart := false, narrowed := true }
def SizeEndsUptoSaid : Prop := sizeEndsUptoRow.holds Try.pinned (OpenSpec.upto sizeEndsSpec)

/-- 'hourglasslaw11.SizeGreatest', WHERE WHAT IT READS IS OF BULK AT MOST 1048576: true; the input reads as it did. -/
def sizeGreatestUptoRow : OpenClaim := { program := "ytpjmiafefammkaa", sum := "5003093af49dcf461825768f8996bbcfa016461ee4959c319ef46288380de9b7", func := "hourglass/hourglasslaw11.SizeGreatest", spec := "sizeGreatest", unfollowed := true, recurses := true, apart := false, narrowed := true }
def SizeGreatestUptoSaid : Prop := sizeGreatestUptoRow.holds Try.pinned (OpenSpec.upto sizeGreatestSpec)

end Rows
end Go.Proofs.Ytpjmiafefammkaa
