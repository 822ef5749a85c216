/- What the rules want of the program. -/
import Derived.Test.YtpojijnjdlnokaaProg
import Derived.Test.YtpojijnjdlnokaaV3
namespace Go.Proofs.Ytpojijnjdlnokaa
theorem mixed : Try.prog.follows .mixedOrders = true := by kernel_rfl
end Go.Proofs.Ytpojijnjdlnokaa
