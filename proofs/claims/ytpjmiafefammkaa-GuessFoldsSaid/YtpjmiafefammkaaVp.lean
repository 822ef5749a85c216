/- What the rules want of the program. -/
import Derived.Test.YtpjmiafefammkaaProg
import Derived.Test.YtpjmiafefammkaaV3
namespace Go.Proofs.Ytpjmiafefammkaa
theorem mixed : Try.prog.follows .mixedOrders = true := by kernel_rfl
end Go.Proofs.Ytpjmiafefammkaa
