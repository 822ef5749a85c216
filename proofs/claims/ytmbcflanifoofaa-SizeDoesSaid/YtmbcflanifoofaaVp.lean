/- What the rules want of the program. -/
import Derived.Test.YtmbcflanifoofaaProg
import Derived.Test.YtmbcflanifoofaaV3
namespace Go.Proofs.Ytmbcflanifoofaa
theorem mixed : Try.prog.follows .mixedOrders = true := by kernel_rfl
end Go.Proofs.Ytmbcflanifoofaa
