/- What the rules want of the program. -/
import Derived.Test.YtpcfifheegfjiaaProg
import Derived.Test.YtpcfifheegfjiaaV3
namespace Go.Proofs.Ytpcfifheegfjiaa
theorem mixed : Try.prog.follows .mixedOrders = true := by kernel_rfl
end Go.Proofs.Ytpcfifheegfjiaa
