/- Rows of the table of types. -/
import Derived.Test.YtpcfifheegfjiaaVp
import Derived.Test.YtpcfifheegfjiaaM
import Derived.Test.YtpcfifheegfjiaaN
namespace Go.Proofs.Ytpcfifheegfjiaa
theorem ti_int : TyInfo Try.prog 3 (.int .i64 0) 1 8 := by unfold TyInfo; kernel_rfl
theorem ti_u8 : TyInfo Try.prog 5 (.int .u8 0) 1 1 := by unfold TyInfo; kernel_rfl
end Go.Proofs.Ytpcfifheegfjiaa
