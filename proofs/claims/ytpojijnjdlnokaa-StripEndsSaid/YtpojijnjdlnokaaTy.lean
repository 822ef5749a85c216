/- Rows of the table of types. -/
import Derived.Test.YtpojijnjdlnokaaVp
import Derived.Test.YtpojijnjdlnokaaM
import Derived.Test.YtpojijnjdlnokaaN
namespace Go.Proofs.Ytpojijnjdlnokaa
theorem ti_int : TyInfo Try.prog 3 (.int .i64 0) 1 8 := by unfold TyInfo; kernel_rfl
theorem ti_u8 : TyInfo Try.prog 5 (.int .u8 0) 1 1 := by unfold TyInfo; kernel_rfl
end Go.Proofs.Ytpojijnjdlnokaa
