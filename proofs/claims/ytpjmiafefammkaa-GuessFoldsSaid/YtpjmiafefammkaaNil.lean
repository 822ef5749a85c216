/- A pointer held against nil. No program in sight. -/
import Derived.Test.YtpjmiafefammkaaM
namespace Go.Proofs.Ytpjmiafefammkaa
open Go.RowKit
set_option linter.unusedVariables false
section
variable {P : Program} {n : Cx} {fr : Fr} {w w' : World} {ty : TypeId} {x y z : Operand} {v u : Value} {T T2 e : TypeId} {op : Op}
theorem os_eqlnil {A : Option Addr} (hT : P.underlying T = some (.pointer (P.pointee T))) (hx : Fr.ev fr x = some (.pointer A)) (hy : Fr.ev fr y = some (.pointer none)) : OS P n (.binOp .eql T x y T2) ty fr w (.bool A.isNone) w := os_of fun a ha => by
  simp [execOp, ha.ev hx, ha.ev hy, eqGuard, run_eql_pointer_nil w T A hT]
theorem os_neqnil {A : Option Addr} (hT : P.underlying T = some (.pointer (P.pointee T))) (hx : Fr.ev fr x = some (.pointer A)) (hy : Fr.ev fr y = some (.pointer none)) : OS P n (.binOp .neq T x y T2) ty fr w (.bool (!A.isNone)) w := os_of fun a ha => by
  simp [execOp, ha.ev hx, ha.ev hy, eqGuard, run_neq_pointer_nil w T A hT]

end
end Go.Proofs.Ytpjmiafefammkaa
