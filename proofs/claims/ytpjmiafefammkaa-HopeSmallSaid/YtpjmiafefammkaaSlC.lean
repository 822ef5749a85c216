/- slices.Clone of bytes. -/
import Derived.Test.YtpjmiafefammkaaTy
import Derived.Test.YtpjmiafefammkaaV4
import Derived.Lib.SliceRun
namespace Go.Proofs.Ytpjmiafefammkaa
open Go.RowKit
set_option linter.unusedVariables false

section
variable {P : Program} {n : Cx} {fr : Fr} {w w' : World} {ty : TypeId} {x y z : Operand} {v u : Value} {T T2 e : TypeId} {op : Op}
theorem os_eqlsnil {A : Option Addr} {l c : Nat} (hT : P.underlying T = some (.slice e)) (hx : Fr.ev fr x = some (.slice A l c)) (hy : Fr.ev fr y = some (.slice none 0 0)) : OS P n (.binOp .eql T x y T2) ty fr w (.bool A.isNone) w := os_of fun a ha => by
  simp [execOp, ha.ev hx, ha.ev hy, eqGuard, Lib.run_eql_slice_nil w T e A l c 0 0 hT]
end

end Go.Proofs.Ytpjmiafefammkaa
