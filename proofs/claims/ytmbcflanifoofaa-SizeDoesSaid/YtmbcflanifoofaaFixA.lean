/- Layer 23: the contracts of the program's functions on numbers, and of the document's. -/
import Derived.Test.YtmbcflanifoofaaProg
import Derived.Test.YtmbcflanifoofaaFixP
import Derived.Test.YtmbcflanifoofaaFin
namespace Go.Proofs.Ytmbcflanifoofaa
open Go.RowKit

end Go.Proofs.Ytmbcflanifoofaa
