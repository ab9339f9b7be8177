/- Whether one of some filters lets an identifier through. -/
import Derived.Test.YtdpoimomipdgjaaDoorRPrint
namespace Go.Proofs.YtdpoimomipdgjaaDoor.X
open Go Go.RX Go.RowKit Go.Proofs
set_option linter.unusedVariables false
set_option linter.unusedSimpArgs false
def anyB (e : Bool) (n : Int) (l : List Filter) : Bool := l.any fun f => matchB f.ext f.code f.mask e n
-- not reached here: omnibus/ident.Any
end Go.Proofs.YtdpoimomipdgjaaDoor.X
