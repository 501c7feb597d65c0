import Derived.Test.YteagflekbbchhaaSfH
import Derived.Test.YteagflekbbchhaaSfE
set_option maxRecDepth 100000
namespace Go.Proofs.Yteagflekbbchhaa
open Go.RowKit Go.Proofs
end Go.Proofs.Yteagflekbbchhaa
