import Derived.Test.YtfbbagnpdfafjaaMaps
import Derived.Test.YtfbbagnpdfafjaaRul
set_option maxRecDepth 100000
namespace Go.Proofs.Ytfbbagnpdfafjaa
open Go.RowKit Go.Proofs
end Go.Proofs.Ytfbbagnpdfafjaa
