import Derived.Test.YteagflekbbchhaaRowOpenA
import Derived.Test.YteagflekbbchhaaSfO
import Derived.Deep.Slices
set_option maxRecDepth 100000
namespace Go.Proofs.Yteagflekbbchhaa
open Go.Joins Go.ChangeShapes Go.WideShapes Go.ChangeAt Go.RowKit Go.Deep Go.Proofs
instance : Inhabited Dl := ⟨Dl.z⟩
end Go.Proofs.Yteagflekbbchhaa
