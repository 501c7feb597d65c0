import Derived.Test.YtfbbagnpdfafjaaHaQ
import Derived.Test.YtfbbagnpdfafjaaPrw
set_option maxRecDepth 100000
namespace Go.Proofs.Ytfbbagnpdfafjaa
open Go.RowKit Go.Proofs
def HM.hasS (X : HM) (s : Int) : Prop := 0 ≤ s ∧ s < X.k
instance (X : HM) (s : Int) : Decidable (X.hasS s) := by unfold HM.hasS; exact inferInstance
end Go.Proofs.Ytfbbagnpdfafjaa
