import Derived.Test.YtfbbagnpdfafjaaShrC
import Derived.Test.YtfbbagnpdfafjaaHcH
set_option maxRecDepth 100000
namespace Go.Proofs.Ytfbbagnpdfafjaa
open Go.RowKit Go.Proofs
theorem Own.intoT {B : Nat} {w0 w : World} {x a b c : Option Blk} {M T : List (Option Blk)} (h : Own B w0 w (x :: a :: b :: c :: (M ++ T))) : Own B w0 w (a :: b :: c :: (M ++ (x :: T))) := h.perm (List.perm_middle (a := x) (l₁ := a :: b :: c :: M) (l₂ := T)).symm
end Go.Proofs.Ytfbbagnpdfafjaa
