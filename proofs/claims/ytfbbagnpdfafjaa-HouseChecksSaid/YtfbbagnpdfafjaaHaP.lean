import Derived.Test.YtfbbagnpdfafjaaShrA
import Derived.Test.YtfbbagnpdfafjaaHaJ
set_option maxRecDepth 100000
namespace Go.Proofs.Ytfbbagnpdfafjaa
open Go.RowKit Go.Proofs
structure HZ (X : HM) : Prop where
 zero : ∀ m : Int, 0 ≤ m → m < 12 → sm (fun j => (X.ac j).pos m) X.mem = 0
 out : ∀ j : Int, 0 ≤ j → j < X.mem → (X.ac j).out = true → ∀ m : Int, 0 ≤ m → m < 12 → (X.ac j).pos m = 0
 oc : ∀ j : Int, 0 ≤ j → j < X.mem → (X.ac j).out = true → 0 ≤ (X.ac j).cash
end Go.Proofs.Ytfbbagnpdfafjaa
set_option maxRecDepth 100000
namespace Go.Proofs.Ytfbbagnpdfafjaa
open Go.RowKit Go.Proofs
noncomputable section
end
def lossV (l : List Int) : List Value := l.map iv
theorem Own.sink {B : Nat} {w0 w : World} {x a b : Option Blk} {N R : List (Option Blk)} (h : Own B w0 w (x :: a :: b :: (N ++ R))) : Own B w0 w (a :: b :: (N ++ (x :: R))) := h.perm (perm3.trans (.cons _ (.cons _ List.perm_middle.symm)))
end Go.Proofs.Ytfbbagnpdfafjaa
