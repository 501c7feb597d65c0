import Derived.Test.YteagflekbbchhaaEff
namespace Go.Proofs.Yteagflekbbchhaa
open Go.RowKit
theorem IAt.nil (B : Nat) (w : World) (ao : Option Addr) (G : Int → Value) : IAt B w ao 0 G := RAt.nil _ _ _ _
end Go.Proofs.Yteagflekbbchhaa
