import Derived.Test.YteagflekbbchhaaEff
namespace Go.Proofs.Yteagflekbbchhaa
open Go.RowKit
theorem IAt.below {B : Nat} {w w' : World} {ao : Option Addr} {n : Nat} {G : Int → Value} (h : IAt B w ao n G) (hb : Below B w w') : IAt B w' ao n G := RAt.below h hb
theorem IAt.nil (B : Nat) (w : World) (ao : Option Addr) (G : Int → Value) : IAt B w ao 0 G := RAt.nil _ _ _ _
theorem IAt.take {B : Nat} {w : World} {ao : Option Addr} {n m : Nat} {G : Int → Value} (h : IAt B w ao n G) (hm : m ≤ n) : IAt B w ao m G := RAt.take h hm
end Go.Proofs.Yteagflekbbchhaa
