import Derived.Test.YtbepolognfdkeaaGcF
set_option maxRecDepth 100000
namespace Go.Proofs.Ytbepolognfdkeaa
open Go.RowKit Go.Proofs Go.MapKept
theorem Lds.own_short (l : Lds) (most : Nat) : (l.own most true).Short := fun _ _ _ => rfl
end Go.Proofs.Ytbepolognfdkeaa
