import Derived.Test.YteagflekbbchhaaSfM
set_option maxRecDepth 100000
namespace Go.Proofs.Yteagflekbbchhaa
open Go.RowKit Go.Proofs
theorem SrcI.of_row {H : List (Option Blk)} {ao : Option Addr} {E : TypeId} {n m cap k : Nat} {G : Int → Int} {c : Option Blk} (h : IRow (.slice ao m cap) E n (fun i => iv (G i)) c) (hk : H[k]? = some c) : SrcI H ao n G := fun _ _ _ hO => h.reads hO k hk
end Go.Proofs.Yteagflekbbchhaa
