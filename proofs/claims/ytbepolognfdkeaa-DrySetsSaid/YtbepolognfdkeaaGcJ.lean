import Derived.Test.YtbepolognfdkeaaGcF
import Derived.Test.YtbepolognfdkeaaInv
set_option maxRecDepth 100000
namespace Go.Proofs.Ytbepolognfdkeaa
open Go.RowKit Go.Proofs Go.MapKept
theorem Lds.own_short (l : Lds) (most : Nat) : (l.own most true).Short := fun _ _ _ => rfl
end Go.Proofs.Ytbepolognfdkeaa
set_option maxRecDepth 100000
namespace Go.Proofs.Ytbepolognfdkeaa
open Go.RowKit Go.Proofs Go.MapKept
theorem grd_rng {l : Lds} {k : Int} {Z : Int → Int} (hZ : SrtW l Z) {i : Int} (h : grd l k Z l.n i) : 0 ≤ i ∧ i < l.n := by
 obtain ⟨q, hq, e⟩ := grd_in h
 rw [← e]; exact hZ.rng hq.1 hq.2
theorem Lds.best_ok {l : Lds} {k : Int} (hk : l.chkK k = 0) (hs : l.Short) : l.bestE k = 0 := by unfold Lds.bestE; rw [if_pos hk, if_pos hs]
end Go.Proofs.Ytbepolognfdkeaa
