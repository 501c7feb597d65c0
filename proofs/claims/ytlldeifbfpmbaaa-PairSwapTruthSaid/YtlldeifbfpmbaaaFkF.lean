import Derived.Test.YtlldeifbfpmbaaaFgD
set_option maxRecDepth 100000
namespace Go.Proofs.Ytlldeifbfpmbaaa
open Go.RowKit Go.Proofs Go.MapKept
theorem rown_mem {H : List (Option Blk)} {ao : Option Addr} {m cap n : Nat} {T1 T2 : TypeId} {vv : Int → Value} {L : Int → Nat} {F : Int → Int → Int} {c : Option Blk} (hc : c ∈ H) (h2 : IRow (.slice ao m cap) T1 n vv c)
  (h3 : ∀ r : Nat, r < n → ∃ x ∈ H, IRow (vv r) T2 (L r) (fun c => iv (F r c)) x) : ROwn H ao n L F := by
 obtain ⟨k, hk⟩ := List.mem_iff_getElem?.1 hc
 refine rown_of (T1 := T1) (T2 := T2) k hk h2 fun r r0 r1 => ?_
 obtain ⟨q, rfl⟩ := Int.eq_ofNat_of_zero_le r0
 obtain ⟨x, hx, hr⟩ := h3 q (by omega)
 obtain ⟨j, hj⟩ := List.mem_iff_getElem?.1 hx
 exact ⟨j, x, hj, hr⟩
end Go.Proofs.Ytlldeifbfpmbaaa
set_option maxRecDepth 100000
namespace Go.Proofs.Ytlldeifbfpmbaaa
open Go.RowKit Go.Proofs Go.MapKept
theorem OTab.rown {ao : Option Addr} {m cap n : Nat} {T1 T2 : TypeId} {L : Int → Nat} {F : Int → Int → Int} {H : List (Option Blk)} (h : OTab (.slice ao m cap) T1 T2 n L (fun r c => iv (F r c)) H) : ROwn H ao n L F := by
 obtain ⟨c, rv, ch, rfl, h2, h3⟩ := h
 exact rown_mem (T1 := T1) (T2 := T2) (.head _) h2 fun r hr => ⟨ch r, .tail _ (List.mem_map.2 ⟨r, List.mem_range.2 hr, rfl⟩), h3 r hr⟩
end Go.Proofs.Ytlldeifbfpmbaaa
